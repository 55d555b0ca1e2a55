/- Levels flattened: the function. -/
import Derived.Test.YtfgndomaadikoaaLvD
import Derived.Test.YtfgndomaadikoaaAb19
set_option linter.unusedVariables false
set_option linter.unusedSimpArgs false
namespace Go.Ab.Ytfgndomaadikoaa
open Go Go.RowKit Go.Ab Go.Proofs

theorem tz70_LvE : TZ Try.prog 70 [(.int .i64 0), (.int .i64 0), (.int .i64 0), (.int .i64 0), (.int .i64 0)] := ⟨⟨.agg #[(.int .i64 0), (.int .i64 0), (.int .i64 0), (.int .i64 0), (.int .i64 0)], by kernel_rfl, rfl⟩, by kernel_rfl⟩
theorem fb64_LvE : FB Try.prog 64 := ⟨_, Try.func64, rfl, by kernel_rfl⟩
theorem ti70_LvE : TI Try.prog 70 5 true := ⟨by kernel_rfl, by kernel_rfl⟩
theorem hmo_LvE : Try.prog.follows .mixedOrders = true := by kernel_rfl
theorem fi39_0_LvE : FI Try.prog 39 0 0 := ⟨_, _, 0, Try.underlying39, rfl, rfl, by kernel_rfl⟩
theorem ti3_LvE : TI Try.prog 3 1 false := ⟨by kernel_rfl, by kernel_rfl⟩
theorem fb53_LvE : FB Try.prog 53 := ⟨_, Try.func53, rfl, by kernel_rfl⟩
theorem fi39_2_LvE : FI Try.prog 39 2 2 := ⟨_, _, 0, Try.underlying39, rfl, rfl, by kernel_rfl⟩
theorem ti24_LvE : TI Try.prog 24 1 false := ⟨by kernel_rfl, by kernel_rfl⟩
theorem si24_LvE : SI Try.prog 24 39 := ⟨Try.underlying24⟩
theorem ti39_LvE : TI Try.prog 39 3 true := ⟨by kernel_rfl, by kernel_rfl⟩
theorem fb55_LvE : FB Try.prog 55 := ⟨_, Try.func55, rfl, by kernel_rfl⟩
theorem fi70_0_LvE : FI Try.prog 70 0 0 := ⟨_, _, 0, Try.underlying70, rfl, rfl, by kernel_rfl⟩
theorem fi70_1_LvE : FI Try.prog 70 1 1 := ⟨_, _, 3, Try.underlying70, rfl, rfl, by kernel_rfl⟩
theorem ai52_LvE : AI Try.prog 52 4 3 := ⟨Try.underlying52⟩
theorem fb65_LvE : FB Try.prog 65 := ⟨_, Try.func65, rfl, by kernel_rfl⟩
theorem fi39_1_LvE : FI Try.prog 39 1 1 := ⟨_, _, 0, Try.underlying39, rfl, rfl, by kernel_rfl⟩

def up (p : Int) : Int := if p ≥ 0 then p + 1 else p
def succF (f : Flat) : Flat := ⟨f.b + 1, up f.p0, up f.p1, up f.p2, up f.p3⟩
def maxF (f g : Flat) : Flat := ⟨max f.b g.b, max f.p0 g.p0, max f.p1 g.p1, max f.p2 g.p2, max f.p3 g.p3⟩
def setF (n : Int) : Flat := ⟨0, if n = 0 then 0 else -1, if n = 1 then 0 else -1, if n = 2 then 0 else -1, if n = 3 then 0 else -1⟩
def bitF (z n : Int) : Int := z / 2 ^ n.toNat % 2
def flK (z k n : Int) (fs : List Flat) : Flat :=
  if k = 1 then succF (fs.getD 0 flat0) else if k = 2 then maxF (fs.getD 0 flat0) (fs.getD 1 flat0) else if k = 3 then (if fs.getD 1 flat0 = flat0 then flat0 else maxF (fs.getD 0 flat0) (fs.getD 1 flat0))
  else if k = 4 then (if 0 ≤ n ∧ n < 4 ∧ bitF z n = 0 then setF n else flat0) else flat0
mutual
def flatF (z : Int) : Lvl → Flat
  | ⟨k, n, l⟩ => flK z k n (flatFs z l)
def flatFs (z : Int) : List Lvl → List Flat
  | [] => []
  | a :: r => flatF z a :: flatFs z r
end
theorem flatF_eq (z : Int) (t : Lvl) : flatF z t = flK z t.kind t.n (flatFs z t.args) := by cases t; rfl

def Flat.ok (f : Flat) (m : Int) : Prop := (0 ≤ f.b ∧ f.b ≤ m) ∧ (-1 ≤ f.p0 ∧ f.p0 ≤ m) ∧ (-1 ≤ f.p1 ∧ f.p1 ≤ m) ∧ (-1 ≤ f.p2 ∧ f.p2 ≤ m) ∧ (-1 ≤ f.p3 ∧ f.p3 ≤ m)
theorem flat0_ok {m : Int} (h : 0 ≤ m) : flat0.ok m := by simp only [Flat.ok, flat0]; omega
theorem succF_ok {f : Flat} {m : Int} (h : f.ok m) : (succF f).ok (m + 1) := by
  simp only [Flat.ok, succF, up] at *
  refine ⟨by omega, ?_, ?_, ?_, ?_⟩ <;> (split <;> omega)
theorem maxF_ok {f g : Flat} {m : Int} (h : f.ok m) (k : g.ok m) : (maxF f g).ok m := by simp only [Flat.ok, maxF] at *; omega
theorem setF_ok {n m : Int} (h : 0 ≤ m) : (setF n).ok m := by
  simp only [Flat.ok, setF]
  refine ⟨by omega, ?_, ?_, ?_, ?_⟩ <;> (split <;> omega)
theorem Flat.ok_mono {f : Flat} {m m' : Int} (h : f.ok m) (hm : m ≤ m') : f.ok m' := by simp only [Flat.ok] at *; omega
mutual
theorem flatF_ok (z : Int) : ∀ t : Lvl, (flatF z t).ok (deepL t)
  | ⟨k, n, l⟩ => by
    simp only [flatF, deepL]
    have h0 := flatFs_ok z l 0
    have h1 := flatFs_ok z l 1
    have hd := deepLs_pos l
    unfold flK
    split
    · have := succF_ok h0; rw [Int.add_comm]; exact this
    · split
      · exact Flat.ok_mono (maxF_ok h0 h1) (by omega)
      · split
        · split
          · exact flat0_ok (by omega)
          · exact Flat.ok_mono (maxF_ok h0 h1) (by omega)
        · split
          · split
            · exact setF_ok (by omega)
            · exact flat0_ok (by omega)
          · exact flat0_ok (by omega)
theorem flatFs_ok (z : Int) : ∀ (l : List Lvl) (i : Nat), ((flatFs z l).getD i flat0).ok (deepLs l)
  | [], i => by simp [flatFs, deepLs]; exact flat0_ok (by omega)
  | a :: r, 0 => by simp only [flatFs, deepLs, List.getD_cons_zero]; exact Flat.ok_mono (flatF_ok z a) (by omega)
  | a :: r, i + 1 => by simp only [flatFs, deepLs, List.getD_cons_succ]; exact Flat.ok_mono (flatFs_ok z r i) (by omega)
end
theorem fl_eq {f g : Flat} (h : f = g) : fl f = fl g := by rw [h]
theorem bitF_bd {z n : Int} (hz : 0 ≤ z ∧ z < 16) : 0 ≤ z / 2 ^ n.toNat ∧ z / 2 ^ n.toNat < 9223372036854775808 := by
  have hp : (0 : Int) < 2 ^ n.toNat := Int.pow_pos (by decide)
  refine ⟨Int.ediv_nonneg hz.1 (by omega), ?_⟩
  have := Int.ediv_le_self (2 ^ n.toNat) hz.1
  omega

theorem flatten_con (ps : Int) (hps : ps ≤ 4) (z : Int) (hz : 0 ≤ z ∧ z < 16) (t : Lvl) : wfL t ps = true → deepL t ≤ 1000000 →
    PCon Try.prog 55 [lv t, .p (I z)] (fl (flatF z t)) := by
  intro hw hdp
  have ih : ∀ a ∈ t.args, wfL a ps = true → deepL a ≤ 1000000 → PCon Try.prog 55 [lv a, .p (I z)] (fl (flatF z a)) :=
    fun a ha h0 h1 => flatten_con ps hps z hz a h0 h1
  have he := flatF_eq z t
  have hh := (wf_here hw).1
  have hlen := encLs_len t.args
  refine con_of Try.func55 rfl 118 Try.ntmps55 rfl fun cx hcx => ?_
  refine awp_seq ?_
  refine awp_region ?_
  refine awl_box rfl rfl rfl rfl rfl (by rw [hcx]; rfl) rfl ?_
  refine x_alloc tz70_LvE rfl rfl (by rw [hcx]; rfl) rfl ?_
  refine awl_nil ?_
  change AWp _ _ _ _ _ _
  refine awp_seq ?_
  refine awp_region ?_
  refine awl_pcall fb64_LvE rfl (nothing_con) .nil rfl ?_
  refine x_alloc tz70_LvE rfl rfl (by rw [hcx]; rfl) rfl ?_
  refine x_store ti70_LvE rfl rfl rfl rfl rfl rfl rfl rfl ?_
  refine awl_nil ?_
  change AWp _ _ _ _ _ _
  refine awp_seq ?_
  refine awp_seq ?_
  refine awp_draw0 hmo_LvE (by kernel_rfl) ?_
  refine awd_q [(2, _)] (.cons rfl (.nil)) rfl rfl rfl ?_
  apply Exists.intro
  refine ⟨fun regs' => ?_, ?_⟩
  · skip
    first | refine awl_fieldAddr fi39_0_LvE rfl rfl ?_ | refine awl_fieldAddr_i fi39_0_LvE rfl rfl rfl ?_
    exact awl_done rfl
  refine awd_q [(11, _)] (.cons rfl (.nil)) rfl rfl rfl ?_
  apply Exists.intro
  refine ⟨fun regs' => ?_, ?_⟩
  · skip
    first | refine awl_load_one ti3_LvE rfl rfl rfl rfl ?_ | refine awl_load_ione ti3_LvE rfl rfl rfl ?_
    exact awl_done rfl
  refine awd_q [(12, _)] (.cons rfl (.nil)) rfl rfl rfl ?_
  apply Exists.intro
  refine ⟨fun regs' => ?_, ?_⟩
  · skip
    refine awl_pcall fb53_LvE rfl (args_con t.kind) (.cons (by first | exact Sub.refl _ | exact Sub.ts | exact Sub.nil | exact Sub.agc (by repeat (first | exact .nil | refine .cons (by first | exact Sub.refl _ | exact Sub.nil) ?_))) .nil) rfl ?_
    exact awl_done rfl
  refine awd_q [(2, _)] (.cons rfl (.nil)) rfl rfl rfl ?_
  apply Exists.intro
  refine ⟨fun regs' => ?_, ?_⟩
  · skip
    first | refine awl_fieldAddr fi39_2_LvE rfl rfl ?_ | refine awl_fieldAddr_i fi39_2_LvE rfl rfl rfl ?_
    exact awl_done rfl
  refine awd_q [(14, _)] (.cons rfl (.nil)) rfl rfl rfl ?_
  apply Exists.intro
  refine ⟨fun regs' => ?_, ?_⟩
  · skip
    first | refine awl_load_one ti24_LvE rfl rfl rfl rfl ?_ | refine awl_load_ione ti24_LvE rfl rfl rfl ?_
    exact awl_done rfl
  refine awd_q [(15, _)] (.cons rfl (.nil)) rfl rfl rfl ?_
  apply Exists.intro
  refine ⟨fun regs' => ?_, ?_⟩
  · skip
    refine x_len si24_LvE rfl rfl rfl (fun hlen10 => ?_)
    exact awl_done rfl
  refine awd_q [(13, _), (16, _)] (.cons rfl (.cons rfl (.nil))) rfl rfl rfl ?_
  apply Exists.intro
  refine ⟨fun regs' => ?_, ?_⟩
  · skip
    refine awl_bin rfl rfl rfl rfl bin_gtr ?_
    exact awl_done rfl
  refine awd_nil ?_
  change AWp _ _ _ _ _ _
  first | refine awp_cond_p rfl (fun hg => ?_) (fun hg => ?_) | refine awp_cond rfl (fun hg => ?_) (fun hg => ?_)
  · skip
    exfalso; omega
  · skip
    refine awp_skip ?_
    change AWp _ _ _ _ _ _
    refine awp_seq ?_
    refine awp_seq ?_
    refine awp_region ?_
    first | refine awl_fieldAddr fi39_0_LvE rfl rfl ?_ | refine awl_fieldAddr_i fi39_0_LvE rfl rfl rfl ?_
    first | refine awl_load_one ti3_LvE rfl rfl rfl rfl ?_ | refine awl_load_ione ti3_LvE rfl rfl rfl ?_
    refine awl_nil ?_
    change AWp _ _ _ _ _ _
    refine awp_block ?_
    refine awp_seq ?_
    refine awp_region ?_
    refine awl_bin rfl rfl rfl rfl bin_eql ?_
    refine awl_assign rfl rfl ?_
    refine awl_nil ?_
    change AWp _ _ _ _ _ _
    first | refine awp_cond_p rfl (fun k1 => ?_) (fun k1 => ?_) | refine awp_cond rfl (fun k1 => ?_) (fun k1 => ?_)
    · skip
      obtain ⟨a, ha⟩ := ar1 hw k1
      have hrow0 := row0 ha
      have hda := deep_mem (t := t) (a := a) (by simp [ha])
      have hln : (encLs t.args).length = 1 := by simp [ha]
      have hok := flatF_ok z a
      simp only [Flat.ok] at hok
      refine awp_seq ?_
      refine awp_region ?_
      first | refine awl_fieldAddr fi39_2_LvE rfl rfl ?_ | refine awl_fieldAddr_i fi39_2_LvE rfl rfl rfl ?_
      first | refine awl_load_one ti24_LvE rfl rfl rfl rfl ?_ | refine awl_load_ione ti24_LvE rfl rfl rfl ?_
      refine x_index si24_LvE ti39_LvE rfl rfl rfl rfl (by omega) (by first | omega | (simp only [List.length_map]; omega) | (simp; omega)) (by assumption) rfl ?_
      first | refine awl_load_row ti39_LvE rfl rfl rfl rfl ?_ | refine x_irow ti39_LvE rfl rfl rfl rfl ?_
      refine awl_move rfl rfl ?_
      refine awl_pcall fb55_LvE rfl (ih a (by simp [ha]) (wf_mem hw (by simp [ha])) (by omega)) (.cons (by first | exact Sub.refl _ | exact Sub.ts | exact Sub.nil | exact Sub.agc (by repeat (first | exact .nil | refine .cons (by first | exact Sub.refl _ | exact Sub.nil) ?_))) (.cons (by first | exact Sub.refl _ | exact Sub.ts | exact Sub.nil | exact Sub.agc (by repeat (first | exact .nil | refine .cons (by first | exact Sub.refl _ | exact Sub.nil) ?_))) .nil)) rfl ?_
      refine x_store ti70_LvE rfl rfl rfl rfl rfl rfl rfl rfl ?_
      refine awl_nil ?_
      change AWp _ _ _ _ _ _
      refine awp_seq ?_
      refine awp_region ?_
      first | refine awl_fieldAddr fi70_0_LvE rfl rfl ?_ | refine awl_fieldAddr_i fi70_0_LvE rfl rfl rfl ?_
      first | refine awl_load_one ti3_LvE rfl rfl rfl rfl ?_ | refine awl_load_ione ti3_LvE rfl rfl rfl ?_
      first | refine awl_bin rfl rfl rfl rfl (bin_add_i (by omega)) ?_ | refine awl_bin rfl rfl rfl rfl bin_add ?_
      first | refine awl_fieldAddr fi70_0_LvE rfl rfl ?_ | refine awl_fieldAddr_i fi70_0_LvE rfl rfl rfl ?_
      refine x_store ti3_LvE rfl rfl rfl rfl rfl rfl rfl rfl ?_
      refine awl_nil ?_
      change AWp _ _ _ _ _ _
      refine awp_seq ?_
      refine awp_region ?_
      refine awl_move rfl rfl ?_
      refine awl_nil ?_
      change AWp _ _ _ _ _ _
      refine awp_block ?_
      refine x_loop [(1, _), (2, _), (4, _), (5, _)] [(4, _), (2, _)] (fun x : Int => [(33, .p (I x))]) (fun x => [(5, .ce 70 [.p (I ((flatF z a).b + 1)), .p (I (sof x 0 (up (flatF z a).p0) (flatF z a).p0)), .p (I (sof x 1 (up (flatF z a).p1) (flatF z a).p1)), .p (I (sof x 2 (up (flatF z a).p2) (flatF z a).p2)), .p (I (sof x 3 (up (flatF z a).p3) (flatF z a).p3))])]) (fun x => 0 ≤ x ∧ x ≤ 4) (fun x => (4 - x).toNat) 0 (Le.mk (.cons rfl (by first | exact Sub.refl _ | exact Sub.ts | exact Sub.nil | (refine Sub.eq ?_; first | (simp; done) | (simp; omega))) (.cons rfl (by first | exact Sub.refl _ | exact Sub.ts | exact Sub.nil | (refine Sub.eq ?_; first | (simp; done) | (simp; omega))) (.cons rfl (by first | exact Sub.refl _ | exact Sub.ts | exact Sub.nil | (refine Sub.eq ?_; first | (simp; done) | (simp; omega))) (.cons rfl (by first | exact Sub.refl _ | exact Sub.ts | exact Sub.nil | (refine Sub.eq ?_; first | (simp; done) | (simp; omega))) (.cons rfl (by first | exact Sub.refl _ | exact Sub.ts | exact Sub.nil | (refine Sub.eq ?_; first | (simp; done) | (simp; omega))) (.nil)))))) (.cons rfl (by first | rfl | (simp; done) | (simp [sof, up, hk]; done)) (.cons rfl (by first | rfl | (simp; done) | (simp [sof, up, hk]; done)) (.cons rfl (by first | rfl | (simp; done) | (simp [sof, up, hk]; done)) (.nil)))) rfl) (by omega) (fun x hx => ?_)
      obtain ⟨hx0, hx4⟩ := hx
      dsimp only [List.cons_append, List.nil_append]
      rcases (by omega : x = 0 ∨ x = 1 ∨ x = 2 ∨ x = 3 ∨ x = 4) with rfl | rfl | rfl | rfl | rfl
      · skip
        simp only [sof, Int.reduceLT, reduceIte]
        refine awp_seq ?_
        refine awp_region ?_
        refine awl_bin rfl rfl rfl rfl bin_lss ?_
        refine awl_nil ?_
        change AWp _ _ _ _ _ _
        refine awp_seq ?_
        refine awp_cond_t (by first | exact (by decide) | exact decide_eq_true (by decide) | exact decide_eq_false (by decide)) rfl ?_
        refine awp_skip ?_
        change AWp _ _ _ _ _ _
        refine awp_seq ?_
        refine awp_block ?_
        refine awp_seq ?_
        refine awp_region ?_
        refine awl_move rfl rfl ?_
        refine awl_assign rfl rfl ?_
        refine awl_nil ?_
        change AWp _ _ _ _ _ _
        refine awp_seq ?_
        refine awp_region ?_
        refine awl_move rfl rfl ?_
        first | refine awl_fieldAddr fi70_1_LvE rfl rfl ?_ | refine awl_fieldAddr_i fi70_1_LvE rfl rfl rfl ?_
        refine x_arr ai52_LvE ti3_LvE rfl rfl (by omega) (by omega) rfl rfl ?_
        first | refine awl_load_one ti3_LvE rfl rfl rfl rfl ?_ | refine awl_load_ione ti3_LvE rfl rfl rfl ?_
        refine awl_bin rfl rfl rfl rfl bin_geq ?_
        refine awl_nil ?_
        change AWp _ _ _ _ _ _
        first | refine awp_cond_p rfl (fun hk => ?_) (fun hk => ?_) | refine awp_cond rfl (fun hk => ?_) (fun hk => ?_)
        · skip
          refine awp_region ?_
          refine awl_move rfl rfl ?_
          first | refine awl_fieldAddr fi70_1_LvE rfl rfl ?_ | refine awl_fieldAddr_i fi70_1_LvE rfl rfl rfl ?_
          refine x_arr ai52_LvE ti3_LvE rfl rfl (by omega) (by omega) rfl rfl ?_
          first | refine awl_load_one ti3_LvE rfl rfl rfl rfl ?_ | refine awl_load_ione ti3_LvE rfl rfl rfl ?_
          first | refine awl_bin rfl rfl rfl rfl (bin_add_i (by omega)) ?_ | refine awl_bin rfl rfl rfl rfl bin_add ?_
          first | refine awl_fieldAddr fi70_1_LvE rfl rfl ?_ | refine awl_fieldAddr_i fi70_1_LvE rfl rfl rfl ?_
          refine x_arr ai52_LvE ti3_LvE rfl rfl (by omega) (by omega) rfl rfl ?_
          refine x_store ti3_LvE rfl rfl rfl rfl rfl rfl rfl rfl ?_
          refine awl_nil ?_
          change AWp _ _ _ _ _ _
          refine awp_region ?_
          first | refine awl_bin rfl rfl rfl rfl (bin_add_i (by omega)) ?_ | refine awl_bin rfl rfl rfl rfl bin_add ?_
          refine awl_move rfl rfl ?_
          refine awl_nil ?_
          change ∃ x', _
          refine ⟨1, (by omega), by simp, (Le.mk (.cons rfl (by first | exact Sub.refl _ | exact Sub.ts | exact Sub.nil | (refine Sub.eq ?_; first | (simp; done) | (simp; omega))) (.cons rfl (by first | exact Sub.refl _ | exact Sub.ts | exact Sub.nil | (refine Sub.eq ?_; first | (simp; done) | (simp; omega))) (.cons rfl (by first | exact Sub.refl _ | exact Sub.ts | exact Sub.nil | (refine Sub.eq ?_; first | (simp; done) | (simp; omega))) (.cons rfl (by first | exact Sub.refl _ | exact Sub.ts | exact Sub.nil | (refine Sub.eq ?_; first | (simp; done) | (simp; omega))) (.cons rfl (by first | exact Sub.refl _ | exact Sub.ts | exact Sub.nil | (refine Sub.eq ?_; first | (simp; done) | (simp; omega))) (.nil)))))) (.cons rfl (by first | rfl | (simp; done) | (simp [sof, up, hk]; done)) (.cons rfl (by first | rfl | (simp; done) | (simp [sof, up, hk]; done)) (.cons rfl (by first | rfl | (simp; done) | (simp [sof, up, hk]; done)) (.nil)))) rfl)⟩
        · skip
          refine awp_skip ?_
          change AWp _ _ _ _ _ _
          refine awp_region ?_
          first | refine awl_bin rfl rfl rfl rfl (bin_add_i (by omega)) ?_ | refine awl_bin rfl rfl rfl rfl bin_add ?_
          refine awl_move rfl rfl ?_
          refine awl_nil ?_
          change ∃ x', _
          refine ⟨1, (by omega), by simp, (Le.mk (.cons rfl (by first | exact Sub.refl _ | exact Sub.ts | exact Sub.nil | (refine Sub.eq ?_; first | (simp; done) | (simp; omega))) (.cons rfl (by first | exact Sub.refl _ | exact Sub.ts | exact Sub.nil | (refine Sub.eq ?_; first | (simp; done) | (simp; omega))) (.cons rfl (by first | exact Sub.refl _ | exact Sub.ts | exact Sub.nil | (refine Sub.eq ?_; first | (simp; done) | (simp; omega))) (.cons rfl (by first | exact Sub.refl _ | exact Sub.ts | exact Sub.nil | (refine Sub.eq ?_; first | (simp; done) | (simp; omega))) (.cons rfl (by first | exact Sub.refl _ | exact Sub.ts | exact Sub.nil | (refine Sub.eq ?_; first | (simp; done) | (simp; omega))) (.nil)))))) (.cons rfl (by first | rfl | (simp; done) | (simp [sof, up, hk]; done)) (.cons rfl (by first | rfl | (simp; done) | (simp [sof, up, hk]; done)) (.cons rfl (by first | rfl | (simp; done) | (simp [sof, up, hk]; done)) (.nil)))) rfl)⟩
      · skip
        simp only [sof, Int.reduceLT, reduceIte]
        refine awp_seq ?_
        refine awp_region ?_
        refine awl_bin rfl rfl rfl rfl bin_lss ?_
        refine awl_nil ?_
        change AWp _ _ _ _ _ _
        refine awp_seq ?_
        refine awp_cond_t (by first | exact (by decide) | exact decide_eq_true (by decide) | exact decide_eq_false (by decide)) rfl ?_
        refine awp_skip ?_
        change AWp _ _ _ _ _ _
        refine awp_seq ?_
        refine awp_block ?_
        refine awp_seq ?_
        refine awp_region ?_
        refine awl_move rfl rfl ?_
        refine awl_assign rfl rfl ?_
        refine awl_nil ?_
        change AWp _ _ _ _ _ _
        refine awp_seq ?_
        refine awp_region ?_
        refine awl_move rfl rfl ?_
        first | refine awl_fieldAddr fi70_1_LvE rfl rfl ?_ | refine awl_fieldAddr_i fi70_1_LvE rfl rfl rfl ?_
        refine x_arr ai52_LvE ti3_LvE rfl rfl (by omega) (by omega) rfl rfl ?_
        first | refine awl_load_one ti3_LvE rfl rfl rfl rfl ?_ | refine awl_load_ione ti3_LvE rfl rfl rfl ?_
        refine awl_bin rfl rfl rfl rfl bin_geq ?_
        refine awl_nil ?_
        change AWp _ _ _ _ _ _
        first | refine awp_cond_p rfl (fun hk => ?_) (fun hk => ?_) | refine awp_cond rfl (fun hk => ?_) (fun hk => ?_)
        · skip
          refine awp_region ?_
          refine awl_move rfl rfl ?_
          first | refine awl_fieldAddr fi70_1_LvE rfl rfl ?_ | refine awl_fieldAddr_i fi70_1_LvE rfl rfl rfl ?_
          refine x_arr ai52_LvE ti3_LvE rfl rfl (by omega) (by omega) rfl rfl ?_
          first | refine awl_load_one ti3_LvE rfl rfl rfl rfl ?_ | refine awl_load_ione ti3_LvE rfl rfl rfl ?_
          first | refine awl_bin rfl rfl rfl rfl (bin_add_i (by omega)) ?_ | refine awl_bin rfl rfl rfl rfl bin_add ?_
          first | refine awl_fieldAddr fi70_1_LvE rfl rfl ?_ | refine awl_fieldAddr_i fi70_1_LvE rfl rfl rfl ?_
          refine x_arr ai52_LvE ti3_LvE rfl rfl (by omega) (by omega) rfl rfl ?_
          refine x_store ti3_LvE rfl rfl rfl rfl rfl rfl rfl rfl ?_
          refine awl_nil ?_
          change AWp _ _ _ _ _ _
          refine awp_region ?_
          first | refine awl_bin rfl rfl rfl rfl (bin_add_i (by omega)) ?_ | refine awl_bin rfl rfl rfl rfl bin_add ?_
          refine awl_move rfl rfl ?_
          refine awl_nil ?_
          change ∃ x', _
          refine ⟨2, (by omega), by simp, (Le.mk (.cons rfl (by first | exact Sub.refl _ | exact Sub.ts | exact Sub.nil | (refine Sub.eq ?_; first | (simp; done) | (simp; omega))) (.cons rfl (by first | exact Sub.refl _ | exact Sub.ts | exact Sub.nil | (refine Sub.eq ?_; first | (simp; done) | (simp; omega))) (.cons rfl (by first | exact Sub.refl _ | exact Sub.ts | exact Sub.nil | (refine Sub.eq ?_; first | (simp; done) | (simp; omega))) (.cons rfl (by first | exact Sub.refl _ | exact Sub.ts | exact Sub.nil | (refine Sub.eq ?_; first | (simp; done) | (simp; omega))) (.cons rfl (by first | exact Sub.refl _ | exact Sub.ts | exact Sub.nil | (refine Sub.eq ?_; first | (simp; done) | (simp; omega))) (.nil)))))) (.cons rfl (by first | rfl | (simp; done) | (simp [sof, up, hk]; done)) (.cons rfl (by first | rfl | (simp; done) | (simp [sof, up, hk]; done)) (.cons rfl (by first | rfl | (simp; done) | (simp [sof, up, hk]; done)) (.nil)))) rfl)⟩
        · skip
          refine awp_skip ?_
          change AWp _ _ _ _ _ _
          refine awp_region ?_
          first | refine awl_bin rfl rfl rfl rfl (bin_add_i (by omega)) ?_ | refine awl_bin rfl rfl rfl rfl bin_add ?_
          refine awl_move rfl rfl ?_
          refine awl_nil ?_
          change ∃ x', _
          refine ⟨2, (by omega), by simp, (Le.mk (.cons rfl (by first | exact Sub.refl _ | exact Sub.ts | exact Sub.nil | (refine Sub.eq ?_; first | (simp; done) | (simp; omega))) (.cons rfl (by first | exact Sub.refl _ | exact Sub.ts | exact Sub.nil | (refine Sub.eq ?_; first | (simp; done) | (simp; omega))) (.cons rfl (by first | exact Sub.refl _ | exact Sub.ts | exact Sub.nil | (refine Sub.eq ?_; first | (simp; done) | (simp; omega))) (.cons rfl (by first | exact Sub.refl _ | exact Sub.ts | exact Sub.nil | (refine Sub.eq ?_; first | (simp; done) | (simp; omega))) (.cons rfl (by first | exact Sub.refl _ | exact Sub.ts | exact Sub.nil | (refine Sub.eq ?_; first | (simp; done) | (simp; omega))) (.nil)))))) (.cons rfl (by first | rfl | (simp; done) | (simp [sof, up, hk]; done)) (.cons rfl (by first | rfl | (simp; done) | (simp [sof, up, hk]; done)) (.cons rfl (by first | rfl | (simp; done) | (simp [sof, up, hk]; done)) (.nil)))) rfl)⟩
      · skip
        simp only [sof, Int.reduceLT, reduceIte]
        refine awp_seq ?_
        refine awp_region ?_
        refine awl_bin rfl rfl rfl rfl bin_lss ?_
        refine awl_nil ?_
        change AWp _ _ _ _ _ _
        refine awp_seq ?_
        refine awp_cond_t (by first | exact (by decide) | exact decide_eq_true (by decide) | exact decide_eq_false (by decide)) rfl ?_
        refine awp_skip ?_
        change AWp _ _ _ _ _ _
        refine awp_seq ?_
        refine awp_block ?_
        refine awp_seq ?_
        refine awp_region ?_
        refine awl_move rfl rfl ?_
        refine awl_assign rfl rfl ?_
        refine awl_nil ?_
        change AWp _ _ _ _ _ _
        refine awp_seq ?_
        refine awp_region ?_
        refine awl_move rfl rfl ?_
        first | refine awl_fieldAddr fi70_1_LvE rfl rfl ?_ | refine awl_fieldAddr_i fi70_1_LvE rfl rfl rfl ?_
        refine x_arr ai52_LvE ti3_LvE rfl rfl (by omega) (by omega) rfl rfl ?_
        first | refine awl_load_one ti3_LvE rfl rfl rfl rfl ?_ | refine awl_load_ione ti3_LvE rfl rfl rfl ?_
        refine awl_bin rfl rfl rfl rfl bin_geq ?_
        refine awl_nil ?_
        change AWp _ _ _ _ _ _
        first | refine awp_cond_p rfl (fun hk => ?_) (fun hk => ?_) | refine awp_cond rfl (fun hk => ?_) (fun hk => ?_)
        · skip
          refine awp_region ?_
          refine awl_move rfl rfl ?_
          first | refine awl_fieldAddr fi70_1_LvE rfl rfl ?_ | refine awl_fieldAddr_i fi70_1_LvE rfl rfl rfl ?_
          refine x_arr ai52_LvE ti3_LvE rfl rfl (by omega) (by omega) rfl rfl ?_
          first | refine awl_load_one ti3_LvE rfl rfl rfl rfl ?_ | refine awl_load_ione ti3_LvE rfl rfl rfl ?_
          first | refine awl_bin rfl rfl rfl rfl (bin_add_i (by omega)) ?_ | refine awl_bin rfl rfl rfl rfl bin_add ?_
          first | refine awl_fieldAddr fi70_1_LvE rfl rfl ?_ | refine awl_fieldAddr_i fi70_1_LvE rfl rfl rfl ?_
          refine x_arr ai52_LvE ti3_LvE rfl rfl (by omega) (by omega) rfl rfl ?_
          refine x_store ti3_LvE rfl rfl rfl rfl rfl rfl rfl rfl ?_
          refine awl_nil ?_
          change AWp _ _ _ _ _ _
          refine awp_region ?_
          first | refine awl_bin rfl rfl rfl rfl (bin_add_i (by omega)) ?_ | refine awl_bin rfl rfl rfl rfl bin_add ?_
          refine awl_move rfl rfl ?_
          refine awl_nil ?_
          change ∃ x', _
          refine ⟨3, (by omega), by simp, (Le.mk (.cons rfl (by first | exact Sub.refl _ | exact Sub.ts | exact Sub.nil | (refine Sub.eq ?_; first | (simp; done) | (simp; omega))) (.cons rfl (by first | exact Sub.refl _ | exact Sub.ts | exact Sub.nil | (refine Sub.eq ?_; first | (simp; done) | (simp; omega))) (.cons rfl (by first | exact Sub.refl _ | exact Sub.ts | exact Sub.nil | (refine Sub.eq ?_; first | (simp; done) | (simp; omega))) (.cons rfl (by first | exact Sub.refl _ | exact Sub.ts | exact Sub.nil | (refine Sub.eq ?_; first | (simp; done) | (simp; omega))) (.cons rfl (by first | exact Sub.refl _ | exact Sub.ts | exact Sub.nil | (refine Sub.eq ?_; first | (simp; done) | (simp; omega))) (.nil)))))) (.cons rfl (by first | rfl | (simp; done) | (simp [sof, up, hk]; done)) (.cons rfl (by first | rfl | (simp; done) | (simp [sof, up, hk]; done)) (.cons rfl (by first | rfl | (simp; done) | (simp [sof, up, hk]; done)) (.nil)))) rfl)⟩
        · skip
          refine awp_skip ?_
          change AWp _ _ _ _ _ _
          refine awp_region ?_
          first | refine awl_bin rfl rfl rfl rfl (bin_add_i (by omega)) ?_ | refine awl_bin rfl rfl rfl rfl bin_add ?_
          refine awl_move rfl rfl ?_
          refine awl_nil ?_
          change ∃ x', _
          refine ⟨3, (by omega), by simp, (Le.mk (.cons rfl (by first | exact Sub.refl _ | exact Sub.ts | exact Sub.nil | (refine Sub.eq ?_; first | (simp; done) | (simp; omega))) (.cons rfl (by first | exact Sub.refl _ | exact Sub.ts | exact Sub.nil | (refine Sub.eq ?_; first | (simp; done) | (simp; omega))) (.cons rfl (by first | exact Sub.refl _ | exact Sub.ts | exact Sub.nil | (refine Sub.eq ?_; first | (simp; done) | (simp; omega))) (.cons rfl (by first | exact Sub.refl _ | exact Sub.ts | exact Sub.nil | (refine Sub.eq ?_; first | (simp; done) | (simp; omega))) (.cons rfl (by first | exact Sub.refl _ | exact Sub.ts | exact Sub.nil | (refine Sub.eq ?_; first | (simp; done) | (simp; omega))) (.nil)))))) (.cons rfl (by first | rfl | (simp; done) | (simp [sof, up, hk]; done)) (.cons rfl (by first | rfl | (simp; done) | (simp [sof, up, hk]; done)) (.cons rfl (by first | rfl | (simp; done) | (simp [sof, up, hk]; done)) (.nil)))) rfl)⟩
      · skip
        simp only [sof, Int.reduceLT, reduceIte]
        refine awp_seq ?_
        refine awp_region ?_
        refine awl_bin rfl rfl rfl rfl bin_lss ?_
        refine awl_nil ?_
        change AWp _ _ _ _ _ _
        refine awp_seq ?_
        refine awp_cond_t (by first | exact (by decide) | exact decide_eq_true (by decide) | exact decide_eq_false (by decide)) rfl ?_
        refine awp_skip ?_
        change AWp _ _ _ _ _ _
        refine awp_seq ?_
        refine awp_block ?_
        refine awp_seq ?_
        refine awp_region ?_
        refine awl_move rfl rfl ?_
        refine awl_assign rfl rfl ?_
        refine awl_nil ?_
        change AWp _ _ _ _ _ _
        refine awp_seq ?_
        refine awp_region ?_
        refine awl_move rfl rfl ?_
        first | refine awl_fieldAddr fi70_1_LvE rfl rfl ?_ | refine awl_fieldAddr_i fi70_1_LvE rfl rfl rfl ?_
        refine x_arr ai52_LvE ti3_LvE rfl rfl (by omega) (by omega) rfl rfl ?_
        first | refine awl_load_one ti3_LvE rfl rfl rfl rfl ?_ | refine awl_load_ione ti3_LvE rfl rfl rfl ?_
        refine awl_bin rfl rfl rfl rfl bin_geq ?_
        refine awl_nil ?_
        change AWp _ _ _ _ _ _
        first | refine awp_cond_p rfl (fun hk => ?_) (fun hk => ?_) | refine awp_cond rfl (fun hk => ?_) (fun hk => ?_)
        · skip
          refine awp_region ?_
          refine awl_move rfl rfl ?_
          first | refine awl_fieldAddr fi70_1_LvE rfl rfl ?_ | refine awl_fieldAddr_i fi70_1_LvE rfl rfl rfl ?_
          refine x_arr ai52_LvE ti3_LvE rfl rfl (by omega) (by omega) rfl rfl ?_
          first | refine awl_load_one ti3_LvE rfl rfl rfl rfl ?_ | refine awl_load_ione ti3_LvE rfl rfl rfl ?_
          first | refine awl_bin rfl rfl rfl rfl (bin_add_i (by omega)) ?_ | refine awl_bin rfl rfl rfl rfl bin_add ?_
          first | refine awl_fieldAddr fi70_1_LvE rfl rfl ?_ | refine awl_fieldAddr_i fi70_1_LvE rfl rfl rfl ?_
          refine x_arr ai52_LvE ti3_LvE rfl rfl (by omega) (by omega) rfl rfl ?_
          refine x_store ti3_LvE rfl rfl rfl rfl rfl rfl rfl rfl ?_
          refine awl_nil ?_
          change AWp _ _ _ _ _ _
          refine awp_region ?_
          first | refine awl_bin rfl rfl rfl rfl (bin_add_i (by omega)) ?_ | refine awl_bin rfl rfl rfl rfl bin_add ?_
          refine awl_move rfl rfl ?_
          refine awl_nil ?_
          change ∃ x', _
          refine ⟨4, (by omega), by simp, (Le.mk (.cons rfl (by first | exact Sub.refl _ | exact Sub.ts | exact Sub.nil | (refine Sub.eq ?_; first | (simp; done) | (simp; omega))) (.cons rfl (by first | exact Sub.refl _ | exact Sub.ts | exact Sub.nil | (refine Sub.eq ?_; first | (simp; done) | (simp; omega))) (.cons rfl (by first | exact Sub.refl _ | exact Sub.ts | exact Sub.nil | (refine Sub.eq ?_; first | (simp; done) | (simp; omega))) (.cons rfl (by first | exact Sub.refl _ | exact Sub.ts | exact Sub.nil | (refine Sub.eq ?_; first | (simp; done) | (simp; omega))) (.cons rfl (by first | exact Sub.refl _ | exact Sub.ts | exact Sub.nil | (refine Sub.eq ?_; first | (simp; done) | (simp; omega))) (.nil)))))) (.cons rfl (by first | rfl | (simp; done) | (simp [sof, up, hk]; done)) (.cons rfl (by first | rfl | (simp; done) | (simp [sof, up, hk]; done)) (.cons rfl (by first | rfl | (simp; done) | (simp [sof, up, hk]; done)) (.nil)))) rfl)⟩
        · skip
          refine awp_skip ?_
          change AWp _ _ _ _ _ _
          refine awp_region ?_
          first | refine awl_bin rfl rfl rfl rfl (bin_add_i (by omega)) ?_ | refine awl_bin rfl rfl rfl rfl bin_add ?_
          refine awl_move rfl rfl ?_
          refine awl_nil ?_
          change ∃ x', _
          refine ⟨4, (by omega), by simp, (Le.mk (.cons rfl (by first | exact Sub.refl _ | exact Sub.ts | exact Sub.nil | (refine Sub.eq ?_; first | (simp; done) | (simp; omega))) (.cons rfl (by first | exact Sub.refl _ | exact Sub.ts | exact Sub.nil | (refine Sub.eq ?_; first | (simp; done) | (simp; omega))) (.cons rfl (by first | exact Sub.refl _ | exact Sub.ts | exact Sub.nil | (refine Sub.eq ?_; first | (simp; done) | (simp; omega))) (.cons rfl (by first | exact Sub.refl _ | exact Sub.ts | exact Sub.nil | (refine Sub.eq ?_; first | (simp; done) | (simp; omega))) (.cons rfl (by first | exact Sub.refl _ | exact Sub.ts | exact Sub.nil | (refine Sub.eq ?_; first | (simp; done) | (simp; omega))) (.nil)))))) (.cons rfl (by first | rfl | (simp; done) | (simp [sof, up, hk]; done)) (.cons rfl (by first | rfl | (simp; done) | (simp [sof, up, hk]; done)) (.cons rfl (by first | rfl | (simp; done) | (simp [sof, up, hk]; done)) (.nil)))) rfl)⟩
      · skip
        simp only [sof, Int.reduceLT, reduceIte]
        refine awp_seq ?_
        refine awp_region ?_
        refine awl_bin rfl rfl rfl rfl bin_lss ?_
        refine awl_nil ?_
        change AWp _ _ _ _ _ _
        refine awp_seq ?_
        refine awp_cond_f (by first | exact (by decide) | exact decide_eq_true (by decide) | exact decide_eq_false (by decide)) rfl ?_
        refine awp_exit ?_
        change AWp _ _ _ _ _ _
        refine awp_seq ?_
        refine awp_region ?_
        first | refine awl_load_row ti70_LvE rfl rfl rfl rfl ?_ | refine x_irow ti70_LvE rfl rfl rfl rfl ?_
        refine x_store ti70_LvE rfl rfl rfl rfl rfl rfl rfl rfl ?_
        refine awl_nil ?_
        change AWp _ _ _ _ _ _
        refine awp_ret ?_
        change Ends _ _ _ _ _ _
        refine ends1 [] rfl (.row ti70_LvE rfl rfl rfl) ?_ rfl
        first | (refine ⟨fl_eq (f := succF (flatF z a)) ?_, rfl⟩; rw [he, ha]; simp [flK, flatFs, k1]; done) | (refine ⟨fl_eq (f := maxF (flatF z a) (flatF z b)) ?_, rfl⟩; rw [he, ha]; simp [flK, flatFs, k2]; done) | (refine ⟨fl_eq (f := maxF (flatF z a) (flatF z b)) ?_, rfl⟩; rw [he, ha]; simp [flK, flatFs, k3, hb0]; done) | (refine ⟨fl_eq (f := flat0) ?_, rfl⟩; rw [he, ha]; simp [flK, flatFs, k3, hb0]; done) | (rw [he]; simp only [flK, if_neg k1, if_neg k2, if_neg k3, if_pos k4]; rw [if_pos ⟨n0, n1, hbit⟩, hn0]; exact ⟨rfl, rfl⟩) | (refine ⟨fl_eq (f := flat0) ?_, rfl⟩; rw [he]; simp only [flK, if_neg k1, if_neg k2, if_neg k3, if_pos k4]; rw [if_neg]; unfold bitF; omega) | (refine ⟨fl_eq (f := flat0) ?_, rfl⟩; rw [he]; simp [flK, k1, k2, k3, k4]; done)
    · skip
      refine awp_seq ?_
      refine awp_seq ?_
      refine awp_region ?_
      refine awl_bin rfl rfl rfl rfl bin_eql ?_
      refine awl_assign rfl rfl ?_
      refine awl_nil ?_
      change AWp _ _ _ _ _ _
      first | refine awp_cond_p rfl (fun k2 => ?_) (fun k2 => ?_) | refine awp_cond rfl (fun k2 => ?_) (fun k2 => ?_)
      · skip
        have n3 : ¬ t.kind = 3 := by omega
        obtain ⟨a, b, ha⟩ := ar2 hw (.inl k2)
        have hrow0 := row0 ha
        have hrow1 := row1 ha
        have hda := deep_mem (t := t) (a := a) (by simp [ha])
        have hdb := deep_mem (t := t) (a := b) (by simp [ha])
        have hln : (encLs t.args).length = 2 := by simp [ha]
        refine awp_skip ?_
        change AWp _ _ _ _ _ _
        refine awp_cond_t (by first | exact k2 | exact decide_eq_true k2 | exact decide_eq_false k2) rfl ?_
        refine awp_seq ?_
        apply awp_drawS [12, 13, 14, 15] [14, 15] [(12, 7), (13, 8)] ((fun (B : Obs) => oget [([], B), ([12], (7, .ce 70 [.p (.v (.int .i64 0)), .p (.v (.int .i64 0)), .p (.v (.int .i64 0)), .p (.v (.int .i64 0)), .p (.v (.int .i64 0))]) :: B), ([13], (8, .ce 70 [.p (.v (.int .i64 0)), .p (.v (.int .i64 0)), .p (.v (.int .i64 0)), .p (.v (.int .i64 0)), .p (.v (.int .i64 0))]) :: B), ([12, 13], (8, .ce 70 [.p (.v (.int .i64 0)), .p (.v (.int .i64 0)), .p (.v (.int .i64 0)), .p (.v (.int .i64 0)), .p (.v (.int .i64 0))]) :: (7, .ce 70 [.p (.v (.int .i64 0)), .p (.v (.int .i64 0)), .p (.v (.int .i64 0)), .p (.v (.int .i64 0)), .p (.v (.int .i64 0))]) :: B), ([12, 13, 14], _), ([12, 13, 14, 15], _)]) _)
        · rfl
        · rfl
        · exact hmo_LvE
        · kernel_rfl
        · rfl
        refine awd_s [[12, 13], [12], [13], []] [(2, _)] (.cons rfl (.nil)) rfl rfl rfl (by kernel_rfl) ?_
        apply Exists.intro
        refine ⟨(⟨fun regs' => ?_,⟨fun regs' => ?_,⟨fun regs' => ?_,⟨fun regs' => ?_, trivial⟩⟩⟩⟩), ?_, ?_⟩
        · skip
          first | refine awl_fieldAddr fi39_2_LvE rfl rfl ?_ | refine awl_fieldAddr_i fi39_2_LvE rfl rfl rfl ?_
          exact awl_doneS rfl rfl
        · skip
          first | refine awl_fieldAddr fi39_2_LvE rfl rfl ?_ | refine awl_fieldAddr_i fi39_2_LvE rfl rfl rfl ?_
          exact awl_doneS rfl rfl
        · skip
          first | refine awl_fieldAddr fi39_2_LvE rfl rfl ?_ | refine awl_fieldAddr_i fi39_2_LvE rfl rfl rfl ?_
          exact awl_doneS rfl rfl
        · skip
          first | refine awl_fieldAddr fi39_2_LvE rfl rfl ?_ | refine awl_fieldAddr_i fi39_2_LvE rfl rfl rfl ?_
          exact awl_doneS rfl rfl
        · kernel_rfl
        refine awd_s [[12, 13], [12], [13], []] [(52, _)] (.cons rfl (.nil)) rfl rfl rfl (by kernel_rfl) ?_
        apply Exists.intro
        refine ⟨(⟨fun regs' => ?_,⟨fun regs' => ?_,⟨fun regs' => ?_,⟨fun regs' => ?_, trivial⟩⟩⟩⟩), ?_, ?_⟩
        · skip
          first | refine awl_load_one ti24_LvE rfl rfl rfl rfl ?_ | refine awl_load_ione ti24_LvE rfl rfl rfl ?_
          exact awl_doneS rfl rfl
        · skip
          first | refine awl_load_one ti24_LvE rfl rfl rfl rfl ?_ | refine awl_load_ione ti24_LvE rfl rfl rfl ?_
          exact awl_doneS rfl rfl
        · skip
          first | refine awl_load_one ti24_LvE rfl rfl rfl rfl ?_ | refine awl_load_ione ti24_LvE rfl rfl rfl ?_
          exact awl_doneS rfl rfl
        · skip
          first | refine awl_load_one ti24_LvE rfl rfl rfl rfl ?_ | refine awl_load_ione ti24_LvE rfl rfl rfl ?_
          exact awl_doneS rfl rfl
        · kernel_rfl
        refine awd_s [[12, 13], [12], [13], []] [(53, _)] (.cons rfl (.nil)) rfl rfl rfl (by kernel_rfl) ?_
        apply Exists.intro
        refine ⟨(⟨fun regs' => ?_,⟨fun regs' => ?_,⟨fun regs' => ?_,⟨fun regs' => ?_, trivial⟩⟩⟩⟩), ?_, ?_⟩
        · skip
          refine x_index si24_LvE ti39_LvE rfl rfl rfl rfl (by omega) (by first | omega | (simp only [List.length_map]; omega) | (simp; omega)) (by assumption) rfl ?_
          exact awl_doneS rfl rfl
        · skip
          refine x_index si24_LvE ti39_LvE rfl rfl rfl rfl (by omega) (by first | omega | (simp only [List.length_map]; omega) | (simp; omega)) (by assumption) rfl ?_
          exact awl_doneS rfl rfl
        · skip
          refine x_index si24_LvE ti39_LvE rfl rfl rfl rfl (by omega) (by first | omega | (simp only [List.length_map]; omega) | (simp; omega)) (by assumption) rfl ?_
          exact awl_doneS rfl rfl
        · skip
          refine x_index si24_LvE ti39_LvE rfl rfl rfl rfl (by omega) (by first | omega | (simp only [List.length_map]; omega) | (simp; omega)) (by assumption) rfl ?_
          exact awl_doneS rfl rfl
        · kernel_rfl
        refine awd_s [[12, 13], [12], [13], []] [(54, _)] (.cons rfl (.nil)) rfl rfl rfl (by kernel_rfl) ?_
        apply Exists.intro
        refine ⟨(⟨fun regs' => ?_,⟨fun regs' => ?_,⟨fun regs' => ?_,⟨fun regs' => ?_, trivial⟩⟩⟩⟩), ?_, ?_⟩
        · skip
          first | refine awl_load_row ti39_LvE rfl rfl rfl rfl ?_ | refine x_irow ti39_LvE rfl rfl rfl rfl ?_
          exact awl_doneS rfl rfl
        · skip
          first | refine awl_load_row ti39_LvE rfl rfl rfl rfl ?_ | refine x_irow ti39_LvE rfl rfl rfl rfl ?_
          exact awl_doneS rfl rfl
        · skip
          first | refine awl_load_row ti39_LvE rfl rfl rfl rfl ?_ | refine x_irow ti39_LvE rfl rfl rfl rfl ?_
          exact awl_doneS rfl rfl
        · skip
          first | refine awl_load_row ti39_LvE rfl rfl rfl rfl ?_ | refine x_irow ti39_LvE rfl rfl rfl rfl ?_
          exact awl_doneS rfl rfl
        · kernel_rfl
        refine awd_s [[12, 13], [12], [13], []] [(1, _)] (.cons rfl (.nil)) rfl rfl rfl (by kernel_rfl) ?_
        apply Exists.intro
        refine ⟨(⟨fun regs' => ?_,⟨fun regs' => ?_,⟨fun regs' => ?_,⟨fun regs' => ?_, trivial⟩⟩⟩⟩), ?_, ?_⟩
        · skip
          refine awl_move rfl rfl ?_
          exact awl_doneS rfl rfl
        · skip
          refine awl_move rfl rfl ?_
          exact awl_doneS rfl rfl
        · skip
          refine awl_move rfl rfl ?_
          exact awl_doneS rfl rfl
        · skip
          refine awl_move rfl rfl ?_
          exact awl_doneS rfl rfl
        · kernel_rfl
        refine awd_s [[12, 13], [12], [13], []] [(55, _), (56, _)] (.cons rfl (.cons rfl (.nil))) rfl rfl rfl (by kernel_rfl) ?_
        apply Exists.intro
        refine ⟨(⟨fun regs' => ?_,⟨fun regs' => ?_,⟨fun regs' => ?_,⟨fun regs' => ?_, trivial⟩⟩⟩⟩), ?_, ?_⟩
        · skip
          refine awl_pcall fb55_LvE rfl (ih a (by simp [ha]) (wf_mem hw (by simp [ha])) (by omega)) (.cons (by first | exact Sub.refl _ | exact Sub.ts | exact Sub.nil | exact Sub.agc (by repeat (first | exact .nil | refine .cons (by first | exact Sub.refl _ | exact Sub.nil) ?_))) (.cons (by first | exact Sub.refl _ | exact Sub.ts | exact Sub.nil | exact Sub.agc (by repeat (first | exact .nil | refine .cons (by first | exact Sub.refl _ | exact Sub.nil) ?_))) .nil)) rfl ?_
          exact awl_doneS rfl rfl
        · skip
          refine awl_pcall fb55_LvE rfl (ih a (by simp [ha]) (wf_mem hw (by simp [ha])) (by omega)) (.cons (by first | exact Sub.refl _ | exact Sub.ts | exact Sub.nil | exact Sub.agc (by repeat (first | exact .nil | refine .cons (by first | exact Sub.refl _ | exact Sub.nil) ?_))) (.cons (by first | exact Sub.refl _ | exact Sub.ts | exact Sub.nil | exact Sub.agc (by repeat (first | exact .nil | refine .cons (by first | exact Sub.refl _ | exact Sub.nil) ?_))) .nil)) rfl ?_
          exact awl_doneS rfl rfl
        · skip
          refine awl_pcall fb55_LvE rfl (ih a (by simp [ha]) (wf_mem hw (by simp [ha])) (by omega)) (.cons (by first | exact Sub.refl _ | exact Sub.ts | exact Sub.nil | exact Sub.agc (by repeat (first | exact .nil | refine .cons (by first | exact Sub.refl _ | exact Sub.nil) ?_))) (.cons (by first | exact Sub.refl _ | exact Sub.ts | exact Sub.nil | exact Sub.agc (by repeat (first | exact .nil | refine .cons (by first | exact Sub.refl _ | exact Sub.nil) ?_))) .nil)) rfl ?_
          exact awl_doneS rfl rfl
        · skip
          refine awl_pcall fb55_LvE rfl (ih a (by simp [ha]) (wf_mem hw (by simp [ha])) (by omega)) (.cons (by first | exact Sub.refl _ | exact Sub.ts | exact Sub.nil | exact Sub.agc (by repeat (first | exact .nil | refine .cons (by first | exact Sub.refl _ | exact Sub.nil) ?_))) (.cons (by first | exact Sub.refl _ | exact Sub.ts | exact Sub.nil | exact Sub.agc (by repeat (first | exact .nil | refine .cons (by first | exact Sub.refl _ | exact Sub.nil) ?_))) .nil)) rfl ?_
          exact awl_doneS rfl rfl
        · kernel_rfl
        refine awd_s [[12, 13], [12], [13], []] [(2, _)] (.cons rfl (.nil)) rfl rfl rfl (by kernel_rfl) ?_
        apply Exists.intro
        refine ⟨(⟨fun regs' => ?_,⟨fun regs' => ?_,⟨fun regs' => ?_,⟨fun regs' => ?_, trivial⟩⟩⟩⟩), ?_, ?_⟩
        · skip
          first | refine awl_fieldAddr fi39_2_LvE rfl rfl ?_ | refine awl_fieldAddr_i fi39_2_LvE rfl rfl rfl ?_
          exact awl_doneS rfl rfl
        · skip
          first | refine awl_fieldAddr fi39_2_LvE rfl rfl ?_ | refine awl_fieldAddr_i fi39_2_LvE rfl rfl rfl ?_
          exact awl_doneS rfl rfl
        · skip
          first | refine awl_fieldAddr fi39_2_LvE rfl rfl ?_ | refine awl_fieldAddr_i fi39_2_LvE rfl rfl rfl ?_
          exact awl_doneS rfl rfl
        · skip
          first | refine awl_fieldAddr fi39_2_LvE rfl rfl ?_ | refine awl_fieldAddr_i fi39_2_LvE rfl rfl rfl ?_
          exact awl_doneS rfl rfl
        · kernel_rfl
        refine awd_s [[12, 13], [12], [13], []] [(58, _)] (.cons rfl (.nil)) rfl rfl rfl (by kernel_rfl) ?_
        apply Exists.intro
        refine ⟨(⟨fun regs' => ?_,⟨fun regs' => ?_,⟨fun regs' => ?_,⟨fun regs' => ?_, trivial⟩⟩⟩⟩), ?_, ?_⟩
        · skip
          first | refine awl_load_one ti24_LvE rfl rfl rfl rfl ?_ | refine awl_load_ione ti24_LvE rfl rfl rfl ?_
          exact awl_doneS rfl rfl
        · skip
          first | refine awl_load_one ti24_LvE rfl rfl rfl rfl ?_ | refine awl_load_ione ti24_LvE rfl rfl rfl ?_
          exact awl_doneS rfl rfl
        · skip
          first | refine awl_load_one ti24_LvE rfl rfl rfl rfl ?_ | refine awl_load_ione ti24_LvE rfl rfl rfl ?_
          exact awl_doneS rfl rfl
        · skip
          first | refine awl_load_one ti24_LvE rfl rfl rfl rfl ?_ | refine awl_load_ione ti24_LvE rfl rfl rfl ?_
          exact awl_doneS rfl rfl
        · kernel_rfl
        refine awd_s [[12, 13], [12], [13], []] [(59, _)] (.cons rfl (.nil)) rfl rfl rfl (by kernel_rfl) ?_
        apply Exists.intro
        refine ⟨(⟨fun regs' => ?_,⟨fun regs' => ?_,⟨fun regs' => ?_,⟨fun regs' => ?_, trivial⟩⟩⟩⟩), ?_, ?_⟩
        · skip
          refine x_index si24_LvE ti39_LvE rfl rfl rfl rfl (by omega) (by first | omega | (simp only [List.length_map]; omega) | (simp; omega)) (by assumption) rfl ?_
          exact awl_doneS rfl rfl
        · skip
          refine x_index si24_LvE ti39_LvE rfl rfl rfl rfl (by omega) (by first | omega | (simp only [List.length_map]; omega) | (simp; omega)) (by assumption) rfl ?_
          exact awl_doneS rfl rfl
        · skip
          refine x_index si24_LvE ti39_LvE rfl rfl rfl rfl (by omega) (by first | omega | (simp only [List.length_map]; omega) | (simp; omega)) (by assumption) rfl ?_
          exact awl_doneS rfl rfl
        · skip
          refine x_index si24_LvE ti39_LvE rfl rfl rfl rfl (by omega) (by first | omega | (simp only [List.length_map]; omega) | (simp; omega)) (by assumption) rfl ?_
          exact awl_doneS rfl rfl
        · kernel_rfl
        refine awd_s [[12, 13], [12], [13], []] [(60, _)] (.cons rfl (.nil)) rfl rfl rfl (by kernel_rfl) ?_
        apply Exists.intro
        refine ⟨(⟨fun regs' => ?_,⟨fun regs' => ?_,⟨fun regs' => ?_,⟨fun regs' => ?_, trivial⟩⟩⟩⟩), ?_, ?_⟩
        · skip
          first | refine awl_load_row ti39_LvE rfl rfl rfl rfl ?_ | refine x_irow ti39_LvE rfl rfl rfl rfl ?_
          exact awl_doneS rfl rfl
        · skip
          first | refine awl_load_row ti39_LvE rfl rfl rfl rfl ?_ | refine x_irow ti39_LvE rfl rfl rfl rfl ?_
          exact awl_doneS rfl rfl
        · skip
          first | refine awl_load_row ti39_LvE rfl rfl rfl rfl ?_ | refine x_irow ti39_LvE rfl rfl rfl rfl ?_
          exact awl_doneS rfl rfl
        · skip
          first | refine awl_load_row ti39_LvE rfl rfl rfl rfl ?_ | refine x_irow ti39_LvE rfl rfl rfl rfl ?_
          exact awl_doneS rfl rfl
        · kernel_rfl
        refine awd_s [[12, 13], [12], [13], []] [(1, _)] (.cons rfl (.nil)) rfl rfl rfl (by kernel_rfl) ?_
        apply Exists.intro
        refine ⟨(⟨fun regs' => ?_,⟨fun regs' => ?_,⟨fun regs' => ?_,⟨fun regs' => ?_, trivial⟩⟩⟩⟩), ?_, ?_⟩
        · skip
          refine awl_move rfl rfl ?_
          exact awl_doneS rfl rfl
        · skip
          refine awl_move rfl rfl ?_
          exact awl_doneS rfl rfl
        · skip
          refine awl_move rfl rfl ?_
          exact awl_doneS rfl rfl
        · skip
          refine awl_move rfl rfl ?_
          exact awl_doneS rfl rfl
        · kernel_rfl
        refine awd_s [[12, 13], [12], [13], []] [(61, _), (62, _)] (.cons rfl (.cons rfl (.nil))) rfl rfl rfl (by kernel_rfl) ?_
        apply Exists.intro
        refine ⟨(⟨fun regs' => ?_,⟨fun regs' => ?_,⟨fun regs' => ?_,⟨fun regs' => ?_, trivial⟩⟩⟩⟩), ?_, ?_⟩
        · skip
          refine awl_pcall fb55_LvE rfl (ih b (by simp [ha]) (wf_mem hw (by simp [ha])) (by omega)) (.cons (by first | exact Sub.refl _ | exact Sub.ts | exact Sub.nil | exact Sub.agc (by repeat (first | exact .nil | refine .cons (by first | exact Sub.refl _ | exact Sub.nil) ?_))) (.cons (by first | exact Sub.refl _ | exact Sub.ts | exact Sub.nil | exact Sub.agc (by repeat (first | exact .nil | refine .cons (by first | exact Sub.refl _ | exact Sub.nil) ?_))) .nil)) rfl ?_
          exact awl_doneS rfl rfl
        · skip
          refine awl_pcall fb55_LvE rfl (ih b (by simp [ha]) (wf_mem hw (by simp [ha])) (by omega)) (.cons (by first | exact Sub.refl _ | exact Sub.ts | exact Sub.nil | exact Sub.agc (by repeat (first | exact .nil | refine .cons (by first | exact Sub.refl _ | exact Sub.nil) ?_))) (.cons (by first | exact Sub.refl _ | exact Sub.ts | exact Sub.nil | exact Sub.agc (by repeat (first | exact .nil | refine .cons (by first | exact Sub.refl _ | exact Sub.nil) ?_))) .nil)) rfl ?_
          exact awl_doneS rfl rfl
        · skip
          refine awl_pcall fb55_LvE rfl (ih b (by simp [ha]) (wf_mem hw (by simp [ha])) (by omega)) (.cons (by first | exact Sub.refl _ | exact Sub.ts | exact Sub.nil | exact Sub.agc (by repeat (first | exact .nil | refine .cons (by first | exact Sub.refl _ | exact Sub.nil) ?_))) (.cons (by first | exact Sub.refl _ | exact Sub.ts | exact Sub.nil | exact Sub.agc (by repeat (first | exact .nil | refine .cons (by first | exact Sub.refl _ | exact Sub.nil) ?_))) .nil)) rfl ?_
          exact awl_doneS rfl rfl
        · skip
          refine awl_pcall fb55_LvE rfl (ih b (by simp [ha]) (wf_mem hw (by simp [ha])) (by omega)) (.cons (by first | exact Sub.refl _ | exact Sub.ts | exact Sub.nil | exact Sub.agc (by repeat (first | exact .nil | refine .cons (by first | exact Sub.refl _ | exact Sub.nil) ?_))) (.cons (by first | exact Sub.refl _ | exact Sub.ts | exact Sub.nil | exact Sub.agc (by repeat (first | exact .nil | refine .cons (by first | exact Sub.refl _ | exact Sub.nil) ?_))) .nil)) rfl ?_
          exact awl_doneS rfl rfl
        · kernel_rfl
        refine awd_new [[13], []] tz70_LvE rfl rfl (by rw [hcx]; rfl) rfl rfl (by kernel_rfl) rfl (by kernel_rfl) (⟨⟨by repeat (first | exact .nil | refine .cons rfl rfl ?_), rfl⟩,⟨⟨by repeat (first | exact .nil | refine .cons rfl rfl ?_), rfl⟩, trivial⟩⟩) ?_
        refine awd_new [[12], []] tz70_LvE rfl rfl (by rw [hcx]; rfl) rfl rfl (by kernel_rfl) rfl (by kernel_rfl) (⟨⟨by repeat (first | exact .nil | refine .cons rfl rfl ?_), rfl⟩,⟨⟨by repeat (first | exact .nil | refine .cons rfl rfl ?_), rfl⟩, trivial⟩⟩) ?_
        refine awd_e [12, 13] rfl rfl rfl (by kernel_rfl) rfl rfl ?_
        refine ⟨.any, ?_⟩
        refine ⟨?_, ?_, ?_⟩
        · skip
          refine x_store ti70_LvE rfl rfl rfl rfl rfl rfl rfl rfl ?_
          exact awl_done rfl
        · kernel_rfl
        refine awd_e [12, 13, 14] rfl rfl rfl (by kernel_rfl) rfl rfl ?_
        refine ⟨.any, ?_⟩
        refine ⟨?_, ?_, ?_⟩
        · skip
          refine x_store ti70_LvE rfl rfl rfl rfl rfl rfl rfl rfl ?_
          exact awl_done rfl
        · kernel_rfl
        refine awd_endS ?_
        try dsimp only [putd]
        change AWp _ _ _ _ _ _
        refine awp_seq ?_
        refine awp_seq ?_
        refine awp_region ?_
        first | refine awl_fieldAddr fi39_0_LvE rfl rfl ?_ | refine awl_fieldAddr_i fi39_0_LvE rfl rfl rfl ?_
        first | refine awl_load_one ti3_LvE rfl rfl rfl rfl ?_ | refine awl_load_ione ti3_LvE rfl rfl rfl ?_
        refine awl_bin rfl rfl rfl rfl bin_eql ?_
        refine awl_move rfl rfl ?_
        refine awl_guard_no rfl (by first | exact n3 | exact decide_eq_true n3 | exact decide_eq_false n3) rfl rfl rfl rfl ?_
        refine awl_guard_no rfl (by first | exact n3 | exact decide_eq_true n3 | exact decide_eq_false n3) rfl rfl rfl rfl ?_
        refine awl_pick_f (by first | exact n3 | exact decide_eq_true n3 | exact decide_eq_false n3) rfl rfl rfl ?_
        refine awl_nil ?_
        change AWp _ _ _ _ _ _
        refine awp_cond_f rfl rfl ?_
        refine awp_skip ?_
        change AWp _ _ _ _ _ _
        refine awp_seq ?_
        refine awp_region ?_
        first | refine awl_fieldAddr fi70_0_LvE rfl rfl ?_ | refine awl_fieldAddr_i fi70_0_LvE rfl rfl rfl ?_
        first | refine awl_load_one ti3_LvE rfl rfl rfl rfl ?_ | refine awl_load_ione ti3_LvE rfl rfl rfl ?_
        first | refine awl_fieldAddr fi70_0_LvE rfl rfl ?_ | refine awl_fieldAddr_i fi70_0_LvE rfl rfl rfl ?_
        first | refine awl_load_one ti3_LvE rfl rfl rfl rfl ?_ | refine awl_load_ione ti3_LvE rfl rfl rfl ?_
        refine awl_max rfl rfl rfl ?_
        first | refine awl_fieldAddr fi70_0_LvE rfl rfl ?_ | refine awl_fieldAddr_i fi70_0_LvE rfl rfl rfl ?_
        refine x_store ti3_LvE rfl rfl rfl rfl rfl rfl rfl rfl ?_
        refine awl_nil ?_
        change AWp _ _ _ _ _ _
        refine awp_seq ?_
        refine awp_region ?_
        refine awl_move rfl rfl ?_
        refine awl_nil ?_
        change AWp _ _ _ _ _ _
        refine awp_block ?_
        refine x_loop [(1, _), (2, _), (4, _), (5, _), (7, _), (8, _)] [(4, _), (2, _), (7, _), (8, _)] (fun x : Int => [(78, .p (I x))]) (fun x => [(5, .ce 70 [.p (I (max (flatF z a).b (flatF z b).b)), .p (I (sof x 0 (max (flatF z a).p0 (flatF z b).p0) (-1))), .p (I (sof x 1 (max (flatF z a).p1 (flatF z b).p1) (-1))), .p (I (sof x 2 (max (flatF z a).p2 (flatF z b).p2) (-1))), .p (I (sof x 3 (max (flatF z a).p3 (flatF z b).p3) (-1)))])]) (fun x => 0 ≤ x ∧ x ≤ 4) (fun x => (4 - x).toNat) 0 (Le.mk (.cons rfl (by first | exact Sub.refl _ | exact Sub.ts | exact Sub.nil | (refine Sub.eq ?_; first | (simp; done) | (simp; omega))) (.cons rfl (by first | exact Sub.refl _ | exact Sub.ts | exact Sub.nil | (refine Sub.eq ?_; first | (simp; done) | (simp; omega))) (.cons rfl (by first | exact Sub.refl _ | exact Sub.ts | exact Sub.nil | (refine Sub.eq ?_; first | (simp; done) | (simp; omega))) (.cons rfl (by first | exact Sub.refl _ | exact Sub.ts | exact Sub.nil | (refine Sub.eq ?_; first | (simp; done) | (simp; omega))) (.cons rfl (by first | exact Sub.refl _ | exact Sub.ts | exact Sub.nil | (refine Sub.eq ?_; first | (simp; done) | (simp; omega))) (.cons rfl (by first | exact Sub.refl _ | exact Sub.ts | exact Sub.nil | (refine Sub.eq ?_; first | (simp; done) | (simp; omega))) (.cons rfl (by first | exact Sub.refl _ | exact Sub.ts | exact Sub.nil | (refine Sub.eq ?_; first | (simp; done) | (simp; omega))) (.nil)))))))) (.cons rfl (by first | rfl | (simp; done) | (simp [sof]; done)) (.cons rfl (by first | rfl | (simp; done) | (simp [sof]; done)) (.cons rfl (by first | rfl | (simp; done) | (simp [sof]; done)) (.cons rfl (by first | rfl | (simp; done) | (simp [sof]; done)) (.cons rfl (by first | rfl | (simp; done) | (simp [sof]; done)) (.nil)))))) rfl) (by omega) (fun x hx => ?_)
        obtain ⟨hx0, hx4⟩ := hx
        dsimp only [List.cons_append, List.nil_append]
        rcases (by omega : x = 0 ∨ x = 1 ∨ x = 2 ∨ x = 3 ∨ x = 4) with rfl | rfl | rfl | rfl | rfl
        · skip
          simp only [sof, Int.reduceLT, reduceIte]
          refine awp_seq ?_
          refine awp_region ?_
          refine awl_bin rfl rfl rfl rfl bin_lss ?_
          refine awl_nil ?_
          change AWp _ _ _ _ _ _
          refine awp_seq ?_
          refine awp_cond_t (by first | exact (by decide) | exact decide_eq_true (by decide) | exact decide_eq_false (by decide)) rfl ?_
          refine awp_skip ?_
          change AWp _ _ _ _ _ _
          refine awp_seq ?_
          refine awp_block ?_
          refine awp_seq ?_
          refine awp_region ?_
          refine awl_move rfl rfl ?_
          refine awl_assign rfl rfl ?_
          refine awl_nil ?_
          change AWp _ _ _ _ _ _
          apply awp_drawS [12] [12] [] ((fun (B : Obs) => oget [([], B), ([12], _)]) _)
          · rfl
          · rfl
          · exact hmo_LvE
          · kernel_rfl
          · rfl
          refine awd_s [[]] [(9, _)] (.cons rfl (.nil)) rfl rfl rfl (by kernel_rfl) ?_
          apply Exists.intro
          refine ⟨(⟨fun regs' => ?_, trivial⟩), ?_, ?_⟩
          · skip
            refine awl_move rfl rfl ?_
            exact awl_doneS rfl rfl
          · kernel_rfl
          refine awd_s [[]] [(9, _)] (.cons rfl (.nil)) rfl rfl rfl (by kernel_rfl) ?_
          apply Exists.intro
          refine ⟨(⟨fun regs' => ?_, trivial⟩), ?_, ?_⟩
          · skip
            refine awl_move rfl rfl ?_
            exact awl_doneS rfl rfl
          · kernel_rfl
          refine awd_s [[]] [(7, _)] (.cons rfl (.nil)) rfl rfl rfl (by kernel_rfl) ?_
          apply Exists.intro
          refine ⟨(⟨fun regs' => ?_, trivial⟩), ?_, ?_⟩
          · skip
            first | refine awl_fieldAddr fi70_1_LvE rfl rfl ?_ | refine awl_fieldAddr_i fi70_1_LvE rfl rfl rfl ?_
            exact awl_doneS rfl rfl
          · kernel_rfl
          refine awd_s [[]] [(83, _), (82, _)] (.cons rfl (.cons rfl (.nil))) rfl rfl rfl (by kernel_rfl) ?_
          apply Exists.intro
          refine ⟨(⟨fun regs' => ?_, trivial⟩), ?_, ?_⟩
          · skip
            refine x_arr ai52_LvE ti3_LvE rfl rfl (by omega) (by omega) rfl rfl ?_
            exact awl_doneS rfl rfl
          · kernel_rfl
          refine awd_s [[]] [(84, _)] (.cons rfl (.nil)) rfl rfl rfl (by kernel_rfl) ?_
          apply Exists.intro
          refine ⟨(⟨fun regs' => ?_, trivial⟩), ?_, ?_⟩
          · skip
            first | refine awl_load_one ti3_LvE rfl rfl rfl rfl ?_ | refine awl_load_ione ti3_LvE rfl rfl rfl ?_
            exact awl_doneS rfl rfl
          · kernel_rfl
          refine awd_s [[]] [(9, _)] (.cons rfl (.nil)) rfl rfl rfl (by kernel_rfl) ?_
          apply Exists.intro
          refine ⟨(⟨fun regs' => ?_, trivial⟩), ?_, ?_⟩
          · skip
            refine awl_move rfl rfl ?_
            exact awl_doneS rfl rfl
          · kernel_rfl
          refine awd_s [[]] [(8, _)] (.cons rfl (.nil)) rfl rfl rfl (by kernel_rfl) ?_
          apply Exists.intro
          refine ⟨(⟨fun regs' => ?_, trivial⟩), ?_, ?_⟩
          · skip
            first | refine awl_fieldAddr fi70_1_LvE rfl rfl ?_ | refine awl_fieldAddr_i fi70_1_LvE rfl rfl rfl ?_
            exact awl_doneS rfl rfl
          · kernel_rfl
          refine awd_s [[]] [(87, _), (86, _)] (.cons rfl (.cons rfl (.nil))) rfl rfl rfl (by kernel_rfl) ?_
          apply Exists.intro
          refine ⟨(⟨fun regs' => ?_, trivial⟩), ?_, ?_⟩
          · skip
            refine x_arr ai52_LvE ti3_LvE rfl rfl (by omega) (by omega) rfl rfl ?_
            exact awl_doneS rfl rfl
          · kernel_rfl
          refine awd_s [[]] [(88, _)] (.cons rfl (.nil)) rfl rfl rfl (by kernel_rfl) ?_
          apply Exists.intro
          refine ⟨(⟨fun regs' => ?_, trivial⟩), ?_, ?_⟩
          · skip
            first | refine awl_load_one ti3_LvE rfl rfl rfl rfl ?_ | refine awl_load_ione ti3_LvE rfl rfl rfl ?_
            exact awl_doneS rfl rfl
          · kernel_rfl
          refine awd_s [[]] [(85, _), (89, _)] (.cons rfl (.cons rfl (.nil))) rfl rfl rfl (by kernel_rfl) ?_
          apply Exists.intro
          refine ⟨(⟨fun regs' => ?_, trivial⟩), ?_, ?_⟩
          · skip
            refine awl_max rfl rfl rfl ?_
            exact awl_doneS rfl rfl
          · kernel_rfl
          refine awd_s [[]] [(5, _)] (.cons rfl (.nil)) rfl rfl rfl (by kernel_rfl) ?_
          apply Exists.intro
          refine ⟨(⟨fun regs' => ?_, trivial⟩), ?_, ?_⟩
          · skip
            first | refine awl_fieldAddr fi70_1_LvE rfl rfl ?_ | refine awl_fieldAddr_i fi70_1_LvE rfl rfl rfl ?_
            exact awl_doneS rfl rfl
          · kernel_rfl
          refine awd_s [[]] [(91, _), (81, _)] (.cons rfl (.cons rfl (.nil))) rfl rfl rfl (by kernel_rfl) ?_
          apply Exists.intro
          refine ⟨(⟨fun regs' => ?_, trivial⟩), ?_, ?_⟩
          · skip
            refine x_arr ai52_LvE ti3_LvE rfl rfl (by omega) (by omega) rfl rfl ?_
            exact awl_doneS rfl rfl
          · kernel_rfl
          refine awd_e [] rfl rfl rfl (by kernel_rfl) rfl rfl ?_
          refine ⟨.any, ?_⟩
          refine ⟨?_, ?_, ?_⟩
          · skip
            refine x_store ti3_LvE rfl rfl rfl rfl rfl rfl rfl rfl ?_
            exact awl_done rfl
          · kernel_rfl
          refine awd_endS ?_
          try dsimp only [putd]
          change AWp _ _ _ _ _ _
          refine awp_region ?_
          first | refine awl_bin rfl rfl rfl rfl (bin_add_i (by omega)) ?_ | refine awl_bin rfl rfl rfl rfl bin_add ?_
          refine awl_move rfl rfl ?_
          refine awl_nil ?_
          change ∃ x', _
          refine ⟨1, (by omega), by simp, (Le.mk (.cons rfl (by first | exact Sub.refl _ | exact Sub.ts | exact Sub.nil | (refine Sub.eq ?_; first | (simp; done) | (simp; omega))) (.cons rfl (by first | exact Sub.refl _ | exact Sub.ts | exact Sub.nil | (refine Sub.eq ?_; first | (simp; done) | (simp; omega))) (.cons rfl (by first | exact Sub.refl _ | exact Sub.ts | exact Sub.nil | (refine Sub.eq ?_; first | (simp; done) | (simp; omega))) (.cons rfl (by first | exact Sub.refl _ | exact Sub.ts | exact Sub.nil | (refine Sub.eq ?_; first | (simp; done) | (simp; omega))) (.cons rfl (by first | exact Sub.refl _ | exact Sub.ts | exact Sub.nil | (refine Sub.eq ?_; first | (simp; done) | (simp; omega))) (.cons rfl (by first | exact Sub.refl _ | exact Sub.ts | exact Sub.nil | (refine Sub.eq ?_; first | (simp; done) | (simp; omega))) (.cons rfl (by first | exact Sub.refl _ | exact Sub.ts | exact Sub.nil | (refine Sub.eq ?_; first | (simp; done) | (simp; omega))) (.nil)))))))) (.cons rfl (by first | rfl | (simp; done) | (simp [sof]; done)) (.cons rfl (by first | rfl | (simp; done) | (simp [sof]; done)) (.cons rfl (by first | rfl | (simp; done) | (simp [sof]; done)) (.cons rfl (by first | rfl | (simp; done) | (simp [sof]; done)) (.cons rfl (by first | rfl | (simp; done) | (simp [sof]; done)) (.nil)))))) rfl)⟩
        · skip
          simp only [sof, Int.reduceLT, reduceIte]
          refine awp_seq ?_
          refine awp_region ?_
          refine awl_bin rfl rfl rfl rfl bin_lss ?_
          refine awl_nil ?_
          change AWp _ _ _ _ _ _
          refine awp_seq ?_
          refine awp_cond_t (by first | exact (by decide) | exact decide_eq_true (by decide) | exact decide_eq_false (by decide)) rfl ?_
          refine awp_skip ?_
          change AWp _ _ _ _ _ _
          refine awp_seq ?_
          refine awp_block ?_
          refine awp_seq ?_
          refine awp_region ?_
          refine awl_move rfl rfl ?_
          refine awl_assign rfl rfl ?_
          refine awl_nil ?_
          change AWp _ _ _ _ _ _
          apply awp_drawS [12] [12] [] ((fun (B : Obs) => oget [([], B), ([12], _)]) _)
          · rfl
          · rfl
          · exact hmo_LvE
          · kernel_rfl
          · rfl
          refine awd_s [[]] [(9, _)] (.cons rfl (.nil)) rfl rfl rfl (by kernel_rfl) ?_
          apply Exists.intro
          refine ⟨(⟨fun regs' => ?_, trivial⟩), ?_, ?_⟩
          · skip
            refine awl_move rfl rfl ?_
            exact awl_doneS rfl rfl
          · kernel_rfl
          refine awd_s [[]] [(9, _)] (.cons rfl (.nil)) rfl rfl rfl (by kernel_rfl) ?_
          apply Exists.intro
          refine ⟨(⟨fun regs' => ?_, trivial⟩), ?_, ?_⟩
          · skip
            refine awl_move rfl rfl ?_
            exact awl_doneS rfl rfl
          · kernel_rfl
          refine awd_s [[]] [(7, _)] (.cons rfl (.nil)) rfl rfl rfl (by kernel_rfl) ?_
          apply Exists.intro
          refine ⟨(⟨fun regs' => ?_, trivial⟩), ?_, ?_⟩
          · skip
            first | refine awl_fieldAddr fi70_1_LvE rfl rfl ?_ | refine awl_fieldAddr_i fi70_1_LvE rfl rfl rfl ?_
            exact awl_doneS rfl rfl
          · kernel_rfl
          refine awd_s [[]] [(83, _), (82, _)] (.cons rfl (.cons rfl (.nil))) rfl rfl rfl (by kernel_rfl) ?_
          apply Exists.intro
          refine ⟨(⟨fun regs' => ?_, trivial⟩), ?_, ?_⟩
          · skip
            refine x_arr ai52_LvE ti3_LvE rfl rfl (by omega) (by omega) rfl rfl ?_
            exact awl_doneS rfl rfl
          · kernel_rfl
          refine awd_s [[]] [(84, _)] (.cons rfl (.nil)) rfl rfl rfl (by kernel_rfl) ?_
          apply Exists.intro
          refine ⟨(⟨fun regs' => ?_, trivial⟩), ?_, ?_⟩
          · skip
            first | refine awl_load_one ti3_LvE rfl rfl rfl rfl ?_ | refine awl_load_ione ti3_LvE rfl rfl rfl ?_
            exact awl_doneS rfl rfl
          · kernel_rfl
          refine awd_s [[]] [(9, _)] (.cons rfl (.nil)) rfl rfl rfl (by kernel_rfl) ?_
          apply Exists.intro
          refine ⟨(⟨fun regs' => ?_, trivial⟩), ?_, ?_⟩
          · skip
            refine awl_move rfl rfl ?_
            exact awl_doneS rfl rfl
          · kernel_rfl
          refine awd_s [[]] [(8, _)] (.cons rfl (.nil)) rfl rfl rfl (by kernel_rfl) ?_
          apply Exists.intro
          refine ⟨(⟨fun regs' => ?_, trivial⟩), ?_, ?_⟩
          · skip
            first | refine awl_fieldAddr fi70_1_LvE rfl rfl ?_ | refine awl_fieldAddr_i fi70_1_LvE rfl rfl rfl ?_
            exact awl_doneS rfl rfl
          · kernel_rfl
          refine awd_s [[]] [(87, _), (86, _)] (.cons rfl (.cons rfl (.nil))) rfl rfl rfl (by kernel_rfl) ?_
          apply Exists.intro
          refine ⟨(⟨fun regs' => ?_, trivial⟩), ?_, ?_⟩
          · skip
            refine x_arr ai52_LvE ti3_LvE rfl rfl (by omega) (by omega) rfl rfl ?_
            exact awl_doneS rfl rfl
          · kernel_rfl
          refine awd_s [[]] [(88, _)] (.cons rfl (.nil)) rfl rfl rfl (by kernel_rfl) ?_
          apply Exists.intro
          refine ⟨(⟨fun regs' => ?_, trivial⟩), ?_, ?_⟩
          · skip
            first | refine awl_load_one ti3_LvE rfl rfl rfl rfl ?_ | refine awl_load_ione ti3_LvE rfl rfl rfl ?_
            exact awl_doneS rfl rfl
          · kernel_rfl
          refine awd_s [[]] [(85, _), (89, _)] (.cons rfl (.cons rfl (.nil))) rfl rfl rfl (by kernel_rfl) ?_
          apply Exists.intro
          refine ⟨(⟨fun regs' => ?_, trivial⟩), ?_, ?_⟩
          · skip
            refine awl_max rfl rfl rfl ?_
            exact awl_doneS rfl rfl
          · kernel_rfl
          refine awd_s [[]] [(5, _)] (.cons rfl (.nil)) rfl rfl rfl (by kernel_rfl) ?_
          apply Exists.intro
          refine ⟨(⟨fun regs' => ?_, trivial⟩), ?_, ?_⟩
          · skip
            first | refine awl_fieldAddr fi70_1_LvE rfl rfl ?_ | refine awl_fieldAddr_i fi70_1_LvE rfl rfl rfl ?_
            exact awl_doneS rfl rfl
          · kernel_rfl
          refine awd_s [[]] [(91, _), (81, _)] (.cons rfl (.cons rfl (.nil))) rfl rfl rfl (by kernel_rfl) ?_
          apply Exists.intro
          refine ⟨(⟨fun regs' => ?_, trivial⟩), ?_, ?_⟩
          · skip
            refine x_arr ai52_LvE ti3_LvE rfl rfl (by omega) (by omega) rfl rfl ?_
            exact awl_doneS rfl rfl
          · kernel_rfl
          refine awd_e [] rfl rfl rfl (by kernel_rfl) rfl rfl ?_
          refine ⟨.any, ?_⟩
          refine ⟨?_, ?_, ?_⟩
          · skip
            refine x_store ti3_LvE rfl rfl rfl rfl rfl rfl rfl rfl ?_
            exact awl_done rfl
          · kernel_rfl
          refine awd_endS ?_
          try dsimp only [putd]
          change AWp _ _ _ _ _ _
          refine awp_region ?_
          first | refine awl_bin rfl rfl rfl rfl (bin_add_i (by omega)) ?_ | refine awl_bin rfl rfl rfl rfl bin_add ?_
          refine awl_move rfl rfl ?_
          refine awl_nil ?_
          change ∃ x', _
          refine ⟨2, (by omega), by simp, (Le.mk (.cons rfl (by first | exact Sub.refl _ | exact Sub.ts | exact Sub.nil | (refine Sub.eq ?_; first | (simp; done) | (simp; omega))) (.cons rfl (by first | exact Sub.refl _ | exact Sub.ts | exact Sub.nil | (refine Sub.eq ?_; first | (simp; done) | (simp; omega))) (.cons rfl (by first | exact Sub.refl _ | exact Sub.ts | exact Sub.nil | (refine Sub.eq ?_; first | (simp; done) | (simp; omega))) (.cons rfl (by first | exact Sub.refl _ | exact Sub.ts | exact Sub.nil | (refine Sub.eq ?_; first | (simp; done) | (simp; omega))) (.cons rfl (by first | exact Sub.refl _ | exact Sub.ts | exact Sub.nil | (refine Sub.eq ?_; first | (simp; done) | (simp; omega))) (.cons rfl (by first | exact Sub.refl _ | exact Sub.ts | exact Sub.nil | (refine Sub.eq ?_; first | (simp; done) | (simp; omega))) (.cons rfl (by first | exact Sub.refl _ | exact Sub.ts | exact Sub.nil | (refine Sub.eq ?_; first | (simp; done) | (simp; omega))) (.nil)))))))) (.cons rfl (by first | rfl | (simp; done) | (simp [sof]; done)) (.cons rfl (by first | rfl | (simp; done) | (simp [sof]; done)) (.cons rfl (by first | rfl | (simp; done) | (simp [sof]; done)) (.cons rfl (by first | rfl | (simp; done) | (simp [sof]; done)) (.cons rfl (by first | rfl | (simp; done) | (simp [sof]; done)) (.nil)))))) rfl)⟩
        · skip
          simp only [sof, Int.reduceLT, reduceIte]
          refine awp_seq ?_
          refine awp_region ?_
          refine awl_bin rfl rfl rfl rfl bin_lss ?_
          refine awl_nil ?_
          change AWp _ _ _ _ _ _
          refine awp_seq ?_
          refine awp_cond_t (by first | exact (by decide) | exact decide_eq_true (by decide) | exact decide_eq_false (by decide)) rfl ?_
          refine awp_skip ?_
          change AWp _ _ _ _ _ _
          refine awp_seq ?_
          refine awp_block ?_
          refine awp_seq ?_
          refine awp_region ?_
          refine awl_move rfl rfl ?_
          refine awl_assign rfl rfl ?_
          refine awl_nil ?_
          change AWp _ _ _ _ _ _
          apply awp_drawS [12] [12] [] ((fun (B : Obs) => oget [([], B), ([12], _)]) _)
          · rfl
          · rfl
          · exact hmo_LvE
          · kernel_rfl
          · rfl
          refine awd_s [[]] [(9, _)] (.cons rfl (.nil)) rfl rfl rfl (by kernel_rfl) ?_
          apply Exists.intro
          refine ⟨(⟨fun regs' => ?_, trivial⟩), ?_, ?_⟩
          · skip
            refine awl_move rfl rfl ?_
            exact awl_doneS rfl rfl
          · kernel_rfl
          refine awd_s [[]] [(9, _)] (.cons rfl (.nil)) rfl rfl rfl (by kernel_rfl) ?_
          apply Exists.intro
          refine ⟨(⟨fun regs' => ?_, trivial⟩), ?_, ?_⟩
          · skip
            refine awl_move rfl rfl ?_
            exact awl_doneS rfl rfl
          · kernel_rfl
          refine awd_s [[]] [(7, _)] (.cons rfl (.nil)) rfl rfl rfl (by kernel_rfl) ?_
          apply Exists.intro
          refine ⟨(⟨fun regs' => ?_, trivial⟩), ?_, ?_⟩
          · skip
            first | refine awl_fieldAddr fi70_1_LvE rfl rfl ?_ | refine awl_fieldAddr_i fi70_1_LvE rfl rfl rfl ?_
            exact awl_doneS rfl rfl
          · kernel_rfl
          refine awd_s [[]] [(83, _), (82, _)] (.cons rfl (.cons rfl (.nil))) rfl rfl rfl (by kernel_rfl) ?_
          apply Exists.intro
          refine ⟨(⟨fun regs' => ?_, trivial⟩), ?_, ?_⟩
          · skip
            refine x_arr ai52_LvE ti3_LvE rfl rfl (by omega) (by omega) rfl rfl ?_
            exact awl_doneS rfl rfl
          · kernel_rfl
          refine awd_s [[]] [(84, _)] (.cons rfl (.nil)) rfl rfl rfl (by kernel_rfl) ?_
          apply Exists.intro
          refine ⟨(⟨fun regs' => ?_, trivial⟩), ?_, ?_⟩
          · skip
            first | refine awl_load_one ti3_LvE rfl rfl rfl rfl ?_ | refine awl_load_ione ti3_LvE rfl rfl rfl ?_
            exact awl_doneS rfl rfl
          · kernel_rfl
          refine awd_s [[]] [(9, _)] (.cons rfl (.nil)) rfl rfl rfl (by kernel_rfl) ?_
          apply Exists.intro
          refine ⟨(⟨fun regs' => ?_, trivial⟩), ?_, ?_⟩
          · skip
            refine awl_move rfl rfl ?_
            exact awl_doneS rfl rfl
          · kernel_rfl
          refine awd_s [[]] [(8, _)] (.cons rfl (.nil)) rfl rfl rfl (by kernel_rfl) ?_
          apply Exists.intro
          refine ⟨(⟨fun regs' => ?_, trivial⟩), ?_, ?_⟩
          · skip
            first | refine awl_fieldAddr fi70_1_LvE rfl rfl ?_ | refine awl_fieldAddr_i fi70_1_LvE rfl rfl rfl ?_
            exact awl_doneS rfl rfl
          · kernel_rfl
          refine awd_s [[]] [(87, _), (86, _)] (.cons rfl (.cons rfl (.nil))) rfl rfl rfl (by kernel_rfl) ?_
          apply Exists.intro
          refine ⟨(⟨fun regs' => ?_, trivial⟩), ?_, ?_⟩
          · skip
            refine x_arr ai52_LvE ti3_LvE rfl rfl (by omega) (by omega) rfl rfl ?_
            exact awl_doneS rfl rfl
          · kernel_rfl
          refine awd_s [[]] [(88, _)] (.cons rfl (.nil)) rfl rfl rfl (by kernel_rfl) ?_
          apply Exists.intro
          refine ⟨(⟨fun regs' => ?_, trivial⟩), ?_, ?_⟩
          · skip
            first | refine awl_load_one ti3_LvE rfl rfl rfl rfl ?_ | refine awl_load_ione ti3_LvE rfl rfl rfl ?_
            exact awl_doneS rfl rfl
          · kernel_rfl
          refine awd_s [[]] [(85, _), (89, _)] (.cons rfl (.cons rfl (.nil))) rfl rfl rfl (by kernel_rfl) ?_
          apply Exists.intro
          refine ⟨(⟨fun regs' => ?_, trivial⟩), ?_, ?_⟩
          · skip
            refine awl_max rfl rfl rfl ?_
            exact awl_doneS rfl rfl
          · kernel_rfl
          refine awd_s [[]] [(5, _)] (.cons rfl (.nil)) rfl rfl rfl (by kernel_rfl) ?_
          apply Exists.intro
          refine ⟨(⟨fun regs' => ?_, trivial⟩), ?_, ?_⟩
          · skip
            first | refine awl_fieldAddr fi70_1_LvE rfl rfl ?_ | refine awl_fieldAddr_i fi70_1_LvE rfl rfl rfl ?_
            exact awl_doneS rfl rfl
          · kernel_rfl
          refine awd_s [[]] [(91, _), (81, _)] (.cons rfl (.cons rfl (.nil))) rfl rfl rfl (by kernel_rfl) ?_
          apply Exists.intro
          refine ⟨(⟨fun regs' => ?_, trivial⟩), ?_, ?_⟩
          · skip
            refine x_arr ai52_LvE ti3_LvE rfl rfl (by omega) (by omega) rfl rfl ?_
            exact awl_doneS rfl rfl
          · kernel_rfl
          refine awd_e [] rfl rfl rfl (by kernel_rfl) rfl rfl ?_
          refine ⟨.any, ?_⟩
          refine ⟨?_, ?_, ?_⟩
          · skip
            refine x_store ti3_LvE rfl rfl rfl rfl rfl rfl rfl rfl ?_
            exact awl_done rfl
          · kernel_rfl
          refine awd_endS ?_
          try dsimp only [putd]
          change AWp _ _ _ _ _ _
          refine awp_region ?_
          first | refine awl_bin rfl rfl rfl rfl (bin_add_i (by omega)) ?_ | refine awl_bin rfl rfl rfl rfl bin_add ?_
          refine awl_move rfl rfl ?_
          refine awl_nil ?_
          change ∃ x', _
          refine ⟨3, (by omega), by simp, (Le.mk (.cons rfl (by first | exact Sub.refl _ | exact Sub.ts | exact Sub.nil | (refine Sub.eq ?_; first | (simp; done) | (simp; omega))) (.cons rfl (by first | exact Sub.refl _ | exact Sub.ts | exact Sub.nil | (refine Sub.eq ?_; first | (simp; done) | (simp; omega))) (.cons rfl (by first | exact Sub.refl _ | exact Sub.ts | exact Sub.nil | (refine Sub.eq ?_; first | (simp; done) | (simp; omega))) (.cons rfl (by first | exact Sub.refl _ | exact Sub.ts | exact Sub.nil | (refine Sub.eq ?_; first | (simp; done) | (simp; omega))) (.cons rfl (by first | exact Sub.refl _ | exact Sub.ts | exact Sub.nil | (refine Sub.eq ?_; first | (simp; done) | (simp; omega))) (.cons rfl (by first | exact Sub.refl _ | exact Sub.ts | exact Sub.nil | (refine Sub.eq ?_; first | (simp; done) | (simp; omega))) (.cons rfl (by first | exact Sub.refl _ | exact Sub.ts | exact Sub.nil | (refine Sub.eq ?_; first | (simp; done) | (simp; omega))) (.nil)))))))) (.cons rfl (by first | rfl | (simp; done) | (simp [sof]; done)) (.cons rfl (by first | rfl | (simp; done) | (simp [sof]; done)) (.cons rfl (by first | rfl | (simp; done) | (simp [sof]; done)) (.cons rfl (by first | rfl | (simp; done) | (simp [sof]; done)) (.cons rfl (by first | rfl | (simp; done) | (simp [sof]; done)) (.nil)))))) rfl)⟩
        · skip
          simp only [sof, Int.reduceLT, reduceIte]
          refine awp_seq ?_
          refine awp_region ?_
          refine awl_bin rfl rfl rfl rfl bin_lss ?_
          refine awl_nil ?_
          change AWp _ _ _ _ _ _
          refine awp_seq ?_
          refine awp_cond_t (by first | exact (by decide) | exact decide_eq_true (by decide) | exact decide_eq_false (by decide)) rfl ?_
          refine awp_skip ?_
          change AWp _ _ _ _ _ _
          refine awp_seq ?_
          refine awp_block ?_
          refine awp_seq ?_
          refine awp_region ?_
          refine awl_move rfl rfl ?_
          refine awl_assign rfl rfl ?_
          refine awl_nil ?_
          change AWp _ _ _ _ _ _
          apply awp_drawS [12] [12] [] ((fun (B : Obs) => oget [([], B), ([12], _)]) _)
          · rfl
          · rfl
          · exact hmo_LvE
          · kernel_rfl
          · rfl
          refine awd_s [[]] [(9, _)] (.cons rfl (.nil)) rfl rfl rfl (by kernel_rfl) ?_
          apply Exists.intro
          refine ⟨(⟨fun regs' => ?_, trivial⟩), ?_, ?_⟩
          · skip
            refine awl_move rfl rfl ?_
            exact awl_doneS rfl rfl
          · kernel_rfl
          refine awd_s [[]] [(9, _)] (.cons rfl (.nil)) rfl rfl rfl (by kernel_rfl) ?_
          apply Exists.intro
          refine ⟨(⟨fun regs' => ?_, trivial⟩), ?_, ?_⟩
          · skip
            refine awl_move rfl rfl ?_
            exact awl_doneS rfl rfl
          · kernel_rfl
          refine awd_s [[]] [(7, _)] (.cons rfl (.nil)) rfl rfl rfl (by kernel_rfl) ?_
          apply Exists.intro
          refine ⟨(⟨fun regs' => ?_, trivial⟩), ?_, ?_⟩
          · skip
            first | refine awl_fieldAddr fi70_1_LvE rfl rfl ?_ | refine awl_fieldAddr_i fi70_1_LvE rfl rfl rfl ?_
            exact awl_doneS rfl rfl
          · kernel_rfl
          refine awd_s [[]] [(83, _), (82, _)] (.cons rfl (.cons rfl (.nil))) rfl rfl rfl (by kernel_rfl) ?_
          apply Exists.intro
          refine ⟨(⟨fun regs' => ?_, trivial⟩), ?_, ?_⟩
          · skip
            refine x_arr ai52_LvE ti3_LvE rfl rfl (by omega) (by omega) rfl rfl ?_
            exact awl_doneS rfl rfl
          · kernel_rfl
          refine awd_s [[]] [(84, _)] (.cons rfl (.nil)) rfl rfl rfl (by kernel_rfl) ?_
          apply Exists.intro
          refine ⟨(⟨fun regs' => ?_, trivial⟩), ?_, ?_⟩
          · skip
            first | refine awl_load_one ti3_LvE rfl rfl rfl rfl ?_ | refine awl_load_ione ti3_LvE rfl rfl rfl ?_
            exact awl_doneS rfl rfl
          · kernel_rfl
          refine awd_s [[]] [(9, _)] (.cons rfl (.nil)) rfl rfl rfl (by kernel_rfl) ?_
          apply Exists.intro
          refine ⟨(⟨fun regs' => ?_, trivial⟩), ?_, ?_⟩
          · skip
            refine awl_move rfl rfl ?_
            exact awl_doneS rfl rfl
          · kernel_rfl
          refine awd_s [[]] [(8, _)] (.cons rfl (.nil)) rfl rfl rfl (by kernel_rfl) ?_
          apply Exists.intro
          refine ⟨(⟨fun regs' => ?_, trivial⟩), ?_, ?_⟩
          · skip
            first | refine awl_fieldAddr fi70_1_LvE rfl rfl ?_ | refine awl_fieldAddr_i fi70_1_LvE rfl rfl rfl ?_
            exact awl_doneS rfl rfl
          · kernel_rfl
          refine awd_s [[]] [(87, _), (86, _)] (.cons rfl (.cons rfl (.nil))) rfl rfl rfl (by kernel_rfl) ?_
          apply Exists.intro
          refine ⟨(⟨fun regs' => ?_, trivial⟩), ?_, ?_⟩
          · skip
            refine x_arr ai52_LvE ti3_LvE rfl rfl (by omega) (by omega) rfl rfl ?_
            exact awl_doneS rfl rfl
          · kernel_rfl
          refine awd_s [[]] [(88, _)] (.cons rfl (.nil)) rfl rfl rfl (by kernel_rfl) ?_
          apply Exists.intro
          refine ⟨(⟨fun regs' => ?_, trivial⟩), ?_, ?_⟩
          · skip
            first | refine awl_load_one ti3_LvE rfl rfl rfl rfl ?_ | refine awl_load_ione ti3_LvE rfl rfl rfl ?_
            exact awl_doneS rfl rfl
          · kernel_rfl
          refine awd_s [[]] [(85, _), (89, _)] (.cons rfl (.cons rfl (.nil))) rfl rfl rfl (by kernel_rfl) ?_
          apply Exists.intro
          refine ⟨(⟨fun regs' => ?_, trivial⟩), ?_, ?_⟩
          · skip
            refine awl_max rfl rfl rfl ?_
            exact awl_doneS rfl rfl
          · kernel_rfl
          refine awd_s [[]] [(5, _)] (.cons rfl (.nil)) rfl rfl rfl (by kernel_rfl) ?_
          apply Exists.intro
          refine ⟨(⟨fun regs' => ?_, trivial⟩), ?_, ?_⟩
          · skip
            first | refine awl_fieldAddr fi70_1_LvE rfl rfl ?_ | refine awl_fieldAddr_i fi70_1_LvE rfl rfl rfl ?_
            exact awl_doneS rfl rfl
          · kernel_rfl
          refine awd_s [[]] [(91, _), (81, _)] (.cons rfl (.cons rfl (.nil))) rfl rfl rfl (by kernel_rfl) ?_
          apply Exists.intro
          refine ⟨(⟨fun regs' => ?_, trivial⟩), ?_, ?_⟩
          · skip
            refine x_arr ai52_LvE ti3_LvE rfl rfl (by omega) (by omega) rfl rfl ?_
            exact awl_doneS rfl rfl
          · kernel_rfl
          refine awd_e [] rfl rfl rfl (by kernel_rfl) rfl rfl ?_
          refine ⟨.any, ?_⟩
          refine ⟨?_, ?_, ?_⟩
          · skip
            refine x_store ti3_LvE rfl rfl rfl rfl rfl rfl rfl rfl ?_
            exact awl_done rfl
          · kernel_rfl
          refine awd_endS ?_
          try dsimp only [putd]
          change AWp _ _ _ _ _ _
          refine awp_region ?_
          first | refine awl_bin rfl rfl rfl rfl (bin_add_i (by omega)) ?_ | refine awl_bin rfl rfl rfl rfl bin_add ?_
          refine awl_move rfl rfl ?_
          refine awl_nil ?_
          change ∃ x', _
          refine ⟨4, (by omega), by simp, (Le.mk (.cons rfl (by first | exact Sub.refl _ | exact Sub.ts | exact Sub.nil | (refine Sub.eq ?_; first | (simp; done) | (simp; omega))) (.cons rfl (by first | exact Sub.refl _ | exact Sub.ts | exact Sub.nil | (refine Sub.eq ?_; first | (simp; done) | (simp; omega))) (.cons rfl (by first | exact Sub.refl _ | exact Sub.ts | exact Sub.nil | (refine Sub.eq ?_; first | (simp; done) | (simp; omega))) (.cons rfl (by first | exact Sub.refl _ | exact Sub.ts | exact Sub.nil | (refine Sub.eq ?_; first | (simp; done) | (simp; omega))) (.cons rfl (by first | exact Sub.refl _ | exact Sub.ts | exact Sub.nil | (refine Sub.eq ?_; first | (simp; done) | (simp; omega))) (.cons rfl (by first | exact Sub.refl _ | exact Sub.ts | exact Sub.nil | (refine Sub.eq ?_; first | (simp; done) | (simp; omega))) (.cons rfl (by first | exact Sub.refl _ | exact Sub.ts | exact Sub.nil | (refine Sub.eq ?_; first | (simp; done) | (simp; omega))) (.nil)))))))) (.cons rfl (by first | rfl | (simp; done) | (simp [sof]; done)) (.cons rfl (by first | rfl | (simp; done) | (simp [sof]; done)) (.cons rfl (by first | rfl | (simp; done) | (simp [sof]; done)) (.cons rfl (by first | rfl | (simp; done) | (simp [sof]; done)) (.cons rfl (by first | rfl | (simp; done) | (simp [sof]; done)) (.nil)))))) rfl)⟩
        · skip
          simp only [sof, Int.reduceLT, reduceIte]
          refine awp_seq ?_
          refine awp_region ?_
          refine awl_bin rfl rfl rfl rfl bin_lss ?_
          refine awl_nil ?_
          change AWp _ _ _ _ _ _
          refine awp_seq ?_
          refine awp_cond_f (by first | exact (by decide) | exact decide_eq_true (by decide) | exact decide_eq_false (by decide)) rfl ?_
          refine awp_exit ?_
          change AWp _ _ _ _ _ _
          refine awp_seq ?_
          refine awp_region ?_
          first | refine awl_load_row ti70_LvE rfl rfl rfl rfl ?_ | refine x_irow ti70_LvE rfl rfl rfl rfl ?_
          refine x_store ti70_LvE rfl rfl rfl rfl rfl rfl rfl rfl ?_
          refine awl_nil ?_
          change AWp _ _ _ _ _ _
          refine awp_ret ?_
          change Ends _ _ _ _ _ _
          refine ends1 [] rfl (.row ti70_LvE rfl rfl rfl) ?_ rfl
          first | (refine ⟨fl_eq (f := succF (flatF z a)) ?_, rfl⟩; rw [he, ha]; simp [flK, flatFs, k1]; done) | (refine ⟨fl_eq (f := maxF (flatF z a) (flatF z b)) ?_, rfl⟩; rw [he, ha]; simp [flK, flatFs, k2]; done) | (refine ⟨fl_eq (f := maxF (flatF z a) (flatF z b)) ?_, rfl⟩; rw [he, ha]; simp [flK, flatFs, k3, hb0]; done) | (refine ⟨fl_eq (f := flat0) ?_, rfl⟩; rw [he, ha]; simp [flK, flatFs, k3, hb0]; done) | (rw [he]; simp only [flK, if_neg k1, if_neg k2, if_neg k3, if_pos k4]; rw [if_pos ⟨n0, n1, hbit⟩, hn0]; exact ⟨rfl, rfl⟩) | (refine ⟨fl_eq (f := flat0) ?_, rfl⟩; rw [he]; simp only [flK, if_neg k1, if_neg k2, if_neg k3, if_pos k4]; rw [if_neg]; unfold bitF; omega) | (refine ⟨fl_eq (f := flat0) ?_, rfl⟩; rw [he]; simp [flK, k1, k2, k3, k4]; done)
      · skip
        refine awp_region ?_
        refine awl_bin rfl rfl rfl rfl bin_eql ?_
        refine awl_assign rfl rfl ?_
        refine awl_nil ?_
        change AWp _ _ _ _ _ _
        first | refine awp_cond_p rfl (fun k3 => ?_) (fun k3 => ?_) | refine awp_cond rfl (fun k3 => ?_) (fun k3 => ?_)
        · skip
          obtain ⟨a, b, ha⟩ := ar2 hw (.inr k3)
          have hrow0 := row0 ha
          have hrow1 := row1 ha
          have hda := deep_mem (t := t) (a := a) (by simp [ha])
          have hdb := deep_mem (t := t) (a := b) (by simp [ha])
          have hln : (encLs t.args).length = 2 := by simp [ha]
          refine awp_seq ?_
          apply awp_drawS [12, 13, 14, 15] [14, 15] [(12, 7), (13, 8)] ((fun (B : Obs) => oget [([], B), ([12], (7, .ce 70 [.p (.v (.int .i64 0)), .p (.v (.int .i64 0)), .p (.v (.int .i64 0)), .p (.v (.int .i64 0)), .p (.v (.int .i64 0))]) :: B), ([13], (8, .ce 70 [.p (.v (.int .i64 0)), .p (.v (.int .i64 0)), .p (.v (.int .i64 0)), .p (.v (.int .i64 0)), .p (.v (.int .i64 0))]) :: B), ([12, 13], (8, .ce 70 [.p (.v (.int .i64 0)), .p (.v (.int .i64 0)), .p (.v (.int .i64 0)), .p (.v (.int .i64 0)), .p (.v (.int .i64 0))]) :: (7, .ce 70 [.p (.v (.int .i64 0)), .p (.v (.int .i64 0)), .p (.v (.int .i64 0)), .p (.v (.int .i64 0)), .p (.v (.int .i64 0))]) :: B), ([12, 13, 14], _), ([12, 13, 14, 15], _)]) _)
          · rfl
          · rfl
          · exact hmo_LvE
          · kernel_rfl
          · rfl
          refine awd_s [[12, 13], [12], [13], []] [(2, _)] (.cons rfl (.nil)) rfl rfl rfl (by kernel_rfl) ?_
          apply Exists.intro
          refine ⟨(⟨fun regs' => ?_,⟨fun regs' => ?_,⟨fun regs' => ?_,⟨fun regs' => ?_, trivial⟩⟩⟩⟩), ?_, ?_⟩
          · skip
            first | refine awl_fieldAddr fi39_2_LvE rfl rfl ?_ | refine awl_fieldAddr_i fi39_2_LvE rfl rfl rfl ?_
            exact awl_doneS rfl rfl
          · skip
            first | refine awl_fieldAddr fi39_2_LvE rfl rfl ?_ | refine awl_fieldAddr_i fi39_2_LvE rfl rfl rfl ?_
            exact awl_doneS rfl rfl
          · skip
            first | refine awl_fieldAddr fi39_2_LvE rfl rfl ?_ | refine awl_fieldAddr_i fi39_2_LvE rfl rfl rfl ?_
            exact awl_doneS rfl rfl
          · skip
            first | refine awl_fieldAddr fi39_2_LvE rfl rfl ?_ | refine awl_fieldAddr_i fi39_2_LvE rfl rfl rfl ?_
            exact awl_doneS rfl rfl
          · kernel_rfl
          refine awd_s [[12, 13], [12], [13], []] [(52, _)] (.cons rfl (.nil)) rfl rfl rfl (by kernel_rfl) ?_
          apply Exists.intro
          refine ⟨(⟨fun regs' => ?_,⟨fun regs' => ?_,⟨fun regs' => ?_,⟨fun regs' => ?_, trivial⟩⟩⟩⟩), ?_, ?_⟩
          · skip
            first | refine awl_load_one ti24_LvE rfl rfl rfl rfl ?_ | refine awl_load_ione ti24_LvE rfl rfl rfl ?_
            exact awl_doneS rfl rfl
          · skip
            first | refine awl_load_one ti24_LvE rfl rfl rfl rfl ?_ | refine awl_load_ione ti24_LvE rfl rfl rfl ?_
            exact awl_doneS rfl rfl
          · skip
            first | refine awl_load_one ti24_LvE rfl rfl rfl rfl ?_ | refine awl_load_ione ti24_LvE rfl rfl rfl ?_
            exact awl_doneS rfl rfl
          · skip
            first | refine awl_load_one ti24_LvE rfl rfl rfl rfl ?_ | refine awl_load_ione ti24_LvE rfl rfl rfl ?_
            exact awl_doneS rfl rfl
          · kernel_rfl
          refine awd_s [[12, 13], [12], [13], []] [(53, _)] (.cons rfl (.nil)) rfl rfl rfl (by kernel_rfl) ?_
          apply Exists.intro
          refine ⟨(⟨fun regs' => ?_,⟨fun regs' => ?_,⟨fun regs' => ?_,⟨fun regs' => ?_, trivial⟩⟩⟩⟩), ?_, ?_⟩
          · skip
            refine x_index si24_LvE ti39_LvE rfl rfl rfl rfl (by omega) (by first | omega | (simp only [List.length_map]; omega) | (simp; omega)) (by assumption) rfl ?_
            exact awl_doneS rfl rfl
          · skip
            refine x_index si24_LvE ti39_LvE rfl rfl rfl rfl (by omega) (by first | omega | (simp only [List.length_map]; omega) | (simp; omega)) (by assumption) rfl ?_
            exact awl_doneS rfl rfl
          · skip
            refine x_index si24_LvE ti39_LvE rfl rfl rfl rfl (by omega) (by first | omega | (simp only [List.length_map]; omega) | (simp; omega)) (by assumption) rfl ?_
            exact awl_doneS rfl rfl
          · skip
            refine x_index si24_LvE ti39_LvE rfl rfl rfl rfl (by omega) (by first | omega | (simp only [List.length_map]; omega) | (simp; omega)) (by assumption) rfl ?_
            exact awl_doneS rfl rfl
          · kernel_rfl
          refine awd_s [[12, 13], [12], [13], []] [(54, _)] (.cons rfl (.nil)) rfl rfl rfl (by kernel_rfl) ?_
          apply Exists.intro
          refine ⟨(⟨fun regs' => ?_,⟨fun regs' => ?_,⟨fun regs' => ?_,⟨fun regs' => ?_, trivial⟩⟩⟩⟩), ?_, ?_⟩
          · skip
            first | refine awl_load_row ti39_LvE rfl rfl rfl rfl ?_ | refine x_irow ti39_LvE rfl rfl rfl rfl ?_
            exact awl_doneS rfl rfl
          · skip
            first | refine awl_load_row ti39_LvE rfl rfl rfl rfl ?_ | refine x_irow ti39_LvE rfl rfl rfl rfl ?_
            exact awl_doneS rfl rfl
          · skip
            first | refine awl_load_row ti39_LvE rfl rfl rfl rfl ?_ | refine x_irow ti39_LvE rfl rfl rfl rfl ?_
            exact awl_doneS rfl rfl
          · skip
            first | refine awl_load_row ti39_LvE rfl rfl rfl rfl ?_ | refine x_irow ti39_LvE rfl rfl rfl rfl ?_
            exact awl_doneS rfl rfl
          · kernel_rfl
          refine awd_s [[12, 13], [12], [13], []] [(1, _)] (.cons rfl (.nil)) rfl rfl rfl (by kernel_rfl) ?_
          apply Exists.intro
          refine ⟨(⟨fun regs' => ?_,⟨fun regs' => ?_,⟨fun regs' => ?_,⟨fun regs' => ?_, trivial⟩⟩⟩⟩), ?_, ?_⟩
          · skip
            refine awl_move rfl rfl ?_
            exact awl_doneS rfl rfl
          · skip
            refine awl_move rfl rfl ?_
            exact awl_doneS rfl rfl
          · skip
            refine awl_move rfl rfl ?_
            exact awl_doneS rfl rfl
          · skip
            refine awl_move rfl rfl ?_
            exact awl_doneS rfl rfl
          · kernel_rfl
          refine awd_s [[12, 13], [12], [13], []] [(55, _), (56, _)] (.cons rfl (.cons rfl (.nil))) rfl rfl rfl (by kernel_rfl) ?_
          apply Exists.intro
          refine ⟨(⟨fun regs' => ?_,⟨fun regs' => ?_,⟨fun regs' => ?_,⟨fun regs' => ?_, trivial⟩⟩⟩⟩), ?_, ?_⟩
          · skip
            refine awl_pcall fb55_LvE rfl (ih a (by simp [ha]) (wf_mem hw (by simp [ha])) (by omega)) (.cons (by first | exact Sub.refl _ | exact Sub.ts | exact Sub.nil | exact Sub.agc (by repeat (first | exact .nil | refine .cons (by first | exact Sub.refl _ | exact Sub.nil) ?_))) (.cons (by first | exact Sub.refl _ | exact Sub.ts | exact Sub.nil | exact Sub.agc (by repeat (first | exact .nil | refine .cons (by first | exact Sub.refl _ | exact Sub.nil) ?_))) .nil)) rfl ?_
            exact awl_doneS rfl rfl
          · skip
            refine awl_pcall fb55_LvE rfl (ih a (by simp [ha]) (wf_mem hw (by simp [ha])) (by omega)) (.cons (by first | exact Sub.refl _ | exact Sub.ts | exact Sub.nil | exact Sub.agc (by repeat (first | exact .nil | refine .cons (by first | exact Sub.refl _ | exact Sub.nil) ?_))) (.cons (by first | exact Sub.refl _ | exact Sub.ts | exact Sub.nil | exact Sub.agc (by repeat (first | exact .nil | refine .cons (by first | exact Sub.refl _ | exact Sub.nil) ?_))) .nil)) rfl ?_
            exact awl_doneS rfl rfl
          · skip
            refine awl_pcall fb55_LvE rfl (ih a (by simp [ha]) (wf_mem hw (by simp [ha])) (by omega)) (.cons (by first | exact Sub.refl _ | exact Sub.ts | exact Sub.nil | exact Sub.agc (by repeat (first | exact .nil | refine .cons (by first | exact Sub.refl _ | exact Sub.nil) ?_))) (.cons (by first | exact Sub.refl _ | exact Sub.ts | exact Sub.nil | exact Sub.agc (by repeat (first | exact .nil | refine .cons (by first | exact Sub.refl _ | exact Sub.nil) ?_))) .nil)) rfl ?_
            exact awl_doneS rfl rfl
          · skip
            refine awl_pcall fb55_LvE rfl (ih a (by simp [ha]) (wf_mem hw (by simp [ha])) (by omega)) (.cons (by first | exact Sub.refl _ | exact Sub.ts | exact Sub.nil | exact Sub.agc (by repeat (first | exact .nil | refine .cons (by first | exact Sub.refl _ | exact Sub.nil) ?_))) (.cons (by first | exact Sub.refl _ | exact Sub.ts | exact Sub.nil | exact Sub.agc (by repeat (first | exact .nil | refine .cons (by first | exact Sub.refl _ | exact Sub.nil) ?_))) .nil)) rfl ?_
            exact awl_doneS rfl rfl
          · kernel_rfl
          refine awd_s [[12, 13], [12], [13], []] [(2, _)] (.cons rfl (.nil)) rfl rfl rfl (by kernel_rfl) ?_
          apply Exists.intro
          refine ⟨(⟨fun regs' => ?_,⟨fun regs' => ?_,⟨fun regs' => ?_,⟨fun regs' => ?_, trivial⟩⟩⟩⟩), ?_, ?_⟩
          · skip
            first | refine awl_fieldAddr fi39_2_LvE rfl rfl ?_ | refine awl_fieldAddr_i fi39_2_LvE rfl rfl rfl ?_
            exact awl_doneS rfl rfl
          · skip
            first | refine awl_fieldAddr fi39_2_LvE rfl rfl ?_ | refine awl_fieldAddr_i fi39_2_LvE rfl rfl rfl ?_
            exact awl_doneS rfl rfl
          · skip
            first | refine awl_fieldAddr fi39_2_LvE rfl rfl ?_ | refine awl_fieldAddr_i fi39_2_LvE rfl rfl rfl ?_
            exact awl_doneS rfl rfl
          · skip
            first | refine awl_fieldAddr fi39_2_LvE rfl rfl ?_ | refine awl_fieldAddr_i fi39_2_LvE rfl rfl rfl ?_
            exact awl_doneS rfl rfl
          · kernel_rfl
          refine awd_s [[12, 13], [12], [13], []] [(58, _)] (.cons rfl (.nil)) rfl rfl rfl (by kernel_rfl) ?_
          apply Exists.intro
          refine ⟨(⟨fun regs' => ?_,⟨fun regs' => ?_,⟨fun regs' => ?_,⟨fun regs' => ?_, trivial⟩⟩⟩⟩), ?_, ?_⟩
          · skip
            first | refine awl_load_one ti24_LvE rfl rfl rfl rfl ?_ | refine awl_load_ione ti24_LvE rfl rfl rfl ?_
            exact awl_doneS rfl rfl
          · skip
            first | refine awl_load_one ti24_LvE rfl rfl rfl rfl ?_ | refine awl_load_ione ti24_LvE rfl rfl rfl ?_
            exact awl_doneS rfl rfl
          · skip
            first | refine awl_load_one ti24_LvE rfl rfl rfl rfl ?_ | refine awl_load_ione ti24_LvE rfl rfl rfl ?_
            exact awl_doneS rfl rfl
          · skip
            first | refine awl_load_one ti24_LvE rfl rfl rfl rfl ?_ | refine awl_load_ione ti24_LvE rfl rfl rfl ?_
            exact awl_doneS rfl rfl
          · kernel_rfl
          refine awd_s [[12, 13], [12], [13], []] [(59, _)] (.cons rfl (.nil)) rfl rfl rfl (by kernel_rfl) ?_
          apply Exists.intro
          refine ⟨(⟨fun regs' => ?_,⟨fun regs' => ?_,⟨fun regs' => ?_,⟨fun regs' => ?_, trivial⟩⟩⟩⟩), ?_, ?_⟩
          · skip
            refine x_index si24_LvE ti39_LvE rfl rfl rfl rfl (by omega) (by first | omega | (simp only [List.length_map]; omega) | (simp; omega)) (by assumption) rfl ?_
            exact awl_doneS rfl rfl
          · skip
            refine x_index si24_LvE ti39_LvE rfl rfl rfl rfl (by omega) (by first | omega | (simp only [List.length_map]; omega) | (simp; omega)) (by assumption) rfl ?_
            exact awl_doneS rfl rfl
          · skip
            refine x_index si24_LvE ti39_LvE rfl rfl rfl rfl (by omega) (by first | omega | (simp only [List.length_map]; omega) | (simp; omega)) (by assumption) rfl ?_
            exact awl_doneS rfl rfl
          · skip
            refine x_index si24_LvE ti39_LvE rfl rfl rfl rfl (by omega) (by first | omega | (simp only [List.length_map]; omega) | (simp; omega)) (by assumption) rfl ?_
            exact awl_doneS rfl rfl
          · kernel_rfl
          refine awd_s [[12, 13], [12], [13], []] [(60, _)] (.cons rfl (.nil)) rfl rfl rfl (by kernel_rfl) ?_
          apply Exists.intro
          refine ⟨(⟨fun regs' => ?_,⟨fun regs' => ?_,⟨fun regs' => ?_,⟨fun regs' => ?_, trivial⟩⟩⟩⟩), ?_, ?_⟩
          · skip
            first | refine awl_load_row ti39_LvE rfl rfl rfl rfl ?_ | refine x_irow ti39_LvE rfl rfl rfl rfl ?_
            exact awl_doneS rfl rfl
          · skip
            first | refine awl_load_row ti39_LvE rfl rfl rfl rfl ?_ | refine x_irow ti39_LvE rfl rfl rfl rfl ?_
            exact awl_doneS rfl rfl
          · skip
            first | refine awl_load_row ti39_LvE rfl rfl rfl rfl ?_ | refine x_irow ti39_LvE rfl rfl rfl rfl ?_
            exact awl_doneS rfl rfl
          · skip
            first | refine awl_load_row ti39_LvE rfl rfl rfl rfl ?_ | refine x_irow ti39_LvE rfl rfl rfl rfl ?_
            exact awl_doneS rfl rfl
          · kernel_rfl
          refine awd_s [[12, 13], [12], [13], []] [(1, _)] (.cons rfl (.nil)) rfl rfl rfl (by kernel_rfl) ?_
          apply Exists.intro
          refine ⟨(⟨fun regs' => ?_,⟨fun regs' => ?_,⟨fun regs' => ?_,⟨fun regs' => ?_, trivial⟩⟩⟩⟩), ?_, ?_⟩
          · skip
            refine awl_move rfl rfl ?_
            exact awl_doneS rfl rfl
          · skip
            refine awl_move rfl rfl ?_
            exact awl_doneS rfl rfl
          · skip
            refine awl_move rfl rfl ?_
            exact awl_doneS rfl rfl
          · skip
            refine awl_move rfl rfl ?_
            exact awl_doneS rfl rfl
          · kernel_rfl
          refine awd_s [[12, 13], [12], [13], []] [(61, _), (62, _)] (.cons rfl (.cons rfl (.nil))) rfl rfl rfl (by kernel_rfl) ?_
          apply Exists.intro
          refine ⟨(⟨fun regs' => ?_,⟨fun regs' => ?_,⟨fun regs' => ?_,⟨fun regs' => ?_, trivial⟩⟩⟩⟩), ?_, ?_⟩
          · skip
            refine awl_pcall fb55_LvE rfl (ih b (by simp [ha]) (wf_mem hw (by simp [ha])) (by omega)) (.cons (by first | exact Sub.refl _ | exact Sub.ts | exact Sub.nil | exact Sub.agc (by repeat (first | exact .nil | refine .cons (by first | exact Sub.refl _ | exact Sub.nil) ?_))) (.cons (by first | exact Sub.refl _ | exact Sub.ts | exact Sub.nil | exact Sub.agc (by repeat (first | exact .nil | refine .cons (by first | exact Sub.refl _ | exact Sub.nil) ?_))) .nil)) rfl ?_
            exact awl_doneS rfl rfl
          · skip
            refine awl_pcall fb55_LvE rfl (ih b (by simp [ha]) (wf_mem hw (by simp [ha])) (by omega)) (.cons (by first | exact Sub.refl _ | exact Sub.ts | exact Sub.nil | exact Sub.agc (by repeat (first | exact .nil | refine .cons (by first | exact Sub.refl _ | exact Sub.nil) ?_))) (.cons (by first | exact Sub.refl _ | exact Sub.ts | exact Sub.nil | exact Sub.agc (by repeat (first | exact .nil | refine .cons (by first | exact Sub.refl _ | exact Sub.nil) ?_))) .nil)) rfl ?_
            exact awl_doneS rfl rfl
          · skip
            refine awl_pcall fb55_LvE rfl (ih b (by simp [ha]) (wf_mem hw (by simp [ha])) (by omega)) (.cons (by first | exact Sub.refl _ | exact Sub.ts | exact Sub.nil | exact Sub.agc (by repeat (first | exact .nil | refine .cons (by first | exact Sub.refl _ | exact Sub.nil) ?_))) (.cons (by first | exact Sub.refl _ | exact Sub.ts | exact Sub.nil | exact Sub.agc (by repeat (first | exact .nil | refine .cons (by first | exact Sub.refl _ | exact Sub.nil) ?_))) .nil)) rfl ?_
            exact awl_doneS rfl rfl
          · skip
            refine awl_pcall fb55_LvE rfl (ih b (by simp [ha]) (wf_mem hw (by simp [ha])) (by omega)) (.cons (by first | exact Sub.refl _ | exact Sub.ts | exact Sub.nil | exact Sub.agc (by repeat (first | exact .nil | refine .cons (by first | exact Sub.refl _ | exact Sub.nil) ?_))) (.cons (by first | exact Sub.refl _ | exact Sub.ts | exact Sub.nil | exact Sub.agc (by repeat (first | exact .nil | refine .cons (by first | exact Sub.refl _ | exact Sub.nil) ?_))) .nil)) rfl ?_
            exact awl_doneS rfl rfl
          · kernel_rfl
          refine awd_new [[13], []] tz70_LvE rfl rfl (by rw [hcx]; rfl) rfl rfl (by kernel_rfl) rfl (by kernel_rfl) (⟨⟨by repeat (first | exact .nil | refine .cons rfl rfl ?_), rfl⟩,⟨⟨by repeat (first | exact .nil | refine .cons rfl rfl ?_), rfl⟩, trivial⟩⟩) ?_
          refine awd_new [[12], []] tz70_LvE rfl rfl (by rw [hcx]; rfl) rfl rfl (by kernel_rfl) rfl (by kernel_rfl) (⟨⟨by repeat (first | exact .nil | refine .cons rfl rfl ?_), rfl⟩,⟨⟨by repeat (first | exact .nil | refine .cons rfl rfl ?_), rfl⟩, trivial⟩⟩) ?_
          refine awd_e [12, 13] rfl rfl rfl (by kernel_rfl) rfl rfl ?_
          refine ⟨.any, ?_⟩
          refine ⟨?_, ?_, ?_⟩
          · skip
            refine x_store ti70_LvE rfl rfl rfl rfl rfl rfl rfl rfl ?_
            exact awl_done rfl
          · kernel_rfl
          refine awd_e [12, 13, 14] rfl rfl rfl (by kernel_rfl) rfl rfl ?_
          refine ⟨.any, ?_⟩
          refine ⟨?_, ?_, ?_⟩
          · skip
            refine x_store ti70_LvE rfl rfl rfl rfl rfl rfl rfl rfl ?_
            exact awl_done rfl
          · kernel_rfl
          refine awd_endS ?_
          try dsimp only [putd]
          change AWp _ _ _ _ _ _
          refine awp_seq ?_
          refine awp_seq ?_
          refine awp_region ?_
          first | refine awl_fieldAddr fi39_0_LvE rfl rfl ?_ | refine awl_fieldAddr_i fi39_0_LvE rfl rfl rfl ?_
          first | refine awl_load_one ti3_LvE rfl rfl rfl rfl ?_ | refine awl_load_ione ti3_LvE rfl rfl rfl ?_
          refine awl_bin rfl rfl rfl rfl bin_eql ?_
          refine awl_move rfl rfl ?_
          refine awl_guard_yes rfl (by first | exact k3 | exact decide_eq_true k3 | exact decide_eq_false k3) rfl rfl ?_
          first | refine awl_load_row ti70_LvE rfl rfl rfl rfl ?_ | refine x_irow ti70_LvE rfl rfl rfl rfl ?_
          refine awl_guard_yes rfl (by first | exact k3 | exact decide_eq_true k3 | exact decide_eq_false k3) rfl rfl ?_
          refine awl_pcall fb65_LvE rfl (zero_con (flatF z b)) (.cons (by first | exact Sub.refl _ | exact Sub.ts | exact Sub.nil | exact Sub.agc (by repeat (first | exact .nil | refine .cons (by first | exact Sub.refl _ | exact Sub.nil) ?_))) .nil) rfl ?_
          refine awl_pick_t (by first | exact k3 | exact decide_eq_true k3 | exact decide_eq_false k3) rfl rfl rfl ?_
          refine awl_nil ?_
          change AWp _ _ _ _ _ _
          first | refine awp_cond_p rfl (fun hb0 => ?_) (fun hb0 => ?_) | refine awp_cond rfl (fun hb0 => ?_) (fun hb0 => ?_)
          · skip
            refine awp_seq ?_
            refine awp_region ?_
            first | refine awl_load_row ti70_LvE rfl rfl rfl rfl ?_ | refine x_irow ti70_LvE rfl rfl rfl rfl ?_
            refine x_store ti70_LvE rfl rfl rfl rfl rfl rfl rfl rfl ?_
            refine awl_nil ?_
            change AWp _ _ _ _ _ _
            refine awp_ret ?_
            change Ends _ _ _ _ _ _
            refine ends1 [] rfl (.row ti70_LvE rfl rfl rfl) ?_ rfl
            first | (refine ⟨fl_eq (f := succF (flatF z a)) ?_, rfl⟩; rw [he, ha]; simp [flK, flatFs, k1]; done) | (refine ⟨fl_eq (f := maxF (flatF z a) (flatF z b)) ?_, rfl⟩; rw [he, ha]; simp [flK, flatFs, k2]; done) | (refine ⟨fl_eq (f := maxF (flatF z a) (flatF z b)) ?_, rfl⟩; rw [he, ha]; simp [flK, flatFs, k3, hb0]; done) | (refine ⟨fl_eq (f := flat0) ?_, rfl⟩; rw [he, ha]; simp [flK, flatFs, k3, hb0]; done) | (rw [he]; simp only [flK, if_neg k1, if_neg k2, if_neg k3, if_pos k4]; rw [if_pos ⟨n0, n1, hbit⟩, hn0]; exact ⟨rfl, rfl⟩) | (refine ⟨fl_eq (f := flat0) ?_, rfl⟩; rw [he]; simp only [flK, if_neg k1, if_neg k2, if_neg k3, if_pos k4]; rw [if_neg]; unfold bitF; omega) | (refine ⟨fl_eq (f := flat0) ?_, rfl⟩; rw [he]; simp [flK, k1, k2, k3, k4]; done)
          · skip
            refine awp_skip ?_
            change AWp _ _ _ _ _ _
            refine awp_seq ?_
            refine awp_region ?_
            first | refine awl_fieldAddr fi70_0_LvE rfl rfl ?_ | refine awl_fieldAddr_i fi70_0_LvE rfl rfl rfl ?_
            first | refine awl_load_one ti3_LvE rfl rfl rfl rfl ?_ | refine awl_load_ione ti3_LvE rfl rfl rfl ?_
            first | refine awl_fieldAddr fi70_0_LvE rfl rfl ?_ | refine awl_fieldAddr_i fi70_0_LvE rfl rfl rfl ?_
            first | refine awl_load_one ti3_LvE rfl rfl rfl rfl ?_ | refine awl_load_ione ti3_LvE rfl rfl rfl ?_
            refine awl_max rfl rfl rfl ?_
            first | refine awl_fieldAddr fi70_0_LvE rfl rfl ?_ | refine awl_fieldAddr_i fi70_0_LvE rfl rfl rfl ?_
            refine x_store ti3_LvE rfl rfl rfl rfl rfl rfl rfl rfl ?_
            refine awl_nil ?_
            change AWp _ _ _ _ _ _
            refine awp_seq ?_
            refine awp_region ?_
            refine awl_move rfl rfl ?_
            refine awl_nil ?_
            change AWp _ _ _ _ _ _
            refine awp_block ?_
            refine x_loop [(1, _), (2, _), (4, _), (5, _), (7, _), (8, _)] [(4, _), (2, _), (7, _), (8, _)] (fun x : Int => [(78, .p (I x))]) (fun x => [(5, .ce 70 [.p (I (max (flatF z a).b (flatF z b).b)), .p (I (sof x 0 (max (flatF z a).p0 (flatF z b).p0) (-1))), .p (I (sof x 1 (max (flatF z a).p1 (flatF z b).p1) (-1))), .p (I (sof x 2 (max (flatF z a).p2 (flatF z b).p2) (-1))), .p (I (sof x 3 (max (flatF z a).p3 (flatF z b).p3) (-1)))])]) (fun x => 0 ≤ x ∧ x ≤ 4) (fun x => (4 - x).toNat) 0 (Le.mk (.cons rfl (by first | exact Sub.refl _ | exact Sub.ts | exact Sub.nil | (refine Sub.eq ?_; first | (simp; done) | (simp; omega))) (.cons rfl (by first | exact Sub.refl _ | exact Sub.ts | exact Sub.nil | (refine Sub.eq ?_; first | (simp; done) | (simp; omega))) (.cons rfl (by first | exact Sub.refl _ | exact Sub.ts | exact Sub.nil | (refine Sub.eq ?_; first | (simp; done) | (simp; omega))) (.cons rfl (by first | exact Sub.refl _ | exact Sub.ts | exact Sub.nil | (refine Sub.eq ?_; first | (simp; done) | (simp; omega))) (.cons rfl (by first | exact Sub.refl _ | exact Sub.ts | exact Sub.nil | (refine Sub.eq ?_; first | (simp; done) | (simp; omega))) (.cons rfl (by first | exact Sub.refl _ | exact Sub.ts | exact Sub.nil | (refine Sub.eq ?_; first | (simp; done) | (simp; omega))) (.cons rfl (by first | exact Sub.refl _ | exact Sub.ts | exact Sub.nil | (refine Sub.eq ?_; first | (simp; done) | (simp; omega))) (.nil)))))))) (.cons rfl (by first | rfl | (simp; done) | (simp [sof]; done)) (.cons rfl (by first | rfl | (simp; done) | (simp [sof]; done)) (.cons rfl (by first | rfl | (simp; done) | (simp [sof]; done)) (.cons rfl (by first | rfl | (simp; done) | (simp [sof]; done)) (.cons rfl (by first | rfl | (simp; done) | (simp [sof]; done)) (.nil)))))) rfl) (by omega) (fun x hx => ?_)
            obtain ⟨hx0, hx4⟩ := hx
            dsimp only [List.cons_append, List.nil_append]
            rcases (by omega : x = 0 ∨ x = 1 ∨ x = 2 ∨ x = 3 ∨ x = 4) with rfl | rfl | rfl | rfl | rfl
            · skip
              simp only [sof, Int.reduceLT, reduceIte]
              refine awp_seq ?_
              refine awp_region ?_
              refine awl_bin rfl rfl rfl rfl bin_lss ?_
              refine awl_nil ?_
              change AWp _ _ _ _ _ _
              refine awp_seq ?_
              refine awp_cond_t (by first | exact (by decide) | exact decide_eq_true (by decide) | exact decide_eq_false (by decide)) rfl ?_
              refine awp_skip ?_
              change AWp _ _ _ _ _ _
              refine awp_seq ?_
              refine awp_block ?_
              refine awp_seq ?_
              refine awp_region ?_
              refine awl_move rfl rfl ?_
              refine awl_assign rfl rfl ?_
              refine awl_nil ?_
              change AWp _ _ _ _ _ _
              apply awp_drawS [12] [12] [] ((fun (B : Obs) => oget [([], B), ([12], _)]) _)
              · rfl
              · rfl
              · exact hmo_LvE
              · kernel_rfl
              · rfl
              refine awd_s [[]] [(9, _)] (.cons rfl (.nil)) rfl rfl rfl (by kernel_rfl) ?_
              apply Exists.intro
              refine ⟨(⟨fun regs' => ?_, trivial⟩), ?_, ?_⟩
              · skip
                refine awl_move rfl rfl ?_
                exact awl_doneS rfl rfl
              · kernel_rfl
              refine awd_s [[]] [(9, _)] (.cons rfl (.nil)) rfl rfl rfl (by kernel_rfl) ?_
              apply Exists.intro
              refine ⟨(⟨fun regs' => ?_, trivial⟩), ?_, ?_⟩
              · skip
                refine awl_move rfl rfl ?_
                exact awl_doneS rfl rfl
              · kernel_rfl
              refine awd_s [[]] [(7, _)] (.cons rfl (.nil)) rfl rfl rfl (by kernel_rfl) ?_
              apply Exists.intro
              refine ⟨(⟨fun regs' => ?_, trivial⟩), ?_, ?_⟩
              · skip
                first | refine awl_fieldAddr fi70_1_LvE rfl rfl ?_ | refine awl_fieldAddr_i fi70_1_LvE rfl rfl rfl ?_
                exact awl_doneS rfl rfl
              · kernel_rfl
              refine awd_s [[]] [(83, _), (82, _)] (.cons rfl (.cons rfl (.nil))) rfl rfl rfl (by kernel_rfl) ?_
              apply Exists.intro
              refine ⟨(⟨fun regs' => ?_, trivial⟩), ?_, ?_⟩
              · skip
                refine x_arr ai52_LvE ti3_LvE rfl rfl (by omega) (by omega) rfl rfl ?_
                exact awl_doneS rfl rfl
              · kernel_rfl
              refine awd_s [[]] [(84, _)] (.cons rfl (.nil)) rfl rfl rfl (by kernel_rfl) ?_
              apply Exists.intro
              refine ⟨(⟨fun regs' => ?_, trivial⟩), ?_, ?_⟩
              · skip
                first | refine awl_load_one ti3_LvE rfl rfl rfl rfl ?_ | refine awl_load_ione ti3_LvE rfl rfl rfl ?_
                exact awl_doneS rfl rfl
              · kernel_rfl
              refine awd_s [[]] [(9, _)] (.cons rfl (.nil)) rfl rfl rfl (by kernel_rfl) ?_
              apply Exists.intro
              refine ⟨(⟨fun regs' => ?_, trivial⟩), ?_, ?_⟩
              · skip
                refine awl_move rfl rfl ?_
                exact awl_doneS rfl rfl
              · kernel_rfl
              refine awd_s [[]] [(8, _)] (.cons rfl (.nil)) rfl rfl rfl (by kernel_rfl) ?_
              apply Exists.intro
              refine ⟨(⟨fun regs' => ?_, trivial⟩), ?_, ?_⟩
              · skip
                first | refine awl_fieldAddr fi70_1_LvE rfl rfl ?_ | refine awl_fieldAddr_i fi70_1_LvE rfl rfl rfl ?_
                exact awl_doneS rfl rfl
              · kernel_rfl
              refine awd_s [[]] [(87, _), (86, _)] (.cons rfl (.cons rfl (.nil))) rfl rfl rfl (by kernel_rfl) ?_
              apply Exists.intro
              refine ⟨(⟨fun regs' => ?_, trivial⟩), ?_, ?_⟩
              · skip
                refine x_arr ai52_LvE ti3_LvE rfl rfl (by omega) (by omega) rfl rfl ?_
                exact awl_doneS rfl rfl
              · kernel_rfl
              refine awd_s [[]] [(88, _)] (.cons rfl (.nil)) rfl rfl rfl (by kernel_rfl) ?_
              apply Exists.intro
              refine ⟨(⟨fun regs' => ?_, trivial⟩), ?_, ?_⟩
              · skip
                first | refine awl_load_one ti3_LvE rfl rfl rfl rfl ?_ | refine awl_load_ione ti3_LvE rfl rfl rfl ?_
                exact awl_doneS rfl rfl
              · kernel_rfl
              refine awd_s [[]] [(85, _), (89, _)] (.cons rfl (.cons rfl (.nil))) rfl rfl rfl (by kernel_rfl) ?_
              apply Exists.intro
              refine ⟨(⟨fun regs' => ?_, trivial⟩), ?_, ?_⟩
              · skip
                refine awl_max rfl rfl rfl ?_
                exact awl_doneS rfl rfl
              · kernel_rfl
              refine awd_s [[]] [(5, _)] (.cons rfl (.nil)) rfl rfl rfl (by kernel_rfl) ?_
              apply Exists.intro
              refine ⟨(⟨fun regs' => ?_, trivial⟩), ?_, ?_⟩
              · skip
                first | refine awl_fieldAddr fi70_1_LvE rfl rfl ?_ | refine awl_fieldAddr_i fi70_1_LvE rfl rfl rfl ?_
                exact awl_doneS rfl rfl
              · kernel_rfl
              refine awd_s [[]] [(91, _), (81, _)] (.cons rfl (.cons rfl (.nil))) rfl rfl rfl (by kernel_rfl) ?_
              apply Exists.intro
              refine ⟨(⟨fun regs' => ?_, trivial⟩), ?_, ?_⟩
              · skip
                refine x_arr ai52_LvE ti3_LvE rfl rfl (by omega) (by omega) rfl rfl ?_
                exact awl_doneS rfl rfl
              · kernel_rfl
              refine awd_e [] rfl rfl rfl (by kernel_rfl) rfl rfl ?_
              refine ⟨.any, ?_⟩
              refine ⟨?_, ?_, ?_⟩
              · skip
                refine x_store ti3_LvE rfl rfl rfl rfl rfl rfl rfl rfl ?_
                exact awl_done rfl
              · kernel_rfl
              refine awd_endS ?_
              try dsimp only [putd]
              change AWp _ _ _ _ _ _
              refine awp_region ?_
              first | refine awl_bin rfl rfl rfl rfl (bin_add_i (by omega)) ?_ | refine awl_bin rfl rfl rfl rfl bin_add ?_
              refine awl_move rfl rfl ?_
              refine awl_nil ?_
              change ∃ x', _
              refine ⟨1, (by omega), by simp, (Le.mk (.cons rfl (by first | exact Sub.refl _ | exact Sub.ts | exact Sub.nil | (refine Sub.eq ?_; first | (simp; done) | (simp; omega))) (.cons rfl (by first | exact Sub.refl _ | exact Sub.ts | exact Sub.nil | (refine Sub.eq ?_; first | (simp; done) | (simp; omega))) (.cons rfl (by first | exact Sub.refl _ | exact Sub.ts | exact Sub.nil | (refine Sub.eq ?_; first | (simp; done) | (simp; omega))) (.cons rfl (by first | exact Sub.refl _ | exact Sub.ts | exact Sub.nil | (refine Sub.eq ?_; first | (simp; done) | (simp; omega))) (.cons rfl (by first | exact Sub.refl _ | exact Sub.ts | exact Sub.nil | (refine Sub.eq ?_; first | (simp; done) | (simp; omega))) (.cons rfl (by first | exact Sub.refl _ | exact Sub.ts | exact Sub.nil | (refine Sub.eq ?_; first | (simp; done) | (simp; omega))) (.cons rfl (by first | exact Sub.refl _ | exact Sub.ts | exact Sub.nil | (refine Sub.eq ?_; first | (simp; done) | (simp; omega))) (.nil)))))))) (.cons rfl (by first | rfl | (simp; done) | (simp [sof]; done)) (.cons rfl (by first | rfl | (simp; done) | (simp [sof]; done)) (.cons rfl (by first | rfl | (simp; done) | (simp [sof]; done)) (.cons rfl (by first | rfl | (simp; done) | (simp [sof]; done)) (.cons rfl (by first | rfl | (simp; done) | (simp [sof]; done)) (.nil)))))) rfl)⟩
            · skip
              simp only [sof, Int.reduceLT, reduceIte]
              refine awp_seq ?_
              refine awp_region ?_
              refine awl_bin rfl rfl rfl rfl bin_lss ?_
              refine awl_nil ?_
              change AWp _ _ _ _ _ _
              refine awp_seq ?_
              refine awp_cond_t (by first | exact (by decide) | exact decide_eq_true (by decide) | exact decide_eq_false (by decide)) rfl ?_
              refine awp_skip ?_
              change AWp _ _ _ _ _ _
              refine awp_seq ?_
              refine awp_block ?_
              refine awp_seq ?_
              refine awp_region ?_
              refine awl_move rfl rfl ?_
              refine awl_assign rfl rfl ?_
              refine awl_nil ?_
              change AWp _ _ _ _ _ _
              apply awp_drawS [12] [12] [] ((fun (B : Obs) => oget [([], B), ([12], _)]) _)
              · rfl
              · rfl
              · exact hmo_LvE
              · kernel_rfl
              · rfl
              refine awd_s [[]] [(9, _)] (.cons rfl (.nil)) rfl rfl rfl (by kernel_rfl) ?_
              apply Exists.intro
              refine ⟨(⟨fun regs' => ?_, trivial⟩), ?_, ?_⟩
              · skip
                refine awl_move rfl rfl ?_
                exact awl_doneS rfl rfl
              · kernel_rfl
              refine awd_s [[]] [(9, _)] (.cons rfl (.nil)) rfl rfl rfl (by kernel_rfl) ?_
              apply Exists.intro
              refine ⟨(⟨fun regs' => ?_, trivial⟩), ?_, ?_⟩
              · skip
                refine awl_move rfl rfl ?_
                exact awl_doneS rfl rfl
              · kernel_rfl
              refine awd_s [[]] [(7, _)] (.cons rfl (.nil)) rfl rfl rfl (by kernel_rfl) ?_
              apply Exists.intro
              refine ⟨(⟨fun regs' => ?_, trivial⟩), ?_, ?_⟩
              · skip
                first | refine awl_fieldAddr fi70_1_LvE rfl rfl ?_ | refine awl_fieldAddr_i fi70_1_LvE rfl rfl rfl ?_
                exact awl_doneS rfl rfl
              · kernel_rfl
              refine awd_s [[]] [(83, _), (82, _)] (.cons rfl (.cons rfl (.nil))) rfl rfl rfl (by kernel_rfl) ?_
              apply Exists.intro
              refine ⟨(⟨fun regs' => ?_, trivial⟩), ?_, ?_⟩
              · skip
                refine x_arr ai52_LvE ti3_LvE rfl rfl (by omega) (by omega) rfl rfl ?_
                exact awl_doneS rfl rfl
              · kernel_rfl
              refine awd_s [[]] [(84, _)] (.cons rfl (.nil)) rfl rfl rfl (by kernel_rfl) ?_
              apply Exists.intro
              refine ⟨(⟨fun regs' => ?_, trivial⟩), ?_, ?_⟩
              · skip
                first | refine awl_load_one ti3_LvE rfl rfl rfl rfl ?_ | refine awl_load_ione ti3_LvE rfl rfl rfl ?_
                exact awl_doneS rfl rfl
              · kernel_rfl
              refine awd_s [[]] [(9, _)] (.cons rfl (.nil)) rfl rfl rfl (by kernel_rfl) ?_
              apply Exists.intro
              refine ⟨(⟨fun regs' => ?_, trivial⟩), ?_, ?_⟩
              · skip
                refine awl_move rfl rfl ?_
                exact awl_doneS rfl rfl
              · kernel_rfl
              refine awd_s [[]] [(8, _)] (.cons rfl (.nil)) rfl rfl rfl (by kernel_rfl) ?_
              apply Exists.intro
              refine ⟨(⟨fun regs' => ?_, trivial⟩), ?_, ?_⟩
              · skip
                first | refine awl_fieldAddr fi70_1_LvE rfl rfl ?_ | refine awl_fieldAddr_i fi70_1_LvE rfl rfl rfl ?_
                exact awl_doneS rfl rfl
              · kernel_rfl
              refine awd_s [[]] [(87, _), (86, _)] (.cons rfl (.cons rfl (.nil))) rfl rfl rfl (by kernel_rfl) ?_
              apply Exists.intro
              refine ⟨(⟨fun regs' => ?_, trivial⟩), ?_, ?_⟩
              · skip
                refine x_arr ai52_LvE ti3_LvE rfl rfl (by omega) (by omega) rfl rfl ?_
                exact awl_doneS rfl rfl
              · kernel_rfl
              refine awd_s [[]] [(88, _)] (.cons rfl (.nil)) rfl rfl rfl (by kernel_rfl) ?_
              apply Exists.intro
              refine ⟨(⟨fun regs' => ?_, trivial⟩), ?_, ?_⟩
              · skip
                first | refine awl_load_one ti3_LvE rfl rfl rfl rfl ?_ | refine awl_load_ione ti3_LvE rfl rfl rfl ?_
                exact awl_doneS rfl rfl
              · kernel_rfl
              refine awd_s [[]] [(85, _), (89, _)] (.cons rfl (.cons rfl (.nil))) rfl rfl rfl (by kernel_rfl) ?_
              apply Exists.intro
              refine ⟨(⟨fun regs' => ?_, trivial⟩), ?_, ?_⟩
              · skip
                refine awl_max rfl rfl rfl ?_
                exact awl_doneS rfl rfl
              · kernel_rfl
              refine awd_s [[]] [(5, _)] (.cons rfl (.nil)) rfl rfl rfl (by kernel_rfl) ?_
              apply Exists.intro
              refine ⟨(⟨fun regs' => ?_, trivial⟩), ?_, ?_⟩
              · skip
                first | refine awl_fieldAddr fi70_1_LvE rfl rfl ?_ | refine awl_fieldAddr_i fi70_1_LvE rfl rfl rfl ?_
                exact awl_doneS rfl rfl
              · kernel_rfl
              refine awd_s [[]] [(91, _), (81, _)] (.cons rfl (.cons rfl (.nil))) rfl rfl rfl (by kernel_rfl) ?_
              apply Exists.intro
              refine ⟨(⟨fun regs' => ?_, trivial⟩), ?_, ?_⟩
              · skip
                refine x_arr ai52_LvE ti3_LvE rfl rfl (by omega) (by omega) rfl rfl ?_
                exact awl_doneS rfl rfl
              · kernel_rfl
              refine awd_e [] rfl rfl rfl (by kernel_rfl) rfl rfl ?_
              refine ⟨.any, ?_⟩
              refine ⟨?_, ?_, ?_⟩
              · skip
                refine x_store ti3_LvE rfl rfl rfl rfl rfl rfl rfl rfl ?_
                exact awl_done rfl
              · kernel_rfl
              refine awd_endS ?_
              try dsimp only [putd]
              change AWp _ _ _ _ _ _
              refine awp_region ?_
              first | refine awl_bin rfl rfl rfl rfl (bin_add_i (by omega)) ?_ | refine awl_bin rfl rfl rfl rfl bin_add ?_
              refine awl_move rfl rfl ?_
              refine awl_nil ?_
              change ∃ x', _
              refine ⟨2, (by omega), by simp, (Le.mk (.cons rfl (by first | exact Sub.refl _ | exact Sub.ts | exact Sub.nil | (refine Sub.eq ?_; first | (simp; done) | (simp; omega))) (.cons rfl (by first | exact Sub.refl _ | exact Sub.ts | exact Sub.nil | (refine Sub.eq ?_; first | (simp; done) | (simp; omega))) (.cons rfl (by first | exact Sub.refl _ | exact Sub.ts | exact Sub.nil | (refine Sub.eq ?_; first | (simp; done) | (simp; omega))) (.cons rfl (by first | exact Sub.refl _ | exact Sub.ts | exact Sub.nil | (refine Sub.eq ?_; first | (simp; done) | (simp; omega))) (.cons rfl (by first | exact Sub.refl _ | exact Sub.ts | exact Sub.nil | (refine Sub.eq ?_; first | (simp; done) | (simp; omega))) (.cons rfl (by first | exact Sub.refl _ | exact Sub.ts | exact Sub.nil | (refine Sub.eq ?_; first | (simp; done) | (simp; omega))) (.cons rfl (by first | exact Sub.refl _ | exact Sub.ts | exact Sub.nil | (refine Sub.eq ?_; first | (simp; done) | (simp; omega))) (.nil)))))))) (.cons rfl (by first | rfl | (simp; done) | (simp [sof]; done)) (.cons rfl (by first | rfl | (simp; done) | (simp [sof]; done)) (.cons rfl (by first | rfl | (simp; done) | (simp [sof]; done)) (.cons rfl (by first | rfl | (simp; done) | (simp [sof]; done)) (.cons rfl (by first | rfl | (simp; done) | (simp [sof]; done)) (.nil)))))) rfl)⟩
            · skip
              simp only [sof, Int.reduceLT, reduceIte]
              refine awp_seq ?_
              refine awp_region ?_
              refine awl_bin rfl rfl rfl rfl bin_lss ?_
              refine awl_nil ?_
              change AWp _ _ _ _ _ _
              refine awp_seq ?_
              refine awp_cond_t (by first | exact (by decide) | exact decide_eq_true (by decide) | exact decide_eq_false (by decide)) rfl ?_
              refine awp_skip ?_
              change AWp _ _ _ _ _ _
              refine awp_seq ?_
              refine awp_block ?_
              refine awp_seq ?_
              refine awp_region ?_
              refine awl_move rfl rfl ?_
              refine awl_assign rfl rfl ?_
              refine awl_nil ?_
              change AWp _ _ _ _ _ _
              apply awp_drawS [12] [12] [] ((fun (B : Obs) => oget [([], B), ([12], _)]) _)
              · rfl
              · rfl
              · exact hmo_LvE
              · kernel_rfl
              · rfl
              refine awd_s [[]] [(9, _)] (.cons rfl (.nil)) rfl rfl rfl (by kernel_rfl) ?_
              apply Exists.intro
              refine ⟨(⟨fun regs' => ?_, trivial⟩), ?_, ?_⟩
              · skip
                refine awl_move rfl rfl ?_
                exact awl_doneS rfl rfl
              · kernel_rfl
              refine awd_s [[]] [(9, _)] (.cons rfl (.nil)) rfl rfl rfl (by kernel_rfl) ?_
              apply Exists.intro
              refine ⟨(⟨fun regs' => ?_, trivial⟩), ?_, ?_⟩
              · skip
                refine awl_move rfl rfl ?_
                exact awl_doneS rfl rfl
              · kernel_rfl
              refine awd_s [[]] [(7, _)] (.cons rfl (.nil)) rfl rfl rfl (by kernel_rfl) ?_
              apply Exists.intro
              refine ⟨(⟨fun regs' => ?_, trivial⟩), ?_, ?_⟩
              · skip
                first | refine awl_fieldAddr fi70_1_LvE rfl rfl ?_ | refine awl_fieldAddr_i fi70_1_LvE rfl rfl rfl ?_
                exact awl_doneS rfl rfl
              · kernel_rfl
              refine awd_s [[]] [(83, _), (82, _)] (.cons rfl (.cons rfl (.nil))) rfl rfl rfl (by kernel_rfl) ?_
              apply Exists.intro
              refine ⟨(⟨fun regs' => ?_, trivial⟩), ?_, ?_⟩
              · skip
                refine x_arr ai52_LvE ti3_LvE rfl rfl (by omega) (by omega) rfl rfl ?_
                exact awl_doneS rfl rfl
              · kernel_rfl
              refine awd_s [[]] [(84, _)] (.cons rfl (.nil)) rfl rfl rfl (by kernel_rfl) ?_
              apply Exists.intro
              refine ⟨(⟨fun regs' => ?_, trivial⟩), ?_, ?_⟩
              · skip
                first | refine awl_load_one ti3_LvE rfl rfl rfl rfl ?_ | refine awl_load_ione ti3_LvE rfl rfl rfl ?_
                exact awl_doneS rfl rfl
              · kernel_rfl
              refine awd_s [[]] [(9, _)] (.cons rfl (.nil)) rfl rfl rfl (by kernel_rfl) ?_
              apply Exists.intro
              refine ⟨(⟨fun regs' => ?_, trivial⟩), ?_, ?_⟩
              · skip
                refine awl_move rfl rfl ?_
                exact awl_doneS rfl rfl
              · kernel_rfl
              refine awd_s [[]] [(8, _)] (.cons rfl (.nil)) rfl rfl rfl (by kernel_rfl) ?_
              apply Exists.intro
              refine ⟨(⟨fun regs' => ?_, trivial⟩), ?_, ?_⟩
              · skip
                first | refine awl_fieldAddr fi70_1_LvE rfl rfl ?_ | refine awl_fieldAddr_i fi70_1_LvE rfl rfl rfl ?_
                exact awl_doneS rfl rfl
              · kernel_rfl
              refine awd_s [[]] [(87, _), (86, _)] (.cons rfl (.cons rfl (.nil))) rfl rfl rfl (by kernel_rfl) ?_
              apply Exists.intro
              refine ⟨(⟨fun regs' => ?_, trivial⟩), ?_, ?_⟩
              · skip
                refine x_arr ai52_LvE ti3_LvE rfl rfl (by omega) (by omega) rfl rfl ?_
                exact awl_doneS rfl rfl
              · kernel_rfl
              refine awd_s [[]] [(88, _)] (.cons rfl (.nil)) rfl rfl rfl (by kernel_rfl) ?_
              apply Exists.intro
              refine ⟨(⟨fun regs' => ?_, trivial⟩), ?_, ?_⟩
              · skip
                first | refine awl_load_one ti3_LvE rfl rfl rfl rfl ?_ | refine awl_load_ione ti3_LvE rfl rfl rfl ?_
                exact awl_doneS rfl rfl
              · kernel_rfl
              refine awd_s [[]] [(85, _), (89, _)] (.cons rfl (.cons rfl (.nil))) rfl rfl rfl (by kernel_rfl) ?_
              apply Exists.intro
              refine ⟨(⟨fun regs' => ?_, trivial⟩), ?_, ?_⟩
              · skip
                refine awl_max rfl rfl rfl ?_
                exact awl_doneS rfl rfl
              · kernel_rfl
              refine awd_s [[]] [(5, _)] (.cons rfl (.nil)) rfl rfl rfl (by kernel_rfl) ?_
              apply Exists.intro
              refine ⟨(⟨fun regs' => ?_, trivial⟩), ?_, ?_⟩
              · skip
                first | refine awl_fieldAddr fi70_1_LvE rfl rfl ?_ | refine awl_fieldAddr_i fi70_1_LvE rfl rfl rfl ?_
                exact awl_doneS rfl rfl
              · kernel_rfl
              refine awd_s [[]] [(91, _), (81, _)] (.cons rfl (.cons rfl (.nil))) rfl rfl rfl (by kernel_rfl) ?_
              apply Exists.intro
              refine ⟨(⟨fun regs' => ?_, trivial⟩), ?_, ?_⟩
              · skip
                refine x_arr ai52_LvE ti3_LvE rfl rfl (by omega) (by omega) rfl rfl ?_
                exact awl_doneS rfl rfl
              · kernel_rfl
              refine awd_e [] rfl rfl rfl (by kernel_rfl) rfl rfl ?_
              refine ⟨.any, ?_⟩
              refine ⟨?_, ?_, ?_⟩
              · skip
                refine x_store ti3_LvE rfl rfl rfl rfl rfl rfl rfl rfl ?_
                exact awl_done rfl
              · kernel_rfl
              refine awd_endS ?_
              try dsimp only [putd]
              change AWp _ _ _ _ _ _
              refine awp_region ?_
              first | refine awl_bin rfl rfl rfl rfl (bin_add_i (by omega)) ?_ | refine awl_bin rfl rfl rfl rfl bin_add ?_
              refine awl_move rfl rfl ?_
              refine awl_nil ?_
              change ∃ x', _
              refine ⟨3, (by omega), by simp, (Le.mk (.cons rfl (by first | exact Sub.refl _ | exact Sub.ts | exact Sub.nil | (refine Sub.eq ?_; first | (simp; done) | (simp; omega))) (.cons rfl (by first | exact Sub.refl _ | exact Sub.ts | exact Sub.nil | (refine Sub.eq ?_; first | (simp; done) | (simp; omega))) (.cons rfl (by first | exact Sub.refl _ | exact Sub.ts | exact Sub.nil | (refine Sub.eq ?_; first | (simp; done) | (simp; omega))) (.cons rfl (by first | exact Sub.refl _ | exact Sub.ts | exact Sub.nil | (refine Sub.eq ?_; first | (simp; done) | (simp; omega))) (.cons rfl (by first | exact Sub.refl _ | exact Sub.ts | exact Sub.nil | (refine Sub.eq ?_; first | (simp; done) | (simp; omega))) (.cons rfl (by first | exact Sub.refl _ | exact Sub.ts | exact Sub.nil | (refine Sub.eq ?_; first | (simp; done) | (simp; omega))) (.cons rfl (by first | exact Sub.refl _ | exact Sub.ts | exact Sub.nil | (refine Sub.eq ?_; first | (simp; done) | (simp; omega))) (.nil)))))))) (.cons rfl (by first | rfl | (simp; done) | (simp [sof]; done)) (.cons rfl (by first | rfl | (simp; done) | (simp [sof]; done)) (.cons rfl (by first | rfl | (simp; done) | (simp [sof]; done)) (.cons rfl (by first | rfl | (simp; done) | (simp [sof]; done)) (.cons rfl (by first | rfl | (simp; done) | (simp [sof]; done)) (.nil)))))) rfl)⟩
            · skip
              simp only [sof, Int.reduceLT, reduceIte]
              refine awp_seq ?_
              refine awp_region ?_
              refine awl_bin rfl rfl rfl rfl bin_lss ?_
              refine awl_nil ?_
              change AWp _ _ _ _ _ _
              refine awp_seq ?_
              refine awp_cond_t (by first | exact (by decide) | exact decide_eq_true (by decide) | exact decide_eq_false (by decide)) rfl ?_
              refine awp_skip ?_
              change AWp _ _ _ _ _ _
              refine awp_seq ?_
              refine awp_block ?_
              refine awp_seq ?_
              refine awp_region ?_
              refine awl_move rfl rfl ?_
              refine awl_assign rfl rfl ?_
              refine awl_nil ?_
              change AWp _ _ _ _ _ _
              apply awp_drawS [12] [12] [] ((fun (B : Obs) => oget [([], B), ([12], _)]) _)
              · rfl
              · rfl
              · exact hmo_LvE
              · kernel_rfl
              · rfl
              refine awd_s [[]] [(9, _)] (.cons rfl (.nil)) rfl rfl rfl (by kernel_rfl) ?_
              apply Exists.intro
              refine ⟨(⟨fun regs' => ?_, trivial⟩), ?_, ?_⟩
              · skip
                refine awl_move rfl rfl ?_
                exact awl_doneS rfl rfl
              · kernel_rfl
              refine awd_s [[]] [(9, _)] (.cons rfl (.nil)) rfl rfl rfl (by kernel_rfl) ?_
              apply Exists.intro
              refine ⟨(⟨fun regs' => ?_, trivial⟩), ?_, ?_⟩
              · skip
                refine awl_move rfl rfl ?_
                exact awl_doneS rfl rfl
              · kernel_rfl
              refine awd_s [[]] [(7, _)] (.cons rfl (.nil)) rfl rfl rfl (by kernel_rfl) ?_
              apply Exists.intro
              refine ⟨(⟨fun regs' => ?_, trivial⟩), ?_, ?_⟩
              · skip
                first | refine awl_fieldAddr fi70_1_LvE rfl rfl ?_ | refine awl_fieldAddr_i fi70_1_LvE rfl rfl rfl ?_
                exact awl_doneS rfl rfl
              · kernel_rfl
              refine awd_s [[]] [(83, _), (82, _)] (.cons rfl (.cons rfl (.nil))) rfl rfl rfl (by kernel_rfl) ?_
              apply Exists.intro
              refine ⟨(⟨fun regs' => ?_, trivial⟩), ?_, ?_⟩
              · skip
                refine x_arr ai52_LvE ti3_LvE rfl rfl (by omega) (by omega) rfl rfl ?_
                exact awl_doneS rfl rfl
              · kernel_rfl
              refine awd_s [[]] [(84, _)] (.cons rfl (.nil)) rfl rfl rfl (by kernel_rfl) ?_
              apply Exists.intro
              refine ⟨(⟨fun regs' => ?_, trivial⟩), ?_, ?_⟩
              · skip
                first | refine awl_load_one ti3_LvE rfl rfl rfl rfl ?_ | refine awl_load_ione ti3_LvE rfl rfl rfl ?_
                exact awl_doneS rfl rfl
              · kernel_rfl
              refine awd_s [[]] [(9, _)] (.cons rfl (.nil)) rfl rfl rfl (by kernel_rfl) ?_
              apply Exists.intro
              refine ⟨(⟨fun regs' => ?_, trivial⟩), ?_, ?_⟩
              · skip
                refine awl_move rfl rfl ?_
                exact awl_doneS rfl rfl
              · kernel_rfl
              refine awd_s [[]] [(8, _)] (.cons rfl (.nil)) rfl rfl rfl (by kernel_rfl) ?_
              apply Exists.intro
              refine ⟨(⟨fun regs' => ?_, trivial⟩), ?_, ?_⟩
              · skip
                first | refine awl_fieldAddr fi70_1_LvE rfl rfl ?_ | refine awl_fieldAddr_i fi70_1_LvE rfl rfl rfl ?_
                exact awl_doneS rfl rfl
              · kernel_rfl
              refine awd_s [[]] [(87, _), (86, _)] (.cons rfl (.cons rfl (.nil))) rfl rfl rfl (by kernel_rfl) ?_
              apply Exists.intro
              refine ⟨(⟨fun regs' => ?_, trivial⟩), ?_, ?_⟩
              · skip
                refine x_arr ai52_LvE ti3_LvE rfl rfl (by omega) (by omega) rfl rfl ?_
                exact awl_doneS rfl rfl
              · kernel_rfl
              refine awd_s [[]] [(88, _)] (.cons rfl (.nil)) rfl rfl rfl (by kernel_rfl) ?_
              apply Exists.intro
              refine ⟨(⟨fun regs' => ?_, trivial⟩), ?_, ?_⟩
              · skip
                first | refine awl_load_one ti3_LvE rfl rfl rfl rfl ?_ | refine awl_load_ione ti3_LvE rfl rfl rfl ?_
                exact awl_doneS rfl rfl
              · kernel_rfl
              refine awd_s [[]] [(85, _), (89, _)] (.cons rfl (.cons rfl (.nil))) rfl rfl rfl (by kernel_rfl) ?_
              apply Exists.intro
              refine ⟨(⟨fun regs' => ?_, trivial⟩), ?_, ?_⟩
              · skip
                refine awl_max rfl rfl rfl ?_
                exact awl_doneS rfl rfl
              · kernel_rfl
              refine awd_s [[]] [(5, _)] (.cons rfl (.nil)) rfl rfl rfl (by kernel_rfl) ?_
              apply Exists.intro
              refine ⟨(⟨fun regs' => ?_, trivial⟩), ?_, ?_⟩
              · skip
                first | refine awl_fieldAddr fi70_1_LvE rfl rfl ?_ | refine awl_fieldAddr_i fi70_1_LvE rfl rfl rfl ?_
                exact awl_doneS rfl rfl
              · kernel_rfl
              refine awd_s [[]] [(91, _), (81, _)] (.cons rfl (.cons rfl (.nil))) rfl rfl rfl (by kernel_rfl) ?_
              apply Exists.intro
              refine ⟨(⟨fun regs' => ?_, trivial⟩), ?_, ?_⟩
              · skip
                refine x_arr ai52_LvE ti3_LvE rfl rfl (by omega) (by omega) rfl rfl ?_
                exact awl_doneS rfl rfl
              · kernel_rfl
              refine awd_e [] rfl rfl rfl (by kernel_rfl) rfl rfl ?_
              refine ⟨.any, ?_⟩
              refine ⟨?_, ?_, ?_⟩
              · skip
                refine x_store ti3_LvE rfl rfl rfl rfl rfl rfl rfl rfl ?_
                exact awl_done rfl
              · kernel_rfl
              refine awd_endS ?_
              try dsimp only [putd]
              change AWp _ _ _ _ _ _
              refine awp_region ?_
              first | refine awl_bin rfl rfl rfl rfl (bin_add_i (by omega)) ?_ | refine awl_bin rfl rfl rfl rfl bin_add ?_
              refine awl_move rfl rfl ?_
              refine awl_nil ?_
              change ∃ x', _
              refine ⟨4, (by omega), by simp, (Le.mk (.cons rfl (by first | exact Sub.refl _ | exact Sub.ts | exact Sub.nil | (refine Sub.eq ?_; first | (simp; done) | (simp; omega))) (.cons rfl (by first | exact Sub.refl _ | exact Sub.ts | exact Sub.nil | (refine Sub.eq ?_; first | (simp; done) | (simp; omega))) (.cons rfl (by first | exact Sub.refl _ | exact Sub.ts | exact Sub.nil | (refine Sub.eq ?_; first | (simp; done) | (simp; omega))) (.cons rfl (by first | exact Sub.refl _ | exact Sub.ts | exact Sub.nil | (refine Sub.eq ?_; first | (simp; done) | (simp; omega))) (.cons rfl (by first | exact Sub.refl _ | exact Sub.ts | exact Sub.nil | (refine Sub.eq ?_; first | (simp; done) | (simp; omega))) (.cons rfl (by first | exact Sub.refl _ | exact Sub.ts | exact Sub.nil | (refine Sub.eq ?_; first | (simp; done) | (simp; omega))) (.cons rfl (by first | exact Sub.refl _ | exact Sub.ts | exact Sub.nil | (refine Sub.eq ?_; first | (simp; done) | (simp; omega))) (.nil)))))))) (.cons rfl (by first | rfl | (simp; done) | (simp [sof]; done)) (.cons rfl (by first | rfl | (simp; done) | (simp [sof]; done)) (.cons rfl (by first | rfl | (simp; done) | (simp [sof]; done)) (.cons rfl (by first | rfl | (simp; done) | (simp [sof]; done)) (.cons rfl (by first | rfl | (simp; done) | (simp [sof]; done)) (.nil)))))) rfl)⟩
            · skip
              simp only [sof, Int.reduceLT, reduceIte]
              refine awp_seq ?_
              refine awp_region ?_
              refine awl_bin rfl rfl rfl rfl bin_lss ?_
              refine awl_nil ?_
              change AWp _ _ _ _ _ _
              refine awp_seq ?_
              refine awp_cond_f (by first | exact (by decide) | exact decide_eq_true (by decide) | exact decide_eq_false (by decide)) rfl ?_
              refine awp_exit ?_
              change AWp _ _ _ _ _ _
              refine awp_seq ?_
              refine awp_region ?_
              first | refine awl_load_row ti70_LvE rfl rfl rfl rfl ?_ | refine x_irow ti70_LvE rfl rfl rfl rfl ?_
              refine x_store ti70_LvE rfl rfl rfl rfl rfl rfl rfl rfl ?_
              refine awl_nil ?_
              change AWp _ _ _ _ _ _
              refine awp_ret ?_
              change Ends _ _ _ _ _ _
              refine ends1 [] rfl (.row ti70_LvE rfl rfl rfl) ?_ rfl
              first | (refine ⟨fl_eq (f := succF (flatF z a)) ?_, rfl⟩; rw [he, ha]; simp [flK, flatFs, k1]; done) | (refine ⟨fl_eq (f := maxF (flatF z a) (flatF z b)) ?_, rfl⟩; rw [he, ha]; simp [flK, flatFs, k2]; done) | (refine ⟨fl_eq (f := maxF (flatF z a) (flatF z b)) ?_, rfl⟩; rw [he, ha]; simp [flK, flatFs, k3, hb0]; done) | (refine ⟨fl_eq (f := flat0) ?_, rfl⟩; rw [he, ha]; simp [flK, flatFs, k3, hb0]; done) | (rw [he]; simp only [flK, if_neg k1, if_neg k2, if_neg k3, if_pos k4]; rw [if_pos ⟨n0, n1, hbit⟩, hn0]; exact ⟨rfl, rfl⟩) | (refine ⟨fl_eq (f := flat0) ?_, rfl⟩; rw [he]; simp only [flK, if_neg k1, if_neg k2, if_neg k3, if_pos k4]; rw [if_neg]; unfold bitF; omega) | (refine ⟨fl_eq (f := flat0) ?_, rfl⟩; rw [he]; simp [flK, k1, k2, k3, k4]; done)
        · skip
          refine awp_seq ?_
          refine awp_region ?_
          refine awl_bin rfl rfl rfl rfl bin_eql ?_
          refine awl_assign rfl rfl ?_
          refine awl_nil ?_
          change AWp _ _ _ _ _ _
          first | refine awp_cond_p rfl (fun k4 => ?_) (fun k4 => ?_) | refine awp_cond rfl (fun k4 => ?_) (fun k4 => ?_)
          · skip
            refine awp_seq ?_
            refine awp_region ?_
            first | refine awl_fieldAddr fi39_1_LvE rfl rfl ?_ | refine awl_fieldAddr_i fi39_1_LvE rfl rfl rfl ?_
            first | refine awl_load_one ti3_LvE rfl rfl rfl rfl ?_ | refine awl_load_ione ti3_LvE rfl rfl rfl ?_
            refine awl_bin rfl rfl rfl rfl bin_geq ?_
            refine awl_move rfl rfl ?_
            first | refine awl_split_p 99 rfl (fun n0 => ?_) (fun n0 => ?_) | refine awl_split 99 rfl (fun n0 => ?_) (fun n0 => ?_)
            · skip
              refine awl_guard_yes rfl (by first | exact n0 | exact decide_eq_true n0 | exact decide_eq_false n0) rfl rfl ?_
              first | refine awl_fieldAddr fi39_1_LvE rfl rfl ?_ | refine awl_fieldAddr_i fi39_1_LvE rfl rfl rfl ?_
              refine awl_guard_yes rfl (by first | exact n0 | exact decide_eq_true n0 | exact decide_eq_false n0) rfl rfl ?_
              first | refine awl_load_one ti3_LvE rfl rfl rfl rfl ?_ | refine awl_load_ione ti3_LvE rfl rfl rfl ?_
              refine awl_guard_yes rfl (by first | exact n0 | exact decide_eq_true n0 | exact decide_eq_false n0) rfl rfl ?_
              refine awl_bin rfl rfl rfl rfl bin_lss ?_
              refine awl_pick_t (by first | exact n0 | exact decide_eq_true n0 | exact decide_eq_false n0) rfl rfl rfl ?_
              refine awl_move rfl rfl ?_
              first | refine awl_split_p 104 rfl (fun n1 => ?_) (fun n1 => ?_) | refine awl_split 104 rfl (fun n1 => ?_) (fun n1 => ?_)
              · skip
                refine awl_guard_yes rfl (by first | exact n1 | exact decide_eq_true n1 | exact decide_eq_false n1) rfl rfl ?_
                refine awl_move rfl rfl ?_
                refine awl_guard_yes rfl (by first | exact n1 | exact decide_eq_true n1 | exact decide_eq_false n1) rfl rfl ?_
                first | refine awl_fieldAddr fi39_1_LvE rfl rfl ?_ | refine awl_fieldAddr_i fi39_1_LvE rfl rfl rfl ?_
                refine awl_guard_yes rfl (by first | exact n1 | exact decide_eq_true n1 | exact decide_eq_false n1) rfl rfl ?_
                first | refine awl_load_one ti3_LvE rfl rfl rfl rfl ?_ | refine awl_load_ione ti3_LvE rfl rfl rfl ?_
                refine awl_guard_yes rfl (by first | exact n1 | exact decide_eq_true n1 | exact decide_eq_false n1) rfl rfl ?_
                refine awl_conv rfl rfl rfl (conv_u Try.underlying3 Try.underlying79 (by omega)) ?_
                refine awl_guard_yes rfl (by first | exact n1 | exact decide_eq_true n1 | exact decide_eq_false n1) rfl rfl ?_
                refine awl_bin rfl rfl rfl rfl (bin_shr (by omega)) ?_
                refine awl_guard_yes rfl (by first | exact n1 | exact decide_eq_true n1 | exact decide_eq_false n1) rfl rfl ?_
                refine awl_bin rfl rfl rfl rfl (bin_and1 (by exact bitF_bd hz)) ?_
                refine awl_guard_yes rfl (by first | exact n1 | exact decide_eq_true n1 | exact decide_eq_false n1) rfl rfl ?_
                refine awl_bin rfl rfl rfl rfl bin_eql ?_
                refine awl_pick_t (by first | exact n1 | exact decide_eq_true n1 | exact decide_eq_false n1) rfl rfl rfl ?_
                refine awl_nil ?_
                change AWp _ _ _ _ _ _
                first | refine awp_cond_p rfl (fun hbit => ?_) (fun hbit => ?_) | refine awp_cond rfl (fun hbit => ?_) (fun hbit => ?_)
                · skip
                  rcases (by omega : t.n = 0 ∨ t.n = 1 ∨ t.n = 2 ∨ t.n = 3) with hn0 | hn0 | hn0 | hn0
                  · skip
                    refine awp_region ?_
                    first | refine awl_fieldAddr fi39_1_LvE rfl rfl ?_ | refine awl_fieldAddr_i fi39_1_LvE rfl rfl rfl ?_
                    first | refine awl_load_one ti3_LvE rfl rfl rfl rfl ?_ | refine awl_load_ione ti3_LvE rfl rfl rfl ?_
                    first | refine awl_fieldAddr fi70_1_LvE rfl rfl ?_ | refine awl_fieldAddr_i fi70_1_LvE rfl rfl rfl ?_
                    refine x_arr (o2 := 1) ai52_LvE ti3_LvE rfl rfl (by omega) (by omega) (by omega) rfl ?_
                    refine x_store ti3_LvE rfl rfl rfl rfl rfl rfl rfl rfl ?_
                    refine awl_nil ?_
                    change AWp _ _ _ _ _ _
                    refine awp_seq ?_
                    refine awp_region ?_
                    first | refine awl_load_row ti70_LvE rfl rfl rfl rfl ?_ | refine x_irow ti70_LvE rfl rfl rfl rfl ?_
                    refine x_store ti70_LvE rfl rfl rfl rfl rfl rfl rfl rfl ?_
                    refine awl_nil ?_
                    change AWp _ _ _ _ _ _
                    refine awp_ret ?_
                    change Ends _ _ _ _ _ _
                    refine ends1 [] rfl (.row ti70_LvE rfl rfl rfl) ?_ rfl
                    first | (refine ⟨fl_eq (f := succF (flatF z a)) ?_, rfl⟩; rw [he, ha]; simp [flK, flatFs, k1]; done) | (refine ⟨fl_eq (f := maxF (flatF z a) (flatF z b)) ?_, rfl⟩; rw [he, ha]; simp [flK, flatFs, k2]; done) | (refine ⟨fl_eq (f := maxF (flatF z a) (flatF z b)) ?_, rfl⟩; rw [he, ha]; simp [flK, flatFs, k3, hb0]; done) | (refine ⟨fl_eq (f := flat0) ?_, rfl⟩; rw [he, ha]; simp [flK, flatFs, k3, hb0]; done) | (rw [he]; simp only [flK, if_neg k1, if_neg k2, if_neg k3, if_pos k4]; rw [if_pos ⟨n0, n1, hbit⟩, hn0]; exact ⟨rfl, rfl⟩) | (refine ⟨fl_eq (f := flat0) ?_, rfl⟩; rw [he]; simp only [flK, if_neg k1, if_neg k2, if_neg k3, if_pos k4]; rw [if_neg]; unfold bitF; omega) | (refine ⟨fl_eq (f := flat0) ?_, rfl⟩; rw [he]; simp [flK, k1, k2, k3, k4]; done)
                  · skip
                    refine awp_region ?_
                    first | refine awl_fieldAddr fi39_1_LvE rfl rfl ?_ | refine awl_fieldAddr_i fi39_1_LvE rfl rfl rfl ?_
                    first | refine awl_load_one ti3_LvE rfl rfl rfl rfl ?_ | refine awl_load_ione ti3_LvE rfl rfl rfl ?_
                    first | refine awl_fieldAddr fi70_1_LvE rfl rfl ?_ | refine awl_fieldAddr_i fi70_1_LvE rfl rfl rfl ?_
                    refine x_arr (o2 := 2) ai52_LvE ti3_LvE rfl rfl (by omega) (by omega) (by omega) rfl ?_
                    refine x_store ti3_LvE rfl rfl rfl rfl rfl rfl rfl rfl ?_
                    refine awl_nil ?_
                    change AWp _ _ _ _ _ _
                    refine awp_seq ?_
                    refine awp_region ?_
                    first | refine awl_load_row ti70_LvE rfl rfl rfl rfl ?_ | refine x_irow ti70_LvE rfl rfl rfl rfl ?_
                    refine x_store ti70_LvE rfl rfl rfl rfl rfl rfl rfl rfl ?_
                    refine awl_nil ?_
                    change AWp _ _ _ _ _ _
                    refine awp_ret ?_
                    change Ends _ _ _ _ _ _
                    refine ends1 [] rfl (.row ti70_LvE rfl rfl rfl) ?_ rfl
                    first | (refine ⟨fl_eq (f := succF (flatF z a)) ?_, rfl⟩; rw [he, ha]; simp [flK, flatFs, k1]; done) | (refine ⟨fl_eq (f := maxF (flatF z a) (flatF z b)) ?_, rfl⟩; rw [he, ha]; simp [flK, flatFs, k2]; done) | (refine ⟨fl_eq (f := maxF (flatF z a) (flatF z b)) ?_, rfl⟩; rw [he, ha]; simp [flK, flatFs, k3, hb0]; done) | (refine ⟨fl_eq (f := flat0) ?_, rfl⟩; rw [he, ha]; simp [flK, flatFs, k3, hb0]; done) | (rw [he]; simp only [flK, if_neg k1, if_neg k2, if_neg k3, if_pos k4]; rw [if_pos ⟨n0, n1, hbit⟩, hn0]; exact ⟨rfl, rfl⟩) | (refine ⟨fl_eq (f := flat0) ?_, rfl⟩; rw [he]; simp only [flK, if_neg k1, if_neg k2, if_neg k3, if_pos k4]; rw [if_neg]; unfold bitF; omega) | (refine ⟨fl_eq (f := flat0) ?_, rfl⟩; rw [he]; simp [flK, k1, k2, k3, k4]; done)
                  · skip
                    refine awp_region ?_
                    first | refine awl_fieldAddr fi39_1_LvE rfl rfl ?_ | refine awl_fieldAddr_i fi39_1_LvE rfl rfl rfl ?_
                    first | refine awl_load_one ti3_LvE rfl rfl rfl rfl ?_ | refine awl_load_ione ti3_LvE rfl rfl rfl ?_
                    first | refine awl_fieldAddr fi70_1_LvE rfl rfl ?_ | refine awl_fieldAddr_i fi70_1_LvE rfl rfl rfl ?_
                    refine x_arr (o2 := 3) ai52_LvE ti3_LvE rfl rfl (by omega) (by omega) (by omega) rfl ?_
                    refine x_store ti3_LvE rfl rfl rfl rfl rfl rfl rfl rfl ?_
                    refine awl_nil ?_
                    change AWp _ _ _ _ _ _
                    refine awp_seq ?_
                    refine awp_region ?_
                    first | refine awl_load_row ti70_LvE rfl rfl rfl rfl ?_ | refine x_irow ti70_LvE rfl rfl rfl rfl ?_
                    refine x_store ti70_LvE rfl rfl rfl rfl rfl rfl rfl rfl ?_
                    refine awl_nil ?_
                    change AWp _ _ _ _ _ _
                    refine awp_ret ?_
                    change Ends _ _ _ _ _ _
                    refine ends1 [] rfl (.row ti70_LvE rfl rfl rfl) ?_ rfl
                    first | (refine ⟨fl_eq (f := succF (flatF z a)) ?_, rfl⟩; rw [he, ha]; simp [flK, flatFs, k1]; done) | (refine ⟨fl_eq (f := maxF (flatF z a) (flatF z b)) ?_, rfl⟩; rw [he, ha]; simp [flK, flatFs, k2]; done) | (refine ⟨fl_eq (f := maxF (flatF z a) (flatF z b)) ?_, rfl⟩; rw [he, ha]; simp [flK, flatFs, k3, hb0]; done) | (refine ⟨fl_eq (f := flat0) ?_, rfl⟩; rw [he, ha]; simp [flK, flatFs, k3, hb0]; done) | (rw [he]; simp only [flK, if_neg k1, if_neg k2, if_neg k3, if_pos k4]; rw [if_pos ⟨n0, n1, hbit⟩, hn0]; exact ⟨rfl, rfl⟩) | (refine ⟨fl_eq (f := flat0) ?_, rfl⟩; rw [he]; simp only [flK, if_neg k1, if_neg k2, if_neg k3, if_pos k4]; rw [if_neg]; unfold bitF; omega) | (refine ⟨fl_eq (f := flat0) ?_, rfl⟩; rw [he]; simp [flK, k1, k2, k3, k4]; done)
                  · skip
                    refine awp_region ?_
                    first | refine awl_fieldAddr fi39_1_LvE rfl rfl ?_ | refine awl_fieldAddr_i fi39_1_LvE rfl rfl rfl ?_
                    first | refine awl_load_one ti3_LvE rfl rfl rfl rfl ?_ | refine awl_load_ione ti3_LvE rfl rfl rfl ?_
                    first | refine awl_fieldAddr fi70_1_LvE rfl rfl ?_ | refine awl_fieldAddr_i fi70_1_LvE rfl rfl rfl ?_
                    refine x_arr (o2 := 4) ai52_LvE ti3_LvE rfl rfl (by omega) (by omega) (by omega) rfl ?_
                    refine x_store ti3_LvE rfl rfl rfl rfl rfl rfl rfl rfl ?_
                    refine awl_nil ?_
                    change AWp _ _ _ _ _ _
                    refine awp_seq ?_
                    refine awp_region ?_
                    first | refine awl_load_row ti70_LvE rfl rfl rfl rfl ?_ | refine x_irow ti70_LvE rfl rfl rfl rfl ?_
                    refine x_store ti70_LvE rfl rfl rfl rfl rfl rfl rfl rfl ?_
                    refine awl_nil ?_
                    change AWp _ _ _ _ _ _
                    refine awp_ret ?_
                    change Ends _ _ _ _ _ _
                    refine ends1 [] rfl (.row ti70_LvE rfl rfl rfl) ?_ rfl
                    first | (refine ⟨fl_eq (f := succF (flatF z a)) ?_, rfl⟩; rw [he, ha]; simp [flK, flatFs, k1]; done) | (refine ⟨fl_eq (f := maxF (flatF z a) (flatF z b)) ?_, rfl⟩; rw [he, ha]; simp [flK, flatFs, k2]; done) | (refine ⟨fl_eq (f := maxF (flatF z a) (flatF z b)) ?_, rfl⟩; rw [he, ha]; simp [flK, flatFs, k3, hb0]; done) | (refine ⟨fl_eq (f := flat0) ?_, rfl⟩; rw [he, ha]; simp [flK, flatFs, k3, hb0]; done) | (rw [he]; simp only [flK, if_neg k1, if_neg k2, if_neg k3, if_pos k4]; rw [if_pos ⟨n0, n1, hbit⟩, hn0]; exact ⟨rfl, rfl⟩) | (refine ⟨fl_eq (f := flat0) ?_, rfl⟩; rw [he]; simp only [flK, if_neg k1, if_neg k2, if_neg k3, if_pos k4]; rw [if_neg]; unfold bitF; omega) | (refine ⟨fl_eq (f := flat0) ?_, rfl⟩; rw [he]; simp [flK, k1, k2, k3, k4]; done)
                · skip
                  refine awp_skip ?_
                  change AWp _ _ _ _ _ _
                  refine awp_seq ?_
                  refine awp_region ?_
                  first | refine awl_load_row ti70_LvE rfl rfl rfl rfl ?_ | refine x_irow ti70_LvE rfl rfl rfl rfl ?_
                  refine x_store ti70_LvE rfl rfl rfl rfl rfl rfl rfl rfl ?_
                  refine awl_nil ?_
                  change AWp _ _ _ _ _ _
                  refine awp_ret ?_
                  change Ends _ _ _ _ _ _
                  refine ends1 [] rfl (.row ti70_LvE rfl rfl rfl) ?_ rfl
                  first | (refine ⟨fl_eq (f := succF (flatF z a)) ?_, rfl⟩; rw [he, ha]; simp [flK, flatFs, k1]; done) | (refine ⟨fl_eq (f := maxF (flatF z a) (flatF z b)) ?_, rfl⟩; rw [he, ha]; simp [flK, flatFs, k2]; done) | (refine ⟨fl_eq (f := maxF (flatF z a) (flatF z b)) ?_, rfl⟩; rw [he, ha]; simp [flK, flatFs, k3, hb0]; done) | (refine ⟨fl_eq (f := flat0) ?_, rfl⟩; rw [he, ha]; simp [flK, flatFs, k3, hb0]; done) | (rw [he]; simp only [flK, if_neg k1, if_neg k2, if_neg k3, if_pos k4]; rw [if_pos ⟨n0, n1, hbit⟩, hn0]; exact ⟨rfl, rfl⟩) | (refine ⟨fl_eq (f := flat0) ?_, rfl⟩; rw [he]; simp only [flK, if_neg k1, if_neg k2, if_neg k3, if_pos k4]; rw [if_neg]; unfold bitF; omega) | (refine ⟨fl_eq (f := flat0) ?_, rfl⟩; rw [he]; simp [flK, k1, k2, k3, k4]; done)
              · skip
                refine awl_guard_no rfl (by first | exact n1 | exact decide_eq_true n1 | exact decide_eq_false n1) rfl rfl rfl rfl ?_
                refine awl_guard_no rfl (by first | exact n1 | exact decide_eq_true n1 | exact decide_eq_false n1) rfl rfl rfl rfl ?_
                refine awl_guard_no rfl (by first | exact n1 | exact decide_eq_true n1 | exact decide_eq_false n1) rfl rfl rfl rfl ?_
                refine awl_guard_no rfl (by first | exact n1 | exact decide_eq_true n1 | exact decide_eq_false n1) rfl rfl rfl rfl ?_
                refine awl_guard_no rfl (by first | exact n1 | exact decide_eq_true n1 | exact decide_eq_false n1) rfl rfl rfl rfl ?_
                refine awl_guard_no rfl (by first | exact n1 | exact decide_eq_true n1 | exact decide_eq_false n1) rfl rfl rfl rfl ?_
                refine awl_guard_no rfl (by first | exact n1 | exact decide_eq_true n1 | exact decide_eq_false n1) rfl rfl rfl rfl ?_
                refine awl_pick_f (by first | exact n1 | exact decide_eq_true n1 | exact decide_eq_false n1) rfl rfl rfl ?_
                refine awl_nil ?_
                change AWp _ _ _ _ _ _
                refine awp_cond_f rfl rfl ?_
                refine awp_skip ?_
                change AWp _ _ _ _ _ _
                refine awp_seq ?_
                refine awp_region ?_
                first | refine awl_load_row ti70_LvE rfl rfl rfl rfl ?_ | refine x_irow ti70_LvE rfl rfl rfl rfl ?_
                refine x_store ti70_LvE rfl rfl rfl rfl rfl rfl rfl rfl ?_
                refine awl_nil ?_
                change AWp _ _ _ _ _ _
                refine awp_ret ?_
                change Ends _ _ _ _ _ _
                refine ends1 [] rfl (.row ti70_LvE rfl rfl rfl) ?_ rfl
                first | (refine ⟨fl_eq (f := succF (flatF z a)) ?_, rfl⟩; rw [he, ha]; simp [flK, flatFs, k1]; done) | (refine ⟨fl_eq (f := maxF (flatF z a) (flatF z b)) ?_, rfl⟩; rw [he, ha]; simp [flK, flatFs, k2]; done) | (refine ⟨fl_eq (f := maxF (flatF z a) (flatF z b)) ?_, rfl⟩; rw [he, ha]; simp [flK, flatFs, k3, hb0]; done) | (refine ⟨fl_eq (f := flat0) ?_, rfl⟩; rw [he, ha]; simp [flK, flatFs, k3, hb0]; done) | (rw [he]; simp only [flK, if_neg k1, if_neg k2, if_neg k3, if_pos k4]; rw [if_pos ⟨n0, n1, hbit⟩, hn0]; exact ⟨rfl, rfl⟩) | (refine ⟨fl_eq (f := flat0) ?_, rfl⟩; rw [he]; simp only [flK, if_neg k1, if_neg k2, if_neg k3, if_pos k4]; rw [if_neg]; unfold bitF; omega) | (refine ⟨fl_eq (f := flat0) ?_, rfl⟩; rw [he]; simp [flK, k1, k2, k3, k4]; done)
            · skip
              refine awl_guard_no rfl (by first | exact n0 | exact decide_eq_true n0 | exact decide_eq_false n0) rfl rfl rfl rfl ?_
              refine awl_guard_no rfl (by first | exact n0 | exact decide_eq_true n0 | exact decide_eq_false n0) rfl rfl rfl rfl ?_
              refine awl_guard_no rfl (by first | exact n0 | exact decide_eq_true n0 | exact decide_eq_false n0) rfl rfl rfl rfl ?_
              refine awl_pick_f (by first | exact n0 | exact decide_eq_true n0 | exact decide_eq_false n0) rfl rfl rfl ?_
              refine awl_move rfl rfl ?_
              refine awl_guard_no rfl rfl rfl rfl rfl rfl ?_
              refine awl_guard_no rfl rfl rfl rfl rfl rfl ?_
              refine awl_guard_no rfl rfl rfl rfl rfl rfl ?_
              refine awl_guard_no rfl rfl rfl rfl rfl rfl ?_
              refine awl_guard_no rfl rfl rfl rfl rfl rfl ?_
              refine awl_guard_no rfl rfl rfl rfl rfl rfl ?_
              refine awl_guard_no rfl rfl rfl rfl rfl rfl ?_
              refine awl_pick_f rfl rfl rfl rfl ?_
              refine awl_nil ?_
              change AWp _ _ _ _ _ _
              refine awp_cond_f rfl rfl ?_
              refine awp_skip ?_
              change AWp _ _ _ _ _ _
              refine awp_seq ?_
              refine awp_region ?_
              first | refine awl_load_row ti70_LvE rfl rfl rfl rfl ?_ | refine x_irow ti70_LvE rfl rfl rfl rfl ?_
              refine x_store ti70_LvE rfl rfl rfl rfl rfl rfl rfl rfl ?_
              refine awl_nil ?_
              change AWp _ _ _ _ _ _
              refine awp_ret ?_
              change Ends _ _ _ _ _ _
              refine ends1 [] rfl (.row ti70_LvE rfl rfl rfl) ?_ rfl
              first | (refine ⟨fl_eq (f := succF (flatF z a)) ?_, rfl⟩; rw [he, ha]; simp [flK, flatFs, k1]; done) | (refine ⟨fl_eq (f := maxF (flatF z a) (flatF z b)) ?_, rfl⟩; rw [he, ha]; simp [flK, flatFs, k2]; done) | (refine ⟨fl_eq (f := maxF (flatF z a) (flatF z b)) ?_, rfl⟩; rw [he, ha]; simp [flK, flatFs, k3, hb0]; done) | (refine ⟨fl_eq (f := flat0) ?_, rfl⟩; rw [he, ha]; simp [flK, flatFs, k3, hb0]; done) | (rw [he]; simp only [flK, if_neg k1, if_neg k2, if_neg k3, if_pos k4]; rw [if_pos ⟨n0, n1, hbit⟩, hn0]; exact ⟨rfl, rfl⟩) | (refine ⟨fl_eq (f := flat0) ?_, rfl⟩; rw [he]; simp only [flK, if_neg k1, if_neg k2, if_neg k3, if_pos k4]; rw [if_neg]; unfold bitF; omega) | (refine ⟨fl_eq (f := flat0) ?_, rfl⟩; rw [he]; simp [flK, k1, k2, k3, k4]; done)
          · skip
            refine awp_skip ?_
            change AWp _ _ _ _ _ _
            refine awp_seq ?_
            refine awp_region ?_
            first | refine awl_load_row ti70_LvE rfl rfl rfl rfl ?_ | refine x_irow ti70_LvE rfl rfl rfl rfl ?_
            refine x_store ti70_LvE rfl rfl rfl rfl rfl rfl rfl rfl ?_
            refine awl_nil ?_
            change AWp _ _ _ _ _ _
            refine awp_ret ?_
            change Ends _ _ _ _ _ _
            refine ends1 [] rfl (.row ti70_LvE rfl rfl rfl) ?_ rfl
            first | (refine ⟨fl_eq (f := succF (flatF z a)) ?_, rfl⟩; rw [he, ha]; simp [flK, flatFs, k1]; done) | (refine ⟨fl_eq (f := maxF (flatF z a) (flatF z b)) ?_, rfl⟩; rw [he, ha]; simp [flK, flatFs, k2]; done) | (refine ⟨fl_eq (f := maxF (flatF z a) (flatF z b)) ?_, rfl⟩; rw [he, ha]; simp [flK, flatFs, k3, hb0]; done) | (refine ⟨fl_eq (f := flat0) ?_, rfl⟩; rw [he, ha]; simp [flK, flatFs, k3, hb0]; done) | (rw [he]; simp only [flK, if_neg k1, if_neg k2, if_neg k3, if_pos k4]; rw [if_pos ⟨n0, n1, hbit⟩, hn0]; exact ⟨rfl, rfl⟩) | (refine ⟨fl_eq (f := flat0) ?_, rfl⟩; rw [he]; simp only [flK, if_neg k1, if_neg k2, if_neg k3, if_pos k4]; rw [if_neg]; unfold bitF; omega) | (refine ⟨fl_eq (f := flat0) ?_, rfl⟩; rw [he]; simp [flK, k1, k2, k3, k4]; done)
termination_by SizeOf.sizeOf t
decreasing_by exact Lvl.lt ha

end Go.Ab.Ytfgndomaadikoaa
