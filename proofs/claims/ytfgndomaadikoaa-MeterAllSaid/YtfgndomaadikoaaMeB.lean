/- Terms measured: parts, and whether their levels are small. -/
import Derived.Test.YtfgndomaadikoaaMeA
set_option linter.unusedVariables false
set_option linter.unusedSimpArgs false
namespace Go.Ab.Ytfgndomaadikoaa
open Go Go.RowKit Go.Ab Go.Proofs

theorem fi27_4_MeB : FI Try.prog 27 4 4 := ⟨_, _, 0, Try.underlying27, rfl, rfl, by kernel_rfl⟩
theorem ti25_MeB : TI Try.prog 25 1 false := ⟨by kernel_rfl, by kernel_rfl⟩
theorem si25_MeB : SI Try.prog 25 27 := ⟨Try.underlying25⟩
theorem ti27_MeB : TI Try.prog 27 5 true := ⟨by kernel_rfl, by kernel_rfl⟩
theorem fb14_MeB : FB Try.prog 14 := ⟨_, Try.func14, rfl, by kernel_rfl⟩
theorem ti3_MeB : TI Try.prog 3 1 false := ⟨by kernel_rfl, by kernel_rfl⟩
theorem tz27_MeB : TZ Try.prog 27 [(.int .i64 0), (.int .i64 0), (.string ByteArray.empty), (.slice none 0 0), (.slice none 0 0)] := ⟨⟨.agg #[(.int .i64 0), (.int .i64 0), (.string ByteArray.empty), (.slice none 0 0), (.slice none 0 0)], by kernel_rfl, rfl⟩, by kernel_rfl⟩
theorem fb60_MeB : FB Try.prog 60 := ⟨_, Try.func60, rfl, by kernel_rfl⟩
theorem tz3_MeB : TZ Try.prog 3 [(.int .i64 0)] := ⟨⟨(.int .i64 0), by kernel_rfl, rfl⟩, by kernel_rfl⟩
theorem fi27_3_MeB : FI Try.prog 27 3 3 := ⟨_, _, 0, Try.underlying27, rfl, rfl, by kernel_rfl⟩
theorem ti24_MeB : TI Try.prog 24 1 false := ⟨by kernel_rfl, by kernel_rfl⟩
theorem si24_MeB : SI Try.prog 24 39 := ⟨Try.underlying24⟩
theorem ti39_MeB : TI Try.prog 39 3 true := ⟨by kernel_rfl, by kernel_rfl⟩
theorem tz39_MeB : TZ Try.prog 39 [(.int .i64 0), (.int .i64 0), (.slice none 0 0)] := ⟨⟨.agg #[(.int .i64 0), (.int .i64 0), (.slice none 0 0)], by kernel_rfl, rfl⟩, by kernel_rfl⟩
theorem fb61_MeB : FB Try.prog 61 := ⟨_, Try.func61, rfl, by kernel_rfl⟩
theorem fb46_MeB : FB Try.prog 46 := ⟨_, Try.func46, rfl, by kernel_rfl⟩
theorem fb51_MeB : FB Try.prog 51 := ⟨_, Try.func51, rfl, by kernel_rfl⟩
theorem fb62_MeB : FB Try.prog 62 := ⟨_, Try.func62, rfl, by kernel_rfl⟩
theorem fb47_MeB : FB Try.prog 47 := ⟨_, Try.func47, rfl, by kernel_rfl⟩

mutual
def szT : Trm → Int
  | ⟨_, _, _, _, l⟩ => 1 + szTs l
def szTs : List Trm → Int
  | [] => 0
  | a :: r => szT a + szTs r
end
theorem szT_eq (t : Trm) : szT t = 1 + szTs t.args := by cases t; rfl
mutual
theorem szT_pos : ∀ t : Trm, 1 ≤ szT t
  | ⟨_, _, _, _, l⟩ => by simp only [szT]; have := szTs_pos l; omega
theorem szTs_pos : ∀ l : List Trm, 0 ≤ szTs l
  | [] => by simp [szTs]
  | a :: r => by simp only [szTs]; have := szT_pos a; have := szTs_pos r; omega
end

theorem rSize_con (t : Trm) : ∀ (most : Int), -9223372036854775808 ≤ most → most ≤ 9223372036854775807 → (most ≤ 4611686018427387904 ∨ szT t ≤ 4611686018427387904) →
    PCon Try.prog 14 [tv t, .p (I most)] (.p (I (min (szT t) (max most 0 + 1)))) := by
  intro most0 hl0 hl1 hbd
  have ih : ∀ a ∈ t.args, ∀ (most : Int), -9223372036854775808 ≤ most → most ≤ 9223372036854775807 → (most ≤ 4611686018427387904 ∨ szT a ≤ 4611686018427387904) → PCon Try.prog 14 [tv a, .p (I most)] (.p (I (min (szT a) (max most 0 + 1)))) :=
    fun a ha most h0 h1 h2 => rSize_con a most h0 h1 h2
  have hpos := szTs_pos t.args
  have hpe := szT_eq t
  generalize hmost : max most0 0 = most
  refine con_of Try.func14 rfl 38 Try.ntmps14 rfl fun cx hcx => ?_
  refine awp_seq ?_
  refine awp_region ?_
  refine awl_box rfl rfl rfl rfl rfl (by rw [hcx]; rfl) rfl ?_
  refine awl_assign rfl rfl ?_
  refine awl_nil ?_
  change AWp _ _ _ _ _ _
  refine awp_seq ?_
  refine awp_region ?_
  refine awl_move rfl rfl ?_
  refine awl_max rfl rfl rfl ?_
  refine awl_assign rfl rfl ?_
  refine awl_nil ?_
  change AWp _ _ _ _ _ _
  refine awp_seq ?_
  refine awp_region ?_
  refine awl_assign rfl rfl ?_
  refine awl_nil ?_
  change AWp _ _ _ _ _ _
  refine awp_seq ?_
  refine awp_seq ?_
  refine awp_region ?_
  refine awl_assign rfl rfl ?_
  refine awl_nil ?_
  change AWp _ _ _ _ _ _
  refine awp_block ?_
  rw [hmost]
  refine x_loop [(1, _), (2, _)] [(2, _)] (fun x : Nat × List Trm × Int => [(6, .p (I x.1)), (5, .p (I x.2.2))]) (fun x => []) (fun x => t.args.drop x.1 = x.2.1 ∧ 1 ≤ x.2.2 ∧ x.2.2 ≤ most + 1 ∧ x.2.2 + szTs x.2.1 ≤ szT t ∧ min (szT t) (most + 1) = min (x.2.2 + szTs x.2.1) (most + 1)) (fun x => x.2.1.length) (0, t.args, 1) (Le.mk (.cons rfl (by first | exact Sub.refl _ | exact Sub.ts | exact Sub.nil | exact Sub.eq (by simp) | exact Sub.eq (by simp; omega)) (.cons rfl (by first | exact Sub.refl _ | exact Sub.ts | exact Sub.nil | exact Sub.eq (by simp) | exact Sub.eq (by simp; omega)) (.cons rfl (by first | exact Sub.refl _ | exact Sub.ts | exact Sub.nil | exact Sub.eq (by simp) | exact Sub.eq (by simp; omega)) (.cons rfl (by first | exact Sub.refl _ | exact Sub.ts | exact Sub.nil | exact Sub.eq (by simp) | exact Sub.eq (by simp; omega)) (.nil))))) (.cons rfl (by first | rfl | (simp; done)) (.nil)) rfl) ⟨rfl, by simp only; omega, by simp only; omega, by simp only; omega, by simp only; omega⟩ (fun x hx => ?_)
  obtain ⟨i, r, m⟩ := x
  obtain ⟨hd, hm1, hm2, hm3, hsp⟩ := hx
  simp only at hd hm1 hm2 hm3 hsp
  have hrp := szTs_pos r
  dsimp only [List.cons_append, List.nil_append]
  refine awp_seq ?_
  refine awp_seq ?_
  refine awp_region ?_
  refine awl_move rfl rfl ?_
  first | refine awl_fieldAddr fi27_4_MeB rfl rfl ?_ | refine awl_fieldAddr_i fi27_4_MeB rfl rfl rfl ?_
  first | refine awl_load_one ti25_MeB rfl rfl rfl rfl ?_ | refine awl_load_ione ti25_MeB rfl rfl rfl ?_
  refine x_len si25_MeB rfl rfl rfl (fun hlen11 => ?_)
  refine awl_bin rfl rfl rfl rfl bin_lss ?_
  refine awl_move rfl rfl ?_
  first | refine awl_split_p 14 rfl (fun h1 => ?_) (fun h1 => ?_) | refine awl_split 14 rfl (fun h1 => ?_) (fun h1 => ?_)
  · skip
    obtain ⟨a, r', rfl⟩ := drop_ne hd (by simp at h1; omega)
    have hrow := rowT_at hd
    have hb := szT_pos a
    have hp := szTs_pos r'
    have hps : szTs (a :: r') = szT a + szTs r' := rfl
    refine awl_guard_yes rfl (by first | exact h1 | exact decide_eq_true h1 | exact decide_eq_false h1) rfl rfl ?_
    refine awl_move rfl rfl ?_
    refine awl_guard_yes rfl (by first | exact h1 | exact decide_eq_true h1 | exact decide_eq_false h1) rfl rfl ?_
    refine awl_move rfl rfl ?_
    refine awl_guard_yes rfl (by first | exact h1 | exact decide_eq_true h1 | exact decide_eq_false h1) rfl rfl ?_
    refine awl_bin rfl rfl rfl rfl bin_leq ?_
    refine awl_pick_t (by first | exact h1 | exact decide_eq_true h1 | exact decide_eq_false h1) rfl rfl rfl ?_
    refine awl_nil ?_
    change AWp _ _ _ _ _ _
    first | refine awp_cond_p rfl (fun h2 => ?_) (fun h2 => ?_) | refine awp_cond rfl (fun h2 => ?_) (fun h2 => ?_)
    · skip
      refine awp_skip ?_
      change AWp _ _ _ _ _ _
      refine awp_seq ?_
      refine awp_block ?_
      refine awp_region ?_
      refine awl_move rfl rfl ?_
      first | refine awl_fieldAddr fi27_4_MeB rfl rfl ?_ | refine awl_fieldAddr_i fi27_4_MeB rfl rfl rfl ?_
      first | refine awl_load_one ti25_MeB rfl rfl rfl rfl ?_ | refine awl_load_ione ti25_MeB rfl rfl rfl ?_
      refine awl_move rfl rfl ?_
      refine x_index si25_MeB ti27_MeB rfl rfl rfl rfl (by omega) (by first | omega | (simp only [List.length_map]; omega) | (simp; omega)) hrow rfl ?_
      first | refine awl_load_row ti27_MeB rfl rfl rfl rfl ?_ | refine x_irow ti27_MeB rfl rfl rfl rfl ?_
      refine awl_move rfl rfl ?_
      refine awl_move rfl rfl ?_
      first | refine awl_bin rfl rfl rfl rfl (bin_sub_i (by omega)) ?_ | refine awl_bin rfl rfl rfl rfl bin_sub ?_
      refine awl_pcall fb14_MeB rfl (ih a (drop_mem hd) (most - m) (by omega) (by omega) (by omega)) (.cons (by first | exact Sub.refl _ | exact Sub.ts | exact Sub.nil | exact Sub.agc (by repeat (first | exact .nil | refine .cons (by first | exact Sub.refl _ | exact Sub.nil) ?_))) (.cons (by first | exact Sub.refl _ | exact Sub.ts | exact Sub.nil | exact Sub.agc (by repeat (first | exact .nil | refine .cons (by first | exact Sub.refl _ | exact Sub.nil) ?_))) .nil)) rfl ?_
      first | refine awl_bin rfl rfl rfl rfl (bin_add_i (by omega)) ?_ | refine awl_bin rfl rfl rfl rfl bin_add ?_
      refine awl_assign rfl rfl ?_
      refine awl_nil ?_
      change AWp _ _ _ _ _ _
      refine awp_region ?_
      refine awl_move rfl rfl ?_
      first | refine awl_bin rfl rfl rfl rfl (bin_add_i (by omega)) ?_ | refine awl_bin rfl rfl rfl rfl bin_add ?_
      refine awl_assign rfl rfl ?_
      refine awl_nil ?_
      change ∃ x', _
      refine ⟨(i + 1, r', m + min (szT a) (max (most - m) 0 + 1)), ⟨drop_next hd, by simp only; omega, by simp only; omega, by simp only; omega, by rw [hsp]; simp only [szTs]; omega⟩, by simp, (Le.mk (.cons rfl (by first | exact Sub.refl _ | exact Sub.ts | exact Sub.nil | exact Sub.eq (by simp) | exact Sub.eq (by simp; omega)) (.cons rfl (by first | exact Sub.refl _ | exact Sub.ts | exact Sub.nil | exact Sub.eq (by simp) | exact Sub.eq (by simp; omega)) (.cons rfl (by first | exact Sub.refl _ | exact Sub.ts | exact Sub.nil | exact Sub.eq (by simp) | exact Sub.eq (by simp; omega)) (.cons rfl (by first | exact Sub.refl _ | exact Sub.ts | exact Sub.nil | exact Sub.eq (by simp) | exact Sub.eq (by simp; omega)) (.nil))))) (.cons rfl (by first | rfl | (simp; done)) (.nil)) rfl)⟩
    · skip
      refine awp_exit ?_
      change AWp _ _ _ _ _ _
      refine awp_seq ?_
      refine awp_seq ?_
      refine awp_region ?_
      refine awl_move rfl rfl ?_
      refine awl_move rfl rfl ?_
      refine awl_bin rfl rfl rfl rfl bin_gtr ?_
      refine awl_nil ?_
      change AWp _ _ _ _ _ _
      first | refine awp_cond_p rfl (fun h3 => ?_) (fun h3 => ?_) | refine awp_cond rfl (fun h3 => ?_) (fun h3 => ?_)
      · skip
        refine awp_seq ?_
        refine awp_region ?_
        refine awl_move rfl rfl ?_
        first | refine awl_bin rfl rfl rfl rfl (bin_add_i (by omega)) ?_ | refine awl_bin rfl rfl rfl rfl bin_add ?_
        refine awl_assign rfl rfl ?_
        refine awl_nil ?_
        change AWp _ _ _ _ _ _
        refine awp_ret ?_
        change Ends _ _ _ _ _ _
        refine ends1 [] rfl (.tmp rfl) ?_ rfl
        refine ⟨I_eq ?_, rfl⟩
        omega
      · skip
        refine awp_skip ?_
        change AWp _ _ _ _ _ _
        refine awp_seq ?_
        refine awp_region ?_
        refine awl_move rfl rfl ?_
        refine awl_assign rfl rfl ?_
        refine awl_nil ?_
        change AWp _ _ _ _ _ _
        refine awp_ret ?_
        change Ends _ _ _ _ _ _
        refine ends1 [] rfl (.tmp rfl) ?_ rfl
        refine ⟨I_eq ?_, rfl⟩
        omega
  · skip
    refine awl_guard_no rfl (by first | exact h1 | exact decide_eq_true h1 | exact decide_eq_false h1) rfl rfl rfl rfl ?_
    refine awl_guard_no rfl (by first | exact h1 | exact decide_eq_true h1 | exact decide_eq_false h1) rfl rfl rfl rfl ?_
    refine awl_guard_no rfl (by first | exact h1 | exact decide_eq_true h1 | exact decide_eq_false h1) rfl rfl rfl rfl ?_
    refine awl_pick_f (by first | exact h1 | exact decide_eq_true h1 | exact decide_eq_false h1) rfl rfl rfl ?_
    refine awl_nil ?_
    change AWp _ _ _ _ _ _
    refine awp_cond_f rfl rfl ?_
    refine awp_exit ?_
    change AWp _ _ _ _ _ _
    refine awp_seq ?_
    refine awp_seq ?_
    refine awp_region ?_
    refine awl_move rfl rfl ?_
    refine awl_move rfl rfl ?_
    refine awl_bin rfl rfl rfl rfl bin_gtr ?_
    refine awl_nil ?_
    change AWp _ _ _ _ _ _
    first | refine awp_cond_p rfl (fun h4 => ?_) (fun h4 => ?_) | refine awp_cond rfl (fun h4 => ?_) (fun h4 => ?_)
    · skip
      refine awp_seq ?_
      refine awp_region ?_
      refine awl_move rfl rfl ?_
      first | refine awl_bin rfl rfl rfl rfl (bin_add_i (by omega)) ?_ | refine awl_bin rfl rfl rfl rfl bin_add ?_
      refine awl_assign rfl rfl ?_
      refine awl_nil ?_
      change AWp _ _ _ _ _ _
      refine awp_ret ?_
      change Ends _ _ _ _ _ _
      refine ends1 [] rfl (.tmp rfl) ?_ rfl
      refine ⟨I_eq ?_, rfl⟩
      obtain rfl := drop_end hd (by simp at h1; omega)
      simp only [szTs] at hsp; omega
    · skip
      refine awp_skip ?_
      change AWp _ _ _ _ _ _
      refine awp_seq ?_
      refine awp_region ?_
      refine awl_move rfl rfl ?_
      refine awl_assign rfl rfl ?_
      refine awl_nil ?_
      change AWp _ _ _ _ _ _
      refine awp_ret ?_
      change Ends _ _ _ _ _ _
      refine ends1 [] rfl (.tmp rfl) ?_ rfl
      refine ⟨I_eq ?_, rfl⟩
      obtain rfl := drop_end hd (by simp at h1; omega)
      simp only [szTs] at hsp; omega
termination_by SizeOf.sizeOf t
decreasing_by exact Trm.lt ha

theorem size_con (t : Trm) : ∀ (n most : Int), 0 ≤ n → n ≤ most → most ≤ 9223372036854775807 → (most ≤ 4611686018427387904 ∨ n + szT t ≤ 4611686018427387904) →
    Con Try.prog 60 [tv t, .ptr 1000 0, .p (I most)] [(1000, .ce 3 [.p (I n)])] (fun r o => r = .tp [] ∧ o = [(1000, .ce 3 [.p (I (min (n + szT t) (most + 1)))])]) := by
  intro n most hn0 hn1 hm hbd
  have ih : ∀ a ∈ t.args, ∀ (n : Int), 0 ≤ n → n ≤ most → (most ≤ 4611686018427387904 ∨ n + szT a ≤ 4611686018427387904) → Con Try.prog 60 [tv a, .ptr 1000 0, .p (I most)] [(1000, .ce 3 [.p (I n)])] (fun r o => r = .tp [] ∧ o = [(1000, .ce 3 [.p (I (min (n + szT a) (most + 1)))])]) :=
    fun a ha n h0 h1 h2 => size_con a n most h0 h1 hm h2
  have hpos := szTs_pos t.args
  have hpe := szT_eq t
  refine con_of Try.func60 rfl 35 Try.ntmps60 rfl fun cx hcx => ?_
  refine awp_seq ?_
  refine awp_region ?_
  refine awl_box rfl rfl rfl rfl rfl (by rw [hcx]; rfl) rfl ?_
  refine awl_nil ?_
  change AWp _ _ _ _ _ _
  refine awp_seq ?_
  refine awp_seq ?_
  refine awp_region ?_
  refine awl_move rfl rfl ?_
  refine awl_nilCheck rfl rfl rfl ?_
  first | refine awl_load_one ti3_MeB rfl rfl rfl rfl ?_ | refine awl_load_ione ti3_MeB rfl rfl rfl ?_
  first | refine awl_bin rfl rfl rfl rfl (bin_add_i (by omega)) ?_ | refine awl_bin rfl rfl rfl rfl bin_add ?_
  refine awl_nilCheck rfl rfl rfl ?_
  refine x_store ti3_MeB rfl rfl rfl rfl rfl rfl rfl rfl ?_
  refine awl_nil ?_
  change AWp _ _ _ _ _ _
  refine awp_seq ?_
  refine awp_region ?_
  refine awl_move rfl rfl ?_
  refine awl_nilCheck rfl rfl rfl ?_
  first | refine awl_load_one ti3_MeB rfl rfl rfl rfl ?_ | refine awl_load_ione ti3_MeB rfl rfl rfl ?_
  refine awl_move rfl rfl ?_
  refine awl_bin rfl rfl rfl rfl bin_gtr ?_
  refine awl_nil ?_
  change AWp _ _ _ _ _ _
  first | refine awp_cond_p rfl (fun h1 => ?_) (fun h1 => ?_) | refine awp_cond rfl (fun h1 => ?_) (fun h1 => ?_)
  · skip
    refine awp_ret ?_
    change Ends _ _ _ _ _ _
    refine ends0 [1000] rfl  ?_ rfl
    refine ⟨rfl, O_eq ?_⟩
    omega
  · skip
    refine awp_skip ?_
    change AWp _ _ _ _ _ _
    refine awp_seq ?_
    refine awp_region ?_
    first | refine awl_fieldAddr fi27_4_MeB rfl rfl ?_ | refine awl_fieldAddr_i fi27_4_MeB rfl rfl rfl ?_
    first | refine awl_load_one ti25_MeB rfl rfl rfl rfl ?_ | refine awl_load_ione ti25_MeB rfl rfl rfl ?_
    refine x_len si25_MeB rfl rfl rfl (fun hlen15 => ?_)
    refine awl_move rfl rfl ?_
    refine awl_nil ?_
    change AWp _ _ _ _ _ _
    refine awp_block ?_
    refine x_loop [(1, _), (2, _), (19, _), (20, _)] [] (fun x : Nat × List Trm × Int => [(21, .p (I x.1))]) (fun x => [(1000, .ce 3 [.p (I x.2.2)])]) (fun x => t.args.drop x.1 = x.2.1 ∧ 0 ≤ x.2.2 ∧ x.2.2 ≤ most ∧ x.2.2 + szTs x.2.1 = n + szT t) (fun x => x.2.1.length) (0, t.args, n + 1) (Le.mk (.cons rfl (by first | exact Sub.refl _ | exact Sub.ts | exact Sub.nil | exact Sub.eq (by simp) | exact Sub.eq (by simp; omega)) (.cons rfl (by first | exact Sub.refl _ | exact Sub.ts | exact Sub.nil | exact Sub.eq (by simp) | exact Sub.eq (by simp; omega)) (.cons rfl (by first | exact Sub.refl _ | exact Sub.ts | exact Sub.nil | exact Sub.eq (by simp) | exact Sub.eq (by simp; omega)) (.cons rfl (by first | exact Sub.refl _ | exact Sub.ts | exact Sub.nil | exact Sub.eq (by simp) | exact Sub.eq (by simp; omega)) (.cons rfl (by first | exact Sub.refl _ | exact Sub.ts | exact Sub.nil | exact Sub.eq (by simp) | exact Sub.eq (by simp; omega)) (.nil)))))) (.cons rfl (by first | rfl | (simp; done)) (.nil)) rfl) ⟨rfl, by simp only; omega, by simp only; omega, by simp only; omega⟩ (fun x hx => ?_)
    obtain ⟨i, r, m⟩ := x
    obtain ⟨hd, hm0, hm1, hsp⟩ := hx
    simp only at hd hm0 hm1 hsp
    dsimp only [List.cons_append, List.nil_append]
    refine awp_seq ?_
    refine awp_region ?_
    refine awl_bin rfl rfl rfl rfl bin_lss ?_
    refine awl_nil ?_
    change AWp _ _ _ _ _ _
    refine awp_seq ?_
    first | refine awp_cond_p rfl (fun h2 => ?_) (fun h2 => ?_) | refine awp_cond rfl (fun h2 => ?_) (fun h2 => ?_)
    · skip
      obtain ⟨a, r', rfl⟩ := drop_ne hd (by simp at h2; omega)
      have hrow := rowT_at hd
      have hb := szT_pos a
      have hp := szTs_pos r'
      have hps : szTs (a :: r') = szT a + szTs r' := rfl
      refine awp_skip ?_
      change AWp _ _ _ _ _ _
      refine awp_seq ?_
      refine awp_block ?_
      refine awp_seq ?_
      refine awp_region ?_
      refine x_index si25_MeB ti27_MeB rfl rfl rfl rfl (by omega) (by first | omega | (simp only [List.length_map]; omega) | (simp; omega)) hrow rfl ?_
      first | refine awl_load_row ti27_MeB rfl rfl rfl rfl ?_ | refine x_irow ti27_MeB rfl rfl rfl rfl ?_
      refine x_alloc tz27_MeB rfl rfl (by rw [hcx]; rfl) rfl ?_
      refine x_store ti27_MeB rfl rfl rfl rfl rfl rfl rfl rfl ?_
      refine awl_nil ?_
      change AWp _ _ _ _ _ _
      refine awp_seq ?_
      refine awp_region ?_
      first | refine awl_load_row ti27_MeB rfl rfl rfl rfl ?_ | refine x_irow ti27_MeB rfl rfl rfl rfl ?_
      refine awl_move rfl rfl ?_
      refine awl_move rfl rfl ?_
      refine x_call [1000] fb60_MeB rfl rfl rfl (ih a (drop_mem hd) m hm0 hm1 (by omega)) (.cons (by first | exact Sub.refl _ | exact Sub.ts | exact Sub.nil | exact Sub.agc (by repeat (first | exact .nil | refine .cons (by first | exact Sub.refl _ | exact Sub.nil) ?_))) (.cons (by first | exact Sub.refl _ | exact Sub.ts | exact Sub.nil | exact Sub.agc (by repeat (first | exact .nil | refine .cons (by first | exact Sub.refl _ | exact Sub.nil) ?_))) (.cons (by first | exact Sub.refl _ | exact Sub.ts | exact Sub.nil | exact Sub.agc (by repeat (first | exact .nil | refine .cons (by first | exact Sub.refl _ | exact Sub.nil) ?_))) .nil))) rfl (fun r o ⟨e1, e2⟩ => ?_)
      subst e1 e2
      refine ⟨rfl, _, rfl, ?_⟩
      refine awl_nil ?_
      change AWp _ _ _ _ _ _
      refine awp_seq ?_
      refine awp_region ?_
      refine awl_move rfl rfl ?_
      refine awl_nilCheck rfl rfl rfl ?_
      first | refine awl_load_one ti3_MeB rfl rfl rfl rfl ?_ | refine awl_load_ione ti3_MeB rfl rfl rfl ?_
      refine awl_move rfl rfl ?_
      refine awl_bin rfl rfl rfl rfl bin_gtr ?_
      refine awl_nil ?_
      change AWp _ _ _ _ _ _
      first | refine awp_cond_p rfl (fun h3 => ?_) (fun h3 => ?_) | refine awp_cond rfl (fun h3 => ?_) (fun h3 => ?_)
      · skip
        refine awp_ret ?_
        change Ends _ _ _ _ _ _
        refine ends0 [1000] rfl  ?_ rfl
        refine ⟨rfl, O_eq ?_⟩
        omega
      · skip
        refine awp_skip ?_
        change AWp _ _ _ _ _ _
        refine awp_region ?_
        first | refine awl_bin rfl rfl rfl rfl (bin_add_i (by omega)) ?_ | refine awl_bin rfl rfl rfl rfl bin_add ?_
        refine awl_move rfl rfl ?_
        refine awl_nil ?_
        change ∃ x', _
        refine ⟨(i + 1, r', min (m + szT a) (most + 1)), ⟨drop_next hd, by simp only; omega, by simp only; omega, by simp only; omega⟩, by simp, (Le.mk (.cons rfl (by first | exact Sub.refl _ | exact Sub.ts | exact Sub.nil | exact Sub.eq (by simp) | exact Sub.eq (by simp; omega)) (.cons rfl (by first | exact Sub.refl _ | exact Sub.ts | exact Sub.nil | exact Sub.eq (by simp) | exact Sub.eq (by simp; omega)) (.cons rfl (by first | exact Sub.refl _ | exact Sub.ts | exact Sub.nil | exact Sub.eq (by simp) | exact Sub.eq (by simp; omega)) (.cons rfl (by first | exact Sub.refl _ | exact Sub.ts | exact Sub.nil | exact Sub.eq (by simp) | exact Sub.eq (by simp; omega)) (.cons rfl (by first | exact Sub.refl _ | exact Sub.ts | exact Sub.nil | exact Sub.eq (by simp) | exact Sub.eq (by simp; omega)) (.nil)))))) (.cons rfl (by first | rfl | (simp; done)) (.nil)) rfl)⟩
    · skip
      refine awp_exit ?_
      change Ends _ _ _ _ _ _
      refine ends0 [1000] rfl  ?_ rfl
      refine ⟨rfl, O_eq ?_⟩
      obtain rfl := drop_end hd (by simp at h2; omega)
      simp only [szTs] at hsp; omega
termination_by SizeOf.sizeOf t
decreasing_by exact Trm.lt ha

theorem Size_con (t : Trm) (most : Int) (hl0 : -9223372036854775808 ≤ most) (hl1 : most ≤ 9223372036854775807) (hbd : most ≤ 4611686018427387904 ∨ szT t ≤ 4611686018427387904) :
    PCon Try.prog 45 [tv t, .p (I most)] (.p (I (min (szT t) (max most 0 + 1)))) := by
  refine con_of Try.func45 rfl 11 Try.ntmps45 rfl fun cx hcx => ?_
  refine awp_seq ?_
  refine awp_region ?_
  refine awl_box rfl rfl rfl rfl rfl (by rw [hcx]; rfl) rfl ?_
  refine awl_assign rfl rfl ?_
  refine awl_nil ?_
  change AWp _ _ _ _ _ _
  refine awp_seq ?_
  refine awp_region ?_
  refine x_alloc tz3_MeB rfl rfl (by rw [hcx]; rfl) rfl ?_
  refine x_store ti3_MeB rfl rfl rfl rfl rfl rfl rfl rfl ?_
  refine awl_nil ?_
  change AWp _ _ _ _ _ _
  refine awp_seq ?_
  refine awp_region ?_
  first | refine awl_load_row ti27_MeB rfl rfl rfl rfl ?_ | refine x_irow ti27_MeB rfl rfl rfl rfl ?_
  refine awl_move rfl rfl ?_
  refine awl_max rfl rfl rfl ?_
  refine x_call [5] fb60_MeB rfl rfl rfl ((size_con t 0 (max most 0) (by omega) (by omega) (by omega) (by omega)).sw 1000 5) (.cons (by first | exact Sub.refl _ | exact Sub.ts | exact Sub.nil | exact Sub.agc (by repeat (first | exact .nil | refine .cons (by first | exact Sub.refl _ | exact Sub.nil) ?_))) (.cons (by first | exact Sub.refl _ | exact Sub.ts | exact Sub.nil | exact Sub.agc (by repeat (first | exact .nil | refine .cons (by first | exact Sub.refl _ | exact Sub.nil) ?_))) (.cons (by first | exact Sub.refl _ | exact Sub.ts | exact Sub.nil | exact Sub.agc (by repeat (first | exact .nil | refine .cons (by first | exact Sub.refl _ | exact Sub.nil) ?_))) .nil))) rfl (fun r o ⟨_, _, ⟨e1, e2⟩, e3, e4⟩ => ?_)
  subst e1 e2 e3 e4
  refine ⟨rfl, _, rfl, ?_⟩
  refine awl_nil ?_
  change AWp _ _ _ _ _ _
  refine awp_seq ?_
  refine awp_region ?_
  first | refine awl_load_one ti3_MeB rfl rfl rfl rfl ?_ | refine awl_load_ione ti3_MeB rfl rfl rfl ?_
  refine awl_assign rfl rfl ?_
  refine awl_nil ?_
  change AWp _ _ _ _ _ _
  refine awp_ret ?_
  change Ends _ _ _ _ _ _
  refine ends1 [] rfl (.tmp rfl) ?_ rfl
  refine ⟨I_eq ?_, rfl⟩
  omega

def okL (l : Lvl) : Bool := decide (partsL l ≤ 64 ∧ deepL l ≤ 32)
mutual
def okT : Trm → Bool
  | ⟨_, _, _, ls, l⟩ => ls.all okL && okTs l
def okTs : List Trm → Bool
  | [] => true
  | a :: r => okT a && okTs r
end
theorem okT_eq (t : Trm) : okT t = (t.levels.all okL && okTs t.args) := by cases t; rfl
theorem small_ok (l : Lvl) : (smallL l 1 0).1 = okL l := by
  rw [(smallL_spec l 1 0).1]; simp [okL]

theorem levels_con (t : Trm) : PCon Try.prog 46 [tv t] (.p (B (okT t))) := by
  have ih : ∀ a ∈ t.args, PCon Try.prog 46 [tv a] (.p (B (okT a))) := fun a ha => levels_con a
  have hok := okT_eq t
  refine con_of Try.func46 rfl 30 Try.ntmps46 rfl fun cx hcx => ?_
  refine awp_seq ?_
  refine awp_region ?_
  refine awl_box rfl rfl rfl rfl rfl (by rw [hcx]; rfl) rfl ?_
  refine awl_assign rfl rfl ?_
  refine awl_nil ?_
  change AWp _ _ _ _ _ _
  refine awp_seq ?_
  refine awp_seq ?_
  refine awp_region ?_
  first | refine awl_fieldAddr fi27_3_MeB rfl rfl ?_ | refine awl_fieldAddr_i fi27_3_MeB rfl rfl rfl ?_
  first | refine awl_load_one ti24_MeB rfl rfl rfl rfl ?_ | refine awl_load_ione ti24_MeB rfl rfl rfl ?_
  refine x_len si24_MeB rfl rfl rfl (fun hlen4 => ?_)
  refine awl_move rfl rfl ?_
  refine awl_nil ?_
  change AWp _ _ _ _ _ _
  refine awp_block ?_
  refine x_loop [(1, _), (9, _), (10, _)] [(1, _)] (fun x : Nat × List Lvl => [(11, .p (I x.1))]) (fun x => []) (fun x => t.levels.drop x.1 = x.2 ∧ okT t = (x.2.all okL && okTs t.args)) (fun x => x.2.length) (0, t.levels) (Le.mk (.cons rfl (by first | exact Sub.refl _ | exact Sub.ts | exact Sub.nil | exact Sub.eq (by simp) | exact Sub.eq (by simp; omega)) (.cons rfl (by first | exact Sub.refl _ | exact Sub.ts | exact Sub.nil | exact Sub.eq (by simp) | exact Sub.eq (by simp; omega)) (.cons rfl (by first | exact Sub.refl _ | exact Sub.ts | exact Sub.nil | exact Sub.eq (by simp) | exact Sub.eq (by simp; omega)) (.cons rfl (by first | exact Sub.refl _ | exact Sub.ts | exact Sub.nil | exact Sub.eq (by simp) | exact Sub.eq (by simp; omega)) (.nil))))) (.cons rfl (by first | rfl | (simp; done)) (.nil)) rfl) ⟨rfl, hok⟩ (fun x hx => ?_)
  obtain ⟨i, r⟩ := x
  obtain ⟨hd, hsp⟩ := hx
  simp only at hd hsp
  dsimp only [List.cons_append, List.nil_append]
  refine awp_seq ?_
  refine awp_region ?_
  refine awl_bin rfl rfl rfl rfl bin_lss ?_
  refine awl_nil ?_
  change AWp _ _ _ _ _ _
  refine awp_seq ?_
  first | refine awp_cond_p rfl (fun h1 => ?_) (fun h1 => ?_) | refine awp_cond rfl (fun h1 => ?_) (fun h1 => ?_)
  · skip
    obtain ⟨a, r', rfl⟩ := drop_ne hd (by simp at h1; omega)
    have hrow := rowL_at hd
    refine awp_skip ?_
    change AWp _ _ _ _ _ _
    refine awp_seq ?_
    refine awp_block ?_
    refine awp_seq ?_
    refine awp_region ?_
    refine x_index si24_MeB ti39_MeB rfl rfl rfl rfl (by omega) (by first | omega | (simp only [List.length_map]; omega) | (simp; omega)) hrow rfl ?_
    first | refine awl_load_row ti39_MeB rfl rfl rfl rfl ?_ | refine x_irow ti39_MeB rfl rfl rfl rfl ?_
    refine x_alloc tz39_MeB rfl rfl (by rw [hcx]; rfl) rfl ?_
    refine x_store ti39_MeB rfl rfl rfl rfl rfl rfl rfl rfl ?_
    refine awl_nil ?_
    change AWp _ _ _ _ _ _
    refine awp_seq ?_
    refine awp_region ?_
    refine x_alloc tz3_MeB rfl rfl (by rw [hcx]; rfl) rfl ?_
    refine x_store ti3_MeB rfl rfl rfl rfl rfl rfl rfl rfl ?_
    refine awl_nil ?_
    change AWp _ _ _ _ _ _
    refine awp_seq ?_
    refine awp_region ?_
    first | refine awl_load_row ti39_MeB rfl rfl rfl rfl ?_ | refine x_irow ti39_MeB rfl rfl rfl rfl ?_
    refine x_call [5] fb61_MeB rfl rfl rfl ((small_con a 1 0 (by omega) (by omega) (by omega) (by omega)).sw 1000 5) (.cons (by first | exact Sub.refl _ | exact Sub.ts | exact Sub.nil | exact Sub.agc (by repeat (first | exact .nil | refine .cons (by first | exact Sub.refl _ | exact Sub.nil) ?_))) (.cons (by first | exact Sub.refl _ | exact Sub.ts | exact Sub.nil | exact Sub.agc (by repeat (first | exact .nil | refine .cons (by first | exact Sub.refl _ | exact Sub.nil) ?_))) (.cons (by first | exact Sub.refl _ | exact Sub.ts | exact Sub.nil | exact Sub.agc (by repeat (first | exact .nil | refine .cons (by first | exact Sub.refl _ | exact Sub.nil) ?_))) .nil))) rfl (fun r o ⟨_, _, ⟨e1, e2⟩, e3, e4⟩ => ?_)
    subst e1 e2 e3 e4
    refine ⟨rfl, _, rfl, ?_⟩
    first | refine awl_un rfl rfl rfl un_notd ?_ | refine awl_un rfl rfl rfl un_not ?_
    refine awl_nil ?_
    change AWp _ _ _ _ _ _
    first | refine awp_cond_p rfl (fun h2 => ?_) (fun h2 => ?_) | refine awp_cond rfl (fun h2 => ?_) (fun h2 => ?_)
    · skip
      have h2a : okL a = false := by simpa [small_ok] using h2
      refine awp_seq ?_
      refine awp_region ?_
      refine awl_assign rfl rfl ?_
      refine awl_nil ?_
      change AWp _ _ _ _ _ _
      refine awp_ret ?_
      change Ends _ _ _ _ _ _
      refine ends1 [] rfl (.tmp rfl) ?_ rfl
      refine ⟨B_eq ?_, rfl⟩
      rw [hsp]; simp [h2a]
    · skip
      have h2a : okL a = true := by simpa [small_ok] using h2
      refine awp_skip ?_
      change AWp _ _ _ _ _ _
      refine awp_region ?_
      first | refine awl_bin rfl rfl rfl rfl (bin_add_i (by omega)) ?_ | refine awl_bin rfl rfl rfl rfl bin_add ?_
      refine awl_move rfl rfl ?_
      refine awl_nil ?_
      change ∃ x', _
      refine ⟨(i + 1, r'), ⟨drop_next hd, by rw [hsp]; simp [h2a]⟩, by simp, (Le.mk (.cons rfl (by first | exact Sub.refl _ | exact Sub.ts | exact Sub.nil | exact Sub.eq (by simp) | exact Sub.eq (by simp; omega)) (.cons rfl (by first | exact Sub.refl _ | exact Sub.ts | exact Sub.nil | exact Sub.eq (by simp) | exact Sub.eq (by simp; omega)) (.cons rfl (by first | exact Sub.refl _ | exact Sub.ts | exact Sub.nil | exact Sub.eq (by simp) | exact Sub.eq (by simp; omega)) (.cons rfl (by first | exact Sub.refl _ | exact Sub.ts | exact Sub.nil | exact Sub.eq (by simp) | exact Sub.eq (by simp; omega)) (.nil))))) (.cons rfl (by first | rfl | (simp; done)) (.nil)) rfl)⟩
  · skip
    obtain rfl := drop_end hd (by simp at h1; omega)
    have hsp1 : okT t = okTs t.args := by rw [hsp]; simp
    refine awp_exit ?_
    change AWp _ _ _ _ _ _
    refine awp_seq ?_
    refine awp_seq ?_
    refine awp_region ?_
    first | refine awl_fieldAddr fi27_4_MeB rfl rfl ?_ | refine awl_fieldAddr_i fi27_4_MeB rfl rfl rfl ?_
    first | refine awl_load_one ti25_MeB rfl rfl rfl rfl ?_ | refine awl_load_ione ti25_MeB rfl rfl rfl ?_
    refine x_len si25_MeB rfl rfl rfl (fun hlen21 => ?_)
    refine awl_move rfl rfl ?_
    refine awl_nil ?_
    change AWp _ _ _ _ _ _
    refine awp_block ?_
    refine x_loop [(20, _), (21, _)] [] (fun x : Nat × List Trm => [(22, .p (I x.1))]) (fun x => []) (fun x => t.args.drop x.1 = x.2 ∧ okT t = okTs x.2) (fun x => x.2.length) (0, t.args) (Le.mk (.cons rfl (by first | exact Sub.refl _ | exact Sub.ts | exact Sub.nil | exact Sub.eq (by simp) | exact Sub.eq (by simp; omega)) (.cons rfl (by first | exact Sub.refl _ | exact Sub.ts | exact Sub.nil | exact Sub.eq (by simp) | exact Sub.eq (by simp; omega)) (.cons rfl (by first | exact Sub.refl _ | exact Sub.ts | exact Sub.nil | exact Sub.eq (by simp) | exact Sub.eq (by simp; omega)) (.nil)))) (.nil) rfl) ⟨rfl, hsp1⟩ (fun x hx => ?_)
    obtain ⟨i, r⟩ := x
    obtain ⟨hd, hsp2⟩ := hx
    simp only at hd hsp2
    dsimp only [List.cons_append, List.nil_append]
    refine awp_seq ?_
    refine awp_region ?_
    refine awl_bin rfl rfl rfl rfl bin_lss ?_
    refine awl_nil ?_
    change AWp _ _ _ _ _ _
    refine awp_seq ?_
    first | refine awp_cond_p rfl (fun h3 => ?_) (fun h3 => ?_) | refine awp_cond rfl (fun h3 => ?_) (fun h3 => ?_)
    · skip
      obtain ⟨a, r', rfl⟩ := drop_ne hd (by simp at h3; omega)
      have hrow := rowT_at hd
      refine awp_skip ?_
      change AWp _ _ _ _ _ _
      refine awp_seq ?_
      refine awp_block ?_
      refine awp_seq ?_
      refine awp_region ?_
      refine x_index si25_MeB ti27_MeB rfl rfl rfl rfl (by omega) (by first | omega | (simp only [List.length_map]; omega) | (simp; omega)) hrow rfl ?_
      first | refine awl_load_row ti27_MeB rfl rfl rfl rfl ?_ | refine x_irow ti27_MeB rfl rfl rfl rfl ?_
      refine x_alloc tz27_MeB rfl rfl (by rw [hcx]; rfl) rfl ?_
      refine x_store ti27_MeB rfl rfl rfl rfl rfl rfl rfl rfl ?_
      refine awl_nil ?_
      change AWp _ _ _ _ _ _
      refine awp_seq ?_
      refine awp_region ?_
      first | refine awl_load_row ti27_MeB rfl rfl rfl rfl ?_ | refine x_irow ti27_MeB rfl rfl rfl rfl ?_
      refine awl_pcall fb46_MeB rfl (ih a (drop_mem hd)) (.cons (by first | exact Sub.refl _ | exact Sub.ts | exact Sub.nil | exact Sub.agc (by repeat (first | exact .nil | refine .cons (by first | exact Sub.refl _ | exact Sub.nil) ?_))) .nil) rfl ?_
      first | refine awl_un rfl rfl rfl un_notd ?_ | refine awl_un rfl rfl rfl un_not ?_
      refine awl_nil ?_
      change AWp _ _ _ _ _ _
      first | refine awp_cond_p rfl (fun h4 => ?_) (fun h4 => ?_) | refine awp_cond rfl (fun h4 => ?_) (fun h4 => ?_)
      · skip
        have h4a : okT a = false := by simpa using h4
        refine awp_seq ?_
        refine awp_region ?_
        refine awl_assign rfl rfl ?_
        refine awl_nil ?_
        change AWp _ _ _ _ _ _
        refine awp_ret ?_
        change Ends _ _ _ _ _ _
        refine ends1 [] rfl (.tmp rfl) ?_ rfl
        refine ⟨B_eq ?_, rfl⟩
        rw [hsp2]; simp [okTs, h4a]
      · skip
        have h4a : okT a = true := by simpa using h4
        refine awp_skip ?_
        change AWp _ _ _ _ _ _
        refine awp_region ?_
        first | refine awl_bin rfl rfl rfl rfl (bin_add_i (by omega)) ?_ | refine awl_bin rfl rfl rfl rfl bin_add ?_
        refine awl_move rfl rfl ?_
        refine awl_nil ?_
        change ∃ x', _
        refine ⟨(i + 1, r'), ⟨drop_next hd, by rw [hsp2]; simp [okTs, h4a]⟩, by simp, (Le.mk (.cons rfl (by first | exact Sub.refl _ | exact Sub.ts | exact Sub.nil | exact Sub.eq (by simp) | exact Sub.eq (by simp; omega)) (.cons rfl (by first | exact Sub.refl _ | exact Sub.ts | exact Sub.nil | exact Sub.eq (by simp) | exact Sub.eq (by simp; omega)) (.cons rfl (by first | exact Sub.refl _ | exact Sub.ts | exact Sub.nil | exact Sub.eq (by simp) | exact Sub.eq (by simp; omega)) (.nil)))) (.nil) rfl)⟩
    · skip
      refine awp_exit ?_
      change AWp _ _ _ _ _ _
      refine awp_seq ?_
      refine awp_region ?_
      refine awl_assign rfl rfl ?_
      refine awl_nil ?_
      change AWp _ _ _ _ _ _
      refine awp_ret ?_
      change Ends _ _ _ _ _ _
      refine ends1 [] rfl (.tmp rfl) ?_ rfl
      refine ⟨B_eq ?_, rfl⟩
      obtain rfl := drop_end hd (by simp at h3; omega)
      rw [hsp2]; simp [okTs]
termination_by SizeOf.sizeOf t
decreasing_by exact Trm.lt ha

theorem rlevels_con (t : Trm) : PCon Try.prog 47 [tv t] (.p (B (okT t))) := by
  have ih : ∀ a ∈ t.args, PCon Try.prog 47 [tv a] (.p (B (okT a))) := fun a ha => rlevels_con a
  have hok := okT_eq t
  refine con_of Try.func47 rfl 42 Try.ntmps47 rfl fun cx hcx => ?_
  refine awp_seq ?_
  refine awp_region ?_
  refine awl_box rfl rfl rfl rfl rfl (by rw [hcx]; rfl) rfl ?_
  refine awl_assign rfl rfl ?_
  refine awl_nil ?_
  change AWp _ _ _ _ _ _
  refine awp_seq ?_
  refine awp_seq ?_
  refine awp_region ?_
  refine awl_assign rfl rfl ?_
  refine awl_nil ?_
  change AWp _ _ _ _ _ _
  refine awp_block ?_
  refine x_loop [(1, _)] [(1, _)] (fun x : Nat × List Lvl => [(3, .p (I x.1))]) (fun x => []) (fun x => t.levels.drop x.1 = x.2 ∧ okT t = (x.2.all okL && okTs t.args)) (fun x => x.2.length) (0, t.levels) (Le.mk (.cons rfl (by first | exact Sub.refl _ | exact Sub.ts | exact Sub.nil | exact Sub.eq (by simp) | exact Sub.eq (by simp; omega)) (.cons rfl (by first | exact Sub.refl _ | exact Sub.ts | exact Sub.nil | exact Sub.eq (by simp) | exact Sub.eq (by simp; omega)) (.nil))) (.cons rfl (by first | rfl | (simp; done)) (.nil)) rfl) ⟨rfl, hok⟩ (fun x hx => ?_)
  obtain ⟨i, r⟩ := x
  obtain ⟨hd, hsp⟩ := hx
  simp only at hd hsp
  dsimp only [List.cons_append, List.nil_append]
  refine awp_seq ?_
  refine awp_seq ?_
  refine awp_region ?_
  refine awl_move rfl rfl ?_
  first | refine awl_fieldAddr fi27_3_MeB rfl rfl ?_ | refine awl_fieldAddr_i fi27_3_MeB rfl rfl rfl ?_
  first | refine awl_load_one ti24_MeB rfl rfl rfl rfl ?_ | refine awl_load_ione ti24_MeB rfl rfl rfl ?_
  refine x_len si24_MeB rfl rfl rfl (fun hlen6 => ?_)
  refine awl_bin rfl rfl rfl rfl bin_lss ?_
  refine awl_nil ?_
  change AWp _ _ _ _ _ _
  first | refine awp_cond_p rfl (fun h1 => ?_) (fun h1 => ?_) | refine awp_cond rfl (fun h1 => ?_) (fun h1 => ?_)
  · skip
    obtain ⟨a, r', rfl⟩ := drop_ne hd (by simp at h1; omega)
    have hrow := rowL_at hd
    refine awp_skip ?_
    change AWp _ _ _ _ _ _
    refine awp_seq ?_
    refine awp_block ?_
    refine awp_seq ?_
    refine awp_region ?_
    first | refine awl_fieldAddr fi27_3_MeB rfl rfl ?_ | refine awl_fieldAddr_i fi27_3_MeB rfl rfl rfl ?_
    first | refine awl_load_one ti24_MeB rfl rfl rfl rfl ?_ | refine awl_load_ione ti24_MeB rfl rfl rfl ?_
    refine awl_move rfl rfl ?_
    refine x_index si24_MeB ti39_MeB rfl rfl rfl rfl (by omega) (by first | omega | (simp only [List.length_map]; omega) | (simp; omega)) hrow rfl ?_
    first | refine awl_load_row ti39_MeB rfl rfl rfl rfl ?_ | refine x_irow ti39_MeB rfl rfl rfl rfl ?_
    refine awl_pcall fb51_MeB rfl (Parts_con a 64 (by omega) (by omega)) (.cons (by first | exact Sub.refl _ | exact Sub.ts | exact Sub.nil | exact Sub.agc (by repeat (first | exact .nil | refine .cons (by first | exact Sub.refl _ | exact Sub.nil) ?_))) (.cons (by first | exact Sub.refl _ | exact Sub.ts | exact Sub.nil | exact Sub.agc (by repeat (first | exact .nil | refine .cons (by first | exact Sub.refl _ | exact Sub.nil) ?_))) .nil)) rfl ?_
    refine awl_bin rfl rfl rfl rfl bin_gtr ?_
    refine awl_move rfl rfl ?_
    first | refine awl_split_p 19 rfl (fun h2 => ?_) (fun h2 => ?_) | refine awl_split 19 rfl (fun h2 => ?_) (fun h2 => ?_)
    · skip
      have h2a : okL a = false := decide_eq_false (by omega)
      refine awl_guard_no rfl (by first | exact h2 | exact decide_eq_true h2 | exact decide_eq_false h2) rfl rfl rfl rfl ?_
      refine awl_guard_no rfl (by first | exact h2 | exact decide_eq_true h2 | exact decide_eq_false h2) rfl rfl rfl rfl ?_
      refine awl_guard_no rfl (by first | exact h2 | exact decide_eq_true h2 | exact decide_eq_false h2) rfl rfl rfl rfl ?_
      refine awl_guard_no rfl (by first | exact h2 | exact decide_eq_true h2 | exact decide_eq_false h2) rfl rfl rfl rfl ?_
      refine awl_guard_no rfl (by first | exact h2 | exact decide_eq_true h2 | exact decide_eq_false h2) rfl rfl rfl rfl ?_
      refine awl_guard_no rfl (by first | exact h2 | exact decide_eq_true h2 | exact decide_eq_false h2) rfl rfl rfl rfl ?_
      refine awl_guard_no rfl (by first | exact h2 | exact decide_eq_true h2 | exact decide_eq_false h2) rfl rfl rfl rfl ?_
      refine awl_pick_t (by first | exact h2 | exact decide_eq_true h2 | exact decide_eq_false h2) rfl rfl rfl ?_
      refine awl_nil ?_
      change AWp _ _ _ _ _ _
      refine awp_cond_t rfl rfl ?_
      refine awp_seq ?_
      refine awp_region ?_
      refine awl_assign rfl rfl ?_
      refine awl_nil ?_
      change AWp _ _ _ _ _ _
      refine awp_ret ?_
      change Ends _ _ _ _ _ _
      refine ends1 [] rfl (.tmp rfl) ?_ rfl
      refine ⟨B_eq ?_, rfl⟩
      rw [hsp]; simp [h2a]
    · skip
      refine awl_guard_yes rfl (by first | exact h2 | exact decide_eq_true h2 | exact decide_eq_false h2) rfl rfl ?_
      first | refine awl_fieldAddr fi27_3_MeB rfl rfl ?_ | refine awl_fieldAddr_i fi27_3_MeB rfl rfl rfl ?_
      refine awl_guard_yes rfl (by first | exact h2 | exact decide_eq_true h2 | exact decide_eq_false h2) rfl rfl ?_
      first | refine awl_load_one ti24_MeB rfl rfl rfl rfl ?_ | refine awl_load_ione ti24_MeB rfl rfl rfl ?_
      refine awl_guard_yes rfl (by first | exact h2 | exact decide_eq_true h2 | exact decide_eq_false h2) rfl rfl ?_
      refine awl_move rfl rfl ?_
      refine awl_guard_yes rfl (by first | exact h2 | exact decide_eq_true h2 | exact decide_eq_false h2) rfl rfl ?_
      refine x_index si24_MeB ti39_MeB rfl rfl rfl rfl (by omega) (by first | omega | (simp only [List.length_map]; omega) | (simp; omega)) hrow rfl ?_
      refine awl_guard_yes rfl (by first | exact h2 | exact decide_eq_true h2 | exact decide_eq_false h2) rfl rfl ?_
      first | refine awl_load_row ti39_MeB rfl rfl rfl rfl ?_ | refine x_irow ti39_MeB rfl rfl rfl rfl ?_
      refine awl_guard_yes rfl (by first | exact h2 | exact decide_eq_true h2 | exact decide_eq_false h2) rfl rfl ?_
      refine awl_pcall fb62_MeB rfl (Deep_con a 32 (by omega) (by omega)) (.cons (by first | exact Sub.refl _ | exact Sub.ts | exact Sub.nil | exact Sub.agc (by repeat (first | exact .nil | refine .cons (by first | exact Sub.refl _ | exact Sub.nil) ?_))) (.cons (by first | exact Sub.refl _ | exact Sub.ts | exact Sub.nil | exact Sub.agc (by repeat (first | exact .nil | refine .cons (by first | exact Sub.refl _ | exact Sub.nil) ?_))) .nil)) rfl ?_
      refine awl_guard_yes rfl (by first | exact h2 | exact decide_eq_true h2 | exact decide_eq_false h2) rfl rfl ?_
      refine awl_bin rfl rfl rfl rfl bin_gtr ?_
      refine awl_pick_f (by first | exact h2 | exact decide_eq_true h2 | exact decide_eq_false h2) rfl rfl rfl ?_
      refine awl_nil ?_
      change AWp _ _ _ _ _ _
      first | refine awp_cond_p rfl (fun h3 => ?_) (fun h3 => ?_) | refine awp_cond rfl (fun h3 => ?_) (fun h3 => ?_)
      · skip
        have h3a : okL a = false := decide_eq_false (by omega)
        refine awp_seq ?_
        refine awp_region ?_
        refine awl_assign rfl rfl ?_
        refine awl_nil ?_
        change AWp _ _ _ _ _ _
        refine awp_ret ?_
        change Ends _ _ _ _ _ _
        refine ends1 [] rfl (.tmp rfl) ?_ rfl
        refine ⟨B_eq ?_, rfl⟩
        rw [hsp]; simp [h3a]
      · skip
        have h3a : okL a = true := decide_eq_true (by omega)
        refine awp_skip ?_
        change AWp _ _ _ _ _ _
        refine awp_region ?_
        refine awl_move rfl rfl ?_
        first | refine awl_bin rfl rfl rfl rfl (bin_add_i (by omega)) ?_ | refine awl_bin rfl rfl rfl rfl bin_add ?_
        refine awl_assign rfl rfl ?_
        refine awl_nil ?_
        change ∃ x', _
        refine ⟨(i + 1, r'), ⟨drop_next hd, by rw [hsp]; simp [h3a]⟩, by simp, (Le.mk (.cons rfl (by first | exact Sub.refl _ | exact Sub.ts | exact Sub.nil | exact Sub.eq (by simp) | exact Sub.eq (by simp; omega)) (.cons rfl (by first | exact Sub.refl _ | exact Sub.ts | exact Sub.nil | exact Sub.eq (by simp) | exact Sub.eq (by simp; omega)) (.nil))) (.cons rfl (by first | rfl | (simp; done)) (.nil)) rfl)⟩
  · skip
    obtain rfl := drop_end hd (by simp at h1; omega)
    have hsp1 : okT t = okTs t.args := by rw [hsp]; simp
    refine awp_exit ?_
    change AWp _ _ _ _ _ _
    refine awp_seq ?_
    refine awp_seq ?_
    refine awp_region ?_
    refine awl_assign rfl rfl ?_
    refine awl_nil ?_
    change AWp _ _ _ _ _ _
    refine awp_block ?_
    refine x_loop [(1, _)] [(1, _)] (fun x : Nat × List Trm => [(4, .p (I x.1))]) (fun x => []) (fun x => t.args.drop x.1 = x.2 ∧ okT t = okTs x.2) (fun x => x.2.length) (0, t.args) (Le.mk (.cons rfl (by first | exact Sub.refl _ | exact Sub.ts | exact Sub.nil | exact Sub.eq (by simp) | exact Sub.eq (by simp; omega)) (.cons rfl (by first | exact Sub.refl _ | exact Sub.ts | exact Sub.nil | exact Sub.eq (by simp) | exact Sub.eq (by simp; omega)) (.nil))) (.cons rfl (by first | rfl | (simp; done)) (.nil)) rfl) ⟨rfl, hsp1⟩ (fun x hx => ?_)
    obtain ⟨i, r⟩ := x
    obtain ⟨hd, hsp2⟩ := hx
    simp only at hd hsp2
    dsimp only [List.cons_append, List.nil_append]
    refine awp_seq ?_
    refine awp_seq ?_
    refine awp_region ?_
    refine awl_move rfl rfl ?_
    first | refine awl_fieldAddr fi27_4_MeB rfl rfl ?_ | refine awl_fieldAddr_i fi27_4_MeB rfl rfl rfl ?_
    first | refine awl_load_one ti25_MeB rfl rfl rfl rfl ?_ | refine awl_load_ione ti25_MeB rfl rfl rfl ?_
    refine x_len si25_MeB rfl rfl rfl (fun hlen52 => ?_)
    refine awl_bin rfl rfl rfl rfl bin_lss ?_
    refine awl_nil ?_
    change AWp _ _ _ _ _ _
    first | refine awp_cond_p rfl (fun h4 => ?_) (fun h4 => ?_) | refine awp_cond rfl (fun h4 => ?_) (fun h4 => ?_)
    · skip
      obtain ⟨a, r', rfl⟩ := drop_ne hd (by simp at h4; omega)
      have hrow := rowT_at hd
      refine awp_skip ?_
      change AWp _ _ _ _ _ _
      refine awp_seq ?_
      refine awp_block ?_
      refine awp_seq ?_
      refine awp_region ?_
      first | refine awl_fieldAddr fi27_4_MeB rfl rfl ?_ | refine awl_fieldAddr_i fi27_4_MeB rfl rfl rfl ?_
      first | refine awl_load_one ti25_MeB rfl rfl rfl rfl ?_ | refine awl_load_ione ti25_MeB rfl rfl rfl ?_
      refine awl_move rfl rfl ?_
      refine x_index si25_MeB ti27_MeB rfl rfl rfl rfl (by omega) (by first | omega | (simp only [List.length_map]; omega) | (simp; omega)) hrow rfl ?_
      first | refine awl_load_row ti27_MeB rfl rfl rfl rfl ?_ | refine x_irow ti27_MeB rfl rfl rfl rfl ?_
      refine awl_pcall fb47_MeB rfl (ih a (drop_mem hd)) (.cons (by first | exact Sub.refl _ | exact Sub.ts | exact Sub.nil | exact Sub.agc (by repeat (first | exact .nil | refine .cons (by first | exact Sub.refl _ | exact Sub.nil) ?_))) .nil) rfl ?_
      first | refine awl_un rfl rfl rfl un_notd ?_ | refine awl_un rfl rfl rfl un_not ?_
      refine awl_nil ?_
      change AWp _ _ _ _ _ _
      first | refine awp_cond_p rfl (fun h5 => ?_) (fun h5 => ?_) | refine awp_cond rfl (fun h5 => ?_) (fun h5 => ?_)
      · skip
        have h5a : okT a = false := by simpa using h5
        refine awp_seq ?_
        refine awp_region ?_
        refine awl_assign rfl rfl ?_
        refine awl_nil ?_
        change AWp _ _ _ _ _ _
        refine awp_ret ?_
        change Ends _ _ _ _ _ _
        refine ends1 [] rfl (.tmp rfl) ?_ rfl
        refine ⟨B_eq ?_, rfl⟩
        rw [hsp2]; simp [okTs, h5a]
      · skip
        have h5a : okT a = true := by simpa using h5
        refine awp_skip ?_
        change AWp _ _ _ _ _ _
        refine awp_region ?_
        refine awl_move rfl rfl ?_
        first | refine awl_bin rfl rfl rfl rfl (bin_add_i (by omega)) ?_ | refine awl_bin rfl rfl rfl rfl bin_add ?_
        refine awl_assign rfl rfl ?_
        refine awl_nil ?_
        change ∃ x', _
        refine ⟨(i + 1, r'), ⟨drop_next hd, by rw [hsp2]; simp [okTs, h5a]⟩, by simp, (Le.mk (.cons rfl (by first | exact Sub.refl _ | exact Sub.ts | exact Sub.nil | exact Sub.eq (by simp) | exact Sub.eq (by simp; omega)) (.cons rfl (by first | exact Sub.refl _ | exact Sub.ts | exact Sub.nil | exact Sub.eq (by simp) | exact Sub.eq (by simp; omega)) (.nil))) (.cons rfl (by first | rfl | (simp; done)) (.nil)) rfl)⟩
    · skip
      refine awp_exit ?_
      change AWp _ _ _ _ _ _
      refine awp_seq ?_
      refine awp_region ?_
      refine awl_assign rfl rfl ?_
      refine awl_nil ?_
      change AWp _ _ _ _ _ _
      refine awp_ret ?_
      change Ends _ _ _ _ _ _
      refine ends1 [] rfl (.tmp rfl) ?_ rfl
      refine ⟨B_eq ?_, rfl⟩
      obtain rfl := drop_end hd (by simp at h4; omega)
      rw [hsp2]; simp [okTs]
termination_by SizeOf.sizeOf t
decreasing_by exact Trm.lt ha

end Go.Ab.Ytfgndomaadikoaa
