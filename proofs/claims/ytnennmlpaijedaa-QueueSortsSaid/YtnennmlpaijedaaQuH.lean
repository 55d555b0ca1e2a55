/- The law QueueSorts. -/
import Derived.Test.YtnennmlpaijedaaQuG
set_option linter.unusedVariables false
set_option linter.unusedSimpArgs false
namespace Go.Ab.Ytnennmlpaijedaa
open Go Go.RowKit Go.Ab Go.Proofs

theorem fb6_QuH : FB Try.prog 6 := ⟨_, Try.func6, rfl, by kernel_rfl⟩
theorem si46_QuH : SI Try.prog 46 5 := ⟨Try.underlying46⟩
theorem fb7_QuH : FB Try.prog 7 := ⟨_, Try.func7, rfl, by kernel_rfl⟩
theorem ti5_QuH : TI Try.prog 5 1 false := ⟨by kernel_rfl, by kernel_rfl⟩
theorem bi35_QuH : BI Try.prog 35 [(0, 1), (1, 1)] := BI.mk' Try.underlying35 (by kernel_rfl)
theorem tz35_QuH : TZ Try.prog 35 [(.int .i64 0), (.int .i64 0)] := ⟨⟨.agg #[(.int .i64 0), (.int .i64 0)], by kernel_rfl, rfl⟩, by kernel_rfl⟩
theorem fb8_QuH : FB Try.prog 8 := ⟨_, Try.func8, rfl, by kernel_rfl⟩
theorem ti35_QuH : TI Try.prog 35 2 true := ⟨by kernel_rfl, by kernel_rfl⟩
theorem si47_QuH : SI Try.prog 47 4 := ⟨Try.underlying47⟩
theorem zi4_QuH : (Try.prog.info? 4).map (fun i => (i.size, i.bytes, i.zero)) = some (1, 1, some ((.bool false))) := by kernel_rfl
theorem fb9_QuH : FB Try.prog 9 := ⟨_, Try.func9, rfl, by kernel_rfl⟩
theorem hmo_QuH : Try.prog.follows .mixedOrders = true := by kernel_rfl
theorem fi35_1_QuH : FI Try.prog 35 1 1 := ⟨_, _, 0, Try.underlying35, rfl, rfl, by kernel_rfl⟩
theorem ti3_QuH : TI Try.prog 3 1 false := ⟨by kernel_rfl, by kernel_rfl⟩
theorem ti4_QuH : TI Try.prog 4 1 false := ⟨by kernel_rfl, by kernel_rfl⟩
theorem fi35_0_QuH : FI Try.prog 35 0 0 := ⟨_, _, 0, Try.underlying35, rfl, rfl, by kernel_rfl⟩
theorem bi51_QuH : BI Try.prog 51 [(0, 1), (1, 1)] := BI.mk' Try.underlying51 (by kernel_rfl)
theorem tz51_QuH : TZ Try.prog 51 [(.slice none 0 0), (.int .i64 0)] := ⟨⟨.agg #[(.slice none 0 0), (.int .i64 0)], by kernel_rfl, rfl⟩, by kernel_rfl⟩
theorem fb15_QuH : FB Try.prog 15 := ⟨_, Try.func15, rfl, by kernel_rfl⟩
theorem fb14_QuH : FB Try.prog 14 := ⟨_, Try.func14, rfl, by kernel_rfl⟩

theorem getD0_mem {l : List Ent} (h : 0 < l.length) : l.getD 0 e0 ∈ l := by
  rw [List.getD_eq_getElem?_getD, List.getElem?_eq_getElem h]; exact List.getElem_mem h

theorem QueueSorts_con (ws : List Int) (hb : okB ws) (hll : (ws.length : Int) ≤ 9223372036854775807) : PCon Try.prog 4 [.p (.sl 1 (byts ws))] (.p (B true)) := by
  have hbl := byts_len ws
  have hw0 : ∀ k, 0 ≤ wOf ws k ∧ wOf ws k < 8 := fun k => by unfold wOf; omega
  refine con_of Try.func4 rfl 141 Try.ntmps4 rfl fun cx hcx => ?_
  refine awp_seq ?_
  refine awp_region ?_
  refine awl_assign rfl rfl ?_
  refine awl_nil ?_
  change AWp _ _ _ _ _ _
  refine awp_seq ?_
  refine awp_seq ?_
  refine awp_region ?_
  refine awl_pcall fb6_QuH rfl (begun_con) .nil rfl ?_
  first | refine awl_un rfl rfl rfl un_notd ?_ | refine awl_un rfl rfl rfl un_not ?_
  refine awl_nil ?_
  change AWp _ _ _ _ _ _
  refine awp_cond_f (by first | exact rfl | exact decide_eq_true rfl | exact decide_eq_false rfl) rfl ?_
  refine awp_skip ?_
  change AWp _ _ _ _ _ _
  refine awp_seq ?_
  refine awp_seq ?_
  refine awp_region ?_
  refine awl_move rfl rfl ?_
  first | refine x_len si46_QuH rfl rfl rfl (fun hlen5 => ?_) | refine awl_len_m si46_QuH rfl rfl rfl (fun hlen5 => ?_)
  refine awl_bin rfl rfl rfl rfl bin_gtr ?_
  refine awl_nil ?_
  change AWp _ _ _ _ _ _
  first | refine awp_cond_p rfl (fun hm => ?_) (fun hm => ?_) | refine awp_cond rfl (fun hm => ?_) (fun hm => ?_)
  · skip
    refine awp_seq ?_
    refine awp_region ?_
    refine awl_assign rfl rfl ?_
    refine awl_nil ?_
    change AWp _ _ _ _ _ _
    refine awp_ret ?_
    change Ends _ _ _ _ _ _
    refine ends1 [] rfl (.tmp rfl) ?_ rfl
    exact ⟨rfl, rfl⟩
  · skip
    refine awp_skip ?_
    change AWp _ _ _ _ _ _
    refine awp_seq ?_
    refine awp_region ?_
    refine x_call [] fb7_QuH rfl rfl rfl (New_con.sw 2 1000) .nil rfl (fun r o ⟨_, _, ⟨e1, e2⟩, e3, e4⟩ => ?_)
    subst e1 e2 e3 e4
    refine ⟨by rw [hcx]; rfl, _, rfl, ?_⟩
    refine awl_le (Le.objs (objs' := [(1000, qh 0 0), (1001, qa 0 [])]) (.cons rfl rfl (.cons rfl rfl .nil)) rfl) ?_
    refine awl_sub (y := .ptr 1000 0) (Sub.eq rfl) ?_
    refine awl_assign rfl rfl ?_
    refine awl_nil ?_
    change AWp _ _ _ _ _ _
    refine awp_seq ?_
    refine awp_seq ?_
    refine awp_region ?_
    refine awl_assign rfl rfl ?_
    refine awl_nil ?_
    change AWp _ _ _ _ _ _
    refine awp_block ?_
    refine x_loop [(0, _), (3, _)] [] (fun x : Nat × List Ent × Nat => [(4, .p (I x.1))]) (fun x => [(1000, qh x.2.2 x.1), (1001, qa x.2.2 x.2.1)]) (fun x => x.1 ≤ ws.length ∧ x.2.1.length = x.1 ∧ HP x.2.1 x.1 ∧ x.2.1.Perm (entsF ws x.1)) (fun x => ws.length - x.1) (0, [], 0) (Le.mk (.cons rfl (by first | exact Sub.refl _ | exact Sub.ts | exact Sub.nil | (refine Sub.eq ?_; first | (simp; done) | (simp; omega))) (.cons rfl (by first | exact Sub.refl _ | exact Sub.ts | exact Sub.nil | (refine Sub.eq ?_; first | (simp; done) | (simp; omega))) (.cons rfl (by first | exact Sub.refl _ | exact Sub.ts | exact Sub.nil | (refine Sub.eq ?_; first | (simp; done) | (simp; omega))) (.nil)))) (.cons rfl (by first | rfl | (simp; done)) (.cons rfl (by first | rfl | (simp; done)) (.nil))) rfl) ⟨Nat.zero_le _, rfl, fun i h1 h2 => absurd h2 (Nat.not_lt_zero _), List.Perm.refl _⟩ (fun x hx => ?_)
    obtain ⟨i, L, ver⟩ := x
    obtain ⟨hi1, hLn, hHP, hPm⟩ := hx
    simp only at hi1 hLn hHP hPm
    dsimp only [List.cons_append, List.nil_append]
    refine awp_seq ?_
    refine awp_seq ?_
    refine awp_region ?_
    refine awl_move rfl rfl ?_
    refine awl_move rfl rfl ?_
    first | refine x_len si46_QuH rfl rfl rfl (fun hlen14 => ?_) | refine awl_len_m si46_QuH rfl rfl rfl (fun hlen14 => ?_)
    refine awl_bin rfl rfl rfl rfl bin_lss ?_
    refine awl_nil ?_
    change AWp _ _ _ _ _ _
    first | refine awp_cond_p rfl (fun hi => ?_) (fun hi => ?_) | refine awp_cond rfl (fun hi => ?_) (fun hi => ?_)
    · skip
      have hrow := byts_at (l := ws) (i := i) (by omega)
      have hbi := okB_at hb i
      refine awp_skip ?_
      change AWp _ _ _ _ _ _
      refine awp_seq ?_
      refine awp_block ?_
      refine awp_seq ?_
      refine awp_region ?_
      refine awl_move rfl rfl ?_
      refine awl_move rfl rfl ?_
      refine awl_move rfl rfl ?_
      refine x_index si46_QuH ti5_QuH rfl rfl rfl rfl (by omega) (by first | omega | (simp only [List.length_map]; omega) | (simp; omega)) (by assumption) rfl ?_
      first | refine awl_load_one ti5_QuH rfl rfl rfl rfl ?_ | refine awl_load_ione ti5_QuH rfl rfl rfl ?_ | refine awl_load_m1 ti5_QuH rfl rfl (by assumption) rfl rfl ?_
      refine awl_bin rfl rfl rfl rfl (bin_rem_u8 (by omega)) ?_
      refine awl_conv rfl rfl rfl (conv_i Try.underlying5 Try.underlying3 (by omega)) ?_
      refine awl_move rfl rfl ?_
      refine x_build bi35_QuH tz35_QuH rfl rfl rfl ?_
      refine x_call [1000, 1001] fb8_QuH rfl rfl rfl (QPush_con ver L i (ws.getD i 0 % 8) i (by omega) (by omega) (by omega)) (.cons (by first | exact Sub.refl _ | exact Sub.ts | exact Sub.nil | exact Sub.agc (by repeat (first | exact .nil | refine .cons (by first | exact Sub.refl _ | exact Sub.nil) ?_))) (.cons (by first | exact Sub.refl _ | exact Sub.ts | exact Sub.nil | exact Sub.agc (by repeat (first | exact .nil | refine .cons (by first | exact Sub.refl _ | exact Sub.nil) ?_))) .nil)) rfl (fun r o ⟨e1, e2⟩ => ?_)
      subst e1 e2
      refine ⟨by rw [hcx]; rfl, _, rfl, ?_⟩
      refine awl_bin rfl rfl rfl rfl bin_neq ?_
      refine awl_nil ?_
      change AWp _ _ _ _ _ _
      refine awp_cond_f (by first | exact (fun h => h rfl) | exact decide_eq_true (fun h => h rfl) | exact decide_eq_false (fun h => h rfl)) rfl ?_
      refine awp_skip ?_
      change AWp _ _ _ _ _ _
      refine awp_region ?_
      refine awl_move rfl rfl ?_
      first | refine awl_bin rfl rfl rfl rfl (bin_add_i (by omega)) ?_ | refine awl_bin rfl rfl rfl rfl bin_add ?_
      refine awl_assign rfl rfl ?_
      refine awl_nil ?_
      change ∃ x', _
      refine ⟨(i + 1, upF (L ++ [entF ws i]) L.length, ver + 1), ⟨by simp only; omega, by simp [upF_len, hLn], by have := push_hp (e := entF ws i) (hLn ▸ hHP); rw [hLn] at this ⊢; exact this.1, by rw [entsF_succ]; exact (push_hp (e := entF ws i) (hLn ▸ hHP)).2.trans (hPm.append_right _)⟩, (by simp only; omega), (Le.mk (.cons rfl (by first | exact Sub.refl _ | exact Sub.ts | exact Sub.nil | (refine Sub.eq ?_; first | (simp; done) | (simp; omega))) (.cons rfl (by first | exact Sub.refl _ | exact Sub.ts | exact Sub.nil | (refine Sub.eq ?_; first | (simp; done) | (simp; omega))) (.cons rfl (by first | exact Sub.refl _ | exact Sub.ts | exact Sub.nil | (refine Sub.eq ?_; first | (simp; done) | (simp; omega))) (.nil)))) (.cons rfl (by first | rfl | (simp; done)) (.cons rfl (by first | rfl | (simp; done)) (.nil))) rfl)⟩
    · skip
      refine awp_exit ?_
      change AWp _ _ _ _ _ _
      refine awp_seq ?_
      refine awp_region ?_
      refine x_build bi35_QuH tz35_QuH rfl rfl rfl ?_
      refine x_alloc tz35_QuH rfl rfl (by rw [hcx]; rfl) rfl ?_
      first | refine x_store ti35_QuH rfl rfl rfl rfl rfl rfl rfl rfl ?_ | refine awl_store_m ti35_QuH rfl rfl rfl (by first | omega | (simp; omega)) rfl rfl rfl rfl ?_
      refine awl_nil ?_
      change AWp _ _ _ _ _ _
      refine awp_seq ?_
      refine awp_region ?_
      refine awl_move rfl rfl ?_
      first | refine x_len si46_QuH rfl rfl rfl (fun hlen36 => ?_) | refine awl_len_m si46_QuH rfl rfl rfl (fun hlen36 => ?_)
      refine awl_make_m si47_QuH zi4_QuH rfl rfl rfl (by omega) (by omega) rfl (by rw [hcx]; rfl) rfl ?_
      refine awl_assign rfl rfl ?_
      refine awl_nil ?_
      change AWp _ _ _ _ _ _
      refine awp_seq ?_
      refine awp_seq ?_
      refine awp_region ?_
      refine awl_assign rfl rfl ?_
      refine awl_nil ?_
      change AWp _ _ _ _ _ _
      refine awp_block ?_
      obtain rfl : i = ws.length := by omega
      refine x_loop [(0, _), (3, _), (5, _), (6, _)] [] (fun x : Nat × List Ent × Nat × List Bool × Int × Int => [(7, .p (I x.1))]) (fun x => [(38, .mu 4 1 0 (encB x.2.2.2.1)), (5, .ce 35 [.p (I x.2.2.2.2.1), .p (I x.2.2.2.2.2)]), (1000, qh x.2.2.1 ws.length), (1001, qa x.2.2.1 x.2.1)]) (fun x => SoI ws x.1 x.2.1 x.2.2.2.1 x.2.2.2.2.1 x.2.2.2.2.2) (fun x => ws.length - x.1) (0, L, ver, List.replicate ws.length false, -1, 0) (Le.mk (.cons rfl (by first | exact Sub.refl _ | exact Sub.ts | exact Sub.nil | (refine Sub.eq ?_; first | (simp; done) | (simp; omega))) (.cons rfl (by first | exact Sub.refl _ | exact Sub.ts | exact Sub.nil | (refine Sub.eq ?_; first | (simp; done) | (simp; omega))) (.cons rfl (by first | exact Sub.refl _ | exact Sub.ts | exact Sub.nil | (refine Sub.eq ?_; first | (simp; done) | (simp; omega))) (.cons rfl (by first | exact Sub.refl _ | exact Sub.ts | exact Sub.nil | (refine Sub.eq ?_; first | (simp; done) | (simp; omega))) (.cons rfl (by first | exact Sub.refl _ | exact Sub.ts | exact Sub.nil | (refine Sub.eq ?_; first | (simp; done) | (simp; omega))) (.nil)))))) (.cons rfl (by first | rfl | (simp; done) | (rw [← encB_rep]; done) | (rw [hbl, ← encB_rep]; done) | (rw [← encB_rep, hbl]; done) | (rw [← encB_set]; rfl)) (.cons rfl (by first | rfl | (simp; done) | (rw [← encB_rep]; done) | (rw [hbl, ← encB_rep]; done) | (rw [← encB_rep, hbl]; done) | (rw [← encB_set]; rfl)) (.cons rfl (by first | rfl | (simp; done) | (rw [← encB_rep]; done) | (rw [hbl, ← encB_rep]; done) | (rw [← encB_rep, hbl]; done) | (rw [← encB_set]; rfl)) (.cons rfl (by first | rfl | (simp; done) | (rw [← encB_rep]; done) | (rw [hbl, ← encB_rep]; done) | (rw [← encB_rep, hbl]; done) | (rw [← encB_set]; rfl)) (.nil))))) rfl) (soI_start hHP hLn hPm fun k => (hw0 k).1) (fun x hx => ?_)
      obtain ⟨i, L, ver, seen, lw, ln⟩ := x
      have si : SoI ws i L seen lw ln := hx
      dsimp only [List.cons_append, List.nil_append]
      refine awp_seq ?_
      refine awp_seq ?_
      refine awp_region ?_
      refine awl_move rfl rfl ?_
      refine awl_move rfl rfl ?_
      first | refine x_len si46_QuH rfl rfl rfl (fun hlen43 => ?_) | refine awl_len_m si46_QuH rfl rfl rfl (fun hlen43 => ?_)
      refine awl_bin rfl rfl rfl rfl bin_lss ?_
      refine awl_nil ?_
      change AWp _ _ _ _ _ _
      first | refine awp_cond_p rfl (fun hj => ?_) (fun hj => ?_) | refine awp_cond rfl (fun hj => ?_) (fun hj => ?_)
      · skip
        obtain ⟨k, hk, hek⟩ := si.mem _ (getD0_mem (by have := si.len; omega))
        have hrow := byts_at (l := ws) (i := k) hk
        have hbi := okB_at hb k
        have hord := si.ord _ (getD0_mem (by have := si.len; omega))
        rw [hek] at hord
        simp only [entF] at hord
        have hsn := si.seen _ (getD0_mem (by have := si.len; omega))
        rw [hek] at hsn
        simp only [entF, Int.toNat_natCast] at hsn
        have hsl := si.sl
        have hseen : (encB seen)[((k : Nat) : Int).toNat]? = some [B false] := by rw [Int.toNat_natCast, encB_at (by omega), hsn]
        have hel := encB_len seen
        have hLl := si.len
        refine awp_skip ?_
        change AWp _ _ _ _ _ _
        refine awp_seq ?_
        refine awp_block ?_
        refine awp_seq ?_
        refine awp_region ?_
        refine awl_move rfl rfl ?_
        refine x_call [1000, 1001] fb9_QuH rfl rfl rfl (QPop_con ver L ws.length (by omega) (by omega)) (.cons (by first | exact Sub.refl _ | exact Sub.ts | exact Sub.nil | exact Sub.agc (by repeat (first | exact .nil | refine .cons (by first | exact Sub.refl _ | exact Sub.nil) ?_))) .nil) rfl (fun r o ⟨e1, e2⟩ => ?_)
        subst e1 e2
        refine ⟨by rw [hcx]; rfl, _, rfl, ?_⟩
        refine awl_sub (y := .tp [.ag [.p (I (wOf ws k)), .p (I (k : Int))], .p (I 0)]) (Sub.eq (by rw [hek]; rfl)) ?_
        refine awl_move rfl rfl ?_
        refine awl_extract rfl rfl rfl ?_
        refine awl_extract rfl rfl rfl ?_
        refine x_alloc tz35_QuH rfl rfl (by rw [hcx]; rfl) rfl ?_
        first | refine x_store ti35_QuH rfl rfl rfl rfl rfl rfl rfl rfl ?_ | refine awl_store_m ti35_QuH rfl rfl rfl (by first | omega | (simp; omega)) rfl rfl rfl rfl ?_
        refine awl_assign rfl rfl ?_
        refine awl_nil ?_
        change AWp _ _ _ _ _ _
        refine awp_seq ?_
        refine awp_seq ?_
        refine awp_draw0 hmo_QuH (by kernel_rfl) ?_
        refine awd_q [(9, _)] (.cons rfl (.nil)) rfl rfl rfl ?_
        apply Exists.intro
        refine ⟨fun regs' => ?_, ?_⟩
        · skip
          refine awl_move rfl rfl ?_
          exact awl_done rfl
        refine awd_q [(50, _)] (.cons rfl (.nil)) rfl rfl rfl ?_
        apply Exists.intro
        refine ⟨fun regs' => ?_, ?_⟩
        · skip
          refine awl_bin rfl rfl rfl rfl bin_neq ?_
          exact awl_done rfl
        refine awd_q [(51, _)] (.cons rfl (.nil)) rfl rfl rfl ?_
        apply Exists.intro
        refine ⟨fun regs' => ?_, ?_⟩
        · skip
          refine awl_move rfl rfl ?_
          exact awl_done rfl
        refine awd_q [(8, _), (52, _)] (.cons rfl (.cons rfl (.nil))) rfl rfl rfl ?_
        apply Exists.intro
        refine ⟨fun regs' => ?_, ?_⟩
        · skip
          refine awl_guard_yes rfl (by first | exact (fun h => h rfl) | exact decide_eq_true (fun h => h rfl) | exact decide_eq_false (fun h => h rfl)) rfl rfl ?_
          first | refine awl_fieldAddr fi35_1_QuH rfl rfl ?_ | refine awl_fieldAddr_i fi35_1_QuH rfl rfl rfl ?_ | refine awl_field_m fi35_1_QuH rfl rfl rfl ?_
          exact awl_done rfl
        refine awd_q [(53, _), (52, _)] (.cons rfl (.cons rfl (.nil))) rfl rfl rfl ?_
        apply Exists.intro
        refine ⟨fun regs' => ?_, ?_⟩
        · skip
          refine awl_guard_yes rfl (by first | exact (fun h => h rfl) | exact decide_eq_true (fun h => h rfl) | exact decide_eq_false (fun h => h rfl)) rfl rfl ?_
          first | refine awl_load_one ti3_QuH rfl rfl rfl rfl ?_ | refine awl_load_ione ti3_QuH rfl rfl rfl ?_ | refine awl_load_m1 ti3_QuH rfl rfl (by assumption) rfl rfl ?_
          exact awl_done rfl
        refine awd_q [(54, _), (52, _)] (.cons rfl (.cons rfl (.nil))) rfl rfl rfl ?_
        apply Exists.intro
        refine ⟨fun regs' => ?_, ?_⟩
        · skip
          refine awl_guard_yes rfl (by first | exact (fun h => h rfl) | exact decide_eq_true (fun h => h rfl) | exact decide_eq_false (fun h => h rfl)) rfl rfl ?_
          refine awl_bin rfl rfl rfl rfl bin_lss ?_
          exact awl_done rfl
        refine awd_q [(52, _), (55, _)] (.cons rfl (.cons rfl (.nil))) rfl rfl rfl ?_
        apply Exists.intro
        refine ⟨fun regs' => ?_, ?_⟩
        · skip
          refine awl_pick_f (by first | exact (fun h => h rfl) | exact decide_eq_true (fun h => h rfl) | exact decide_eq_false (fun h => h rfl)) rfl rfl rfl ?_
          exact awl_done rfl
        refine awd_q [(56, _)] (.cons rfl (.nil)) rfl rfl rfl ?_
        apply Exists.intro
        refine ⟨fun regs' => ?_, ?_⟩
        · skip
          refine awl_move rfl rfl ?_
          exact awl_done rfl
        refine awd_q [(8, _), (57, _)] (.cons rfl (.cons rfl (.nil))) rfl rfl rfl ?_
        apply Exists.intro
        refine ⟨fun regs' => ?_, ?_⟩
        · skip
          refine awl_guard_yes rfl (by first | exact (by omega : ¬ (k : Int) < 0) | exact decide_eq_true (by omega : ¬ (k : Int) < 0) | exact decide_eq_false (by omega : ¬ (k : Int) < 0)) rfl rfl ?_
          first | refine awl_fieldAddr fi35_1_QuH rfl rfl ?_ | refine awl_fieldAddr_i fi35_1_QuH rfl rfl rfl ?_ | refine awl_field_m fi35_1_QuH rfl rfl rfl ?_
          exact awl_done rfl
        refine awd_q [(58, _), (57, _)] (.cons rfl (.cons rfl (.nil))) rfl rfl rfl ?_
        apply Exists.intro
        refine ⟨fun regs' => ?_, ?_⟩
        · skip
          refine awl_guard_yes rfl (by first | exact (by omega : ¬ (k : Int) < 0) | exact decide_eq_true (by omega : ¬ (k : Int) < 0) | exact decide_eq_false (by omega : ¬ (k : Int) < 0)) rfl rfl ?_
          first | refine awl_load_one ti3_QuH rfl rfl rfl rfl ?_ | refine awl_load_ione ti3_QuH rfl rfl rfl ?_ | refine awl_load_m1 ti3_QuH rfl rfl (by assumption) rfl rfl ?_
          exact awl_done rfl
        refine awd_q [(0, _), (57, _)] (.cons rfl (.cons rfl (.nil))) rfl rfl rfl ?_
        apply Exists.intro
        refine ⟨fun regs' => ?_, ?_⟩
        · skip
          refine awl_guard_yes rfl (by first | exact (by omega : ¬ (k : Int) < 0) | exact decide_eq_true (by omega : ¬ (k : Int) < 0) | exact decide_eq_false (by omega : ¬ (k : Int) < 0)) rfl rfl ?_
          refine awl_move rfl rfl ?_
          exact awl_done rfl
        refine awd_q [(60, _), (57, _)] (.cons rfl (.cons rfl (.nil))) rfl rfl rfl ?_
        apply Exists.intro
        refine ⟨fun regs' => ?_, ?_⟩
        · skip
          refine awl_guard_yes rfl (by first | exact (by omega : ¬ (k : Int) < 0) | exact decide_eq_true (by omega : ¬ (k : Int) < 0) | exact decide_eq_false (by omega : ¬ (k : Int) < 0)) rfl rfl ?_
          first | refine x_len si46_QuH rfl rfl rfl (fun hlen75 => ?_) | refine awl_len_m si46_QuH rfl rfl rfl (fun hlen75 => ?_)
          exact awl_done rfl
        refine awd_q [(59, _), (61, _), (57, _)] (.cons rfl (.cons rfl (.cons rfl (.nil)))) rfl rfl rfl ?_
        apply Exists.intro
        refine ⟨fun regs' => ?_, ?_⟩
        · skip
          refine awl_guard_yes rfl (by first | exact (by omega : ¬ (k : Int) < 0) | exact decide_eq_true (by omega : ¬ (k : Int) < 0) | exact decide_eq_false (by omega : ¬ (k : Int) < 0)) rfl rfl ?_
          refine awl_bin rfl rfl rfl rfl bin_geq ?_
          exact awl_done rfl
        refine awd_q [(57, _), (62, _)] (.cons rfl (.cons rfl (.nil))) rfl rfl rfl ?_
        apply Exists.intro
        refine ⟨fun regs' => ?_, ?_⟩
        · skip
          refine awl_pick_f (by first | exact (by omega : ¬ (k : Int) < 0) | exact decide_eq_true (by omega : ¬ (k : Int) < 0) | exact decide_eq_false (by omega : ¬ (k : Int) < 0)) rfl rfl rfl ?_
          exact awl_done rfl
        refine awd_q [(63, _)] (.cons rfl (.nil)) rfl rfl rfl ?_
        apply Exists.intro
        refine ⟨fun regs' => ?_, ?_⟩
        · skip
          refine awl_move rfl rfl ?_
          exact awl_done rfl
        refine awd_q [(6, _), (64, _)] (.cons rfl (.cons rfl (.nil))) rfl rfl rfl ?_
        apply Exists.intro
        refine ⟨fun regs' => ?_, ?_⟩
        · skip
          refine awl_guard_yes rfl (by first | exact (by omega : ¬ (k : Int) ≥ ((byts ws).length : Int)) | exact decide_eq_true (by omega : ¬ (k : Int) ≥ ((byts ws).length : Int)) | exact decide_eq_false (by omega : ¬ (k : Int) ≥ ((byts ws).length : Int))) rfl rfl ?_
          refine awl_move rfl rfl ?_
          exact awl_done rfl
        refine awd_q [(8, _), (64, _)] (.cons rfl (.cons rfl (.nil))) rfl rfl rfl ?_
        apply Exists.intro
        refine ⟨fun regs' => ?_, ?_⟩
        · skip
          refine awl_guard_yes rfl (by first | exact (by omega : ¬ (k : Int) ≥ ((byts ws).length : Int)) | exact decide_eq_true (by omega : ¬ (k : Int) ≥ ((byts ws).length : Int)) | exact decide_eq_false (by omega : ¬ (k : Int) ≥ ((byts ws).length : Int))) rfl rfl ?_
          first | refine awl_fieldAddr fi35_1_QuH rfl rfl ?_ | refine awl_fieldAddr_i fi35_1_QuH rfl rfl rfl ?_ | refine awl_field_m fi35_1_QuH rfl rfl rfl ?_
          exact awl_done rfl
        refine awd_q [(66, _), (64, _)] (.cons rfl (.cons rfl (.nil))) rfl rfl rfl ?_
        apply Exists.intro
        refine ⟨fun regs' => ?_, ?_⟩
        · skip
          refine awl_guard_yes rfl (by first | exact (by omega : ¬ (k : Int) ≥ ((byts ws).length : Int)) | exact decide_eq_true (by omega : ¬ (k : Int) ≥ ((byts ws).length : Int)) | exact decide_eq_false (by omega : ¬ (k : Int) ≥ ((byts ws).length : Int))) rfl rfl ?_
          first | refine awl_load_one ti3_QuH rfl rfl rfl rfl ?_ | refine awl_load_ione ti3_QuH rfl rfl rfl ?_ | refine awl_load_m1 ti3_QuH rfl rfl (by assumption) rfl rfl ?_
          exact awl_done rfl
        refine awd_q [(65, _), (67, _), (64, _)] (.cons rfl (.cons rfl (.cons rfl (.nil)))) rfl rfl rfl ?_
        apply Exists.intro
        refine ⟨fun regs' => ?_, ?_⟩
        · skip
          refine awl_guard_yes rfl (by first | exact (by omega : ¬ (k : Int) ≥ ((byts ws).length : Int)) | exact decide_eq_true (by omega : ¬ (k : Int) ≥ ((byts ws).length : Int)) | exact decide_eq_false (by omega : ¬ (k : Int) ≥ ((byts ws).length : Int))) rfl rfl ?_
          refine awl_index_m si47_QuH ti4_QuH rfl rfl rfl (by omega) (by first | omega | (simp; omega)) rfl ?_
          exact awl_done rfl
        refine awd_q [(68, _), (64, _)] (.cons rfl (.cons rfl (.nil))) rfl rfl rfl ?_
        apply Exists.intro
        refine ⟨fun regs' => ?_, ?_⟩
        · skip
          refine awl_guard_yes rfl (by first | exact (by omega : ¬ (k : Int) ≥ ((byts ws).length : Int)) | exact decide_eq_true (by omega : ¬ (k : Int) ≥ ((byts ws).length : Int)) | exact decide_eq_false (by omega : ¬ (k : Int) ≥ ((byts ws).length : Int))) rfl rfl ?_
          first | refine awl_load_one ti4_QuH rfl rfl rfl rfl ?_ | refine awl_load_ione ti4_QuH rfl rfl rfl ?_ | refine awl_load_m1 ti4_QuH rfl rfl hseen rfl rfl ?_
          exact awl_done rfl
        refine awd_q [(64, _), (69, _)] (.cons rfl (.cons rfl (.nil))) rfl rfl rfl ?_
        apply Exists.intro
        refine ⟨fun regs' => ?_, ?_⟩
        · skip
          refine awl_pick_f (by first | exact (by omega : ¬ (k : Int) ≥ ((byts ws).length : Int)) | exact decide_eq_true (by omega : ¬ (k : Int) ≥ ((byts ws).length : Int)) | exact decide_eq_false (by omega : ¬ (k : Int) ≥ ((byts ws).length : Int))) rfl rfl rfl ?_
          exact awl_done rfl
        refine awd_q [(70, _)] (.cons rfl (.nil)) rfl rfl rfl ?_
        apply Exists.intro
        refine ⟨fun regs' => ?_, ?_⟩
        · skip
          refine awl_move rfl rfl ?_
          exact awl_done rfl
        refine awd_q [(8, _), (71, _)] (.cons rfl (.cons rfl (.nil))) rfl rfl rfl ?_
        apply Exists.intro
        refine ⟨fun regs' => ?_, ?_⟩
        · skip
          refine awl_guard_yes rfl (by first | exact rfl | exact decide_eq_true rfl | exact decide_eq_false rfl) rfl rfl ?_
          first | refine awl_fieldAddr fi35_0_QuH rfl rfl ?_ | refine awl_fieldAddr_i fi35_0_QuH rfl rfl rfl ?_ | refine awl_field_m fi35_0_QuH rfl rfl rfl ?_
          exact awl_done rfl
        refine awd_q [(72, _), (71, _)] (.cons rfl (.cons rfl (.nil))) rfl rfl rfl ?_
        apply Exists.intro
        refine ⟨fun regs' => ?_, ?_⟩
        · skip
          refine awl_guard_yes rfl (by first | exact rfl | exact decide_eq_true rfl | exact decide_eq_false rfl) rfl rfl ?_
          first | refine awl_load_one ti3_QuH rfl rfl rfl rfl ?_ | refine awl_load_ione ti3_QuH rfl rfl rfl ?_ | refine awl_load_m1 ti3_QuH rfl rfl (by assumption) rfl rfl ?_
          exact awl_done rfl
        refine awd_q [(0, _), (71, _)] (.cons rfl (.cons rfl (.nil))) rfl rfl rfl ?_
        apply Exists.intro
        refine ⟨fun regs' => ?_, ?_⟩
        · skip
          refine awl_guard_yes rfl (by first | exact rfl | exact decide_eq_true rfl | exact decide_eq_false rfl) rfl rfl ?_
          refine awl_move rfl rfl ?_
          exact awl_done rfl
        refine awd_q [(8, _), (71, _)] (.cons rfl (.cons rfl (.nil))) rfl rfl rfl ?_
        apply Exists.intro
        refine ⟨fun regs' => ?_, ?_⟩
        · skip
          refine awl_guard_yes rfl (by first | exact rfl | exact decide_eq_true rfl | exact decide_eq_false rfl) rfl rfl ?_
          first | refine awl_fieldAddr fi35_1_QuH rfl rfl ?_ | refine awl_fieldAddr_i fi35_1_QuH rfl rfl rfl ?_ | refine awl_field_m fi35_1_QuH rfl rfl rfl ?_
          exact awl_done rfl
        refine awd_q [(75, _), (71, _)] (.cons rfl (.cons rfl (.nil))) rfl rfl rfl ?_
        apply Exists.intro
        refine ⟨fun regs' => ?_, ?_⟩
        · skip
          refine awl_guard_yes rfl (by first | exact rfl | exact decide_eq_true rfl | exact decide_eq_false rfl) rfl rfl ?_
          first | refine awl_load_one ti3_QuH rfl rfl rfl rfl ?_ | refine awl_load_ione ti3_QuH rfl rfl rfl ?_ | refine awl_load_m1 ti3_QuH rfl rfl (by assumption) rfl rfl ?_
          exact awl_done rfl
        refine awd_q [(74, _), (76, _), (71, _)] (.cons rfl (.cons rfl (.cons rfl (.nil)))) rfl rfl rfl ?_
        apply Exists.intro
        refine ⟨fun regs' => ?_, ?_⟩
        · skip
          refine awl_guard_yes rfl (by first | exact rfl | exact decide_eq_true rfl | exact decide_eq_false rfl) rfl rfl ?_
          refine x_index si46_QuH ti5_QuH rfl rfl rfl rfl (by omega) (by first | omega | (simp only [List.length_map]; omega) | (simp; omega)) (by assumption) rfl ?_
          exact awl_done rfl
        refine awd_q [(77, _), (71, _)] (.cons rfl (.cons rfl (.nil))) rfl rfl rfl ?_
        apply Exists.intro
        refine ⟨fun regs' => ?_, ?_⟩
        · skip
          refine awl_guard_yes rfl (by first | exact rfl | exact decide_eq_true rfl | exact decide_eq_false rfl) rfl rfl ?_
          first | refine awl_load_one ti5_QuH rfl rfl rfl rfl ?_ | refine awl_load_ione ti5_QuH rfl rfl rfl ?_ | refine awl_load_m1 ti5_QuH rfl rfl (by assumption) rfl rfl ?_
          exact awl_done rfl
        refine awd_q [(78, _), (71, _)] (.cons rfl (.cons rfl (.nil))) rfl rfl rfl ?_
        apply Exists.intro
        refine ⟨fun regs' => ?_, ?_⟩
        · skip
          refine awl_guard_yes rfl (by first | exact rfl | exact decide_eq_true rfl | exact decide_eq_false rfl) rfl rfl ?_
          refine awl_bin rfl rfl rfl rfl (bin_rem_u8 (by omega)) ?_
          exact awl_done rfl
        refine awd_q [(79, _), (71, _)] (.cons rfl (.cons rfl (.nil))) rfl rfl rfl ?_
        apply Exists.intro
        refine ⟨fun regs' => ?_, ?_⟩
        · skip
          refine awl_guard_yes rfl (by first | exact rfl | exact decide_eq_true rfl | exact decide_eq_false rfl) rfl rfl ?_
          refine awl_conv rfl rfl rfl (conv_i Try.underlying5 Try.underlying3 (by omega)) ?_
          exact awl_done rfl
        refine awd_q [(73, _), (80, _), (71, _)] (.cons rfl (.cons rfl (.cons rfl (.nil)))) rfl rfl rfl ?_
        apply Exists.intro
        refine ⟨fun regs' => ?_, ?_⟩
        · skip
          refine awl_guard_yes rfl (by first | exact rfl | exact decide_eq_true rfl | exact decide_eq_false rfl) rfl rfl ?_
          refine awl_bin rfl rfl rfl rfl bin_neq ?_
          exact awl_done rfl
        refine awd_q [(71, _), (81, _)] (.cons rfl (.cons rfl (.nil))) rfl rfl rfl ?_
        apply Exists.intro
        refine ⟨fun regs' => ?_, ?_⟩
        · skip
          refine awl_pick_f (by first | exact rfl | exact decide_eq_true rfl | exact decide_eq_false rfl) rfl rfl rfl ?_
          exact awl_done rfl
        refine awd_q [(82, _)] (.cons rfl (.nil)) rfl rfl rfl ?_
        apply Exists.intro
        refine ⟨fun regs' => ?_, ?_⟩
        · skip
          refine awl_move rfl rfl ?_
          exact awl_done rfl
        refine awd_q [(8, _), (83, _)] (.cons rfl (.cons rfl (.nil))) rfl rfl rfl ?_
        apply Exists.intro
        refine ⟨fun regs' => ?_, ?_⟩
        · skip
          refine awl_guard_yes rfl (by first | exact (fun h => h rfl) | exact decide_eq_true (fun h => h rfl) | exact decide_eq_false (fun h => h rfl)) rfl rfl ?_
          first | refine awl_fieldAddr fi35_0_QuH rfl rfl ?_ | refine awl_fieldAddr_i fi35_0_QuH rfl rfl rfl ?_ | refine awl_field_m fi35_0_QuH rfl rfl rfl ?_
          exact awl_done rfl
        refine awd_q [(84, _), (83, _)] (.cons rfl (.cons rfl (.nil))) rfl rfl rfl ?_
        apply Exists.intro
        refine ⟨fun regs' => ?_, ?_⟩
        · skip
          refine awl_guard_yes rfl (by first | exact (fun h => h rfl) | exact decide_eq_true (fun h => h rfl) | exact decide_eq_false (fun h => h rfl)) rfl rfl ?_
          first | refine awl_load_one ti3_QuH rfl rfl rfl rfl ?_ | refine awl_load_ione ti3_QuH rfl rfl rfl ?_ | refine awl_load_m1 ti3_QuH rfl rfl (by assumption) rfl rfl ?_
          exact awl_done rfl
        refine awd_q [(5, _), (83, _)] (.cons rfl (.cons rfl (.nil))) rfl rfl rfl ?_
        apply Exists.intro
        refine ⟨fun regs' => ?_, ?_⟩
        · skip
          refine awl_guard_yes rfl (by first | exact (fun h => h rfl) | exact decide_eq_true (fun h => h rfl) | exact decide_eq_false (fun h => h rfl)) rfl rfl ?_
          first | refine awl_fieldAddr fi35_0_QuH rfl rfl ?_ | refine awl_fieldAddr_i fi35_0_QuH rfl rfl rfl ?_ | refine awl_field_m fi35_0_QuH rfl rfl rfl ?_
          exact awl_done rfl
        refine awd_q [(86, _), (83, _)] (.cons rfl (.cons rfl (.nil))) rfl rfl rfl ?_
        apply Exists.intro
        refine ⟨fun regs' => ?_, ?_⟩
        · skip
          refine awl_guard_yes rfl (by first | exact (fun h => h rfl) | exact decide_eq_true (fun h => h rfl) | exact decide_eq_false (fun h => h rfl)) rfl rfl ?_
          first | refine awl_load_one ti3_QuH rfl rfl rfl rfl ?_ | refine awl_load_ione ti3_QuH rfl rfl rfl ?_ | refine awl_load_m1 ti3_QuH rfl rfl (by assumption) rfl rfl ?_
          exact awl_done rfl
        refine awd_q [(85, _), (87, _), (83, _)] (.cons rfl (.cons rfl (.cons rfl (.nil)))) rfl rfl rfl ?_
        apply Exists.intro
        refine ⟨fun regs' => ?_, ?_⟩
        · skip
          refine awl_guard_yes rfl (by first | exact (fun h => h rfl) | exact decide_eq_true (fun h => h rfl) | exact decide_eq_false (fun h => h rfl)) rfl rfl ?_
          refine awl_bin rfl rfl rfl rfl bin_lss ?_
          exact awl_done rfl
        refine awd_q [(83, _), (88, _)] (.cons rfl (.cons rfl (.nil))) rfl rfl rfl ?_
        apply Exists.intro
        refine ⟨fun regs' => ?_, ?_⟩
        · skip
          refine awl_pick_f (by first | exact (fun h => h rfl) | exact decide_eq_true (fun h => h rfl) | exact decide_eq_false (fun h => h rfl)) rfl rfl rfl ?_
          exact awl_done rfl
        refine awd_q [(89, _)] (.cons rfl (.nil)) rfl rfl rfl ?_
        apply Exists.intro
        refine ⟨fun regs' => ?_, ?_⟩
        · skip
          refine awl_move rfl rfl ?_
          exact awl_done rfl
        refine awd_q [(8, _), (90, _)] (.cons rfl (.cons rfl (.nil))) rfl rfl rfl ?_
        apply Exists.intro
        refine ⟨fun regs' => ?_, ?_⟩
        · skip
          refine awl_guard_yes rfl (by first | exact (by omega : ¬ wOf ws k < lw) | exact decide_eq_true (by omega : ¬ wOf ws k < lw) | exact decide_eq_false (by omega : ¬ wOf ws k < lw)) rfl rfl ?_
          first | refine awl_fieldAddr fi35_0_QuH rfl rfl ?_ | refine awl_fieldAddr_i fi35_0_QuH rfl rfl rfl ?_ | refine awl_field_m fi35_0_QuH rfl rfl rfl ?_
          exact awl_done rfl
        refine awd_q [(91, _), (90, _)] (.cons rfl (.cons rfl (.nil))) rfl rfl rfl ?_
        apply Exists.intro
        refine ⟨fun regs' => ?_, ?_⟩
        · skip
          refine awl_guard_yes rfl (by first | exact (by omega : ¬ wOf ws k < lw) | exact decide_eq_true (by omega : ¬ wOf ws k < lw) | exact decide_eq_false (by omega : ¬ wOf ws k < lw)) rfl rfl ?_
          first | refine awl_load_one ti3_QuH rfl rfl rfl rfl ?_ | refine awl_load_ione ti3_QuH rfl rfl rfl ?_ | refine awl_load_m1 ti3_QuH rfl rfl (by assumption) rfl rfl ?_
          exact awl_done rfl
        refine awd_q [(5, _), (90, _)] (.cons rfl (.cons rfl (.nil))) rfl rfl rfl ?_
        apply Exists.intro
        refine ⟨fun regs' => ?_, ?_⟩
        · skip
          refine awl_guard_yes rfl (by first | exact (by omega : ¬ wOf ws k < lw) | exact decide_eq_true (by omega : ¬ wOf ws k < lw) | exact decide_eq_false (by omega : ¬ wOf ws k < lw)) rfl rfl ?_
          first | refine awl_fieldAddr fi35_0_QuH rfl rfl ?_ | refine awl_fieldAddr_i fi35_0_QuH rfl rfl rfl ?_ | refine awl_field_m fi35_0_QuH rfl rfl rfl ?_
          exact awl_done rfl
        refine awd_q [(93, _), (90, _)] (.cons rfl (.cons rfl (.nil))) rfl rfl rfl ?_
        apply Exists.intro
        refine ⟨fun regs' => ?_, ?_⟩
        · skip
          refine awl_guard_yes rfl (by first | exact (by omega : ¬ wOf ws k < lw) | exact decide_eq_true (by omega : ¬ wOf ws k < lw) | exact decide_eq_false (by omega : ¬ wOf ws k < lw)) rfl rfl ?_
          first | refine awl_load_one ti3_QuH rfl rfl rfl rfl ?_ | refine awl_load_ione ti3_QuH rfl rfl rfl ?_ | refine awl_load_m1 ti3_QuH rfl rfl (by assumption) rfl rfl ?_
          exact awl_done rfl
        refine awd_q [(92, _), (94, _), (90, _)] (.cons rfl (.cons rfl (.cons rfl (.nil)))) rfl rfl rfl ?_
        apply Exists.intro
        refine ⟨fun regs' => ?_, ?_⟩
        · skip
          refine awl_guard_yes rfl (by first | exact (by omega : ¬ wOf ws k < lw) | exact decide_eq_true (by omega : ¬ wOf ws k < lw) | exact decide_eq_false (by omega : ¬ wOf ws k < lw)) rfl rfl ?_
          refine awl_bin rfl rfl rfl rfl bin_eql ?_
          exact awl_done rfl
        refine awd_q [(95, _), (90, _)] (.cons rfl (.cons rfl (.nil))) rfl rfl rfl ?_
        apply Exists.intro
        refine ⟨fun regs' => ?_, ?_⟩
        · skip
          refine awl_guard_yes rfl (by first | exact (by omega : ¬ wOf ws k < lw) | exact decide_eq_true (by omega : ¬ wOf ws k < lw) | exact decide_eq_false (by omega : ¬ wOf ws k < lw)) rfl rfl ?_
          refine awl_move rfl rfl ?_
          exact awl_done rfl
        first | refine awd_split_p 96 rfl (fun c7 => ?_) (fun c7 => ?_) | refine awd_split 96 rfl (fun c7 => ?_) (fun c7 => ?_)
        · skip
          refine awd_q [(8, _), (96, _)] (.cons rfl (.cons rfl (.nil))) rfl rfl rfl ?_
          apply Exists.intro
          refine ⟨fun regs' => ?_, ?_⟩
          · skip
            refine awl_guard_yes rfl (by first | exact c7 | exact decide_eq_true c7 | exact decide_eq_false c7) rfl rfl ?_
            first | refine awl_fieldAddr fi35_1_QuH rfl rfl ?_ | refine awl_fieldAddr_i fi35_1_QuH rfl rfl rfl ?_ | refine awl_field_m fi35_1_QuH rfl rfl rfl ?_
            exact awl_done rfl
          refine awd_q [(97, _), (96, _)] (.cons rfl (.cons rfl (.nil))) rfl rfl rfl ?_
          apply Exists.intro
          refine ⟨fun regs' => ?_, ?_⟩
          · skip
            refine awl_guard_yes rfl (by first | exact c7 | exact decide_eq_true c7 | exact decide_eq_false c7) rfl rfl ?_
            first | refine awl_load_one ti3_QuH rfl rfl rfl rfl ?_ | refine awl_load_ione ti3_QuH rfl rfl rfl ?_ | refine awl_load_m1 ti3_QuH rfl rfl (by assumption) rfl rfl ?_
            exact awl_done rfl
          refine awd_q [(5, _), (96, _)] (.cons rfl (.cons rfl (.nil))) rfl rfl rfl ?_
          apply Exists.intro
          refine ⟨fun regs' => ?_, ?_⟩
          · skip
            refine awl_guard_yes rfl (by first | exact c7 | exact decide_eq_true c7 | exact decide_eq_false c7) rfl rfl ?_
            first | refine awl_fieldAddr fi35_1_QuH rfl rfl ?_ | refine awl_fieldAddr_i fi35_1_QuH rfl rfl rfl ?_ | refine awl_field_m fi35_1_QuH rfl rfl rfl ?_
            exact awl_done rfl
          refine awd_q [(99, _), (96, _)] (.cons rfl (.cons rfl (.nil))) rfl rfl rfl ?_
          apply Exists.intro
          refine ⟨fun regs' => ?_, ?_⟩
          · skip
            refine awl_guard_yes rfl (by first | exact c7 | exact decide_eq_true c7 | exact decide_eq_false c7) rfl rfl ?_
            first | refine awl_load_one ti3_QuH rfl rfl rfl rfl ?_ | refine awl_load_ione ti3_QuH rfl rfl rfl ?_ | refine awl_load_m1 ti3_QuH rfl rfl (by assumption) rfl rfl ?_
            exact awl_done rfl
          refine awd_q [(98, _), (100, _), (96, _)] (.cons rfl (.cons rfl (.cons rfl (.nil)))) rfl rfl rfl ?_
          apply Exists.intro
          refine ⟨fun regs' => ?_, ?_⟩
          · skip
            refine awl_guard_yes rfl (by first | exact c7 | exact decide_eq_true c7 | exact decide_eq_false c7) rfl rfl ?_
            refine awl_bin rfl rfl rfl rfl bin_lss ?_
            exact awl_done rfl
          refine awd_q [(96, _), (101, _), (90, _)] (.cons rfl (.cons rfl (.cons rfl (.nil)))) rfl rfl rfl ?_
          apply Exists.intro
          refine ⟨fun regs' => ?_, ?_⟩
          · skip
            refine awl_guard_yes rfl (by first | exact (by omega : ¬ wOf ws k < lw) | exact decide_eq_true (by omega : ¬ wOf ws k < lw) | exact decide_eq_false (by omega : ¬ wOf ws k < lw)) rfl rfl ?_
            refine awl_pick_t (by first | exact c7 | exact decide_eq_true c7 | exact decide_eq_false c7) rfl rfl rfl ?_
            exact awl_done rfl
          refine awd_q [(90, _), (102, _)] (.cons rfl (.cons rfl (.nil))) rfl rfl rfl ?_
          apply Exists.intro
          refine ⟨fun regs' => ?_, ?_⟩
          · skip
            refine awl_pick_f (by first | exact (by omega : ¬ wOf ws k < lw) | exact decide_eq_true (by omega : ¬ wOf ws k < lw) | exact decide_eq_false (by omega : ¬ wOf ws k < lw)) rfl rfl rfl ?_
            exact awl_done rfl
          refine awd_nil ?_
          change AWp _ _ _ _ _ _
          refine awp_cond_f (by first | exact (by omega : ¬ (k : Int) < ln) | exact decide_eq_true (by omega : ¬ (k : Int) < ln) | exact decide_eq_false (by omega : ¬ (k : Int) < ln)) rfl ?_
          refine awp_skip ?_
          change AWp _ _ _ _ _ _
          apply awp_drawS [5, 6] [6] [] ((fun (B : Obs) => oget [([], B), ([5], [(8, .ce 35 [.p (I (wOf ws k)), .p (I (k : Int))]), (1000, qh (ver + 1) ws.length), (1001, qa (ver + 1) (popF L)), (38, .mu 4 1 0 ((encB seen).set ((k : Nat) : Int).toNat [.v (.bool true)])), (5, .ce 35 [.p (I lw), .p (I ln)])]), ([5, 6], [(8, .ce 35 [.p (I (wOf ws k)), .p (I (k : Int))]), (1000, qh (ver + 1) ws.length), (1001, qa (ver + 1) (popF L)), (38, .mu 4 1 0 ((encB seen).set ((k : Nat) : Int).toNat [.v (.bool true)])), (5, .ce 35 [.p (I (wOf ws k)), .p (I (k : Int))])])]) _)
          · rfl
          · rfl
          · exact hmo_QuH
          · kernel_rfl
          · rfl
          refine awd_s [[]] [(6, _)] (.cons rfl (.nil)) rfl rfl rfl (by kernel_rfl) ?_
          apply Exists.intro
          refine ⟨(⟨fun regs' => ?_, trivial⟩), ?_, ?_⟩
          · skip
            refine awl_move rfl rfl ?_
            exact awl_doneS rfl rfl
          · kernel_rfl
          refine awd_s [[]] [(8, _)] (.cons rfl (.nil)) rfl rfl rfl (by kernel_rfl) ?_
          apply Exists.intro
          refine ⟨(⟨fun regs' => ?_, trivial⟩), ?_, ?_⟩
          · skip
            first | refine awl_fieldAddr fi35_1_QuH rfl rfl ?_ | refine awl_fieldAddr_i fi35_1_QuH rfl rfl rfl ?_ | refine awl_field_m fi35_1_QuH rfl rfl rfl ?_
            exact awl_doneS rfl rfl
          · kernel_rfl
          refine awd_s [[]] [(105, _)] (.cons rfl (.nil)) rfl rfl rfl (by kernel_rfl) ?_
          apply Exists.intro
          refine ⟨(⟨fun regs' => ?_, trivial⟩), ?_, ?_⟩
          · skip
            first | refine awl_load_one ti3_QuH rfl rfl rfl rfl ?_ | refine awl_load_ione ti3_QuH rfl rfl rfl ?_ | refine awl_load_m1 ti3_QuH rfl rfl (by assumption) rfl rfl ?_
            exact awl_doneS rfl rfl
          · kernel_rfl
          refine awd_s [[5], []] [(8, _)] (.cons rfl (.nil)) rfl rfl rfl (by kernel_rfl) ?_
          apply Exists.intro
          refine ⟨(⟨fun regs' => ?_,⟨fun regs' => ?_, trivial⟩⟩), ?_, ?_⟩
          · skip
            first | refine awl_load_row ti35_QuH rfl rfl rfl rfl ?_ | refine x_irow ti35_QuH rfl rfl rfl rfl ?_ | refine awl_load_m ti35_QuH rfl rfl (by assumption) rfl rfl ?_
            exact awl_doneS rfl rfl
          · skip
            first | refine awl_load_row ti35_QuH rfl rfl rfl rfl ?_ | refine x_irow ti35_QuH rfl rfl rfl rfl ?_ | refine awl_load_m ti35_QuH rfl rfl (by assumption) rfl rfl ?_
            exact awl_doneS rfl rfl
          · kernel_rfl
          refine awd_s [[]] [(104, _), (106, _)] (.cons rfl (.cons rfl (.nil))) rfl rfl rfl (by kernel_rfl) ?_
          apply Exists.intro
          refine ⟨(⟨fun regs' => ?_, trivial⟩), ?_, ?_⟩
          · skip
            refine awl_index_m si47_QuH ti4_QuH rfl rfl rfl (by omega) (by first | omega | (simp; omega)) rfl ?_
            exact awl_doneS rfl rfl
          · kernel_rfl
          refine awd_s [[]] [(108, _)] (.cons rfl (.nil)) rfl rfl rfl (by kernel_rfl) ?_
          refine ⟨.any, ?_⟩
          refine ⟨(⟨fun regs' => ?_, trivial⟩), ?_, ?_⟩
          · skip
            first | refine x_store ti4_QuH rfl rfl rfl rfl rfl rfl rfl rfl ?_ | refine awl_store_m ti4_QuH rfl rfl rfl (by first | omega | (simp; omega)) rfl rfl rfl rfl ?_
            exact awl_doneS rfl rfl
          · kernel_rfl
          refine awd_e [5] rfl rfl rfl (by kernel_rfl) rfl rfl ?_
          refine ⟨.any, ?_⟩
          refine ⟨?_, ?_, ?_⟩
          · skip
            first | refine x_store ti35_QuH rfl rfl rfl rfl rfl rfl rfl rfl ?_ | refine awl_store_m ti35_QuH rfl rfl rfl (by first | omega | (simp; omega)) rfl rfl rfl rfl ?_
            exact awl_done rfl
          · kernel_rfl
          refine awd_endS ?_
          try dsimp only [putd]
          change AWp _ _ _ _ _ _
          refine awp_region ?_
          refine awl_move rfl rfl ?_
          first | refine awl_bin rfl rfl rfl rfl (bin_add_i (by omega)) ?_ | refine awl_bin rfl rfl rfl rfl bin_add ?_
          refine awl_assign rfl rfl ?_
          refine awl_nil ?_
          change ∃ x', _
          refine ⟨(i + 1, popF L, ver + 1, seen.set k true, wOf ws k, (k : Int)), (soI_step si (by omega) hek), (by simp only; omega), (Le.mk (.cons rfl (by first | exact Sub.refl _ | exact Sub.ts | exact Sub.nil | (refine Sub.eq ?_; first | (simp; done) | (simp; omega))) (.cons rfl (by first | exact Sub.refl _ | exact Sub.ts | exact Sub.nil | (refine Sub.eq ?_; first | (simp; done) | (simp; omega))) (.cons rfl (by first | exact Sub.refl _ | exact Sub.ts | exact Sub.nil | (refine Sub.eq ?_; first | (simp; done) | (simp; omega))) (.cons rfl (by first | exact Sub.refl _ | exact Sub.ts | exact Sub.nil | (refine Sub.eq ?_; first | (simp; done) | (simp; omega))) (.cons rfl (by first | exact Sub.refl _ | exact Sub.ts | exact Sub.nil | (refine Sub.eq ?_; first | (simp; done) | (simp; omega))) (.nil)))))) (.cons rfl (by first | rfl | (simp; done) | (rw [← encB_rep]; done) | (rw [hbl, ← encB_rep]; done) | (rw [← encB_rep, hbl]; done) | (rw [← encB_set]; rfl)) (.cons rfl (by first | rfl | (simp; done) | (rw [← encB_rep]; done) | (rw [hbl, ← encB_rep]; done) | (rw [← encB_rep, hbl]; done) | (rw [← encB_set]; rfl)) (.cons rfl (by first | rfl | (simp; done) | (rw [← encB_rep]; done) | (rw [hbl, ← encB_rep]; done) | (rw [← encB_rep, hbl]; done) | (rw [← encB_set]; rfl)) (.cons rfl (by first | rfl | (simp; done) | (rw [← encB_rep]; done) | (rw [hbl, ← encB_rep]; done) | (rw [← encB_rep, hbl]; done) | (rw [← encB_set]; rfl)) (.nil))))) rfl)⟩
        · skip
          refine awd_q [(8, _), (96, _)] (.cons rfl (.cons rfl (.nil))) rfl rfl rfl ?_
          apply Exists.intro
          refine ⟨fun regs' => ?_, ?_⟩
          · skip
            refine awl_guard_no rfl (by first | exact c7 | exact decide_eq_true c7 | exact decide_eq_false c7) rfl rfl rfl rfl ?_
            exact awl_done rfl
          refine awd_q [(97, _), (96, _)] (.cons rfl (.cons rfl (.nil))) rfl rfl rfl ?_
          apply Exists.intro
          refine ⟨fun regs' => ?_, ?_⟩
          · skip
            refine awl_guard_no rfl (by first | exact c7 | exact decide_eq_true c7 | exact decide_eq_false c7) rfl rfl rfl rfl ?_
            exact awl_done rfl
          refine awd_q [(5, _), (96, _)] (.cons rfl (.cons rfl (.nil))) rfl rfl rfl ?_
          apply Exists.intro
          refine ⟨fun regs' => ?_, ?_⟩
          · skip
            refine awl_guard_no rfl (by first | exact c7 | exact decide_eq_true c7 | exact decide_eq_false c7) rfl rfl rfl rfl ?_
            exact awl_done rfl
          refine awd_q [(99, _), (96, _)] (.cons rfl (.cons rfl (.nil))) rfl rfl rfl ?_
          apply Exists.intro
          refine ⟨fun regs' => ?_, ?_⟩
          · skip
            refine awl_guard_no rfl (by first | exact c7 | exact decide_eq_true c7 | exact decide_eq_false c7) rfl rfl rfl rfl ?_
            exact awl_done rfl
          refine awd_q [(98, _), (100, _), (96, _)] (.cons rfl (.cons rfl (.cons rfl (.nil)))) rfl rfl rfl ?_
          apply Exists.intro
          refine ⟨fun regs' => ?_, ?_⟩
          · skip
            refine awl_guard_no rfl (by first | exact c7 | exact decide_eq_true c7 | exact decide_eq_false c7) rfl rfl rfl rfl ?_
            exact awl_done rfl
          refine awd_q [(96, _), (101, _), (90, _)] (.cons rfl (.cons rfl (.cons rfl (.nil)))) rfl rfl rfl ?_
          apply Exists.intro
          refine ⟨fun regs' => ?_, ?_⟩
          · skip
            refine awl_guard_yes rfl (by first | exact (by omega : ¬ wOf ws k < lw) | exact decide_eq_true (by omega : ¬ wOf ws k < lw) | exact decide_eq_false (by omega : ¬ wOf ws k < lw)) rfl rfl ?_
            refine awl_pick_f (by first | exact c7 | exact decide_eq_true c7 | exact decide_eq_false c7) rfl rfl rfl ?_
            exact awl_done rfl
          refine awd_q [(90, _), (102, _)] (.cons rfl (.cons rfl (.nil))) rfl rfl rfl ?_
          apply Exists.intro
          refine ⟨fun regs' => ?_, ?_⟩
          · skip
            refine awl_pick_f (by first | exact (by omega : ¬ wOf ws k < lw) | exact decide_eq_true (by omega : ¬ wOf ws k < lw) | exact decide_eq_false (by omega : ¬ wOf ws k < lw)) rfl rfl rfl ?_
            exact awl_done rfl
          refine awd_nil ?_
          change AWp _ _ _ _ _ _
          refine awp_cond_f rfl rfl ?_
          refine awp_skip ?_
          change AWp _ _ _ _ _ _
          apply awp_drawS [5, 6] [6] [] ((fun (B : Obs) => oget [([], B), ([5], [(8, .ce 35 [.p (I (wOf ws k)), .p (I (k : Int))]), (1000, qh (ver + 1) ws.length), (1001, qa (ver + 1) (popF L)), (38, .mu 4 1 0 ((encB seen).set ((k : Nat) : Int).toNat [.v (.bool true)])), (5, .ce 35 [.p (I lw), .p (I ln)])]), ([5, 6], [(8, .ce 35 [.p (I (wOf ws k)), .p (I (k : Int))]), (1000, qh (ver + 1) ws.length), (1001, qa (ver + 1) (popF L)), (38, .mu 4 1 0 ((encB seen).set ((k : Nat) : Int).toNat [.v (.bool true)])), (5, .ce 35 [.p (I (wOf ws k)), .p (I (k : Int))])])]) _)
          · rfl
          · rfl
          · exact hmo_QuH
          · kernel_rfl
          · rfl
          refine awd_s [[]] [(6, _)] (.cons rfl (.nil)) rfl rfl rfl (by kernel_rfl) ?_
          apply Exists.intro
          refine ⟨(⟨fun regs' => ?_, trivial⟩), ?_, ?_⟩
          · skip
            refine awl_move rfl rfl ?_
            exact awl_doneS rfl rfl
          · kernel_rfl
          refine awd_s [[]] [(8, _)] (.cons rfl (.nil)) rfl rfl rfl (by kernel_rfl) ?_
          apply Exists.intro
          refine ⟨(⟨fun regs' => ?_, trivial⟩), ?_, ?_⟩
          · skip
            first | refine awl_fieldAddr fi35_1_QuH rfl rfl ?_ | refine awl_fieldAddr_i fi35_1_QuH rfl rfl rfl ?_ | refine awl_field_m fi35_1_QuH rfl rfl rfl ?_
            exact awl_doneS rfl rfl
          · kernel_rfl
          refine awd_s [[]] [(105, _)] (.cons rfl (.nil)) rfl rfl rfl (by kernel_rfl) ?_
          apply Exists.intro
          refine ⟨(⟨fun regs' => ?_, trivial⟩), ?_, ?_⟩
          · skip
            first | refine awl_load_one ti3_QuH rfl rfl rfl rfl ?_ | refine awl_load_ione ti3_QuH rfl rfl rfl ?_ | refine awl_load_m1 ti3_QuH rfl rfl (by assumption) rfl rfl ?_
            exact awl_doneS rfl rfl
          · kernel_rfl
          refine awd_s [[5], []] [(8, _)] (.cons rfl (.nil)) rfl rfl rfl (by kernel_rfl) ?_
          apply Exists.intro
          refine ⟨(⟨fun regs' => ?_,⟨fun regs' => ?_, trivial⟩⟩), ?_, ?_⟩
          · skip
            first | refine awl_load_row ti35_QuH rfl rfl rfl rfl ?_ | refine x_irow ti35_QuH rfl rfl rfl rfl ?_ | refine awl_load_m ti35_QuH rfl rfl (by assumption) rfl rfl ?_
            exact awl_doneS rfl rfl
          · skip
            first | refine awl_load_row ti35_QuH rfl rfl rfl rfl ?_ | refine x_irow ti35_QuH rfl rfl rfl rfl ?_ | refine awl_load_m ti35_QuH rfl rfl (by assumption) rfl rfl ?_
            exact awl_doneS rfl rfl
          · kernel_rfl
          refine awd_s [[]] [(104, _), (106, _)] (.cons rfl (.cons rfl (.nil))) rfl rfl rfl (by kernel_rfl) ?_
          apply Exists.intro
          refine ⟨(⟨fun regs' => ?_, trivial⟩), ?_, ?_⟩
          · skip
            refine awl_index_m si47_QuH ti4_QuH rfl rfl rfl (by omega) (by first | omega | (simp; omega)) rfl ?_
            exact awl_doneS rfl rfl
          · kernel_rfl
          refine awd_s [[]] [(108, _)] (.cons rfl (.nil)) rfl rfl rfl (by kernel_rfl) ?_
          refine ⟨.any, ?_⟩
          refine ⟨(⟨fun regs' => ?_, trivial⟩), ?_, ?_⟩
          · skip
            first | refine x_store ti4_QuH rfl rfl rfl rfl rfl rfl rfl rfl ?_ | refine awl_store_m ti4_QuH rfl rfl rfl (by first | omega | (simp; omega)) rfl rfl rfl rfl ?_
            exact awl_doneS rfl rfl
          · kernel_rfl
          refine awd_e [5] rfl rfl rfl (by kernel_rfl) rfl rfl ?_
          refine ⟨.any, ?_⟩
          refine ⟨?_, ?_, ?_⟩
          · skip
            first | refine x_store ti35_QuH rfl rfl rfl rfl rfl rfl rfl rfl ?_ | refine awl_store_m ti35_QuH rfl rfl rfl (by first | omega | (simp; omega)) rfl rfl rfl rfl ?_
            exact awl_done rfl
          · kernel_rfl
          refine awd_endS ?_
          try dsimp only [putd]
          change AWp _ _ _ _ _ _
          refine awp_region ?_
          refine awl_move rfl rfl ?_
          first | refine awl_bin rfl rfl rfl rfl (bin_add_i (by omega)) ?_ | refine awl_bin rfl rfl rfl rfl bin_add ?_
          refine awl_assign rfl rfl ?_
          refine awl_nil ?_
          change ∃ x', _
          refine ⟨(i + 1, popF L, ver + 1, seen.set k true, wOf ws k, (k : Int)), (soI_step si (by omega) hek), (by simp only; omega), (Le.mk (.cons rfl (by first | exact Sub.refl _ | exact Sub.ts | exact Sub.nil | (refine Sub.eq ?_; first | (simp; done) | (simp; omega))) (.cons rfl (by first | exact Sub.refl _ | exact Sub.ts | exact Sub.nil | (refine Sub.eq ?_; first | (simp; done) | (simp; omega))) (.cons rfl (by first | exact Sub.refl _ | exact Sub.ts | exact Sub.nil | (refine Sub.eq ?_; first | (simp; done) | (simp; omega))) (.cons rfl (by first | exact Sub.refl _ | exact Sub.ts | exact Sub.nil | (refine Sub.eq ?_; first | (simp; done) | (simp; omega))) (.cons rfl (by first | exact Sub.refl _ | exact Sub.ts | exact Sub.nil | (refine Sub.eq ?_; first | (simp; done) | (simp; omega))) (.nil)))))) (.cons rfl (by first | rfl | (simp; done) | (rw [← encB_rep]; done) | (rw [hbl, ← encB_rep]; done) | (rw [← encB_rep, hbl]; done) | (rw [← encB_set]; rfl)) (.cons rfl (by first | rfl | (simp; done) | (rw [← encB_rep]; done) | (rw [hbl, ← encB_rep]; done) | (rw [← encB_rep, hbl]; done) | (rw [← encB_set]; rfl)) (.cons rfl (by first | rfl | (simp; done) | (rw [← encB_rep]; done) | (rw [hbl, ← encB_rep]; done) | (rw [← encB_rep, hbl]; done) | (rw [← encB_set]; rfl)) (.cons rfl (by first | rfl | (simp; done) | (rw [← encB_rep]; done) | (rw [hbl, ← encB_rep]; done) | (rw [← encB_rep, hbl]; done) | (rw [← encB_set]; rfl)) (.nil))))) rfl)⟩
      · skip
        have hLl := si.len
        refine awp_exit ?_
        change AWp _ _ _ _ _ _
        refine awp_seq ?_
        refine awp_region ?_
        refine awl_assign rfl rfl ?_
        refine awl_nil ?_
        change AWp _ _ _ _ _ _
        refine awp_seq ?_
        refine awp_region ?_
        refine x_build bi51_QuH tz51_QuH rfl rfl rfl ?_
        refine awl_box rfl rfl rfl rfl rfl (by rw [hcx]; rfl) rfl ?_
        refine awl_le (Le.tokO (k0 := 110) (j := 0) 900 57 3 rfl rfl rfl rfl rfl (by rw [hcx]; rfl)) ?_
        refine awl_le (Le.arMu (k := 900) rfl rfl) ?_
        refine awl_le (Le.cell (q := 110) rfl (.cons Sub.tstm (.cons (Sub.refl _) .nil)) rfl rfl) ?_
        refine awl_le (Le.objs (objs' := [(110, .ce 51 [.tm 900 0, .p (I 0)]), (900, .mu 57 3 0 []), (5, _), (1000, _), (1001, _)]) (.cons rfl rfl (.cons rfl rfl (.cons rfl rfl (.cons rfl rfl (.cons rfl rfl .nil))))) rfl) ?_
        refine awl_assign rfl rfl ?_
        refine awl_nil ?_
        change AWp _ _ _ _ _ _
        refine awp_seq ?_
        refine awp_region ?_
        refine awl_move rfl rfl ?_
        refine x_call [1000, 1001] fb15_QuH rfl rfl rfl (QLen_con ver L ws.length) (.cons (by first | exact Sub.refl _ | exact Sub.ts | exact Sub.nil | exact Sub.agc (by repeat (first | exact .nil | refine .cons (by first | exact Sub.refl _ | exact Sub.nil) ?_))) .nil) rfl (fun r o ⟨e1, e2⟩ => ?_)
        subst e1 e2
        refine ⟨by rw [hcx]; rfl, _, rfl, ?_⟩
        refine awl_bin rfl rfl rfl rfl bin_eql ?_
        refine awl_move rfl rfl ?_
        refine awl_guard_yes rfl (by first | exact (by omega : (L.length : Int) = 0) | exact decide_eq_true (by omega : (L.length : Int) = 0) | exact decide_eq_false (by omega : (L.length : Int) = 0)) rfl rfl ?_
        refine awl_move rfl rfl ?_
        refine awl_guard_yes rfl (by first | exact (by omega : (L.length : Int) = 0) | exact decide_eq_true (by omega : (L.length : Int) = 0) | exact decide_eq_false (by omega : (L.length : Int) = 0)) rfl rfl ?_
        first | refine awl_load_row ti35_QuH rfl rfl rfl rfl ?_ | refine x_irow ti35_QuH rfl rfl rfl rfl ?_ | refine awl_load_m ti35_QuH rfl rfl (by assumption) rfl rfl ?_
        refine awl_guard_yes rfl (by first | exact (by omega : (L.length : Int) = 0) | exact decide_eq_true (by omega : (L.length : Int) = 0) | exact decide_eq_false (by omega : (L.length : Int) = 0)) rfl rfl ?_
        refine awl_pcall fb8_QuH rfl (QPushNil_con lw ln) (.cons (by first | exact Sub.refl _ | exact Sub.ts | exact Sub.nil | exact Sub.agc (by repeat (first | exact .nil | refine .cons (by first | exact Sub.refl _ | exact Sub.nil) ?_))) (.cons (by first | exact Sub.refl _ | exact Sub.ts | exact Sub.nil | exact Sub.agc (by repeat (first | exact .nil | refine .cons (by first | exact Sub.refl _ | exact Sub.nil) ?_))) .nil)) rfl ?_
        refine awl_guard_yes rfl (by first | exact (by omega : (L.length : Int) = 0) | exact decide_eq_true (by omega : (L.length : Int) = 0) | exact decide_eq_false (by omega : (L.length : Int) = 0)) rfl rfl ?_
        refine awl_bin rfl rfl rfl rfl bin_eql ?_
        refine awl_pick_t (by first | exact (by omega : (L.length : Int) = 0) | exact decide_eq_true (by omega : (L.length : Int) = 0) | exact decide_eq_false (by omega : (L.length : Int) = 0)) rfl rfl rfl ?_
        refine awl_move rfl rfl ?_
        refine awl_guard_yes rfl (by first | exact rfl | exact decide_eq_true rfl | exact decide_eq_false rfl) rfl rfl ?_
        refine awl_move rfl rfl ?_
        refine awl_guard_yes rfl (by first | exact rfl | exact decide_eq_true rfl | exact decide_eq_false rfl) rfl rfl ?_
        refine awl_pcall fb15_QuH rfl (QLenNil_con) (.cons (by first | exact Sub.refl _ | exact Sub.ts | exact Sub.nil | exact Sub.agc (by repeat (first | exact .nil | refine .cons (by first | exact Sub.refl _ | exact Sub.nil) ?_))) .nil) rfl ?_
        refine awl_guard_yes rfl (by first | exact rfl | exact decide_eq_true rfl | exact decide_eq_false rfl) rfl rfl ?_
        refine awl_bin rfl rfl rfl rfl bin_eql ?_
        refine awl_pick_t (by first | exact rfl | exact decide_eq_true rfl | exact decide_eq_false rfl) rfl rfl rfl ?_
        refine awl_move rfl rfl ?_
        refine awl_guard_yes rfl (by first | exact rfl | exact decide_eq_true rfl | exact decide_eq_false rfl) rfl rfl ?_
        refine awl_move rfl rfl ?_
        refine awl_guard_yes rfl (by first | exact rfl | exact decide_eq_true rfl | exact decide_eq_false rfl) rfl rfl ?_
        first | refine awl_load_row ti35_QuH rfl rfl rfl rfl ?_ | refine x_irow ti35_QuH rfl rfl rfl rfl ?_ | refine awl_load_m ti35_QuH rfl rfl (by assumption) rfl rfl ?_
        refine awl_guard_yes rfl (by first | exact rfl | exact decide_eq_true rfl | exact decide_eq_false rfl) rfl rfl ?_
        refine x_call [110, 900] fb8_QuH rfl rfl rfl (((QPush_con 0 [] 0 lw ln (by decide) (by omega) (by omega)).sw 1000 110).sw 1001 900) (.cons (by first | exact Sub.refl _ | exact Sub.ts | exact Sub.nil | exact Sub.agc (by repeat (first | exact .nil | refine .cons (by first | exact Sub.refl _ | exact Sub.nil) ?_))) (.cons (by first | exact Sub.refl _ | exact Sub.ts | exact Sub.nil | exact Sub.agc (by repeat (first | exact .nil | refine .cons (by first | exact Sub.refl _ | exact Sub.nil) ?_))) .nil)) rfl (fun r o ⟨_, _, ⟨_, _, ⟨e1, e2⟩, e3, e4⟩, e5, e6⟩ => ?_)
        subst e1 e2 e3 e4 e5 e6
        refine ⟨by rw [hcx]; rfl, _, rfl, ?_⟩
        refine awl_guard_yes rfl (by first | exact rfl | exact decide_eq_true rfl | exact decide_eq_false rfl) rfl rfl ?_
        refine awl_bin rfl rfl rfl rfl bin_eql ?_
        refine awl_pick_t (by first | exact rfl | exact decide_eq_true rfl | exact decide_eq_false rfl) rfl rfl rfl ?_
        refine awl_move rfl rfl ?_
        refine awl_guard_yes rfl (by first | exact rfl | exact decide_eq_true rfl | exact decide_eq_false rfl) rfl rfl ?_
        refine awl_move rfl rfl ?_
        refine awl_guard_yes rfl (by first | exact rfl | exact decide_eq_true rfl | exact decide_eq_false rfl) rfl rfl ?_
        refine x_call [110, 900] fb15_QuH rfl rfl rfl (((QLen_con 1 (upF ([] ++ [⟨lw, ln, 0 + 1⟩]) ([] : List Ent).length) 1).sw 1000 110).sw 1001 900) (.cons (by first | exact Sub.refl _ | exact Sub.ts | exact Sub.nil | exact Sub.agc (by repeat (first | exact .nil | refine .cons (by first | exact Sub.refl _ | exact Sub.nil) ?_))) .nil) rfl (fun r o ⟨_, _, ⟨_, _, ⟨e1, e2⟩, e3, e4⟩, e5, e6⟩ => ?_)
        subst e1 e2 e3 e4 e5 e6
        refine ⟨by rw [hcx]; rfl, _, rfl, ?_⟩
        refine awl_guard_yes rfl (by first | exact rfl | exact decide_eq_true rfl | exact decide_eq_false rfl) rfl rfl ?_
        refine awl_bin rfl rfl rfl rfl bin_eql ?_
        refine awl_pick_t (by first | exact rfl | exact decide_eq_true rfl | exact decide_eq_false rfl) rfl rfl rfl ?_
        refine awl_move rfl rfl ?_
        refine awl_guard_yes rfl (by first | exact (by rw [upF_len]; rfl) | exact decide_eq_true (by rw [upF_len]; rfl) | exact decide_eq_false (by rw [upF_len]; rfl)) rfl rfl ?_
        refine awl_move rfl rfl ?_
        refine awl_guard_yes rfl (by first | exact (by rw [upF_len]; rfl) | exact decide_eq_true (by rw [upF_len]; rfl) | exact decide_eq_false (by rw [upF_len]; rfl)) rfl rfl ?_
        refine awl_pcall fb14_QuH rfl (CopyNil_con) (.cons (by first | exact Sub.refl _ | exact Sub.ts | exact Sub.nil | exact Sub.agc (by repeat (first | exact .nil | refine .cons (by first | exact Sub.refl _ | exact Sub.nil) ?_))) .nil) rfl ?_
        refine awl_guard_yes rfl (by first | exact (by rw [upF_len]; rfl) | exact decide_eq_true (by rw [upF_len]; rfl) | exact decide_eq_false (by rw [upF_len]; rfl)) rfl rfl ?_
        first | refine awl_ptr_nil Try.underlying24 rfl rfl rfl ?_ | refine awl_bin rfl rfl rfl rfl (pointer_eql Try.underlying24) ?_
        refine awl_pick_t (by first | exact (by rw [upF_len]; rfl) | exact decide_eq_true (by rw [upF_len]; rfl) | exact decide_eq_false (by rw [upF_len]; rfl)) rfl rfl rfl ?_
        refine awl_assign rfl rfl ?_
        refine awl_nil ?_
        change AWp _ _ _ _ _ _
        refine awp_ret ?_
        change Ends _ _ _ _ _ _
        refine ends1 [] rfl (.tmp rfl) ?_ rfl
        exact ⟨rfl, rfl⟩

end Go.Ab.Ytnennmlpaijedaa
