/- The law QueueSorts. -/
import Derived.Test.YtnennmlpaijedaaQuF
set_option linter.unusedVariables false
set_option linter.unusedSimpArgs false
namespace Go.Ab.Ytnennmlpaijedaa
open Go Go.RowKit Go.Ab Go.Proofs

theorem fb7_QuG : FB Try.prog 7 := ⟨_, Try.func7, rfl, by kernel_rfl⟩
theorem bi35_QuG : BI Try.prog 35 [(0, 1), (1, 1)] := BI.mk' Try.underlying35 (by kernel_rfl)
theorem tz35_QuG : TZ Try.prog 35 [(.int .i64 0), (.int .i64 0)] := ⟨⟨.agg #[(.int .i64 0), (.int .i64 0)], by kernel_rfl, rfl⟩, by kernel_rfl⟩
theorem fb8_QuG : FB Try.prog 8 := ⟨_, Try.func8, rfl, by kernel_rfl⟩
theorem fb9_QuG : FB Try.prog 9 := ⟨_, Try.func9, rfl, by kernel_rfl⟩
theorem ti35_QuG : TI Try.prog 35 2 true := ⟨by kernel_rfl, by kernel_rfl⟩
theorem fi35_1_QuG : FI Try.prog 35 1 1 := ⟨_, _, 0, Try.underlying35, rfl, rfl, by kernel_rfl⟩
theorem ti3_QuG : TI Try.prog 3 1 false := ⟨by kernel_rfl, by kernel_rfl⟩
theorem fb15_QuG : FB Try.prog 15 := ⟨_, Try.func15, rfl, by kernel_rfl⟩
theorem fb12_QuG : FB Try.prog 12 := ⟨_, Try.func12, rfl, by kernel_rfl⟩

def byts (l : List Int) : List (List PV) := l.map fun n => [U8 n]
@[simp] theorem byts_len (l : List Int) : (byts l).length = l.length := by simp [byts]
theorem byts_at {l : List Int} {i : Nat} (h : i < l.length) : rowAt (byts l) (i : Int) = [U8 (l.getD i 0)] := by
  simp [rowAt, byts, List.getD_eq_getElem?_getD, h]
def okB (l : List Int) : Prop := ∀ n ∈ l, 0 ≤ n ∧ n ≤ 255
theorem okB_at {l : List Int} (h : okB l) (m : Nat) : 0 ≤ l.getD m 0 ∧ l.getD m 0 ≤ 255 := by
  rcases Nat.lt_or_ge m l.length with hm | hm
  · have := h _ (List.getElem_mem hm); simp [List.getD_eq_getElem?_getD, hm]; exact this
  · simp [List.getD_eq_getElem?_getD, hm]

theorem upF_len (l : List Ent) (j : Nat) : (upF l j).length = l.length := by
  rw [upF_eq]
  split
  · rfl
  · split
    · rw [upF_len]; simp
    · rfl
termination_by j
decreasing_by omega

theorem beg1 : upF ([] ++ [⟨3, 1, 0 + 1⟩]) ([] : List Ent).length = [⟨3, 1, 1⟩] := by rw [upF_eq]; rfl
theorem beg2 : upF ([⟨3, 1, 1⟩] ++ [⟨1, 2, 1 + 1⟩]) ([⟨3, 1, 1⟩] : List Ent).length = [⟨1, 2, 2⟩, ⟨3, 1, 1⟩] := by
  rw [upF_eq, if_neg (by decide), if_pos (by decide), upF_eq, if_pos (by decide)]; rfl
theorem PushA_con : Con Try.prog 8 [.ptr 1000 0, .ag [.p (I 3), .p (I 1)]] (qo 0 [] 0) (fun r o => r = .p (I 0) ∧ o = qo 1 [⟨3, 1, 1⟩] 1) :=
  (QPush_con 0 [] 0 3 1 (by decide) (by omega) (by omega)).mono fun r o h => ⟨h.1, by rw [h.2, beg1]; rfl⟩
theorem PushB_con : Con Try.prog 8 [.ptr 1000 0, .ag [.p (I 1), .p (I 2)]] (qo 1 [⟨3, 1, 1⟩] 1) (fun r o => r = .p (I 0) ∧ o = qo 2 [⟨1, 2, 2⟩, ⟨3, 1, 1⟩] 2) :=
  (QPush_con 1 [⟨3, 1, 1⟩] 1 1 2 (by decide) (by omega) (by omega)).mono fun r o h => ⟨h.1, by rw [h.2, beg2]; rfl⟩
theorem beg3 : (popF [⟨1, 2, 2⟩, ⟨3, 1, 1⟩]).length = 1 := by unfold popF; rw [List.length_take, dnF_len]; rfl

theorem begun_con : PCon Try.prog 6 [] (.p (B true)) := by
  refine con_of Try.func6 rfl 33 Try.ntmps6 rfl fun cx hcx => ?_
  refine awp_seq ?_
  refine awp_region ?_
  refine awl_assign rfl rfl ?_
  refine awl_nil ?_
  change AWp _ _ _ _ _ _
  refine awp_seq ?_
  refine awp_region ?_
  refine x_call [] fb7_QuG rfl rfl rfl (New_con.sw 2 1000) .nil rfl (fun r o ⟨_, _, ⟨e1, e2⟩, e3, e4⟩ => ?_)
  subst e1 e2 e3 e4
  refine ⟨by rw [hcx]; rfl, _, rfl, ?_⟩
  refine awl_le (Le.objs (objs' := [(1000, qh 0 0), (1001, qa 0 [])]) (.cons rfl rfl (.cons rfl rfl .nil)) rfl) ?_
  refine awl_sub (y := .ptr 1000 0) (Sub.eq rfl) ?_
  refine awl_assign rfl rfl ?_
  refine awl_nil ?_
  change AWp _ _ _ _ _ _
  refine awp_seq ?_
  refine awp_region ?_
  refine awl_move rfl rfl ?_
  refine x_build bi35_QuG tz35_QuG rfl rfl rfl ?_
  refine x_call [1000, 1001] fb8_QuG rfl rfl rfl PushA_con (.cons (by first | exact Sub.refl _ | exact Sub.ts | exact Sub.nil | exact Sub.agc (by repeat (first | exact .nil | refine .cons (by first | exact Sub.refl _ | exact Sub.nil) ?_))) (.cons (by first | exact Sub.refl _ | exact Sub.ts | exact Sub.nil | exact Sub.agc (by repeat (first | exact .nil | refine .cons (by first | exact Sub.refl _ | exact Sub.nil) ?_))) .nil)) rfl (fun r o ⟨e1, e2⟩ => ?_)
  subst e1 e2
  refine ⟨by rw [hcx]; rfl, _, rfl, ?_⟩
  refine awl_nil ?_
  change AWp _ _ _ _ _ _
  refine awp_seq ?_
  refine awp_region ?_
  refine awl_move rfl rfl ?_
  refine x_build bi35_QuG tz35_QuG rfl rfl rfl ?_
  refine x_call [1000, 1001] fb8_QuG rfl rfl rfl PushB_con (.cons (by first | exact Sub.refl _ | exact Sub.ts | exact Sub.nil | exact Sub.agc (by repeat (first | exact .nil | refine .cons (by first | exact Sub.refl _ | exact Sub.nil) ?_))) (.cons (by first | exact Sub.refl _ | exact Sub.ts | exact Sub.nil | exact Sub.agc (by repeat (first | exact .nil | refine .cons (by first | exact Sub.refl _ | exact Sub.nil) ?_))) .nil)) rfl (fun r o ⟨e1, e2⟩ => ?_)
  subst e1 e2
  refine ⟨by rw [hcx]; rfl, _, rfl, ?_⟩
  refine awl_nil ?_
  change AWp _ _ _ _ _ _
  refine awp_seq ?_
  refine awp_region ?_
  refine awl_move rfl rfl ?_
  refine x_call [1000, 1001] fb9_QuG rfl rfl rfl (QPop_con 2 [⟨1, 2, 2⟩, ⟨3, 1, 1⟩] 2 (by decide) (by decide)) (.cons (by first | exact Sub.refl _ | exact Sub.ts | exact Sub.nil | exact Sub.agc (by repeat (first | exact .nil | refine .cons (by first | exact Sub.refl _ | exact Sub.nil) ?_))) .nil) rfl (fun r o ⟨e1, e2⟩ => ?_)
  subst e1 e2
  refine ⟨by rw [hcx]; rfl, _, rfl, ?_⟩
  refine awl_sub (y := .tp [.ag [.p (I 1), .p (I 2)], .p (I 0)]) (Sub.eq rfl) ?_
  refine awl_move rfl rfl ?_
  refine awl_extract rfl rfl rfl ?_
  refine awl_extract rfl rfl rfl ?_
  refine x_alloc tz35_QuG rfl rfl (by rw [hcx]; rfl) rfl ?_
  first | refine x_store ti35_QuG rfl rfl rfl rfl rfl rfl rfl rfl ?_ | refine awl_store_m ti35_QuG rfl rfl rfl (by first | omega | (simp; omega)) rfl rfl rfl rfl ?_
  refine awl_assign rfl rfl ?_
  refine awl_nil ?_
  change AWp _ _ _ _ _ _
  refine awp_seq ?_
  refine awp_region ?_
  refine awl_move rfl rfl ?_
  refine awl_bin rfl rfl rfl rfl bin_eql ?_
  refine awl_move rfl rfl ?_
  refine awl_guard_yes rfl (by first | exact (by decide) | exact decide_eq_true (by decide) | exact decide_eq_false (by decide)) rfl rfl ?_
  first | refine awl_fieldAddr fi35_1_QuG rfl rfl ?_ | refine awl_fieldAddr_i fi35_1_QuG rfl rfl rfl ?_ | refine awl_field_m fi35_1_QuG rfl rfl rfl ?_
  refine awl_guard_yes rfl (by first | exact (by decide) | exact decide_eq_true (by decide) | exact decide_eq_false (by decide)) rfl rfl ?_
  first | refine awl_load_one ti3_QuG rfl rfl rfl rfl ?_ | refine awl_load_ione ti3_QuG rfl rfl rfl ?_ | refine awl_load_m1 ti3_QuG rfl rfl (by assumption) rfl rfl ?_
  refine awl_guard_yes rfl (by first | exact (by decide) | exact decide_eq_true (by decide) | exact decide_eq_false (by decide)) rfl rfl ?_
  refine awl_bin rfl rfl rfl rfl bin_eql ?_
  refine awl_pick_t (by first | exact (by decide) | exact decide_eq_true (by decide) | exact decide_eq_false (by decide)) rfl rfl rfl ?_
  refine awl_move rfl rfl ?_
  refine awl_guard_yes rfl (by first | exact (by decide) | exact decide_eq_true (by decide) | exact decide_eq_false (by decide)) rfl rfl ?_
  refine awl_move rfl rfl ?_
  refine awl_guard_yes rfl (by first | exact (by decide) | exact decide_eq_true (by decide) | exact decide_eq_false (by decide)) rfl rfl ?_
  refine x_call [1000, 1001] fb15_QuG rfl rfl rfl (QLen_con 3 (popF [⟨1, 2, 2⟩, ⟨3, 1, 1⟩]) 2) (.cons (by first | exact Sub.refl _ | exact Sub.ts | exact Sub.nil | exact Sub.agc (by repeat (first | exact .nil | refine .cons (by first | exact Sub.refl _ | exact Sub.nil) ?_))) .nil) rfl (fun r o ⟨e1, e2⟩ => ?_)
  subst e1 e2
  refine ⟨by rw [hcx]; rfl, _, rfl, ?_⟩
  refine awl_guard_yes rfl (by first | exact (by decide) | exact decide_eq_true (by decide) | exact decide_eq_false (by decide)) rfl rfl ?_
  refine awl_bin rfl rfl rfl rfl bin_eql ?_
  refine awl_pick_t (by first | exact (by decide) | exact decide_eq_true (by decide) | exact decide_eq_false (by decide)) rfl rfl rfl ?_
  refine awl_move rfl rfl ?_
  refine awl_guard_yes rfl (by first | exact (show ((popF [⟨1, 2, 2⟩, ⟨3, 1, 1⟩]).length : Int) = 1 by rw [beg3]; rfl) | exact decide_eq_true (show ((popF [⟨1, 2, 2⟩, ⟨3, 1, 1⟩]).length : Int) = 1 by rw [beg3]; rfl) | exact decide_eq_false (show ((popF [⟨1, 2, 2⟩, ⟨3, 1, 1⟩]).length : Int) = 1 by rw [beg3]; rfl)) rfl rfl ?_
  refine awl_move rfl rfl ?_
  refine awl_guard_yes rfl (by first | exact (show ((popF [⟨1, 2, 2⟩, ⟨3, 1, 1⟩]).length : Int) = 1 by rw [beg3]; rfl) | exact decide_eq_true (show ((popF [⟨1, 2, 2⟩, ⟨3, 1, 1⟩]).length : Int) = 1 by rw [beg3]; rfl) | exact decide_eq_false (show ((popF [⟨1, 2, 2⟩, ⟨3, 1, 1⟩]).length : Int) = 1 by rw [beg3]; rfl)) rfl rfl ?_
  refine x_call [1000, 1001] fb12_QuG rfl rfl rfl (DropNil_con 3 (popF [⟨1, 2, 2⟩, ⟨3, 1, 1⟩]) 2) (.cons (by first | exact Sub.refl _ | exact Sub.ts | exact Sub.nil | exact Sub.agc (by repeat (first | exact .nil | refine .cons (by first | exact Sub.refl _ | exact Sub.nil) ?_))) (.cons (by first | exact Sub.refl _ | exact Sub.ts | exact Sub.nil | exact Sub.agc (by repeat (first | exact .nil | refine .cons (by first | exact Sub.refl _ | exact Sub.nil) ?_))) .nil)) rfl (fun r o ⟨e1, e2⟩ => ?_)
  subst e1 e2
  refine ⟨by rw [hcx]; rfl, _, rfl, ?_⟩
  refine awl_guard_yes rfl (by first | exact (show ((popF [⟨1, 2, 2⟩, ⟨3, 1, 1⟩]).length : Int) = 1 by rw [beg3]; rfl) | exact decide_eq_true (show ((popF [⟨1, 2, 2⟩, ⟨3, 1, 1⟩]).length : Int) = 1 by rw [beg3]; rfl) | exact decide_eq_false (show ((popF [⟨1, 2, 2⟩, ⟨3, 1, 1⟩]).length : Int) = 1 by rw [beg3]; rfl)) rfl rfl ?_
  refine awl_bin rfl rfl rfl rfl bin_eql ?_
  refine awl_pick_t (by first | exact (show ((popF [⟨1, 2, 2⟩, ⟨3, 1, 1⟩]).length : Int) = 1 by rw [beg3]; rfl) | exact decide_eq_true (show ((popF [⟨1, 2, 2⟩, ⟨3, 1, 1⟩]).length : Int) = 1 by rw [beg3]; rfl) | exact decide_eq_false (show ((popF [⟨1, 2, 2⟩, ⟨3, 1, 1⟩]).length : Int) = 1 by rw [beg3]; rfl)) rfl rfl rfl ?_
  refine awl_assign rfl rfl ?_
  refine awl_nil ?_
  change AWp _ _ _ _ _ _
  refine awp_ret ?_
  change Ends _ _ _ _ _ _
  refine ends1 [] rfl (.tmp rfl) ?_ rfl
  exact ⟨rfl, rfl⟩

def wOf (ws : List Int) (i : Nat) : Int := ws.getD i 0 % 8
def entF (ws : List Int) (i : Nat) : Ent := ⟨wOf ws i, i, (i : Int) + 1⟩
def entsF (ws : List Int) (k : Nat) : List Ent := (List.range k).map (entF ws)
theorem entsF_succ (ws : List Int) (k : Nat) : entsF ws (k + 1) = entsF ws k ++ [entF ws k] := by simp [entsF, List.range_succ]
theorem entsF_mem {ws : List Int} {m : Nat} {e : Ent} (h : e ∈ entsF ws m) : ∃ k, k < m ∧ e = entF ws k := by
  obtain ⟨k, hk, rfl⟩ := List.mem_map.1 h
  exact ⟨k, List.mem_range.1 hk, rfl⟩
theorem entsF_nodup (ws : List Int) (m : Nat) : ((entsF ws m).map (·.n)).Nodup := by
  have : (entsF ws m).map (·.n) = (List.range m).map (fun i : Nat => (i : Int)) := by simp [entsF, entF, List.map_map, Function.comp_def]
  rw [this]
  exact List.Pairwise.map (R := fun a b : Nat => a ≠ b) _ (fun a b h e => h (Int.ofNat.inj e)) List.nodup_range
def encB (l : List Bool) : List (List PV) := l.map fun b => [B b]
@[simp] theorem encB_len (l : List Bool) : (encB l).length = l.length := by simp [encB]
theorem encB_rep (m : Nat) : (List.replicate m [PV.v (.bool false)]) = encB (List.replicate m false) := by simp [encB]
theorem encB_set (l : List Bool) (k : Nat) (b : Bool) : (encB l).set k [B b] = encB (l.set k b) := by simp [encB, List.map_set]
theorem encB_at {l : List Bool} {k : Nat} (h : k < l.length) : (encB l)[k]? = some [B (l.getD k false)] := by
  simp [encB, List.getElem?_map, List.getElem?_eq_getElem h, List.getD_eq_getElem?_getD]

/-- Where the pops have come to. -/
structure SoI (ws : List Int) (i : Nat) (L : List Ent) (seen : List Bool) (lw ln : Int) : Prop where
  le : i ≤ ws.length
  len : L.length = ws.length - i
  hp : HP L L.length
  nd : (L.map (·.n)).Nodup
  mem : ∀ e ∈ L, ∃ k, k < ws.length ∧ e = entF ws k
  ord : ∀ e ∈ L, lw < e.w ∨ (lw = e.w ∧ ln < e.n)
  sl : seen.length = ws.length
  seen : ∀ e ∈ L, seen.getD e.n.toNat false = false

theorem soI_start {ws : List Int} {L : List Ent} (hp : HP L ws.length) (hl : L.length = ws.length) (h : L.Perm (entsF ws ws.length)) (hw : ∀ k, 0 ≤ wOf ws k) : SoI ws 0 L (List.replicate ws.length false) (-1) 0 := by
  have hm : ∀ e ∈ L, ∃ k, k < ws.length ∧ e = entF ws k := fun e he => entsF_mem (h.mem_iff.1 he)
  refine ⟨Nat.zero_le _, hl, hl ▸ hp, ((h.map _).nodup_iff).2 (entsF_nodup ws _), hm, fun e he => ?_, by simp, fun e he => ?_⟩
  · obtain ⟨k, _, rfl⟩ := hm e he
    have := hw k
    left; show (-1 : Int) < wOf ws k; omega
  · obtain ⟨k, hk, rfl⟩ := hm e he
    simp [List.getD_eq_getElem?_getD, List.getElem?_replicate]
    split <;> rfl
theorem soI_step {ws : List Int} {i : Nat} {L : List Ent} {seen : List Bool} {lw ln : Int} (h : SoI ws i L seen lw ln) (hi : i < ws.length) {k : Nat} (hk : L.getD 0 e0 = entF ws k) : SoI ws (i + 1) (popF L) (seen.set k true) (wOf ws k) k := by
  have hl := h.len
  obtain ⟨p1, p2, p3⟩ := pop_hp h.hp (by omega)
  rw [hk] at p3
  have hsub : ∀ e ∈ popF L, e ∈ L := fun e he => p3.mem_iff.2 (List.mem_append_left _ he)
  have hnd : ((popF L ++ [entF ws k]).map (·.n)).Nodup := ((p3.map _).nodup_iff).1 h.nd
  have hne : ∀ e ∈ popF L, e.n ≠ (k : Int) := fun e he heq => by
    rw [List.map_append, List.nodup_append] at hnd
    exact hnd.2.2 e.n (List.mem_map_of_mem he) (k : Int) (by simp [entF]) heq
  refine ⟨by omega, by omega, by rw [p2]; exact p1, ?_, fun e he => h.mem e (hsub e he), fun e he => ?_, by simp [h.sl], fun e he => ?_⟩
  · rw [List.map_append, List.nodup_append] at hnd; exact hnd.1
  · obtain ⟨q, hq⟩ := List.getElem?_of_mem (hsub e he)
    have hql := (List.getElem?_eq_some_iff.1 hq).1
    have hr := root_le h.hp q hql
    rw [hk, List.getD_eq_getElem?_getD, hq] at hr
    obtain ⟨k2, _, rfl⟩ := h.mem e (hsub e he)
    have := hne _ he
    simp only [leE, entF, Option.getD_some] at hr this ⊢
    omega
  · obtain ⟨k2, hk2, rfl⟩ := h.mem e (hsub e he)
    have hn := hne _ he
    have := h.seen _ (hsub _ he)
    simp only [entF, Int.toNat_natCast] at this hn ⊢
    rw [List.getD_eq_getElem?_getD, List.getElem?_set_ne (by omega), ← List.getD_eq_getElem?_getD]
    exact this

end Go.Ab.Ytnennmlpaijedaa
