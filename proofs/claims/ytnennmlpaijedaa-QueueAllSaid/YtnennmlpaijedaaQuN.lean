/- The heap and the list in the order of pushing: plain facts. -/
import Derived.Test.YtnennmlpaijedaaQuM
set_option linter.unusedVariables false
set_option linter.unusedSimpArgs false
namespace Go.Ab.Ytnennmlpaijedaa
open Go Go.RowKit Go.Ab Go.Proofs

/-- The parent is not behind, from k on. -/
def HPf (l : List Ent) (m lo : Nat) : Prop := ∀ i, 0 < i → i < m → lo ≤ (i - 1) / 2 → leE (l.getD ((i - 1) / 2) e0) (l.getD i e0)
def DnF (l : List Ent) (i m lo : Nat) : Prop := (∀ k, 0 < k → k < m → lo ≤ (k - 1) / 2 → (k - 1) / 2 ≠ i → leE (l.getD ((k - 1) / 2) e0) (l.getD k e0)) ∧
  ∀ k, 0 < k → k < m → (k - 1) / 2 = i → 0 < i → lo ≤ (i - 1) / 2 → leE (l.getD ((i - 1) / 2) e0) (l.getD k e0)

theorem dn_hpf (l : List Ent) (i m lo : Nat) (hm : m ≤ l.length) (hlo : lo ≤ i) (h : DnF l i m lo) : HPf (dnF l i m) m lo ∧ (dnF l i m).Perm l := by
  rw [dnF_eq]
  have hcg := chF_gt l i m
  split
  · rename_i hlt
    have hc := hcg.2 hlt
    have hpar : (chF l i m - 1) / 2 = i := by unfold chF; split <;> omega
    generalize hcc : chF l i m = c at *
    split
    · rename_i hl
      have hat := fun q => sw_at (l := l) (i := i) (k := c) (q := q) (by omega) (by omega)
      have key : DnF (swE l i c) c m lo := by
        refine ⟨fun k h1 h2 hk h3 => ?_, fun k h1 h2 h3 h4 hk => ?_⟩
        · rw [hat, hat]
          by_cases e1 : k = c
          · subst e1
            rw [if_pos rfl, if_neg (by omega), if_pos hpar]; exact less_le hl
          · rw [if_neg e1, if_neg h3]
            by_cases e2 : (k - 1) / 2 = i
            · rw [if_pos e2, if_neg (by omega)]
              have := ch_le (l := l) h1 h2 e2
              rw [hcc] at this; exact this
            · rw [if_neg e2]
              by_cases e3 : k = i
              · rw [if_pos e3]
                have := h.2 c (by omega) (by omega) hpar (by omega) (by omega)
                rw [e3]; exact this
              · rw [if_neg e3]; exact h.1 k h1 h2 hk e2
        · rw [hat, hat, if_neg (by omega), if_pos hpar, if_neg (by omega), if_neg (by omega)]
          have := h.1 k h1 h2 (by omega) (by omega)
          rw [h3] at this; exact this
      obtain ⟨k1, k2⟩ := dn_hpf (swE l i c) c m lo (by rw [swE_len]; exact hm) (by omega) key
      exact ⟨k1, k2.trans (sw_perm (by omega) (by omega))⟩
    · rename_i hl
      refine ⟨fun k h1 h2 hk => ?_, List.Perm.refl _⟩
      by_cases e : (k - 1) / 2 = i
      · rw [e]
        have := ch_le (l := l) h1 h2 e
        rw [hcc] at this
        exact leE_trans (not_less.1 hl) this
      · exact h.1 k h1 h2 hk e
  · rename_i hge
    exact ⟨fun k h1 h2 hk => h.1 k h1 h2 hk (by omega), List.Perm.refl _⟩
termination_by m - i
decreasing_by omega

theorem in_hpf (k m : Nat) : ∀ (l : List Ent), m = l.length → HPf l m k → HPf (inF l k m) m 0 ∧ (inF l k m).Perm l := by
  induction k with
  | zero => intro l _ h; exact ⟨h, List.Perm.refl _⟩
  | succ k ih =>
    intro l hm h
    obtain ⟨h1, h2⟩ := dn_hpf l k m k (by omega) (Nat.le_refl _) ⟨fun c c1 c2 c3 c4 => h c c1 c2 (by omega), fun c c1 c2 c3 c4 c5 => by omega⟩
    obtain ⟨g1, g2⟩ := ih (dnF l k m) (by rw [dnF_len]; exact hm) h1
    exact ⟨g1, g2.trans h2⟩
theorem drop_hp (r : Int) (xs : List Ent) : HP (dropF r xs) (dropF r xs).length ∧ (dropF r xs).Perm (keepE r xs) := by
  obtain ⟨h1, h2⟩ := in_hpf ((keepE r xs).length / 2) (keepE r xs).length (keepE r xs) rfl (fun i a b c => by omega)
  refine ⟨fun i a b => h1 i a ?_ (Nat.zero_le _), h2⟩
  have := h2.length_eq
  unfold dropF at b; omega

/-- The heap H holds what the list M holds, in its order. -/
structure RelI (H M : List Ent) (n : Int) : Prop where
  hp : HP H H.length
  pm : H.Perm M
  inc : M.Pairwise fun a b => a.t < b.t
  top : ∀ e ∈ M, e.t ≤ n

theorem RelI.len {H M : List Ent} {n : Int} (h : RelI H M n) : H.length = M.length := h.pm.length_eq
theorem RelI.start : RelI [] [] 0 := ⟨fun i h1 h2 => absurd h2 (Nat.not_lt_zero _), List.Perm.refl _, List.Pairwise.nil, fun e h => by cases h⟩
theorem RelI.push {H M : List Ent} {n wt nr : Int} (h : RelI H M n) : RelI (upF (H ++ [⟨wt, nr, n + 1⟩]) H.length) (M ++ [⟨wt, nr, n + 1⟩]) (n + 1) := by
  obtain ⟨p1, p2⟩ := push_hp (e := ⟨wt, nr, n + 1⟩) h.hp
  refine ⟨by have hl := p2.length_eq; rw [List.length_append] at hl; rw [hl]; exact p1, p2.trans (h.pm.append_right _), ?_, fun e he => ?_⟩
  · refine List.pairwise_append.2 ⟨h.inc, List.pairwise_singleton _ _, fun a ha b hb => ?_⟩
    simp only [List.mem_singleton] at hb
    subst hb
    have := h.top a ha
    simp only; omega
  · rcases List.mem_append.1 he with he | he
    · have := h.top e he; omega
    · simp only [List.mem_singleton] at he
      subst he; simp
theorem fF_least (l : List Ent) (m : Nat) (h0 : 0 < m) : 0 ≤ fF l m ∧ (∀ q, q < m → (l.getD (fF l m).toNat e0).w ≤ (l.getD q e0).w) ∧ ∀ q, q < (fF l m).toNat → (l.getD (fF l m).toNat e0).w < (l.getD q e0).w := by
  induction m with
  | zero => omega
  | succ m ih =>
    rcases Nat.eq_zero_or_pos m with rfl | hm
    · have e : fF l 1 = 0 := by rw [fF, if_pos (.inl (by simp [fF]))]; rfl
      simp only [Nat.zero_add, e]
      refine ⟨Int.le_refl _, fun q hq => ?_, fun q hq => absurd hq (Nat.not_lt_zero _)⟩
      obtain rfl : q = 0 := by omega
      exact Int.le_refl _
    · obtain ⟨i1, i2, i3⟩ := ih hm
      have hlt := fF_lt l m
      rw [fF]
      split
      · rename_i hc
        have hw : (l.getD m e0).w < (l.getD (fF l m).toNat e0).w := by rcases hc with h | h; omega; exact h
        simp only [Int.toNat_natCast]
        refine ⟨by omega, fun q hq => ?_, fun q hq => ?_⟩
        · rcases Nat.lt_succ_iff_lt_or_eq.1 hq with h | rfl
          · have := i2 q h; omega
          · exact Int.le_refl _
        · have := i2 q hq; omega
      · rename_i hc
        refine ⟨i1, fun q hq => ?_, i3⟩
        rcases Nat.lt_succ_iff_lt_or_eq.1 hq with h | rfl
        · exact i2 q h
        · have : ¬ (l.getD q e0).w < (l.getD (fF l q).toNat e0).w := fun h => hc (.inr h)
          omega
theorem root_mem' {l : List Ent} (h : HP l l.length) {e : Ent} (he : e ∈ l) : leE (l.getD 0 e0) e := by
  obtain ⟨q, hq⟩ := List.getElem?_of_mem he
  have hr := root_le h q (List.getElem?_eq_some_iff.1 hq).1
  rwa [show l.getD q e0 = e by rw [List.getD_eq_getElem?_getD, hq]; rfl] at hr
theorem getD_mem' {l : List Ent} {q : Nat} (h : q < l.length) : l.getD q e0 ∈ l := by
  rw [List.getD_eq_getElem?_getD, List.getElem?_eq_getElem h]; exact List.getElem_mem h
theorem inc_at {M : List Ent} (h : M.Pairwise fun a b => a.t < b.t) {p q : Nat} (hq : q < M.length) (hpq : p < q) : (M.getD p e0).t < (M.getD q e0).t := by
  have := (List.pairwise_iff_getElem.1 h) p q (by omega) hq hpq
  rw [List.getD_eq_getElem?_getD, List.getD_eq_getElem?_getD, List.getElem?_eq_getElem hq, List.getElem?_eq_getElem (by omega)]
  exact this
theorem RelI.first {H M : List Ent} {n : Int} (h : RelI H M n) (hm : 0 < M.length) : 0 ≤ fF M M.length ∧ (fF M M.length).toNat < M.length ∧ M.getD (fF M M.length).toNat e0 = H.getD 0 e0 := by
  obtain ⟨f1, f2, f3⟩ := fF_least M M.length hm
  have f4 := fF_lt M M.length
  have hk : (fF M M.length).toNat < M.length := by omega
  refine ⟨f1, hk, ?_⟩
  have hH : 0 < H.length := by rw [h.len]; exact hm
  obtain ⟨q, hq⟩ := List.getElem?_of_mem (h.pm.mem_iff.1 (getD_mem' hH))
  have hql := (List.getElem?_eq_some_iff.1 hq).1
  have hqe : M.getD q e0 = H.getD 0 e0 := by rw [List.getD_eq_getElem?_getD, hq]; rfl
  have hle := root_mem' h.hp (h.pm.mem_iff.2 (getD_mem' hk))
  rw [← hqe] at hle ⊢
  have hw := f2 q hql
  generalize fF M M.length = f at *
  rcases Nat.lt_trichotomy q f.toNat with hlt | heq | hgt
  · have := f3 q hlt
    unfold leE at hle; omega
  · rw [heq]
  · have := inc_at h.inc hql hgt
    unfold leE at hle; omega
theorem RelI.pop {H M : List Ent} {n : Int} (h : RelI H M n) (hm : 0 < M.length) : RelI (popF H) (M.eraseIdx (fF M M.length).toNat) n := by
  obtain ⟨f1, hk, he⟩ := h.first hm
  obtain ⟨p1, p2, p3⟩ := pop_hp h.hp (by rw [h.len]; exact hm)
  refine ⟨by rw [p2]; exact p1, ?_, h.inc.sublist (List.eraseIdx_sublist _ _), fun e hx => h.top e ((List.eraseIdx_sublist _ _).subset hx)⟩
  generalize (fF M M.length).toNat = k at *
  have hM : M.Perm (M.eraseIdx k ++ [H.getD 0 e0]) := by
    rw [← he, List.getD_eq_getElem?_getD, List.getElem?_eq_getElem hk, List.eraseIdx_eq_take_drop_succ]
    simp only [Option.getD_some]
    have e : M = M.take k ++ (M[k] :: M.drop (k + 1)) := by rw [← List.drop_eq_getElem_cons hk, List.take_append_drop]
    have hp : (M.take k ++ (M[k] :: M.drop (k + 1))).Perm ((M.take k ++ M.drop (k + 1)) ++ [M[k]]) := by
      rw [List.append_assoc]
      exact List.Perm.append_left _ (List.perm_append_singleton _ _).symm
    exact (List.Perm.of_eq e).trans hp
  exact (List.perm_append_right_iff _).1 ((p3.symm.trans h.pm).trans hM)
theorem RelI.drop {H M : List Ent} {n : Int} (h : RelI H M n) (r : Int) : RelI (dropF r H) (keepE r M) n := by
  obtain ⟨p1, p2⟩ := drop_hp r H
  exact ⟨p1, p2.trans (h.pm.filter _), h.inc.sublist List.filter_sublist, fun e he => h.top e (List.filter_sublist.subset he)⟩
theorem keep_le (r : Int) (M : List Ent) : (keepE r M).length ≤ M.length := List.length_filter_le _ _

end Go.Ab.Ytnennmlpaijedaa
