/- Heaps: plain facts. -/
import Derived.Test.YtnennmlpaijedaaQuE
set_option linter.unusedVariables false
set_option linter.unusedSimpArgs false
namespace Go.Ab.Ytnennmlpaijedaa
open Go Go.RowKit Go.Ab Go.Proofs

/-- Not behind. -/
def leE (a b : Ent) : Prop := a.w < b.w ∨ (a.w = b.w ∧ a.t ≤ b.t)
theorem not_less {a b : Ent} : ¬ lessE b a = true ↔ leE a b := by
  unfold lessE leE
  simp only [Bool.or_eq_true, Bool.and_eq_true, decide_eq_true_eq]; omega
theorem less_le {a b : Ent} (h : lessE a b = true) : leE a b := by
  unfold lessE at h; unfold leE
  simp only [Bool.or_eq_true, Bool.and_eq_true, decide_eq_true_eq] at h; omega
theorem leE_trans {a b c : Ent} (h : leE a b) (k : leE b c) : leE a c := by unfold leE at *; omega
theorem leE_refl (a : Ent) : leE a a := by unfold leE; omega

theorem sw_at {l : List Ent} {i k q : Nat} (hi : i < l.length) (hk : k < l.length) : (swE l i k).getD q e0 = if q = k then l.getD i e0 else if q = i then l.getD k e0 else l.getD q e0 := by
  unfold swE
  simp only [List.getD_eq_getElem?_getD, List.getElem?_set, List.length_set]
  by_cases h1 : k = q
  · subst h1; simp [hk]
  · by_cases h2 : i = q
    · subst h2; rw [if_neg h1, if_neg (Ne.symm h1), if_pos rfl, if_pos rfl, if_pos hi]; rfl
    · rw [if_neg h1, if_neg (Ne.symm h1), if_neg h2, if_neg (Ne.symm h2)]

theorem sw_perm {l : List Ent} {i k : Nat} (hi : i < l.length) (hk : k < l.length) : (swE l i k).Perm l := by
  unfold swE
  have e1 : l.getD k e0 = l[k] := by simp [List.getD_eq_getElem?_getD, hk]
  have e2 : l.getD i e0 = l[i] := by simp [List.getD_eq_getElem?_getD, hi]
  rw [e1, e2]
  exact List.set_set_perm hi hk

/-- The parent is not behind. -/
def HP (l : List Ent) (m : Nat) : Prop := ∀ i, 0 < i → i < m → leE (l.getD ((i - 1) / 2) e0) (l.getD i e0)
def UpI (l : List Ent) (j : Nat) : Prop := (∀ i, 0 < i → i < l.length → i ≠ j → leE (l.getD ((i - 1) / 2) e0) (l.getD i e0)) ∧
  ∀ i, 0 < i → i < l.length → (i - 1) / 2 = j → 0 < j → leE (l.getD ((j - 1) / 2) e0) (l.getD i e0)

theorem up_hp (l : List Ent) (j : Nat) (hj : j < l.length) (h : UpI l j) : HP (upF l j) l.length ∧ (upF l j).Perm l := by
  rw [upF_eq]
  split
  · rename_i hz
    exact ⟨fun i h1 h2 => h.1 i h1 h2 (by omega), List.Perm.refl _⟩
  · rename_i hz
    split
    · rename_i hl
      have hp : (j - 1) / 2 < l.length := by omega
      have hat := fun q => sw_at (q := q) hp hj
      have key : UpI (swE l ((j - 1) / 2) j) ((j - 1) / 2) := by
        refine ⟨fun i h1 h2 h3 => ?_, fun i h1 h2 h3 h4 => ?_⟩
        · rw [swE_len] at h2
          rw [hat, hat]
          by_cases e1 : i = j
          · subst e1
            rw [if_neg (by omega), if_pos rfl, if_pos rfl]; exact less_le hl
          · rw [if_neg e1, if_neg h3]
            by_cases e2 : (i - 1) / 2 = j
            · rw [if_pos e2]; exact h.2 i h1 h2 e2 (by omega)
            · rw [if_neg e2]
              by_cases e3 : (i - 1) / 2 = (j - 1) / 2
              · rw [if_pos e3]
                have := h.1 i h1 h2 e1
                rw [e3] at this
                exact leE_trans (less_le hl) this
              · rw [if_neg e3]; exact h.1 i h1 h2 e1
        · rw [swE_len] at h2
          rw [hat, hat]
          rw [if_neg (show ¬ ((j - 1) / 2 - 1) / 2 = j by omega), if_neg (show ¬ ((j - 1) / 2 - 1) / 2 = (j - 1) / 2 by omega)]
          have hpp := h.1 ((j - 1) / 2) h4 hp (by omega)
          by_cases e1 : i = j
          · rw [if_pos e1]; exact hpp
          · rw [if_neg e1, if_neg (by omega)]
            have := h.1 i h1 h2 e1
            rw [h3] at this
            exact leE_trans hpp this
      obtain ⟨k1, k2⟩ := up_hp (swE l ((j - 1) / 2) j) ((j - 1) / 2) (by rw [swE_len]; exact hp) key
      rw [swE_len] at k1
      exact ⟨k1, k2.trans (sw_perm hp hj)⟩
    · rename_i hl
      refine ⟨fun i h1 h2 => ?_, List.Perm.refl _⟩
      by_cases e : i = j
      · subst e; exact not_less.1 hl
      · exact h.1 i h1 h2 e
termination_by j
decreasing_by omega

def DnI (l : List Ent) (i m : Nat) : Prop := (∀ k, 0 < k → k < m → (k - 1) / 2 ≠ i → leE (l.getD ((k - 1) / 2) e0) (l.getD k e0)) ∧
  ∀ k, 0 < k → k < m → (k - 1) / 2 = i → 0 < i → leE (l.getD ((i - 1) / 2) e0) (l.getD k e0)

theorem ch_le {l : List Ent} {i m k : Nat} (h0 : 0 < k) (hk : k < m) (hp : (k - 1) / 2 = i) : leE (l.getD (chF l i m) e0) (l.getD k e0) := by
  unfold chF
  split
  · rename_i hc
    rcases (by omega : k = 2 * i + 1 ∨ k = 2 * i + 2) with rfl | rfl
    · exact less_le hc.2
    · exact leE_refl _
  · rename_i hc
    rcases (by omega : k = 2 * i + 1 ∨ k = 2 * i + 2) with rfl | rfl
    · exact leE_refl _
    · exact not_less.1 fun h => hc ⟨hk, h⟩

theorem dn_hp (l : List Ent) (i m : Nat) (hm : m ≤ l.length) (h : DnI l i m) : HP (dnF l i m) m ∧ (dnF l i m).Perm l ∧ ∀ q, m ≤ q → i < m → (dnF l i m).getD q e0 = l.getD q e0 := by
  rw [dnF_eq]
  have hcg := chF_gt l i m
  split
  · rename_i hlt
    have hc := hcg.2 hlt
    have hpar : (chF l i m - 1) / 2 = i := by unfold chF; split <;> omega
    generalize hcc : chF l i m = c at *
    split
    · rename_i hl
      have hat := fun q => sw_at (l := l) (i := i) (k := c) (q := q) (by omega) (by omega)
      have key : DnI (swE l i c) c m := by
        refine ⟨fun k h1 h2 h3 => ?_, fun k h1 h2 h3 h4 => ?_⟩
        · rw [hat, hat]
          by_cases e1 : k = c
          · subst e1
            rw [if_pos rfl, if_neg (by omega), if_pos hpar]; exact less_le hl
          · rw [if_neg e1, if_neg h3]
            by_cases e2 : (k - 1) / 2 = i
            · rw [if_pos e2, if_neg (by omega)]
              have := ch_le (l := l) h1 h2 e2
              rw [hcc] at this; exact this
            · rw [if_neg e2]
              by_cases e3 : k = i
              · rw [if_pos e3]
                have := h.2 c (by omega) (by omega) hpar (by omega)
                rw [e3]; exact this
              · rw [if_neg e3]; exact h.1 k h1 h2 e2
        · rw [hat, hat, if_neg (by omega), if_pos hpar, if_neg (by omega), if_neg (by omega)]
          have := h.1 k h1 h2 (by omega)
          rw [h3] at this; exact this
      obtain ⟨k1, k2, k3⟩ := dn_hp (swE l i c) c m (by rw [swE_len]; exact hm) key
      refine ⟨k1, k2.trans (sw_perm (by omega) (by omega)), fun q hq _ => ?_⟩
      rw [k3 q hq hc, hat, if_neg (by omega), if_neg (by omega)]
    · rename_i hl
      refine ⟨fun k h1 h2 => ?_, List.Perm.refl _, fun _ _ _ => rfl⟩
      by_cases e : (k - 1) / 2 = i
      · rw [e]
        have := ch_le (l := l) h1 h2 e
        rw [hcc] at this
        exact leE_trans (not_less.1 hl) this
      · exact h.1 k h1 h2 e
  · rename_i hge
    exact ⟨fun k h1 h2 => h.1 k h1 h2 (by omega), List.Perm.refl _, fun _ _ _ => rfl⟩
termination_by m - i
decreasing_by omega

/-- The root is not behind any. -/
theorem root_le {l : List Ent} {m : Nat} (h : HP l m) (i : Nat) (hi : i < m) : leE (l.getD 0 e0) (l.getD i e0) := by
  rcases Nat.eq_zero_or_pos i with rfl | h0
  · exact leE_refl _
  · exact leE_trans (root_le h ((i - 1) / 2) (by omega)) (h i h0 hi)
termination_by i
decreasing_by omega

theorem getD_app {l : List Ent} {e : Ent} {q : Nat} : (l ++ [e]).getD q e0 = if q < l.length then l.getD q e0 else if q = l.length then e else e0 := by
  simp only [List.getD_eq_getElem?_getD]
  split
  · rename_i h; rw [List.getElem?_append_left h]
  · rename_i h
    rw [List.getElem?_append_right (by omega)]
    split
    · rename_i h2; subst h2; simp
    · rename_i h2
      have : q - l.length ≠ 0 := by omega
      cases hq : q - l.length with
      | zero => exact absurd hq this
      | succ n => simp

/-- One entry more. -/
theorem push_hp {l : List Ent} {e : Ent} (h : HP l l.length) : HP (upF (l ++ [e]) l.length) (l.length + 1) ∧ (upF (l ++ [e]) l.length).Perm (l ++ [e]) := by
  have := up_hp (l ++ [e]) l.length (by simp) ⟨fun i h1 h2 h3 => by
      simp at h2
      rw [getD_app, getD_app, if_pos (by omega), if_pos (by omega)]
      exact h i h1 (by omega), fun i h1 h2 h3 h4 => by simp at h2; omega⟩
  simpa using this
/-- The first one taken. -/
theorem pop_hp {l : List Ent} (h : HP l l.length) (hl : 0 < l.length) : HP (popF l) (l.length - 1) ∧ (popF l).length = l.length - 1 ∧ l.Perm (popF l ++ [l.getD 0 e0]) := by
  have hat := fun q => sw_at (l := l) (i := 0) (k := l.length - 1) (q := q) hl (by omega)
  have hdl := dnF_len (swE l 0 (l.length - 1)) 0 (l.length - 1)
  rw [swE_len] at hdl
  obtain ⟨k1, k2, k3⟩ := dn_hp (swE l 0 (l.length - 1)) 0 (l.length - 1) (by rw [swE_len]; omega) ⟨fun k h1 h2 h3 => by
      rw [hat, hat, if_neg (by omega), if_neg (by omega), if_neg (by omega), if_neg (by omega)]
      exact h k h1 (by omega), fun k h1 h2 h3 h4 => by omega⟩
  have hpl : (popF l).length = l.length - 1 := by unfold popF; rw [List.length_take, hdl]; omega
  refine ⟨fun i h1 h2 => ?_, hpl, ?_⟩
  · have e : ∀ q, q < l.length - 1 → (popF l).getD q e0 = (dnF (swE l 0 (l.length - 1)) 0 (l.length - 1)).getD q e0 := fun q hq => by
      unfold popF
      simp only [List.getD_eq_getElem?_getD]
      rw [List.getElem?_take_of_lt hq]
    rw [e _ (by omega), e _ h2]; exact k1 i h1 h2
  · have hlast : (dnF (swE l 0 (l.length - 1)) 0 (l.length - 1)) = popF l ++ [l.getD 0 e0] := by
      have e2 : (dnF (swE l 0 (l.length - 1)) 0 (l.length - 1)).getD (l.length - 1) e0 = l.getD 0 e0 := by
        rcases Nat.lt_or_ge 0 (l.length - 1) with h1 | h1
        · rw [k3 _ (Nat.le_refl _) h1, hat, if_pos rfl]
        · rw [dnF_eq, if_neg (by omega), hat, if_pos rfl]
      have hq : l.length - 1 < (dnF (swE l 0 (l.length - 1)) 0 (l.length - 1)).length := by omega
      have e3 : (dnF (swE l 0 (l.length - 1)) 0 (l.length - 1)).drop (l.length - 1) = [l.getD 0 e0] := by
        rw [List.drop_eq_getElem_cons hq, List.drop_eq_nil_of_le (by omega)]
        rw [List.getD_eq_getElem?_getD, List.getElem?_eq_getElem hq] at e2
        simp only [Option.getD_some] at e2
        rw [e2]
      have := List.take_append_drop (l.length - 1) (dnF (swE l 0 (l.length - 1)) 0 (l.length - 1))
      rw [e3] at this
      exact this.symm
    rw [← hlast]
    exact (k2.trans (sw_perm hl (by omega))).symm

end Go.Ab.Ytnennmlpaijedaa
