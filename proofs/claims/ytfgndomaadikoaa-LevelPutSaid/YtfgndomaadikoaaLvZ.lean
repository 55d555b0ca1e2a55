/- A level is written over. -/
import Derived.Test.YtfgndomaadikoaaLvY
import Derived.Test.YtfgndomaadikoaaAb26
set_option linter.unusedVariables false
set_option linter.unusedSimpArgs false
namespace Go.Ab.Ytfgndomaadikoaa
open Go Go.RowKit Go.Ab Go.Proofs

theorem tiL : TI Try.prog 39 3 true := ⟨by kernel_rfl, by kernel_rfl⟩
theorem tiLs : TI Try.prog 24 1 false := ⟨by kernel_rfl, by kernel_rfl⟩
theorem siLs : SI Try.prog 24 39 := ⟨Try.underlying24⟩
theorem fiL2 : FI Try.prog 39 2 2 := ⟨_, _, 0, Try.underlying39, rfl, rfl, by kernel_rfl⟩
theorem biL : BI Try.prog 39 [(0, 1), (1, 1), (2, 1)] := BI.mk' Try.underlying39 (by kernel_rfl)
theorem tzL : TZ Try.prog 39 [.int .i64 0, .int .i64 0, .slice none 0 0] := ⟨⟨.agg #[.int .i64 0, .int .i64 0, .slice none 0 0], by kernel_rfl, rfl⟩, by kernel_rfl⟩
theorem fb44 : FB Try.prog 44 := ⟨_, Try.func44, rfl, by kernel_rfl⟩

/-- A list of levels in the memory between lo and hi, so deep. -/
def Wp (w : World) (lo hi : Nat) : Nat → Value → Prop
  | 0, v => v = .slice none 0 0
  | d + 1, v => v = .slice none 0 0 ∨ ∃ b len cap cs, v = .slice (some ⟨b, 0, none⟩) len cap ∧ lo ≤ b ∧ b < hi ∧ w.heap[b]? = some (Obj.cells cs 39 (0, 0)) ∧ len ≤ 9223372036854775807 ∧ len * 3 ≤ cs.size ∧
      ∀ i, i < len → ∃ k n u, cs[i * 3]? = some (.int .i64 k) ∧ cs[i * 3 + 1]? = some (.int .i64 n) ∧ cs[i * 3 + 2]? = some u ∧ Wp w lo hi d u

theorem Wp.nil {w : World} {lo hi : Nat} : ∀ d, Wp w lo hi d (.slice none 0 0)
  | 0 => rfl
  | _ + 1 => .inl rfl
theorem Wp.up {w : World} {lo hi : Nat} : ∀ {d : Nat} {v : Value}, Wp w lo hi d v → Wp w lo hi (d + 1) v
  | 0, v, h => .inl h
  | d + 1, v, h => by
    rcases h with h | ⟨b, len, cap, cs, e, h1, h2, h3, h4, h5, h6⟩
    · exact .inl h
    · refine .inr ⟨b, len, cap, cs, e, h1, h2, h3, h4, h5, fun i hi => ?_⟩
      obtain ⟨k, n, u, e1, e2, e3, hu⟩ := h6 i hi
      exact ⟨k, n, u, e1, e2, e3, hu.up⟩
theorem Wp.le {w : World} {lo hi d d' : Nat} {v : Value} (h : Wp w lo hi d v) (hd : d ≤ d') : Wp w lo hi d' v := by
  induction hd with
  | refl => exact h
  | step _ ih => exact ih.up
theorem Wp.same {w w' : World} {lo hi : Nat} (hs : ∀ b, lo ≤ b → b < hi → w'.heap[b]? = w.heap[b]?) : ∀ (d : Nat) (v : Value), Wp w lo hi d v → Wp w' lo hi d v
  | 0, v, h => h
  | d + 1, v, h => by
    rcases h with h | ⟨b, len, cap, cs, e, h1, h2, h3, h4, h5, h6⟩
    · exact .inl h
    · refine .inr ⟨b, len, cap, cs, e, h1, h2, by rw [hs b h1 h2]; exact h3, h4, h5, fun i hi => ?_⟩
      obtain ⟨k, n, u, e1, e2, e3, hu⟩ := h6 i hi
      exact ⟨k, n, u, e1, e2, e3, Wp.same hs d u hu⟩

theorem get_ov {L vals : List Value} {o q : Nat} (h : o + vals.length ≤ L.length) : (L.take o ++ vals ++ L.drop (o + vals.length))[q]? = if q < o then L[q]? else if q < o + vals.length then vals[q - o]? else L[q]? := by
  have hl : (L.take o).length = o := by simp; omega
  split
  · rename_i hq
    rw [List.append_assoc, List.getElem?_append_left (by omega), List.getElem?_take_of_lt hq]
  · split
    · rename_i h1 h2
      rw [List.append_assoc, List.getElem?_append_right (by omega), hl, List.getElem?_append_left (by omega)]
    · rename_i h1 h2
      rw [List.getElem?_append_right (by simp; omega), List.getElem?_drop]
      congr 1
      simp; omega

/-- An element is written over. -/
theorem Wp.set {w : World} {lo hi b i : Nat} {cs : Array Value} (hb : w.heap[b]? = some (Obj.cells cs 39 (0, 0))) (hfit : i * 3 + 3 ≤ cs.size) :
    ∀ (d : Nat) (v : Value), Wp w lo hi d v → Wp (w.setRow b (cs.toList.take (i * 3) ++ [Value.int .i64 9, Value.int .i64 0, Value.slice none 0 0] ++ cs.toList.drop (i * 3 + 3)).toArray) lo hi d v
  | 0, v, h => h
  | d + 1, v, h => by
    rcases h with h | ⟨b', len, cap, cs', e, h1, h2, h3, h4, h5, h6⟩
    · exact .inl h
    · by_cases hbb : b' = b
      · subst hbb
        rw [hb] at h3
        injection h3 with h3; injection h3 with h3; subst h3
        have hg := fun q => get_ov (L := cs.toList) (vals := [Value.int .i64 9, Value.int .i64 0, Value.slice none 0 0]) (o := i * 3) (q := q) (by simpa using hfit)
        simp only [List.length_cons, List.length_nil, Nat.zero_add, Nat.reduceAdd] at hg
        refine .inr ⟨b', len, cap, _, e, h1, h2, setRow_heap w b' _ _ 39 (0, 0) hb, h4, ?_, fun j hj => ?_⟩
        · simp; omega
        · simp only [List.getElem?_toArray, hg]
          by_cases hij : j = i
          · subst hij
            refine ⟨9, 0, .slice none 0 0, ?_, ?_, ?_, Wp.nil d⟩
            · rw [if_neg (by omega), if_pos (by omega)]; simp
            · rw [if_neg (by omega), if_pos (by omega)]; simp
            · rw [if_neg (by omega), if_pos (by omega)]; simp
          · obtain ⟨k, n, u, e1, e2, e3, hu⟩ := h6 j hj
            refine ⟨k, n, u, ?_, ?_, ?_, Wp.set hb hfit d u hu⟩
            · split
              · simpa using e1
              · rw [if_neg (by omega)]; simpa using e1
            · split
              · simpa using e2
              · rw [if_neg (by omega)]; simpa using e2
            · split
              · simpa using e3
              · rw [if_neg (by omega)]; simpa using e3
      · refine .inr ⟨b', len, cap, cs', e, h1, h2, by rw [setRow_far _ _ _ hbb]; exact h3, h4, h5, fun j hj => ?_⟩
        obtain ⟨k, n, u, e1, e2, e3, hu⟩ := h6 j hj
        exact ⟨k, n, u, e1, e2, e3, Wp.set hb hfit d u hu⟩

/-- What is new is such. -/
theorem rep_wp {w : World} {M : Nat → Nat → Prop} {lo : Nat} (l : List Lvl) : ∃ d, ∀ V, Rep w M (.fs lo 39 (.sl 3 (encFs lo l))) V → Wp w lo w.heap.size d V := by
  have ih : ∃ d, ∀ a ∈ l, ∀ V, Rep w M (.fs lo 39 (.sl 3 (encFs lo a.args))) V → Wp w lo w.heap.size d V := by
    have key : ∀ r : List Lvl, (∀ a ∈ r, ∃ d, ∀ V, Rep w M (.fs lo 39 (.sl 3 (encFs lo a.args))) V → Wp w lo w.heap.size d V) → ∃ d, ∀ a ∈ r, ∀ V, Rep w M (.fs lo 39 (.sl 3 (encFs lo a.args))) V → Wp w lo w.heap.size d V := by
      intro r
      induction r with
      | nil => intro _; exact ⟨0, fun a ha => by cases ha⟩
      | cons a r ih =>
        intro h
        obtain ⟨d1, h1⟩ := h a (List.mem_cons_self ..)
        obtain ⟨d2, h2⟩ := ih fun b hb => h b (List.mem_cons_of_mem _ hb)
        refine ⟨max d1 d2, fun b hb V hV => ?_⟩
        rcases List.mem_cons.1 hb with rfl | hb
        · exact (h1 V hV).le (by omega)
        · exact (h2 b hb V hV).le (by omega)
    exact key l fun a ha => rep_wp a.args
  obtain ⟨d, hd⟩ := ih
  refine ⟨d + 1, fun V h => ?_⟩
  cases h with
  | fs h hq =>
    rcases hq with rfl | ⟨b, len, cap, cs, rfl, hlo, hb⟩
    · exact .inl rfl
    · have hlt : b < w.heap.size := (Array.getElem?_eq_some_iff.1 hb).1
      generalize hxs : encFs lo l = xs at h
      cases h with
      | sl a cap f hcap hmax hrow hcell hM hx =>
        have hrow' : ∀ i, i < xs.length → ∃ a ∈ l, xs[i]? = some (rowF lo a) := fun i hi => by
          subst hxs
          rw [encFs_len] at hi
          exact ⟨l[i], List.getElem_mem hi, by rw [encFs_eq]; simp [hi]⟩
        have hget : ∀ i j x y, xs[i]? = some x → x[j]? = some y → cs[i * 3 + j]? = some (f i j) := fun i j x y h1 h2 => by
          have := hcell i x j y h1 h2
          rw [add_at, Nat.zero_add, cell_of_row w b _ cs 39 (0, 0) hb] at this
          exact this
        refine .inr ⟨b, _, _, cs, rfl, hlo, hlt, hb, by omega, ?_, fun i hi => ?_⟩
        · rcases Nat.eq_zero_or_pos xs.length with h0 | h0
          · omega
          · obtain ⟨a, _, ha⟩ := hrow' (xs.length - 1) (by omega)
            have := hget _ 2 _ _ ha rfl
            have := (Array.getElem?_eq_some_iff.1 this).1
            omega
        · obtain ⟨a, hal, ha⟩ := hrow' i hi
          have g0 := hget i 0 _ _ ha rfl
          have g1 := hget i 1 _ _ ha rfl
          have g2 := hget i 2 _ _ ha rfl
          have r0 := hx i _ 0 _ ha rfl
          have r1 := hx i _ 1 _ ha rfl
          have r2 := hx i _ 2 _ ha rfl
          refine ⟨a.kind, a.n, f i 2, ?_, ?_, g2, hd a hal _ r2⟩
          · generalize f i 0 = u at g0 r0; cases r0; exact g0
          · generalize f i 1 = u at g1 r1; cases r1; exact g1
termination_by SizeOf.sizeOf l
decreasing_by
  have := List.sizeOf_lt_of_mem ha
  have h2 : SizeOf.sizeOf a.args < SizeOf.sizeOf a := by cases a; simp; omega
  omega

theorem Wp.slice {w : World} {lo hi d : Nat} {v : Value} (h : Wp w lo hi d v) : ∃ ad len cap, v = .slice ad len cap ∧ len ≤ 9223372036854775807 := by
  cases d with
  | zero => exact ⟨_, _, _, h, by omega⟩
  | succ d =>
    rcases h with h | ⟨b, len, cap, cs, e, _, _, _, h4, _⟩
    · exact ⟨_, _, _, h, by omega⟩
    · exact ⟨_, _, _, e, h4⟩
end Go.Ab.Ytfgndomaadikoaa
