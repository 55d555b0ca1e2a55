/- Objects that are made, and cells of objects that are written. -/
import Derived.Test.YtnennmlpaijedaaAb2
import Derived.Laws.CopyRow
set_option linter.unusedVariables false
set_option linter.unusedSimpArgs false
namespace Go.Ab
open Go Go.RowKit

def upd {α : Type} (f : Nat → α) (k : Nat) (x : α) (j : Nat) : α := if j = k then x else f j
theorem upd_eq {α : Type} (f : Nat → α) (k : Nat) (x : α) : upd f k x k = x := by simp [upd]
theorem upd_ne {α : Type} (f : Nat → α) {k j : Nat} (x : α) (h : j ≠ k) : upd f k x j = f j := by simp [upd, h]

def Ob.no (d : Nat) : Ob → Bool
  | .ce _ cs => AV.noL d cs
  | .ar _ _ _ => true
  | .mu _ _ _ _ => true

def freshR (d : Nat) : List (Nat × AV) → Bool
  | [] => true
  | (_, x) :: r => x.no d && freshR d r
def freshO (d : Nat) : Obs → Bool
  | [] => true
  | (k, o) :: r => !Nat.beq k d && o.no d && freshO d r
def fresh (d : Nat) (s : S) : Bool := freshR d s.regs && freshO d s.objs

theorem freshR_get {d : Nat} : ∀ {l : List (Nat × AV)}, freshR d l = true → ∀ t x, get l t = some x → ∀ k, Has k x → k ≠ d
  | [], _, t, x, h => by simp [get] at h
  | (j, y) :: r, hf, t, x, h => by
    simp only [freshR, Bool.and_eq_true] at hf
    simp only [get] at h
    cases hb : Nat.beq j t with
    | true =>
      rw [hb] at h; simp at h; subst h
      intro k hk e; subst e
      exact AV.no_has hk hf.1
    | false => rw [hb] at h; exact freshR_get hf.2 t x h

theorem freshO_mem {d : Nat} : ∀ {l : Obs}, freshO d l = true → ∀ k o, (k, o) ∈ l → k ≠ d ∧ o.no d = true
  | [], _, k, o, h => by cases h
  | (j, y) :: r, hf, k, o, h => by
    simp only [freshO, Bool.and_eq_true] at hf
    rcases List.mem_cons.1 h with h | h
    · cases h
      refine ⟨fun e => ?_, hf.1.2⟩
      subst e
      simp [Nat.beq_refl] at hf
    · exact freshO_mem hf.2 k o h

theorem freshO_has {d : Nat} {l : Obs} (hf : freshO d l = true) {k T : Nat} {cs : List AV} (h : (k, Ob.ce T cs) ∈ l) {j : Nat} {x : AV} (hj : cs[j]? = some x) {q : Nat} (hq : Has q x) : q ≠ d := by
  intro e; subst e
  have := (freshO_mem hf k _ h).2
  simp only [Ob.no] at this
  exact AV.no_has hq (AV.noL_mem this _ (List.mem_of_getElem? hj))

theorem hwOf_cons_ne {d k : Nat} {o : Ob} {objs : Obs} (h : k ≠ d) : hwOf ((d, o) :: objs) k = hwOf objs k := by
  have : Nat.beq d k = false := by
    cases hb : Nat.beq d k with
    | false => rfl
    | true => exact absurd (Nat.eq_of_beq_eq_true hb).symm h
  simp [hwOf, get, this]

theorem heap_new (w : World) (o : Obj) : (w.alloc o).heap[w.heap.size]? = some o := by
  show (w.heap.push o)[w.heap.size]? = some o
  simp
theorem heap_old (w : World) (o : Obj) {b : Nat} (h : b < w.heap.size) : (w.alloc o).heap[b]? = w.heap[b]? := Below.heap_alloc w o b h

theorem blk_lt {P : Program} {w : World} {M0 : Nat → Nat → Prop} {own : Nat → Value} {objs : Obs} (h : OK P w M0 own objs) {k : Nat} {o : Ob} (hk : (k, o) ∈ objs) {b : Nat} (hb : blk (own k) = some b) : b < w.heap.size := by
  have := h.obs k o hk
  cases o with
  | ce T cs =>
    obtain ⟨b', vals, h1, h2, _⟩ := this
    rw [h1] at hb
    simp only [blk, Option.some.injEq] at hb
    subst hb
    exact (Array.getElem?_eq_some_iff.1 h2).1
  | ar T sz n =>
    obtain ⟨cells, _, h2⟩ := this
    rcases h2 with ⟨h2, _⟩ | ⟨g, cap, cur, h2, _, h3, _⟩
    · rw [h2] at hb; simp [blk] at hb
    · rw [h2] at hb
      simp only [blk, Option.some.injEq] at hb
      subst hb
      exact (Array.getElem?_eq_some_iff.1 h3).1
  | mu T sz ver xs =>
    obtain ⟨cells, ⟨_, h2⟩, _⟩ := this
    rcases h2 with ⟨h2, _⟩ | ⟨g, cap, cur, h2, _, h3, _⟩
    · rw [h2] at hb; simp [blk] at hb
    · rw [h2] at hb
      simp only [blk, Option.some.injEq] at hb
      subst hb
      exact (Array.getElem?_eq_some_iff.1 h3).1

/-- An array whose block stands is as it was. -/
theorem ownsRow_keep {w w' : World} {T sz n : Nat} {v : Value} {cells : List Value} (h : w.ownsRow 0 T sz v n cells) (hb : ∀ b, blk v = some b → w'.heap[b]? = w.heap[b]?) : w'.ownsRow 0 T sz v n cells := by
  refine ⟨h.1, ?_⟩
  rcases h.2 with h2 | ⟨g, cap, cur, h2, h3, h4, r⟩
  · exact .inl h2
  · exact .inr ⟨g, cap, cur, h2, h3, by rw [hb g (by rw [h2]; rfl)]; exact h4, r⟩

theorem mutOf_blk {o : Ob} {v : Value} {b i : Nat} (h : mutOf o v b i) : blk v = some b := by
  cases o with
  | ce => exact h
  | ar => exact h.1
  | mu => exact h

/-- A new object d: cells vals, which stand for cs. -/
theorem Rl.newOb {P : Program} {cx : Cx} {n : Nat} {s : S} {a : Act} {w : World} {own : Nat → Value} (r : Rl P cx n s a w own) (d T : Nat) (cs : List AV) (vals : List Value)
    (hf : fresh d s = true) (h0 : get cx.objs0 d = none) (hl : vals.length = cs.length)
    (hc : ∀ (j : Nat) (x : AV), cs[j]? = some x → x.cell = true ∧ RepA w (Mu cx.M0 own s.objs) own (hwOf s.objs) x (vals.getD j undef))
    (hcf : ∀ x ∈ cs, x.no d = true) :
    Rl P cx n ⟨s.regs, (d, .ce T cs) :: s.objs⟩ a (w.alloc (.cells vals.toArray T)) (upd own d (.pointer (some ⟨w.heap.size, 0, none⟩))) := by
  simp only [fresh, Bool.and_eq_true] at hf
  have hM : ∀ b i, Mu cx.M0 (upd own d (.pointer (some ⟨w.heap.size, 0, none⟩))) ((d, .ce T cs) :: s.objs) b i → Mu cx.M0 own s.objs b i ∨ b = w.heap.size := by
    rintro b i (h | ⟨k, o, hk, hm⟩)
    · exact .inl (.inl h)
    · rcases List.mem_cons.1 hk with hk | hk
      · cases hk
        rw [upd_eq] at hm
        simp only [mutOf, blk, Option.some.injEq] at hm
        exact .inr hm.symm
      · rw [upd_ne _ _ (freshO_mem hf.2 k o hk).1] at hm
        exact .inl (.inr ⟨k, o, hk, hm⟩)
  have hs : Stp w (Mu cx.M0 own s.objs) (w.alloc (.cells vals.toArray T)) (Mu cx.M0 (upd own d (.pointer (some ⟨w.heap.size, 0, none⟩))) ((d, .ce T cs) :: s.objs)) :=
    { os := rfl, tape := rfl, output := rfl, size := by simp,
      cell := fun b i v _ hc => by
        have := World.block_lt_of_cell? w _ hc
        rw [World.cell?_alloc_lt _ _ _ this]; exact hc
      mu := fun b i h => (hM b i h).imp id fun h => by omega
      shape := fun b cs T h => ⟨cs, by rw [heap_old _ _ (Array.getElem?_eq_some_iff.1 h).1]; exact h⟩ }
  have hkr : ∀ k, k ≠ d → Kr own (upd own d (.pointer (some ⟨w.heap.size, 0, none⟩))) (hwOf s.objs) (hwOf ((d, .ce T cs) :: s.objs)) k := fun k hk =>
    .inl ⟨upd_ne _ _ hk, hwOf_cons_ne hk⟩
  refine { defs := r.defs, size := r.size, ok := ?_, regs := fun t x hx => (r.regs t x hx).tr hs fun k hk => hkr k (freshR_get hf.1 t x hx k hk), stp := r.stp.trans hs, fix := fun k o hm => (r.fix k o hm).trans (hkr k ?_), fr := r.fr.trans ⟨fun b hb _ => heap_old w _ hb, fun k o b hk hb => ?_, hs.size⟩ }
  · refine { obs := fun k o hk => ?_, keys := ?_, inj := ?_, m0 := ?_, m0old := fun b i h => Nat.lt_of_lt_of_le (r.ok.m0old b i h) hs.size }
    · rcases List.mem_cons.1 hk with hk | hk
      · cases hk
        refine ⟨w.heap.size, vals, upd_eq _ _ _, heap_new _ _, hl, fun j x hj => ⟨(hc j x hj).1, (hc j x hj).2.tr hs fun q hq => hkr q fun e => ?_⟩⟩
        subst e
        exact AV.no_has hq (hcf x (List.mem_of_getElem? hj))
      · have hne := (freshO_mem hf.2 k o hk).1
        have h1 := r.ok.obs k o hk
        cases o with
        | ce T' cs' =>
          obtain ⟨b, vals', e1, e2, e3, e4⟩ := h1
          refine ⟨b, vals', by rw [upd_ne _ _ hne]; exact e1, ?_, e3, fun j x hj => ⟨(e4 j x hj).1, (e4 j x hj).2.tr hs fun q hq => hkr q (freshO_has hf.2 hk hj hq)⟩⟩
          rw [heap_old _ _ (Array.getElem?_eq_some_iff.1 e2).1]; exact e2
        | ar T' sz m =>
          obtain ⟨cells, e⟩ := h1
          refine ⟨cells, ?_⟩
          rw [upd_ne _ _ hne]
          exact ownsRow_keep e fun b hb => heap_old _ _ (blk_lt r.ok hk hb)
        | mu T' sz ver xs =>
          obtain ⟨cells, e, e2, e3⟩ := h1
          refine ⟨cells, ?_, e2, fun i row j x hi hj => (e3 i row j x hi hj).stp hs⟩
          rw [upd_ne _ _ hne]
          exact ownsRow_keep e fun b hb => heap_old _ _ (blk_lt r.ok hk hb)
    · simp only [List.map_cons, List.nodup_cons]
      refine ⟨fun h => ?_, r.ok.keys⟩
      obtain ⟨⟨k, o⟩, hk, e⟩ := List.mem_map.1 h
      exact (freshO_mem hf.2 k o hk).1 e
    · intro k o k' o' hk hk' hne b hb hb'
      rcases List.mem_cons.1 hk with e | e <;> rcases List.mem_cons.1 hk' with e' | e'
      · cases e; cases e'; exact hne rfl
      · cases e
        rw [upd_eq] at hb
        have hn' := (freshO_mem hf.2 k' o' e').1
        rw [upd_ne _ _ hn'] at hb'
        simp only [blk, Option.some.injEq] at hb
        have := blk_lt r.ok e' hb'
        omega
      · cases e'
        rw [upd_eq] at hb'
        have hn := (freshO_mem hf.2 k o e).1
        rw [upd_ne _ _ hn] at hb
        simp only [blk, Option.some.injEq] at hb'
        have := blk_lt r.ok e hb
        omega
      · rw [upd_ne _ _ (freshO_mem hf.2 k o e).1] at hb
        rw [upd_ne _ _ (freshO_mem hf.2 k' o' e').1] at hb'
        exact r.ok.inj k o k' o' e e' hne b hb hb'
    · intro k o b hk hb i hm
      rcases List.mem_cons.1 hk with e | e
      · cases e
        rw [upd_eq] at hb
        simp only [blk, Option.some.injEq] at hb
        have := r.ok.m0old b i hm
        omega
      · rw [upd_ne _ _ (freshO_mem hf.2 k o e).1] at hb
        exact r.ok.m0 k o b e hb i hm
  · intro e
    subst e
    exact get_some_of_mem (List.mem_map_of_mem (f := (·.1)) hm) h0
  · rcases List.mem_cons.1 hk with e | e
    · cases e
      rw [upd_eq] at hb
      simp only [blk, Option.some.injEq] at hb
      exact .inr (by omega)
    · rw [upd_ne _ _ (freshO_mem hf.2 k o e).1] at hb
      exact .inl ⟨k, o, e, hb⟩

def setO : Obs → Nat → Ob → Obs
  | [], _, _ => []
  | (j, o) :: r, k, o' => bif Nat.beq j k then (j, o') :: r else (j, o) :: setO r k o'

theorem setO_keys : ∀ (l : Obs) (k : Nat) (o : Ob), (setO l k o).map (·.1) = l.map (·.1)
  | [], _, _ => rfl
  | (j, y) :: r, k, o => by
    simp only [setO]
    cases Nat.beq j k <;> simp [setO_keys r k o]

theorem setO_mem : ∀ {l : Obs} {k : Nat} {o : Ob} {j : Nat} {x : Ob}, (l.map (·.1)).Nodup → (j, x) ∈ setO l k o → (j = k ∧ x = o) ∨ (j ≠ k ∧ (j, x) ∈ l)
  | [], _, _, _, _, _, h => by cases h
  | (i, y) :: r, k, o, j, x, hn, h => by
    simp only [List.map_cons, List.nodup_cons] at hn
    simp only [setO] at h
    cases hb : Nat.beq i k with
    | true =>
      obtain rfl : i = k := Nat.eq_of_beq_eq_true hb
      rw [hb] at h
      simp only [cond_true] at h
      rcases List.mem_cons.1 h with h1 | h1
      · cases h1; exact .inl ⟨rfl, rfl⟩
      · exact .inr ⟨fun e => hn.1 (e ▸ List.mem_map_of_mem (f := (·.1)) h1), List.mem_cons_of_mem _ h1⟩
    | false =>
      rw [hb] at h
      simp only [cond_false] at h
      have hik : i ≠ k := fun e => by subst e; simp [Nat.beq_refl] at hb
      rcases List.mem_cons.1 h with h | h
      · cases h; exact .inr ⟨hik, List.mem_cons_self ..⟩
      · rcases setO_mem hn.2 h with h | h
        · exact .inl h
        · exact .inr ⟨h.1, List.mem_cons_of_mem _ h.2⟩

theorem setO_mem_ne : ∀ {l : Obs} {k : Nat} {o : Ob} {j : Nat} {x : Ob}, j ≠ k → (j, x) ∈ l → (j, x) ∈ setO l k o
  | (i, y) :: r, k, o, j, x, hne, h => by
    simp only [setO]
    rcases List.mem_cons.1 h with h | h
    · cases h
      cases hb : Nat.beq i k with
      | true => exact absurd (Nat.eq_of_beq_eq_true hb) hne
      | false => simp
    · cases hb : Nat.beq i k with
      | true => simp [h]
      | false => simp [setO_mem_ne hne h]

theorem setO_mem_eq : ∀ {l : Obs} {k : Nat} {o y : Ob}, get l k = some y → (k, o) ∈ setO l k o
  | [], _, _, _, h => by simp [get] at h
  | (i, z) :: r, k, o, y, h => by
    simp only [setO]
    simp only [get] at h
    cases hb : Nat.beq i k with
    | true => obtain rfl : i = k := Nat.eq_of_beq_eq_true hb; simp
    | false => rw [hb] at h; simp [setO_mem_eq h]

theorem get_setO : ∀ (l : Obs) (k : Nat) (o : Ob) (j : Nat), get (setO l k o) j = bif Nat.beq k j then (get l j).map (fun _ => o) else get l j
  | [], k, o, j => by simp [setO, get]
  | (i, z) :: r, k, o, j => by
    simp only [setO]
    cases hb : Nat.beq i k with
    | true =>
      obtain rfl : i = k := Nat.eq_of_beq_eq_true hb
      simp only [cond_true, get]
      cases Nat.beq i j <;> simp
    | false =>
      simp only [cond_false, get, get_setO r k o j]
      cases hij : Nat.beq i j with
      | true =>
        obtain rfl : i = j := Nat.eq_of_beq_eq_true hij
        have : Nat.beq k i = false := by
          cases h : Nat.beq k i with
          | false => rfl
          | true => obtain rfl : k = i := Nat.eq_of_beq_eq_true h; simp [Nat.beq_refl] at hb
        simp [this]
      | false => simp

theorem hwOf_setO_ce {l : Obs} {k T T' : Nat} {cs cs' : List AV} (h : get l k = some (.ce T cs)) (j : Nat) : hwOf (setO l k (.ce T' cs')) j = hwOf l j := by
  unfold hwOf
  rw [get_setO]
  cases hb : Nat.beq k j with
  | true => obtain rfl : k = j := Nat.eq_of_beq_eq_true hb; simp [h]
  | false => simp

theorem setRow_far (w : World) (g : Nat) (cs : Array Value) {b : Nat} (h : b ≠ g) : (w.setRow g cs).heap[b]? = w.heap[b]? := by
  unfold World.setRow
  simp only [Array.getElem?_modify]
  rw [if_neg (by omega)]
theorem setRow_size (w : World) (g : Nat) (cs : Array Value) : (w.setRow g cs).heap.size = w.heap.size := by simp [World.setRow]

/-- The cells of an object are written. -/
theorem Rl.setOb {P : Program} {cx : Cx} {n : Nat} {s : S} {a : Act} {w : World} {own : Nat → Value} (r : Rl P cx n s a w own) {k T b : Nat} {cs cs' : List AV} (vals : List Value)
    (hk : get s.objs k = some (.ce T cs)) (hb : own k = .pointer (some ⟨b, 0, none⟩)) (hl : vals.length = cs'.length)
    (hc : ∀ (j : Nat) (x : AV), cs'[j]? = some x → x.cell = true ∧ RepA w (Mu cx.M0 own s.objs) own (hwOf s.objs) x (vals.getD j undef)) :
    Rl P cx n ⟨s.regs, setO s.objs k (.ce T cs')⟩ a (w.setRow b vals.toArray) own := by
  have hmem := get_mem hk
  obtain ⟨b', ov, e1, e2, e3, e4⟩ := r.ok.obs k _ hmem
  obtain rfl : b = b' := by rw [hb] at e1; injection e1 with e1; injection e1 with e1; injection e1
  have hM : ∀ c i, Mu cx.M0 own (setO s.objs k (.ce T cs')) c i ↔ Mu cx.M0 own s.objs c i := fun c i => by
    constructor
    · rintro (h | ⟨j, o, hj, hm⟩)
      · exact .inl h
      · rcases setO_mem r.ok.keys hj with ⟨rfl, rfl⟩ | ⟨_, h⟩
        · exact .inr ⟨j, _, hmem, hm⟩
        · exact .inr ⟨j, o, h, hm⟩
    · rintro (h | ⟨j, o, hj, hm⟩)
      · exact .inl h
      · by_cases e : j = k
        · subst e
          have := get_of_mem r.ok.keys hj
          rw [hk] at this
          cases this
          exact .inr ⟨j, _, setO_mem_eq hk, hm⟩
        · exact .inr ⟨j, o, setO_mem_ne e hj, hm⟩
  have hbM : ∀ i, Mu cx.M0 own s.objs b i := fun i => .inr ⟨k, _, hmem, by rw [hb]; rfl⟩
  have hs : Stp w (Mu cx.M0 own s.objs) (w.setRow b vals.toArray) (Mu cx.M0 own (setO s.objs k (.ce T cs'))) :=
    { os := rfl, tape := rfl, output := rfl, size := by rw [setRow_size]; exact Nat.le_refl _,
      cell := fun c i v hm hv => by
        have hne : c ≠ b := fun e => hm (by rw [e]; exact hbM i)
        rw [World.cell?_of_block (w := w) (setRow_far w b _ hne)]; exact hv
      mu := fun c i h => .inl ((hM c i).1 h)
      shape := fun c cs T h => by
        by_cases e : c = b
        · subst e; exact ⟨_, setRow_heap w c _ _ T (0, 0) h⟩
        · exact ⟨cs, by rw [setRow_far _ _ _ e]; exact h⟩ }
  have htr : ∀ {x : AV} {v : Value}, RepA w (Mu cx.M0 own s.objs) own (hwOf s.objs) x v → RepA (w.setRow b vals.toArray) (Mu cx.M0 own (setO s.objs k (.ce T cs'))) own (hwOf (setO s.objs k (.ce T cs'))) x v :=
    fun h => h.tr hs fun j _ => .inl ⟨rfl, hwOf_setO_ce hk j⟩
  refine { defs := r.defs, size := r.size, ok := ?_, regs := fun t x hx => htr (r.regs t x hx), stp := r.stp.trans hs, fix := fun j o hm => (r.fix j o hm).trans (.inl ⟨rfl, hwOf_setO_ce hk j⟩), fr := r.fr.trans ⟨fun c _ hn => setRow_far w b _ fun e => hn k _ hmem (by rw [hb, e]; rfl), fun j o c hj hc => ?_, hs.size⟩ }
  rotate_left
  · rcases setO_mem r.ok.keys hj with ⟨rfl, _⟩ | ⟨_, h⟩
    · exact .inl ⟨j, _, hmem, hc⟩
    · exact .inl ⟨j, o, h, hc⟩
  refine { obs := fun j o hj => ?_, keys := by rw [setO_keys]; exact r.ok.keys, inj := ?_, m0 := ?_, m0old := fun c i h => by rw [setRow_size]; exact r.ok.m0old c i h }
  · rcases setO_mem r.ok.keys hj with ⟨rfl, rfl⟩ | ⟨hne, h⟩
    · exact ⟨b, vals, hb, setRow_heap w b _ _ T (0, 0) e2, hl, fun i x hx => ⟨(hc i x hx).1, htr (hc i x hx).2⟩⟩
    · have h1 := r.ok.obs j o h
      have hfar : ∀ c, blk (own j) = some c → c ≠ b := fun c hc e => by
        subst e
        exact r.ok.inj k _ j o hmem h (Ne.symm hne) c (by rw [hb]; rfl) hc
      cases o with
      | ce T' q =>
        obtain ⟨c, vals', e1, e2, e3, e4⟩ := h1
        exact ⟨c, vals', e1, by rw [setRow_far _ _ _ (hfar c (by rw [e1]; rfl))]; exact e2, e3, fun i x hx => ⟨(e4 i x hx).1, htr (e4 i x hx).2⟩⟩
      | ar T' sz m =>
        obtain ⟨cells, e⟩ := h1
        exact ⟨cells, ownsRow_keep e fun c hc => setRow_far _ _ _ (hfar c hc)⟩
      | mu T' sz ver xs =>
        obtain ⟨cells, e, e2, e3⟩ := h1
        exact ⟨cells, ownsRow_keep e fun c hc => setRow_far _ _ _ (hfar c hc), e2, fun i row j x hi hj => (e3 i row j x hi hj).stp hs⟩
  · intro j o j' o' hj hj' hne
    have g : ∀ {j o}, (j, o) ∈ setO s.objs k (.ce T cs') → ∃ o', (j, o') ∈ s.objs := fun {j o} hj => by
      rcases setO_mem r.ok.keys hj with ⟨rfl, _⟩ | ⟨_, h⟩
      · exact ⟨_, hmem⟩
      · exact ⟨_, h⟩
    obtain ⟨q, hq⟩ := g hj
    obtain ⟨q', hq'⟩ := g hj'
    exact r.ok.inj j q j' q' hq hq' hne
  · intro j o c hj hc i
    rcases setO_mem r.ok.keys hj with ⟨rfl, _⟩ | ⟨_, h⟩
    · exact r.ok.m0 j _ c hmem hc i
    · exact r.ok.m0 j o c h hc i

end Go.Ab
