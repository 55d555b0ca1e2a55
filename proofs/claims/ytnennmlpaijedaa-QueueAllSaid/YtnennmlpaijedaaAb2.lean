/- The relation between an abstract state and the machine, and the rules for the forms of code. -/
import Derived.Test.YtnennmlpaijedaaAb1
import Derived.Deep.LoopGhost
set_option linter.unusedVariables false
set_option linter.unusedSimpArgs false
namespace Go.Ab
open Go Go.RowKit

theorem get_mem {α : Type} : ∀ {l : List (Nat × α)} {k : Nat} {x : α}, get l k = some x → (k, x) ∈ l
  | [], _, _, h => by simp [get] at h
  | (j, y) :: r, k, x, h => by
    simp only [get] at h
    cases hb : Nat.beq j k with
    | true =>
      rw [hb] at h
      obtain rfl : j = k := Nat.eq_of_beq_eq_true hb
      simp at h
      subst h
      exact List.mem_cons_self ..
    | false => rw [hb] at h; exact List.mem_cons_of_mem _ (get_mem h)

theorem get_of_mem {α : Type} : ∀ {l : List (Nat × α)} {k : Nat} {x : α}, (l.map (·.1)).Nodup → (k, x) ∈ l → get l k = some x
  | [], _, _, _, h => by cases h
  | (j, y) :: r, k, x, hn, h => by
    simp only [List.map_cons, List.nodup_cons] at hn
    simp only [get]
    rcases List.mem_cons.1 h with h | h
    · cases h; simp [Nat.beq_refl]
    · have hne : Nat.beq j k = false := by
        cases hb : Nat.beq j k with
        | false => rfl
        | true =>
          obtain rfl : j = k := Nat.eq_of_beq_eq_true hb
          exact absurd (List.mem_map_of_mem (f := (·.1)) h) hn.1
      rw [hne]
      exact get_of_mem hn.2 h

theorem get_none {α : Type} : ∀ {l : List (Nat × α)} {k : Nat}, k ∉ l.map (·.1) → get l k = none
  | [], _, _ => rfl
  | (j, y) :: r, k, h => by
    simp only [List.map_cons, List.mem_cons, not_or] at h
    have hne : Nat.beq j k = false := by
      cases hb : Nat.beq j k with
      | false => rfl
      | true => exact absurd (Nat.eq_of_beq_eq_true hb).symm h.1
    simp only [get, hne]
    exact get_none h.2

theorem get_some_of_mem {α : Type} : ∀ {l : List (Nat × α)} {k : Nat}, k ∈ l.map (·.1) → get l k ≠ none
  | [], _, h => by simp at h
  | (j, y) :: r, k, h => by
    simp only [get]
    cases hb : Nat.beq j k with
    | true => simp
    | false =>
      simp only [List.map_cons, List.mem_cons] at h
      rcases h with h | h
      · subst h; simp [Nat.beq_refl] at hb
      · simpa using get_some_of_mem h

/-- The block of an object. -/
def blk : Value → Option Nat
  | .pointer (some a) => some a.block
  | .slice (some a) _ _ => some a.block
  | _ => none

/-- The places of an object that may still be written. -/
def mutOf (o : Ob) (v : Value) (b i : Nat) : Prop :=
  match o with
  | .ce _ _ => blk v = some b
  | .ar _ sz n => blk v = some b ∧ n * sz ≤ i
  | .mu _ _ _ _ => blk v = some b

def Mu (M0 : Nat → Nat → Prop) (own : Nat → Value) (objs : Obs) (b i : Nat) : Prop :=
  M0 b i ∨ ∃ k o, (k, o) ∈ objs ∧ mutOf o (own k) b i

def ObOK (P : Program) (w : World) (M : Nat → Nat → Prop) (own : Nat → Value) (hw : Nat → Option Nat) (k : Nat) : Ob → Prop
  | .ce T cs => ∃ (b : Nat) (vals : List Value), own k = .pointer (some ⟨b, 0, none⟩) ∧ w.heap[b]? = some (.cells vals.toArray T (0, 0)) ∧ vals.length = cs.length ∧
      ∀ (j : Nat) (x : AV), cs[j]? = some x → x.cell = true ∧ RepA w M own hw x (vals.getD j undef)
  | .ar T sz n => ∃ cells, w.ownsRow 0 T sz (own k) n cells
  | .mu T sz _ xs => ∃ cells, w.ownsRow 0 T sz (own k) xs.length cells ∧ (∀ row ∈ xs, row.length = sz) ∧ ∀ (i : Nat) (row : List PV) (j : Nat) (x : PV), xs[i]? = some row → row[j]? = some x → Rep w M x (cells.getD (i * sz + j) undef)

structure OK (P : Program) (w : World) (M0 : Nat → Nat → Prop) (own : Nat → Value) (objs : Obs) : Prop where
  obs : ∀ k o, (k, o) ∈ objs → ObOK P w (Mu M0 own objs) own (hwOf objs) k o
  keys : (objs.map (·.1)).Nodup
  inj : ∀ k o k' o', (k, o) ∈ objs → (k', o') ∈ objs → k ≠ k' → ∀ b, blk (own k) = some b → blk (own k') ≠ some b
  m0 : ∀ k o b, (k, o) ∈ objs → blk (own k) = some b → ∀ i, ¬ M0 b i
  m0old : ∀ b i, M0 b i → b < w.heap.size

/-- Of what was there only the blocks of the objects may have turned. -/
structure Fr (w : World) (own : Nat → Value) (objs : Obs) (w' : World) (own' : Nat → Value) (objs' : Obs) : Prop where
  keep : ∀ b, b < w.heap.size → (∀ k o, (k, o) ∈ objs → blk (own k) ≠ some b) → w'.heap[b]? = w.heap[b]?
  loc : ∀ k o b, (k, o) ∈ objs' → blk (own' k) = some b → (∃ k' o', (k', o') ∈ objs ∧ blk (own k') = some b) ∨ w.heap.size ≤ b
  size : w.heap.size ≤ w'.heap.size

theorem Fr.refl (w : World) (own : Nat → Value) (objs : Obs) : Fr w own objs w own objs := ⟨fun _ _ _ => rfl, fun k o b h hb => .inl ⟨k, o, h, hb⟩, Nat.le_refl _⟩

theorem Fr.trans {w w1 w2 : World} {own own1 own2 : Nat → Value} {objs objs1 objs2 : Obs} (h : Fr w own objs w1 own1 objs1) (k : Fr w1 own1 objs1 w2 own2 objs2) : Fr w own objs w2 own2 objs2 where
  keep b hb hn := by
    rw [k.keep b (Nat.lt_of_lt_of_le hb h.size) (fun j o hj he => ?_), h.keep b hb hn]
    rcases h.loc j o b hj he with ⟨j', o', h1, h2⟩ | h1
    · exact hn j' o' h1 h2
    · omega
  loc j o b hj he := by
    rcases k.loc j o b hj he with ⟨j', o', h1, h2⟩ | h1
    · exact h.loc j' o' b h1 h2
    · exact .inr (Nat.le_trans h.size h1)
  size := Nat.le_trans h.size k.size

structure Cx where
  w0 : World
  M0 : Nat → Nat → Prop
  own0 : Nat → Value
  objs0 : Obs

def Cx.M (cx : Cx) : Nat → Nat → Prop := Mu cx.M0 cx.own0 cx.objs0

structure S where
  regs : List (Nat × AV)
  objs : Obs

structure Rl (P : Program) (cx : Cx) (n : Nat) (s : S) (a : Act) (w : World) (own : Nat → Value) : Prop where
  defs : a.defers = []
  size : a.tmps.size = n
  ok : OK P w cx.M0 own s.objs
  regs : ∀ t x, get s.regs t = some x → RepA w (Mu cx.M0 own s.objs) own (hwOf s.objs) x (a.tmps.getD t undef)
  stp : Stp cx.w0 cx.M w (Mu cx.M0 own s.objs)
  fix : ∀ k o, (k, o) ∈ cx.objs0 → Kr cx.own0 own (hwOf cx.objs0) (hwOf s.objs) k
  fr : Fr cx.w0 cx.own0 cx.objs0 w own s.objs

def Rel (P : Program) (cx : Cx) (n : Nat) (s : S) (a : Act) (w : World) : Prop := ∃ own, Rl P cx n s a w own

/-- The machine's side of an abstract post. -/
def post (P : Program) (cx : Cx) (n : Nat) (Q : Exit → S → Prop) (e : Exit) (a : Act) (w : World) : Prop := ∃ s, Rel P cx n s a w ∧ Q e s

def AWp (P : Program) (cx : Cx) (n : Nat) (c : Code) (Q : Exit → S → Prop) (s : S) : Prop :=
  ∀ a w, Rel P cx n s a w → c.wp P (post P cx n Q) a w

def AWl (P : Program) (cx : Cx) (n : Nat) (ops : Array Oper) (rest : List Oper) (Q : Exit → S → Prop) (s : S) : Prop :=
  ∀ a w, Rel P cx n s a w → wpList P ops (post P cx n Q) rest a w

def thn (K : S → Prop) (Q : Exit → S → Prop) : Exit → S → Prop
  | .normal, s => K s
  | e, s => Q e s

section
variable {P : Program} {cx : Cx} {n : Nat} {Q : Exit → S → Prop} {s : S}

theorem awp_mono {c : Code} {Q' : Exit → S → Prop} (h : AWp P cx n c Q s) (k : ∀ e s, Q e s → Q' e s) : AWp P cx n c Q' s :=
  fun a w r => wp_mono (h a w r) fun e a w ⟨s, hs, hq⟩ => ⟨s, hs, k e s hq⟩

theorem awp_seq {x y : Code} (h : AWp P cx n x (thn (AWp P cx n y Q) Q) s) : AWp P cx n (.seq x y) Q s := fun a w r => by
  refine wp_seq (wp_mono (h a w r) fun e a w ⟨s, hs, hq⟩ => ?_)
  cases e <;> first | exact hq a w hs | exact ⟨s, hs, hq⟩

theorem awp_skip (h : Q .normal s) : AWp P cx n .skip Q s := fun a w r => wp_skip ⟨s, r, h⟩
theorem awp_ret (h : Q .ret s) : AWp P cx n .ret Q s := fun a w r => wp_ret ⟨s, r, h⟩
theorem awp_exit {id : Nat} (h : Q (.exit id) s) : AWp P cx n (.exit id) Q s := fun a w r => wp_exit ⟨s, r, h⟩

def blkQ (id : Nat) (Q : Exit → S → Prop) : Exit → S → Prop
  | .exit j, s => bif Nat.beq j id then Q .normal s else Q (.exit j) s
  | e, s => Q e s

theorem awp_block {id : Nat} {c : Code} (h : AWp P cx n c (blkQ id Q) s) : AWp P cx n (.block id c) Q s := fun a w r => by
  refine wp_block (wp_mono (h a w r) fun e a w ⟨s, hs, hq⟩ => ?_)
  cases e with
  | exit j => ?_
  | _ => exact ⟨s, hs, hq⟩
  simp only [Exit.inBlock]
  by_cases hj : j = id
  · subst hj
    rw [if_pos rfl]
    simp only [blkQ, Nat.beq_refl, cond_true] at hq
    exact ⟨s, hs, hq⟩
  · rw [if_neg hj]
    have hb : Nat.beq j id = false := by
      cases hb : Nat.beq j id with
      | false => rfl
      | true => exact absurd (Nat.eq_of_beq_eq_true hb) hj
    simp only [blkQ, hb, cond_false] at hq
    exact ⟨s, hs, hq⟩

/-- Of one state another one may be made that says no more. -/
def Le (P : Program) (cx : Cx) (n : Nat) (s s' : S) : Prop := ∀ a w, Rel P cx n s a w → Rel P cx n s' a w

theorem Le.refl : Le P cx n s s := fun _ _ h => h
theorem Le.trans {s1 s2 s3 : S} (h : Le P cx n s1 s2) (k : Le P cx n s2 s3) : Le P cx n s1 s3 := fun a w r => k a w (h a w r)

theorem awp_le {c : Code} {s' : S} (h : Le P cx n s s') (k : AWp P cx n c Q s') : AWp P cx n c Q s := fun a w r => k a w (h a w r)
theorem awl_le {ops : Array Oper} {rest : List Oper} {s' : S} (h : Le P cx n s s') (k : AWl P cx n ops rest Q s') : AWl P cx n ops rest Q s := fun a w r => k a w (h a w r)

theorem awp_loop {X : Type} (st : X → S) (inv : X → Prop) (μ : X → Nat) (x0 : X) {c : Code} (h0 : Le P cx n s (st x0)) (hi : inv x0)
    (round : ∀ x, inv x → AWp P cx n c (thn (fun s' => ∃ x', inv x' ∧ μ x' < μ x ∧ Le P cx n s' (st x')) Q) (st x)) : AWp P cx n (.loop c) Q s := fun a w r => by
  refine wp_loop_ghost (fun m a w => ∃ x, μ x = m ∧ inv x ∧ Rel P cx n (st x) a w) (μ x0) ⟨x0, rfl, hi, h0 a w r⟩ ?_
  rintro m a w ⟨x, rfl, hix, hr⟩
  refine wp_mono (round x hix a w hr) fun e a' w' ⟨s', hs', hq⟩ => ?_
  cases e <;> try exact ⟨s', hs', hq⟩
  obtain ⟨z, hiz, hlt, hle⟩ := hq
  exact ⟨_, hlt, z, rfl, hiz, hle _ _ hs'⟩

theorem awp_region {id : Nat} {l : List Oper} (h : AWl P cx n l.toArray l Q s) : AWp P cx n (.region id l.toArray false) Q s :=
  fun a w r => wp_region_lit (h a w r)

theorem awl_nil {ops : Array Oper} (h : Q .normal s) : AWl P cx n ops [] Q s := fun a w r => wpList_nil ⟨s, r, h⟩
end

/-- What an operand is. -/
def S.ev (s : S) : Operand → Option AV
  | .tmp t => get s.regs t
  | .const (.agg cs) => bif cs.toList.all (·.oneCell') then some (.ag (cs.toList.map fun v => .p (.v v))) else none
  | .const (.tuple _) => none
  | .const v => some (.p (.v v))
  | .global _ => none
  | .func f => some (.p (.fn (.func f) [] []))

def S.put (s : S) (d : Nat) (x : AV) : S := ⟨(d, x) :: s.regs, s.objs⟩

theorem Rl.ev {P : Program} {cx : Cx} {n : Nat} {s : S} {a : Act} {w : World} {own : Nat → Value} (r : Rl P cx n s a w own) {x : Operand} {av : AV} (h : s.ev x = some av) :
    RepA w (Mu cx.M0 own s.objs) own (hwOf s.objs) av (a.eval x) := by
  cases x with
  | tmp t => exact r.regs t av h
  | global g => simp [S.ev] at h
  | func f =>
    simp only [S.ev, Option.some.injEq] at h
    subst h
    exact .p (.fn [] [] rfl rfl (fun j x hj => by simp at hj) (fun j x hj => by simp at hj))
  | const v =>
    cases v with
    | agg cs =>
      simp only [S.ev] at h
      cases hb : cs.toList.all (·.oneCell') with
      | false => rw [hb] at h; simp at h
      | true =>
        rw [hb] at h
        simp only [cond_true, Option.some.injEq] at h
        subst h
        have h1 := List.all_eq_true.1 hb
        have : a.eval (.const (.agg cs)) = .agg cs.toList.toArray := by simp [Act.eval]
        rw [this]
        refine .ag cs.toList (by simp) h1 fun j x hj => ?_
        simp only [List.getElem?_map, Option.map_eq_some_iff] at hj
        obtain ⟨v, hv, rfl⟩ := hj
        rw [List.getD_eq_getElem?_getD, hv]
        exact .p (.v (h1 v (List.mem_of_getElem? hv)))
    | tuple vs => simp [S.ev] at h
    | _ =>
      simp only [S.ev, Option.some.injEq] at h
      subst h
      exact .p (.v rfl)

section
variable {P : Program} {cx : Cx} {n : Nat} {Q : Exit → S → Prop} {s : S}

theorem awp_cond {c : Operand} {x y : Code} {b : Bool} (hc : s.ev c = some (.p (.v (.bool b)))) (ht : b = true → AWp P cx n x Q s) (hf : b = false → AWp P cx n y Q s) :
    AWp P cx n (.cond c x y) Q s := fun a w r => by
  obtain ⟨own, r'⟩ := r
  have hv := r'.ev hc
  have hv' : a.eval c = .bool b := by
    generalize a.eval c = u at hv
    cases hv with
    | p h => cases h; rfl
  cases b with
  | true => exact wp_cond_true hv' (ht rfl a w ⟨own, r'⟩)
  | false => exact wp_cond_false hv' (hf rfl a w ⟨own, r'⟩)

theorem awp_cond_p {c : Operand} {x y : Code} {q : Prop} [Decidable q] (hc : s.ev c = some (.p (.v (.bool (decide q))))) (ht : q → AWp P cx n x Q s) (hf : ¬ q → AWp P cx n y Q s) :
    AWp P cx n (.cond c x y) Q s := awp_cond hc (fun h => ht (of_decide_eq_true h)) (fun h => hf (of_decide_eq_false h))

/-- A step of one operation that yields a value. -/
theorem awl_op {ops : Array Oper} {o : Oper} {rest : List Oper} {s' : S} (hg : o.guard = none)
    (h : ∀ a w own, Rl P cx n s a w own → ∃ v w', ((execOp a.eval o).run P w = .ok (.value v) w' ∨ ((execOp a.eval o).run P w = .ok .skip w' ∧ v = undef)) ∧ Rel P cx n s' (a.put o.dst v) w')
    (k : AWl P cx n ops rest Q s') : AWl P cx n ops (o :: rest) Q s := fun a w ⟨own, r⟩ => by
  obtain ⟨v, w', hr, hr'⟩ := h a w own r
  refine wpList_plain hg fun K hK => ?_
  unfold Oper.wp
  rcases hr with hr | ⟨hr, rfl⟩
  · rw [hr]; exact hK _ _ (k _ _ hr')
  · rw [hr]; exact hK _ _ (k _ _ hr')

/-- The register d gets v; the world may have turned. -/
theorem Rl.put {a : Act} {w w' : World} {own own' : Nat → Value} {objs' : Obs} {d : Nat} {x : AV} {v : Value} (r : Rl P cx n s a w own) (hd : d < n)
    (hs : Stp w (Mu cx.M0 own s.objs) w' (Mu cx.M0 own' objs')) (hok : OK P w' cx.M0 own' objs')
    (hk : ∀ t y, get s.regs t = some y → ∀ k, Has k y → Kr own own' (hwOf s.objs) (hwOf objs') k)
    (hfix : ∀ k o, (k, o) ∈ cx.objs0 → Kr own own' (hwOf s.objs) (hwOf objs') k) (hfr : Fr w own s.objs w' own' objs')
    (hx : RepA w' (Mu cx.M0 own' objs') own' (hwOf objs') x v) : Rl P cx n ⟨(d, x) :: s.regs, objs'⟩ (a.put (some d) v) w' own' where
  defs := r.defs
  size := by simp only [Act.put, Array.size_setIfInBounds]; exact r.size
  ok := hok
  regs := fun t y hy => by
    simp only [get] at hy
    cases hb : Nat.beq d t with
    | true =>
      obtain rfl : d = t := Nat.eq_of_beq_eq_true hb
      rw [hb] at hy
      simp at hy
      subst hy
      have : (a.put (some d) v).tmps.getD d undef = v := by
        have hs := r.size
        simp [Act.put, Array.getD, hs, hd]
      rw [this]; exact hx
    | false =>
      rw [hb] at hy
      have hne : d ≠ t := fun e => by subst e; simp [Nat.beq_refl] at hb
      have : (a.put (some d) v).tmps.getD t undef = a.tmps.getD t undef := by
        simp only [Act.put, Array.getD_eq_getD_getElem?, Array.getElem?_setIfInBounds_ne hne]
      rw [this]
      exact (r.regs t y hy).tr hs (hk t y hy)
  stp := r.stp.trans hs
  fix := fun k o hm => (r.fix k o hm).trans (hfix k o hm)
  fr := r.fr.trans hfr

/-- A value that needs no memory. -/
theorem Rl.put_same {a : Act} {w : World} {own : Nat → Value} {d : Nat} {x : AV} {v : Value} (r : Rl P cx n s a w own) (hd : d < n)
    (hx : RepA w (Mu cx.M0 own s.objs) own (hwOf s.objs) x v) : Rl P cx n (s.put d x) (a.put (some d) v) w own :=
  r.put hd (Stp.refl _ _) r.ok (fun _ _ _ _ _ => .same) (fun _ _ _ => .same) (Fr.refl _ _ _) hx

/-- A step that reads, or only computes. -/
theorem awl_val {ops : Array Oper} {o : Oper} {rest : List Oper} {d : Nat} (x : AV) (hg : o.guard = none) (hdst : o.dst = some d) (hd : d < n)
    (h : ∀ a w own, Rl P cx n s a w own → ∃ v, (execOp a.eval o).run P w = .ok (.value v) w ∧ RepA w (Mu cx.M0 own s.objs) own (hwOf s.objs) x v)
    (k : AWl P cx n ops rest Q (s.put d x)) : AWl P cx n ops (o :: rest) Q s :=
  awl_op hg (fun a w own r => by
    obtain ⟨v, hv, hx⟩ := h a w own r
    exact ⟨v, w, .inl hv, own, by rw [hdst]; exact r.put_same hd hx⟩) k
end
end Go.Ab
