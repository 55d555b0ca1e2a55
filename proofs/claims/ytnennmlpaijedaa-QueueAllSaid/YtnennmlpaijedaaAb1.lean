/- Abstract values and objects beside the machine's memory: what a cell stands for, which cells may still be written, and that what stands there lives on. -/
import Derived.Below
import Derived.Maps.AppendAt
import Derived.OwnWalk
import Derived.Laws.MakeOwn
import Derived.Laws.OwnMore
import Derived.Deep.Draws
import Derived.Deep.MidRow
import Derived.Tactics
import Derived.WalkKit
import Derived.KernelRfl
set_option linter.unusedVariables false
set_option linter.unusedSimpArgs false
namespace Go.Ab
open Go Go.RowKit

/-- A value of one cell that nobody writes any more. -/
inductive PV where
  | v (x : Value)
  | sl (sz : Nat) (xs : List (List PV))
  | ip (cs : List PV)
  | fn (f : Fn) (first caps : List PV)
  | fs (lo T : Nat) (x : PV)
  deriving Inhabited

abbrev I (n : Int) : PV := .v (.int .i64 n)
abbrev B (b : Bool) : PV := .v (.bool b)
abbrev St (s : ByteArray) : PV := .v (.string s)
abbrev U8 (n : Int) : PV := .v (.int .u8 n)
abbrev nilS : PV := .v (.slice none 0 0)

/-- A slice that is nil or begins a row of cells of type T that was made behind lo. -/
def FrS (w : World) (lo T : Nat) (v : Value) : Prop :=
  v = .slice none 0 0 ∨ ∃ b len cap cs, v = .slice (some ⟨b, 0, none⟩) len cap ∧ lo ≤ b ∧ w.heap[b]? = some (.cells cs T (0, 0))

/-- w: the world; M: the places that may still be written. -/
inductive Rep (w : World) (M : Nat → Nat → Prop) : PV → Value → Prop
  | v {x : Value} (h : x.oneCell' = true) : Rep w M (.v x) x
  | nil {sz : Nat} : Rep w M (.sl sz []) (.slice none 0 0)
  | sl {sz : Nat} {xs : List (List PV)} (a : Addr) (cap : Nat) (f : Nat → Nat → Value)
      (hcap : xs.length ≤ cap) (hmax : cap ≤ 9223372036854775807)
      (hrow : ∀ (i : Nat) (row : List PV), xs[i]? = some row → row.length = sz)
      (hcell : ∀ (i : Nat) (row : List PV) (j : Nat) (x : PV), xs[i]? = some row → row[j]? = some x → w.cell? (a.add (i * sz + j)) = some (f i j))
      (hM : ∀ (i : Nat) (row : List PV) (j : Nat) (x : PV), xs[i]? = some row → row[j]? = some x → ¬ M a.block (a.off + (i * sz + j)))
      (hx : ∀ (i : Nat) (row : List PV) (j : Nat) (x : PV), xs[i]? = some row → row[j]? = some x → Rep w M x (f i j)) :
      Rep w M (.sl sz xs) (.slice (some a) xs.length cap)
  | ip {cs : List PV} (a : Addr) (f : Nat → Value)
      (hcell : ∀ (j : Nat) (x : PV), cs[j]? = some x → w.cell? (a.add j) = some (f j))
      (hM : ∀ (j : Nat) (x : PV), cs[j]? = some x → ¬ M a.block (a.off + j))
      (hx : ∀ (j : Nat) (x : PV), cs[j]? = some x → Rep w M x (f j)) :
      Rep w M (.ip cs) (.pointer (some a))
  | fn {f : Fn} {first caps : List PV} (vf vc : List Value) (hf : vf.length = first.length) (hc : vc.length = caps.length)
      (hxf : ∀ (j : Nat) (x : PV), first[j]? = some x → Rep w M x (vf.getD j undef))
      (hxc : ∀ (j : Nat) (x : PV), caps[j]? = some x → Rep w M x (vc.getD j undef)) :
      Rep w M (.fn f first caps) (.func f vf.toArray vc.toArray)
  | fs {lo T : Nat} {x : PV} {v : Value} (h : Rep w M x v) (hq : FrS w lo T v) : Rep w M (.fs lo T x) v

theorem Rep.one {w : World} {M : Nat → Nat → Prop} {x : PV} {v : Value} (h : Rep w M x v) : v.oneCell' = true := by
  induction h <;> first | assumption | rfl

/-- From (w, M) on to (w', M'): what nobody might write stands; what may be written is what might be, or new. -/
structure Stp (w : World) (M : Nat → Nat → Prop) (w' : World) (M' : Nat → Nat → Prop) : Prop where
  os : w'.os = w.os
  tape : w'.tape = w.tape
  output : w'.output = w.output
  size : w.heap.size ≤ w'.heap.size
  cell : ∀ b i v, ¬ M b i → w.cell? ⟨b, i, none⟩ = some v → w'.cell? ⟨b, i, none⟩ = some v
  mu : ∀ b i, M' b i → M b i ∨ w.heap.size ≤ b
  shape : ∀ (b : Nat) (cs : Array Value) (T : Nat), w.heap[b]? = some (Obj.cells cs T (0, 0)) → ∃ cs' : Array Value, w'.heap[b]? = some (Obj.cells cs' T (0, 0))

theorem Stp.refl (w : World) (M : Nat → Nat → Prop) : Stp w M w M := ⟨rfl, rfl, rfl, Nat.le_refl _, fun _ _ _ _ h => h, fun _ _ h => .inl h, fun _ cs _ h => ⟨cs, h⟩⟩

theorem Stp.trans {w w1 w2 : World} {M M1 M2 : Nat → Nat → Prop} (h : Stp w M w1 M1) (k : Stp w1 M1 w2 M2) : Stp w M w2 M2 where
  os := k.os.trans h.os
  tape := k.tape.trans h.tape
  output := k.output.trans h.output
  size := Nat.le_trans h.size k.size
  cell b i v hm hc := by
    refine k.cell b i v (fun hm1 => ?_) (h.cell b i v hm hc)
    rcases h.mu b i hm1 with hx | hx
    · exact hm hx
    · have := World.block_lt_of_cell? w _ hc; simp at this; omega
  mu b i hm := by
    rcases k.mu b i hm with hx | hx
    · exact h.mu b i hx
    · exact .inr (Nat.le_trans h.size hx)
  shape b cs T hb := by
    obtain ⟨cs', h'⟩ := h.shape b cs T hb
    exact k.shape b cs' T h'

theorem Stp.less {w w1 : World} {M M1 M2 : Nat → Nat → Prop} (h : Stp w M w1 M1) (k : ∀ b i, M2 b i → M1 b i) : Stp w M w1 M2 :=
  ⟨h.os, h.tape, h.output, h.size, h.cell, fun b i hm => h.mu b i (k b i hm), h.shape⟩

theorem Stp.of_more {w w1 : World} {M0 M M1 : Nat → Nat → Prop} (h : Stp w M0 w1 M1) (k : ∀ b i, M0 b i → M b i) : Stp w M w1 M1 :=
  ⟨h.os, h.tape, h.output, h.size, fun b i v hm hc => h.cell b i v (fun h0 => hm (k b i h0)) hc, fun b i hm => (h.mu b i hm).imp (k b i) id, h.shape⟩

theorem cell_spot {w : World} {a : Addr} {v : Value} (h : w.cell? a = some v) : a = ⟨a.block, a.off, none⟩ := by
  obtain ⟨b, o, s⟩ := a
  cases s with
  | none => rfl
  | some q =>
    unfold World.cell? at h
    split at h <;> simp at h

theorem add_eq (a : Addr) (n : Nat) : (a.add n).block = a.block ∧ (a.add n).off = a.off + n := by
  unfold Addr.add
  split
  · subst_vars; simp
  · simp

theorem Stp.at {w w' : World} {M M' : Nat → Nat → Prop} (h : Stp w M w' M') {a : Addr} {v : Value} (hc : w.cell? a = some v) (hm : ¬ M a.block a.off) : w'.cell? a = some v ∧ ¬ M' a.block a.off := by
  have e := cell_spot hc
  refine ⟨?_, fun hm' => ?_⟩
  · rw [e]; rw [e] at hc; exact h.cell _ _ _ hm hc
  · rcases h.mu _ _ hm' with hx | hx
    · exact hm hx
    · have := World.block_lt_of_cell? w _ hc; omega

theorem Rep.stp {w w' : World} {M M' : Nat → Nat → Prop} (h : Stp w M w' M') {x : PV} {v : Value} (r : Rep w M x v) : Rep w' M' x v := by
  induction r with
  | v h1 => exact .v h1
  | nil => exact .nil
  | sl a cap f hcap hmax hrow hcell hM hx ih =>
    have key : ∀ (i : Nat) (row : List PV) (j : Nat) (x : PV), _ → _ → _ := fun i row j x h1 h2 => h.at (hcell i row j x h1 h2) (by rw [(add_eq _ _).1, (add_eq _ _).2]; exact hM i row j x h1 h2)
    refine .sl a cap f hcap hmax hrow (fun i row j x h1 h2 => (key i row j x h1 h2).1) (fun i row j x h1 h2 => ?_) ih
    have := (key i row j x h1 h2).2
    rwa [(add_eq _ _).1, (add_eq _ _).2] at this
  | ip a f hcell hM hx ih =>
    have key : ∀ (j : Nat) (x : PV), _ → _ := fun j x h1 => h.at (hcell j x h1) (by rw [(add_eq _ _).1, (add_eq _ _).2]; exact hM j x h1)
    refine .ip a f (fun j x h1 => (key j x h1).1) (fun j x h1 => ?_) ih
    have := (key j x h1).2
    rwa [(add_eq _ _).1, (add_eq _ _).2] at this
  | fn vf vc hf hc hxf hxc ihf ihc => exact .fn vf vc hf hc ihf ihc
  | fs h1 hq ih =>
    refine .fs ih ?_
    rcases hq with hq | ⟨b, len, cap, cs, e, hlo, hb⟩
    · exact .inl hq
    · obtain ⟨cs', hb'⟩ := h.shape b cs _ hb
      exact .inr ⟨b, len, cap, cs', e, hlo, hb'⟩

/-- A register's value. tm: the slice that is the object k, at this version; pe: a place in it; ifc: an interface that holds x. ptr: into an object that may be written; ts: a slice of one's own, to which may be appended; any: nothing is known. -/
inductive AV where
  | p (x : PV)
  | ag (cs : List AV)
  | ptr (k off : Nat)
  | ts (k sz : Nat) (xs : List (List PV))
  | tp (vs : List AV)
  | fv (f : Fn) (first caps : List AV)
  | any
  | tm (k ver : Nat)
  | pe (k ver off : Nat)
  | ifc (T : Nat) (x : AV)
  deriving Inhabited

/-- Objects: a row of cells; the array of a slice of one's own, of which n elements are laid; a slice whose elements may be written. -/
inductive Ob where
  | ce (T : Nat) (cs : List AV)
  | ar (T sz n : Nat)
  | mu (T sz ver : Nat) (xs : List (List PV))

abbrev Obs := List (Nat × Ob)

def get {α : Type} : List (Nat × α) → Nat → Option α
  | [], _ => none
  | (k, x) :: r, t => bif Nat.beq k t then some x else get r t

def hwOf (objs : Obs) (k : Nat) : Option Nat :=
  match get objs k with
  | some (.ar _ _ n) => some n
  | some (.mu _ _ n _) => some n
  | _ => none

inductive RepA (w : World) (M : Nat → Nat → Prop) (own : Nat → Value) (hw : Nat → Option Nat) : AV → Value → Prop
  | p {x : PV} {v : Value} (h : Rep w M x v) : RepA w M own hw (.p x) v
  | ag {cs : List AV} (vs : List Value) (hl : vs.length = cs.length) (h1 : ∀ v ∈ vs, v.oneCell' = true)
      (h : ∀ (j : Nat) (x : AV), cs[j]? = some x → RepA w M own hw x (vs.getD j undef)) : RepA w M own hw (.ag cs) (.agg vs.toArray)
  | ptr {k off b : Nat} (h : own k = .pointer (some ⟨b, 0, none⟩)) : RepA w M own hw (.ptr k off) (.pointer (some ⟨b, off, none⟩))
  | ts {k sz : Nat} {xs : List (List PV)} {v : Value} (h : Rep w M (.sl sz xs) v) (ho : ∀ n, hw k = some n → xs.length ≤ n ∧ (xs.length = n → v = own k)) : RepA w M own hw (.ts k sz xs) v
  | tp {xs : List AV} (vs : List Value) (hl : vs.length = xs.length)
      (h : ∀ (j : Nat) (x : AV), xs[j]? = some x → RepA w M own hw x (vs.getD j undef)) : RepA w M own hw (.tp xs) (.tuple vs.toArray)
  | fv {f : Fn} {first caps : List AV} (vf vc : List Value) (hf : vf.length = first.length) (hc : vc.length = caps.length)
      (hxf : ∀ (j : Nat) (x : AV), first[j]? = some x → RepA w M own hw x (vf.getD j undef))
      (hxc : ∀ (j : Nat) (x : AV), caps[j]? = some x → RepA w M own hw x (vc.getD j undef)) : RepA w M own hw (.fv f first caps) (.func f vf.toArray vc.toArray)
  | any {v : Value} : RepA w M own hw .any v
  | tm {k ver : Nat} {v : Value} (h1 : v.oneCell' = true) (ho : ∀ n, hw k = some n → ver ≤ n ∧ (ver = n → v = own k)) : RepA w M own hw (.tm k ver) v
  | pe {k ver off : Nat} {v : Value} (h1 : v.oneCell' = true) (ho : ∀ n, hw k = some n → ver ≤ n ∧ (ver = n → ∃ b len cap, own k = .slice (some ⟨b, 0, none⟩) len cap ∧ v = .pointer (some ⟨b, off, none⟩))) : RepA w M own hw (.pe k ver off) v
  | ifc {T : Nat} {x : AV} {v : Value} (h : RepA w M own hw x v) : RepA w M own hw (.ifc T x) (.iface T v)

/-- A value of one cell that is known. -/
def AV.cell : AV → Bool
  | .p _ | .ptr _ _ | .ts _ _ _ | .fv _ _ _ | .tm _ _ | .pe _ _ _ | .ifc _ _ => true
  | _ => false

theorem RepA.one {w : World} {M : Nat → Nat → Prop} {own : Nat → Value} {hw : Nat → Option Nat} {x : AV} {v : Value} (h : RepA w M own hw x v) (hc : x.cell = true) : v.oneCell' = true := by
  cases h with
  | p h => exact h.one
  | ag => simp [AV.cell] at hc
  | ptr => rfl
  | ts h => exact h.one
  | tp => simp [AV.cell] at hc
  | fv => rfl
  | any => simp [AV.cell] at hc
  | tm h1 => exact h1
  | pe h1 => exact h1
  | ifc => rfl

/-- Does it name the object k? -/
inductive Has (k : Nat) : AV → Prop
  | ptr (off : Nat) : Has k (.ptr k off)
  | ts (sz : Nat) (xs : List (List PV)) : Has k (.ts k sz xs)
  | ag {cs : List AV} {x : AV} (h : x ∈ cs) (hx : Has k x) : Has k (.ag cs)
  | tp {cs : List AV} {x : AV} (h : x ∈ cs) (hx : Has k x) : Has k (.tp cs)
  | fv1 {f : Fn} {first caps : List AV} {x : AV} (h : x ∈ first) (hx : Has k x) : Has k (.fv f first caps)
  | fv2 {f : Fn} {first caps : List AV} {x : AV} (h : x ∈ caps) (hx : Has k x) : Has k (.fv f first caps)
  | tm (ver : Nat) : Has k (.tm k ver)
  | pe (ver off : Nat) : Has k (.pe k ver off)
  | ifc {T : Nat} {x : AV} (hx : Has k x) : Has k (.ifc T x)

mutual
def AV.no (k : Nat) : AV → Bool
  | .p _ => true
  | .any => true
  | .ptr j _ => !Nat.beq j k
  | .ts j _ _ => !Nat.beq j k
  | .ag cs => AV.noL k cs
  | .tp cs => AV.noL k cs
  | .fv _ a b => AV.noL k a && AV.noL k b
  | .tm j _ => !Nat.beq j k
  | .pe j _ _ => !Nat.beq j k
  | .ifc _ x => x.no k
def AV.noL (k : Nat) : List AV → Bool
  | [] => true
  | x :: r => x.no k && AV.noL k r
end

theorem AV.noL_mem {k : Nat} : ∀ {l : List AV}, AV.noL k l = true → ∀ x ∈ l, x.no k = true
  | [], _, x, hx => by cases hx
  | y :: r, h, x, hx => by
    simp only [AV.noL, Bool.and_eq_true] at h
    rcases List.mem_cons.1 hx with rfl | hx
    · exact h.1
    · exact AV.noL_mem h.2 x hx

theorem AV.no_has {k : Nat} {x : AV} (h : Has k x) : x.no k = true → False := by
  induction h with
  | ptr off => intro hn; simp [AV.no] at hn
  | ts sz xs => intro hn; simp [AV.no] at hn
  | ag hm _ ih => intro hn; simp only [AV.no] at hn; exact ih (AV.noL_mem hn _ hm)
  | tp hm _ ih => intro hn; simp only [AV.no] at hn; exact ih (AV.noL_mem hn _ hm)
  | fv1 hm _ ih => intro hn; simp only [AV.no, Bool.and_eq_true] at hn; exact ih (AV.noL_mem hn.1 _ hm)
  | fv2 hm _ ih => intro hn; simp only [AV.no, Bool.and_eq_true] at hn; exact ih (AV.noL_mem hn.2 _ hm)
  | tm ver => intro hn; simp [AV.no] at hn
  | pe ver off => intro hn; simp [AV.no] at hn
  | ifc _ ih => intro hn; exact ih hn

/-- What is asked of the object k, for a value that names it to live on. -/
def Kr (own own' : Nat → Value) (hw hw' : Nat → Option Nat) (k : Nat) : Prop :=
  (own' k = own k ∧ hw' k = hw k) ∨ (hw' k = none ∧ (own' k = own k ∨ ∀ a, own k ≠ .pointer a)) ∨ (∃ n n', hw k = some n ∧ hw' k = some n' ∧ n < n' ∧ ∀ a, own k ≠ .pointer a)

theorem Kr.same {own : Nat → Value} {hw : Nat → Option Nat} {k : Nat} : Kr own own hw hw k := .inl ⟨rfl, rfl⟩

theorem Kr.trans {o1 o2 o3 : Nat → Value} {h1 h2 h3 : Nat → Option Nat} {k : Nat} (a : Kr o1 o2 h1 h2 k) (b : Kr o2 o3 h2 h3 k) : Kr o1 o3 h1 h3 k := by
  rcases a with ⟨a1, a2⟩ | ⟨a1, a2⟩ | ⟨n, n', a1, a2, a3, a4⟩
  · rcases b with ⟨b1, b2⟩ | ⟨b1, b2⟩ | ⟨m, m', b1, b2, b3, b4⟩
    · exact .inl ⟨b1.trans a1, b2.trans a2⟩
    · refine .inr (.inl ⟨b1, ?_⟩)
      rcases b2 with b2 | b2
      · exact .inl (b2.trans a1)
      · exact .inr fun q => a1 ▸ b2 q
    · exact .inr (.inr ⟨m, m', a2 ▸ b1, b2, b3, fun q => a1 ▸ b4 q⟩)
  · rcases b with ⟨b1, b2⟩ | ⟨b1, b2⟩ | ⟨m, m', b1, b2, b3, b4⟩
    · refine .inr (.inl ⟨b2.trans a1, ?_⟩)
      rcases a2 with a2 | a2
      · exact .inl (b1.trans a2)
      · exact .inr a2
    · refine .inr (.inl ⟨b1, ?_⟩)
      rcases a2 with a2 | a2
      · rcases b2 with b2 | b2
        · exact .inl (b2.trans a2)
        · exact .inr fun q => a2 ▸ b2 q
      · exact .inr a2
    · rw [a1] at b1; cases b1
  · rcases b with ⟨b1, b2⟩ | ⟨b1, b2⟩ | ⟨m, m', b1, b2, b3, b4⟩
    · exact .inr (.inr ⟨n, n', a1, b2.trans a2, a3, a4⟩)
    · exact .inr (.inl ⟨b1, .inr a4⟩)
    · rw [a2] at b1
      cases b1
      exact .inr (.inr ⟨n, m', a1, b2, by omega, a4⟩)

theorem RepA.tr {w w' : World} {M M' : Nat → Nat → Prop} {own own' : Nat → Value} {hw hw' : Nat → Option Nat} (hs : Stp w M w' M') {x : AV} {v : Value} (h : RepA w M own hw x v) :
    (∀ k, Has k x → Kr own own' hw hw' k) → RepA w' M' own' hw' x v := by
  induction h with
  | p h => exact fun _ => .p (h.stp hs)
  | ag vs hl h1 _ ih =>
    intro hk
    refine .ag vs hl h1 fun j x hj => ih j x hj fun k hh => hk k (.ag (List.mem_of_getElem? hj) hh)
  | ptr ho =>
    intro hk
    rcases hk _ (.ptr _) with ⟨h1, _⟩ | ⟨_, h1 | h2⟩ | ⟨_, _, _, _, _, h2⟩
    · exact .ptr (by rw [h1, ho])
    · exact .ptr (by rw [h1, ho])
    · exact absurd ho (h2 _)
    · exact absurd ho (h2 _)
  | ts h ho =>
    intro hk
    refine .ts (h.stp hs) fun n hn => ?_
    rcases hk _ (.ts _ _) with ⟨h1, h2⟩ | ⟨h2, _⟩ | ⟨m, m', h1, h2, h3, _⟩
    · rw [h2] at hn; rw [h1]; exact ho n hn
    · rw [h2] at hn; cases hn
    · rw [h2] at hn
      cases hn
      have := (ho m h1).1
      exact ⟨by omega, fun e => by omega⟩
  | tp vs hl _ ih =>
    intro hk
    refine .tp vs hl fun j x hj => ih j x hj fun k hh => hk k (.tp (List.mem_of_getElem? hj) hh)
  | fv vf vc hf hc _ _ ih1 ih2 =>
    intro hk
    exact .fv vf vc hf hc (fun j x hj => ih1 j x hj fun k hh => hk k (.fv1 (List.mem_of_getElem? hj) hh)) (fun j x hj => ih2 j x hj fun k hh => hk k (.fv2 (List.mem_of_getElem? hj) hh))
  | any => exact fun _ => .any
  | tm h1 ho =>
    intro hk
    refine .tm h1 fun n hn => ?_
    rcases hk _ (.tm _) with ⟨q1, q2⟩ | ⟨q2, _⟩ | ⟨m, m', q1, q2, q3, _⟩
    · rw [q2] at hn; rw [q1]; exact ho n hn
    · rw [q2] at hn; cases hn
    · rw [q2] at hn
      cases hn
      have := (ho m q1).1
      exact ⟨by omega, fun e => by omega⟩
  | pe h1 ho =>
    intro hk
    refine .pe h1 fun n hn => ?_
    rcases hk _ (.pe _ _) with ⟨q1, q2⟩ | ⟨q2, _⟩ | ⟨m, m', q1, q2, q3, _⟩
    · rw [q2] at hn; rw [q1]; exact ho n hn
    · rw [q2] at hn; cases hn
    · rw [q2] at hn
      cases hn
      have := (ho m q1).1
      exact ⟨by omega, fun e => by omega⟩
  | ifc _ ih => intro hk; exact .ifc (ih fun k hh => hk k (.ifc hh))

theorem RepA.tr_same {w w' : World} {M M' : Nat → Nat → Prop} {own : Nat → Value} {hw : Nat → Option Nat} (hs : Stp w M w' M') {x : AV} {v : Value} (h : RepA w M own hw x v) : RepA w' M' own hw x v :=
  h.tr hs fun _ _ => .same

end Go.Ab
