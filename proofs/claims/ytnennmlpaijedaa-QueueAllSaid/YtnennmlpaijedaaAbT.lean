/- Levels and terms as plain data, and the cells that stand for them. -/
import Derived.Test.YtnennmlpaijedaaAb12
set_option linter.unusedVariables false
set_option linter.unusedSectionVars false
namespace Go.Ab
open Go Go.RowKit

structure Lvl where
  kind : Int
  n : Int
  args : List Lvl
  deriving Inhabited

structure Trm where
  kind : Int
  n : Int
  name : ByteArray
  levels : List Lvl
  args : List Trm
  deriving Inhabited

mutual
def encL : Lvl → List PV
  | ⟨k, n, as⟩ => [I k, I n, .sl 3 (encLs as)]
def encLs : List Lvl → List (List PV)
  | [] => []
  | a :: r => encL a :: encLs r
end
mutual
def encT : Trm → List PV
  | ⟨k, n, s, ls, as⟩ => [I k, I n, St s, .sl 3 (encLs ls), .sl 5 (encTs as)]
def encTs : List Trm → List (List PV)
  | [] => []
  | a :: r => encT a :: encTs r
end

/-- The cells of a level, written out. -/
def rowL (a : Lvl) : List PV := [I a.kind, I a.n, .sl 3 (encLs a.args)]
def rowT (a : Trm) : List PV := [I a.kind, I a.n, St a.name, .sl 3 (encLs a.levels), .sl 5 (encTs a.args)]
theorem encL_eq (a : Lvl) : encL a = rowL a := by cases a; rfl
theorem encT_eq (a : Trm) : encT a = rowT a := by cases a; rfl
def lv (a : Lvl) : AV := .ag [.p (I a.kind), .p (I a.n), .p (.sl 3 (encLs a.args))]
def tv (a : Trm) : AV := .ag [.p (I a.kind), .p (I a.n), .p (St a.name), .p (.sl 3 (encLs a.levels)), .p (.sl 5 (encTs a.args))]

theorem encLs_eq : ∀ l : List Lvl, encLs l = l.map rowL
  | [] => rfl
  | a :: r => by simp [encLs, encL_eq, encLs_eq r]
theorem encTs_eq : ∀ l : List Trm, encTs l = l.map rowT
  | [] => rfl
  | a :: r => by simp [encTs, encT_eq, encTs_eq r]
@[simp] theorem encLs_len (l : List Lvl) : (encLs l).length = l.length := by simp [encLs_eq]
@[simp] theorem encTs_len (l : List Trm) : (encTs l).length = l.length := by simp [encTs_eq]

/-- The element that a loop has come to. -/
theorem rowL_at {l r : List Lvl} {a : Lvl} {i : Nat} (h : l.drop i = a :: r) : rowAt (encLs l) (i : Int) = rowL a := by
  have h1 : l[i]? = some a := by have := congrArg (·[0]?) h; simpa using this
  unfold rowAt
  simp [List.getD_eq_getElem?_getD, encLs_eq, h1]
theorem rowT_at {l r : List Trm} {a : Trm} {i : Nat} (h : l.drop i = a :: r) : rowAt (encTs l) (i : Int) = rowT a := by
  have h1 : l[i]? = some a := by have := congrArg (·[0]?) h; simpa using this
  unfold rowAt
  simp [List.getD_eq_getElem?_getD, encTs_eq, h1]
theorem drop_lt {α : Type} {l r : List α} {a : α} {i : Nat} (h : l.drop i = a :: r) : i < l.length := by
  rcases Nat.lt_or_ge i l.length with h1 | h1
  · exact h1
  · rw [List.drop_eq_nil_of_le h1] at h; cases h
theorem drop_next {α : Type} {l r : List α} {a : α} {i : Nat} (h : l.drop i = a :: r) : l.drop (i + 1) = r := by
  have : l.drop (i + 1) = (l.drop i).drop 1 := by rw [List.drop_drop]
  rw [this, h]; rfl
theorem drop_nil {α : Type} {l : List α} {i : Nat} (h : l.drop i = []) : l.length ≤ i := by
  rcases Nat.lt_or_ge i l.length with h1 | h1
  · rw [List.drop_eq_getElem_cons h1] at h; cases h
  · exact h1
theorem drop_mem {α : Type} {l r : List α} {a : α} {i : Nat} (h : l.drop i = a :: r) : a ∈ l := List.mem_of_mem_drop (h ▸ List.mem_cons_self ..)

theorem drop_ne {α : Type} {l r : List α} {i : Nat} (h : l.drop i = r) (hi : i < l.length) : ∃ a r', r = a :: r' := by
  cases r with
  | nil => exact absurd (drop_nil h) (by omega)
  | cons a r' => exact ⟨a, r', rfl⟩
theorem I_eq {a b : Int} (h : a = b) : AV.p (I a) = AV.p (I b) := by rw [h]
theorem B_eq {a b : Bool} (h : a = b) : AV.p (B a) = AV.p (B b) := by rw [h]
theorem O_eq {k T : Nat} {a b : Int} (h : a = b) : ([(k, Ob.ce T [.p (I a)])] : Obs) = [(k, Ob.ce T [.p (I b)])] := by rw [h]
theorem drop_end {α : Type} {l r : List α} {i : Nat} (h : l.drop i = r) (hi : l.length ≤ i) : r = [] := by rw [← h]; exact List.drop_eq_nil_of_le hi
theorem Lvl.lt {a t : Lvl} (h : a ∈ t.args) : SizeOf.sizeOf a < SizeOf.sizeOf t := by
  cases t; have := List.sizeOf_lt_of_mem h; simp at this ⊢; omega
theorem Trm.lt {a t : Trm} (h : a ∈ t.args) : SizeOf.sizeOf a < SizeOf.sizeOf t := by
  cases t; have := List.sizeOf_lt_of_mem h; simp at this ⊢; omega

/-- The loop rule, what stands still apart from what turns. -/
theorem x_loop {P : Program} {cx : Cx} {n : Nat} {Q : Exit → S → Prop} {s : S} {X : Type} (stat : List (Nat × AV)) (sobjs : Obs) (dyn : X → List (Nat × AV)) (dobjs : X → Obs) (inv : X → Prop) (μ : X → Nat) (x0 : X) {c : Code}
    (h0 : Le P cx n s ⟨dyn x0 ++ stat, dobjs x0 ++ sobjs⟩) (hi : inv x0)
    (round : ∀ x, inv x → AWp P cx n c (thn (fun s' => ∃ x', inv x' ∧ μ x' < μ x ∧ Le P cx n s' ⟨dyn x' ++ stat, dobjs x' ++ sobjs⟩) Q) ⟨dyn x ++ stat, dobjs x ++ sobjs⟩) : AWp P cx n (.loop c) Q s :=
  awp_loop (fun x => ⟨dyn x ++ stat, dobjs x ++ sobjs⟩) inv μ x0 h0 hi round
end Go.Ab
