/-
  NARROWER THAN 'FOR EVERY INPUT', by the rows' own cells (each row's printed sentence says how): MeterAll: loops · LevelMay: loops · LevelEval: loops · LevelLeq: loops · LevelPut: loops.
  DERIVED. THE GIVEN ROWS OF THIS SEAT. 10 by the template 'for every input the law returns true; each argument reads behind the call as it read before'; 0 by the template 'total and deterministic' (their statements: YtfgndomaadikoaaTotals.lean).
  GIVEN WITH THE SEED: the statements are not yours to turn. If you find one false, say at which input.
  Laid BY PROGRAM, IN A SANDBOX (cutbox-rows.mjs): the forced cells as the released guide's own fill.sh prints them over the translation 987ab8f9cf2cc031… (all of the seat's roots in one cut). By AI agents, Wed Nov 11 2026. No macro, syntax, notation, axiom, sorry.
-/
import Derived.Test.YtfgndomaadikoaaChecked
import GoSem.Claim
import GoSem.ClaimJoined
import GoSem.ClaimMapViews
import Derived.JoinedTies
import Derived.KernelRfl
namespace Go.Proofs.Ytfgndomaadikoaa
/- THE CELL 'sum', in the pinned program and in every row, IS THE sha256 OF THE DUMP (.gsa) THAT YtfgndomaadikoaaProg.lean LOADS. Nothing in Lean hashes anything: it is a label: what it is worth is what the hold of that sum in a sandbox is worth. -/
noncomputable def Try.pinned : Pinned := { name := "ytfgndomaadikoaa", sum := "987ab8f9cf2cc031fb4bb140b0ad84fc03a77f8f2a781def43779c66d31ae3b5", checked := Try.checked }
namespace Rows
def none {H : Type} : Left H := { results := [], args := [] }

/-- 'touchstonelaw9.MeterAll': WHATEVER THE INPUT: true; the input reads as it did. -/
def meterAllSpec : ChangeSpec := { name := "meterAll", fn := fun _ => fun
  | [d1, d2, d3, d4, d5] => { results := [.lit (.bool true)], args := [d1, d2, d3, d4, d5] }
  | _ => none }
def meterAllRow : OpenClaim := { program := "ytfgndomaadikoaa", sum := "987ab8f9cf2cc031fb4bb140b0ad84fc03a77f8f2a781def43779c66d31ae3b5", func := "touchstone/touchstonelaw9.MeterAll", spec := "meterAll", recurses := true, loops := true, apart := false }
def MeterAllSaid : Prop := meterAllRow.holds Try.pinned (OpenSpec.ofChange meterAllSpec)

/-- ITS FALSE NEIGHBOUR: 'it returns false'. Refute it at one input. -/
def meterAllWrong : ChangeSpec := { name := "meterAll", fn := fun _ => fun
  | [d1, d2, d3, d4, d5] => { results := [.lit (.bool false)], args := [d1, d2, d3, d4, d5] }
  | _ => none }
def MeterAllWrongFalsely : Prop := meterAllRow.holds Try.pinned (OpenSpec.ofChange meterAllWrong)

/-- 'touchstonelaw9.MeterRuns': WHATEVER THE INPUT: true; the input reads as it did. -/
def meterRunsSpec : ChangeSpec := { name := "meterRuns", fn := fun _ => fun
  | [d1, d2] => { results := [.lit (.bool true)], args := [d1, d2] }
  | _ => none }
def meterRunsRow : OpenClaim := { program := "ytfgndomaadikoaa", sum := "987ab8f9cf2cc031fb4bb140b0ad84fc03a77f8f2a781def43779c66d31ae3b5", func := "touchstone/touchstonelaw9.MeterRuns", spec := "meterRuns", recurses := true, apart := false }
def MeterRunsSaid : Prop := meterRunsRow.holds Try.pinned (OpenSpec.ofChange meterRunsSpec)

/-- ITS FALSE NEIGHBOUR: 'it returns false'. Refute it at one input. -/
def meterRunsWrong : ChangeSpec := { name := "meterRuns", fn := fun _ => fun
  | [d1, d2] => { results := [.lit (.bool false)], args := [d1, d2] }
  | _ => none }
def MeterRunsWrongFalsely : Prop := meterRunsRow.holds Try.pinned (OpenSpec.ofChange meterRunsWrong)

/-- 'touchstonelaw4.LevelMay': WHATEVER THE INPUT: true; the input reads as it did. -/
def levelMaySpec : ChangeSpec := { name := "levelMay", fn := fun _ => fun
  | [d1, d2] => { results := [.lit (.bool true)], args := [d1, d2] }
  | _ => none }
def levelMayRow : OpenClaim := { program := "ytfgndomaadikoaa", sum := "987ab8f9cf2cc031fb4bb140b0ad84fc03a77f8f2a781def43779c66d31ae3b5", func := "touchstone/touchstonelaw4.LevelMay", spec := "levelMay", unfollowed := true, recurses := true, loops := true, apart := false }
def LevelMaySaid : Prop := levelMayRow.holds Try.pinned (OpenSpec.ofChange levelMaySpec)

/-- ITS FALSE NEIGHBOUR: 'it returns false'. Refute it at one input. -/
def levelMayWrong : ChangeSpec := { name := "levelMay", fn := fun _ => fun
  | [d1, d2] => { results := [.lit (.bool false)], args := [d1, d2] }
  | _ => none }
def LevelMayWrongFalsely : Prop := levelMayRow.holds Try.pinned (OpenSpec.ofChange levelMayWrong)

/-- 'touchstonelaw4.LevelEval': WHATEVER THE INPUT: true; the input reads as it did. -/
def levelEvalSpec : ChangeSpec := { name := "levelEval", fn := fun _ => fun
  | [d1, d2] => { results := [.lit (.bool true)], args := [d1, d2] }
  | _ => none }
def levelEvalRow : OpenClaim := { program := "ytfgndomaadikoaa", sum := "987ab8f9cf2cc031fb4bb140b0ad84fc03a77f8f2a781def43779c66d31ae3b5", func := "touchstone/touchstonelaw4.LevelEval", spec := "levelEval", unfollowed := true, recurses := true, loops := true, apart := false }
def LevelEvalSaid : Prop := levelEvalRow.holds Try.pinned (OpenSpec.ofChange levelEvalSpec)

/-- ITS FALSE NEIGHBOUR: 'it returns false'. Refute it at one input. -/
def levelEvalWrong : ChangeSpec := { name := "levelEval", fn := fun _ => fun
  | [d1, d2] => { results := [.lit (.bool false)], args := [d1, d2] }
  | _ => none }
def LevelEvalWrongFalsely : Prop := levelEvalRow.holds Try.pinned (OpenSpec.ofChange levelEvalWrong)

/-- 'touchstonelaw4.LevelLeq': WHATEVER THE INPUT: true; the input reads as it did. -/
def levelLeqSpec : ChangeSpec := { name := "levelLeq", fn := fun _ => fun
  | [d1, d2, d3, d4] => { results := [.lit (.bool true)], args := [d1, d2, d3, d4] }
  | _ => none }
def levelLeqRow : OpenClaim := { program := "ytfgndomaadikoaa", sum := "987ab8f9cf2cc031fb4bb140b0ad84fc03a77f8f2a781def43779c66d31ae3b5", func := "touchstone/touchstonelaw4.LevelLeq", spec := "levelLeq", unfollowed := true, recurses := true, loops := true, apart := false }
def LevelLeqSaid : Prop := levelLeqRow.holds Try.pinned (OpenSpec.ofChange levelLeqSpec)

/-- ITS FALSE NEIGHBOUR: 'it returns false'. Refute it at one input. -/
def levelLeqWrong : ChangeSpec := { name := "levelLeq", fn := fun _ => fun
  | [d1, d2, d3, d4] => { results := [.lit (.bool false)], args := [d1, d2, d3, d4] }
  | _ => none }
def LevelLeqWrongFalsely : Prop := levelLeqRow.holds Try.pinned (OpenSpec.ofChange levelLeqWrong)

/-- 'touchstonelaw4.LevelHolds': WHATEVER THE INPUT: true; the input reads as it did. -/
def levelHoldsSpec : ChangeSpec := { name := "levelHolds", fn := fun _ => fun
  | [d1, d2] => { results := [.lit (.bool true)], args := [d1, d2] }
  | _ => none }
def levelHoldsRow : OpenClaim := { program := "ytfgndomaadikoaa", sum := "987ab8f9cf2cc031fb4bb140b0ad84fc03a77f8f2a781def43779c66d31ae3b5", func := "touchstone/touchstonelaw4.LevelHolds", spec := "levelHolds", unfollowed := true, recurses := true, apart := false }
def LevelHoldsSaid : Prop := levelHoldsRow.holds Try.pinned (OpenSpec.ofChange levelHoldsSpec)

/-- ITS FALSE NEIGHBOUR: 'it returns false'. Refute it at one input. -/
def levelHoldsWrong : ChangeSpec := { name := "levelHolds", fn := fun _ => fun
  | [d1, d2] => { results := [.lit (.bool false)], args := [d1, d2] }
  | _ => none }
def LevelHoldsWrongFalsely : Prop := levelHoldsRow.holds Try.pinned (OpenSpec.ofChange levelHoldsWrong)

/-- 'touchstonelaw4.LevelOrder': WHATEVER THE INPUT: true; the input reads as it did. -/
def levelOrderSpec : ChangeSpec := { name := "levelOrder", fn := fun _ => fun
  | [d] => { results := [.lit (.bool true)], args := [d] }
  | _ => none }
def levelOrderRow : OpenClaim := { program := "ytfgndomaadikoaa", sum := "987ab8f9cf2cc031fb4bb140b0ad84fc03a77f8f2a781def43779c66d31ae3b5", func := "touchstone/touchstonelaw4.LevelOrder", spec := "levelOrder", unfollowed := true, recurses := true, apart := false }
def LevelOrderSaid : Prop := levelOrderRow.holds Try.pinned (OpenSpec.ofChange levelOrderSpec)

/-- ITS FALSE NEIGHBOUR: 'it returns false'. Refute it at one input. -/
def levelOrderWrong : ChangeSpec := { name := "levelOrder", fn := fun _ => fun
  | [d] => { results := [.lit (.bool false)], args := [d] }
  | _ => none }
def LevelOrderWrongFalsely : Prop := levelOrderRow.holds Try.pinned (OpenSpec.ofChange levelOrderWrong)

/-- 'touchstonelaw4.LevelPut': WHATEVER THE INPUT: true; the input reads as it did. -/
def levelPutSpec : ChangeSpec := { name := "levelPut", fn := fun _ => fun
  | [d1, d2] => { results := [.lit (.bool true)], args := [d1, d2] }
  | _ => none }
def levelPutRow : OpenClaim := { program := "ytfgndomaadikoaa", sum := "987ab8f9cf2cc031fb4bb140b0ad84fc03a77f8f2a781def43779c66d31ae3b5", func := "touchstone/touchstonelaw4.LevelPut", spec := "levelPut", unfollowed := true, recurses := true, loops := true, apart := false }
def LevelPutSaid : Prop := levelPutRow.holds Try.pinned (OpenSpec.ofChange levelPutSpec)

/-- ITS FALSE NEIGHBOUR: 'it returns false'. Refute it at one input. -/
def levelPutWrong : ChangeSpec := { name := "levelPut", fn := fun _ => fun
  | [d1, d2] => { results := [.lit (.bool false)], args := [d1, d2] }
  | _ => none }
def LevelPutWrongFalsely : Prop := levelPutRow.holds Try.pinned (OpenSpec.ofChange levelPutWrong)

/-- 'touchstonelaw4.LevelKeeps': WHATEVER THE INPUT: true; the input reads as it did. -/
def levelKeepsSpec : ChangeSpec := { name := "levelKeeps", fn := fun _ => fun
  | [d1, d2] => { results := [.lit (.bool true)], args := [d1, d2] }
  | _ => none }
def levelKeepsRow : OpenClaim := { program := "ytfgndomaadikoaa", sum := "987ab8f9cf2cc031fb4bb140b0ad84fc03a77f8f2a781def43779c66d31ae3b5", func := "touchstone/touchstonelaw4.LevelKeeps", spec := "levelKeeps", unfollowed := true, recurses := true, apart := false }
def LevelKeepsSaid : Prop := levelKeepsRow.holds Try.pinned (OpenSpec.ofChange levelKeepsSpec)

/-- ITS FALSE NEIGHBOUR: 'it returns false'. Refute it at one input. -/
def levelKeepsWrong : ChangeSpec := { name := "levelKeeps", fn := fun _ => fun
  | [d1, d2] => { results := [.lit (.bool false)], args := [d1, d2] }
  | _ => none }
def LevelKeepsWrongFalsely : Prop := levelKeepsRow.holds Try.pinned (OpenSpec.ofChange levelKeepsWrong)

/-- 'touchstonelaw4.LevelPlaces': WHATEVER THE INPUT: true; the input reads as it did. -/
def levelPlacesSpec : ChangeSpec := { name := "levelPlaces", fn := fun _ => fun
  | [d] => { results := [.lit (.bool true)], args := [d] }
  | _ => none }
def levelPlacesRow : OpenClaim := { program := "ytfgndomaadikoaa", sum := "987ab8f9cf2cc031fb4bb140b0ad84fc03a77f8f2a781def43779c66d31ae3b5", func := "touchstone/touchstonelaw4.LevelPlaces", spec := "levelPlaces", unfollowed := true, recurses := true, apart := false }
def LevelPlacesSaid : Prop := levelPlacesRow.holds Try.pinned (OpenSpec.ofChange levelPlacesSpec)

/-- ITS FALSE NEIGHBOUR: 'it returns false'. Refute it at one input. -/
def levelPlacesWrong : ChangeSpec := { name := "levelPlaces", fn := fun _ => fun
  | [d] => { results := [.lit (.bool false)], args := [d] }
  | _ => none }
def LevelPlacesWrongFalsely : Prop := levelPlacesRow.holds Try.pinned (OpenSpec.ofChange levelPlacesWrong)

/- THE SECOND FORM. 'bulk': how many values and letters a reading holds, each counted each time it is reached (what is shared counts as often as it is met; a slice's spare places count too). A statement '..UptoSaid' is the law's where the arguments, and the package variables that the reading takes, are together of bulk at most 1048576: NARROWER than '..Said'. Prove '..Said' where nothing that the law and all that it calls make is longer than what came in: it says more and counts as full. Else prove '..UptoSaid'. A law counts once. -/
mutual
def uptoBulk {H : Type} : DataW H → Nat
  | .lit (.string bytes) => bytes.length + 1
  | .lit _ => 1
  | .nil => 1
  | .ptr d => uptoBulk d + 1
  | .slice elems spare => uptoBulkAll elems + uptoBulkAll spare + 1
  | .agg parts => uptoBulkAll parts + 1
  | .iface _ d => uptoBulk d + 1
  | .map entries => uptoBulkEntries entries + 1
  | .held _ => 1
def uptoBulkAll {H : Type} : List (DataW H) → Nat
  | [] => 0
  | d :: r => uptoBulk d + uptoBulkAll r
def uptoBulkEntries {H : Type} : List (Lit × DataW H) → Nat
  | [] => 0
  | x :: r => uptoBulkEntry x + uptoBulkEntries r
def uptoBulkEntry {H : Type} : Lit × DataW H → Nat
  | (.string bytes, d) => bytes.length + uptoBulk d + 1
  | (_, d) => uptoBulk d + 1
 end
def uptoSmall : (H : Type) → List (DataW H) → Bool := fun _ ds => decide (uptoBulkAll ds ≤ 1048576)
def OpenSpec.upto (s : _root_.Go.ChangeSpec) : _root_.Go.OpenSpec := { _root_.Go.OpenSpec.ofChange s with cond := some uptoSmall }

/-- 'touchstonelaw9.MeterAll', WHERE WHAT IT READS IS OF BULK AT MOST 1048576: true; the input reads as it did. -/
def meterAllUptoRow : OpenClaim := { program := "ytfgndomaadikoaa", sum := "987ab8f9cf2cc031fb4bb140b0ad84fc03a77f8f2a781def43779c66d31ae3b5", func := "touchstone/touchstonelaw9.MeterAll", spec := "meterAll", recurses := true, loops := true, apart := false, narrowed := true }
def MeterAllUptoSaid : Prop := meterAllUptoRow.holds Try.pinned (OpenSpec.upto meterAllSpec)

/-- 'touchstonelaw9.MeterRuns', WHERE WHAT IT READS IS OF BULK AT MOST 1048576: true; the input reads as it did. -/
def meterRunsUptoRow : OpenClaim := { program := "ytfgndomaadikoaa", sum := "987ab8f9cf2cc031fb4bb140b0ad84fc03a77f8f2a781def43779c66d31ae3b5", func := "touchstone/touchstonelaw9.MeterRuns", spec := "meterRuns", recurses := true, apart := false, narrowed := true }
def MeterRunsUptoSaid : Prop := meterRunsUptoRow.holds Try.pinned (OpenSpec.upto meterRunsSpec)

/-- 'touchstonelaw4.LevelMay', WHERE WHAT IT READS IS OF BULK AT MOST 1048576: true; the input reads as it did. -/
def levelMayUptoRow : OpenClaim := { program := "ytfgndomaadikoaa", sum := "987ab8f9cf2cc031fb4bb140b0ad84fc03a77f8f2a781def43779c66d31ae3b5", func := "touchstone/touchstonelaw4.LevelMay", spec := "levelMay", unfollowed := true, recurses := true, loops := true, apart := false, narrowed := true }
def LevelMayUptoSaid : Prop := levelMayUptoRow.holds Try.pinned (OpenSpec.upto levelMaySpec)

/-- 'touchstonelaw4.LevelEval', WHERE WHAT IT READS IS OF BULK AT MOST 1048576: true; the input reads as it did. -/
def levelEvalUptoRow : OpenClaim := { program := "ytfgndomaadikoaa", sum := "987ab8f9cf2cc031fb4bb140b0ad84fc03a77f8f2a781def43779c66d31ae3b5", func := "touchstone/touchstonelaw4.LevelEval", spec := "levelEval", unfollowed := true, recurses := true, loops := true, apart := false, narrowed := true }
def LevelEvalUptoSaid : Prop := levelEvalUptoRow.holds Try.pinned (OpenSpec.upto levelEvalSpec)

/-- 'touchstonelaw4.LevelLeq', WHERE WHAT IT READS IS OF BULK AT MOST 1048576: true; the input reads as it did. -/
def levelLeqUptoRow : OpenClaim := { program := "ytfgndomaadikoaa", sum := "987ab8f9cf2cc031fb4bb140b0ad84fc03a77f8f2a781def43779c66d31ae3b5", func := "touchstone/touchstonelaw4.LevelLeq", spec := "levelLeq", unfollowed := true, recurses := true, loops := true, apart := false, narrowed := true }
def LevelLeqUptoSaid : Prop := levelLeqUptoRow.holds Try.pinned (OpenSpec.upto levelLeqSpec)

/-- 'touchstonelaw4.LevelHolds', WHERE WHAT IT READS IS OF BULK AT MOST 1048576: true; the input reads as it did. -/
def levelHoldsUptoRow : OpenClaim := { program := "ytfgndomaadikoaa", sum := "987ab8f9cf2cc031fb4bb140b0ad84fc03a77f8f2a781def43779c66d31ae3b5", func := "touchstone/touchstonelaw4.LevelHolds", spec := "levelHolds", unfollowed := true, recurses := true, apart := false, narrowed := true }
def LevelHoldsUptoSaid : Prop := levelHoldsUptoRow.holds Try.pinned (OpenSpec.upto levelHoldsSpec)

/-- 'touchstonelaw4.LevelOrder', WHERE WHAT IT READS IS OF BULK AT MOST 1048576: true; the input reads as it did. -/
def levelOrderUptoRow : OpenClaim := { program := "ytfgndomaadikoaa", sum := "987ab8f9cf2cc031fb4bb140b0ad84fc03a77f8f2a781def43779c66d31ae3b5", func := "touchstone/touchstonelaw4.LevelOrder", spec := "levelOrder", unfollowed := true, recurses := true, apart := false, narrowed := true }
def LevelOrderUptoSaid : Prop := levelOrderUptoRow.holds Try.pinned (OpenSpec.upto levelOrderSpec)

/-- 'touchstonelaw4.LevelPut', WHERE WHAT IT READS IS OF BULK AT MOST 1048576: true; the input reads as it did. -/
def levelPutUptoRow : OpenClaim := { program := "ytfgndomaadikoaa", sum := "987ab8f9cf2cc031fb4bb140b0ad84fc03a77f8f2a781def43779c66d31ae3b5", func := "touchstone/touchstonelaw4.LevelPut", spec := "levelPut", unfollowed := true, recurses := true, loops := true, apart := false, narrowed := true }
def LevelPutUptoSaid : Prop := levelPutUptoRow.holds Try.pinned (OpenSpec.upto levelPutSpec)

/-- 'touchstonelaw4.LevelKeeps', WHERE WHAT IT READS IS OF BULK AT MOST 1048576: true; the input reads as it did. -/
def levelKeepsUptoRow : OpenClaim := { program := "ytfgndomaadikoaa", sum := "987ab8f9cf2cc031fb4bb140b0ad84fc03a77f8f2a781def43779c66d31ae3b5", func := "touchstone/touchstonelaw4.LevelKeeps", spec := "levelKeeps", unfollowed := true, recurses := true, apart := false, narrowed := true }
def LevelKeepsUptoSaid : Prop := levelKeepsUptoRow.holds Try.pinned (OpenSpec.upto levelKeepsSpec)

/-- 'touchstonelaw4.LevelPlaces', WHERE WHAT IT READS IS OF BULK AT MOST 1048576: true; the input reads as it did. -/
def levelPlacesUptoRow : OpenClaim := { program := "ytfgndomaadikoaa", sum := "987ab8f9cf2cc031fb4bb140b0ad84fc03a77f8f2a781def43779c66d31ae3b5", func := "touchstone/touchstonelaw4.LevelPlaces", spec := "levelPlaces", unfollowed := true, recurses := true, apart := false, narrowed := true }
def LevelPlacesUptoSaid : Prop := levelPlacesUptoRow.holds Try.pinned (OpenSpec.upto levelPlacesSpec)

end Rows
end Go.Proofs.Ytfgndomaadikoaa
