/-
  NARROWER THAN 'FOR EVERY INPUT', by the rows' own cells (each row's printed sentence says how): WhnfAny: loops · WhnfRecs: loops · WhnfIota: loops · NormAny: loops.
  DERIVED. THE GIVEN ROWS OF THIS SEAT. 12 by the template 'for every input the law returns true; each argument reads behind the call as it read before'; 0 by the template 'total and deterministic' (their statements: YtplnabidakjhiaaGreatTotals.lean).
  GIVEN WITH THE SEED: the statements are not yours to turn. If you find one false, say at which input.
  Laid BY PROGRAM, IN A SANDBOX (cutbox-rows.mjs): the forced cells as the released guide's own fill.sh prints them over the translation 86cdcfdb0f634d5e… (all of the seat's roots in one cut). By AI agents, Wed Nov 11 2026. No macro, syntax, notation, axiom, sorry.
-/
import Derived.Test.YtplnabidakjhiaaGreatChecked
import GoSem.Claim
import GoSem.ClaimJoined
import GoSem.ClaimMapViews
import Derived.JoinedTies
import Derived.KernelRfl
namespace Go.Proofs.YtplnabidakjhiaaGreat
/- THE CELL 'sum', in the pinned program and in every row, IS THE sha256 OF THE DUMP (.gsa) THAT YtplnabidakjhiaaGreatProg.lean LOADS. Nothing in Lean hashes anything: it is a label: what it is worth is what the hold of that sum in a sandbox is worth. -/
noncomputable def Tryz.pinned : Pinned := { name := "ytplnabidakjhiaagreat", sum := "86cdcfdb0f634d5e19a6351b5e915020e600cde479c7686926351c08e3f8db36", checked := Tryz.checked }
namespace Rows
def none {H : Type} : Left H := { results := [], args := [] }

/-- 'touchstonelaw13.WhnfMore': WHATEVER THE INPUT: true; the input reads as it did. -/
def whnfMoreSpec : ChangeSpec := { name := "whnfMore", fn := fun _ => fun
  | [d1, d2, d3, d4] => { results := [.lit (.bool true)], args := [d1, d2, d3, d4] }
  | _ => none }
def whnfMoreRow : OpenClaim := { program := "ytplnabidakjhiaagreat", sum := "86cdcfdb0f634d5e19a6351b5e915020e600cde479c7686926351c08e3f8db36", func := "touchstone/touchstonelaw13.WhnfMore", spec := "whnfMore", inPlace := ["maps.clone"], unfollowed := true, recurses := true, apart := false }
def WhnfMoreSaid : Prop := whnfMoreRow.holds Tryz.pinned (OpenSpec.ofChange whnfMoreSpec)

/-- ITS FALSE NEIGHBOUR: 'it returns false'. Refute it at one input. -/
def whnfMoreWrong : ChangeSpec := { name := "whnfMore", fn := fun _ => fun
  | [d1, d2, d3, d4] => { results := [.lit (.bool false)], args := [d1, d2, d3, d4] }
  | _ => none }
def WhnfMoreWrongFalsely : Prop := whnfMoreRow.holds Tryz.pinned (OpenSpec.ofChange whnfMoreWrong)

/-- 'touchstonelaw13.WhnfNat': WHATEVER THE INPUT: true; the input reads as it did. -/
def whnfNatSpec : ChangeSpec := { name := "whnfNat", fn := fun _ => fun
  | [d1, d2] => { results := [.lit (.bool true)], args := [d1, d2] }
  | _ => none }
def whnfNatRow : OpenClaim := { program := "ytplnabidakjhiaagreat", sum := "86cdcfdb0f634d5e19a6351b5e915020e600cde479c7686926351c08e3f8db36", func := "touchstone/touchstonelaw13.WhnfNat", spec := "whnfNat", inPlace := ["maps.clone"], unfollowed := true, recurses := true, apart := false }
def WhnfNatSaid : Prop := whnfNatRow.holds Tryz.pinned (OpenSpec.ofChange whnfNatSpec)

/-- ITS FALSE NEIGHBOUR: 'it returns false'. Refute it at one input. -/
def whnfNatWrong : ChangeSpec := { name := "whnfNat", fn := fun _ => fun
  | [d1, d2] => { results := [.lit (.bool false)], args := [d1, d2] }
  | _ => none }
def WhnfNatWrongFalsely : Prop := whnfNatRow.holds Tryz.pinned (OpenSpec.ofChange whnfNatWrong)

/-- 'touchstonelaw13.WhnfMade': WHATEVER THE INPUT: true; the input reads as it did. -/
def whnfMadeSpec : ChangeSpec := { name := "whnfMade", fn := fun _ => fun
  | [d1, d2, d3] => { results := [.lit (.bool true)], args := [d1, d2, d3] }
  | _ => none }
def whnfMadeRow : OpenClaim := { program := "ytplnabidakjhiaagreat", sum := "86cdcfdb0f634d5e19a6351b5e915020e600cde479c7686926351c08e3f8db36", func := "touchstone/touchstonelaw13.WhnfMade", spec := "whnfMade", inPlace := ["maps.clone"], unfollowed := true, recurses := true, apart := false }
def WhnfMadeSaid : Prop := whnfMadeRow.holds Tryz.pinned (OpenSpec.ofChange whnfMadeSpec)

/-- ITS FALSE NEIGHBOUR: 'it returns false'. Refute it at one input. -/
def whnfMadeWrong : ChangeSpec := { name := "whnfMade", fn := fun _ => fun
  | [d1, d2, d3] => { results := [.lit (.bool false)], args := [d1, d2, d3] }
  | _ => none }
def WhnfMadeWrongFalsely : Prop := whnfMadeRow.holds Tryz.pinned (OpenSpec.ofChange whnfMadeWrong)

/-- 'touchstonelaw13.WhnfAny': WHATEVER THE INPUT: true; the input reads as it did. -/
def whnfAnySpec : ChangeSpec := { name := "whnfAny", fn := fun _ => fun
  | [d1, d2, d3, d4] => { results := [.lit (.bool true)], args := [d1, d2, d3, d4] }
  | _ => none }
def whnfAnyRow : OpenClaim := { program := "ytplnabidakjhiaagreat", sum := "86cdcfdb0f634d5e19a6351b5e915020e600cde479c7686926351c08e3f8db36", func := "touchstone/touchstonelaw13.WhnfAny", spec := "whnfAny", inPlace := ["maps.clone"], unfollowed := true, recurses := true, loops := true, apart := false }
def WhnfAnySaid : Prop := whnfAnyRow.holds Tryz.pinned (OpenSpec.ofChange whnfAnySpec)

/-- ITS FALSE NEIGHBOUR: 'it returns false'. Refute it at one input. -/
def whnfAnyWrong : ChangeSpec := { name := "whnfAny", fn := fun _ => fun
  | [d1, d2, d3, d4] => { results := [.lit (.bool false)], args := [d1, d2, d3, d4] }
  | _ => none }
def WhnfAnyWrongFalsely : Prop := whnfAnyRow.holds Tryz.pinned (OpenSpec.ofChange whnfAnyWrong)

/-- 'touchstonelaw13.WhnfRecs': WHATEVER THE INPUT: true; the input reads as it did. -/
def whnfRecsSpec : ChangeSpec := { name := "whnfRecs", fn := fun _ => fun
  | [d1, d2, d3] => { results := [.lit (.bool true)], args := [d1, d2, d3] }
  | _ => none }
def whnfRecsRow : OpenClaim := { program := "ytplnabidakjhiaagreat", sum := "86cdcfdb0f634d5e19a6351b5e915020e600cde479c7686926351c08e3f8db36", func := "touchstone/touchstonelaw13.WhnfRecs", spec := "whnfRecs", inPlace := ["maps.clone"], unfollowed := true, recurses := true, loops := true, apart := false }
def WhnfRecsSaid : Prop := whnfRecsRow.holds Tryz.pinned (OpenSpec.ofChange whnfRecsSpec)

/-- ITS FALSE NEIGHBOUR: 'it returns false'. Refute it at one input. -/
def whnfRecsWrong : ChangeSpec := { name := "whnfRecs", fn := fun _ => fun
  | [d1, d2, d3] => { results := [.lit (.bool false)], args := [d1, d2, d3] }
  | _ => none }
def WhnfRecsWrongFalsely : Prop := whnfRecsRow.holds Tryz.pinned (OpenSpec.ofChange whnfRecsWrong)

/-- 'touchstonelaw13.WhnfEnds': WHATEVER THE INPUT: true; the input reads as it did. -/
def whnfEndsSpec : ChangeSpec := { name := "whnfEnds", fn := fun _ => fun
  | [d1, d2] => { results := [.lit (.bool true)], args := [d1, d2] }
  | _ => none }
def whnfEndsRow : OpenClaim := { program := "ytplnabidakjhiaagreat", sum := "86cdcfdb0f634d5e19a6351b5e915020e600cde479c7686926351c08e3f8db36", func := "touchstone/touchstonelaw13.WhnfEnds", spec := "whnfEnds", inPlace := ["maps.clone"], unfollowed := true, recurses := true, apart := false }
def WhnfEndsSaid : Prop := whnfEndsRow.holds Tryz.pinned (OpenSpec.ofChange whnfEndsSpec)

/-- ITS FALSE NEIGHBOUR: 'it returns false'. Refute it at one input. -/
def whnfEndsWrong : ChangeSpec := { name := "whnfEnds", fn := fun _ => fun
  | [d1, d2] => { results := [.lit (.bool false)], args := [d1, d2] }
  | _ => none }
def WhnfEndsWrongFalsely : Prop := whnfEndsRow.holds Tryz.pinned (OpenSpec.ofChange whnfEndsWrong)

/-- 'touchstonelaw13.WhnfSteps': WHATEVER THE INPUT: true; the input reads as it did. -/
def whnfStepsSpec : ChangeSpec := { name := "whnfSteps", fn := fun _ => fun
  | [d1, d2, d3] => { results := [.lit (.bool true)], args := [d1, d2, d3] }
  | _ => none }
def whnfStepsRow : OpenClaim := { program := "ytplnabidakjhiaagreat", sum := "86cdcfdb0f634d5e19a6351b5e915020e600cde479c7686926351c08e3f8db36", func := "touchstone/touchstonelaw13.WhnfSteps", spec := "whnfSteps", inPlace := ["maps.clone"], unfollowed := true, recurses := true, apart := false }
def WhnfStepsSaid : Prop := whnfStepsRow.holds Tryz.pinned (OpenSpec.ofChange whnfStepsSpec)

/-- ITS FALSE NEIGHBOUR: 'it returns false'. Refute it at one input. -/
def whnfStepsWrong : ChangeSpec := { name := "whnfSteps", fn := fun _ => fun
  | [d1, d2, d3] => { results := [.lit (.bool false)], args := [d1, d2, d3] }
  | _ => none }
def WhnfStepsWrongFalsely : Prop := whnfStepsRow.holds Tryz.pinned (OpenSpec.ofChange whnfStepsWrong)

/-- 'touchstonelaw13.WhnfLets': WHATEVER THE INPUT: true; the input reads as it did. -/
def whnfLetsSpec : ChangeSpec := { name := "whnfLets", fn := fun _ => fun
  | [d1, d2] => { results := [.lit (.bool true)], args := [d1, d2] }
  | _ => none }
def whnfLetsRow : OpenClaim := { program := "ytplnabidakjhiaagreat", sum := "86cdcfdb0f634d5e19a6351b5e915020e600cde479c7686926351c08e3f8db36", func := "touchstone/touchstonelaw13.WhnfLets", spec := "whnfLets", inPlace := ["maps.clone"], unfollowed := true, recurses := true, apart := false }
def WhnfLetsSaid : Prop := whnfLetsRow.holds Tryz.pinned (OpenSpec.ofChange whnfLetsSpec)

/-- ITS FALSE NEIGHBOUR: 'it returns false'. Refute it at one input. -/
def whnfLetsWrong : ChangeSpec := { name := "whnfLets", fn := fun _ => fun
  | [d1, d2] => { results := [.lit (.bool false)], args := [d1, d2] }
  | _ => none }
def WhnfLetsWrongFalsely : Prop := whnfLetsRow.holds Tryz.pinned (OpenSpec.ofChange whnfLetsWrong)

/-- 'touchstonelaw13.WhnfStuck': WHATEVER THE INPUT: true; the input reads as it did. -/
def whnfStuckSpec : ChangeSpec := { name := "whnfStuck", fn := fun _ => fun
  | [d1, d2, d3] => { results := [.lit (.bool true)], args := [d1, d2, d3] }
  | _ => none }
def whnfStuckRow : OpenClaim := { program := "ytplnabidakjhiaagreat", sum := "86cdcfdb0f634d5e19a6351b5e915020e600cde479c7686926351c08e3f8db36", func := "touchstone/touchstonelaw13.WhnfStuck", spec := "whnfStuck", inPlace := ["maps.clone"], unfollowed := true, recurses := true, apart := false }
def WhnfStuckSaid : Prop := whnfStuckRow.holds Tryz.pinned (OpenSpec.ofChange whnfStuckSpec)

/-- ITS FALSE NEIGHBOUR: 'it returns false'. Refute it at one input. -/
def whnfStuckWrong : ChangeSpec := { name := "whnfStuck", fn := fun _ => fun
  | [d1, d2, d3] => { results := [.lit (.bool false)], args := [d1, d2, d3] }
  | _ => none }
def WhnfStuckWrongFalsely : Prop := whnfStuckRow.holds Tryz.pinned (OpenSpec.ofChange whnfStuckWrong)

/-- 'touchstonelaw13.WhnfIota': WHATEVER THE INPUT: true; the input reads as it did. -/
def whnfIotaSpec : ChangeSpec := { name := "whnfIota", fn := fun _ => fun
  | [d1, d2, d3] => { results := [.lit (.bool true)], args := [d1, d2, d3] }
  | _ => none }
def whnfIotaRow : OpenClaim := { program := "ytplnabidakjhiaagreat", sum := "86cdcfdb0f634d5e19a6351b5e915020e600cde479c7686926351c08e3f8db36", func := "touchstone/touchstonelaw13.WhnfIota", spec := "whnfIota", inPlace := ["maps.clone"], unfollowed := true, recurses := true, loops := true, apart := false }
def WhnfIotaSaid : Prop := whnfIotaRow.holds Tryz.pinned (OpenSpec.ofChange whnfIotaSpec)

/-- ITS FALSE NEIGHBOUR: 'it returns false'. Refute it at one input. -/
def whnfIotaWrong : ChangeSpec := { name := "whnfIota", fn := fun _ => fun
  | [d1, d2, d3] => { results := [.lit (.bool false)], args := [d1, d2, d3] }
  | _ => none }
def WhnfIotaWrongFalsely : Prop := whnfIotaRow.holds Tryz.pinned (OpenSpec.ofChange whnfIotaWrong)

/-- 'touchstonelaw15.NormMade': WHATEVER THE INPUT: true; the input reads as it did. -/
def normMadeSpec : ChangeSpec := { name := "normMade", fn := fun _ => fun
  | [d1, d2, d3] => { results := [.lit (.bool true)], args := [d1, d2, d3] }
  | _ => none }
def normMadeRow : OpenClaim := { program := "ytplnabidakjhiaagreat", sum := "86cdcfdb0f634d5e19a6351b5e915020e600cde479c7686926351c08e3f8db36", func := "touchstone/touchstonelaw15.NormMade", spec := "normMade", inPlace := ["maps.clone"], unfollowed := true, recurses := true, apart := false }
def NormMadeSaid : Prop := normMadeRow.holds Tryz.pinned (OpenSpec.ofChange normMadeSpec)

/-- ITS FALSE NEIGHBOUR: 'it returns false'. Refute it at one input. -/
def normMadeWrong : ChangeSpec := { name := "normMade", fn := fun _ => fun
  | [d1, d2, d3] => { results := [.lit (.bool false)], args := [d1, d2, d3] }
  | _ => none }
def NormMadeWrongFalsely : Prop := normMadeRow.holds Tryz.pinned (OpenSpec.ofChange normMadeWrong)

/-- 'touchstonelaw15.NormAny': WHATEVER THE INPUT: true; the input reads as it did. -/
def normAnySpec : ChangeSpec := { name := "normAny", fn := fun _ => fun
  | [d1, d2, d3] => { results := [.lit (.bool true)], args := [d1, d2, d3] }
  | _ => none }
def normAnyRow : OpenClaim := { program := "ytplnabidakjhiaagreat", sum := "86cdcfdb0f634d5e19a6351b5e915020e600cde479c7686926351c08e3f8db36", func := "touchstone/touchstonelaw15.NormAny", spec := "normAny", inPlace := ["maps.clone"], unfollowed := true, recurses := true, loops := true, apart := false }
def NormAnySaid : Prop := normAnyRow.holds Tryz.pinned (OpenSpec.ofChange normAnySpec)

/-- ITS FALSE NEIGHBOUR: 'it returns false'. Refute it at one input. -/
def normAnyWrong : ChangeSpec := { name := "normAny", fn := fun _ => fun
  | [d1, d2, d3] => { results := [.lit (.bool false)], args := [d1, d2, d3] }
  | _ => none }
def NormAnyWrongFalsely : Prop := normAnyRow.holds Tryz.pinned (OpenSpec.ofChange normAnyWrong)

/- THE SECOND FORM. 'bulk': how many values and letters a reading holds, each counted each time it is reached (what is shared counts as often as it is met; a slice's spare places count too). A statement '..UptoSaid' is the law's where the arguments, and the package variables that the reading takes, are together of bulk at most 1048576: NARROWER than '..Said'. Prove '..Said' where nothing that the law and all that it calls make is longer than what came in: it says more and counts as full. Else prove '..UptoSaid'. A law counts once. -/
mutual
def uptoBulk {H : Type} : DataW H → Nat
  | .lit (.string bytes) => bytes.length + 1
  | .lit _ => 1
  | .nil => 1
  | .ptr d => uptoBulk d + 1
  | .slice elems spare => uptoBulkAll elems + uptoBulkAll spare + 1
  | .agg parts => uptoBulkAll parts + 1
  | .iface _ d => uptoBulk d + 1
  | .map entries => uptoBulkEntries entries + 1
  | .held _ => 1
def uptoBulkAll {H : Type} : List (DataW H) → Nat
  | [] => 0
  | d :: r => uptoBulk d + uptoBulkAll r
def uptoBulkEntries {H : Type} : List (Lit × DataW H) → Nat
  | [] => 0
  | x :: r => uptoBulkEntry x + uptoBulkEntries r
def uptoBulkEntry {H : Type} : Lit × DataW H → Nat
  | (.string bytes, d) => bytes.length + uptoBulk d + 1
  | (_, d) => uptoBulk d + 1
 end
def uptoSmall : (H : Type) → List (DataW H) → Bool := fun _ ds => decide (uptoBulkAll ds ≤ 1048576)
def OpenSpec.upto (s : _root_.Go.ChangeSpec) : _root_.Go.OpenSpec := { _root_.Go.OpenSpec.ofChange s with cond := some uptoSmall }

/-- 'touchstonelaw13.WhnfMore', WHERE WHAT IT READS IS OF BULK AT MOST 1048576: true; the input reads as it did. -/
def whnfMoreUptoRow : OpenClaim := { program := "ytplnabidakjhiaagreat", sum := "86cdcfdb0f634d5e19a6351b5e915020e600cde479c7686926351c08e3f8db36", func := "touchstone/touchstonelaw13.WhnfMore", spec := "whnfMore", inPlace := ["maps.clone"], unfollowed := true, recurses := true, apart := false, narrowed := true }
def WhnfMoreUptoSaid : Prop := whnfMoreUptoRow.holds Tryz.pinned (OpenSpec.upto whnfMoreSpec)

/-- 'touchstonelaw13.WhnfNat', WHERE WHAT IT READS IS OF BULK AT MOST 1048576: true; the input reads as it did. -/
def whnfNatUptoRow : OpenClaim := { program := "ytplnabidakjhiaagreat", sum := "86cdcfdb0f634d5e19a6351b5e915020e600cde479c7686926351c08e3f8db36", func := "touchstone/touchstonelaw13.WhnfNat", spec := "whnfNat", inPlace := ["maps.clone"], unfollowed := true, recurses := true, apart := false, narrowed := true }
def WhnfNatUptoSaid : Prop := whnfNatUptoRow.holds Tryz.pinned (OpenSpec.upto whnfNatSpec)

/-- 'touchstonelaw13.WhnfMade', WHERE WHAT IT READS IS OF BULK AT MOST 1048576: true; the input reads as it did. -/
def whnfMadeUptoRow : OpenClaim := { program := "ytplnabidakjhiaagreat", sum := "86cdcfdb0f634d5e19a6351b5e915020e600cde479c7686926351c08e3f8db36", func := "touchstone/touchstonelaw13.WhnfMade", spec := "whnfMade", inPlace := ["maps.clone"], unfollowed := true, recurses := true, apart := false, narrowed := true }
def WhnfMadeUptoSaid : Prop := whnfMadeUptoRow.holds Tryz.pinned (OpenSpec.upto whnfMadeSpec)

/-- 'touchstonelaw13.WhnfAny', WHERE WHAT IT READS IS OF BULK AT MOST 1048576: true; the input reads as it did. -/
def whnfAnyUptoRow : OpenClaim := { program := "ytplnabidakjhiaagreat", sum := "86cdcfdb0f634d5e19a6351b5e915020e600cde479c7686926351c08e3f8db36", func := "touchstone/touchstonelaw13.WhnfAny", spec := "whnfAny", inPlace := ["maps.clone"], unfollowed := true, recurses := true, loops := true, apart := false, narrowed := true }
def WhnfAnyUptoSaid : Prop := whnfAnyUptoRow.holds Tryz.pinned (OpenSpec.upto whnfAnySpec)

/-- 'touchstonelaw13.WhnfRecs', WHERE WHAT IT READS IS OF BULK AT MOST 1048576: true; the input reads as it did. -/
def whnfRecsUptoRow : OpenClaim := { program := "ytplnabidakjhiaagreat", sum := "86cdcfdb0f634d5e19a6351b5e915020e600cde479c7686926351c08e3f8db36", func := "touchstone/touchstonelaw13.WhnfRecs", spec := "whnfRecs", inPlace := ["maps.clone"], unfollowed := true, recurses := true, loops := true, apart := false, narrowed := true }
def WhnfRecsUptoSaid : Prop := whnfRecsUptoRow.holds Tryz.pinned (OpenSpec.upto whnfRecsSpec)

/-- 'touchstonelaw13.WhnfEnds', WHERE WHAT IT READS IS OF BULK AT MOST 1048576: true; the input reads as it did. -/
def whnfEndsUptoRow : OpenClaim := { program := "ytplnabidakjhiaagreat", sum := "86cdcfdb0f634d5e19a6351b5e915020e600cde479c7686926351c08e3f8db36", func := "touchstone/touchstonelaw13.WhnfEnds", spec := "whnfEnds", inPlace := ["maps.clone"], unfollowed := true, recurses := true, apart := false, narrowed := true }
def WhnfEndsUptoSaid : Prop := whnfEndsUptoRow.holds Tryz.pinned (OpenSpec.upto whnfEndsSpec)

/-- 'touchstonelaw13.WhnfSteps', WHERE WHAT IT READS IS OF BULK AT MOST 1048576: true; the input reads as it did. -/
def whnfStepsUptoRow : OpenClaim := { program := "ytplnabidakjhiaagreat", sum := "86cdcfdb0f634d5e19a6351b5e915020e600cde479c7686926351c08e3f8db36", func := "touchstone/touchstonelaw13.WhnfSteps", spec := "whnfSteps", inPlace := ["maps.clone"], unfollowed := true, recurses := true, apart := false, narrowed := true }
def WhnfStepsUptoSaid : Prop := whnfStepsUptoRow.holds Tryz.pinned (OpenSpec.upto whnfStepsSpec)

/-- 'touchstonelaw13.WhnfLets', WHERE WHAT IT READS IS OF BULK AT MOST 1048576: true; the input reads as it did. -/
def whnfLetsUptoRow : OpenClaim := { program := "ytplnabidakjhiaagreat", sum := "86cdcfdb0f634d5e19a6351b5e915020e600cde479c7686926351c08e3f8db36", func := "touchstone/touchstonelaw13.WhnfLets", spec := "whnfLets", inPlace := ["maps.clone"], unfollowed := true, recurses := true, apart := false, narrowed := true }
def WhnfLetsUptoSaid : Prop := whnfLetsUptoRow.holds Tryz.pinned (OpenSpec.upto whnfLetsSpec)

/-- 'touchstonelaw13.WhnfStuck', WHERE WHAT IT READS IS OF BULK AT MOST 1048576: true; the input reads as it did. -/
def whnfStuckUptoRow : OpenClaim := { program := "ytplnabidakjhiaagreat", sum := "86cdcfdb0f634d5e19a6351b5e915020e600cde479c7686926351c08e3f8db36", func := "touchstone/touchstonelaw13.WhnfStuck", spec := "whnfStuck", inPlace := ["maps.clone"], unfollowed := true, recurses := true, apart := false, narrowed := true }
def WhnfStuckUptoSaid : Prop := whnfStuckUptoRow.holds Tryz.pinned (OpenSpec.upto whnfStuckSpec)

/-- 'touchstonelaw13.WhnfIota', WHERE WHAT IT READS IS OF BULK AT MOST 1048576: true; the input reads as it did. -/
def whnfIotaUptoRow : OpenClaim := { program := "ytplnabidakjhiaagreat", sum := "86cdcfdb0f634d5e19a6351b5e915020e600cde479c7686926351c08e3f8db36", func := "touchstone/touchstonelaw13.WhnfIota", spec := "whnfIota", inPlace := ["maps.clone"], unfollowed := true, recurses := true, loops := true, apart := false, narrowed := true }
def WhnfIotaUptoSaid : Prop := whnfIotaUptoRow.holds Tryz.pinned (OpenSpec.upto whnfIotaSpec)

/-- 'touchstonelaw15.NormMade', WHERE WHAT IT READS IS OF BULK AT MOST 1048576: true; the input reads as it did. -/
def normMadeUptoRow : OpenClaim := { program := "ytplnabidakjhiaagreat", sum := "86cdcfdb0f634d5e19a6351b5e915020e600cde479c7686926351c08e3f8db36", func := "touchstone/touchstonelaw15.NormMade", spec := "normMade", inPlace := ["maps.clone"], unfollowed := true, recurses := true, apart := false, narrowed := true }
def NormMadeUptoSaid : Prop := normMadeUptoRow.holds Tryz.pinned (OpenSpec.upto normMadeSpec)

/-- 'touchstonelaw15.NormAny', WHERE WHAT IT READS IS OF BULK AT MOST 1048576: true; the input reads as it did. -/
def normAnyUptoRow : OpenClaim := { program := "ytplnabidakjhiaagreat", sum := "86cdcfdb0f634d5e19a6351b5e915020e600cde479c7686926351c08e3f8db36", func := "touchstone/touchstonelaw15.NormAny", spec := "normAny", inPlace := ["maps.clone"], unfollowed := true, recurses := true, loops := true, apart := false, narrowed := true }
def NormAnyUptoSaid : Prop := normAnyUptoRow.holds Tryz.pinned (OpenSpec.upto normAnySpec)

end Rows
end Go.Proofs.YtplnabidakjhiaaGreat
