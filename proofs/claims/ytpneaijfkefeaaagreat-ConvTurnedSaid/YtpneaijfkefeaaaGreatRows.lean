/-
  NARROWER THAN 'FOR EVERY INPUT', by the rows' own cells (each row's printed sentence says how): NormAny: loops · ConvAny: loops.
  DERIVED. THE GIVEN ROWS OF THIS SEAT. 14 by the template 'for every input the law returns true; each argument reads behind the call as it read before'; 0 by the template 'total and deterministic' (their statements: YtpneaijfkefeaaaGreatTotals.lean).
  GIVEN WITH THE SEED: the statements are not yours to turn. If you find one false, say at which input.
  Laid BY PROGRAM, IN A SANDBOX (cutbox-rows.mjs): the forced cells as the released guide's own fill.sh prints them over the translation 02ce1934ace396b0… (all of the seat's roots in one cut). By AI agents, Wed Nov 11 2026. No macro, syntax, notation, axiom, sorry.
-/
import Derived.Test.YtpneaijfkefeaaaGreatChecked
import GoSem.Claim
import GoSem.ClaimJoined
import GoSem.ClaimMapViews
import Derived.JoinedTies
import Derived.KernelRfl
namespace Go.Proofs.YtpneaijfkefeaaaGreat
/- THE CELL 'sum', in the pinned program and in every row, IS THE sha256 OF THE DUMP (.gsa) THAT YtpneaijfkefeaaaGreatProg.lean LOADS. Nothing in Lean hashes anything: it is a label: what it is worth is what the hold of that sum in a sandbox is worth. -/
noncomputable def Tryz.pinned : Pinned := { name := "ytpneaijfkefeaaagreat", sum := "02ce1934ace396b01e9f28fbf82d7d60915c1591e37724b56c42ee7dc4a2aba2", checked := Tryz.checked }
namespace Rows
def none {H : Type} : Left H := { results := [], args := [] }

/-- 'touchstonelaw15.NormMade': WHATEVER THE INPUT: true; the input reads as it did. -/
def normMadeSpec : ChangeSpec := { name := "normMade", fn := fun _ => fun
  | [d1, d2, d3] => { results := [.lit (.bool true)], args := [d1, d2, d3] }
  | _ => none }
def normMadeRow : OpenClaim := { program := "ytpneaijfkefeaaagreat", sum := "02ce1934ace396b01e9f28fbf82d7d60915c1591e37724b56c42ee7dc4a2aba2", func := "touchstone/touchstonelaw15.NormMade", spec := "normMade", inPlace := ["maps.clone"], unfollowed := true, recurses := true, apart := false }
def NormMadeSaid : Prop := normMadeRow.holds Tryz.pinned (OpenSpec.ofChange normMadeSpec)

/-- ITS FALSE NEIGHBOUR: 'it returns false'. Refute it at one input. -/
def normMadeWrong : ChangeSpec := { name := "normMade", fn := fun _ => fun
  | [d1, d2, d3] => { results := [.lit (.bool false)], args := [d1, d2, d3] }
  | _ => none }
def NormMadeWrongFalsely : Prop := normMadeRow.holds Tryz.pinned (OpenSpec.ofChange normMadeWrong)

/-- 'touchstonelaw15.NormAny': WHATEVER THE INPUT: true; the input reads as it did. -/
def normAnySpec : ChangeSpec := { name := "normAny", fn := fun _ => fun
  | [d1, d2, d3] => { results := [.lit (.bool true)], args := [d1, d2, d3] }
  | _ => none }
def normAnyRow : OpenClaim := { program := "ytpneaijfkefeaaagreat", sum := "02ce1934ace396b01e9f28fbf82d7d60915c1591e37724b56c42ee7dc4a2aba2", func := "touchstone/touchstonelaw15.NormAny", spec := "normAny", inPlace := ["maps.clone"], unfollowed := true, recurses := true, loops := true, apart := false }
def NormAnySaid : Prop := normAnyRow.holds Tryz.pinned (OpenSpec.ofChange normAnySpec)

/-- ITS FALSE NEIGHBOUR: 'it returns false'. Refute it at one input. -/
def normAnyWrong : ChangeSpec := { name := "normAny", fn := fun _ => fun
  | [d1, d2, d3] => { results := [.lit (.bool false)], args := [d1, d2, d3] }
  | _ => none }
def NormAnyWrongFalsely : Prop := normAnyRow.holds Tryz.pinned (OpenSpec.ofChange normAnyWrong)

/-- 'touchstonelaw15.NormMore': WHATEVER THE INPUT: true; the input reads as it did. -/
def normMoreSpec : ChangeSpec := { name := "normMore", fn := fun _ => fun
  | [d1, d2, d3, d4] => { results := [.lit (.bool true)], args := [d1, d2, d3, d4] }
  | _ => none }
def normMoreRow : OpenClaim := { program := "ytpneaijfkefeaaagreat", sum := "02ce1934ace396b01e9f28fbf82d7d60915c1591e37724b56c42ee7dc4a2aba2", func := "touchstone/touchstonelaw15.NormMore", spec := "normMore", inPlace := ["maps.clone"], unfollowed := true, recurses := true, apart := false }
def NormMoreSaid : Prop := normMoreRow.holds Tryz.pinned (OpenSpec.ofChange normMoreSpec)

/-- ITS FALSE NEIGHBOUR: 'it returns false'. Refute it at one input. -/
def normMoreWrong : ChangeSpec := { name := "normMore", fn := fun _ => fun
  | [d1, d2, d3, d4] => { results := [.lit (.bool false)], args := [d1, d2, d3, d4] }
  | _ => none }
def NormMoreWrongFalsely : Prop := normMoreRow.holds Tryz.pinned (OpenSpec.ofChange normMoreWrong)

/-- 'touchstonelaw15.NormNats': WHATEVER THE INPUT: true; the input reads as it did. -/
def normNatsSpec : ChangeSpec := { name := "normNats", fn := fun _ => fun
  | [d] => { results := [.lit (.bool true)], args := [d] }
  | _ => none }
def normNatsRow : OpenClaim := { program := "ytpneaijfkefeaaagreat", sum := "02ce1934ace396b01e9f28fbf82d7d60915c1591e37724b56c42ee7dc4a2aba2", func := "touchstone/touchstonelaw15.NormNats", spec := "normNats", inPlace := ["maps.clone"], unfollowed := true, recurses := true, apart := false }
def NormNatsSaid : Prop := normNatsRow.holds Tryz.pinned (OpenSpec.ofChange normNatsSpec)

/-- ITS FALSE NEIGHBOUR: 'it returns false'. Refute it at one input. -/
def normNatsWrong : ChangeSpec := { name := "normNats", fn := fun _ => fun
  | [d] => { results := [.lit (.bool false)], args := [d] }
  | _ => none }
def NormNatsWrongFalsely : Prop := normNatsRow.holds Tryz.pinned (OpenSpec.ofChange normNatsWrong)

/-- 'touchstonelaw15.NormHead': WHATEVER THE INPUT: true; the input reads as it did. -/
def normHeadSpec : ChangeSpec := { name := "normHead", fn := fun _ => fun
  | [d] => { results := [.lit (.bool true)], args := [d] }
  | _ => none }
def normHeadRow : OpenClaim := { program := "ytpneaijfkefeaaagreat", sum := "02ce1934ace396b01e9f28fbf82d7d60915c1591e37724b56c42ee7dc4a2aba2", func := "touchstone/touchstonelaw15.NormHead", spec := "normHead", inPlace := ["maps.clone"], unfollowed := true, recurses := true, apart := false }
def NormHeadSaid : Prop := normHeadRow.holds Tryz.pinned (OpenSpec.ofChange normHeadSpec)

/-- ITS FALSE NEIGHBOUR: 'it returns false'. Refute it at one input. -/
def normHeadWrong : ChangeSpec := { name := "normHead", fn := fun _ => fun
  | [d] => { results := [.lit (.bool false)], args := [d] }
  | _ => none }
def NormHeadWrongFalsely : Prop := normHeadRow.holds Tryz.pinned (OpenSpec.ofChange normHeadWrong)

/-- 'touchstonelaw14.ConvMade': WHATEVER THE INPUT: true; the input reads as it did. -/
def convMadeSpec : ChangeSpec := { name := "convMade", fn := fun _ => fun
  | [d1, d2, d3, d4, d5] => { results := [.lit (.bool true)], args := [d1, d2, d3, d4, d5] }
  | _ => none }
def convMadeRow : OpenClaim := { program := "ytpneaijfkefeaaagreat", sum := "02ce1934ace396b01e9f28fbf82d7d60915c1591e37724b56c42ee7dc4a2aba2", func := "touchstone/touchstonelaw14.ConvMade", spec := "convMade", inPlace := ["maps.clone"], unfollowed := true, recurses := true, apart := false }
def ConvMadeSaid : Prop := convMadeRow.holds Tryz.pinned (OpenSpec.ofChange convMadeSpec)

/-- ITS FALSE NEIGHBOUR: 'it returns false'. Refute it at one input. -/
def convMadeWrong : ChangeSpec := { name := "convMade", fn := fun _ => fun
  | [d1, d2, d3, d4, d5] => { results := [.lit (.bool false)], args := [d1, d2, d3, d4, d5] }
  | _ => none }
def ConvMadeWrongFalsely : Prop := convMadeRow.holds Tryz.pinned (OpenSpec.ofChange convMadeWrong)

/-- 'touchstonelaw14.ConvAny': WHATEVER THE INPUT: true; the input reads as it did. -/
def convAnySpec : ChangeSpec := { name := "convAny", fn := fun _ => fun
  | [d1, d2, d3, d4] => { results := [.lit (.bool true)], args := [d1, d2, d3, d4] }
  | _ => none }
def convAnyRow : OpenClaim := { program := "ytpneaijfkefeaaagreat", sum := "02ce1934ace396b01e9f28fbf82d7d60915c1591e37724b56c42ee7dc4a2aba2", func := "touchstone/touchstonelaw14.ConvAny", spec := "convAny", inPlace := ["maps.clone"], unfollowed := true, recurses := true, loops := true, apart := false }
def ConvAnySaid : Prop := convAnyRow.holds Tryz.pinned (OpenSpec.ofChange convAnySpec)

/-- ITS FALSE NEIGHBOUR: 'it returns false'. Refute it at one input. -/
def convAnyWrong : ChangeSpec := { name := "convAny", fn := fun _ => fun
  | [d1, d2, d3, d4] => { results := [.lit (.bool false)], args := [d1, d2, d3, d4] }
  | _ => none }
def ConvAnyWrongFalsely : Prop := convAnyRow.holds Tryz.pinned (OpenSpec.ofChange convAnyWrong)

/-- 'touchstonelaw14.ConvSelf': WHATEVER THE INPUT: true; the input reads as it did. -/
def convSelfSpec : ChangeSpec := { name := "convSelf", fn := fun _ => fun
  | [d] => { results := [.lit (.bool true)], args := [d] }
  | _ => none }
def convSelfRow : OpenClaim := { program := "ytpneaijfkefeaaagreat", sum := "02ce1934ace396b01e9f28fbf82d7d60915c1591e37724b56c42ee7dc4a2aba2", func := "touchstone/touchstonelaw14.ConvSelf", spec := "convSelf", inPlace := ["maps.clone"], unfollowed := true, recurses := true, apart := false }
def ConvSelfSaid : Prop := convSelfRow.holds Tryz.pinned (OpenSpec.ofChange convSelfSpec)

/-- ITS FALSE NEIGHBOUR: 'it returns false'. Refute it at one input. -/
def convSelfWrong : ChangeSpec := { name := "convSelf", fn := fun _ => fun
  | [d] => { results := [.lit (.bool false)], args := [d] }
  | _ => none }
def ConvSelfWrongFalsely : Prop := convSelfRow.holds Tryz.pinned (OpenSpec.ofChange convSelfWrong)

/-- 'touchstonelaw14.ConvNats': WHATEVER THE INPUT: true; the input reads as it did. -/
def convNatsSpec : ChangeSpec := { name := "convNats", fn := fun _ => fun
  | [d1, d2] => { results := [.lit (.bool true)], args := [d1, d2] }
  | _ => none }
def convNatsRow : OpenClaim := { program := "ytpneaijfkefeaaagreat", sum := "02ce1934ace396b01e9f28fbf82d7d60915c1591e37724b56c42ee7dc4a2aba2", func := "touchstone/touchstonelaw14.ConvNats", spec := "convNats", inPlace := ["maps.clone"], unfollowed := true, recurses := true, apart := false }
def ConvNatsSaid : Prop := convNatsRow.holds Tryz.pinned (OpenSpec.ofChange convNatsSpec)

/-- ITS FALSE NEIGHBOUR: 'it returns false'. Refute it at one input. -/
def convNatsWrong : ChangeSpec := { name := "convNats", fn := fun _ => fun
  | [d1, d2] => { results := [.lit (.bool false)], args := [d1, d2] }
  | _ => none }
def ConvNatsWrongFalsely : Prop := convNatsRow.holds Tryz.pinned (OpenSpec.ofChange convNatsWrong)

/-- 'touchstonelaw14.ConvMore': WHATEVER THE INPUT: true; the input reads as it did. -/
def convMoreSpec : ChangeSpec := { name := "convMore", fn := fun _ => fun
  | [d1, d2, d3, d4, d5] => { results := [.lit (.bool true)], args := [d1, d2, d3, d4, d5] }
  | _ => none }
def convMoreRow : OpenClaim := { program := "ytpneaijfkefeaaagreat", sum := "02ce1934ace396b01e9f28fbf82d7d60915c1591e37724b56c42ee7dc4a2aba2", func := "touchstone/touchstonelaw14.ConvMore", spec := "convMore", inPlace := ["maps.clone"], unfollowed := true, recurses := true, apart := false }
def ConvMoreSaid : Prop := convMoreRow.holds Tryz.pinned (OpenSpec.ofChange convMoreSpec)

/-- ITS FALSE NEIGHBOUR: 'it returns false'. Refute it at one input. -/
def convMoreWrong : ChangeSpec := { name := "convMore", fn := fun _ => fun
  | [d1, d2, d3, d4, d5] => { results := [.lit (.bool false)], args := [d1, d2, d3, d4, d5] }
  | _ => none }
def ConvMoreWrongFalsely : Prop := convMoreRow.holds Tryz.pinned (OpenSpec.ofChange convMoreWrong)

/-- 'touchstonelaw14.ConvTurned': WHATEVER THE INPUT: true; the input reads as it did. -/
def convTurnedSpec : ChangeSpec := { name := "convTurned", fn := fun _ => fun
  | [d1, d2, d3] => { results := [.lit (.bool true)], args := [d1, d2, d3] }
  | _ => none }
def convTurnedRow : OpenClaim := { program := "ytpneaijfkefeaaagreat", sum := "02ce1934ace396b01e9f28fbf82d7d60915c1591e37724b56c42ee7dc4a2aba2", func := "touchstone/touchstonelaw14.ConvTurned", spec := "convTurned", inPlace := ["maps.clone"], unfollowed := true, recurses := true, apart := false }
def ConvTurnedSaid : Prop := convTurnedRow.holds Tryz.pinned (OpenSpec.ofChange convTurnedSpec)

/-- ITS FALSE NEIGHBOUR: 'it returns false'. Refute it at one input. -/
def convTurnedWrong : ChangeSpec := { name := "convTurned", fn := fun _ => fun
  | [d1, d2, d3] => { results := [.lit (.bool false)], args := [d1, d2, d3] }
  | _ => none }
def ConvTurnedWrongFalsely : Prop := convTurnedRow.holds Tryz.pinned (OpenSpec.ofChange convTurnedWrong)

/-- 'touchstonelaw14.ConvAlike': WHATEVER THE INPUT: true; the input reads as it did. -/
def convAlikeSpec : ChangeSpec := { name := "convAlike", fn := fun _ => fun
  | [d] => { results := [.lit (.bool true)], args := [d] }
  | _ => none }
def convAlikeRow : OpenClaim := { program := "ytpneaijfkefeaaagreat", sum := "02ce1934ace396b01e9f28fbf82d7d60915c1591e37724b56c42ee7dc4a2aba2", func := "touchstone/touchstonelaw14.ConvAlike", spec := "convAlike", inPlace := ["maps.clone"], unfollowed := true, recurses := true, apart := false }
def ConvAlikeSaid : Prop := convAlikeRow.holds Tryz.pinned (OpenSpec.ofChange convAlikeSpec)

/-- ITS FALSE NEIGHBOUR: 'it returns false'. Refute it at one input. -/
def convAlikeWrong : ChangeSpec := { name := "convAlike", fn := fun _ => fun
  | [d] => { results := [.lit (.bool false)], args := [d] }
  | _ => none }
def ConvAlikeWrongFalsely : Prop := convAlikeRow.holds Tryz.pinned (OpenSpec.ofChange convAlikeWrong)

/-- 'touchstonelaw14.ConvInside': WHATEVER THE INPUT: true; the input reads as it did. -/
def convInsideSpec : ChangeSpec := { name := "convInside", fn := fun _ => fun
  | [d1, d2, d3] => { results := [.lit (.bool true)], args := [d1, d2, d3] }
  | _ => none }
def convInsideRow : OpenClaim := { program := "ytpneaijfkefeaaagreat", sum := "02ce1934ace396b01e9f28fbf82d7d60915c1591e37724b56c42ee7dc4a2aba2", func := "touchstone/touchstonelaw14.ConvInside", spec := "convInside", inPlace := ["maps.clone"], unfollowed := true, recurses := true, apart := false }
def ConvInsideSaid : Prop := convInsideRow.holds Tryz.pinned (OpenSpec.ofChange convInsideSpec)

/-- ITS FALSE NEIGHBOUR: 'it returns false'. Refute it at one input. -/
def convInsideWrong : ChangeSpec := { name := "convInside", fn := fun _ => fun
  | [d1, d2, d3] => { results := [.lit (.bool false)], args := [d1, d2, d3] }
  | _ => none }
def ConvInsideWrongFalsely : Prop := convInsideRow.holds Tryz.pinned (OpenSpec.ofChange convInsideWrong)

/-- 'touchstonelaw14.ConvSorts': WHATEVER THE INPUT: true; the input reads as it did. -/
def convSortsSpec : ChangeSpec := { name := "convSorts", fn := fun _ => fun
  | [d1, d2, d3] => { results := [.lit (.bool true)], args := [d1, d2, d3] }
  | _ => none }
def convSortsRow : OpenClaim := { program := "ytpneaijfkefeaaagreat", sum := "02ce1934ace396b01e9f28fbf82d7d60915c1591e37724b56c42ee7dc4a2aba2", func := "touchstone/touchstonelaw14.ConvSorts", spec := "convSorts", inPlace := ["maps.clone"], unfollowed := true, recurses := true, apart := false }
def ConvSortsSaid : Prop := convSortsRow.holds Tryz.pinned (OpenSpec.ofChange convSortsSpec)

/-- ITS FALSE NEIGHBOUR: 'it returns false'. Refute it at one input. -/
def convSortsWrong : ChangeSpec := { name := "convSorts", fn := fun _ => fun
  | [d1, d2, d3] => { results := [.lit (.bool false)], args := [d1, d2, d3] }
  | _ => none }
def ConvSortsWrongFalsely : Prop := convSortsRow.holds Tryz.pinned (OpenSpec.ofChange convSortsWrong)

/- THE SECOND FORM. 'bulk': how many values and letters a reading holds, each counted each time it is reached (what is shared counts as often as it is met; a slice's spare places count too). A statement '..UptoSaid' is the law's where the arguments, and the package variables that the reading takes, are together of bulk at most 1048576: NARROWER than '..Said'. Prove '..Said' where nothing that the law and all that it calls make is longer than what came in: it says more and counts as full. Else prove '..UptoSaid'. A law counts once. -/
mutual
def uptoBulk {H : Type} : DataW H → Nat
  | .lit (.string bytes) => bytes.length + 1
  | .lit _ => 1
  | .nil => 1
  | .ptr d => uptoBulk d + 1
  | .slice elems spare => uptoBulkAll elems + uptoBulkAll spare + 1
  | .agg parts => uptoBulkAll parts + 1
  | .iface _ d => uptoBulk d + 1
  | .map entries => uptoBulkEntries entries + 1
  | .held _ => 1
def uptoBulkAll {H : Type} : List (DataW H) → Nat
  | [] => 0
  | d :: r => uptoBulk d + uptoBulkAll r
def uptoBulkEntries {H : Type} : List (Lit × DataW H) → Nat
  | [] => 0
  | x :: r => uptoBulkEntry x + uptoBulkEntries r
def uptoBulkEntry {H : Type} : Lit × DataW H → Nat
  | (.string bytes, d) => bytes.length + uptoBulk d + 1
  | (_, d) => uptoBulk d + 1
 end
def uptoSmall : (H : Type) → List (DataW H) → Bool := fun _ ds => decide (uptoBulkAll ds ≤ 1048576)
def OpenSpec.upto (s : _root_.Go.ChangeSpec) : _root_.Go.OpenSpec := { _root_.Go.OpenSpec.ofChange s with cond := some uptoSmall }

/-- 'touchstonelaw15.NormMade', WHERE WHAT IT READS IS OF BULK AT MOST 1048576: true; the input reads as it did. -/
def normMadeUptoRow : OpenClaim := { program := "ytpneaijfkefeaaagreat", sum := "02ce1934ace396b01e9f28fbf82d7d60915c1591e37724b56c42ee7dc4a2aba2", func := "touchstone/touchstonelaw15.NormMade", spec := "normMade", inPlace := ["maps.clone"], unfollowed := true, recurses := true, apart := false, narrowed := true }
def NormMadeUptoSaid : Prop := normMadeUptoRow.holds Tryz.pinned (OpenSpec.upto normMadeSpec)

/-- 'touchstonelaw15.NormAny', WHERE WHAT IT READS IS OF BULK AT MOST 1048576: true; the input reads as it did. -/
def normAnyUptoRow : OpenClaim := { program := "ytpneaijfkefeaaagreat", sum := "02ce1934ace396b01e9f28fbf82d7d60915c1591e37724b56c42ee7dc4a2aba2", func := "touchstone/touchstonelaw15.NormAny", spec := "normAny", inPlace := ["maps.clone"], unfollowed := true, recurses := true, loops := true, apart := false, narrowed := true }
def NormAnyUptoSaid : Prop := normAnyUptoRow.holds Tryz.pinned (OpenSpec.upto normAnySpec)

/-- 'touchstonelaw15.NormMore', WHERE WHAT IT READS IS OF BULK AT MOST 1048576: true; the input reads as it did. -/
def normMoreUptoRow : OpenClaim := { program := "ytpneaijfkefeaaagreat", sum := "02ce1934ace396b01e9f28fbf82d7d60915c1591e37724b56c42ee7dc4a2aba2", func := "touchstone/touchstonelaw15.NormMore", spec := "normMore", inPlace := ["maps.clone"], unfollowed := true, recurses := true, apart := false, narrowed := true }
def NormMoreUptoSaid : Prop := normMoreUptoRow.holds Tryz.pinned (OpenSpec.upto normMoreSpec)

/-- 'touchstonelaw15.NormNats', WHERE WHAT IT READS IS OF BULK AT MOST 1048576: true; the input reads as it did. -/
def normNatsUptoRow : OpenClaim := { program := "ytpneaijfkefeaaagreat", sum := "02ce1934ace396b01e9f28fbf82d7d60915c1591e37724b56c42ee7dc4a2aba2", func := "touchstone/touchstonelaw15.NormNats", spec := "normNats", inPlace := ["maps.clone"], unfollowed := true, recurses := true, apart := false, narrowed := true }
def NormNatsUptoSaid : Prop := normNatsUptoRow.holds Tryz.pinned (OpenSpec.upto normNatsSpec)

/-- 'touchstonelaw15.NormHead', WHERE WHAT IT READS IS OF BULK AT MOST 1048576: true; the input reads as it did. -/
def normHeadUptoRow : OpenClaim := { program := "ytpneaijfkefeaaagreat", sum := "02ce1934ace396b01e9f28fbf82d7d60915c1591e37724b56c42ee7dc4a2aba2", func := "touchstone/touchstonelaw15.NormHead", spec := "normHead", inPlace := ["maps.clone"], unfollowed := true, recurses := true, apart := false, narrowed := true }
def NormHeadUptoSaid : Prop := normHeadUptoRow.holds Tryz.pinned (OpenSpec.upto normHeadSpec)

/-- 'touchstonelaw14.ConvMade', WHERE WHAT IT READS IS OF BULK AT MOST 1048576: true; the input reads as it did. -/
def convMadeUptoRow : OpenClaim := { program := "ytpneaijfkefeaaagreat", sum := "02ce1934ace396b01e9f28fbf82d7d60915c1591e37724b56c42ee7dc4a2aba2", func := "touchstone/touchstonelaw14.ConvMade", spec := "convMade", inPlace := ["maps.clone"], unfollowed := true, recurses := true, apart := false, narrowed := true }
def ConvMadeUptoSaid : Prop := convMadeUptoRow.holds Tryz.pinned (OpenSpec.upto convMadeSpec)

/-- 'touchstonelaw14.ConvAny', WHERE WHAT IT READS IS OF BULK AT MOST 1048576: true; the input reads as it did. -/
def convAnyUptoRow : OpenClaim := { program := "ytpneaijfkefeaaagreat", sum := "02ce1934ace396b01e9f28fbf82d7d60915c1591e37724b56c42ee7dc4a2aba2", func := "touchstone/touchstonelaw14.ConvAny", spec := "convAny", inPlace := ["maps.clone"], unfollowed := true, recurses := true, loops := true, apart := false, narrowed := true }
def ConvAnyUptoSaid : Prop := convAnyUptoRow.holds Tryz.pinned (OpenSpec.upto convAnySpec)

/-- 'touchstonelaw14.ConvSelf', WHERE WHAT IT READS IS OF BULK AT MOST 1048576: true; the input reads as it did. -/
def convSelfUptoRow : OpenClaim := { program := "ytpneaijfkefeaaagreat", sum := "02ce1934ace396b01e9f28fbf82d7d60915c1591e37724b56c42ee7dc4a2aba2", func := "touchstone/touchstonelaw14.ConvSelf", spec := "convSelf", inPlace := ["maps.clone"], unfollowed := true, recurses := true, apart := false, narrowed := true }
def ConvSelfUptoSaid : Prop := convSelfUptoRow.holds Tryz.pinned (OpenSpec.upto convSelfSpec)

/-- 'touchstonelaw14.ConvNats', WHERE WHAT IT READS IS OF BULK AT MOST 1048576: true; the input reads as it did. -/
def convNatsUptoRow : OpenClaim := { program := "ytpneaijfkefeaaagreat", sum := "02ce1934ace396b01e9f28fbf82d7d60915c1591e37724b56c42ee7dc4a2aba2", func := "touchstone/touchstonelaw14.ConvNats", spec := "convNats", inPlace := ["maps.clone"], unfollowed := true, recurses := true, apart := false, narrowed := true }
def ConvNatsUptoSaid : Prop := convNatsUptoRow.holds Tryz.pinned (OpenSpec.upto convNatsSpec)

/-- 'touchstonelaw14.ConvMore', WHERE WHAT IT READS IS OF BULK AT MOST 1048576: true; the input reads as it did. -/
def convMoreUptoRow : OpenClaim := { program := "ytpneaijfkefeaaagreat", sum := "02ce1934ace396b01e9f28fbf82d7d60915c1591e37724b56c42ee7dc4a2aba2", func := "touchstone/touchstonelaw14.ConvMore", spec := "convMore", inPlace := ["maps.clone"], unfollowed := true, recurses := true, apart := false, narrowed := true }
def ConvMoreUptoSaid : Prop := convMoreUptoRow.holds Tryz.pinned (OpenSpec.upto convMoreSpec)

/-- 'touchstonelaw14.ConvTurned', WHERE WHAT IT READS IS OF BULK AT MOST 1048576: true; the input reads as it did. -/
def convTurnedUptoRow : OpenClaim := { program := "ytpneaijfkefeaaagreat", sum := "02ce1934ace396b01e9f28fbf82d7d60915c1591e37724b56c42ee7dc4a2aba2", func := "touchstone/touchstonelaw14.ConvTurned", spec := "convTurned", inPlace := ["maps.clone"], unfollowed := true, recurses := true, apart := false, narrowed := true }
def ConvTurnedUptoSaid : Prop := convTurnedUptoRow.holds Tryz.pinned (OpenSpec.upto convTurnedSpec)

/-- 'touchstonelaw14.ConvAlike', WHERE WHAT IT READS IS OF BULK AT MOST 1048576: true; the input reads as it did. -/
def convAlikeUptoRow : OpenClaim := { program := "ytpneaijfkefeaaagreat", sum := "02ce1934ace396b01e9f28fbf82d7d60915c1591e37724b56c42ee7dc4a2aba2", func := "touchstone/touchstonelaw14.ConvAlike", spec := "convAlike", inPlace := ["maps.clone"], unfollowed := true, recurses := true, apart := false, narrowed := true }
def ConvAlikeUptoSaid : Prop := convAlikeUptoRow.holds Tryz.pinned (OpenSpec.upto convAlikeSpec)

/-- 'touchstonelaw14.ConvInside', WHERE WHAT IT READS IS OF BULK AT MOST 1048576: true; the input reads as it did. -/
def convInsideUptoRow : OpenClaim := { program := "ytpneaijfkefeaaagreat", sum := "02ce1934ace396b01e9f28fbf82d7d60915c1591e37724b56c42ee7dc4a2aba2", func := "touchstone/touchstonelaw14.ConvInside", spec := "convInside", inPlace := ["maps.clone"], unfollowed := true, recurses := true, apart := false, narrowed := true }
def ConvInsideUptoSaid : Prop := convInsideUptoRow.holds Tryz.pinned (OpenSpec.upto convInsideSpec)

/-- 'touchstonelaw14.ConvSorts', WHERE WHAT IT READS IS OF BULK AT MOST 1048576: true; the input reads as it did. -/
def convSortsUptoRow : OpenClaim := { program := "ytpneaijfkefeaaagreat", sum := "02ce1934ace396b01e9f28fbf82d7d60915c1591e37724b56c42ee7dc4a2aba2", func := "touchstone/touchstonelaw14.ConvSorts", spec := "convSorts", inPlace := ["maps.clone"], unfollowed := true, recurses := true, apart := false, narrowed := true }
def ConvSortsUptoSaid : Prop := convSortsUptoRow.holds Tryz.pinned (OpenSpec.upto convSortsSpec)

end Rows
end Go.Proofs.YtpneaijfkefeaaaGreat
