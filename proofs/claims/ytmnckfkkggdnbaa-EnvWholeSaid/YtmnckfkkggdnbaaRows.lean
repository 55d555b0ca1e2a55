/-
  NARROWER THAN 'FOR EVERY INPUT', by the rows' own cells (each row's printed sentence says how): EnvApart: loops · EnvWhole: loops · EnvAll: loops.
  DERIVED. THE GIVEN ROWS OF THIS SEAT. 4 by the template 'for every input the law returns true; each argument reads behind the call as it read before'; 0 by the template 'total and deterministic' (their statements: YtmnckfkkggdnbaaTotals.lean).
  GIVEN WITH THE SEED: the statements are not yours to turn. If you find one false, say at which input.
  Laid BY PROGRAM, IN A SANDBOX (cutbox-rows.mjs): the forced cells as the released guide's own fill.sh prints them over the translation bd6dabc432261393… (all of the seat's roots in one cut). By AI agents, Wed Nov 11 2026. No macro, syntax, notation, axiom, sorry.
-/
import Derived.Test.YtmnckfkkggdnbaaChecked
import GoSem.Claim
import GoSem.ClaimJoined
import GoSem.ClaimMapViews
import Derived.JoinedTies
import Derived.KernelRfl
namespace Go.Proofs.Ytmnckfkkggdnbaa
/- THE CELL 'sum', in the pinned program and in every row, IS THE sha256 OF THE DUMP (.gsa) THAT YtmnckfkkggdnbaaProg.lean LOADS. Nothing in Lean hashes anything: it is a label: what it is worth is what the hold of that sum in a sandbox is worth. -/
noncomputable def Try.pinned : Pinned := { name := "ytmnckfkkggdnbaa", sum := "bd6dabc432261393142f671f33437f2576da0220a83a8d161c4332f0556e1af8", checked := Try.checked }
namespace Rows
def none {H : Type} : Left H := { results := [], args := [] }

/-- 'touchstonelaw11.EnvApart': WHATEVER THE INPUT: true; the input reads as it did. -/
def envApartSpec : ChangeSpec := { name := "envApart", fn := fun _ => fun
  | [d1, d2, d3] => { results := [.lit (.bool true)], args := [d1, d2, d3] }
  | _ => none }
def envApartRow : OpenClaim := { program := "ytmnckfkkggdnbaa", sum := "bd6dabc432261393142f671f33437f2576da0220a83a8d161c4332f0556e1af8", func := "touchstone/touchstonelaw11.EnvApart", spec := "envApart", inPlace := ["maps.clone"], unfollowed := true, recurses := true, loops := true, apart := false }
def EnvApartSaid : Prop := envApartRow.holds Try.pinned (OpenSpec.ofChange envApartSpec)

/-- ITS FALSE NEIGHBOUR: 'it returns false'. Refute it at one input. -/
def envApartWrong : ChangeSpec := { name := "envApart", fn := fun _ => fun
  | [d1, d2, d3] => { results := [.lit (.bool false)], args := [d1, d2, d3] }
  | _ => none }
def EnvApartWrongFalsely : Prop := envApartRow.holds Try.pinned (OpenSpec.ofChange envApartWrong)

/-- 'touchstonelaw11.EnvWhole': WHATEVER THE INPUT: true; the input reads as it did. -/
def envWholeSpec : ChangeSpec := { name := "envWhole", fn := fun _ => fun
  | [d1, d2, d3] => { results := [.lit (.bool true)], args := [d1, d2, d3] }
  | _ => none }
def envWholeRow : OpenClaim := { program := "ytmnckfkkggdnbaa", sum := "bd6dabc432261393142f671f33437f2576da0220a83a8d161c4332f0556e1af8", func := "touchstone/touchstonelaw11.EnvWhole", spec := "envWhole", inPlace := ["maps.clone"], unfollowed := true, recurses := true, loops := true, apart := false }
def EnvWholeSaid : Prop := envWholeRow.holds Try.pinned (OpenSpec.ofChange envWholeSpec)

/-- ITS FALSE NEIGHBOUR: 'it returns false'. Refute it at one input. -/
def envWholeWrong : ChangeSpec := { name := "envWhole", fn := fun _ => fun
  | [d1, d2, d3] => { results := [.lit (.bool false)], args := [d1, d2, d3] }
  | _ => none }
def EnvWholeWrongFalsely : Prop := envWholeRow.holds Try.pinned (OpenSpec.ofChange envWholeWrong)

/-- 'touchstonelaw11.EnvAll': WHATEVER THE INPUT: true; the input reads as it did. -/
def envAllSpec : ChangeSpec := { name := "envAll", fn := fun _ => fun
  | [d1, d2] => { results := [.lit (.bool true)], args := [d1, d2] }
  | _ => none }
def envAllRow : OpenClaim := { program := "ytmnckfkkggdnbaa", sum := "bd6dabc432261393142f671f33437f2576da0220a83a8d161c4332f0556e1af8", func := "touchstone/touchstonelaw11.EnvAll", spec := "envAll", inPlace := ["maps.clone"], unfollowed := true, recurses := true, loops := true, apart := false }
def EnvAllSaid : Prop := envAllRow.holds Try.pinned (OpenSpec.ofChange envAllSpec)

/-- ITS FALSE NEIGHBOUR: 'it returns false'. Refute it at one input. -/
def envAllWrong : ChangeSpec := { name := "envAll", fn := fun _ => fun
  | [d1, d2] => { results := [.lit (.bool false)], args := [d1, d2] }
  | _ => none }
def EnvAllWrongFalsely : Prop := envAllRow.holds Try.pinned (OpenSpec.ofChange envAllWrong)

/-- 'touchstonelaw11.EnvNone': WHATEVER THE INPUT: true; the input reads as it did. -/
def envNoneSpec : ChangeSpec := { name := "envNone", fn := fun _ => fun
  | [] => { results := [.lit (.bool true)], args := [] }
  | _ => none }
def envNoneRow : OpenClaim := { program := "ytmnckfkkggdnbaa", sum := "bd6dabc432261393142f671f33437f2576da0220a83a8d161c4332f0556e1af8", func := "touchstone/touchstonelaw11.EnvNone", spec := "envNone", inPlace := ["maps.clone"], unfollowed := true, recurses := true, apart := false }
def EnvNoneSaid : Prop := envNoneRow.holds Try.pinned (OpenSpec.ofChange envNoneSpec)

/-- ITS FALSE NEIGHBOUR: 'it returns false'. Refute it at one input. -/
def envNoneWrong : ChangeSpec := { name := "envNone", fn := fun _ => fun
  | [] => { results := [.lit (.bool false)], args := [] }
  | _ => none }
def EnvNoneWrongFalsely : Prop := envNoneRow.holds Try.pinned (OpenSpec.ofChange envNoneWrong)

/- THE SECOND FORM. 'bulk': how many values and letters a reading holds, each counted each time it is reached (what is shared counts as often as it is met; a slice's spare places count too). A statement '..UptoSaid' is the law's where the arguments, and the package variables that the reading takes, are together of bulk at most 1048576: NARROWER than '..Said'. Prove '..Said' where nothing that the law and all that it calls make is longer than what came in: it says more and counts as full. Else prove '..UptoSaid'. A law counts once. -/
mutual
def uptoBulk {H : Type} : DataW H → Nat
  | .lit (.string bytes) => bytes.length + 1
  | .lit _ => 1
  | .nil => 1
  | .ptr d => uptoBulk d + 1
  | .slice elems spare => uptoBulkAll elems + uptoBulkAll spare + 1
  | .agg parts => uptoBulkAll parts + 1
  | .iface _ d => uptoBulk d + 1
  | .map entries => uptoBulkEntries entries + 1
  | .held _ => 1
def uptoBulkAll {H : Type} : List (DataW H) → Nat
  | [] => 0
  | d :: r => uptoBulk d + uptoBulkAll r
def uptoBulkEntries {H : Type} : List (Lit × DataW H) → Nat
  | [] => 0
  | x :: r => uptoBulkEntry x + uptoBulkEntries r
def uptoBulkEntry {H : Type} : Lit × DataW H → Nat
  | (.string bytes, d) => bytes.length + uptoBulk d + 1
  | (_, d) => uptoBulk d + 1
 end
def uptoSmall : (H : Type) → List (DataW H) → Bool := fun _ ds => decide (uptoBulkAll ds ≤ 1048576)
def OpenSpec.upto (s : _root_.Go.ChangeSpec) : _root_.Go.OpenSpec := { _root_.Go.OpenSpec.ofChange s with cond := some uptoSmall }

/-- 'touchstonelaw11.EnvApart', WHERE WHAT IT READS IS OF BULK AT MOST 1048576: true; the input reads as it did. -/
def envApartUptoRow : OpenClaim := { program := "ytmnckfkkggdnbaa", sum := "bd6dabc432261393142f671f33437f2576da0220a83a8d161c4332f0556e1af8", func := "touchstone/touchstonelaw11.EnvApart", spec := "envApart", inPlace := ["maps.clone"], unfollowed := true, recurses := true, loops := true, apart := false, narrowed := true }
def EnvApartUptoSaid : Prop := envApartUptoRow.holds Try.pinned (OpenSpec.upto envApartSpec)

/-- 'touchstonelaw11.EnvWhole', WHERE WHAT IT READS IS OF BULK AT MOST 1048576: true; the input reads as it did. -/
def envWholeUptoRow : OpenClaim := { program := "ytmnckfkkggdnbaa", sum := "bd6dabc432261393142f671f33437f2576da0220a83a8d161c4332f0556e1af8", func := "touchstone/touchstonelaw11.EnvWhole", spec := "envWhole", inPlace := ["maps.clone"], unfollowed := true, recurses := true, loops := true, apart := false, narrowed := true }
def EnvWholeUptoSaid : Prop := envWholeUptoRow.holds Try.pinned (OpenSpec.upto envWholeSpec)

/-- 'touchstonelaw11.EnvAll', WHERE WHAT IT READS IS OF BULK AT MOST 1048576: true; the input reads as it did. -/
def envAllUptoRow : OpenClaim := { program := "ytmnckfkkggdnbaa", sum := "bd6dabc432261393142f671f33437f2576da0220a83a8d161c4332f0556e1af8", func := "touchstone/touchstonelaw11.EnvAll", spec := "envAll", inPlace := ["maps.clone"], unfollowed := true, recurses := true, loops := true, apart := false, narrowed := true }
def EnvAllUptoSaid : Prop := envAllUptoRow.holds Try.pinned (OpenSpec.upto envAllSpec)

/-- 'touchstonelaw11.EnvNone', WHERE WHAT IT READS IS OF BULK AT MOST 1048576: true; the input reads as it did. -/
def envNoneUptoRow : OpenClaim := { program := "ytmnckfkkggdnbaa", sum := "bd6dabc432261393142f671f33437f2576da0220a83a8d161c4332f0556e1af8", func := "touchstone/touchstonelaw11.EnvNone", spec := "envNone", inPlace := ["maps.clone"], unfollowed := true, recurses := true, apart := false, narrowed := true }
def EnvNoneUptoSaid : Prop := envNoneUptoRow.holds Try.pinned (OpenSpec.upto envNoneSpec)

end Rows
end Go.Proofs.Ytmnckfkkggdnbaa
