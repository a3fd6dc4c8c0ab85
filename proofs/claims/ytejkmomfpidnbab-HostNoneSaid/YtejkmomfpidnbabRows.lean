/-
  NARROWER THAN 'FOR EVERY INPUT', by the rows' own cells (each row's printed sentence says how): TreeBytes: loops · MergeSays: loops.
  DERIVED. THE GIVEN ROWS OF THIS SEAT. 5 by the template 'for every input the law returns true; each argument reads behind the call as it read before'; 0 by the template 'total and deterministic' (their statements: YtejkmomfpidnbabTotals.lean).
  GIVEN WITH THE SEED: the statements are not yours to turn. If you find one false, say at which input.
  Laid BY PROGRAM, IN A SANDBOX (cutbox-rows.mjs): the forced cells as the released guide's own fill.sh prints them over the translation bc6b77dfa01de40f… (all of the seat's roots in one cut). By AI agents, Wed Nov 11 2026. No macro, syntax, notation, axiom, sorry.
-/
import Derived.Test.YtejkmomfpidnbabChecked
import GoSem.Claim
import GoSem.ClaimJoined
import GoSem.ClaimMapViews
import Derived.JoinedTies
import Derived.KernelRfl
namespace Go.Proofs.Ytejkmomfpidnbab
/- THE CELL 'sum', in the pinned program and in every row, IS THE sha256 OF THE DUMP (.gsa) THAT YtejkmomfpidnbabProg.lean LOADS. Nothing in Lean hashes anything: it is a label: what it is worth is what the hold of that sum in a sandbox is worth. -/
noncomputable def Try.pinned : Pinned := { name := "ytejkmomfpidnbab", sum := "bc6b77dfa01de40fd7eaee5bd1600ef1ba343d1295b3e9a0593341ea917d05bf", checked := Try.checked }
namespace Rows
def none {H : Type} : Left H := { results := [], args := [] }

/-- 'idshifttop.TopCred': WHATEVER THE INPUT: true; the input reads as it did. -/
def topCredSpec : ChangeSpec := { name := "topCred", fn := fun _ => fun
  | [d1, d2, d3] => { results := [.lit (.bool true)], args := [d1, d2, d3] }
  | _ => none }
def topCredRow : OpenClaim := { program := "ytejkmomfpidnbab", sum := "bc6b77dfa01de40fd7eaee5bd1600ef1ba343d1295b3e9a0593341ea917d05bf", func := "idshift/idshifttop.TopCred", spec := "topCred", apart := false }
def TopCredSaid : Prop := topCredRow.holds Try.pinned (OpenSpec.ofChange topCredSpec)

/-- ITS FALSE NEIGHBOUR: 'it returns false'. Refute it at one input. -/
def topCredWrong : ChangeSpec := { name := "topCred", fn := fun _ => fun
  | [d1, d2, d3] => { results := [.lit (.bool false)], args := [d1, d2, d3] }
  | _ => none }
def TopCredWrongFalsely : Prop := topCredRow.holds Try.pinned (OpenSpec.ofChange topCredWrong)

/-- 'idshiftlaw.TreeBytes': WHATEVER THE INPUT: true; the input reads as it did. -/
def treeBytesSpec : ChangeSpec := { name := "treeBytes", fn := fun _ => fun
  | [d] => { results := [.lit (.bool true)], args := [d] }
  | _ => none }
def treeBytesRow : OpenClaim := { program := "ytejkmomfpidnbab", sum := "bc6b77dfa01de40fd7eaee5bd1600ef1ba343d1295b3e9a0593341ea917d05bf", func := "idshift/idshiftlaw.TreeBytes", spec := "treeBytes", inPlace := ["internal/abi.NoEscape"], unfollowed := true, recurses := true, loops := true, apart := false }
def TreeBytesSaid : Prop := treeBytesRow.holds Try.pinned (OpenSpec.ofChange treeBytesSpec)

/-- ITS FALSE NEIGHBOUR: 'it returns false'. Refute it at one input. -/
def treeBytesWrong : ChangeSpec := { name := "treeBytes", fn := fun _ => fun
  | [d] => { results := [.lit (.bool false)], args := [d] }
  | _ => none }
def TreeBytesWrongFalsely : Prop := treeBytesRow.holds Try.pinned (OpenSpec.ofChange treeBytesWrong)

/-- 'idshiftlaw.MergeSays': WHATEVER THE INPUT: true; the input reads as it did. -/
def mergeSaysSpec : ChangeSpec := { name := "mergeSays", fn := fun _ => fun
  | [d1, d2] => { results := [.lit (.bool true)], args := [d1, d2] }
  | _ => none }
def mergeSaysRow : OpenClaim := { program := "ytejkmomfpidnbab", sum := "bc6b77dfa01de40fd7eaee5bd1600ef1ba343d1295b3e9a0593341ea917d05bf", func := "idshift/idshiftlaw.MergeSays", spec := "mergeSays", unfollowed := true, recurses := true, loops := true, apart := false }
def MergeSaysSaid : Prop := mergeSaysRow.holds Try.pinned (OpenSpec.ofChange mergeSaysSpec)

/-- ITS FALSE NEIGHBOUR: 'it returns false'. Refute it at one input. -/
def mergeSaysWrong : ChangeSpec := { name := "mergeSays", fn := fun _ => fun
  | [d1, d2] => { results := [.lit (.bool false)], args := [d1, d2] }
  | _ => none }
def MergeSaysWrongFalsely : Prop := mergeSaysRow.holds Try.pinned (OpenSpec.ofChange mergeSaysWrong)

/-- 'idshiftlaw.HostNone': WHATEVER THE INPUT: true; the input reads as it did. -/
def hostNoneSpec : ChangeSpec := { name := "hostNone", fn := fun _ => fun
  | [d] => { results := [.lit (.bool true)], args := [d] }
  | _ => none }
def hostNoneRow : OpenClaim := { program := "ytejkmomfpidnbab", sum := "bc6b77dfa01de40fd7eaee5bd1600ef1ba343d1295b3e9a0593341ea917d05bf", func := "idshift/idshiftlaw.HostNone", spec := "hostNone", inPlace := ["internal/abi.NoEscape"], unfollowed := true, recurses := true, apart := false }
def HostNoneSaid : Prop := hostNoneRow.holds Try.pinned (OpenSpec.ofChange hostNoneSpec)

/-- ITS FALSE NEIGHBOUR: 'it returns false'. Refute it at one input. -/
def hostNoneWrong : ChangeSpec := { name := "hostNone", fn := fun _ => fun
  | [d] => { results := [.lit (.bool false)], args := [d] }
  | _ => none }
def HostNoneWrongFalsely : Prop := hostNoneRow.holds Try.pinned (OpenSpec.ofChange hostNoneWrong)

/-- 'idshifttop.TopIds': WHATEVER THE INPUT: true; the input reads as it did. -/
def topIdsSpec : ChangeSpec := { name := "topIds", fn := fun _ => fun
  | [d1, d2, d3] => { results := [.lit (.bool true)], args := [d1, d2, d3] }
  | _ => none }
def topIdsRow : OpenClaim := { program := "ytejkmomfpidnbab", sum := "bc6b77dfa01de40fd7eaee5bd1600ef1ba343d1295b3e9a0593341ea917d05bf", func := "idshift/idshifttop.TopIds", spec := "topIds", unfollowed := true, recurses := true, apart := false }
def TopIdsSaid : Prop := topIdsRow.holds Try.pinned (OpenSpec.ofChange topIdsSpec)

/-- ITS FALSE NEIGHBOUR: 'it returns false'. Refute it at one input. -/
def topIdsWrong : ChangeSpec := { name := "topIds", fn := fun _ => fun
  | [d1, d2, d3] => { results := [.lit (.bool false)], args := [d1, d2, d3] }
  | _ => none }
def TopIdsWrongFalsely : Prop := topIdsRow.holds Try.pinned (OpenSpec.ofChange topIdsWrong)

/- THE SECOND FORM. 'bulk': how many values and letters a reading holds, each counted each time it is reached (what is shared counts as often as it is met; a slice's spare places count too). A statement '..UptoSaid' is the law's where the arguments, and the package variables that the reading takes, are together of bulk at most 1048576: NARROWER than '..Said'. Prove '..Said' where nothing that the law and all that it calls make is longer than what came in: it says more and counts as full. Else prove '..UptoSaid'. A law counts once. -/
mutual
def uptoBulk {H : Type} : DataW H → Nat
  | .lit (.string bytes) => bytes.length + 1
  | .lit _ => 1
  | .nil => 1
  | .ptr d => uptoBulk d + 1
  | .slice elems spare => uptoBulkAll elems + uptoBulkAll spare + 1
  | .agg parts => uptoBulkAll parts + 1
  | .iface _ d => uptoBulk d + 1
  | .map entries => uptoBulkEntries entries + 1
  | .held _ => 1
def uptoBulkAll {H : Type} : List (DataW H) → Nat
  | [] => 0
  | d :: r => uptoBulk d + uptoBulkAll r
def uptoBulkEntries {H : Type} : List (Lit × DataW H) → Nat
  | [] => 0
  | x :: r => uptoBulkEntry x + uptoBulkEntries r
def uptoBulkEntry {H : Type} : Lit × DataW H → Nat
  | (.string bytes, d) => bytes.length + uptoBulk d + 1
  | (_, d) => uptoBulk d + 1
 end
def uptoSmall : (H : Type) → List (DataW H) → Bool := fun _ ds => decide (uptoBulkAll ds ≤ 1048576)
def OpenSpec.upto (s : _root_.Go.ChangeSpec) : _root_.Go.OpenSpec := { _root_.Go.OpenSpec.ofChange s with cond := some uptoSmall }

/-- 'idshifttop.TopCred', WHERE WHAT IT READS IS OF BULK AT MOST 1048576: true; the input reads as it did. -/
def topCredUptoRow : OpenClaim := { program := "ytejkmomfpidnbab", sum := "bc6b77dfa01de40fd7eaee5bd1600ef1ba343d1295b3e9a0593341ea917d05bf", func := "idshift/idshifttop.TopCred", spec := "topCred", apart := false, narrowed := true }
def TopCredUptoSaid : Prop := topCredUptoRow.holds Try.pinned (OpenSpec.upto topCredSpec)

/-- 'idshiftlaw.TreeBytes', WHERE WHAT IT READS IS OF BULK AT MOST 1048576: true; the input reads as it did. -/
def treeBytesUptoRow : OpenClaim := { program := "ytejkmomfpidnbab", sum := "bc6b77dfa01de40fd7eaee5bd1600ef1ba343d1295b3e9a0593341ea917d05bf", func := "idshift/idshiftlaw.TreeBytes", spec := "treeBytes", inPlace := ["internal/abi.NoEscape"], unfollowed := true, recurses := true, loops := true, apart := false, narrowed := true }
def TreeBytesUptoSaid : Prop := treeBytesUptoRow.holds Try.pinned (OpenSpec.upto treeBytesSpec)

/-- 'idshiftlaw.MergeSays', WHERE WHAT IT READS IS OF BULK AT MOST 1048576: true; the input reads as it did. -/
def mergeSaysUptoRow : OpenClaim := { program := "ytejkmomfpidnbab", sum := "bc6b77dfa01de40fd7eaee5bd1600ef1ba343d1295b3e9a0593341ea917d05bf", func := "idshift/idshiftlaw.MergeSays", spec := "mergeSays", unfollowed := true, recurses := true, loops := true, apart := false, narrowed := true }
def MergeSaysUptoSaid : Prop := mergeSaysUptoRow.holds Try.pinned (OpenSpec.upto mergeSaysSpec)

/-- 'idshiftlaw.HostNone', WHERE WHAT IT READS IS OF BULK AT MOST 1048576: true; the input reads as it did. -/
def hostNoneUptoRow : OpenClaim := { program := "ytejkmomfpidnbab", sum := "bc6b77dfa01de40fd7eaee5bd1600ef1ba343d1295b3e9a0593341ea917d05bf", func := "idshift/idshiftlaw.HostNone", spec := "hostNone", inPlace := ["internal/abi.NoEscape"], unfollowed := true, recurses := true, apart := false, narrowed := true }
def HostNoneUptoSaid : Prop := hostNoneUptoRow.holds Try.pinned (OpenSpec.upto hostNoneSpec)

/-- 'idshifttop.TopIds', WHERE WHAT IT READS IS OF BULK AT MOST 1048576: true; the input reads as it did. -/
def topIdsUptoRow : OpenClaim := { program := "ytejkmomfpidnbab", sum := "bc6b77dfa01de40fd7eaee5bd1600ef1ba343d1295b3e9a0593341ea917d05bf", func := "idshift/idshifttop.TopIds", spec := "topIds", unfollowed := true, recurses := true, apart := false, narrowed := true }
def TopIdsUptoSaid : Prop := topIdsUptoRow.holds Try.pinned (OpenSpec.upto topIdsSpec)

end Rows
end Go.Proofs.Ytejkmomfpidnbab
