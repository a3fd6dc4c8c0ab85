/-
  NARROWER THAN 'FOR EVERY INPUT', by the rows' own cells (each row's printed sentence says how): TreeSays: loops · QuotaSays: loops · CopySays: loops.
  DERIVED. THE GIVEN ROWS OF THIS SEAT. 11 by the template 'for every input the law returns true; each argument reads behind the call as it read before'; 0 by the template 'total and deterministic' (their statements: YtejkmomfpidnbaaTotals.lean).
  GIVEN WITH THE SEED: the statements are not yours to turn. If you find one false, say at which input.
  Laid BY PROGRAM, IN A SANDBOX (cutbox-rows.mjs): the forced cells as the released guide's own fill.sh prints them over the translation 33abfb7129dc74f0… (all of the seat's roots in one cut). By AI agents, Wed Nov 11 2026. No macro, syntax, notation, axiom, sorry.
-/
import Derived.Test.YtejkmomfpidnbaaChecked
import GoSem.Claim
import GoSem.ClaimJoined
import GoSem.ClaimMapViews
import Derived.JoinedTies
import Derived.KernelRfl
namespace Go.Proofs.Ytejkmomfpidnbaa
/- THE CELL 'sum', in the pinned program and in every row, IS THE sha256 OF THE DUMP (.gsa) THAT YtejkmomfpidnbaaProg.lean LOADS. Nothing in Lean hashes anything: it is a label: what it is worth is what the hold of that sum in a sandbox is worth. -/
noncomputable def Try.pinned : Pinned := { name := "ytejkmomfpidnbaa", sum := "33abfb7129dc74f09eaf478cd06f7970c4ad5b8d28e8638ba1d7968044b24849", checked := Try.checked }
namespace Rows
def none {H : Type} : Left H := { results := [], args := [] }

/-- 'idshiftlaw.PermSays': WHATEVER THE INPUT: true; the input reads as it did. -/
def permSaysSpec : ChangeSpec := { name := "permSays", fn := fun _ => fun
  | [d1, d2, d3, d4] => { results := [.lit (.bool true)], args := [d1, d2, d3, d4] }
  | _ => none }
def permSaysRow : OpenClaim := { program := "ytejkmomfpidnbaa", sum := "33abfb7129dc74f09eaf478cd06f7970c4ad5b8d28e8638ba1d7968044b24849", func := "idshift/idshiftlaw.PermSays", spec := "permSays", apart := false }
def PermSaysSaid : Prop := permSaysRow.holds Try.pinned (OpenSpec.ofChange permSaysSpec)

/-- ITS FALSE NEIGHBOUR: 'it returns false'. Refute it at one input. -/
def permSaysWrong : ChangeSpec := { name := "permSays", fn := fun _ => fun
  | [d1, d2, d3, d4] => { results := [.lit (.bool false)], args := [d1, d2, d3, d4] }
  | _ => none }
def PermSaysWrongFalsely : Prop := permSaysRow.holds Try.pinned (OpenSpec.ofChange permSaysWrong)

/-- 'idshiftlaw.DiskSays': WHATEVER THE INPUT: true; the input reads as it did. -/
def diskSaysSpec : ChangeSpec := { name := "diskSays", fn := fun _ => fun
  | [d1, d2] => { results := [.lit (.bool true)], args := [d1, d2] }
  | _ => none }
def diskSaysRow : OpenClaim := { program := "ytejkmomfpidnbaa", sum := "33abfb7129dc74f09eaf478cd06f7970c4ad5b8d28e8638ba1d7968044b24849", func := "idshift/idshiftlaw.DiskSays", spec := "diskSays", apart := false }
def DiskSaysSaid : Prop := diskSaysRow.holds Try.pinned (OpenSpec.ofChange diskSaysSpec)

/-- ITS FALSE NEIGHBOUR: 'it returns false'. Refute it at one input. -/
def diskSaysWrong : ChangeSpec := { name := "diskSays", fn := fun _ => fun
  | [d1, d2] => { results := [.lit (.bool false)], args := [d1, d2] }
  | _ => none }
def DiskSaysWrongFalsely : Prop := diskSaysRow.holds Try.pinned (OpenSpec.ofChange diskSaysWrong)

/-- 'idshiftlaw.CredSays': WHATEVER THE INPUT: true; the input reads as it did. -/
def credSaysSpec : ChangeSpec := { name := "credSays", fn := fun _ => fun
  | [d1, d2, d3, d4, d5] => { results := [.lit (.bool true)], args := [d1, d2, d3, d4, d5] }
  | _ => none }
def credSaysRow : OpenClaim := { program := "ytejkmomfpidnbaa", sum := "33abfb7129dc74f09eaf478cd06f7970c4ad5b8d28e8638ba1d7968044b24849", func := "idshift/idshiftlaw.CredSays", spec := "credSays", apart := false }
def CredSaysSaid : Prop := credSaysRow.holds Try.pinned (OpenSpec.ofChange credSaysSpec)

/-- ITS FALSE NEIGHBOUR: 'it returns false'. Refute it at one input. -/
def credSaysWrong : ChangeSpec := { name := "credSays", fn := fun _ => fun
  | [d1, d2, d3, d4, d5] => { results := [.lit (.bool false)], args := [d1, d2, d3, d4, d5] }
  | _ => none }
def CredSaysWrongFalsely : Prop := credSaysRow.holds Try.pinned (OpenSpec.ofChange credSaysWrong)

/-- 'idshiftlaw.IdmapSays': WHATEVER THE INPUT: true; the input reads as it did. -/
def idmapSaysSpec : ChangeSpec := { name := "idmapSays", fn := fun _ => fun
  | [d1, d2, d3] => { results := [.lit (.bool true)], args := [d1, d2, d3] }
  | _ => none }
def idmapSaysRow : OpenClaim := { program := "ytejkmomfpidnbaa", sum := "33abfb7129dc74f09eaf478cd06f7970c4ad5b8d28e8638ba1d7968044b24849", func := "idshift/idshiftlaw.IdmapSays", spec := "idmapSays", unfollowed := true, recurses := true, apart := false }
def IdmapSaysSaid : Prop := idmapSaysRow.holds Try.pinned (OpenSpec.ofChange idmapSaysSpec)

/-- ITS FALSE NEIGHBOUR: 'it returns false'. Refute it at one input. -/
def idmapSaysWrong : ChangeSpec := { name := "idmapSays", fn := fun _ => fun
  | [d1, d2, d3] => { results := [.lit (.bool false)], args := [d1, d2, d3] }
  | _ => none }
def IdmapSaysWrongFalsely : Prop := idmapSaysRow.holds Try.pinned (OpenSpec.ofChange idmapSaysWrong)

/-- 'idshiftlaw.AttrSays': WHATEVER THE INPUT: true; the input reads as it did. -/
def attrSaysSpec : ChangeSpec := { name := "attrSays", fn := fun _ => fun
  | [d1, d2, d3] => { results := [.lit (.bool true)], args := [d1, d2, d3] }
  | _ => none }
def attrSaysRow : OpenClaim := { program := "ytejkmomfpidnbaa", sum := "33abfb7129dc74f09eaf478cd06f7970c4ad5b8d28e8638ba1d7968044b24849", func := "idshift/idshiftlaw.AttrSays", spec := "attrSays", unfollowed := true, recurses := true, apart := false }
def AttrSaysSaid : Prop := attrSaysRow.holds Try.pinned (OpenSpec.ofChange attrSaysSpec)

/-- ITS FALSE NEIGHBOUR: 'it returns false'. Refute it at one input. -/
def attrSaysWrong : ChangeSpec := { name := "attrSays", fn := fun _ => fun
  | [d1, d2, d3] => { results := [.lit (.bool false)], args := [d1, d2, d3] }
  | _ => none }
def AttrSaysWrongFalsely : Prop := attrSaysRow.holds Try.pinned (OpenSpec.ofChange attrSaysWrong)

/-- 'idshiftlaw.TreeSays': WHATEVER THE INPUT: true; the input reads as it did. -/
def treeSaysSpec : ChangeSpec := { name := "treeSays", fn := fun _ => fun
  | [d1, d2, d3, d4] => { results := [.lit (.bool true)], args := [d1, d2, d3, d4] }
  | _ => none }
def treeSaysRow : OpenClaim := { program := "ytejkmomfpidnbaa", sum := "33abfb7129dc74f09eaf478cd06f7970c4ad5b8d28e8638ba1d7968044b24849", func := "idshift/idshiftlaw.TreeSays", spec := "treeSays", unfollowed := true, recurses := true, loops := true, apart := false }
def TreeSaysSaid : Prop := treeSaysRow.holds Try.pinned (OpenSpec.ofChange treeSaysSpec)

/-- ITS FALSE NEIGHBOUR: 'it returns false'. Refute it at one input. -/
def treeSaysWrong : ChangeSpec := { name := "treeSays", fn := fun _ => fun
  | [d1, d2, d3, d4] => { results := [.lit (.bool false)], args := [d1, d2, d3, d4] }
  | _ => none }
def TreeSaysWrongFalsely : Prop := treeSaysRow.holds Try.pinned (OpenSpec.ofChange treeSaysWrong)

/-- 'idshiftlaw.QuotaSays': WHATEVER THE INPUT: true; the input reads as it did. -/
def quotaSaysSpec : ChangeSpec := { name := "quotaSays", fn := fun _ => fun
  | [d1, d2, d3] => { results := [.lit (.bool true)], args := [d1, d2, d3] }
  | _ => none }
def quotaSaysRow : OpenClaim := { program := "ytejkmomfpidnbaa", sum := "33abfb7129dc74f09eaf478cd06f7970c4ad5b8d28e8638ba1d7968044b24849", func := "idshift/idshiftlaw.QuotaSays", spec := "quotaSays", inPlace := ["internal/abi.NoEscape"], recurses := true, loops := true, apart := false }
def QuotaSaysSaid : Prop := quotaSaysRow.holds Try.pinned (OpenSpec.ofChange quotaSaysSpec)

/-- ITS FALSE NEIGHBOUR: 'it returns false'. Refute it at one input. -/
def quotaSaysWrong : ChangeSpec := { name := "quotaSays", fn := fun _ => fun
  | [d1, d2, d3] => { results := [.lit (.bool false)], args := [d1, d2, d3] }
  | _ => none }
def QuotaSaysWrongFalsely : Prop := quotaSaysRow.holds Try.pinned (OpenSpec.ofChange quotaSaysWrong)

/-- 'idshifttop.TopRights': WHATEVER THE INPUT: true; the input reads as it did. -/
def topRightsSpec : ChangeSpec := { name := "topRights", fn := fun _ => fun
  | [d1, d2, d3, d4, d5, d6] => { results := [.lit (.bool true)], args := [d1, d2, d3, d4, d5, d6] }
  | _ => none }
def topRightsRow : OpenClaim := { program := "ytejkmomfpidnbaa", sum := "33abfb7129dc74f09eaf478cd06f7970c4ad5b8d28e8638ba1d7968044b24849", func := "idshift/idshifttop.TopRights", spec := "topRights", apart := false }
def TopRightsSaid : Prop := topRightsRow.holds Try.pinned (OpenSpec.ofChange topRightsSpec)

/-- ITS FALSE NEIGHBOUR: 'it returns false'. Refute it at one input. -/
def topRightsWrong : ChangeSpec := { name := "topRights", fn := fun _ => fun
  | [d1, d2, d3, d4, d5, d6] => { results := [.lit (.bool false)], args := [d1, d2, d3, d4, d5, d6] }
  | _ => none }
def TopRightsWrongFalsely : Prop := topRightsRow.holds Try.pinned (OpenSpec.ofChange topRightsWrong)

/-- 'idshiftlaw.PathSays': WHATEVER THE INPUT: true; the input reads as it did. -/
def pathSaysSpec : ChangeSpec := { name := "pathSays", fn := fun _ => fun
  | [d1, d2, d3] => { results := [.lit (.bool true)], args := [d1, d2, d3] }
  | _ => none }
def pathSaysRow : OpenClaim := { program := "ytejkmomfpidnbaa", sum := "33abfb7129dc74f09eaf478cd06f7970c4ad5b8d28e8638ba1d7968044b24849", func := "idshift/idshiftlaw.PathSays", spec := "pathSays", inPlace := ["internal/bytealg.IndexByteString", "internal/bytealg.IndexString", "internal/abi.NoEscape", "internal/bytealg.MakeNoZero"], named := ["internal/bytealg.MaxLen"], apart := false }
def PathSaysSaid : Prop := pathSaysRow.holds Try.pinned (OpenSpec.ofChange pathSaysSpec)

/-- ITS FALSE NEIGHBOUR: 'it returns false'. Refute it at one input. -/
def pathSaysWrong : ChangeSpec := { name := "pathSays", fn := fun _ => fun
  | [d1, d2, d3] => { results := [.lit (.bool false)], args := [d1, d2, d3] }
  | _ => none }
def PathSaysWrongFalsely : Prop := pathSaysRow.holds Try.pinned (OpenSpec.ofChange pathSaysWrong)

/-- 'idshiftlaw.CopySays': WHATEVER THE INPUT: true; the input reads as it did. -/
def copySaysSpec : ChangeSpec := { name := "copySays", fn := fun _ => fun
  | [d1, d2, d3, d4] => { results := [.lit (.bool true)], args := [d1, d2, d3, d4] }
  | _ => none }
def copySaysRow : OpenClaim := { program := "ytejkmomfpidnbaa", sum := "33abfb7129dc74f09eaf478cd06f7970c4ad5b8d28e8638ba1d7968044b24849", func := "idshift/idshiftlaw.CopySays", spec := "copySays", unfollowed := true, recurses := true, loops := true, apart := false }
def CopySaysSaid : Prop := copySaysRow.holds Try.pinned (OpenSpec.ofChange copySaysSpec)

/-- ITS FALSE NEIGHBOUR: 'it returns false'. Refute it at one input. -/
def copySaysWrong : ChangeSpec := { name := "copySays", fn := fun _ => fun
  | [d1, d2, d3, d4] => { results := [.lit (.bool false)], args := [d1, d2, d3, d4] }
  | _ => none }
def CopySaysWrongFalsely : Prop := copySaysRow.holds Try.pinned (OpenSpec.ofChange copySaysWrong)

/-- 'idshiftlaw.TreeReads': WHATEVER THE INPUT: true; the input reads as it did. -/
def treeReadsSpec : ChangeSpec := { name := "treeReads", fn := fun _ => fun
  | [d1, d2] => { results := [.lit (.bool true)], args := [d1, d2] }
  | _ => none }
def treeReadsRow : OpenClaim := { program := "ytejkmomfpidnbaa", sum := "33abfb7129dc74f09eaf478cd06f7970c4ad5b8d28e8638ba1d7968044b24849", func := "idshift/idshiftlaw.TreeReads", spec := "treeReads", inPlace := ["internal/abi.NoEscape"], unfollowed := true, recurses := true, apart := false }
def TreeReadsSaid : Prop := treeReadsRow.holds Try.pinned (OpenSpec.ofChange treeReadsSpec)

/-- ITS FALSE NEIGHBOUR: 'it returns false'. Refute it at one input. -/
def treeReadsWrong : ChangeSpec := { name := "treeReads", fn := fun _ => fun
  | [d1, d2] => { results := [.lit (.bool false)], args := [d1, d2] }
  | _ => none }
def TreeReadsWrongFalsely : Prop := treeReadsRow.holds Try.pinned (OpenSpec.ofChange treeReadsWrong)

/- THE SECOND FORM. 'bulk': how many values and letters a reading holds, each counted each time it is reached (what is shared counts as often as it is met; a slice's spare places count too). A statement '..UptoSaid' is the law's where the arguments, and the package variables that the reading takes, are together of bulk at most 1048576: NARROWER than '..Said'. Prove '..Said' where nothing that the law and all that it calls make is longer than what came in: it says more and counts as full. Else prove '..UptoSaid'. A law counts once. -/
mutual
def uptoBulk {H : Type} : DataW H → Nat
  | .lit (.string bytes) => bytes.length + 1
  | .lit _ => 1
  | .nil => 1
  | .ptr d => uptoBulk d + 1
  | .slice elems spare => uptoBulkAll elems + uptoBulkAll spare + 1
  | .agg parts => uptoBulkAll parts + 1
  | .iface _ d => uptoBulk d + 1
  | .map entries => uptoBulkEntries entries + 1
  | .held _ => 1
def uptoBulkAll {H : Type} : List (DataW H) → Nat
  | [] => 0
  | d :: r => uptoBulk d + uptoBulkAll r
def uptoBulkEntries {H : Type} : List (Lit × DataW H) → Nat
  | [] => 0
  | x :: r => uptoBulkEntry x + uptoBulkEntries r
def uptoBulkEntry {H : Type} : Lit × DataW H → Nat
  | (.string bytes, d) => bytes.length + uptoBulk d + 1
  | (_, d) => uptoBulk d + 1
 end
def uptoSmall : (H : Type) → List (DataW H) → Bool := fun _ ds => decide (uptoBulkAll ds ≤ 1048576)
def OpenSpec.upto (s : _root_.Go.ChangeSpec) : _root_.Go.OpenSpec := { _root_.Go.OpenSpec.ofChange s with cond := some uptoSmall }

/-- 'idshiftlaw.PermSays', WHERE WHAT IT READS IS OF BULK AT MOST 1048576: true; the input reads as it did. -/
def permSaysUptoRow : OpenClaim := { program := "ytejkmomfpidnbaa", sum := "33abfb7129dc74f09eaf478cd06f7970c4ad5b8d28e8638ba1d7968044b24849", func := "idshift/idshiftlaw.PermSays", spec := "permSays", apart := false, narrowed := true }
def PermSaysUptoSaid : Prop := permSaysUptoRow.holds Try.pinned (OpenSpec.upto permSaysSpec)

/-- 'idshiftlaw.DiskSays', WHERE WHAT IT READS IS OF BULK AT MOST 1048576: true; the input reads as it did. -/
def diskSaysUptoRow : OpenClaim := { program := "ytejkmomfpidnbaa", sum := "33abfb7129dc74f09eaf478cd06f7970c4ad5b8d28e8638ba1d7968044b24849", func := "idshift/idshiftlaw.DiskSays", spec := "diskSays", apart := false, narrowed := true }
def DiskSaysUptoSaid : Prop := diskSaysUptoRow.holds Try.pinned (OpenSpec.upto diskSaysSpec)

/-- 'idshiftlaw.CredSays', WHERE WHAT IT READS IS OF BULK AT MOST 1048576: true; the input reads as it did. -/
def credSaysUptoRow : OpenClaim := { program := "ytejkmomfpidnbaa", sum := "33abfb7129dc74f09eaf478cd06f7970c4ad5b8d28e8638ba1d7968044b24849", func := "idshift/idshiftlaw.CredSays", spec := "credSays", apart := false, narrowed := true }
def CredSaysUptoSaid : Prop := credSaysUptoRow.holds Try.pinned (OpenSpec.upto credSaysSpec)

/-- 'idshiftlaw.IdmapSays', WHERE WHAT IT READS IS OF BULK AT MOST 1048576: true; the input reads as it did. -/
def idmapSaysUptoRow : OpenClaim := { program := "ytejkmomfpidnbaa", sum := "33abfb7129dc74f09eaf478cd06f7970c4ad5b8d28e8638ba1d7968044b24849", func := "idshift/idshiftlaw.IdmapSays", spec := "idmapSays", unfollowed := true, recurses := true, apart := false, narrowed := true }
def IdmapSaysUptoSaid : Prop := idmapSaysUptoRow.holds Try.pinned (OpenSpec.upto idmapSaysSpec)

/-- 'idshiftlaw.AttrSays', WHERE WHAT IT READS IS OF BULK AT MOST 1048576: true; the input reads as it did. -/
def attrSaysUptoRow : OpenClaim := { program := "ytejkmomfpidnbaa", sum := "33abfb7129dc74f09eaf478cd06f7970c4ad5b8d28e8638ba1d7968044b24849", func := "idshift/idshiftlaw.AttrSays", spec := "attrSays", unfollowed := true, recurses := true, apart := false, narrowed := true }
def AttrSaysUptoSaid : Prop := attrSaysUptoRow.holds Try.pinned (OpenSpec.upto attrSaysSpec)

/-- 'idshiftlaw.TreeSays', WHERE WHAT IT READS IS OF BULK AT MOST 1048576: true; the input reads as it did. -/
def treeSaysUptoRow : OpenClaim := { program := "ytejkmomfpidnbaa", sum := "33abfb7129dc74f09eaf478cd06f7970c4ad5b8d28e8638ba1d7968044b24849", func := "idshift/idshiftlaw.TreeSays", spec := "treeSays", unfollowed := true, recurses := true, loops := true, apart := false, narrowed := true }
def TreeSaysUptoSaid : Prop := treeSaysUptoRow.holds Try.pinned (OpenSpec.upto treeSaysSpec)

/-- 'idshiftlaw.QuotaSays', WHERE WHAT IT READS IS OF BULK AT MOST 1048576: true; the input reads as it did. -/
def quotaSaysUptoRow : OpenClaim := { program := "ytejkmomfpidnbaa", sum := "33abfb7129dc74f09eaf478cd06f7970c4ad5b8d28e8638ba1d7968044b24849", func := "idshift/idshiftlaw.QuotaSays", spec := "quotaSays", inPlace := ["internal/abi.NoEscape"], recurses := true, loops := true, apart := false, narrowed := true }
def QuotaSaysUptoSaid : Prop := quotaSaysUptoRow.holds Try.pinned (OpenSpec.upto quotaSaysSpec)

/-- 'idshifttop.TopRights', WHERE WHAT IT READS IS OF BULK AT MOST 1048576: true; the input reads as it did. -/
def topRightsUptoRow : OpenClaim := { program := "ytejkmomfpidnbaa", sum := "33abfb7129dc74f09eaf478cd06f7970c4ad5b8d28e8638ba1d7968044b24849", func := "idshift/idshifttop.TopRights", spec := "topRights", apart := false, narrowed := true }
def TopRightsUptoSaid : Prop := topRightsUptoRow.holds Try.pinned (OpenSpec.upto topRightsSpec)

/-- 'idshiftlaw.PathSays', WHERE WHAT IT READS IS OF BULK AT MOST 1048576: true; the input reads as it did. -/
def pathSaysUptoRow : OpenClaim := { program := "ytejkmomfpidnbaa", sum := "33abfb7129dc74f09eaf478cd06f7970c4ad5b8d28e8638ba1d7968044b24849", func := "idshift/idshiftlaw.PathSays", spec := "pathSays", inPlace := ["internal/bytealg.IndexByteString", "internal/bytealg.IndexString", "internal/abi.NoEscape", "internal/bytealg.MakeNoZero"], named := ["internal/bytealg.MaxLen"], apart := false, narrowed := true }
def PathSaysUptoSaid : Prop := pathSaysUptoRow.holds Try.pinned (OpenSpec.upto pathSaysSpec)

/-- 'idshiftlaw.CopySays', WHERE WHAT IT READS IS OF BULK AT MOST 1048576: true; the input reads as it did. -/
def copySaysUptoRow : OpenClaim := { program := "ytejkmomfpidnbaa", sum := "33abfb7129dc74f09eaf478cd06f7970c4ad5b8d28e8638ba1d7968044b24849", func := "idshift/idshiftlaw.CopySays", spec := "copySays", unfollowed := true, recurses := true, loops := true, apart := false, narrowed := true }
def CopySaysUptoSaid : Prop := copySaysUptoRow.holds Try.pinned (OpenSpec.upto copySaysSpec)

/-- 'idshiftlaw.TreeReads', WHERE WHAT IT READS IS OF BULK AT MOST 1048576: true; the input reads as it did. -/
def treeReadsUptoRow : OpenClaim := { program := "ytejkmomfpidnbaa", sum := "33abfb7129dc74f09eaf478cd06f7970c4ad5b8d28e8638ba1d7968044b24849", func := "idshift/idshiftlaw.TreeReads", spec := "treeReads", inPlace := ["internal/abi.NoEscape"], unfollowed := true, recurses := true, apart := false, narrowed := true }
def TreeReadsUptoSaid : Prop := treeReadsUptoRow.holds Try.pinned (OpenSpec.upto treeReadsSpec)

end Rows
end Go.Proofs.Ytejkmomfpidnbaa
