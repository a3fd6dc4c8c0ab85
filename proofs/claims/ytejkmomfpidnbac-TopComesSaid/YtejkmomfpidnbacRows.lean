/-
  NARROWER THAN 'FOR EVERY INPUT', by the rows' own cells (each row's printed sentence says how): TopTree: loops · TopMerge: loops · TopComes: loops.
  DERIVED. THE GIVEN ROWS OF THIS SEAT. 5 by the template 'for every input the law returns true; each argument reads behind the call as it read before'; 0 by the template 'total and deterministic' (their statements: YtejkmomfpidnbacTotals.lean).
  GIVEN WITH THE SEED: the statements are not yours to turn. If you find one false, say at which input.
  Laid BY PROGRAM, IN A SANDBOX (cutbox-rows.mjs): the forced cells as the released guide's own fill.sh prints them over the translation f9d8f97bff518161… (all of the seat's roots in one cut). By AI agents, Wed Nov 11 2026. No macro, syntax, notation, axiom, sorry.
-/
import Derived.Test.YtejkmomfpidnbacChecked
import GoSem.Claim
import GoSem.ClaimJoined
import GoSem.ClaimMapViews
import Derived.JoinedTies
import Derived.KernelRfl
namespace Go.Proofs.Ytejkmomfpidnbac
/- THE CELL 'sum', in the pinned program and in every row, IS THE sha256 OF THE DUMP (.gsa) THAT YtejkmomfpidnbacProg.lean LOADS. Nothing in Lean hashes anything: it is a label: what it is worth is what the hold of that sum in a sandbox is worth. -/
noncomputable def Try.pinned : Pinned := { name := "ytejkmomfpidnbac", sum := "f9d8f97bff518161e7a72c8c26a9bcbab3500b5b1c91ef8ecf58f513ccedd13c", checked := Try.checked }
namespace Rows
def none {H : Type} : Left H := { results := [], args := [] }

/-- 'idshifttop.TopAttrs': WHATEVER THE INPUT: true; the input reads as it did. -/
def topAttrsSpec : ChangeSpec := { name := "topAttrs", fn := fun _ => fun
  | [d] => { results := [.lit (.bool true)], args := [d] }
  | _ => none }
def topAttrsRow : OpenClaim := { program := "ytejkmomfpidnbac", sum := "f9d8f97bff518161e7a72c8c26a9bcbab3500b5b1c91ef8ecf58f513ccedd13c", func := "idshift/idshifttop.TopAttrs", spec := "topAttrs", unfollowed := true, recurses := true, apart := false }
def TopAttrsSaid : Prop := topAttrsRow.holds Try.pinned (OpenSpec.ofChange topAttrsSpec)

/-- ITS FALSE NEIGHBOUR: 'it returns false'. Refute it at one input. -/
def topAttrsWrong : ChangeSpec := { name := "topAttrs", fn := fun _ => fun
  | [d] => { results := [.lit (.bool false)], args := [d] }
  | _ => none }
def TopAttrsWrongFalsely : Prop := topAttrsRow.holds Try.pinned (OpenSpec.ofChange topAttrsWrong)

/-- 'idshifttop.TopTree': WHATEVER THE INPUT: true; the input reads as it did. -/
def topTreeSpec : ChangeSpec := { name := "topTree", fn := fun _ => fun
  | [d1, d2, d3, d4] => { results := [.lit (.bool true)], args := [d1, d2, d3, d4] }
  | _ => none }
def topTreeRow : OpenClaim := { program := "ytejkmomfpidnbac", sum := "f9d8f97bff518161e7a72c8c26a9bcbab3500b5b1c91ef8ecf58f513ccedd13c", func := "idshift/idshifttop.TopTree", spec := "topTree", unfollowed := true, recurses := true, loops := true, apart := false }
def TopTreeSaid : Prop := topTreeRow.holds Try.pinned (OpenSpec.ofChange topTreeSpec)

/-- ITS FALSE NEIGHBOUR: 'it returns false'. Refute it at one input. -/
def topTreeWrong : ChangeSpec := { name := "topTree", fn := fun _ => fun
  | [d1, d2, d3, d4] => { results := [.lit (.bool false)], args := [d1, d2, d3, d4] }
  | _ => none }
def TopTreeWrongFalsely : Prop := topTreeRow.holds Try.pinned (OpenSpec.ofChange topTreeWrong)

/-- 'idshifttop.TopPaths': WHATEVER THE INPUT: true; the input reads as it did. -/
def topPathsSpec : ChangeSpec := { name := "topPaths", fn := fun _ => fun
  | [d1, d2] => { results := [.lit (.bool true)], args := [d1, d2] }
  | _ => none }
def topPathsRow : OpenClaim := { program := "ytejkmomfpidnbac", sum := "f9d8f97bff518161e7a72c8c26a9bcbab3500b5b1c91ef8ecf58f513ccedd13c", func := "idshift/idshifttop.TopPaths", spec := "topPaths", inPlace := ["internal/abi.NoEscape", "internal/bytealg.MakeNoZero", "internal/bytealg.IndexByteString", "internal/bytealg.IndexString"], named := ["internal/bytealg.MaxLen"], apart := false }
def TopPathsSaid : Prop := topPathsRow.holds Try.pinned (OpenSpec.ofChange topPathsSpec)

/-- ITS FALSE NEIGHBOUR: 'it returns false'. Refute it at one input. -/
def topPathsWrong : ChangeSpec := { name := "topPaths", fn := fun _ => fun
  | [d1, d2] => { results := [.lit (.bool false)], args := [d1, d2] }
  | _ => none }
def TopPathsWrongFalsely : Prop := topPathsRow.holds Try.pinned (OpenSpec.ofChange topPathsWrong)

/-- 'idshifttop.TopMerge': WHATEVER THE INPUT: true; the input reads as it did. -/
def topMergeSpec : ChangeSpec := { name := "topMerge", fn := fun _ => fun
  | [d1, d2] => { results := [.lit (.bool true)], args := [d1, d2] }
  | _ => none }
def topMergeRow : OpenClaim := { program := "ytejkmomfpidnbac", sum := "f9d8f97bff518161e7a72c8c26a9bcbab3500b5b1c91ef8ecf58f513ccedd13c", func := "idshift/idshifttop.TopMerge", spec := "topMerge", unfollowed := true, recurses := true, loops := true, apart := false }
def TopMergeSaid : Prop := topMergeRow.holds Try.pinned (OpenSpec.ofChange topMergeSpec)

/-- ITS FALSE NEIGHBOUR: 'it returns false'. Refute it at one input. -/
def topMergeWrong : ChangeSpec := { name := "topMerge", fn := fun _ => fun
  | [d1, d2] => { results := [.lit (.bool false)], args := [d1, d2] }
  | _ => none }
def TopMergeWrongFalsely : Prop := topMergeRow.holds Try.pinned (OpenSpec.ofChange topMergeWrong)

/-- 'idshifttop.TopComes': WHATEVER THE INPUT: true; the input reads as it did. -/
def topComesSpec : ChangeSpec := { name := "topComes", fn := fun _ => fun
  | [d1, d2, d3] => { results := [.lit (.bool true)], args := [d1, d2, d3] }
  | _ => none }
def topComesRow : OpenClaim := { program := "ytejkmomfpidnbac", sum := "f9d8f97bff518161e7a72c8c26a9bcbab3500b5b1c91ef8ecf58f513ccedd13c", func := "idshift/idshifttop.TopComes", spec := "topComes", unfollowed := true, recurses := true, loops := true, apart := false }
def TopComesSaid : Prop := topComesRow.holds Try.pinned (OpenSpec.ofChange topComesSpec)

/-- ITS FALSE NEIGHBOUR: 'it returns false'. Refute it at one input. -/
def topComesWrong : ChangeSpec := { name := "topComes", fn := fun _ => fun
  | [d1, d2, d3] => { results := [.lit (.bool false)], args := [d1, d2, d3] }
  | _ => none }
def TopComesWrongFalsely : Prop := topComesRow.holds Try.pinned (OpenSpec.ofChange topComesWrong)

/- THE SECOND FORM. 'bulk': how many values and letters a reading holds, each counted each time it is reached (what is shared counts as often as it is met; a slice's spare places count too). A statement '..UptoSaid' is the law's where the arguments, and the package variables that the reading takes, are together of bulk at most 1048576: NARROWER than '..Said'. Prove '..Said' where nothing that the law and all that it calls make is longer than what came in: it says more and counts as full. Else prove '..UptoSaid'. A law counts once. -/
mutual
def uptoBulk {H : Type} : DataW H → Nat
  | .lit (.string bytes) => bytes.length + 1
  | .lit _ => 1
  | .nil => 1
  | .ptr d => uptoBulk d + 1
  | .slice elems spare => uptoBulkAll elems + uptoBulkAll spare + 1
  | .agg parts => uptoBulkAll parts + 1
  | .iface _ d => uptoBulk d + 1
  | .map entries => uptoBulkEntries entries + 1
  | .held _ => 1
def uptoBulkAll {H : Type} : List (DataW H) → Nat
  | [] => 0
  | d :: r => uptoBulk d + uptoBulkAll r
def uptoBulkEntries {H : Type} : List (Lit × DataW H) → Nat
  | [] => 0
  | x :: r => uptoBulkEntry x + uptoBulkEntries r
def uptoBulkEntry {H : Type} : Lit × DataW H → Nat
  | (.string bytes, d) => bytes.length + uptoBulk d + 1
  | (_, d) => uptoBulk d + 1
 end
def uptoSmall : (H : Type) → List (DataW H) → Bool := fun _ ds => decide (uptoBulkAll ds ≤ 1048576)
def OpenSpec.upto (s : _root_.Go.ChangeSpec) : _root_.Go.OpenSpec := { _root_.Go.OpenSpec.ofChange s with cond := some uptoSmall }

/-- 'idshifttop.TopAttrs', WHERE WHAT IT READS IS OF BULK AT MOST 1048576: true; the input reads as it did. -/
def topAttrsUptoRow : OpenClaim := { program := "ytejkmomfpidnbac", sum := "f9d8f97bff518161e7a72c8c26a9bcbab3500b5b1c91ef8ecf58f513ccedd13c", func := "idshift/idshifttop.TopAttrs", spec := "topAttrs", unfollowed := true, recurses := true, apart := false, narrowed := true }
def TopAttrsUptoSaid : Prop := topAttrsUptoRow.holds Try.pinned (OpenSpec.upto topAttrsSpec)

/-- 'idshifttop.TopTree', WHERE WHAT IT READS IS OF BULK AT MOST 1048576: true; the input reads as it did. -/
def topTreeUptoRow : OpenClaim := { program := "ytejkmomfpidnbac", sum := "f9d8f97bff518161e7a72c8c26a9bcbab3500b5b1c91ef8ecf58f513ccedd13c", func := "idshift/idshifttop.TopTree", spec := "topTree", unfollowed := true, recurses := true, loops := true, apart := false, narrowed := true }
def TopTreeUptoSaid : Prop := topTreeUptoRow.holds Try.pinned (OpenSpec.upto topTreeSpec)

/-- 'idshifttop.TopPaths', WHERE WHAT IT READS IS OF BULK AT MOST 1048576: true; the input reads as it did. -/
def topPathsUptoRow : OpenClaim := { program := "ytejkmomfpidnbac", sum := "f9d8f97bff518161e7a72c8c26a9bcbab3500b5b1c91ef8ecf58f513ccedd13c", func := "idshift/idshifttop.TopPaths", spec := "topPaths", inPlace := ["internal/abi.NoEscape", "internal/bytealg.MakeNoZero", "internal/bytealg.IndexByteString", "internal/bytealg.IndexString"], named := ["internal/bytealg.MaxLen"], apart := false, narrowed := true }
def TopPathsUptoSaid : Prop := topPathsUptoRow.holds Try.pinned (OpenSpec.upto topPathsSpec)

/-- 'idshifttop.TopMerge', WHERE WHAT IT READS IS OF BULK AT MOST 1048576: true; the input reads as it did. -/
def topMergeUptoRow : OpenClaim := { program := "ytejkmomfpidnbac", sum := "f9d8f97bff518161e7a72c8c26a9bcbab3500b5b1c91ef8ecf58f513ccedd13c", func := "idshift/idshifttop.TopMerge", spec := "topMerge", unfollowed := true, recurses := true, loops := true, apart := false, narrowed := true }
def TopMergeUptoSaid : Prop := topMergeUptoRow.holds Try.pinned (OpenSpec.upto topMergeSpec)

/-- 'idshifttop.TopComes', WHERE WHAT IT READS IS OF BULK AT MOST 1048576: true; the input reads as it did. -/
def topComesUptoRow : OpenClaim := { program := "ytejkmomfpidnbac", sum := "f9d8f97bff518161e7a72c8c26a9bcbab3500b5b1c91ef8ecf58f513ccedd13c", func := "idshift/idshifttop.TopComes", spec := "topComes", unfollowed := true, recurses := true, loops := true, apart := false, narrowed := true }
def TopComesUptoSaid : Prop := topComesUptoRow.holds Try.pinned (OpenSpec.upto topComesSpec)

end Rows
end Go.Proofs.Ytejkmomfpidnbac
