/-
  NARROWER THAN 'FOR EVERY INPUT', by the rows' own cells (each row's printed sentence says how): BoxSays: loops · BoxCopies: loops · BoxLoads: loops · HostSays: loops · HostOpens: loops.
  DERIVED. THE GIVEN ROWS OF THIS SEAT. 5 by the template 'for every input the law returns true; each argument reads behind the call as it read before'; 0 by the template 'total and deterministic' (their statements: YtejkmomfpidnbabGreatTotals.lean).
  GIVEN WITH THE SEED: the statements are not yours to turn. If you find one false, say at which input.
  Laid BY PROGRAM, IN A SANDBOX (cutbox-rows.mjs): the forced cells as the released guide's own fill.sh prints them over the translation d8d9bbe320789390… (all of the seat's roots in one cut). By AI agents, Wed Nov 11 2026. No macro, syntax, notation, axiom, sorry.
-/
import Derived.Test.YtejkmomfpidnbabGreatChecked
import GoSem.Claim
import GoSem.ClaimJoined
import GoSem.ClaimMapViews
import Derived.JoinedTies
import Derived.KernelRfl
namespace Go.Proofs.YtejkmomfpidnbabGreat
/- THE CELL 'sum', in the pinned program and in every row, IS THE sha256 OF THE DUMP (.gsa) THAT YtejkmomfpidnbabGreatProg.lean LOADS. Nothing in Lean hashes anything: it is a label: what it is worth is what the hold of that sum in a sandbox is worth. -/
noncomputable def Tryz.pinned : Pinned := { name := "ytejkmomfpidnbabgreat", sum := "d8d9bbe3207893909193c64f9da8bc85c6412032099341fb880538bf04d4589a", checked := Tryz.checked }
namespace Rows
def none {H : Type} : Left H := { results := [], args := [] }

/-- 'idshiftlaw.BoxSays': WHATEVER THE INPUT: true; the input reads as it did. -/
def boxSaysSpec : ChangeSpec := { name := "boxSays", fn := fun _ => fun
  | [d1, d2, d3] => { results := [.lit (.bool true)], args := [d1, d2, d3] }
  | _ => none }
def boxSaysRow : OpenClaim := { program := "ytejkmomfpidnbabgreat", sum := "d8d9bbe3207893909193c64f9da8bc85c6412032099341fb880538bf04d4589a", func := "idshift/idshiftlaw.BoxSays", spec := "boxSays", inPlace := ["internal/bytealg.IndexByteString", "internal/bytealg.IndexString", "internal/abi.NoEscape"], unfollowed := true, recurses := true, named := ["internal/bytealg.MaxLen"], loops := true, apart := false }
def BoxSaysSaid : Prop := boxSaysRow.holds Tryz.pinned (OpenSpec.ofChange boxSaysSpec)

/-- ITS FALSE NEIGHBOUR: 'it returns false'. Refute it at one input. -/
def boxSaysWrong : ChangeSpec := { name := "boxSays", fn := fun _ => fun
  | [d1, d2, d3] => { results := [.lit (.bool false)], args := [d1, d2, d3] }
  | _ => none }
def BoxSaysWrongFalsely : Prop := boxSaysRow.holds Tryz.pinned (OpenSpec.ofChange boxSaysWrong)

/-- 'idshiftlaw.BoxCopies': WHATEVER THE INPUT: true; the input reads as it did. -/
def boxCopiesSpec : ChangeSpec := { name := "boxCopies", fn := fun _ => fun
  | [d1, d2, d3, d4] => { results := [.lit (.bool true)], args := [d1, d2, d3, d4] }
  | _ => none }
def boxCopiesRow : OpenClaim := { program := "ytejkmomfpidnbabgreat", sum := "d8d9bbe3207893909193c64f9da8bc85c6412032099341fb880538bf04d4589a", func := "idshift/idshiftlaw.BoxCopies", spec := "boxCopies", inPlace := ["internal/bytealg.IndexByteString", "internal/bytealg.IndexString", "internal/abi.NoEscape"], unfollowed := true, recurses := true, named := ["internal/bytealg.MaxLen"], loops := true, apart := false }
def BoxCopiesSaid : Prop := boxCopiesRow.holds Tryz.pinned (OpenSpec.ofChange boxCopiesSpec)

/-- ITS FALSE NEIGHBOUR: 'it returns false'. Refute it at one input. -/
def boxCopiesWrong : ChangeSpec := { name := "boxCopies", fn := fun _ => fun
  | [d1, d2, d3, d4] => { results := [.lit (.bool false)], args := [d1, d2, d3, d4] }
  | _ => none }
def BoxCopiesWrongFalsely : Prop := boxCopiesRow.holds Tryz.pinned (OpenSpec.ofChange boxCopiesWrong)

/-- 'idshiftlaw.BoxLoads': WHATEVER THE INPUT: true; the input reads as it did. -/
def boxLoadsSpec : ChangeSpec := { name := "boxLoads", fn := fun _ => fun
  | [d1, d2, d3, d4] => { results := [.lit (.bool true)], args := [d1, d2, d3, d4] }
  | _ => none }
def boxLoadsRow : OpenClaim := { program := "ytejkmomfpidnbabgreat", sum := "d8d9bbe3207893909193c64f9da8bc85c6412032099341fb880538bf04d4589a", func := "idshift/idshiftlaw.BoxLoads", spec := "boxLoads", inPlace := ["internal/bytealg.IndexByteString", "internal/bytealg.IndexString", "internal/abi.NoEscape"], unfollowed := true, recurses := true, named := ["internal/bytealg.MaxLen"], loops := true, apart := false }
def BoxLoadsSaid : Prop := boxLoadsRow.holds Tryz.pinned (OpenSpec.ofChange boxLoadsSpec)

/-- ITS FALSE NEIGHBOUR: 'it returns false'. Refute it at one input. -/
def boxLoadsWrong : ChangeSpec := { name := "boxLoads", fn := fun _ => fun
  | [d1, d2, d3, d4] => { results := [.lit (.bool false)], args := [d1, d2, d3, d4] }
  | _ => none }
def BoxLoadsWrongFalsely : Prop := boxLoadsRow.holds Tryz.pinned (OpenSpec.ofChange boxLoadsWrong)

/-- 'idshiftlaw.HostSays': WHATEVER THE INPUT: true; the input reads as it did. -/
def hostSaysSpec : ChangeSpec := { name := "hostSays", fn := fun _ => fun
  | [d1, d2] => { results := [.lit (.bool true)], args := [d1, d2] }
  | _ => none }
def hostSaysRow : OpenClaim := { program := "ytejkmomfpidnbabgreat", sum := "d8d9bbe3207893909193c64f9da8bc85c6412032099341fb880538bf04d4589a", func := "idshift/idshiftlaw.HostSays", spec := "hostSays", inPlace := ["internal/abi.NoEscape", "internal/bytealg.IndexByteString", "internal/bytealg.IndexString"], unfollowed := true, recurses := true, named := ["internal/bytealg.MaxLen"], loops := true, apart := false }
def HostSaysSaid : Prop := hostSaysRow.holds Tryz.pinned (OpenSpec.ofChange hostSaysSpec)

/-- ITS FALSE NEIGHBOUR: 'it returns false'. Refute it at one input. -/
def hostSaysWrong : ChangeSpec := { name := "hostSays", fn := fun _ => fun
  | [d1, d2] => { results := [.lit (.bool false)], args := [d1, d2] }
  | _ => none }
def HostSaysWrongFalsely : Prop := hostSaysRow.holds Tryz.pinned (OpenSpec.ofChange hostSaysWrong)

/-- 'idshiftlaw.HostOpens': WHATEVER THE INPUT: true; the input reads as it did. -/
def hostOpensSpec : ChangeSpec := { name := "hostOpens", fn := fun _ => fun
  | [d1, d2] => { results := [.lit (.bool true)], args := [d1, d2] }
  | _ => none }
def hostOpensRow : OpenClaim := { program := "ytejkmomfpidnbabgreat", sum := "d8d9bbe3207893909193c64f9da8bc85c6412032099341fb880538bf04d4589a", func := "idshift/idshiftlaw.HostOpens", spec := "hostOpens", inPlace := ["internal/abi.NoEscape", "internal/bytealg.IndexByteString", "internal/bytealg.IndexString"], unfollowed := true, recurses := true, named := ["internal/bytealg.MaxLen"], loops := true, apart := false }
def HostOpensSaid : Prop := hostOpensRow.holds Tryz.pinned (OpenSpec.ofChange hostOpensSpec)

/-- ITS FALSE NEIGHBOUR: 'it returns false'. Refute it at one input. -/
def hostOpensWrong : ChangeSpec := { name := "hostOpens", fn := fun _ => fun
  | [d1, d2] => { results := [.lit (.bool false)], args := [d1, d2] }
  | _ => none }
def HostOpensWrongFalsely : Prop := hostOpensRow.holds Tryz.pinned (OpenSpec.ofChange hostOpensWrong)

/- THE SECOND FORM. 'bulk': how many values and letters a reading holds, each counted each time it is reached (what is shared counts as often as it is met; a slice's spare places count too). A statement '..UptoSaid' is the law's where the arguments, and the package variables that the reading takes, are together of bulk at most 1048576: NARROWER than '..Said'. Prove '..Said' where nothing that the law and all that it calls make is longer than what came in: it says more and counts as full. Else prove '..UptoSaid'. A law counts once. -/
mutual
def uptoBulk {H : Type} : DataW H → Nat
  | .lit (.string bytes) => bytes.length + 1
  | .lit _ => 1
  | .nil => 1
  | .ptr d => uptoBulk d + 1
  | .slice elems spare => uptoBulkAll elems + uptoBulkAll spare + 1
  | .agg parts => uptoBulkAll parts + 1
  | .iface _ d => uptoBulk d + 1
  | .map entries => uptoBulkEntries entries + 1
  | .held _ => 1
def uptoBulkAll {H : Type} : List (DataW H) → Nat
  | [] => 0
  | d :: r => uptoBulk d + uptoBulkAll r
def uptoBulkEntries {H : Type} : List (Lit × DataW H) → Nat
  | [] => 0
  | x :: r => uptoBulkEntry x + uptoBulkEntries r
def uptoBulkEntry {H : Type} : Lit × DataW H → Nat
  | (.string bytes, d) => bytes.length + uptoBulk d + 1
  | (_, d) => uptoBulk d + 1
 end
def uptoSmall : (H : Type) → List (DataW H) → Bool := fun _ ds => decide (uptoBulkAll ds ≤ 1048576)
def OpenSpec.upto (s : _root_.Go.ChangeSpec) : _root_.Go.OpenSpec := { _root_.Go.OpenSpec.ofChange s with cond := some uptoSmall }

/-- 'idshiftlaw.BoxSays', WHERE WHAT IT READS IS OF BULK AT MOST 1048576: true; the input reads as it did. -/
def boxSaysUptoRow : OpenClaim := { program := "ytejkmomfpidnbabgreat", sum := "d8d9bbe3207893909193c64f9da8bc85c6412032099341fb880538bf04d4589a", func := "idshift/idshiftlaw.BoxSays", spec := "boxSays", inPlace := ["internal/bytealg.IndexByteString", "internal/bytealg.IndexString", "internal/abi.NoEscape"], unfollowed := true, recurses := true, named := ["internal/bytealg.MaxLen"], loops := true, apart := false, narrowed := true }
def BoxSaysUptoSaid : Prop := boxSaysUptoRow.holds Tryz.pinned (OpenSpec.upto boxSaysSpec)

/-- 'idshiftlaw.BoxCopies', WHERE WHAT IT READS IS OF BULK AT MOST 1048576: true; the input reads as it did. -/
def boxCopiesUptoRow : OpenClaim := { program := "ytejkmomfpidnbabgreat", sum := "d8d9bbe3207893909193c64f9da8bc85c6412032099341fb880538bf04d4589a", func := "idshift/idshiftlaw.BoxCopies", spec := "boxCopies", inPlace := ["internal/bytealg.IndexByteString", "internal/bytealg.IndexString", "internal/abi.NoEscape"], unfollowed := true, recurses := true, named := ["internal/bytealg.MaxLen"], loops := true, apart := false, narrowed := true }
def BoxCopiesUptoSaid : Prop := boxCopiesUptoRow.holds Tryz.pinned (OpenSpec.upto boxCopiesSpec)

/-- 'idshiftlaw.BoxLoads', WHERE WHAT IT READS IS OF BULK AT MOST 1048576: true; the input reads as it did. -/
def boxLoadsUptoRow : OpenClaim := { program := "ytejkmomfpidnbabgreat", sum := "d8d9bbe3207893909193c64f9da8bc85c6412032099341fb880538bf04d4589a", func := "idshift/idshiftlaw.BoxLoads", spec := "boxLoads", inPlace := ["internal/bytealg.IndexByteString", "internal/bytealg.IndexString", "internal/abi.NoEscape"], unfollowed := true, recurses := true, named := ["internal/bytealg.MaxLen"], loops := true, apart := false, narrowed := true }
def BoxLoadsUptoSaid : Prop := boxLoadsUptoRow.holds Tryz.pinned (OpenSpec.upto boxLoadsSpec)

/-- 'idshiftlaw.HostSays', WHERE WHAT IT READS IS OF BULK AT MOST 1048576: true; the input reads as it did. -/
def hostSaysUptoRow : OpenClaim := { program := "ytejkmomfpidnbabgreat", sum := "d8d9bbe3207893909193c64f9da8bc85c6412032099341fb880538bf04d4589a", func := "idshift/idshiftlaw.HostSays", spec := "hostSays", inPlace := ["internal/abi.NoEscape", "internal/bytealg.IndexByteString", "internal/bytealg.IndexString"], unfollowed := true, recurses := true, named := ["internal/bytealg.MaxLen"], loops := true, apart := false, narrowed := true }
def HostSaysUptoSaid : Prop := hostSaysUptoRow.holds Tryz.pinned (OpenSpec.upto hostSaysSpec)

/-- 'idshiftlaw.HostOpens', WHERE WHAT IT READS IS OF BULK AT MOST 1048576: true; the input reads as it did. -/
def hostOpensUptoRow : OpenClaim := { program := "ytejkmomfpidnbabgreat", sum := "d8d9bbe3207893909193c64f9da8bc85c6412032099341fb880538bf04d4589a", func := "idshift/idshiftlaw.HostOpens", spec := "hostOpens", inPlace := ["internal/abi.NoEscape", "internal/bytealg.IndexByteString", "internal/bytealg.IndexString"], unfollowed := true, recurses := true, named := ["internal/bytealg.MaxLen"], loops := true, apart := false, narrowed := true }
def HostOpensUptoSaid : Prop := hostOpensUptoRow.holds Tryz.pinned (OpenSpec.upto hostOpensSpec)

end Rows
end Go.Proofs.YtejkmomfpidnbabGreat
