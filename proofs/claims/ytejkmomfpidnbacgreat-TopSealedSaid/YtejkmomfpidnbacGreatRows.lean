/-
  NARROWER THAN 'FOR EVERY INPUT', by the rows' own cells (each row's printed sentence says how): TopOwned: loops · TopQuota: loops · TopRoom: loops · TopSealed: loops · TopApart: loops · TopPower: loops.
  DERIVED. THE GIVEN ROWS OF THIS SEAT. 6 by the template 'for every input the law returns true; each argument reads behind the call as it read before'; 0 by the template 'total and deterministic' (their statements: YtejkmomfpidnbacGreatTotals.lean).
  GIVEN WITH THE SEED: the statements are not yours to turn. If you find one false, say at which input.
  Laid BY PROGRAM, IN A SANDBOX (cutbox-rows.mjs): the forced cells as the released guide's own fill.sh prints them over the translation a95ac130b6f10dec… (all of the seat's roots in one cut). By AI agents, Wed Nov 11 2026. No macro, syntax, notation, axiom, sorry.
-/
import Derived.Test.YtejkmomfpidnbacGreatChecked
import GoSem.Claim
import GoSem.ClaimJoined
import GoSem.ClaimMapViews
import Derived.JoinedTies
import Derived.KernelRfl
namespace Go.Proofs.YtejkmomfpidnbacGreat
/- THE CELL 'sum', in the pinned program and in every row, IS THE sha256 OF THE DUMP (.gsa) THAT YtejkmomfpidnbacGreatProg.lean LOADS. Nothing in Lean hashes anything: it is a label: what it is worth is what the hold of that sum in a sandbox is worth. -/
noncomputable def Tryz.pinned : Pinned := { name := "ytejkmomfpidnbacgreat", sum := "a95ac130b6f10decace62a26ebd96c663a55bbd4dc15f2c28ece42cc1ab43eba", checked := Tryz.checked }
namespace Rows
def none {H : Type} : Left H := { results := [], args := [] }

/-- 'idshifttop.TopOwned': WHATEVER THE INPUT: true; the input reads as it did. -/
def topOwnedSpec : ChangeSpec := { name := "topOwned", fn := fun _ => fun
  | [d1, d2, d3] => { results := [.lit (.bool true)], args := [d1, d2, d3] }
  | _ => none }
def topOwnedRow : OpenClaim := { program := "ytejkmomfpidnbacgreat", sum := "a95ac130b6f10decace62a26ebd96c663a55bbd4dc15f2c28ece42cc1ab43eba", func := "idshift/idshifttop.TopOwned", spec := "topOwned", inPlace := ["internal/bytealg.IndexByteString", "internal/bytealg.IndexString", "internal/abi.NoEscape"], unfollowed := true, recurses := true, named := ["internal/bytealg.MaxLen"], loops := true, apart := false }
def TopOwnedSaid : Prop := topOwnedRow.holds Tryz.pinned (OpenSpec.ofChange topOwnedSpec)

/-- ITS FALSE NEIGHBOUR: 'it returns false'. Refute it at one input. -/
def topOwnedWrong : ChangeSpec := { name := "topOwned", fn := fun _ => fun
  | [d1, d2, d3] => { results := [.lit (.bool false)], args := [d1, d2, d3] }
  | _ => none }
def TopOwnedWrongFalsely : Prop := topOwnedRow.holds Tryz.pinned (OpenSpec.ofChange topOwnedWrong)

/-- 'idshifttop.TopQuota': WHATEVER THE INPUT: true; the input reads as it did. -/
def topQuotaSpec : ChangeSpec := { name := "topQuota", fn := fun _ => fun
  | [d1, d2, d3] => { results := [.lit (.bool true)], args := [d1, d2, d3] }
  | _ => none }
def topQuotaRow : OpenClaim := { program := "ytejkmomfpidnbacgreat", sum := "a95ac130b6f10decace62a26ebd96c663a55bbd4dc15f2c28ece42cc1ab43eba", func := "idshift/idshifttop.TopQuota", spec := "topQuota", inPlace := ["internal/abi.NoEscape", "internal/bytealg.IndexByteString", "internal/bytealg.IndexString"], unfollowed := true, recurses := true, named := ["internal/bytealg.MaxLen"], loops := true, apart := false }
def TopQuotaSaid : Prop := topQuotaRow.holds Tryz.pinned (OpenSpec.ofChange topQuotaSpec)

/-- ITS FALSE NEIGHBOUR: 'it returns false'. Refute it at one input. -/
def topQuotaWrong : ChangeSpec := { name := "topQuota", fn := fun _ => fun
  | [d1, d2, d3] => { results := [.lit (.bool false)], args := [d1, d2, d3] }
  | _ => none }
def TopQuotaWrongFalsely : Prop := topQuotaRow.holds Tryz.pinned (OpenSpec.ofChange topQuotaWrong)

/-- 'idshifttop.TopRoom': WHATEVER THE INPUT: true; the input reads as it did. -/
def topRoomSpec : ChangeSpec := { name := "topRoom", fn := fun _ => fun
  | [d1, d2] => { results := [.lit (.bool true)], args := [d1, d2] }
  | _ => none }
def topRoomRow : OpenClaim := { program := "ytejkmomfpidnbacgreat", sum := "a95ac130b6f10decace62a26ebd96c663a55bbd4dc15f2c28ece42cc1ab43eba", func := "idshift/idshifttop.TopRoom", spec := "topRoom", inPlace := ["internal/abi.NoEscape", "internal/bytealg.IndexByteString", "internal/bytealg.IndexString"], unfollowed := true, recurses := true, named := ["internal/bytealg.MaxLen"], loops := true, apart := false }
def TopRoomSaid : Prop := topRoomRow.holds Tryz.pinned (OpenSpec.ofChange topRoomSpec)

/-- ITS FALSE NEIGHBOUR: 'it returns false'. Refute it at one input. -/
def topRoomWrong : ChangeSpec := { name := "topRoom", fn := fun _ => fun
  | [d1, d2] => { results := [.lit (.bool false)], args := [d1, d2] }
  | _ => none }
def TopRoomWrongFalsely : Prop := topRoomRow.holds Tryz.pinned (OpenSpec.ofChange topRoomWrong)

/-- 'idshifttop.TopSealed': WHATEVER THE INPUT: true; the input reads as it did. -/
def topSealedSpec : ChangeSpec := { name := "topSealed", fn := fun _ => fun
  | [d1, d2] => { results := [.lit (.bool true)], args := [d1, d2] }
  | _ => none }
def topSealedRow : OpenClaim := { program := "ytejkmomfpidnbacgreat", sum := "a95ac130b6f10decace62a26ebd96c663a55bbd4dc15f2c28ece42cc1ab43eba", func := "idshift/idshifttop.TopSealed", spec := "topSealed", inPlace := ["internal/abi.NoEscape", "internal/bytealg.IndexByteString", "internal/bytealg.IndexString"], unfollowed := true, recurses := true, named := ["internal/bytealg.MaxLen"], loops := true, apart := false }
def TopSealedSaid : Prop := topSealedRow.holds Tryz.pinned (OpenSpec.ofChange topSealedSpec)

/-- ITS FALSE NEIGHBOUR: 'it returns false'. Refute it at one input. -/
def topSealedWrong : ChangeSpec := { name := "topSealed", fn := fun _ => fun
  | [d1, d2] => { results := [.lit (.bool false)], args := [d1, d2] }
  | _ => none }
def TopSealedWrongFalsely : Prop := topSealedRow.holds Tryz.pinned (OpenSpec.ofChange topSealedWrong)

/-- 'idshifttop.TopApart': WHATEVER THE INPUT: true; the input reads as it did. -/
def topApartSpec : ChangeSpec := { name := "topApart", fn := fun _ => fun
  | [d1, d2, d3] => { results := [.lit (.bool true)], args := [d1, d2, d3] }
  | _ => none }
def topApartRow : OpenClaim := { program := "ytejkmomfpidnbacgreat", sum := "a95ac130b6f10decace62a26ebd96c663a55bbd4dc15f2c28ece42cc1ab43eba", func := "idshift/idshifttop.TopApart", spec := "topApart", inPlace := ["internal/abi.NoEscape", "internal/bytealg.IndexByteString", "internal/bytealg.IndexString"], unfollowed := true, recurses := true, named := ["internal/bytealg.MaxLen"], loops := true, apart := false }
def TopApartSaid : Prop := topApartRow.holds Tryz.pinned (OpenSpec.ofChange topApartSpec)

/-- ITS FALSE NEIGHBOUR: 'it returns false'. Refute it at one input. -/
def topApartWrong : ChangeSpec := { name := "topApart", fn := fun _ => fun
  | [d1, d2, d3] => { results := [.lit (.bool false)], args := [d1, d2, d3] }
  | _ => none }
def TopApartWrongFalsely : Prop := topApartRow.holds Tryz.pinned (OpenSpec.ofChange topApartWrong)

/-- 'idshifttop.TopPower': WHATEVER THE INPUT: true; the input reads as it did. -/
def topPowerSpec : ChangeSpec := { name := "topPower", fn := fun _ => fun
  | [d1, d2] => { results := [.lit (.bool true)], args := [d1, d2] }
  | _ => none }
def topPowerRow : OpenClaim := { program := "ytejkmomfpidnbacgreat", sum := "a95ac130b6f10decace62a26ebd96c663a55bbd4dc15f2c28ece42cc1ab43eba", func := "idshift/idshifttop.TopPower", spec := "topPower", inPlace := ["internal/abi.NoEscape", "internal/bytealg.IndexByteString", "internal/bytealg.IndexString"], unfollowed := true, recurses := true, named := ["internal/bytealg.MaxLen"], loops := true, apart := false }
def TopPowerSaid : Prop := topPowerRow.holds Tryz.pinned (OpenSpec.ofChange topPowerSpec)

/-- ITS FALSE NEIGHBOUR: 'it returns false'. Refute it at one input. -/
def topPowerWrong : ChangeSpec := { name := "topPower", fn := fun _ => fun
  | [d1, d2] => { results := [.lit (.bool false)], args := [d1, d2] }
  | _ => none }
def TopPowerWrongFalsely : Prop := topPowerRow.holds Tryz.pinned (OpenSpec.ofChange topPowerWrong)

/- THE SECOND FORM. 'bulk': how many values and letters a reading holds, each counted each time it is reached (what is shared counts as often as it is met; a slice's spare places count too). A statement '..UptoSaid' is the law's where the arguments, and the package variables that the reading takes, are together of bulk at most 1048576: NARROWER than '..Said'. Prove '..Said' where nothing that the law and all that it calls make is longer than what came in: it says more and counts as full. Else prove '..UptoSaid'. A law counts once. -/
mutual
def uptoBulk {H : Type} : DataW H → Nat
  | .lit (.string bytes) => bytes.length + 1
  | .lit _ => 1
  | .nil => 1
  | .ptr d => uptoBulk d + 1
  | .slice elems spare => uptoBulkAll elems + uptoBulkAll spare + 1
  | .agg parts => uptoBulkAll parts + 1
  | .iface _ d => uptoBulk d + 1
  | .map entries => uptoBulkEntries entries + 1
  | .held _ => 1
def uptoBulkAll {H : Type} : List (DataW H) → Nat
  | [] => 0
  | d :: r => uptoBulk d + uptoBulkAll r
def uptoBulkEntries {H : Type} : List (Lit × DataW H) → Nat
  | [] => 0
  | x :: r => uptoBulkEntry x + uptoBulkEntries r
def uptoBulkEntry {H : Type} : Lit × DataW H → Nat
  | (.string bytes, d) => bytes.length + uptoBulk d + 1
  | (_, d) => uptoBulk d + 1
 end
def uptoSmall : (H : Type) → List (DataW H) → Bool := fun _ ds => decide (uptoBulkAll ds ≤ 1048576)
def OpenSpec.upto (s : _root_.Go.ChangeSpec) : _root_.Go.OpenSpec := { _root_.Go.OpenSpec.ofChange s with cond := some uptoSmall }

/-- 'idshifttop.TopOwned', WHERE WHAT IT READS IS OF BULK AT MOST 1048576: true; the input reads as it did. -/
def topOwnedUptoRow : OpenClaim := { program := "ytejkmomfpidnbacgreat", sum := "a95ac130b6f10decace62a26ebd96c663a55bbd4dc15f2c28ece42cc1ab43eba", func := "idshift/idshifttop.TopOwned", spec := "topOwned", inPlace := ["internal/bytealg.IndexByteString", "internal/bytealg.IndexString", "internal/abi.NoEscape"], unfollowed := true, recurses := true, named := ["internal/bytealg.MaxLen"], loops := true, apart := false, narrowed := true }
def TopOwnedUptoSaid : Prop := topOwnedUptoRow.holds Tryz.pinned (OpenSpec.upto topOwnedSpec)

/-- 'idshifttop.TopQuota', WHERE WHAT IT READS IS OF BULK AT MOST 1048576: true; the input reads as it did. -/
def topQuotaUptoRow : OpenClaim := { program := "ytejkmomfpidnbacgreat", sum := "a95ac130b6f10decace62a26ebd96c663a55bbd4dc15f2c28ece42cc1ab43eba", func := "idshift/idshifttop.TopQuota", spec := "topQuota", inPlace := ["internal/abi.NoEscape", "internal/bytealg.IndexByteString", "internal/bytealg.IndexString"], unfollowed := true, recurses := true, named := ["internal/bytealg.MaxLen"], loops := true, apart := false, narrowed := true }
def TopQuotaUptoSaid : Prop := topQuotaUptoRow.holds Tryz.pinned (OpenSpec.upto topQuotaSpec)

/-- 'idshifttop.TopRoom', WHERE WHAT IT READS IS OF BULK AT MOST 1048576: true; the input reads as it did. -/
def topRoomUptoRow : OpenClaim := { program := "ytejkmomfpidnbacgreat", sum := "a95ac130b6f10decace62a26ebd96c663a55bbd4dc15f2c28ece42cc1ab43eba", func := "idshift/idshifttop.TopRoom", spec := "topRoom", inPlace := ["internal/abi.NoEscape", "internal/bytealg.IndexByteString", "internal/bytealg.IndexString"], unfollowed := true, recurses := true, named := ["internal/bytealg.MaxLen"], loops := true, apart := false, narrowed := true }
def TopRoomUptoSaid : Prop := topRoomUptoRow.holds Tryz.pinned (OpenSpec.upto topRoomSpec)

/-- 'idshifttop.TopSealed', WHERE WHAT IT READS IS OF BULK AT MOST 1048576: true; the input reads as it did. -/
def topSealedUptoRow : OpenClaim := { program := "ytejkmomfpidnbacgreat", sum := "a95ac130b6f10decace62a26ebd96c663a55bbd4dc15f2c28ece42cc1ab43eba", func := "idshift/idshifttop.TopSealed", spec := "topSealed", inPlace := ["internal/abi.NoEscape", "internal/bytealg.IndexByteString", "internal/bytealg.IndexString"], unfollowed := true, recurses := true, named := ["internal/bytealg.MaxLen"], loops := true, apart := false, narrowed := true }
def TopSealedUptoSaid : Prop := topSealedUptoRow.holds Tryz.pinned (OpenSpec.upto topSealedSpec)

/-- 'idshifttop.TopApart', WHERE WHAT IT READS IS OF BULK AT MOST 1048576: true; the input reads as it did. -/
def topApartUptoRow : OpenClaim := { program := "ytejkmomfpidnbacgreat", sum := "a95ac130b6f10decace62a26ebd96c663a55bbd4dc15f2c28ece42cc1ab43eba", func := "idshift/idshifttop.TopApart", spec := "topApart", inPlace := ["internal/abi.NoEscape", "internal/bytealg.IndexByteString", "internal/bytealg.IndexString"], unfollowed := true, recurses := true, named := ["internal/bytealg.MaxLen"], loops := true, apart := false, narrowed := true }
def TopApartUptoSaid : Prop := topApartUptoRow.holds Tryz.pinned (OpenSpec.upto topApartSpec)

/-- 'idshifttop.TopPower', WHERE WHAT IT READS IS OF BULK AT MOST 1048576: true; the input reads as it did. -/
def topPowerUptoRow : OpenClaim := { program := "ytejkmomfpidnbacgreat", sum := "a95ac130b6f10decace62a26ebd96c663a55bbd4dc15f2c28ece42cc1ab43eba", func := "idshift/idshifttop.TopPower", spec := "topPower", inPlace := ["internal/abi.NoEscape", "internal/bytealg.IndexByteString", "internal/bytealg.IndexString"], unfollowed := true, recurses := true, named := ["internal/bytealg.MaxLen"], loops := true, apart := false, narrowed := true }
def TopPowerUptoSaid : Prop := topPowerUptoRow.holds Tryz.pinned (OpenSpec.upto topPowerSpec)

end Rows
end Go.Proofs.YtejkmomfpidnbacGreat
