/- From the engine's contracts to a call in a given world. No program is named here. -/
import Derived.Test.YtejkmomfpidnbaaCore
import Derived.Test.YtejkmomfpidnbaaOpen
namespace Go.Proofs.Ytejkmomfpidnbaa
open Go.RowKit
set_option linter.unusedVariables false

/-- All that a world has. -/
def fullV (w : World) : View := fun p => w.cell? p
theorem fullV_in (w : World) : VIn (fullV w) w := fun p x h => h
theorem Fn.any {P : Program} {f : FuncId} {args : List Value} {w : World} {v : Value} (h : Fn P f args (fullV w) fun u _ => u = v) : Calls P f args.toArray w fun e w' => e = .returned v ∧ Ext w w' :=
  (h w (fullV_in w)).mono fun e w' ⟨u, he, hx, _, _, _, _, hu⟩ => ⟨by rw [he, hu], hx⟩
theorem IntsAt.view {w : World} {A : Option Addr} {n : Nat} {xs : List Int} (h : IntsAt w A n xs) : IntsV (fullV w) A n xs := by
  refine ⟨h.1, h.2.1, h.cells.1, fun hn => ?_⟩
  obtain ⟨b, off, ha, hc⟩ := h.cells.2 hn
  exact ⟨b, off, ha, hc⟩
end Go.Proofs.Ytejkmomfpidnbaa
