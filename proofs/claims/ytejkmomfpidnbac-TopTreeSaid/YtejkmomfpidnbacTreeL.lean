/- The walk of the law of package tree, by the engine. -/
import Derived.Test.YtejkmomfpidnbacTreeE14
namespace Go.Proofs.Ytejkmomfpidnbac
open Go.RowKit
set_option linter.unusedSimpArgs false
set_option linter.unusedVariables false
theorem strs_box {V : View} {g : Nat} {s : ByteArray} (h : CellsFrom V g 0 [.string s]) (hs : s.size ≤ maxLen) : StrsV V (some ⟨g, 0, none⟩) 1 [s] := by
  refine ⟨⟨rfl, by unfold maxLen; omega, fun _ => ⟨g, 0, rfl, fun k x hk => ?_⟩⟩, by simpa using hs⟩
  match k, hk with
  | 0, hk => simp at hk; subst hk; exact h
  | k + 1, hk => simp at hk
def dirH : Hd := ⟨2, 0, 0, 0, false, [], ⟨#[]⟩⟩
def dirL : LN := ⟨dirH, none, 0, 0, none, 0, 0, []⟩
def fileL (s : ByteArray) : LN := ⟨⟨1, 0, 0, 0, false, [], s⟩, none, 0, 0, none, 0, 0, []⟩
theorem NodeV.dir {V : View} : NodeV V dirL := NodeV.of (es := []) AttrV.nil (Nat.le_refl _) (Nat.zero_le _) (Nat.le_refl _) ⟨ElsV.nil, by simp⟩ rfl
theorem NodeV.file {V : View} {s : ByteArray} (hs : s.size ≤ maxLen) : NodeV V (fileL s) := NodeV.of (es := []) AttrV.nil (Nat.le_refl _) hs (Nat.le_refl _) ⟨ElsV.nil, by simp⟩ rfl
theorem leaf_any {p : Hd → PKs → Prop} {h : Hd} (hp : p h []) : AllN p (.mk h []) := .mk hp (by simp)
theorem bare_mid : AllN midP dirL.n := leaf_any ⟨by decide, by decide⟩
theorem a_name : nameZ (⟨#[97]⟩ : ByteArray).toList = true := by rw [Lib.toList_data]; decide +kernel
theorem grows_pF {x : PN} : pF false x dirL.n [⟨#[97]⟩] = 0 := by rw [pF_one rfl]; exact editF_put a_name
theorem grows_pN {x : PN} : putP false x dirL.n [⟨#[97]⟩] = .mk dirH [(⟨#[97]⟩, x)] := by
  unfold putP; rw [if_pos grows_pF]; rfl
theorem grows_find {x : PN} : findP (.mk dirH [(⟨#[97]⟩, x)]) [⟨#[97]⟩] = some x := by
  have hi : isAt [((⟨#[97]⟩ : ByteArray), x)] ⟨#[97]⟩ = true := by unfold isAt; simp
  have h0 : placeN [((⟨#[97]⟩ : ByteArray), x)] ⟨#[97]⟩ = 0 := by have := placeN_lt hi; simp at this; omega
  rw [findP_yes (n := .mk dirH [(⟨#[97]⟩, x)]) (k := (⟨#[97]⟩, x)) rfl hi (by show [((⟨#[97]⟩ : ByteArray), x)][placeN [((⟨#[97]⟩ : ByteArray), x)] ⟨#[97]⟩]? = _; rw [h0]; rfl)]; rfl
theorem Own_v (V : View) (x : LN) (hx : NodeV V x) (hsm : AllN smallP x.n) : Fn Try.prog 35 [lnV x] V fun v V2 => ∃ y : LN, v = lnV y ∧ y.n = x.n ∧ NodeV V2 y := fun w hV => by
  have hs : St ⟨V, w, gsOf []⟩ V [] w := ⟨Exc.refl _ w, fun p x hp => ⟨hV p x hp, by simp⟩, fun p x hp _ => hp, VLe.refl V, by simp, by simp⟩
  refine (Own_c V x hx V (VLe.refl _) hsm w hs).mono fun e w' ⟨v, V', Bs', he, hst, y, es, hv, hyn, hO⟩ => ?_
  obtain ⟨V'', h1, h2, h3⟩ := hst.shut hO.row repl_all (by simp)
  exact ⟨v, he, h3.ext.ext, V'', h3.v0, fun p x hp => (h3.view p x hp).1, h3.old, y, hv, hyn, hO.node h1 h2 (hO.bound hyn hsm)⟩
attribute [local irreducible] AtQ GoC GoL GoW QO QP Fn RV OwnAt CellsFrom VLe SrcIs errV
set_option maxRecDepth 100000
theorem Same1 (V : View) (x y : LN) (hx : NodeV V x) (hy : NodeV V y) (h : x.n = y.n) : Fn Try.prog 18 [lnV x, lnV y] V fun v _ => v = .bool true := by
  have := SameNode_c V x hx y hy
  rw [sameB_iff.2 h] at this; exact this
end Go.Proofs.Ytejkmomfpidnbac
