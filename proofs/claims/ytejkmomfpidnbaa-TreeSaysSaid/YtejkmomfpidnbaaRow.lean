/- The engine's append: rows of the call's own. No program is named here. -/
import Derived.Test.YtejkmomfpidnbaaRep
import Derived.Test.YtejkmomfpidnbaaMem
namespace Go.Proofs.Ytejkmomfpidnbaa
open Go.RowKit
set_option linter.unusedSimpArgs false
set_option linter.unusedVariables false

/-- A slice of the call's own, n elements (the cells xs), its block (if there is one) among the boxes as L1. -/
def RowL (A : Option Addr) (n c : Nat) (E : TypeId) (sz : Nat) (xs : List Value) (L1 : List Box) : Prop :=
  xs.length = n * sz ∧ ((L1 = [] ∧ A = none ∧ n = 0 ∧ c = 0) ∨ ∃ g cs, A = some ⟨g, 0, none⟩ ∧ L1 = [⟨g, E, cs⟩] ∧ n ≤ c ∧ c ≤ maxLen ∧ cs.length = c * sz ∧ cs.take (n * sz) = xs)
theorem RowL.nil {E sz : Nat} : RowL none 0 0 E sz [] [] := ⟨by simp, .inl ⟨rfl, rfl, rfl, rfl⟩⟩
/-- L with L1 in it replaced. -/
structure Repl (L L1 : List Box) (f : List Box → List Box) : Prop where
  h : ∃ X Y, L = X ++ (L1 ++ Y) ∧ ∀ l, f l = X ++ (l ++ Y)
theorem repl_nil {L : List Box} : Repl L [] (fun l => l ++ L) := ⟨[], L, rfl, fun _ => rfl⟩
theorem repl_one {b : Box} {L : List Box} : Repl (b :: L) [b] (fun l => l ++ L) := ⟨[], L, rfl, fun _ => rfl⟩
theorem repl_here {L1 L : List Box} : Repl (L1 ++ L) L1 (fun l => l ++ L) := ⟨[], L, rfl, fun _ => rfl⟩
theorem repl_all {L1 : List Box} : Repl L1 L1 (fun l => l) := ⟨[], [], by simp, fun _ => by simp⟩
theorem repl_next {b : Box} {L L1 : List Box} {f : List Box → List Box} (h : Repl L L1 f) : Repl (b :: L) L1 (fun l => b :: f l) := by
  obtain ⟨X, Y, h1, h2⟩ := h.h
  exact ⟨b :: X, Y, by rw [h1]; rfl, fun l => by rw [h2]; rfl⟩
theorem repl_skip {M L L1 : List Box} {f : List Box → List Box} (h : Repl L L1 f) : Repl (M ++ L) L1 (fun l => M ++ f l) := by
  obtain ⟨X, Y, h1, h2⟩ := h.h
  exact ⟨M ++ X, Y, by rw [h1, List.append_assoc], fun l => by rw [h2, List.append_assoc]⟩

section
variable {P : Program} {B : Base} {N : Nat} {Q : Exit → Act → World → Prop} {k : List Cont} {F : List (Nat × Value)} {V : View} {L : List Box} {w : World}
variable {d : Nat} {ty : TypeId} {pos : String} {af : Array Edge} {gd : Option (Nat × Bool)} {x y : Operand} {T : TypeId} {ops : Array Oper} {rest : List Oper}
theorem RowL.owns {A : Option Addr} {n c E sz : Nat} {xs : List Value} {L1 : List Box} (h : RowL A n c E sz xs L1) (hs : St B V L w) (hm : ∀ b ∈ L1, b ∈ L) : w.ownsRow 0 E sz (.slice A n c) n xs := by
  obtain ⟨h1, h | h⟩ := h
  · obtain ⟨rfl, rfl, rfl, rfl⟩ := h
    exact ⟨h1, .inl ⟨rfl, rfl⟩⟩
  · obtain ⟨g, cs, rfl, rfl, h2, h3, h4, h5⟩ := h
    have ho := hs.own ⟨g, E, cs⟩ (hm _ (by simp))
    exact ⟨h1, .inr ⟨g, c, cs.toArray, rfl, Nat.zero_le _, ho.1, h2, h3, by simpa using h4, by simpa using h5⟩⟩
theorem isOne_cell {v : Value} (h : isOne v = true) : v.oneCell' = true := by cases v <;> simp_all [isOne, Value.oneCell']
/-- What a row becomes. -/
theorem St.grown {w' : World} {A : Option Addr} {n c n' E sz : Nat} {v' : Value} {xs xs' : List Value} {L1 X Y : List Box} (hs : St B V (X ++ (L1 ++ Y)) w) (h : RowL A n c E sz xs L1) (hg : w.grownBy w' (Value.slice A n c).ownBlock) (ho : w'.ownsRow 0 E sz v' n' xs')
    (hat : v'.ownBlock = (Value.slice A n c).ownBlock ∨ v'.ownBlock = some w.heap.size) : ∃ A' c' L1', v' = .slice A' n' c' ∧ RowL A' n' c' E sz xs' L1' ∧ St B V (X ++ (L1' ++ Y)) w' := by
  -- the row's block, if there is one, is in L1
  have hrow : ∀ g, (Value.slice A n c).ownBlock = some g → ∃ cs, L1 = [⟨g, E, cs⟩] := by
    intro g hgr
    rcases h.2 with ⟨_, rfl, _, _⟩ | ⟨g', cs, rfl, rfl, _⟩
    · simp [Value.ownBlock] at hgr
    · simp [Value.ownBlock] at hgr; subst hgr; exact ⟨cs, rfl⟩
  have hlow : ∀ g, (Value.slice A n c).ownBlock = some g → (B.w.heap.size ≤ g ∨ g ∈ B.fl) := by
    intro g hgr
    obtain ⟨cs, rfl⟩ := hrow g hgr
    exact (hs.own ⟨g, E, cs⟩ (by simp)).2
  have hnd := hs.nodup
  have hkeep : ∀ p x, V p = some x → w'.cell? p = some x := by
    intro p x hp
    obtain ⟨h1, h2⟩ := hs.view p x hp
    rw [World.cell?_of_block (hg.block p.block (World.block_lt_of_cell? w p h1) (fun e => ?_))]
    · exact h1
    · obtain ⟨cs, rfl⟩ := hrow p.block e.symm
      exact h2 ⟨p.block, E, cs⟩ (by simp) rfl
  have hother : ∀ b, b ∈ X ∨ b ∈ Y → w'.heap[b.g]? = some (b.t.obj b.cs) ∧ (B.w.heap.size ≤ b.g ∨ b.g ∈ B.fl) := by
    intro b hb
    have hbm : b ∈ X ++ (L1 ++ Y) := by rcases hb with hb | hb <;> simp [hb]
    have hob := hs.own b hbm
    refine ⟨?_, hob.2⟩
    rw [hg.block b.g (hs.lt hbm) (fun e => ?_)]
    · exact hob.1
    · obtain ⟨cs, rfl⟩ := hrow b.g e.symm
      simp only [List.map_append, List.map_cons, List.map_nil] at hnd
      rw [List.nodup_append] at hnd
      obtain ⟨_, h2, h3⟩ := hnd
      rcases hb with hb | hb
      · exact h3 b.g (List.mem_map_of_mem (f := Box.g) hb) b.g (by simp) rfl
      · simp only [List.cons_append, List.nil_append, List.nodup_cons] at h2
        exact h2.1 (List.mem_map_of_mem (f := Box.g) hb)
  have hext : Exc B.fl B.w w' := Exc.grown hs.ext hg hlow
  have hndXY : ((X ++ Y).map Box.g).Nodup := List.Nodup.sublist (List.Sublist.map _ (List.Sublist.append (List.Sublist.refl X) (List.sublist_append_right L1 Y))) hnd
  rcases ho.2 with ⟨rfl, rfl⟩ | ⟨g', cap, cur, rfl, hb, hh, hnc, hcm, hcs, htk⟩
  · refine ⟨none, 0, [], rfl, ⟨ho.1, .inl ⟨rfl, rfl, rfl, rfl⟩⟩, ⟨hext, fun p x hp => ⟨hkeep p x hp, fun b hb => (hs.view p x hp).2 b ?_⟩, hs.old, hs.v0, fun b hb => hother b ?_, ?_⟩⟩
    · simp at hb ⊢; rcases hb with hb | hb <;> simp [hb]
    · simp at hb; exact hb
    · simpa using hndXY
  · have hnew : ∀ b, b ∈ X ∨ b ∈ Y → b.g ≠ g' := by
      intro b hb e
      rcases hat with hat | hat
      · simp [Value.ownBlock] at hat
        have hat' : (Value.slice A n c).ownBlock = some g' := hat.symm
        obtain ⟨cs, rfl⟩ := hrow g' hat'
        simp only [List.map_append, List.map_cons, List.map_nil] at hnd
        rw [List.nodup_append] at hnd
        obtain ⟨_, h2, h3⟩ := hnd
        rcases hb with hb | hb
        · exact h3 b.g (List.mem_map_of_mem (f := Box.g) hb) g' (by simp) e
        · simp only [List.cons_append, List.nil_append, List.nodup_cons] at h2
          exact h2.1 (e ▸ List.mem_map_of_mem (f := Box.g) hb)
      · simp [Value.ownBlock] at hat
        have hbm : b ∈ X ++ (L1 ++ Y) := by rcases hb with hb | hb <;> simp [hb]
        have := hs.lt hbm
        omega
    refine ⟨some ⟨g', 0, none⟩, cap, [⟨g', E, cur.toList⟩], rfl, ⟨ho.1, .inr ⟨g', cur.toList, rfl, rfl, hnc, hcm, by simpa using hcs, htk⟩⟩, ⟨hext, fun p x hp => ⟨hkeep p x hp, fun b hb => ?_⟩, hs.old, hs.v0, fun b hb => ?_, ?_⟩⟩
    · simp at hb
      rcases hb with hb | rfl | hb
      · exact (hs.view p x hp).2 b (by simp [hb])
      · intro e
        simp only [] at e
        obtain ⟨h1, h2⟩ := hs.view p x hp
        rcases hat with hat | hat
        · simp [Value.ownBlock] at hat
          obtain ⟨cs, rfl⟩ := hrow g' hat.symm
          exact h2 ⟨g', E, cs⟩ (by simp) e
        · simp [Value.ownBlock] at hat
          have := World.block_lt_of_cell? w p h1
          omega
      · exact (hs.view p x hp).2 b (by simp [hb])
    · simp at hb
      rcases hb with hb | rfl | hb
      · exact hother b (.inl hb)
      · refine ⟨by simpa using hh, ?_⟩
        rcases hat with hat | hat
        · simp [Value.ownBlock] at hat
          exact hlow g' hat.symm
        · simp [Value.ownBlock] at hat
          exact .inl (by have := hs.ext.sz; simp only []; omega)
      · exact hother b (.inr hb)
    · simp only [List.map_append, List.map_cons, List.map_nil, List.cons_append, List.nil_append]
      rw [List.map_append, List.nodup_append] at hndXY
      obtain ⟨q1, q2, q3⟩ := hndXY
      rw [List.nodup_append]
      refine ⟨q1, ?_, ?_⟩
      · rw [List.nodup_cons]
        exact ⟨fun hm => by obtain ⟨b, hb, e⟩ := List.mem_map.1 hm; exact hnew b (.inr hb) e, q2⟩
      · intro a ha b hb e
        rcases List.mem_cons.1 hb with rfl | hb
        · obtain ⟨b', hb', e'⟩ := List.mem_map.1 ha; exact hnew b' (.inl hb') (e'.trans e)
        · exact q3 a ha b hb e

structure InfoIs (P : Program) (E : TypeId) (sz bytes : Nat) : Prop where
  h : ∃ i z, P.info? E = some i ∧ i.zero = some z ∧ i.size = sz ∧ i.bytes = bytes ∧ z.cells.size = sz
/-- What is appended: cells that the view has, or those of a box. -/
def SrcIs (B : Base) (V : View) (L : List Box) (sz : Nat) (A : Option Addr) (m : Nat) (news : List Value) : Prop := ∀ w, St B V L w → CellsAt w sz A m news
theorem src_v {sz m : Nat} {A : Option Addr} {news : List Value} (h : CellsV V sz A m news) : SrcIs B V L sz A m news := fun w hs =>
  ⟨h.1, fun hm => let ⟨b, off, ha, hc⟩ := h.2 hm; ⟨b, off, ha, fun j u hj => (hs.view _ u (hc j u hj)).1⟩⟩
theorem src_o {sz m g : Nat} {news : List Value} (ho : OwnAt L g news) (hl : news.length = m * sz) : SrcIs B V L sz (some ⟨g, 0, none⟩) m news := fun w hs =>
  ⟨hl, fun _ => ⟨g, 0, rfl, fun j u hj => by rw [hs.cell ho, Nat.zero_add]; exact hj⟩⟩
theorem gw_append {dr : Mode} (hdr : dr.loud = true) {E sz bytes n c m c2 : Nat} {A As : Option Addr} {xs news : List Value} {L1 : List Box} (hu : UnderIs P T (.slice E)) (hi : InfoIs P E sz bytes) (hx : evF F x = some (.slice A n c)) (hy : evF F y = some (.slice As m c2)) (hsz : Nat.blt 0 sz = true)
    (hr : RowL A n c E sz xs L1) {f : List Box → List Box} (hL : Repl L L1 f) (hsrc : SrcIs B V L sz As m news) (h1 : ∀ u ∈ news, isOne u = true) (h63 : n + m ≤ 1000000000) (hby : Nat.ble bytes 100000 = true) (hd : okD N (some d) = true)
    (h : ∀ A' c' L1', RowL A' (n + m) c' E sz (xs ++ news) L1' → GoL P B N dr ops Q k rest ((d, .slice A' (n + m) c') :: F) V (f L1')) : GoW P B N dr ops Q k ⟨some d, .call ⟨.builtin .append, #[x, y], #[T, T]⟩, ty, pos, af, gd⟩ rest F V L := gw_loud hdr fun a w ha hs => by
  obtain ⟨i, z, hinfo, hz, e1, e2, e3⟩ := hi.h
  obtain ⟨X, Y, hX, hf⟩ := hL.h
  have hbytes : (n + m) * bytes ≤ 140737488355328 := by
    have hb := Nat.le_of_ble_eq_true hby
    exact Nat.le_trans (Nat.mul_le_mul h63 hb) (by omega)
  have hown := hr.owns hs (fun b hb => by rw [hX]; simp [hb])
  have hsz' : 0 < sz := by simpa [Nat.blt_eq] using hsz
  obtain ⟨v', w', hrun, ho, hg, hat⟩ := run_append_cells (P := P) w 0 T ty E i z sz bytes hu.u hinfo hz e1 e2 e3 hsz' (.slice A n c) n xs hown As m c2 news (hsrc w hs) (fun u hu' => isOne_cell (h1 u hu')) (by simp only [maxLen]; omega) hbytes (Nat.zero_le _)
  subst hX
  obtain ⟨A', c', L1', rfl, hr', hs'⟩ := hs.grown hr hg ho hat
  refine wp_value (w' := w') (v := .slice A' (n + m) c') ?_ (gl_loud hdr (h A' c' L1' hr') _ w' (ha.put hd _) (by rw [hf]; exact hs'))
  have hrun' : (Builtin.append_ #[T, T] ty #[.slice A n c, .slice As m c2]).run P w = .ok (.slice A' (n + m) c') w' := hrun
  simp [execOp, ha.ev hx, ha.ev hy, resolve, invoke, builtin, hrun']
/-- A row that is not written any more joins the view. -/
theorem St.shut {A : Option Addr} {n c E sz : Nat} {xs : List Value} {L1 : List Box} {f : List Box → List Box} (hs : St B V L w) (h : RowL A n c E sz xs L1) (hL : Repl L L1 f) (hfl : ∀ x ∈ B.fl, ∃ cs, OwnAt (f []) x cs) : ∃ V', VLe V V' ∧ CellsV V' sz A n xs ∧ St B V' (f []) w := by
  obtain ⟨X, Y, hX, hf⟩ := hL.h
  rcases h.2 with ⟨rfl, rfl, rfl, rfl⟩ | ⟨g, cs, rfl, rfl, h2, h3, h4, h5⟩
  · refine ⟨V, VLe.refl V, ⟨h.1, fun h => absurd h (by omega)⟩, ?_⟩
    rw [hf, ← hX]; exact hs
  · have hd : ∀ X Y : List Box, Drop1 (X ++ ([⟨g, E, cs⟩] ++ Y)) g cs (X ++ ([] ++ Y)) := by
      intro X Y
      induction X with
      | nil => exact .here g E cs Y
      | cons b X ih => exact .next b _ g cs _ ih
    obtain ⟨V', q1, q2, q3⟩ := hs.retire (hX ▸ hd X Y) (by rw [hf] at hfl; exact hfl)
    refine ⟨V', q1, ⟨h.1, fun _ => ⟨g, 0, rfl, fun j v hj => ?_⟩⟩, by rw [hf]; exact q3⟩
    rw [← h5, List.getElem?_take] at hj
    split at hj
    · exact q2 j v hj
    · cases hj
theorem gl_shut {dr : Mode} (hdr : dr.loud = true) {A : Option Addr} {n c E sz : Nat} {xs : List Value} {L1 : List Box} {f : List Box → List Box} (h : RowL A n c E sz xs L1) (hL : Repl L L1 f) {l : List Oper} (hK : ∀ V', VLe V V' → CellsV V' sz A n xs → GoL P B N dr ops Q k l F V' (f [])) (hfl : ∀ x ∈ B.fl, ∃ cs, OwnAt (f []) x cs := by simp) : GoL P B N dr ops Q k l F V L := gl_mk hdr fun a w ha hs => by
  obtain ⟨V', h1, h2, h3⟩ := hs.shut h hL hfl
  exact gl_loud hdr (hK V' h1 h2) a w ha h3
theorem gc_shut {A : Option Addr} {n c E sz : Nat} {xs : List Value} {L1 : List Box} {f : List Box → List Box} (h : RowL A n c E sz xs L1) (hL : Repl L L1 f) {c' : Code} (hK : ∀ V', VLe V V' → CellsV V' sz A n xs → GoC P B N c' Q k F V' (f [])) (hfl : ∀ x ∈ B.fl, ∃ cs, OwnAt (f []) x cs := by simp) : GoC P B N c' Q k F V L := fun a w ha hs => by
  obtain ⟨V', h1, h2, h3⟩ := hs.shut h hL hfl
  exact hK V' h1 h2 a w ha h3
theorem at_shut {e : Exit} {A : Option Addr} {n c E sz : Nat} {xs : List Value} {L1 : List Box} {f : List Box → List Box} (h : RowL A n c E sz xs L1) (hL : Repl L L1 f) (hK : ∀ V', VLe V V' → CellsV V' sz A n xs → AtQ P B N Q k e F V' (f [])) (hfl : ∀ x ∈ B.fl, ∃ cs, OwnAt (f []) x cs := by simp) : AtQ P B N Q k e F V L := fun a w ha hs => by
  obtain ⟨V', h1, h2, h3⟩ := hs.shut h hL hfl
  exact hK V' h1 h2 a w ha h3
end
end Go.Proofs.Ytejkmomfpidnbaa
