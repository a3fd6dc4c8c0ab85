/- The engine: calls of functions without a body, bytes appended out of a string, strings made of a row of bytes, pointers that are turned. No program is named here. -/
import Derived.Test.YtejkmomfpidnbacCore
import Derived.Lib.Builder
import Derived.Lib.UnsafeStr
import Derived.Lib.MakeNoZero
import Derived.Lib.Bytealg
import Derived.Laws.Externs
namespace Go.Proofs.Ytejkmomfpidnbac
open Go.RowKit
set_option linter.unusedSimpArgs false
set_option linter.unusedVariables false
structure ExternIs (P : Program) (f : FuncId) (e : Array Value → Sem Value) : Prop where
  h : ∀ args w, (callFunc f args).run P w = ((e args).run P w).andThen fun v w' => .ok (.value v) w'
structure PInf (P : Program) (T : TypeId) : Prop where
  h : ∃ te j, P.underlying T = some (.pointer te) ∧ P.info? te = some j
structure SzInf (P : Program) (T : TypeId) : Prop where
  h : ∃ j, P.info? T = some j ∧ j.size ≠ 0
structure U8Inf (P : Program) (E : TypeId) : Prop where
  h : ∃ i, P.info? E = some i ∧ i.zero = some (.int .u8 0) ∧ i.size = 1 ∧ i.bytes = 1
def OwnT (L : List Box) (g : Nat) (t : TypeId) (n : Nat) : Prop := ∃ cs : List Value, cs.length = n ∧ ⟨g, t, cs⟩ ∈ L
theorem ownT_here {g n : Nat} {t : TypeId} {cs : List Value} {L : List Box} (h : cs.length = n) : OwnT (⟨g, t, cs⟩ :: L) g t n := ⟨cs, h, by simp⟩
theorem ownT_next {g n : Nat} {t : TypeId} {L : List Box} {b : Box} (h : OwnT L g t n) : OwnT (b :: L) g t n := let ⟨cs, hn, h⟩ := h; ⟨cs, hn, List.mem_cons_of_mem _ h⟩
theorem ownT_skip {g n : Nat} {t : TypeId} {L M : List Box} (h : OwnT L g t n) : OwnT (M ++ L) g t n := let ⟨cs, hn, h⟩ := h; ⟨cs, hn, List.mem_append_right _ h⟩
theorem u8C_byte (l : List UInt8) : u8C l = Lib.byteCells l := rfl
theorem u8C_str (s : ByteArray) : u8C s.toList = Lib.strCells s := by rw [Lib.strCells_eq, u8C_byte, Lib.toList_data]
theorem u8C_app (a b : List UInt8) : u8C (a ++ b) = u8C a ++ u8C b := by simp [u8C]
section
variable {P : Program} {B : Base} {N : Nat} {Q : Exit → Act → World → Prop} {k : List Cont} {F : List (Nat × Value)} {V : View} {L : List Box} {w : World}
variable {d : Option Tmp} {ty : TypeId} {pos : String} {af : Array Edge} {gd : Option (Nat × Bool)} {x y : Operand} {T T2 : TypeId} {ops : Array Oper} {rest : List Oper}
theorem exec_extern {f : FuncId} {e : Array Value → Sem Value} {args : List Operand} {ats : Array TypeId} {vs : List Value} {a : Act} (he : ExternIs P f e) (ha : Kn N F a) (hv : evL F args = some vs) :
    (execOp a.eval ⟨d, .call ⟨.value (.func f), args.toArray, ats⟩, ty, pos, af, gd⟩).run P w = ((e vs.toArray).run P w).andThen fun v w' => .ok (.value v) w' := by
  have h := ha.evL hv
  simp [execOp, resolve, Deferred.ofValue, invoke, Act.eval, h, he.h]
theorem q_extern {f : FuncId} {e : Array Value → Sem Value} {args : List Operand} {ats : Array TypeId} {vs : List Value} {v : Value} (he : ExternIs P f e) (hv : evL F args = some vs) (hr : ∀ w, (e vs.toArray).run P w = .ok v w) : QP P B N V L ⟨d, .call ⟨.value (.func f), args.toArray, ats⟩, ty, pos, af, gd⟩ F v := q_of fun a w ha hs => by
  rw [exec_extern he ha hv, hr]; rfl
theorem q_pneq_same {t ty2 : TypeId} {a : Addr} (hp : PInf P t) (hx : evF F x = some (.pointer (some a))) (hy : evF F y = some (.pointer (some a))) : QP P B N V L ⟨d, .binOp .neq t x y ty2, ty, pos, af, gd⟩ F (.bool false) := by
  obtain ⟨te, j, h1, h2⟩ := hp.h
  exact q_bin hx hy (fun w => by cases y <;> simp [eqGuard] <;> (split <;> simp_all)) (fun w => Lib.run_neq_ptr_same w a h1 h2)
theorem OwnT.shape {g n : Nat} {t : TypeId} (h : OwnT L g t n) (hs : St B V L w) : w.shape? g = some (t, n) := by
  obtain ⟨cs, hn, hm⟩ := h
  have ho := (hs.own _ hm).1
  simp only [] at ho
  simp [World.shape?, ho, hn]
theorem q_toUnsafe {src dst t e : TypeId} {g n : Nat} (hs : UnderIs P src (.pointer t)) (hd : UnderIs P dst .unsafePointer) (hj : SzInf P t) (hx : evF F x = some (.pointer (some ⟨g, 0, none⟩))) (ho : OwnT L g e n) (hn : Nat.blt 0 n = true) : QP P B N V L ⟨d, .convert src dst x, ty, pos, af, gd⟩ F (.pointer (some ⟨g, 0, none⟩)) := q_of fun a w ha hst => by
  obtain ⟨j, h1, h2⟩ := hj.h
  have h := Lib.run_to_unsafe (P := P) w ⟨g, 0, none⟩ hs.u hd.u h1 h2 (ho.shape hst) (by simpa [Nat.blt_eq] using hn)
  simp [execOp, ha.ev hx, h]
theorem q_fromUnsafe {src dst u e : TypeId} {g n : Nat} (hs : UnderIs P src .unsafePointer) (hd : UnderIs P dst (.pointer u)) (hj : SzInf P u) (hx : evF F x = some (.pointer (some ⟨g, 0, none⟩))) (ho : OwnT L g e n) (hl : liesAt P P.depth e (n / P.cellsOf e) 0 u 1 = true) : QP P B N V L ⟨d, .convert src dst x, ty, pos, af, gd⟩ F (.pointer (some ⟨g, 0, none⟩)) := q_of fun a w ha hst => by
  obtain ⟨j, h1, h2⟩ := hj.h
  have h := Lib.run_from_unsafe (P := P) w ⟨g, 0, none⟩ hs.u hd.u h1 (ho.shape hst) hl
  simp [execOp, ha.ev hx, h]
theorem q_slData {g n c : Nat} (hx : evF F x = some (.slice (some ⟨g, 0, none⟩) n c)) (hc : 0 < c) : QP P B N V L ⟨d, .call ⟨.builtin .unsafeSliceData, #[x], #[T]⟩, ty, pos, af, gd⟩ F (.pointer (some ⟨g, 0, none⟩)) := q_of fun a w ha hst => by
  have h := Lib.run_unsafeSliceData_row (P := P) w #[T] ty ⟨g, 0, none⟩ n c (by omega)
  simp [execOp, ha.ev hx, resolve, invoke, builtin, h]
theorem q_slData0 {n c : Nat} (hx : evF F x = some (.slice none n c)) : QP P B N V L ⟨d, .call ⟨.builtin .unsafeSliceData, #[x], #[T]⟩, ty, pos, af, gd⟩ F (.pointer none) := q_of fun a w ha hst => by
  have h := Lib.run_unsafeSliceData_nil (P := P) w #[T] ty n c
  simp [execOp, ha.ev hx, resolve, invoke, builtin, h]
theorem q_ustr0 {p : Option Addr} (hx : evF F x = some (.pointer p)) (hy : evF F y = some (.int .i64 0)) : QP P B N V L ⟨d, .call ⟨.builtin .unsafeString, #[x, y], #[T, T2]⟩, ty, pos, af, gd⟩ F (.string ⟨#[]⟩) := q_of fun a w ha hst => by
  have h := Lib.run_unsafeString_none (P := P) w T T2 ty p
  simp [execOp, ha.ev hx, ha.ev hy, resolve, invoke, builtin, h]
  rfl
theorem q_cap {A : Option Addr} {E n c : Nat} (hu : UnderIs P T (.slice E)) (hx : evF F x = some (.slice A n c)) : QP P B N V L ⟨d, .call ⟨.builtin .cap, #[x], #[T]⟩, ty, pos, af, gd⟩ F (.int .i64 (c : Int)) := q_of fun a w ha hst => by
  simp [execOp, ha.ev hx, resolve, invoke, builtin, Builtin.cap_, hu.h, goInt]
/-- The row's block is frozen, and no box any more. -/
theorem St.freeze {X Y : List Box} {g n : Nat} {E : TypeId} {cs : List Value} (hs : St B V (X ++ (⟨g, E, cs⟩ :: Y)) w) : St B V (X ++ Y) (w.freeze ⟨g, 0, none⟩ n) := by
  have hg := hs.own ⟨g, E, cs⟩ (by simp)
  have hne : ∀ b ∈ X ++ Y, b.g ≠ g := by
    intro b hb e
    have hnd := hs.nodup
    rw [List.map_append, List.map_cons, List.nodup_append] at hnd
    obtain ⟨_, h2, h3⟩ := hnd
    rcases List.mem_append.1 hb with hb | hb
    · exact h3 b.g (List.mem_map_of_mem hb) g (by simp) e
    · exact (List.nodup_cons.1 h2).1 (List.mem_map.2 ⟨b, hb, e⟩)
  have hsub : (X ++ Y).Sublist (X ++ (⟨g, E, cs⟩ :: Y)) := List.Sublist.append (List.Sublist.refl X) (List.sublist_cons_self _ _)
  have hblk : ∀ k, ¬ k = g → (w.freeze ⟨g, 0, none⟩ n).heap[k]? = w.heap[k]? := by
    intro k hk
    unfold World.freeze
    split
    · rfl
    · simp only [Array.getElem?_modify]
      rw [if_neg (by omega)]
  have hx : Exc [g] w (w.freeze ⟨g, 0, none⟩ n) := by
    refine ⟨?_, ?_, ?_, ?_, fun k _ hn => hblk k (by simpa using hn)⟩
    all_goals (unfold World.freeze; split)
    all_goals first | rfl | simp
  refine ⟨hs.ext.trans hx (by intro y hy; simp at hy; subst hy; exact hg.2), fun p x hp => ?_, hs.old, hs.v0, fun b hb => ?_, List.Nodup.sublist (hsub.map Box.g) hs.nodup⟩
  · obtain ⟨h1, h2⟩ := hs.view p x hp
    refine ⟨?_, fun b hb => h2 b (hsub.subset hb)⟩
    have hpg : ¬ p.block = g := fun e => h2 ⟨g, E, cs⟩ (by simp) e.symm
    rw [World.cell?_of_block (hblk _ hpg)]; exact h1
  · have ho := hs.own b (hsub.subset hb)
    exact ⟨by rw [hblk _ (hne b hb)]; exact ho.1, ho.2⟩
theorem gw_ustr {dr : Mode} (hdr : dr.loud = true) {e g c : Nat} {us : List UInt8} {m : Int} {L1 : List Box} {f : List Box → List Box} (hp : UnderIs P T (.pointer e)) (hc : P.cellsOf e = 1) (hx : evF F x = some (.pointer (some ⟨g, 0, none⟩))) (hy : evF F y = some (.int .i64 m)) (hm : m = us.length) (hr : RowL (some ⟨g, 0, none⟩) us.length c e 1 (u8C us) L1) (hL : Repl L L1 f) (h0 : 0 < us.length) (hd : okD N d = true)
    (h : GoL P B N dr ops Q k rest (putF F d (.string ⟨us.toArray⟩)) V (f [])) : GoW P B N dr ops Q k ⟨d, .call ⟨.builtin .unsafeString, #[x, y], #[T, T2]⟩, ty, pos, af, gd⟩ rest F V L := gw_loud hdr fun a w ha hs => by
  subst hm
  obtain ⟨X, Y, hX, hf⟩ := hL.h
  rcases hr.2 with ⟨_, h, _⟩ | ⟨g', cs, he, rfl, h2, h3, h4, h5⟩
  · cases h
  obtain rfl : g = g' := by injection he with he; injection he
  subst hX
  have ho := (hs.own ⟨g, e, cs⟩ (by simp)).1
  simp only [] at ho
  have hsh : w.shape? g = some (e, cs.length) := by simp [World.shape?, ho]
  have hcell : ∀ j u, us[j]? = some u → w.cell? ((⟨g, 0, none⟩ : Addr).add j) = some (.int .u8 u.toNat) := by
    intro j u hj
    rw [add_none, Nat.zero_add]
    have hu : (u8C us)[j]? = some (.int .u8 u.toNat) := by simp [u8C, hj]
    rw [← h5, List.getElem?_take] at hu
    split at hu
    · simp [World.cell?, ho, hu]
    · cases hu
  have h63 : us.length ≤ 9223372036854775807 := by unfold maxLen at h3; omega
  have hrun := Lib.run_unsafeString_row (P := P) w T T2 ty e hp.u hc g cs.length hsh us (by intro e; subst e; simp at h0) (by omega) h63 hcell
  refine wp_value (w' := w.freeze ⟨g, 0, none⟩ us.length) (v := .string ⟨us.toArray⟩) ?_ (gl_loud hdr h _ _ (ha.put hd _) (by rw [hf]; exact hs.freeze))
  simp [execOp, ha.ev hx, ha.ev hy, resolve, invoke, builtin, hrun]
theorem gw_appends {dr : Mode} (hdr : dr.loud = true) {E n c : Nat} {dd : Nat} {A : Option Addr} {s : ByteArray} {xs : List Value} {L1 : List Box} (hu : UnderIs P T (.slice E)) (hu2 : UnderIs P T2 .string) (hi : U8Inf P E) (hx : evF F x = some (.slice A n c)) (hy : evF F y = some (.string s))
    (hr : RowL A n c E 1 xs L1) (hA : A = none ∨ 0 < c) {f : List Box → List Box} (hL : Repl L L1 f) (h63 : n + s.size ≤ 1000000000) (hd : okD N (some dd) = true)
    (h : ∀ A' c' L1', RowL A' (n + s.size) c' E 1 (xs ++ u8C s.toList) L1' → (A' = none ∨ 0 < c') → GoL P B N dr ops Q k rest ((dd, .slice A' (n + s.size) c') :: F) V (f L1')) : GoW P B N dr ops Q k ⟨some dd, .call ⟨.builtin .append, #[x, y], #[T, T2]⟩, ty, pos, af, gd⟩ rest F V L := gw_loud hdr fun a w ha hs => by
  obtain ⟨i, hinfo, hz, hi1, hi2⟩ := hi.h
  obtain ⟨X, Y, hX, hf⟩ := hL.h
  have hown := hr.owns hs (fun b hb => by rw [hX]; simp [hb])
  obtain ⟨v', w', hrun, ho, hg, hnil⟩ := Lib.run_append_own_string (P := P) w 0 T T2 ty E i hu.u hu2.u hinfo hz hi1 hi2 (.slice A n c) n xs hown s (by unfold maxLen; omega) (by omega) (Nat.zero_le _)
  have hxl : xs.length = n := by simpa using hr.1
  have hat : (v'.ownBlock = (Value.slice A n c).ownBlock ∨ v'.ownBlock = some w.heap.size) ∧ (s.size = 0 → ∃ A', v' = .slice A' (n + s.size) c ∧ A' = A) := by
    rcases hr.2 with ⟨_, rfl, rfl, rfl⟩ | ⟨g, cs, rfl, rfl, h2, h3, h4, h5⟩
    · by_cases h0 : s.size = 0
      · have e := hnil.2 ⟨rfl, h0⟩
        subst e
        exact ⟨.inl rfl, fun _ => ⟨none, by rw [h0], rfl⟩⟩
      · have hr2 := run_append_nil_string (P := P) w T T2 ty E i (.int .u8 0) hu.u hu2.u hinfo hz s (by omega) (by omega) (by rw [hi2]; omega)
        rw [hr2] at hrun
        injection hrun with e1 e2
        subst e1
        exact ⟨.inr rfl, fun h => absurd h h0⟩
    · subst hX
      have hob := (hs.own ⟨g, E, cs⟩ (by simp)).1
      simp only [] at hob
      by_cases hroom : n + s.size ≤ c
      · have hr2 := Lib.run_append_room_string (P := P) w T T2 ty E i hu.u hu2.u hinfo hi1 g n c cs.toArray hob s hroom (by simp; omega)
        rw [hr2] at hrun
        injection hrun with e1 e2
        subst e1
        exact ⟨.inl rfl, fun _ => ⟨_, rfl, rfl⟩⟩
      · have holds : ∀ j u, xs[j]? = some u → w.cell? ((⟨g, 0, none⟩ : Addr).add j) = some u := by
          intro j u hj
          rw [add_none, Nat.zero_add]
          rw [← h5, List.getElem?_take] at hj
          split at hj
          · simp [World.cell?, hob, hj]
          · cases hj
        have hr2 := Lib.run_append_grow_string (P := P) w T T2 ty E i (.int .u8 0) hu.u hu2.u hinfo hz ⟨g, 0, none⟩ n c xs (by rw [hi1]; omega) holds s (by omega) (by omega) (by rw [hi2]; exact growslice_fits (by omega) (by omega))
        rw [hr2] at hrun
        injection hrun with e1 e2
        subst e1
        exact ⟨.inr rfl, fun h => absurd h2 (by omega)⟩
  subst hX
  obtain ⟨A', c', L1', rfl, hr', hs'⟩ := hs.grown hr hg ho hat.1
  refine wp_value (w' := w') (v := .slice A' (n + s.size) c') ?_ (gl_loud hdr (h A' c' L1' (by rw [u8C_str]; exact hr') ?_) _ w' (ha.put hd _) (by rw [hf]; exact hs'))
  · have hrun' : (Builtin.append_ #[T, T2] ty #[.slice A n c, .string s]).run P w = .ok (.slice A' (n + s.size) c') w' := hrun
    simp [execOp, ha.ev hx, ha.ev hy, resolve, invoke, builtin, hrun']
  · by_cases h0 : s.size = 0
    · obtain ⟨A2, e1, e2⟩ := hat.2 h0
      injection e1 with e1 _ e3
      subst e1; subst e2; subst e3; exact hA
    · rcases hr'.2 with ⟨_, h1, _⟩ | ⟨_, _, _, _, h2, _⟩
      · exact .inl h1
      · exact .inr (by omega)
end
end Go.Proofs.Ytejkmomfpidnbac
