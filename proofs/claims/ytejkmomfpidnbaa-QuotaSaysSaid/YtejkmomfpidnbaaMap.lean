/- The engine: maps of the call's own. No program is named here. -/
import Derived.Test.YtejkmomfpidnbaaCore
import Derived.MapKept
namespace Go.Proofs.Ytejkmomfpidnbaa
open Go.RowKit
set_option linter.unusedSimpArgs false
set_option linter.unusedVariables false
theorem ba_beq (a b : ByteArray) : (a == b) = decide (a = b) := by
  show ByteArray.beq a b = _
  obtain ⟨a⟩ := a; obtain ⟨b⟩ := b
  unfold ByteArray.beq
  by_cases h : a = b <;> simp [h]
/-- A kind of key. -/
structure KK (K : Type) [DecidableEq K] where
  kv : K → Value
  d : TypeDesc
  check : ∀ (P : Program) (w : World) (kt : TypeId) (e : Bool) (a : K), P.underlying kt = some d → (Instr.checkKey e 10000 kt (kv a)).run P w = .ok () w
  now : ∀ a b : K, Instr.sameNow d (kv a) (kv b) = some (decide (a = b))
  stays : ∀ (P : Program) (w : World) (a : K), (Instr.keyThatStays (kv a) (kv a)).run P w = .ok (kv a) w
def intKK : KK Int where
  kv := fun n => .int .i64 n
  d := .int .i64
  check := fun P w kt e a h => by unfold Instr.checkKey; simp [run_underlying h, Sem.run_bind]
  now := fun a b => by simp only [Instr.sameNow, if_true]; rfl
  stays := fun P w a => by simp [Instr.keyThatStays, Instr.sameBits]
def strKK : KK ByteArray where
  kv := fun s => .string s
  d := .string
  check := fun P w kt e a h => by unfold Instr.checkKey; simp [run_underlying h, Sem.run_bind]
  now := fun a b => by simp only [Instr.sameNow]; rw [ba_beq]
  stays := fun P w a => by
    have : (a == a) = true := by rw [ba_beq]; simp
    simp [Instr.keyThatStays, Instr.sameBits, this]
section
variable {K β : Type} [DecidableEq K]
/-- The entries es are the pairs M. -/
def MapOf (kk : KK K) (vv : β → Value) (M : List (K × β)) (es : Array MapEntry) : Prop := es.toList.map (fun e => (e.key, e.val)) = M.map fun p => (kk.kv p.1, vv p.2)
def mFind (a : K) : List (K × β) → Option (Nat × β)
  | [] => none
  | p :: M => if a = p.1 then some (0, p.2) else (mFind a M).map fun q => (q.1 + 1, q.2)
variable {kk : KK K} {vv : β → Value}
theorem MapOf.nil : MapOf kk vv [] #[] := rfl
theorem findNow_eq (a : K) : ∀ (M : List (K × β)) (l : List MapEntry) (i : Nat), l.map (fun e => (e.key, e.val)) = M.map (fun p => (kk.kv p.1, vv p.2)) → Instr.findNow kk.d (kk.kv a) l i = some ((mFind a M).map fun q => (i + q.1, vv q.2))
  | [], [], i, _ => rfl
  | [], _ :: _, i, h => by simp at h
  | _ :: _, [], i, h => by simp at h
  | p :: M, e :: l, i, h => by
    simp only [List.map_cons, List.cons.injEq, Prod.mk.injEq] at h
    obtain ⟨⟨h1, h2⟩, h3⟩ := h
    unfold Instr.findNow
    rw [h1, kk.now]
    by_cases e : a = p.1
    · simp [e, mFind, h2]
    · simp only [e, decide_false]
      rw [findNow_eq a M l (i + 1) h3]
      simp only [mFind, e, if_false]
      cases mFind a M with
      | none => rfl
      | some q => simp; omega
theorem run_findKey {P : Program} {w : World} {kt : TypeId} {a : K} {M : List (K × β)} {es : Array MapEntry} (hk : P.underlying kt = some kk.d) (hM : MapOf kk vv M es) : (Instr.findKey kt (kk.kv a) es.toList).run P w = .ok ((mFind a M).map fun q => (q.1, vv q.2)) w := by
  unfold Instr.findKey
  simp only [Sem.run_bind, run_underlying hk, Result.andThen]
  rw [findNow_eq a M es.toList 0 hM]
  simp
def mSet (a : K) (b : β) : List (K × β) → List (K × β)
  | [] => [(a, b)]
  | p :: M => if a = p.1 then (a, b) :: M else p :: mSet a b M
def mCut (a : K) : List (K × β) → List (K × β)
  | [] => []
  | p :: M => if a = p.1 then M else p :: mCut a M
theorem mSet_new {a : K} {b : β} : ∀ {M : List (K × β)}, mFind a M = none → mSet a b M = M ++ [(a, b)]
  | [], _ => rfl
  | p :: M, h => by
    unfold mFind at h
    split at h
    · cases h
    · rename_i e
      have : mFind a M = none := by simpa using h
      simp [mSet, e, mSet_new this]
theorem mFind_spec {a : K} : ∀ {M : List (K × β)} {i : Nat} {b : β}, mFind a M = some (i, b) → M[i]? = some (a, b) ∧ (∀ c, mSet a c M = M.modify i fun _ => (a, c)) ∧ mCut a M = M.eraseIdx i
  | [], i, b, h => by cases h
  | p :: M, i, b, h => by
    unfold mFind at h
    by_cases e : a = p.1
    · rw [if_pos e] at h
      injection h with h; injection h with h1 h2
      subst h1; subst h2
      obtain ⟨p1, p2⟩ := p
      simp only [] at e; subst e
      simp [mSet, mCut]
    · rw [if_neg e] at h
      obtain ⟨q, hq, h⟩ := Option.map_eq_some_iff.1 h
      injection h with h1 h2
      subst h1; subst h2
      obtain ⟨h3, h4, h5⟩ := mFind_spec (i := q.1) (b := q.2) hq
      refine ⟨by simpa using h3, fun c => ?_, ?_⟩
      · simp [mSet, e, h4 c]
      · simp [mCut, e, h5]
theorem mCut_none {a : K} : ∀ {M : List (K × β)}, mFind a M = none → mCut a M = M
  | [], _ => rfl
  | p :: M, h => by
    unfold mFind at h
    split at h
    · cases h
    · rename_i e
      have : mFind a M = none := by simpa using h
      simp [mCut, e, mCut_none this]
theorem MapOf.push {M : List (K × β)} {es : Array MapEntry} (h : MapOf kk vv M es) (a : K) (b : β) (c : Nat) : MapOf kk vv (M ++ [(a, b)]) (es.push ⟨kk.kv a, vv b, c⟩) := by
  unfold MapOf at *
  simp [h]
theorem map_mod {α γ : Type} {q : α → γ} {u : γ} {f : α → α} (hf : ∀ e, q (f e) = u) : ∀ {l : List α} {i : Nat}, (l.modify i f).map q = (l.map q).set i u
  | [], i => by simp
  | e :: l, 0 => by simp [hf]
  | e :: l, i + 1 => by simp [map_mod hf (l := l) (i := i)]
theorem map_erase {α γ : Type} {q : α → γ} : ∀ {l : List α} {i : Nat}, (l.eraseIdx i).map q = (l.map q).eraseIdx i
  | [], i => by simp
  | e :: l, 0 => by simp
  | e :: l, i + 1 => by simp [map_erase (l := l) (i := i)]
theorem MapOf.modify {M : List (K × β)} {es : Array MapEntry} (h : MapOf kk vv M es) (i : Nat) (a : K) (b : β) : MapOf kk vv (M.modify i fun _ => (a, b)) (es.modify i fun e => { e with key := kk.kv a, val := vv b }) := by
  unfold MapOf at *
  rw [Array.toList_modify, map_mod (q := fun e : MapEntry => (e.key, e.val)) (u := (kk.kv a, vv b)) (f := fun e => { e with key := kk.kv a, val := vv b }) (fun _ => rfl), map_mod (q := fun p : K × β => (kk.kv p.1, vv p.2)) (u := (kk.kv a, vv b)) (f := fun _ => (a, b)) (fun _ => rfl), h]
theorem MapOf.erase {M : List (K × β)} {es : Array MapEntry} (h : MapOf kk vv M es) (i : Nat) : MapOf kk vv (M.eraseIdx i) (es.eraseIdxIfInBounds i) := by
  unfold MapOf at *
  rw [Array.toList_eraseIdxIfInBounds, map_erase, map_erase, h]
end
section
variable {P : Program} {B : Base} {N : Nat} {Q : Exit → Act → World → Prop} {k : List Cont} {F : List (Nat × Value)} {V : View} {L : List Box} {w : World}
variable {d : Option Tmp} {ty : TypeId} {pos : String} {af : Array Edge} {gd : Option (Nat × Bool)} {x y z : Operand} {T T2 : TypeId} {ops : Array Oper} {rest : List Oper}
theorem St.setMap {X Y : List Box} {g c c' : Nat} {es es' : Array MapEntry} {cs : List Value} (hs : St B V (X ++ (⟨g, .map es c, cs⟩ :: Y)) w) : St B V (X ++ (⟨g, .map es' c', cs⟩ :: Y)) { w with heap := w.heap.setIfInBounds g (.map es' c') } := by
  have hm : (⟨g, .map es c, cs⟩ : Box) ∈ X ++ (⟨g, .map es c, cs⟩ :: Y) := by simp
  have hg := hs.own _ hm
  have hlt := hs.lt hm
  have hnd := hs.nodup
  have hmap : (X ++ (⟨g, .map es' c', cs⟩ :: Y)).map Box.g = (X ++ (⟨g, .map es c, cs⟩ :: Y)).map Box.g := by simp
  have hblk : ∀ k, ¬ k = g → ({ w with heap := w.heap.setIfInBounds g (.map es' c') } : World).heap[k]? = w.heap[k]? := fun k hk => by
    show (w.heap.setIfInBounds g _)[k]? = _
    rw [Array.getElem?_setIfInBounds_ne (by omega)]
  have hne : ∀ b, b ∈ X ∨ b ∈ Y → b.g ≠ g := by
    intro b hb e
    rw [List.map_append, List.map_cons, List.nodup_append] at hnd
    obtain ⟨_, h2, h3⟩ := hnd
    rcases hb with hb | hb
    · exact h3 b.g (List.mem_map_of_mem hb) g (by simp) e
    · exact (List.nodup_cons.1 h2).1 (List.mem_map.2 ⟨b, hb, e⟩)
  have hx : Exc [g] w { w with heap := w.heap.setIfInBounds g (.map es' c') } := ⟨rfl, rfl, rfl, by simp, fun k _ hn => hblk k (by simpa using hn)⟩
  refine ⟨hs.ext.trans hx (by intro y hy; simp at hy; subst hy; exact hg.2), fun p v hp => ?_, hs.old, hs.v0, fun b hb => ?_, by rw [hmap]; exact hnd⟩
  · obtain ⟨h1, h2⟩ := hs.view p v hp
    have hpg : ¬ p.block = g := fun e => h2 _ hm e.symm
    refine ⟨by rw [World.cell?_of_block (hblk _ hpg)]; exact h1, fun b hb => ?_⟩
    rcases List.mem_append.1 hb with hb | hb
    · exact h2 b (by simp [hb])
    · rcases List.mem_cons.1 hb with rfl | hb
      · exact fun e => hpg e.symm
      · exact h2 b (by simp [hb])
  · have old : ∀ b, b ∈ X ∨ b ∈ Y → b ∈ X ++ (⟨g, .map es c, cs⟩ :: Y) := by intro b hb; rcases hb with hb | hb <;> simp [hb]
    have keep : ∀ b, b ∈ X ∨ b ∈ Y → ({ w with heap := w.heap.setIfInBounds g (.map es' c') } : World).heap[b.g]? = some (b.t.obj b.cs) ∧ (B.w.heap.size ≤ b.g ∨ b.g ∈ B.fl) := fun b hb => ⟨by rw [hblk _ (hne b hb)]; exact (hs.own b (old b hb)).1, (hs.own b (old b hb)).2⟩
    rcases List.mem_append.1 hb with hb | hb
    · exact keep b (.inl hb)
    · rcases List.mem_cons.1 hb with rfl | hb
      · refine ⟨?_, hg.2⟩
        show (w.heap.setIfInBounds g _)[g]? = _
        rw [Array.getElem?_setIfInBounds_self_of_lt hlt]; rfl
      · exact keep b (.inr hb)
theorem St.allocMap (hs : St B V L w) (es : Array MapEntry) (c : Nat) : St B V (⟨w.heap.size, .map es c, []⟩ :: L) (w.alloc (.map es c)) := by
  refine ⟨Exc.al _ hs.ext, fun p x hp => ?_, hs.old, hs.v0, fun b hb => ?_, ?_⟩
  · obtain ⟨h1, h2⟩ := hs.view p x hp
    have hlt := World.block_lt_of_cell? w p h1
    refine ⟨(World.cell?_alloc_lt w _ p hlt).trans h1, fun b hb => ?_⟩
    rcases List.mem_cons.1 hb with rfl | hb
    · simp only []; omega
    · exact h2 b hb
  · rcases List.mem_cons.1 hb with rfl | hb
    · exact ⟨heap_alloc_new w _, .inl hs.ext.sz⟩
    · exact ⟨(Below.heap_alloc w _ b.g (hs.lt hb)).trans (hs.own b hb).1, (hs.own b hb).2⟩
  · rw [List.map_cons, List.nodup_cons]
    refine ⟨fun h => ?_, hs.nodup⟩
    obtain ⟨b, hb, he⟩ := List.mem_map.1 h
    have := hs.lt hb
    simp only [] at he; omega
/-- A map's type: that of its keys, that of its elements, and their zero. -/
structure MapIs (P : Program) (T : TypeId) (d : TypeDesc) (z : Value) : Prop where
  h : ∃ kt e, P.underlying T = some (.map kt e) ∧ P.underlying kt = some d ∧ ∀ w, (zeroValue e).run P w = .ok z w
variable {K β : Type} [DecidableEq K] {kk : KK K} {vv : β → Value} {M : List (K × β)} {es : Array MapEntry} {c g : Nat} {f : List Box → List Box} {a : K} {b : β} {z0 : Value}
theorem Repl.getMap (hs : St B V L w) {L1 : List Box} (hL : Repl L L1 f) {b : Box} (hb : b ∈ L1) : w.heap[b.g]? = some (b.t.obj b.cs) := by
  obtain ⟨X, Y, hX, _⟩ := hL.h
  exact (hs.own b (by rw [hX]; simp [hb])).1
def ansOf (vv : β → Value) (z0 : Value) (r : Option (Nat × β)) : Value := match r with | some q => vv q.2 | none => z0
theorem q_lookup2 (hT : MapIs P T kk.d z0) (hx : evF F x = some (.map (some g))) (hy : evF F y = some (kk.kv a)) (hM : MapOf kk vv M es) (hL : Repl L [⟨g, .map es c, []⟩] f) : QP P B N V L ⟨d, .lookup T x y true, ty, pos, af, gd⟩ F (.tuple #[ansOf vv z0 (mFind a M), .bool (mFind a M).isSome]) := q_of fun ac w ha hs => by
  obtain ⟨kt, e, h1, h2, h3⟩ := hT.h
  have ho := hL.getMap hs (b := ⟨g, .map es c, []⟩) (by simp)
  simp only [BT.obj_map] at ho
  have hr : (Instr.lookup T (.map (some g)) (kk.kv a) true).run P w = .ok (.tuple #[ansOf vv z0 (mFind a M), .bool (mFind a M).isSome]) w := by
    unfold Instr.lookup
    simp only [Sem.run_bind, run_underlying h1, Result.andThen, MapKept.run_getObj_map ho, Sem.run_pure, kk.check P w kt _ a h2, run_findKey (vv := vv) h2 hM]
    cases mFind a M with
    | none => simp [h3, ansOf]
    | some q => simp [ansOf]
  simp [execOp, ha.ev hx, ha.ev hy, hr]
theorem q_lookup1 (hT : MapIs P T kk.d z0) (hx : evF F x = some (.map (some g))) (hy : evF F y = some (kk.kv a)) (hM : MapOf kk vv M es) (hL : Repl L [⟨g, .map es c, []⟩] f) : QP P B N V L ⟨d, .lookup T x y false, ty, pos, af, gd⟩ F (ansOf vv z0 (mFind a M)) := q_of fun ac w ha hs => by
  obtain ⟨kt, e, h1, h2, h3⟩ := hT.h
  have ho := hL.getMap hs (b := ⟨g, .map es c, []⟩) (by simp)
  simp only [BT.obj_map] at ho
  have hr : (Instr.lookup T (.map (some g)) (kk.kv a) false).run P w = .ok (ansOf vv z0 (mFind a M)) w := by
    unfold Instr.lookup
    simp only [Sem.run_bind, run_underlying h1, Result.andThen, MapKept.run_getObj_map ho, Sem.run_pure, kk.check P w kt _ a h2, run_findKey (vv := vv) h2 hM]
    cases mFind a M with
    | none => simp [h3, ansOf]
    | some q => simp [ansOf]
  simp [execOp, ha.ev hx, ha.ev hy, hr]
theorem gw_makeMap {dr : Mode} (hdr : dr.loud = true) (hd : okD N d = true) (h : ∀ g, GoL P B N dr ops Q k rest (putF F d (.map (some g))) V (⟨g, .map #[] 0, []⟩ :: L)) : GoW P B N dr ops Q k ⟨d, .makeMap T none, ty, pos, af, gd⟩ rest F V L := gw_loud hdr fun a w ha hs => by
  refine wp_value (w' := w.alloc (.map #[] 0)) (v := .map (some w.heap.size)) ?_ (gl_loud hdr (h w.heap.size) _ _ (ha.put hd _) (hs.allocMap #[] 0))
  simp [execOp, Instr.makeMap, run_newObj_alloc]
theorem run_mapUpdate (hT : MapIs P T kk.d z0) (hM : MapOf kk vv M es) (ho : w.heap[g]? = some (.map es c)) : ∃ es' c', (Instr.mapUpdate T (.map (some g)) (kk.kv a) (vv b)).run P w = .ok () { w with heap := w.heap.setIfInBounds g (.map es' c') } ∧ MapOf kk vv (mSet a b M) es' := by
  obtain ⟨kt, e, h1, h2, h3⟩ := hT.h
  cases hf : mFind a M with
  | none =>
    refine ⟨es.push ⟨kk.kv a, vv b, c⟩, c + 1, ?_, by rw [mSet_new hf]; exact hM.push a b c⟩
    unfold Instr.mapUpdate
    simp only [Sem.run_bind, run_underlying h1, Result.andThen, MapKept.run_getObj_map ho, kk.check P w kt _ a h2, run_findKey (vv := vv) h2 hM, hf, Option.map_none, MapKept.run_setObj_map _ ho]
  | some q =>
    obtain ⟨i, v⟩ := q
    obtain ⟨h4, h5, _⟩ := mFind_spec hf
    refine ⟨es.modify i fun e => { e with key := kk.kv a, val := vv b }, c, ?_, by rw [h5]; exact hM.modify i a b⟩
    have hk : (es[i]?).map (·.key) = some (kk.kv a) := by
      have := congrArg (fun l => l[i]?) hM
      simp only [List.getElem?_map, h4, Option.map_some] at this
      rw [Array.getElem?_toList] at this
      obtain ⟨e', he, h6⟩ := Option.map_eq_some_iff.1 this
      injection h6 with h6 _
      simp [he, h6]
    unfold Instr.mapUpdate
    simp only [Sem.run_bind, run_underlying h1, Result.andThen, MapKept.run_getObj_map ho, kk.check P w kt _ a h2, run_findKey (vv := vv) h2 hM, hf, Option.map_some, hk, Option.getD_some, kk.stays, MapKept.run_setObj_map _ ho]
theorem gw_update {dr : Mode} (hdr : dr.loud = true) (hT : MapIs P T kk.d z0) (hx : evF F x = some (.map (some g))) (hy : evF F y = some (kk.kv a)) (hz : evF F z = some (vv b)) (hM : MapOf kk vv M es) (hL : Repl L [⟨g, .map es c, []⟩] f) (hd : okD N d = true)
    (h : ∀ es' c', MapOf kk vv (mSet a b M) es' → GoL P B N dr ops Q k rest (putF F d undef) V (f [⟨g, .map es' c', []⟩])) : GoW P B N dr ops Q k ⟨d, .mapUpdate T x y z, ty, pos, af, gd⟩ rest F V L := gw_loud hdr fun ac w ha hs => by
  have ho := hL.getMap hs (b := ⟨g, .map es c, []⟩) (by simp)
  simp only [BT.obj_map] at ho
  obtain ⟨es', c', hr, hM'⟩ := run_mapUpdate (P := P) (a := a) (b := b) hT hM ho
  obtain ⟨X, Y, hX, hf⟩ := hL.h
  have h := h es' c' hM'
  rw [hf] at h
  subst hX
  refine wp_skip' (w' := { w with heap := w.heap.setIfInBounds g (.map es' c') }) ?_ (gl_loud hdr h _ _ (ha.put hd _) hs.setMap)
  simp [execOp, ha.ev hx, ha.ev hy, ha.ev hz, hr]
theorem run_delete (hT : MapIs P T kk.d z0) (hM : MapOf kk vv M es) (ho : w.heap[g]? = some (.map es c)) : ∃ es' c', (Builtin.delete_ #[T, T2] ty #[.map (some g), kk.kv a]).run P w = .ok (.tuple #[]) { w with heap := w.heap.setIfInBounds g (.map es' c') } ∧ MapOf kk vv (mCut a M) es' := by
  obtain ⟨kt, e, h1, h2, h3⟩ := hT.h
  cases hf : mFind a M with
  | none =>
    refine ⟨es, c, ?_, by rw [mCut_none hf]; exact hM⟩
    unfold Builtin.delete_
    simp [Sem.run_bind, run_underlying h1, Result.andThen, MapKept.run_getObj_map ho, kk.check P w kt _ a h2, run_findKey (vv := vv) h2 hM, hf, MapKept.run_setObj_map _ ho]
  | some q =>
    obtain ⟨i, v⟩ := q
    obtain ⟨h4, _, h5⟩ := mFind_spec hf
    refine ⟨es.eraseIdxIfInBounds i, c, ?_, by rw [h5]; exact hM.erase i⟩
    unfold Builtin.delete_
    simp [Sem.run_bind, run_underlying h1, Result.andThen, MapKept.run_getObj_map ho, kk.check P w kt _ a h2, run_findKey (vv := vv) h2 hM, hf, MapKept.run_setObj_map _ ho]
theorem gw_delete {dr : Mode} (hdr : dr.loud = true) (hT : MapIs P T kk.d z0) (hx : evF F x = some (.map (some g))) (hy : evF F y = some (kk.kv a)) (hM : MapOf kk vv M es) (hL : Repl L [⟨g, .map es c, []⟩] f) (hd : okD N d = true)
    (h : ∀ es' c', MapOf kk vv (mCut a M) es' → GoL P B N dr ops Q k rest (putF F d (.tuple #[])) V (f [⟨g, .map es' c', []⟩])) : GoW P B N dr ops Q k ⟨d, .call ⟨.builtin .delete, #[x, y], #[T, T2]⟩, ty, pos, af, gd⟩ rest F V L := gw_loud hdr fun ac w ha hs => by
  have ho := hL.getMap hs (b := ⟨g, .map es c, []⟩) (by simp)
  simp only [BT.obj_map] at ho
  obtain ⟨es', c', hr, hM'⟩ := run_delete (P := P) (a := a) (ty := ty) (T2 := T2) hT hM ho
  obtain ⟨X, Y, hX, hf⟩ := hL.h
  have h := h es' c' hM'
  rw [hf] at h
  subst hX
  refine wp_value (w' := { w with heap := w.heap.setIfInBounds g (.map es' c') }) (v := .tuple #[]) ?_ (gl_loud hdr h _ _ (ha.put hd _) hs.setMap)
  simp [execOp, ha.ev hx, ha.ev hy, resolve, invoke, builtin, hr]
end
end Go.Proofs.Ytejkmomfpidnbaa
