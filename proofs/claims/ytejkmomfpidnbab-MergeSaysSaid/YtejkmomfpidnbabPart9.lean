/- Walks and plain laws, part 9: what functions compute, proved once each (IdmapP, IdmapE, IdmapE2, IdmapE3, CopyP, CopyE, CopyE2, Held3). -/
import Derived.Test.YtejkmomfpidnbabPart1
import Derived.Test.YtejkmomfpidnbabPart2
import Derived.Test.YtejkmomfpidnbabPart4
import Derived.Test.YtejkmomfpidnbabPart6
/- Maps of ids in plain terms: what package idmap and its reference reckon; that both make the same of a map. No program is named here. -/
namespace Go.Proofs.Ytejkmomfpidnbab
open Go.RowKit
set_option linter.unusedSimpArgs false
set_option linter.unusedVariables false

/-- A range: the ids from i on are those from o on, c of them. -/
@[ext] structure PR where
  i : Int
  o : Int
  c : Int
instance : DecidableEq PR := fun a b => decidable_of_iff (a.i = b.i ∧ a.o = b.o ∧ a.c = b.c) ⟨fun ⟨h1, h2, h3⟩ => PR.ext h1 h2 h3, fun h => by subst h; exact ⟨rfl, rfl, rfl⟩⟩

def fitsZ (f n : Int) : Bool := decide (0 ≤ f) && decide (f ≤ 65535) && decide (1 ≤ n) && decide (n - 1 ≤ 65535 - f)
def meetsZ (a n b m : Int) : Bool := decide (a < b + m) && decide (b < a + n)
def okR (r : PR) : Bool := fitsZ r.i r.c && fitsZ r.o r.c
def meetR (r s : PR) : Bool := meetsZ r.i r.c s.i s.c || meetsZ r.o r.c s.o s.c
def mfault (seen : List PR) : List PR → Int
  | [] => 0
  | r :: l => if okR r = false then 1 else if seen.any (meetR r) then 3 else mfault (seen ++ [r]) l
def mapFaultZ (xs : List PR) : Int := if 4 < xs.length then 2 else mfault [] xs

def lookZ : List PR → Int → Option Int
  | [], _ => none
  | r :: l, x => if r.i ≤ x ∧ x < r.i + r.c then some (r.o + (x - r.i)) else lookZ l x
def PR.swap (r : PR) : PR := ⟨r.o, r.i, r.c⟩

/-- Where a range is put among those that are there: looked for from the end. -/
def atZ (l : List PR) (x : Int) : Nat → Nat
  | 0 => 0
  | k + 1 => if x < ((l[k]?).map PR.i).getD 0 then atZ l x k else k + 1
def insZ (l : List PR) (r : PR) : List PR := l.take (atZ l r.i l.length) ++ r :: l.drop (atZ l r.i l.length)
def mergeZ (out : List PR) (r : PR) : List PR :=
  match out.getLast? with
  | some q => if q.i + q.c = r.i ∧ q.o + q.c = r.o then out.dropLast ++ [⟨q.i, q.o, q.c + r.c⟩] else out ++ [r]
  | none => [r]
def canonZ (xs : List PR) : List PR := (xs.foldl insZ []).foldl mergeZ []

/-- The reference's way: each id is asked. -/
def refStep (f : Int → Option Int) (out : List PR) (x : Int) : List PR :=
  match f x with
  | none => out
  | some y => mergeZ out ⟨x, y, 1⟩
def scanZ (f : Int → Option Int) : List PR → Int → Nat → List PR
  | out, _, 0 => out
  | out, x, n + 1 => scanZ f (refStep f out x) (x + 1) n

theorem scan_add (f : Int → Option Int) : ∀ (m n : Nat) (out : List PR) (x : Int), scanZ f out x (m + n) = scanZ f (scanZ f out x m) (x + m) n
  | 0, n, out, x => by simp [scanZ]
  | m + 1, n, out, x => by
    rw [Nat.add_right_comm, scanZ, scan_add f m n, scanZ]
    congr 1; omega
theorem scan_none {f : Int → Option Int} : ∀ (n : Nat) (out : List PR) (x : Int), (∀ j : Nat, j < n → f (x + j) = none) → scanZ f out x n = out
  | 0, _, _, _ => rfl
  | n + 1, out, x, h => by
    have h0 : f x = none := by simpa using h 0 (by omega)
    rw [scanZ, refStep, h0]
    exact scan_none n out (x + 1) (fun j hj => by rw [show x + 1 + (j : Int) = x + ((j + 1 : Nat) : Int) by omega]; exact h _ (by omega))
theorem merge_snoc (o : List PR) (q r : PR) : mergeZ (o ++ [q]) r = if q.i + q.c = r.i ∧ q.o + q.c = r.o then o ++ [⟨q.i, q.o, q.c + r.c⟩] else o ++ [q] ++ [r] := by
  simp [mergeZ]
theorem scan_run {f : Int → Option Int} : ∀ (n : Nat) (o : List PR) (q : PR) (x y : Int), q.i + q.c = x → q.o + q.c = y → (∀ j : Nat, j < n → f (x + j) = some (y + j)) → scanZ f (o ++ [q]) x n = o ++ [⟨q.i, q.o, q.c + n⟩]
  | 0, o, q, x, y, _, _, _ => by simp [scanZ]
  | n + 1, o, q, x, y, h1, h2, h => by
    have h0 : f x = some y := by simpa using h 0 (by omega)
    rw [scanZ, refStep, h0]
    show scanZ f (mergeZ (o ++ [q]) ⟨x, y, 1⟩) (x + 1) n = _
    rw [merge_snoc, if_pos ⟨h1, h2⟩]
    rw [scan_run n o ⟨q.i, q.o, q.c + 1⟩ (x + 1) (y + 1) (by simp only []; omega) (by simp only []; omega) (fun j hj => by
      have := h (j + 1) (by omega)
      rw [show x + 1 + (j : Int) = x + ((j + 1 : Nat) : Int) by omega, this]
      congr 1; omega)]
    congr 3; simp only []; omega
theorem merge_one (out : List PR) (r : PR) : ∃ o q, mergeZ out ⟨r.i, r.o, 1⟩ = o ++ [q] ∧ q.i + q.c = r.i + 1 ∧ q.o + q.c = r.o + 1 ∧ ∀ n : Int, mergeZ out ⟨r.i, r.o, n + 1⟩ = o ++ [⟨q.i, q.o, q.c + n⟩] := by
  rcases List.eq_nil_or_concat out with rfl | ⟨o, q, rfl⟩
  · exact ⟨[], ⟨r.i, r.o, 1⟩, rfl, rfl, rfl, fun n => by simp [mergeZ, Int.add_comm n 1]⟩
  · rw [List.concat_eq_append]
    by_cases h : q.i + q.c = r.i ∧ q.o + q.c = r.o
    · refine ⟨o, ⟨q.i, q.o, q.c + 1⟩, by rw [merge_snoc, if_pos h], by simp only []; omega, by simp only []; omega, fun n => ?_⟩
      rw [merge_snoc, if_pos h]
      simp only [Int.add_assoc, Int.add_comm n 1]
    · refine ⟨o ++ [q], ⟨r.i, r.o, 1⟩, by rw [merge_snoc, if_neg h], rfl, rfl, fun n => ?_⟩
      rw [merge_snoc, if_neg h]
      simp only [Int.add_comm n 1]
theorem scan_range {f : Int → Option Int} (out : List PR) (r : PR) (n : Nat) (hc : r.c = n) (hn : 0 < n) (h : ∀ j : Nat, j < n → f (r.i + j) = some (r.o + j)) : scanZ f out r.i n = mergeZ out r := by
  obtain ⟨m, rfl⟩ : ∃ m, n = m + 1 := ⟨n - 1, by omega⟩
  obtain ⟨o, q, h1, h2, h3, h4⟩ := merge_one out r
  have h0 : f r.i = some r.o := by simpa using h 0 (by omega)
  rw [scanZ, refStep, h0]
  show scanZ f (mergeZ out ⟨r.i, r.o, 1⟩) (r.i + 1) m = _
  rw [h1, scan_run m o q (r.i + 1) (r.o + 1) h2 h3 (fun j hj => by
    have := h (j + 1) (by omega)
    rw [show r.i + 1 + (j : Int) = r.i + ((j + 1 : Nat) : Int) by omega, this]
    congr 1; omega)]
  have := h4 m
  rw [show r = ⟨r.i, r.o, (m : Int) + 1⟩ by ext <;> simp; omega, this]

def inR (r : PR) (x : Int) : Prop := r.i ≤ x ∧ x < r.i + r.c
def apart (r s : PR) : Prop := r.i + r.c ≤ s.i ∨ s.i + s.c ≤ r.i
def before (r s : PR) : Prop := r.i + r.c ≤ s.i
/-- Within the bounds of ids. -/
def bdR (r : PR) : Prop := 0 ≤ r.i ∧ 1 ≤ r.c ∧ r.i + r.c ≤ 65536 ∧ 0 ≤ r.o ∧ r.o + r.c ≤ 65536
theorem okR_iff (r : PR) : okR r = true ↔ bdR r := by
  simp only [okR, fitsZ, bdR, Bool.and_eq_true, decide_eq_true_eq]; omega

theorem look_none {l : List PR} {x : Int} (h : ∀ r ∈ l, ¬ inR r x) : lookZ l x = none := by
  induction l with
  | nil => rfl
  | cons r l ih =>
    rw [lookZ, if_neg (show ¬ (r.i ≤ x ∧ x < r.i + r.c) from h r (by simp))]
    exact ih fun s hs => h s (by simp [hs])
theorem look_some {l : List PR} {x y : Int} (h : lookZ l x = some y) : ∃ r ∈ l, inR r x ∧ y = r.o + (x - r.i) := by
  induction l with
  | nil => cases h
  | cons r l ih =>
    rw [lookZ] at h
    by_cases hr : r.i ≤ x ∧ x < r.i + r.c
    · rw [if_pos hr] at h; injection h with h; exact ⟨r, by simp, hr, h.symm⟩
    · rw [if_neg hr] at h
      obtain ⟨s, hs, h2⟩ := ih h
      exact ⟨s, by simp [hs], h2⟩
theorem look_in {l : List PR} (hp : l.Pairwise apart) {r : PR} (hr : r ∈ l) {x : Int} (hx : inR r x) : lookZ l x = some (r.o + (x - r.i)) := by
  induction l with
  | nil => cases hr
  | cons s l ih =>
    rw [List.pairwise_cons] at hp
    rw [lookZ]
    rcases List.mem_cons.1 hr with rfl | hr'
    · rw [if_pos (show r.i ≤ x ∧ x < r.i + r.c from hx)]
    · rw [if_neg, ih hp.2 hr']
      have h := hp.1 r hr'
      unfold apart at h; unfold inR at hx; omega
theorem look_perm {l m : List PR} (hl : l.Pairwise apart) (hm : m.Pairwise apart) (h : ∀ r, r ∈ l ↔ r ∈ m) (x : Int) : lookZ l x = lookZ m x := by
  by_cases hx : ∃ r ∈ l, inR r x
  · obtain ⟨r, hr, hi⟩ := hx
    rw [look_in hl hr hi, look_in hm ((h r).1 hr) hi]
  · rw [look_none (fun r hr hi => hx ⟨r, hr, hi⟩), look_none (fun r hr hi => hx ⟨r, (h r).2 hr, hi⟩)]

theorem scan_sorted {f : Int → Option Int} : ∀ (l : List PR) (out : List PR) (x : Nat), x ≤ 65536 → l.Pairwise before → (∀ r ∈ l, bdR r ∧ (x : Int) ≤ r.i) → (∀ z : Int, (x : Int) ≤ z → f z = lookZ l z) →
    scanZ f out x (65536 - x) = l.foldl mergeZ out
  | [], out, x, _, _, _, hf => by
    rw [scan_none]
    · rfl
    · intro j _; rw [hf _ (by omega)]; rfl
  | r :: l, out, x, hx, hp, hb, hf => by
    rw [List.pairwise_cons] at hp
    obtain ⟨hbr, hxr⟩ := hb r (by simp)
    unfold bdR at hbr
    obtain ⟨i, hi⟩ := Int.eq_ofNat_of_zero_le hbr.1
    obtain ⟨c, hc⟩ := Int.eq_ofNat_of_zero_le (show 0 ≤ r.c by omega)
    have e : 65536 - x = (i - x) + (c + (65536 - (i + c))) := by omega
    rw [e, scan_add, scan_none (i - x)]
    · rw [show (x : Int) + ((i - x : Nat) : Int) = r.i by omega, scan_add, scan_range out r c hc (by omega)]
      · rw [show r.i + (c : Int) = ((i + c : Nat) : Int) by omega, List.foldl_cons]
        refine scan_sorted l _ (i + c) (by omega) hp.2 (fun s hs => ?_) (fun z hz => ?_)
        · have := hp.1 s hs
          unfold before at this
          exact ⟨(hb s (by simp [hs])).1, by omega⟩
        · rw [hf z (by omega), lookZ, if_neg (by omega)]
      · intro j hj
        rw [hf _ (by omega), lookZ, if_pos (by omega)]
        congr 1; omega
    · intro j hj
      rw [hf _ (by omega)]
      refine look_none fun s hs hi' => ?_
      unfold inR at hi'
      rcases List.mem_cons.1 hs with rfl | hs
      · omega
      · have := hp.1 s hs
        unfold before at this
        omega

/-! ### The sort -/
def leR (r s : PR) : Prop := r.i ≤ s.i
theorem at_le (l : List PR) (x : Int) : ∀ k, atZ l x k ≤ k
  | 0 => Nat.le_refl _
  | k + 1 => by
    rw [atZ]
    split
    · exact Nat.le_trans (at_le l x k) (Nat.le_succ _)
    · exact Nat.le_refl _
theorem at_above (l : List PR) (x : Int) : ∀ k, k ≤ l.length → ∀ j r, atZ l x k ≤ j → j < k → l[j]? = some r → x < r.i
  | 0, _, j, r, _, h, _ => absurd h (by omega)
  | k + 1, hk, j, r, h1, h2, hr => by
    rw [atZ] at h1
    split at h1
    · rename_i hlt
      by_cases hj : j = k
      · subst hj; rw [hr] at hlt; exact hlt
      · exact at_above l x k (by omega) j r h1 (by omega) hr
    · omega
theorem at_last (l : List PR) (x : Int) : ∀ k, k ≤ l.length → ∀ j r, j + 1 = atZ l x k → l[j]? = some r → r.i ≤ x
  | 0, _, j, r, h, _ => by simp [atZ] at h
  | k + 1, hk, j, r, h, hr => by
    rw [atZ] at h
    split at h
    · exact at_last l x k (by omega) j r h hr
    · rename_i hlt
      have : j = k := by omega
      subst this
      rw [hr] at hlt
      simp at hlt; omega
theorem ins_mem (l : List PR) (r s : PR) : s ∈ insZ l r ↔ s = r ∨ s ∈ l := by
  unfold insZ
  rw [List.mem_append, List.mem_cons]
  have : s ∈ l ↔ s ∈ l.take (atZ l r.i l.length) ∨ s ∈ l.drop (atZ l r.i l.length) := by
    rw [← List.mem_append, List.take_append_drop]
  rw [this]
  constructor
  · rintro (h | h | h) <;> simp [h]
  · rintro (h | h | h) <;> simp [h]
theorem ins_sorted {l : List PR} (r : PR) (h : l.Pairwise leR) : (insZ l r).Pairwise leR := by
  unfold insZ
  generalize hk : atZ l r.i l.length = k
  have hkl : k ≤ l.length := hk ▸ at_le l r.i _
  rw [List.pairwise_append]
  have hdrop : ∀ s ∈ l.drop k, r.i < s.i := by
    intro s hs
    obtain ⟨j, hj, rfl⟩ := List.mem_iff_getElem.1 hs
    rw [List.length_drop] at hj
    have := at_above l r.i l.length (Nat.le_refl _) (k + j) (l[k + j]'(by omega)) (by omega) (by omega) (List.getElem?_eq_getElem _)
    simpa using this
  have htake : ∀ s ∈ l.take k, s.i ≤ r.i := by
    intro s hs
    rcases Nat.eq_zero_or_pos k with h0 | h0
    · subst h0; simp at hs
    · have hl := at_last l r.i l.length (Nat.le_refl _) (k - 1) (l[k - 1]'(by omega)) (by omega) (List.getElem?_eq_getElem _)
      obtain ⟨j, hj, rfl⟩ := List.mem_iff_getElem.1 hs
      rw [List.length_take] at hj
      rw [List.getElem_take]
      by_cases hj' : j = k - 1
      · subst hj'; exact hl
      · have := List.pairwise_iff_getElem.1 h j (k - 1) (by omega) (by omega) (by omega)
        unfold leR at this; omega
  refine ⟨h.sublist (List.take_sublist _ _), ?_, ?_⟩
  · rw [List.pairwise_cons]
    exact ⟨fun s hs => by have := hdrop s hs; unfold leR; omega, h.sublist (List.drop_sublist _ _)⟩
  · intro a ha b hb
    have h1 := htake a ha
    rcases List.mem_cons.1 hb with rfl | hb
    · exact h1
    · have := hdrop b hb; unfold leR; omega
theorem apart_symm {r s : PR} (h : apart r s) : apart s r := by unfold apart at *; omega
theorem ins_apart {l : List PR} {r : PR} (h : l.Pairwise apart) (hr : ∀ s ∈ l, apart r s) : (insZ l r).Pairwise apart := by
  unfold insZ
  generalize atZ l r.i l.length = k
  rw [List.pairwise_append]
  refine ⟨h.sublist (List.take_sublist _ _), ?_, ?_⟩
  · rw [List.pairwise_cons]
    exact ⟨fun s hs => hr s (List.mem_of_mem_drop hs), h.sublist (List.drop_sublist _ _)⟩
  · intro a ha b hb
    rcases List.mem_cons.1 hb with rfl | hb
    · exact apart_symm (hr a (List.mem_of_mem_take ha))
    · have := List.pairwise_append.1 (by rw [List.take_append_drop k l]; exact h)
      exact this.2.2 a ha b hb
theorem sort_all : ∀ (xs acc : List PR), acc.Pairwise leR → acc.Pairwise apart → xs.Pairwise apart → (∀ r ∈ xs, ∀ s ∈ acc, apart r s) →
    (xs.foldl insZ acc).Pairwise leR ∧ (xs.foldl insZ acc).Pairwise apart ∧ ∀ r, r ∈ xs.foldl insZ acc ↔ r ∈ acc ∨ r ∈ xs
  | [], acc, h1, h2, _, _ => ⟨h1, h2, fun r => by simp⟩
  | x :: xs, acc, h1, h2, h3, h4 => by
    rw [List.pairwise_cons] at h3
    obtain ⟨a, b, c⟩ := sort_all xs (insZ acc x) (ins_sorted x h1) (ins_apart h2 (fun s hs => h4 x (by simp) s hs)) h3.2 (fun r hr s hs => by
      rcases (ins_mem acc x s).1 hs with rfl | hs
      · exact apart_symm (h3.1 r hr)
      · exact h4 r (by simp [hr]) s hs)
    refine ⟨a, b, fun r => ?_⟩
    rw [List.foldl_cons, c, ins_mem, List.mem_cons]
    constructor
    · rintro ((h | h) | h) <;> simp [h]
    · rintro (h | h | h) <;> simp [h]

/-- What canon makes of ranges that lie apart is what the reference makes of asking each id. -/
theorem canon_scan {xs : List PR} {f : Int → Option Int} (hb : ∀ r ∈ xs, bdR r) (hp : xs.Pairwise apart) (hf : ∀ z : Int, 0 ≤ z → f z = lookZ xs z) : scanZ f [] 0 65536 = canonZ xs := by
  obtain ⟨h1, h2, h3⟩ := sort_all xs [] List.Pairwise.nil List.Pairwise.nil hp (by simp)
  have h3' : ∀ r, r ∈ xs.foldl insZ [] ↔ r ∈ xs := fun r => by rw [h3]; simp
  refine scan_sorted (xs.foldl insZ []) [] 0 (by omega) ?_ (fun r hr => ?_) (fun z hz => ?_)
  · refine (h1.and h2).imp_of_mem fun {a b} ha hb' hab => ?_
    have := hb b ((h3' b).1 hb'); have := hb a ((h3' a).1 ha)
    obtain ⟨q1, q2⟩ := hab
    unfold leR at q1; unfold apart at q2; unfold bdR at *; unfold before; omega
  · have := hb r ((h3' r).1 hr)
    refine ⟨this, ?_⟩
    unfold bdR at this; omega
  · rw [hf z (by omega)]
    exact look_perm hp h2 (fun r => (h3' r).symm) z

/-! ### A map that is right -/
theorem meets_apart {r s : PR} (h1 : bdR r) (h2 : bdR s) : meetR r s = false ↔ apart r s ∧ apart r.swap s.swap := by
  simp only [meetR, meetsZ, apart, PR.swap, Bool.or_eq_false_iff, Bool.and_eq_false_iff, decide_eq_false_iff_not]; unfold bdR at *; omega
theorem mfault_zero : ∀ (l seen : List PR), mfault seen l = 0 → (∀ r ∈ l, bdR r) ∧ (∀ r ∈ l, ∀ s ∈ seen, meetR r s = false) ∧ l.Pairwise fun s r => meetR r s = false
  | [], seen, _ => ⟨by simp, by simp, List.Pairwise.nil⟩
  | r :: l, seen, h => by
    rw [mfault] at h
    split at h
    · omega
    · rename_i hok
      split at h
      · omega
      · rename_i hany
        obtain ⟨a, b, c⟩ := mfault_zero l _ h
        have hr : bdR r := (okR_iff r).1 (by simpa using hok)
        refine ⟨fun s hs => ?_, fun s hs t ht => ?_, ?_⟩
        · rcases List.mem_cons.1 hs with rfl | hs
          · exact hr
          · exact a s hs
        · rcases List.mem_cons.1 hs with rfl | hs
          · simp at hany; exact hany t ht
          · exact b s hs t (by simp [ht])
        · rw [List.pairwise_cons]
          exact ⟨fun s hs => b s hs r (by simp), c⟩
theorem fault_zero {xs : List PR} (h : mapFaultZ xs = 0) : xs.length ≤ 4 ∧ (∀ r ∈ xs, bdR r) ∧ xs.Pairwise apart ∧ (xs.map PR.swap).Pairwise apart := by
  unfold mapFaultZ at h
  split at h
  · omega
  · obtain ⟨a, _, c⟩ := mfault_zero xs [] h
    refine ⟨by omega, a, ?_, ?_⟩
    · refine c.imp_of_mem fun {s r} hs hr h => ?_
      exact apart_symm ((meets_apart (a r hr) (a s hs)).1 h).1
    · rw [List.pairwise_map]
      refine c.imp_of_mem fun {s r} hs hr h => ?_
      exact apart_symm ((meets_apart (a r hr) (a s hs)).1 h).2
theorem swap_bd {r : PR} (h : bdR r) : bdR r.swap := by unfold bdR PR.swap at *; simp only []; omega

/-! ### A map, and behind it another one -/
def cutZ (r s : PR) : Option PR :=
  if max r.o s.i < min (r.o + r.c) (s.i + s.c) then some ⟨r.i + max r.o s.i - r.o, s.o + max r.o s.i - s.i, min (r.o + r.c) (s.i + s.c) - max r.o s.i⟩ else none
def thenZ (xs ys : List PR) : List PR := xs.flatMap fun r => ys.filterMap (cutZ r)
theorem cut_bd {r s t : PR} (hr : bdR r) (hs : bdR s) (h : cutZ r s = some t) : bdR t := by
  unfold cutZ at h
  split at h
  · injection h with h; subst h; unfold bdR at *; simp only []; omega
  · cases h
theorem then_bd {xs ys : List PR} (hx : ∀ r ∈ xs, bdR r) (hy : ∀ r ∈ ys, bdR r) : ∀ r ∈ thenZ xs ys, bdR r := by
  intro t ht
  obtain ⟨r, hr, ht⟩ := List.mem_flatMap.1 ht
  obtain ⟨s, hs, h⟩ := List.mem_filterMap.1 ht
  exact cut_bd (hx r hr) (hy s hs) h
theorem cut_in {r s t : PR} (h : cutZ r s = some t) (x : Int) : inR t x ↔ inR r x ∧ inR s (r.o + (x - r.i)) := by
  unfold cutZ at h
  split at h
  · injection h with h; subst h; unfold inR; simp only []; omega
  · cases h
theorem cut_to {r s t : PR} (h : cutZ r s = some t) (x : Int) : t.o + (x - t.i) = s.o + (r.o + (x - r.i) - s.i) := by
  unfold cutZ at h
  split at h
  · injection h with h; subst h; simp only []; omega
  · cases h
theorem apart_of {r s : PR} (hr : 1 ≤ r.c) (hs : 1 ≤ s.c) (h : ∀ x, inR r x → inR s x → False) : apart r s := by
  unfold apart
  by_cases h1 : r.i ≤ s.i
  · by_cases h2 : s.i < r.i + r.c
    · exact (h s.i ⟨h1, h2⟩ ⟨Int.le_refl _, by omega⟩).elim
    · omega
  · by_cases h2 : r.i < s.i + s.c
    · exact (h r.i ⟨Int.le_refl _, by omega⟩ ⟨by omega, h2⟩).elim
    · omega
theorem not_both {r s : PR} (h : apart r s) {x : Int} (h1 : inR r x) (h2 : inR s x) : False := by unfold apart inR at *; omega
theorem then_apart {xs ys : List PR} (hx : ∀ r ∈ xs, bdR r) (hy : ∀ r ∈ ys, bdR r) (hpx : xs.Pairwise apart) (hpy : ys.Pairwise apart) : (thenZ xs ys).Pairwise apart := by
  unfold thenZ
  rw [List.pairwise_flatMap]
  refine ⟨fun r hr => ?_, ?_⟩
  · rw [List.pairwise_filterMap]
    refine hpy.imp_of_mem fun {s t} hs ht hst => ?_
    intro a ha b hb
    refine apart_of (cut_bd (hx r hr) (hy s hs) ha).2.1 (cut_bd (hx r hr) (hy t ht) hb).2.1 fun x h1 h2 => ?_
    exact not_both hst ((cut_in ha x).1 h1).2 ((cut_in hb x).1 h2).2
  · refine hpx.imp_of_mem fun {r q} hr hq hrq => ?_
    intro a ha b hb
    obtain ⟨s, hs, ha⟩ := List.mem_filterMap.1 ha
    obtain ⟨t, ht, hb⟩ := List.mem_filterMap.1 hb
    refine apart_of (cut_bd (hx r hr) (hy s hs) ha).2.1 (cut_bd (hx q hq) (hy t ht) hb).2.1 fun x h1 h2 => ?_
    exact not_both hrq ((cut_in ha x).1 h1).1 ((cut_in hb x).1 h2).1
theorem then_look {xs ys : List PR} (hx : ∀ r ∈ xs, bdR r) (hy : ∀ r ∈ ys, bdR r) (hpx : xs.Pairwise apart) (hpy : ys.Pairwise apart) (x : Int) : lookZ (thenZ xs ys) x = (lookZ xs x).bind (lookZ ys) := by
  have hp := then_apart hx hy hpx hpy
  cases h1 : lookZ xs x with
  | none =>
    refine look_none fun t ht hi => ?_
    obtain ⟨r, hr, ht⟩ := List.mem_flatMap.1 ht
    obtain ⟨s, hs, h⟩ := List.mem_filterMap.1 ht
    rw [look_in hpx hr ((cut_in h x).1 hi).1] at h1
    cases h1
  | some y =>
    obtain ⟨r, hr, hi, rfl⟩ := look_some h1
    show _ = lookZ ys (r.o + (x - r.i))
    cases h2 : lookZ ys (r.o + (x - r.i)) with
    | none =>
      refine look_none fun t ht hit => ?_
      obtain ⟨q, hq, ht⟩ := List.mem_flatMap.1 ht
      obtain ⟨s, hs, h⟩ := List.mem_filterMap.1 ht
      have hh := (cut_in h x).1 hit
      have hqr : r.o + (x - r.i) = q.o + (x - q.i) := by
        have e1 := look_in hpx hr hi; have e2 := look_in hpx hq hh.1
        rw [e1] at e2; injection e2
      rw [hqr, look_in hpy hs hh.2] at h2
      cases h2
    | some z =>
      obtain ⟨s, hs, hj, rfl⟩ := look_some h2
      have hc : ∃ t, cutZ r s = some t := by
        unfold cutZ
        rw [if_pos]
        · exact ⟨_, rfl⟩
        · unfold inR at hi hj; omega
      obtain ⟨t, hc⟩ := hc
      have hmem : t ∈ thenZ xs ys := List.mem_flatMap.2 ⟨r, hr, List.mem_filterMap.2 ⟨s, hs, hc⟩⟩
      rw [look_in hp hmem ((cut_in hc x).2 ⟨hi, hj⟩), cut_to hc]
end Go.Proofs.Ytejkmomfpidnbab

/- The walks of package idmap and of its reference, by the engine: what is wrong with a map. -/
namespace Go.Proofs.Ytejkmomfpidnbab
open Go.RowKit
set_option linter.unusedSimpArgs false
set_option linter.unusedVariables false
abbrev prC (r : PR) : List Value := [.int .i64 r.i, .int .i64 r.o, .int .i64 r.c]
def inR64 (r : PR) : Prop := (-9223372036854775808 ≤ r.i ∧ r.i ≤ 9223372036854775807) ∧ (-9223372036854775808 ≤ r.o ∧ r.o ≤ 9223372036854775807) ∧ (-9223372036854775808 ≤ r.c ∧ r.c ≤ 9223372036854775807)
/-- A map, as a view knows it. -/
def MapV (V : View) (A : Option Addr) (n : Nat) (xs : List PR) : Prop := ElsV V 3 prC A n xs ∧ ∀ r ∈ xs, inR64 r
theorem MapV.le {V V' : View} {A : Option Addr} {n : Nat} {xs : List PR} (h : MapV V A n xs) (hv : VLe V V') : MapV V' A n xs := ⟨h.1.le hv, h.2⟩
theorem pr_len (r : PR) : (prC r).length = 3 := rfl
theorem MapV.at_ {V : View} {A : Option Addr} {n : Nat} {xs : List PR} (h : MapV V A n xs) {k : Nat} (hk : k < n) : ∃ b off r, A = some ⟨b, off, none⟩ ∧ xs[k]? = some r ∧ CellsFrom V b (off + k * 3) [.int .i64 r.i, .int .i64 r.o, .int .i64 r.c] ∧ V ⟨b, off + k * 3 + 0, none⟩ = some (.int .i64 r.i) ∧ V ⟨b, off + k * 3 + 1, none⟩ = some (.int .i64 r.o) ∧ V ⟨b, off + k * 3 + 2, none⟩ = some (.int .i64 r.c) ∧ inR64 r := by
  obtain ⟨b, off, r, ha, hx, hc⟩ := h.1.at_ hk
  exact ⟨b, off, r, ha, hx, hc, hc 0 _ rfl, hc 1 _ rfl, hc 2 _ rfl, h.2 r (List.mem_of_getElem? hx)⟩
theorem mfault_head {r : PR} {l seen : List PR} : mfault seen (r :: l) = if okR r = false then 1 else if seen.any (meetR r) then 3 else mfault (seen ++ [r]) l := rfl
theorem bdR_of {r : PR} (h : okR r = true) : bdR r := (okR_iff r).1 h
theorem take_snoc {α : Type} {xs : List α} {k : Nat} {x : α} (h : xs[k]? = some x) : xs.take (k + 1) = xs.take k ++ [x] := by rw [List.take_add_one, h]; rfl
theorem okR_of {r : PR} (h1 : 0 ≤ r.i ∧ r.i ≤ 65535 ∧ 1 ≤ r.c ∧ r.c - 1 ≤ 65535 - r.i) (h2 : 0 ≤ r.o ∧ r.o ≤ 65535 ∧ 1 ≤ r.c ∧ r.c - 1 ≤ 65535 - r.o) : okR r = true := by
  rw [okR_iff]; unfold bdR; omega
theorem okR_not {r : PR} (h : ¬ ((0 ≤ r.i ∧ r.i ≤ 65535 ∧ 1 ≤ r.c ∧ r.c - 1 ≤ 65535 - r.i) ∧ (0 ≤ r.o ∧ r.o ≤ 65535 ∧ 1 ≤ r.c ∧ r.c - 1 ≤ 65535 - r.o))) : okR r = false := by
  cases hb : okR r
  · rfl
  · rw [okR_iff] at hb; unfold bdR at hb; omega
theorem meetR_iff (r s : PR) : meetR r s = true ↔ (r.i < s.i + s.c ∧ s.i < r.i + r.c) ∨ (r.o < s.o + s.c ∧ s.o < r.o + r.c) := by
  simp [meetR, meetsZ]
/-- What is known of the ranges ahead: that they are right, that none of those ahead of j meets r. -/
theorem any_snoc {xs : List PR} {j : Nat} {r s : PR} (h : xs[j]? = some s) (h1 : (xs.take j).any (meetR r) = false) (h2 : meetR r s = false) : (xs.take (j + 1)).any (meetR r) = false := by
  rw [take_snoc h, List.any_append, h1]; simp [h2]
theorem any_hit {xs : List PR} {j k : Nat} {r s : PR} (h : xs[j]? = some s) (hj : j < k) (h2 : meetR r s = true) : (xs.take k).any (meetR r) = true := by
  rw [List.any_eq_true]
  exact ⟨s, List.mem_of_getElem? (i := j) (by rw [List.getElem?_take, if_pos hj]; exact h), h2⟩
attribute [local irreducible] AtQ GoC GoL GoW QO QP Fn RV OwnAt CellsFrom VLe SrcIs errV
set_option maxRecDepth 100000
theorem fits_c (V : View) (f n : Int) (hn : n ≤ 9223372036854775807) : Fn Try.prog 79 [.int .i64 f, .int .i64 n] V fun v _ => v = .bool (decide (0 ≤ f ∧ f ≤ 65535 ∧ 1 ≤ n ∧ n - 1 ≤ 65535 - f)) := by
  (refine fn_enter Try.func79 rfl Try.ntmps79 rfl ?_; intro w0)
  repeat' (first | (refine k_gw ?_; (first | (refine k_assign ?_; (first | refine gw_q rfl (q_assign rfl) ?_)) | (refine k_move ?_; (first | refine gw_q rfl (q_move rfl) ?_)) | (refine k_binOp ?_; (first | refine gw_q rfl (q_geq rfl rfl) ?_ | refine gw_q rfl (q_leq rfl rfl) ?_ | refine gw_q rfl (q_sub rfl rfl (by omega)) ?_ | refine gw_q rfl (q_subw rfl rfl) ?_)) | (refine k_pick ?_; (first | refine gw_q rfl (q_pick_t rfl rfl) ?_ | refine gw_q rfl (q_pick_f rfl rfl) ?_)))) | (refine k_gl ?_; (first | refine gl_nil rfl ?_ | refine gl_go rfl rfl ?_ | refine gl_yes rfl rfl rfl rfl rfl ?_ | refine gl_no rfl rfl rfl rfl rfl rfl rfl ?_ | refine gl_nou rfl rfl rfl rfl rfl rfl ?_ | (refine gl_split_p rfl rfl rfl ?_ ?_ <;> intro hq <;> try (exfalso; first | exact hq rfl | omega)) | (refine gl_split_b rfl rfl rfl ?_ ?_ <;> intro hq))) | (refine k_gc ?_; (first | refine gc_seq ?_ | refine gc_region ?_ | refine gc_cond_t rfl ?_ | refine gc_cond_f rfl ?_ | (refine gc_cond_p rfl ?_ ?_ <;> intro hq <;> try (exfalso; first | exact hq rfl | omega)) | (refine gc_cond_b rfl ?_ ?_ <;> intro hq) | refine gc_block ?_ | refine gc_exit ?_ | refine gc_ret ?_ | refine gc_skip ?_)) | (refine k_at ?_; (first | refine at_seq ?_ | refine at_then_ret ?_ | refine at_then_exit ?_ | refine at_thn_ret ?_ | refine at_thn_exit ?_ | refine at_block_normal ?_ | refine at_block_ret ?_ | refine at_block_hit ?_ | refine at_block_miss rfl ?_)))
  all_goals (refine at_ret1 Try.results79 (rv_tmp rfl) ?_)
  all_goals first | rfl | (refine congrArg Value.bool ?_; first | exact (decide_eq_true (by omega)).symm | exact (decide_eq_false (by omega)).symm | exact decide_eq_decide.2 (by omega))
theorem meets_c (V : View) (a n b m : Int) (h1 : 0 ≤ b + m ∧ b + m ≤ 9223372036854775807) (h2 : 0 ≤ a + n ∧ a + n ≤ 9223372036854775807) : Fn Try.prog 80 [.int .i64 a, .int .i64 n, .int .i64 b, .int .i64 m] V fun v _ => v = .bool (decide (a < b + m ∧ b < a + n)) := by
  (refine fn_enter Try.func80 rfl Try.ntmps80 rfl ?_; intro w0)
  repeat' (first | (refine k_gw ?_; (first | (refine k_assign ?_; (first | refine gw_q rfl (q_assign rfl) ?_)) | (refine k_move ?_; (first | refine gw_q rfl (q_move rfl) ?_)) | (refine k_binOp ?_; (first | refine gw_q rfl (q_add rfl rfl (by omega)) ?_ | refine gw_q rfl (q_addw rfl rfl) ?_ | refine gw_q rfl (q_lss rfl rfl) ?_)) | (refine k_pick ?_; (first | refine gw_q rfl (q_pick_t rfl rfl) ?_ | refine gw_q rfl (q_pick_f rfl rfl) ?_)))) | (refine k_gl ?_; (first | refine gl_nil rfl ?_ | refine gl_go rfl rfl ?_ | refine gl_yes rfl rfl rfl rfl rfl ?_ | refine gl_no rfl rfl rfl rfl rfl rfl rfl ?_ | refine gl_nou rfl rfl rfl rfl rfl rfl ?_ | (refine gl_split_p rfl rfl rfl ?_ ?_ <;> intro hq <;> try (exfalso; first | exact hq rfl | omega)) | (refine gl_split_b rfl rfl rfl ?_ ?_ <;> intro hq))) | (refine k_gc ?_; (first | refine gc_seq ?_ | refine gc_region ?_ | refine gc_cond_t rfl ?_ | refine gc_cond_f rfl ?_ | (refine gc_cond_p rfl ?_ ?_ <;> intro hq <;> try (exfalso; first | exact hq rfl | omega)) | (refine gc_cond_b rfl ?_ ?_ <;> intro hq) | refine gc_block ?_ | refine gc_exit ?_ | refine gc_ret ?_ | refine gc_skip ?_)) | (refine k_at ?_; (first | refine at_seq ?_ | refine at_then_ret ?_ | refine at_then_exit ?_ | refine at_thn_ret ?_ | refine at_thn_exit ?_ | refine at_block_normal ?_ | refine at_block_ret ?_ | refine at_block_hit ?_ | refine at_block_miss rfl ?_)))
  all_goals (refine at_ret1 Try.results80 (rv_tmp rfl) ?_)
  all_goals first | rfl | (refine congrArg Value.bool ?_; first | exact (decide_eq_true (by omega)).symm | exact (decide_eq_false (by omega)).symm | exact decide_eq_decide.2 (by omega))
theorem span_c (V : View) (f n : Int) : Fn Try.prog 153 [.int .i64 f, .int .i64 n] V fun v _ => v = .tuple #[.int .i64 (if 0 ≤ f ∧ f ≤ 65535 ∧ 1 ≤ n ∧ n - 1 ≤ 65535 - f then f else 0), .int .i64 (if 0 ≤ f ∧ f ≤ 65535 ∧ 1 ≤ n ∧ n - 1 ≤ 65535 - f then f + n - 1 else 0), .bool (decide (0 ≤ f ∧ f ≤ 65535 ∧ 1 ≤ n ∧ n - 1 ≤ 65535 - f))] := by
  (refine fn_enter Try.func153 rfl Try.ntmps153 rfl ?_; intro w0)
  repeat' (first | (refine k_gw ?_; (first | (refine k_assign ?_; (first | refine gw_q rfl (q_assign rfl) ?_)) | (refine k_move ?_; (first | refine gw_q rfl (q_move rfl) ?_)) | (refine k_binOp ?_; (first | refine gw_q rfl (q_lss rfl rfl) ?_ | refine gw_q rfl (q_gtr rfl rfl) ?_ | refine gw_q rfl (q_add rfl rfl (by omega)) ?_ | refine gw_q rfl (q_addw rfl rfl) ?_ | refine gw_q rfl (q_sub rfl rfl (by omega)) ?_ | refine gw_q rfl (q_subw rfl rfl) ?_)) | (refine k_pick ?_; (first | refine gw_q rfl (q_pick_t rfl rfl) ?_ | refine gw_q rfl (q_pick_f rfl rfl) ?_)))) | (refine k_gl ?_; (first | refine gl_nil rfl ?_ | refine gl_go rfl rfl ?_ | refine gl_yes rfl rfl rfl rfl rfl ?_ | refine gl_no rfl rfl rfl rfl rfl rfl rfl ?_ | (refine gl_split_p rfl rfl rfl ?_ ?_ <;> intro hq <;> try (exfalso; first | exact hq rfl | omega)))) | (refine k_gc ?_; (first | refine gc_seq ?_ | refine gc_region ?_ | refine gc_cond_t rfl ?_ | (refine gc_cond_p rfl ?_ ?_ <;> intro hq <;> try (exfalso; first | exact hq rfl | omega)) | refine gc_ret ?_ | refine gc_skip ?_)) | (refine k_at ?_; (first | refine at_seq ?_ | refine at_then_ret ?_ | refine at_then_exit ?_ | refine at_thn_ret ?_ | refine at_thn_exit ?_ | refine at_block_normal ?_ | refine at_block_ret ?_ | refine at_block_hit ?_ | refine at_block_miss rfl ?_)))
  all_goals (refine at_ret3 Try.results153 (rv_tmp rfl) (rv_tmp rfl) (rv_tmp rfl) ?_)
  all_goals first
    | (rw [if_pos (by omega), if_pos (by omega), decide_eq_true (by omega)]; done)
    | (rw [if_neg (by omega), if_neg (by omega), decide_eq_false (by omega)]; done)
theorem common_c (V : View) (a n b m : Int) (h1 : 0 ≤ b + m ∧ b + m ≤ 9223372036854775807) (h2 : 0 ≤ a + n ∧ a + n ≤ 9223372036854775807) : Fn Try.prog 154 [.int .i64 a, .int .i64 n, .int .i64 b, .int .i64 m] V fun v _ => v = .bool (decide (a < b + m ∧ b < a + n)) := by
  (refine fn_enter Try.func154 rfl Try.ntmps154 rfl ?_; intro w0)
  repeat' (first | (refine k_gw ?_; (first | (refine k_assign ?_; (first | refine gw_q rfl (q_assign rfl) ?_)) | (refine k_move ?_; (first | refine gw_q rfl (q_move rfl) ?_)) | (refine k_binOp ?_; (first | refine gw_q rfl (q_add rfl rfl (by omega)) ?_ | refine gw_q rfl (q_addw rfl rfl) ?_ | refine gw_q rfl (q_sub rfl rfl (by omega)) ?_ | refine gw_q rfl (q_subw rfl rfl) ?_ | refine gw_q rfl (q_lss rfl rfl) ?_)) | (refine k_pick ?_; (first | refine gw_q rfl (q_pick_t rfl rfl) ?_ | refine gw_q rfl (q_pick_f rfl rfl) ?_)) | (refine k_unOp ?_; (first | refine gw_q rfl (q_not_t rfl) ?_ | refine gw_q rfl (q_not_f rfl) ?_ | refine gw_q rfl (q_not_p rfl) ?_ | refine gw_q rfl (q_not_b rfl) ?_)))) | (refine k_gl ?_; (first | refine gl_nil rfl ?_ | refine gl_go rfl rfl ?_ | refine gl_yes rfl rfl rfl rfl rfl ?_ | refine gl_no rfl rfl rfl rfl rfl rfl rfl ?_ | (refine gl_split_p rfl rfl rfl ?_ ?_ <;> intro hq <;> try (exfalso; first | exact hq rfl | omega)))) | (refine k_gc ?_; (first | refine gc_seq ?_ | refine gc_region ?_ | refine gc_ret ?_)) | (refine k_at ?_; (first | refine at_seq ?_ | refine at_then_ret ?_ | refine at_then_exit ?_ | refine at_thn_ret ?_ | refine at_thn_exit ?_ | refine at_block_normal ?_ | refine at_block_ret ?_ | refine at_block_hit ?_ | refine at_block_miss rfl ?_)))
  all_goals (refine at_ret1 Try.results154 (rv_tmp rfl) ?_)
  all_goals first | rfl | (refine congrArg Value.bool ?_; first | exact (decide_eq_true (by omega)).symm | exact (decide_eq_false (by omega)).symm | exact decide_eq_decide.2 (by omega))
theorem ToHost1_c (V : View) (r : PR) : Fn Try.prog 78 [.agg (prC r).toArray] V fun v _ => v = .tuple #[.int .i64 r.i, .int .i64 r.o] := by
  (refine fn_enter Try.func78 rfl Try.ntmps78 rfl ?_; intro w0)
  repeat' (first | (refine k_gw ?_; (first | (refine k_box ?_; (first | (refine gw_box rfl rfl rfl rfl ?_; intro γ))) | (refine k_assign ?_; (first | refine gw_q rfl (q_assign rfl) ?_)) | (refine k_fieldAddr ?_; (first | refine gw_q rfl (q_fieldAddr fld_78_0 rfl) ?_ | refine gw_q rfl (q_fieldAddr fld_78_1 rfl) ?_)) | (refine k_load ?_; (first | refine gw_q rfl (q_load_o one_3 rfl (by first | ((repeat (first | exact own_here | apply own_next | apply own_skip)); done) | fail) (by exact rfl)) ?_)))) | (refine k_gl ?_; (first | refine gl_nil rfl ?_ | refine gl_go rfl rfl ?_)) | (refine k_gc ?_; (first | refine gc_seq ?_ | refine gc_region ?_ | refine gc_ret ?_ | refine gc_quiet (id := 1) mixed (by kernel_rfl) ?_)) | (refine k_at ?_; (first | refine at_seq ?_ | refine at_then_ret ?_ | refine at_then_exit ?_ | refine at_thn_ret ?_ | refine at_thn_exit ?_ | refine at_block_normal ?_ | refine at_block_ret ?_ | refine at_block_hit ?_ | refine at_block_miss rfl ?_)))
  all_goals (refine at_ret2 Try.results78 (rv_tmp rfl) (rv_tmp rfl) ?_)
  all_goals rfl
theorem FromHost1_c (V : View) (r : PR) : Fn Try.prog 81 [.agg (prC r).toArray] V fun v _ => v = .tuple #[.int .i64 r.o, .int .i64 r.i] := by
  (refine fn_enter Try.func81 rfl Try.ntmps81 rfl ?_; intro w0)
  repeat' (first | (refine k_gw ?_; (first | (refine k_box ?_; (first | (refine gw_box rfl rfl rfl rfl ?_; intro γ))) | (refine k_assign ?_; (first | refine gw_q rfl (q_assign rfl) ?_)) | (refine k_fieldAddr ?_; (first | refine gw_q rfl (q_fieldAddr fld_78_1 rfl) ?_ | refine gw_q rfl (q_fieldAddr fld_78_0 rfl) ?_)) | (refine k_load ?_; (first | refine gw_q rfl (q_load_o one_3 rfl (by first | ((repeat (first | exact own_here | apply own_next | apply own_skip)); done) | fail) (by exact rfl)) ?_)))) | (refine k_gl ?_; (first | refine gl_nil rfl ?_ | refine gl_go rfl rfl ?_)) | (refine k_gc ?_; (first | refine gc_seq ?_ | refine gc_region ?_ | refine gc_ret ?_ | refine gc_quiet (id := 1) mixed (by kernel_rfl) ?_)) | (refine k_at ?_; (first | refine at_seq ?_ | refine at_then_ret ?_ | refine at_then_exit ?_ | refine at_thn_ret ?_ | refine at_thn_exit ?_ | refine at_block_normal ?_ | refine at_block_ret ?_ | refine at_block_hit ?_ | refine at_block_miss rfl ?_)))
  all_goals (refine at_ret2 Try.results81 (rv_tmp rfl) (rv_tmp rfl) ?_)
  all_goals rfl
end Go.Proofs.Ytejkmomfpidnbab

/- The walks of package idmap and of its reference, by the engine: a map is checked. -/
namespace Go.Proofs.Ytejkmomfpidnbab
open Go.RowKit
set_option linter.unusedSimpArgs false
set_option linter.unusedVariables false
attribute [local irreducible] AtQ GoC GoL GoW QO QP Fn RV OwnAt CellsFrom VLe SrcIs errV
set_option maxRecDepth 100000
theorem mapF_bd (xs : List PR) : 0 ≤ mapFaultZ xs ∧ mapFaultZ xs ≤ 3 := by
  have h : ∀ (l seen : List PR), 0 ≤ mfault seen l ∧ mfault seen l ≤ 3 := by
    intro l
    induction l with
    | nil => intro seen; simp [mfault]
    | cons r l ih =>
      intro seen
      rw [mfault]
      (repeat' split) <;> first | omega | exact ih _
  unfold mapFaultZ
  split
  · omega
  · exact h _ _
set_option maxRecDepth 100000 in
set_option maxHeartbeats 4000000 in
theorem MCheck_c (V : View) (A : Option Addr) (n c : Nat) (xs : List PR) (h : MapV V A n xs) (hcap : n ≤ c) : Fn Try.prog 42 [.slice A n c] V fun v _ => v = errV (mapFaultZ xs) := by
  have hm := h.1.max
  have hl := h.1.1
  (refine fn_enter Try.func42 rfl Try.ntmps42 rfl ?_; intro w0)
  repeat' (first | (refine k_gw ?_; (first | (refine k_assign ?_; (first | refine gw_q rfl (q_assign rfl) ?_)) | (refine k_move ?_; (first | refine gw_q rfl (q_move rfl) ?_)) | (refine k_call ?_; (first | refine gw_q rfl (q_len rfl und_62 rfl) ?_)) | (refine k_binOp ?_; (first | refine gw_q rfl (q_gtr rfl rfl) ?_ | refine gw_q rfl (q_lss rfl rfl) ?_ | refine gw_q rfl (q_add rfl rfl (by omega)) ?_ | refine gw_q rfl (q_addw rfl rfl) ?_)) | (refine k_makeInterface ?_; (first | refine gw_q rfl (q_mkiface und_85 rfl rfl) ?_)))) | (refine k_gl ?_; (first | refine gl_nil rfl ?_ | refine gl_go rfl rfl ?_)) | (refine k_gc ?_; (first | refine gc_seq ?_ | refine gc_region ?_ | (refine gc_cond_p rfl ?_ ?_ <;> intro hq <;> try (exfalso; first | exact hq rfl | omega)) | refine gc_block ?_ | refine gc_ret ?_ | refine gc_skip ?_)) | (refine k_at ?_; (first | refine at_seq ?_ | refine at_then_ret ?_ | refine at_then_exit ?_ | refine at_thn_ret ?_ | refine at_thn_exit ?_ | refine at_block_normal ?_ | refine at_block_ret ?_ | refine at_block_hit ?_ | refine at_block_miss rfl ?_)))
  all_goals try ((refine at_ret1 Try.results42 (rv_tmp rfl) ?_); refine errV_is 2 (by unfold mapFaultZ; rw [if_pos (by omega)]))
  have hr : mapFaultZ xs = mfault [] xs := by unfold mapFaultZ; rw [if_neg (by omega)]
  rw [hr]
  refine gc_loop (fun F V' L' m => ∃ k : Nat, k ≤ n ∧ m = n - k ∧ V = V' ∧ L' = [] ∧ mfault [] xs = mfault (xs.take k) (xs.drop k) ∧ (∀ r ∈ xs.take k, bdR r) ∧ F = [(0, .slice A n c), (11, .slice A n c), (12, .int .i64 n), (13, .int .i64 k)]) (m := n) ⟨0, Nat.zero_le _, by omega, rfl, rfl, by simp, by simp, rfl⟩ (by repeat (first | exact sub_nil | refine sub_cons (by exact rfl) ?_)) rfl (by repeat (first | exact List.Sublist.refl _ | refine List.Sublist.cons _ ?_ | refine List.sublist_append_of_sublist_right ?_)) ?_
  rintro F V' L' m ⟨k, hk, rfl, rfl, rfl, hg, hb, rfl⟩
  by_cases hlt : k < n
  · obtain ⟨bb, off, r, rfl, hx, hc, c0, c1, c2, hr64⟩ := h.at_ hlt
    unfold inR64 at hr64
    rw [hg, drop_at hx, mfault_head]
    repeat' (first | (refine k_gw ?_; (first | (refine k_assign ?_; (first | refine gw_q rfl (q_assign rfl) ?_)) | (refine k_move ?_; (first | refine gw_q rfl (q_move rfl) ?_)) | (refine k_call ?_; (first | refine gw_q rfl (q_len rfl und_62 rfl) ?_ | refine gw_q' rfl (q_call ⟨Try.call79⟩ rfl (fits_c _ _ _ (by omega))) ?_)) | (refine k_binOp ?_; (first | refine gw_q rfl (q_gtr rfl rfl) ?_ | refine gw_q rfl (q_lss rfl rfl) ?_ | refine gw_q rfl (q_add rfl rfl (by omega)) ?_ | refine gw_q rfl (q_addw rfl rfl) ?_)) | (refine k_makeInterface ?_; (first | refine gw_q rfl (q_mkiface und_85 rfl rfl) ?_)) | (refine k_indexAddr ?_; (first | refine gw_q rfl (q_indexAddr und_62 siz_78 rfl rfl (by omega)) ?_)) | (refine k_load ?_; (first | refine gw_q rfl (q_loadA_v agg_78 rfl (by assumption) (by exact rfl)) ?_ | refine gw_q rfl (q_load_o one_3 rfl (by first | ((repeat (first | exact own_here | apply own_next | apply own_skip)); done) | fail) (by exact rfl)) ?_)) | (refine k_alloc ?_; (first | (refine gw_alloc rfl zer_78 rfl ?_; intro γ))) | (refine k_store ?_; (first | refine gw_store rfl siz_78 rfl rfl rfl rfl (by first | exact ones_of rfl | exact ones_pr _ | exact ones_pa _ | exact ones_any (by assumption) | (simp [isOne, spl, *]; done) | fail) (by first | ((repeat (first | exact PutAt.here _ _ _ _ _ _ (Nat.le_of_ble_eq_true rfl) | apply PutAt.next | apply putAt_skip)); done) | fail) rfl ?_)) | (refine k_fieldAddr ?_; (first | refine gw_q rfl (q_fieldAddr fld_78_0 rfl) ?_ | refine gw_q rfl (q_fieldAddr fld_78_2 rfl) ?_ | refine gw_q rfl (q_fieldAddr fld_78_1 rfl) ?_)) | (refine k_unOp ?_; (first | refine gw_q rfl (q_not_t rfl) ?_ | refine gw_q rfl (q_not_f rfl) ?_ | refine gw_q rfl (q_not_p rfl) ?_ | refine gw_q rfl (q_not_b rfl) ?_)) | (refine k_pick ?_; (first | refine gw_q rfl (q_pick_t rfl rfl) ?_ | refine gw_q rfl (q_pick_f rfl rfl) ?_)) | (refine k_slice ?_; (first | refine gw_q rfl (q_slice_n und_62 siz_78 rfl rfl (by omega)) ?_ | refine gw_q rfl (q_slice_ni und_62 siz_78 rfl rfl (by omega)) ?_)))) | (refine k_gl ?_; (first | refine gl_nil rfl ?_ | refine gl_go rfl rfl ?_ | refine gl_yes rfl rfl rfl rfl rfl ?_ | refine gl_no rfl rfl rfl rfl rfl rfl rfl ?_ | (refine gl_split_p rfl rfl rfl ?_ ?_ <;> intro hq <;> try (exfalso; first | exact hq rfl | omega)))) | (refine k_gc ?_; (first | refine gc_seq ?_ | refine gc_region ?_ | refine gc_cond_t rfl ?_ | (refine gc_cond_p rfl ?_ ?_ <;> intro hq <;> try (exfalso; first | exact hq rfl | omega)) | refine gc_block ?_ | refine gc_ret ?_ | refine gc_skip ?_)) | (refine k_at ?_; (first | refine at_seq ?_ | refine at_then_ret ?_ | refine at_then_exit ?_ | refine at_thn_ret ?_ | refine at_thn_exit ?_ | refine at_block_normal ?_ | refine at_block_ret ?_ | refine at_block_hit ?_ | refine at_block_miss rfl ?_)))
    all_goals try ((refine at_ret1 Try.results42 (rv_tmp rfl) ?_); exact errV_is 1 (by rw [if_pos (okR_not (by omega))]))
    · have hok : okR r = true := okR_of (by omega) (by omega)
      have hbr := bdR_of hok
      have hbr' := hbr
      unfold bdR at hbr
      rw [if_neg (by simp [hok])]
      refine gc_loop (fun F V' L' m => ∃ j : Nat, j ≤ k ∧ m = k - j ∧ V = V' ∧ L' = [⟨γ, _, prC r⟩] ∧ (xs.take j).any (meetR r) = false ∧ F = [(0, .slice (some ⟨bb, off, none⟩) n c), (4, .pointer (some ⟨γ, 0, none⟩)), (11, .slice (some ⟨bb, off, none⟩) n c), (12, .int .i64 n), (13, .int .i64 k), (35, .slice (some ⟨bb, off, none⟩) k c), (36, .int .i64 k), (37, .int .i64 j)]) (m := k) ⟨0, Nat.zero_le _, by omega, rfl, rfl, by simp, rfl⟩ (by repeat (first | exact sub_nil | refine sub_cons (by exact rfl) ?_)) rfl (by repeat (first | exact List.Sublist.refl _ | refine List.Sublist.cons _ ?_ | refine List.sublist_append_of_sublist_right ?_)) ?_
      rintro F V' L' m ⟨j, hj, rfl, rfl, rfl, ha, rfl⟩
      by_cases hjk : j < k
      · obtain ⟨bb', off', s, he, hy, hd, d0, d1, d2, hs64⟩ := h.at_ (k := j) (by omega)
        cases he
        have hbs : bdR s := hb s (List.mem_of_getElem? (i := j) (by rw [List.getElem?_take, if_pos hjk]; exact hy))
        unfold bdR at hbs
        have hmi := meetR_iff r s
        repeat' (first | (refine k_gw ?_; (first | (refine k_assign ?_; (first | refine gw_q rfl (q_assign rfl) ?_)) | (refine k_move ?_; (first | refine gw_q rfl (q_move rfl) ?_)) | (refine k_call ?_; (first | refine gw_q rfl (q_len rfl und_62 rfl) ?_ | refine gw_q' rfl (q_call ⟨Try.call80⟩ rfl (meets_c _ _ _ _ _ (by omega) (by omega))) ?_)) | (refine k_binOp ?_; (first | refine gw_q rfl (q_gtr rfl rfl) ?_ | refine gw_q rfl (q_lss rfl rfl) ?_ | refine gw_q rfl (q_add rfl rfl (by omega)) ?_ | refine gw_q rfl (q_addw rfl rfl) ?_)) | (refine k_makeInterface ?_; (first | refine gw_q rfl (q_mkiface und_85 rfl rfl) ?_)) | (refine k_indexAddr ?_; (first | refine gw_q rfl (q_indexAddr und_62 siz_78 rfl rfl (by omega)) ?_)) | (refine k_load ?_; (first | refine gw_q rfl (q_loadA_v agg_78 rfl (by assumption) (by exact rfl)) ?_ | refine gw_q rfl (q_load_o one_3 rfl (by first | ((repeat (first | exact own_here | apply own_next | apply own_skip)); done) | fail) (by exact rfl)) ?_)) | (refine k_alloc ?_; (first | (refine gw_alloc rfl zer_78 rfl ?_; intro γ))) | (refine k_store ?_; (first | refine gw_store rfl siz_78 rfl rfl rfl rfl (by first | exact ones_of rfl | exact ones_pr _ | exact ones_pa _ | exact ones_any (by assumption) | (simp [isOne, spl, *]; done) | fail) (by first | ((repeat (first | exact PutAt.here _ _ _ _ _ _ (Nat.le_of_ble_eq_true rfl) | apply PutAt.next | apply putAt_skip)); done) | fail) rfl ?_)) | (refine k_fieldAddr ?_; (first | refine gw_q rfl (q_fieldAddr fld_78_0 rfl) ?_ | refine gw_q rfl (q_fieldAddr fld_78_2 rfl) ?_ | refine gw_q rfl (q_fieldAddr fld_78_1 rfl) ?_)) | (refine k_pick ?_; (first | refine gw_q rfl (q_pick_t rfl rfl) ?_ | refine gw_q rfl (q_pick_f rfl rfl) ?_)))) | (refine k_gl ?_; (first | refine gl_nil rfl ?_ | refine gl_go rfl rfl ?_ | refine gl_yes rfl rfl rfl rfl rfl ?_ | refine gl_no rfl rfl rfl rfl rfl rfl rfl ?_ | (refine gl_split_p rfl rfl rfl ?_ ?_ <;> intro hq <;> try (exfalso; first | exact hq rfl | omega)))) | (refine k_gc ?_; (first | refine gc_seq ?_ | refine gc_region ?_ | refine gc_cond_t rfl ?_ | (refine gc_cond_p rfl ?_ ?_ <;> intro hq <;> try (exfalso; first | exact hq rfl | omega)) | refine gc_block ?_ | refine gc_ret ?_ | refine gc_skip ?_)) | (refine k_at ?_; (first | refine at_seq ?_ | refine at_then_ret ?_ | refine at_then_exit ?_ | refine at_thn_ret ?_ | refine at_thn_exit ?_ | refine at_block_normal ?_ | refine at_block_ret ?_ | refine at_block_hit ?_ | refine at_block_miss rfl ?_)))
        all_goals try ((refine at_ret1 Try.results42 (rv_tmp rfl) ?_); exact errV_is 3 (by rw [if_pos (any_hit hy hjk (hmi.2 (by omega)))]))
        · refine at_round _ (k - (j + 1)) ⟨j + 1, by omega, rfl, rfl, rfl, any_snoc hy ha ?_, rfl⟩ (by omega) (by repeat (first | exact sub_nil | refine sub_cons (by exact rfl) ?_)) (by repeat (first | exact List.Sublist.refl _ | refine List.Sublist.cons _ ?_ | refine List.sublist_append_of_sublist_right ?_))
          cases hmb : meetR r s
          · rfl
          · rw [hmi] at hmb; omega
      · have hjk : j = k := by omega
        subst hjk
        repeat' (first | (refine k_gw ?_; (first | (refine k_move ?_; (first | refine gw_q rfl (q_move rfl) ?_)) | (refine k_binOp ?_; (first | refine gw_q rfl (q_gtr rfl rfl) ?_ | refine gw_q rfl (q_lss rfl rfl) ?_ | refine gw_q rfl (q_add rfl rfl (by omega)) ?_ | refine gw_q rfl (q_addw rfl rfl) ?_)))) | (refine k_gl ?_; (first | refine gl_nil rfl ?_ | refine gl_go rfl rfl ?_)) | (refine k_gc ?_; (first | refine gc_seq ?_ | refine gc_region ?_ | (refine gc_cond_p rfl ?_ ?_ <;> intro hq <;> try (exfalso; first | exact hq rfl | omega)) | refine gc_exit ?_)) | (refine k_at ?_; (first | refine at_seq ?_ | refine at_then_ret ?_ | refine at_then_exit ?_ | refine at_thn_ret ?_ | refine at_thn_exit ?_ | refine at_block_normal ?_ | refine at_block_ret ?_ | refine at_block_hit ?_ | refine at_block_miss rfl ?_)))
        refine at_round _ (n - (j + 1)) ⟨j + 1, by omega, rfl, rfl, rfl, ?_, ?_, rfl⟩ (by omega) (by repeat (first | exact sub_nil | refine sub_cons (by exact rfl) ?_)) (by repeat (first | exact List.Sublist.refl _ | refine List.Sublist.cons _ ?_ | refine List.sublist_append_of_sublist_right ?_))
        · rw [ha, if_neg (by simp), take_snoc hx]
        · rw [take_snoc hx]
          intro s hs
          rcases List.mem_append.1 hs with hs | hs
          · exact hb s hs
          · simp at hs; subst hs; exact hbr'
  · repeat' (first | (refine k_gw ?_; (first | (refine k_assign ?_; (first | refine gw_q rfl (q_assign rfl) ?_)) | (refine k_binOp ?_; (first | refine gw_q rfl (q_gtr rfl rfl) ?_ | refine gw_q rfl (q_lss rfl rfl) ?_ | refine gw_q rfl (q_add rfl rfl (by omega)) ?_ | refine gw_q rfl (q_addw rfl rfl) ?_)))) | (refine k_gl ?_; (first | refine gl_nil rfl ?_ | refine gl_go rfl rfl ?_)) | (refine k_gc ?_; (first | refine gc_seq ?_ | refine gc_region ?_ | (refine gc_cond_p rfl ?_ ?_ <;> intro hq <;> try (exfalso; first | exact hq rfl | omega)) | refine gc_exit ?_ | refine gc_ret ?_)) | (refine k_at ?_; (first | refine at_seq ?_ | refine at_then_ret ?_ | refine at_then_exit ?_ | refine at_thn_ret ?_ | refine at_thn_exit ?_ | refine at_block_normal ?_ | refine at_block_ret ?_ | refine at_block_hit ?_ | refine at_block_miss rfl ?_)))
    (refine at_ret1 Try.results42 (rv_tmp rfl) ?_)
    rw [hg, List.drop_eq_nil_of_le (by omega)]
    exact errV_nil rfl
set_option maxRecDepth 100000 in
set_option maxHeartbeats 4000000 in
theorem MapFault_c (V : View) (A : Option Addr) (n c : Nat) (xs : List PR) (h : MapV V A n xs) : Fn Try.prog 134 [.slice A n c] V fun v _ => v = .int .i64 (mapFaultZ xs) := by
  have hm := h.1.max
  have hl := h.1.1
  (refine fn_enter Try.func134 rfl Try.ntmps134 rfl ?_; intro w0)
  repeat' (first | (refine k_gw ?_; (first | (refine k_assign ?_; (first | refine gw_q rfl (q_assign rfl) ?_)) | (refine k_move ?_; (first | refine gw_q rfl (q_move rfl) ?_)) | (refine k_call ?_; (first | refine gw_q rfl (q_len rfl und_62 rfl) ?_)) | (refine k_binOp ?_; (first | refine gw_q rfl (q_gtr rfl rfl) ?_ | refine gw_q rfl (q_lss rfl rfl) ?_ | refine gw_q rfl (q_add rfl rfl (by omega)) ?_ | refine gw_q rfl (q_addw rfl rfl) ?_)))) | (refine k_gl ?_; (first | refine gl_nil rfl ?_ | refine gl_go rfl rfl ?_)) | (refine k_gc ?_; (first | refine gc_seq ?_ | refine gc_region ?_ | (refine gc_cond_p rfl ?_ ?_ <;> intro hq <;> try (exfalso; first | exact hq rfl | omega)) | refine gc_block ?_ | refine gc_ret ?_ | refine gc_skip ?_)) | (refine k_at ?_; (first | refine at_seq ?_ | refine at_then_ret ?_ | refine at_then_exit ?_ | refine at_thn_ret ?_ | refine at_thn_exit ?_ | refine at_block_normal ?_ | refine at_block_ret ?_ | refine at_block_hit ?_ | refine at_block_miss rfl ?_)))
  all_goals try ((refine at_ret1 Try.results134 (rv_tmp rfl) ?_); rw [show mapFaultZ xs = 2 by unfold mapFaultZ; rw [if_pos (by omega)]])
  have hr : mapFaultZ xs = mfault [] xs := by unfold mapFaultZ; rw [if_neg (by omega)]
  rw [hr]
  refine gc_loop (fun F V' L' m => ∃ k : Nat, k ≤ n ∧ m = n - k ∧ V = V' ∧ L' = [] ∧ mfault [] xs = mfault (xs.take k) (xs.drop k) ∧ (∀ r ∈ xs.take k, bdR r) ∧ F = [(0, .slice A n c), (3, .int .i64 k)]) (m := n) ⟨0, Nat.zero_le _, by omega, rfl, rfl, by simp, by simp, rfl⟩ (by repeat (first | exact sub_nil | refine sub_cons (by exact rfl) ?_)) rfl (by repeat (first | exact List.Sublist.refl _ | refine List.Sublist.cons _ ?_ | refine List.sublist_append_of_sublist_right ?_)) ?_
  rintro F V' L' m ⟨k, hk, rfl, rfl, rfl, hg, hb, rfl⟩
  by_cases hlt : k < n
  · obtain ⟨bb, off, r, rfl, hx, hc, c0, c1, c2, hr64⟩ := h.at_ hlt
    unfold inR64 at hr64
    rw [hg, drop_at hx, mfault_head]
    repeat' (first | (refine k_gw ?_; (first | (refine k_assign ?_; (first | refine gw_q rfl (q_assign rfl) ?_)) | (refine k_move ?_; (first | refine gw_q rfl (q_move rfl) ?_)) | (refine k_call ?_; (first | refine gw_q rfl (q_len rfl und_62 rfl) ?_ | refine gw_q' rfl (q_call ⟨Try.call153⟩ rfl (span_c _ _ _)) ?_)) | (refine k_binOp ?_; (first | refine gw_q rfl (q_gtr rfl rfl) ?_ | refine gw_q rfl (q_lss rfl rfl) ?_ | refine gw_q rfl (q_add rfl rfl (by omega)) ?_ | refine gw_q rfl (q_addw rfl rfl) ?_)) | (refine k_indexAddr ?_; (first | refine gw_q rfl (q_indexAddr und_62 siz_78 rfl rfl (by omega)) ?_)) | (refine k_fieldAddr ?_; (first | refine gw_q rfl (q_fieldAddr fld_78_0 rfl) ?_ | refine gw_q rfl (q_fieldAddr fld_78_2 rfl) ?_ | refine gw_q rfl (q_fieldAddr fld_78_1 rfl) ?_)) | (refine k_load ?_; (first | refine gw_q rfl (q_load_v one_3 rfl (by assumption)) ?_)) | (refine k_extract ?_; (first | refine gw_q rfl (q_extract rfl rfl) ?_)) | (refine k_unOp ?_; (first | refine gw_q rfl (q_not_t rfl) ?_ | refine gw_q rfl (q_not_f rfl) ?_ | refine gw_q rfl (q_not_p rfl) ?_ | refine gw_q rfl (q_not_b rfl) ?_)) | (refine k_pick ?_; (first | refine gw_q rfl (q_pick_t rfl rfl) ?_ | refine gw_q rfl (q_pick_f rfl rfl) ?_)))) | (refine k_gl ?_; (first | refine gl_nil rfl ?_ | refine gl_go rfl rfl ?_ | refine gl_yes rfl rfl rfl rfl rfl ?_ | refine gl_no rfl rfl rfl rfl rfl rfl rfl ?_ | (refine gl_split_p rfl rfl rfl ?_ ?_ <;> intro hq <;> try (exfalso; first | exact hq rfl | omega)))) | (refine k_gc ?_; (first | refine gc_seq ?_ | refine gc_region ?_ | refine gc_cond_t rfl ?_ | (refine gc_cond_p rfl ?_ ?_ <;> intro hq <;> try (exfalso; first | exact hq rfl | omega)) | refine gc_block ?_ | refine gc_ret ?_ | refine gc_skip ?_ | refine gc_quiet (id := 6) mixed (by kernel_rfl) ?_ | refine gc_quiet (id := 7) mixed (by kernel_rfl) ?_)) | (refine k_at ?_; (first | refine at_seq ?_ | refine at_then_ret ?_ | refine at_then_exit ?_ | refine at_thn_ret ?_ | refine at_thn_exit ?_ | refine at_block_normal ?_ | refine at_block_ret ?_ | refine at_block_hit ?_ | refine at_block_miss rfl ?_)))
    all_goals try ((refine at_ret1 Try.results134 (rv_tmp rfl) ?_); rw [if_pos (okR_not (by omega))])
    · have hok : okR r = true := okR_of (by omega) (by omega)
      have hbr := bdR_of hok
      have hbr' := hbr
      unfold bdR at hbr
      rw [if_neg (by simp [hok])]
      refine gc_loop (fun F V' L' m => ∃ j : Nat, j ≤ k ∧ m = k - j ∧ V = V' ∧ L' = [] ∧ (xs.take j).any (meetR r) = false ∧ F = [(0, .slice (some ⟨bb, off, none⟩) n c), (3, .int .i64 k), (10, .int .i64 j)]) (m := k) ⟨0, Nat.zero_le _, by omega, rfl, rfl, by simp, rfl⟩ (by repeat (first | exact sub_nil | refine sub_cons (by exact rfl) ?_)) rfl (by repeat (first | exact List.Sublist.refl _ | refine List.Sublist.cons _ ?_ | refine List.sublist_append_of_sublist_right ?_)) ?_
      rintro F V' L' m ⟨j, hj, rfl, rfl, rfl, ha, rfl⟩
      by_cases hjk : j < k
      · obtain ⟨bb', off', s, he, hy, hd, d0, d1, d2, hs64⟩ := h.at_ (k := j) (by omega)
        cases he
        have hbs : bdR s := hb s (List.mem_of_getElem? (i := j) (by rw [List.getElem?_take, if_pos hjk]; exact hy))
        unfold bdR at hbs
        have hmi := meetR_iff r s
        repeat' (first | (refine k_gw ?_; (first | (refine k_assign ?_; (first | refine gw_q rfl (q_assign rfl) ?_)) | (refine k_move ?_; (first | refine gw_q rfl (q_move rfl) ?_)) | (refine k_call ?_; (first | refine gw_q rfl (q_len rfl und_62 rfl) ?_ | refine gw_q' rfl (q_call ⟨Try.call154⟩ rfl (common_c _ _ _ _ _ (by omega) (by omega))) ?_)) | (refine k_binOp ?_; (first | refine gw_q rfl (q_gtr rfl rfl) ?_ | refine gw_q rfl (q_lss rfl rfl) ?_ | refine gw_q rfl (q_add rfl rfl (by omega)) ?_ | refine gw_q rfl (q_addw rfl rfl) ?_)) | (refine k_indexAddr ?_; (first | refine gw_q rfl (q_indexAddr und_62 siz_78 rfl rfl (by omega)) ?_)) | (refine k_fieldAddr ?_; (first | refine gw_q rfl (q_fieldAddr fld_78_0 rfl) ?_ | refine gw_q rfl (q_fieldAddr fld_78_2 rfl) ?_ | refine gw_q rfl (q_fieldAddr fld_78_1 rfl) ?_)) | (refine k_load ?_; (first | refine gw_q rfl (q_load_v one_3 rfl (by assumption)) ?_)) | (refine k_pick ?_; (first | refine gw_q rfl (q_pick_t rfl rfl) ?_ | refine gw_q rfl (q_pick_f rfl rfl) ?_)))) | (refine k_gl ?_; (first | refine gl_nil rfl ?_ | refine gl_go rfl rfl ?_ | refine gl_yes rfl rfl rfl rfl rfl ?_ | refine gl_no rfl rfl rfl rfl rfl rfl rfl ?_ | (refine gl_split_p rfl rfl rfl ?_ ?_ <;> intro hq <;> try (exfalso; first | exact hq rfl | omega)))) | (refine k_gc ?_; (first | refine gc_seq ?_ | refine gc_region ?_ | refine gc_cond_t rfl ?_ | (refine gc_cond_p rfl ?_ ?_ <;> intro hq <;> try (exfalso; first | exact hq rfl | omega)) | refine gc_block ?_ | refine gc_ret ?_ | refine gc_skip ?_ | refine gc_quiet (id := 13) mixed (by kernel_rfl) ?_)) | (refine k_at ?_; (first | refine at_seq ?_ | refine at_then_ret ?_ | refine at_then_exit ?_ | refine at_thn_ret ?_ | refine at_thn_exit ?_ | refine at_block_normal ?_ | refine at_block_ret ?_ | refine at_block_hit ?_ | refine at_block_miss rfl ?_)))
        all_goals try ((refine at_ret1 Try.results134 (rv_tmp rfl) ?_); rw [if_pos (any_hit hy hjk (hmi.2 (by omega)))])
        · refine at_round _ (k - (j + 1)) ⟨j + 1, by omega, rfl, rfl, rfl, any_snoc hy ha ?_, rfl⟩ (by omega) (by repeat (first | exact sub_nil | refine sub_cons (by exact rfl) ?_)) (by repeat (first | exact List.Sublist.refl _ | refine List.Sublist.cons _ ?_ | refine List.sublist_append_of_sublist_right ?_))
          cases hmb : meetR r s
          · rfl
          · rw [hmi] at hmb; omega
      · have hjk : j = k := by omega
        subst hjk
        repeat' (first | (refine k_gw ?_; (first | (refine k_assign ?_; (first | refine gw_q rfl (q_assign rfl) ?_)) | (refine k_move ?_; (first | refine gw_q rfl (q_move rfl) ?_)) | (refine k_binOp ?_; (first | refine gw_q rfl (q_gtr rfl rfl) ?_ | refine gw_q rfl (q_lss rfl rfl) ?_ | refine gw_q rfl (q_add rfl rfl (by omega)) ?_ | refine gw_q rfl (q_addw rfl rfl) ?_)))) | (refine k_gl ?_; (first | refine gl_nil rfl ?_ | refine gl_go rfl rfl ?_)) | (refine k_gc ?_; (first | refine gc_seq ?_ | refine gc_region ?_ | (refine gc_cond_p rfl ?_ ?_ <;> intro hq <;> try (exfalso; first | exact hq rfl | omega)) | refine gc_exit ?_)) | (refine k_at ?_; (first | refine at_seq ?_ | refine at_then_ret ?_ | refine at_then_exit ?_ | refine at_thn_ret ?_ | refine at_thn_exit ?_ | refine at_block_normal ?_ | refine at_block_ret ?_ | refine at_block_hit ?_ | refine at_block_miss rfl ?_)))
        refine at_round _ (n - (j + 1)) ⟨j + 1, by omega, rfl, rfl, rfl, ?_, ?_, rfl⟩ (by omega) (by repeat (first | exact sub_nil | refine sub_cons (by exact rfl) ?_)) (by repeat (first | exact List.Sublist.refl _ | refine List.Sublist.cons _ ?_ | refine List.sublist_append_of_sublist_right ?_))
        · rw [ha, if_neg (by simp), take_snoc hx]
        · rw [take_snoc hx]
          intro s hs
          rcases List.mem_append.1 hs with hs | hs
          · exact hb s hs
          · simp at hs; subst hs; exact hbr'
  · repeat' (first | (refine k_gw ?_; (first | (refine k_assign ?_; (first | refine gw_q rfl (q_assign rfl) ?_)) | (refine k_move ?_; (first | refine gw_q rfl (q_move rfl) ?_)) | (refine k_call ?_; (first | refine gw_q rfl (q_len rfl und_62 rfl) ?_)) | (refine k_binOp ?_; (first | refine gw_q rfl (q_gtr rfl rfl) ?_ | refine gw_q rfl (q_lss rfl rfl) ?_ | refine gw_q rfl (q_add rfl rfl (by omega)) ?_ | refine gw_q rfl (q_addw rfl rfl) ?_)))) | (refine k_gl ?_; (first | refine gl_nil rfl ?_ | refine gl_go rfl rfl ?_)) | (refine k_gc ?_; (first | refine gc_seq ?_ | refine gc_region ?_ | (refine gc_cond_p rfl ?_ ?_ <;> intro hq <;> try (exfalso; first | exact hq rfl | omega)) | refine gc_exit ?_ | refine gc_ret ?_)) | (refine k_at ?_; (first | refine at_seq ?_ | refine at_then_ret ?_ | refine at_then_exit ?_ | refine at_thn_ret ?_ | refine at_thn_exit ?_ | refine at_block_normal ?_ | refine at_block_ret ?_ | refine at_block_hit ?_ | refine at_block_miss rfl ?_)))
    (refine at_ret1 Try.results134 (rv_tmp rfl) ?_)
    rw [hg, List.drop_eq_nil_of_le (by omega)]
    rfl
end Go.Proofs.Ytejkmomfpidnbab

/- The walks of package idmap and of its reference, by the engine: ids are looked up; maps compared, copied. -/
namespace Go.Proofs.Ytejkmomfpidnbab
open Go.RowKit
set_option linter.unusedSimpArgs false
set_option linter.unusedVariables false
def lookR (o : Option Int) : Value := .tuple #[.int .i64 (o.getD 0), .bool o.isSome]
def hostZ (xs : List PR) (x : Int) : Option Int := if mapFaultZ xs = 0 then lookZ xs x else none
def fromZ (xs : List PR) (x : Int) : Option Int := if mapFaultZ xs = 0 then lookZ (xs.map PR.swap) x else none
theorem look_hit {r : PR} {l : List PR} {x : Int} (h : r.i ≤ x ∧ x < r.i + r.c) : lookZ (r :: l) x = some (r.o + (x - r.i)) := by rw [lookZ, if_pos h]
theorem look_miss {r : PR} {l : List PR} {x : Int} (h : ¬ (r.i ≤ x ∧ x < r.i + r.c)) : lookZ (r :: l) x = lookZ l x := by rw [lookZ, if_neg h]
theorem lookR_some {o : Option Int} {y z : Int} (h : o = some y) (e : z = y) : Value.tuple #[.int .i64 z, .bool true] = lookR o := by subst h e; rfl
theorem lookR_none {o : Option Int} (h : o = none) : Value.tuple #[.int .i64 0, .bool false] = lookR o := by subst h; rfl
theorem map_drop' {f : PR → PR} (xs : List PR) (k : Nat) : (xs.map f).drop k = (xs.drop k).map f := List.map_drop.symm
attribute [local irreducible] AtQ GoC GoL GoW QO QP Fn RV OwnAt CellsFrom VLe SrcIs errV
set_option maxRecDepth 100000
theorem outside_c (V : View) (A : Option Addr) (n c : Nat) (xs : List PR) (h : MapV V A n xs) (hb : ∀ r ∈ xs, bdR r) (x : Int) : Fn Try.prog 136 [.slice A n c, .int .i64 x] V fun v _ => v = lookR (lookZ xs x) := by
  have hm := h.1.max
  have hl := h.1.1
  (refine fn_enter Try.func136 rfl Try.ntmps136 rfl ?_; intro w0)
  repeat' (first | (refine k_gw ?_; (first | (refine k_assign ?_; (first | refine gw_q rfl (q_assign rfl) ?_)))) | (refine k_gl ?_; (first | refine gl_nil rfl ?_ | refine gl_go rfl rfl ?_)) | (refine k_gc ?_; (first | refine gc_seq ?_ | refine gc_region ?_ | refine gc_block ?_)) | (refine k_at ?_; (first | refine at_seq ?_ | refine at_then_ret ?_ | refine at_then_exit ?_ | refine at_thn_ret ?_ | refine at_thn_exit ?_ | refine at_block_normal ?_ | refine at_block_ret ?_ | refine at_block_hit ?_ | refine at_block_miss rfl ?_)))
  refine gc_loop (fun F V' L' m => ∃ k : Nat, k ≤ n ∧ m = n - k ∧ V = V' ∧ L' = [] ∧ lookZ xs x = lookZ (xs.drop k) x ∧ F = [(0, .slice A n c), (1, .int .i64 x), (6, .int .i64 k)]) (m := n) ⟨0, Nat.zero_le _, by omega, rfl, rfl, by simp, rfl⟩ (by repeat (first | exact sub_nil | refine sub_cons (by exact rfl) ?_)) rfl (by repeat (first | exact List.Sublist.refl _ | refine List.Sublist.cons _ ?_ | refine List.sublist_append_of_sublist_right ?_)) ?_
  rintro F V' L' m ⟨k, hk, rfl, rfl, rfl, hg, rfl⟩
  by_cases hlt : k < n
  · obtain ⟨bb, off, r, rfl, hx, hc, c0, c1, c2, hr64⟩ := h.at_ hlt
    have hbr := hb r (List.mem_of_getElem? hx)
    unfold bdR at hbr
    have e1 : (0 ≤ r.i ∧ r.i ≤ 65535 ∧ 1 ≤ r.c ∧ r.c - 1 ≤ 65535 - r.i) = True := eq_true (by omega)
    have hsp := span_c V r.i r.c
    simp only [e1, if_true, decide_true] at hsp
    rw [hg, drop_at hx]
    repeat' (first | (refine k_gw ?_; (first | (refine k_assign ?_; (first | refine gw_q rfl (q_assign rfl) ?_)) | (refine k_move ?_; (first | refine gw_q rfl (q_move rfl) ?_)) | (refine k_call ?_; (first | refine gw_q rfl (q_len rfl und_62 rfl) ?_ | refine gw_q' rfl (q_call ⟨Try.call153⟩ rfl (hsp)) ?_)) | (refine k_binOp ?_; (first | refine gw_q rfl (q_lss rfl rfl) ?_ | refine gw_q rfl (q_geq rfl rfl) ?_ | refine gw_q rfl (q_leq rfl rfl) ?_ | refine gw_q rfl (q_sub rfl rfl (by omega)) ?_ | refine gw_q rfl (q_add rfl rfl (by omega)) ?_)) | (refine k_indexAddr ?_; (first | refine gw_q rfl (q_indexAddr und_62 siz_78 rfl rfl (by omega)) ?_)) | (refine k_fieldAddr ?_; (first | refine gw_q rfl (q_fieldAddr fld_78_0 rfl) ?_ | refine gw_q rfl (q_fieldAddr fld_78_2 rfl) ?_ | refine gw_q rfl (q_fieldAddr fld_78_1 rfl) ?_)) | (refine k_load ?_; (first | refine gw_q rfl (q_load_v one_3 rfl (by assumption)) ?_)) | (refine k_extract ?_; (first | refine gw_q rfl (q_extract rfl rfl) ?_)) | (refine k_pick ?_; (first | refine gw_q rfl (q_pick_t rfl rfl) ?_ | refine gw_q rfl (q_pick_f rfl rfl) ?_)))) | (refine k_gl ?_; (first | refine gl_nil rfl ?_ | refine gl_go rfl rfl ?_ | refine gl_yes rfl rfl rfl rfl rfl ?_ | refine gl_no rfl rfl rfl rfl rfl rfl rfl ?_ | (refine gl_split_p rfl rfl rfl ?_ ?_ <;> intro hq <;> try (exfalso; first | exact hq rfl | omega)))) | (refine k_gc ?_; (first | refine gc_seq ?_ | refine gc_region ?_ | refine gc_cond_f rfl ?_ | (refine gc_cond_p rfl ?_ ?_ <;> intro hq <;> try (exfalso; first | exact hq rfl | omega)) | refine gc_block ?_ | refine gc_ret ?_ | refine gc_skip ?_ | refine gc_quiet (id := 4) mixed (by kernel_rfl) ?_)) | (refine k_at ?_; (first | refine at_seq ?_ | refine at_then_ret ?_ | refine at_then_exit ?_ | refine at_thn_ret ?_ | refine at_thn_exit ?_ | refine at_block_normal ?_ | refine at_block_ret ?_ | refine at_block_hit ?_ | refine at_block_miss rfl ?_)))
    all_goals try ((refine at_ret2 Try.results136 (rv_tmp rfl) (rv_tmp rfl) ?_); exact lookR_some (look_hit (by omega)) (by omega))
    all_goals
      refine at_round _ (n - (k + 1)) ⟨k + 1, by omega, rfl, rfl, rfl, ?_, rfl⟩ (by omega) (by repeat (first | exact sub_nil | refine sub_cons (by exact rfl) ?_)) (by repeat (first | exact List.Sublist.refl _ | refine List.Sublist.cons _ ?_ | refine List.sublist_append_of_sublist_right ?_))
      rw [look_miss (by omega)]
  · repeat' (first | (refine k_gw ?_; (first | (refine k_assign ?_; (first | refine gw_q rfl (q_assign rfl) ?_)) | (refine k_move ?_; (first | refine gw_q rfl (q_move rfl) ?_)) | (refine k_call ?_; (first | refine gw_q rfl (q_len rfl und_62 rfl) ?_)) | (refine k_binOp ?_; (first | refine gw_q rfl (q_lss rfl rfl) ?_)))) | (refine k_gl ?_; (first | refine gl_nil rfl ?_ | refine gl_go rfl rfl ?_)) | (refine k_gc ?_; (first | refine gc_seq ?_ | refine gc_region ?_ | (refine gc_cond_p rfl ?_ ?_ <;> intro hq <;> try (exfalso; first | exact hq rfl | omega)) | refine gc_exit ?_ | refine gc_ret ?_)) | (refine k_at ?_; (first | refine at_seq ?_ | refine at_then_ret ?_ | refine at_then_exit ?_ | refine at_thn_ret ?_ | refine at_thn_exit ?_ | refine at_block_normal ?_ | refine at_block_ret ?_ | refine at_block_hit ?_ | refine at_block_miss rfl ?_)))
    (refine at_ret2 Try.results136 (rv_tmp rfl) (rv_tmp rfl) ?_)
    rw [hg, List.drop_eq_nil_of_le (by omega)]
    exact lookR_none rfl
theorem inside_c (V : View) (A : Option Addr) (n c : Nat) (xs : List PR) (h : MapV V A n xs) (hb : ∀ r ∈ xs, bdR r) (x : Int) : Fn Try.prog 135 [.slice A n c, .int .i64 x] V fun v _ => v = lookR (lookZ (xs.map PR.swap) x) := by
  have hm := h.1.max
  have hl := h.1.1
  (refine fn_enter Try.func135 rfl Try.ntmps135 rfl ?_; intro w0)
  repeat' (first | (refine k_gw ?_; (first | (refine k_assign ?_; (first | refine gw_q rfl (q_assign rfl) ?_)))) | (refine k_gl ?_; (first | refine gl_nil rfl ?_ | refine gl_go rfl rfl ?_)) | (refine k_gc ?_; (first | refine gc_seq ?_ | refine gc_region ?_ | refine gc_block ?_)) | (refine k_at ?_; (first | refine at_seq ?_ | refine at_then_ret ?_ | refine at_then_exit ?_ | refine at_thn_ret ?_ | refine at_thn_exit ?_ | refine at_block_normal ?_ | refine at_block_ret ?_ | refine at_block_hit ?_ | refine at_block_miss rfl ?_)))
  refine gc_loop (fun F V' L' m => ∃ k : Nat, k ≤ n ∧ m = n - k ∧ V = V' ∧ L' = [] ∧ lookZ (xs.map PR.swap) x = lookZ ((xs.drop k).map PR.swap) x ∧ F = [(0, .slice A n c), (1, .int .i64 x), (6, .int .i64 k)]) (m := n) ⟨0, Nat.zero_le _, by omega, rfl, rfl, by simp, rfl⟩ (by repeat (first | exact sub_nil | refine sub_cons (by exact rfl) ?_)) rfl (by repeat (first | exact List.Sublist.refl _ | refine List.Sublist.cons _ ?_ | refine List.sublist_append_of_sublist_right ?_)) ?_
  rintro F V' L' m ⟨k, hk, rfl, rfl, rfl, hg, rfl⟩
  by_cases hlt : k < n
  · obtain ⟨bb, off, r, rfl, hx, hc, c0, c1, c2, hr64⟩ := h.at_ hlt
    have hbr := hb r (List.mem_of_getElem? hx)
    unfold bdR at hbr
    have e1 : (0 ≤ r.o ∧ r.o ≤ 65535 ∧ 1 ≤ r.c ∧ r.c - 1 ≤ 65535 - r.o) = True := eq_true (by omega)
    have hsp := span_c V r.o r.c
    simp only [e1, if_true, decide_true] at hsp
    rw [hg, drop_at hx, List.map_cons]
    repeat' (first | (refine k_gw ?_; (first | (refine k_assign ?_; (first | refine gw_q rfl (q_assign rfl) ?_)) | (refine k_move ?_; (first | refine gw_q rfl (q_move rfl) ?_)) | (refine k_call ?_; (first | refine gw_q rfl (q_len rfl und_62 rfl) ?_ | refine gw_q' rfl (q_call ⟨Try.call153⟩ rfl (hsp)) ?_)) | (refine k_binOp ?_; (first | refine gw_q rfl (q_lss rfl rfl) ?_ | refine gw_q rfl (q_geq rfl rfl) ?_ | refine gw_q rfl (q_leq rfl rfl) ?_ | refine gw_q rfl (q_sub rfl rfl (by omega)) ?_ | refine gw_q rfl (q_add rfl rfl (by omega)) ?_)) | (refine k_indexAddr ?_; (first | refine gw_q rfl (q_indexAddr und_62 siz_78 rfl rfl (by omega)) ?_)) | (refine k_fieldAddr ?_; (first | refine gw_q rfl (q_fieldAddr fld_78_1 rfl) ?_ | refine gw_q rfl (q_fieldAddr fld_78_2 rfl) ?_ | refine gw_q rfl (q_fieldAddr fld_78_0 rfl) ?_)) | (refine k_load ?_; (first | refine gw_q rfl (q_load_v one_3 rfl (by assumption)) ?_)) | (refine k_extract ?_; (first | refine gw_q rfl (q_extract rfl rfl) ?_)) | (refine k_pick ?_; (first | refine gw_q rfl (q_pick_t rfl rfl) ?_ | refine gw_q rfl (q_pick_f rfl rfl) ?_)))) | (refine k_gl ?_; (first | refine gl_nil rfl ?_ | refine gl_go rfl rfl ?_ | refine gl_yes rfl rfl rfl rfl rfl ?_ | refine gl_no rfl rfl rfl rfl rfl rfl rfl ?_ | (refine gl_split_p rfl rfl rfl ?_ ?_ <;> intro hq <;> try (exfalso; first | exact hq rfl | omega)))) | (refine k_gc ?_; (first | refine gc_seq ?_ | refine gc_region ?_ | refine gc_cond_f rfl ?_ | (refine gc_cond_p rfl ?_ ?_ <;> intro hq <;> try (exfalso; first | exact hq rfl | omega)) | refine gc_block ?_ | refine gc_ret ?_ | refine gc_skip ?_ | refine gc_quiet (id := 4) mixed (by kernel_rfl) ?_)) | (refine k_at ?_; (first | refine at_seq ?_ | refine at_then_ret ?_ | refine at_then_exit ?_ | refine at_thn_ret ?_ | refine at_thn_exit ?_ | refine at_block_normal ?_ | refine at_block_ret ?_ | refine at_block_hit ?_ | refine at_block_miss rfl ?_)))
    all_goals try ((refine at_ret2 Try.results135 (rv_tmp rfl) (rv_tmp rfl) ?_); exact lookR_some (look_hit (by simp only [PR.swap]; omega)) (by simp only [PR.swap]))
    all_goals
      refine at_round _ (n - (k + 1)) ⟨k + 1, by omega, rfl, rfl, rfl, ?_, rfl⟩ (by omega) (by repeat (first | exact sub_nil | refine sub_cons (by exact rfl) ?_)) (by repeat (first | exact List.Sublist.refl _ | refine List.Sublist.cons _ ?_ | refine List.sublist_append_of_sublist_right ?_))
      rw [look_miss (by simp only [PR.swap]; omega)]
  · repeat' (first | (refine k_gw ?_; (first | (refine k_assign ?_; (first | refine gw_q rfl (q_assign rfl) ?_)) | (refine k_move ?_; (first | refine gw_q rfl (q_move rfl) ?_)) | (refine k_call ?_; (first | refine gw_q rfl (q_len rfl und_62 rfl) ?_)) | (refine k_binOp ?_; (first | refine gw_q rfl (q_lss rfl rfl) ?_)))) | (refine k_gl ?_; (first | refine gl_nil rfl ?_ | refine gl_go rfl rfl ?_)) | (refine k_gc ?_; (first | refine gc_seq ?_ | refine gc_region ?_ | (refine gc_cond_p rfl ?_ ?_ <;> intro hq <;> try (exfalso; first | exact hq rfl | omega)) | refine gc_exit ?_ | refine gc_ret ?_)) | (refine k_at ?_; (first | refine at_seq ?_ | refine at_then_ret ?_ | refine at_then_exit ?_ | refine at_thn_ret ?_ | refine at_thn_exit ?_ | refine at_block_normal ?_ | refine at_block_ret ?_ | refine at_block_hit ?_ | refine at_block_miss rfl ?_)))
    (refine at_ret2 Try.results135 (rv_tmp rfl) (rv_tmp rfl) ?_)
    rw [hg, List.drop_eq_nil_of_le (by omega)]
    exact lookR_none rfl
theorem RToHost_c (V : View) (A : Option Addr) (n c : Nat) (xs : List PR) (h : MapV V A n xs) (x : Int) : Fn Try.prog 103 [.slice A n c, .int .i64 x] V fun v _ => v = lookR (hostZ xs x) := by
  have hbd := mapF_bd xs
  (refine fn_enter Try.func103 rfl Try.ntmps103 rfl ?_; intro w0)
  by_cases h0 : mapFaultZ xs = 0
  · repeat' (first | (refine k_gw ?_; (first | (refine k_assign ?_; (first | refine gw_q rfl (q_assign rfl) ?_)) | (refine k_move ?_; (first | refine gw_q rfl (q_move rfl) ?_)) | (refine k_call ?_; (first | refine gw_q' rfl (q_call ⟨Try.call134⟩ rfl (MapFault_c _ _ _ _ xs h)) ?_ | refine gw_q' rfl (q_call ⟨Try.call136⟩ rfl (outside_c _ _ _ _ xs h (fault_zero h0).2.1 x)) ?_)) | (refine k_binOp ?_; (first | refine gw_q rfl (q_gtr rfl rfl) ?_)) | (refine k_extract ?_; (first | refine gw_q rfl (q_extract rfl rfl) ?_)))) | (refine k_gl ?_; (first | refine gl_nil rfl ?_ | refine gl_go rfl rfl ?_ | refine gl_yes rfl rfl rfl rfl rfl ?_ | refine gl_no rfl rfl rfl rfl rfl rfl rfl ?_ | refine gl_nou rfl rfl rfl rfl rfl rfl ?_ | (refine gl_split_p rfl rfl rfl ?_ ?_ <;> intro hq <;> try (exfalso; first | exact hq rfl | omega)) | (refine gl_split_b rfl rfl rfl ?_ ?_ <;> intro hq))) | (refine k_gc ?_; (first | refine gc_seq ?_ | refine gc_region ?_ | refine gc_cond_t rfl ?_ | refine gc_cond_f rfl ?_ | (refine gc_cond_p rfl ?_ ?_ <;> intro hq <;> try (exfalso; first | exact hq rfl | omega)) | (refine gc_cond_b rfl ?_ ?_ <;> intro hq) | refine gc_block ?_ | refine gc_exit ?_ | refine gc_ret ?_ | refine gc_skip ?_)) | (refine k_at ?_; (first | refine at_seq ?_ | refine at_then_ret ?_ | refine at_then_exit ?_ | refine at_thn_ret ?_ | refine at_thn_exit ?_ | refine at_block_normal ?_ | refine at_block_ret ?_ | refine at_block_hit ?_ | refine at_block_miss rfl ?_)))
    all_goals (refine at_ret2 Try.results103 (rv_tmp rfl) (rv_tmp rfl) ?_)
    all_goals (rw [hostZ, if_pos h0]; rfl)
  · repeat' (first | (refine k_gw ?_; (first | (refine k_assign ?_; (first | refine gw_q rfl (q_assign rfl) ?_)) | (refine k_move ?_; (first | refine gw_q rfl (q_move rfl) ?_)) | (refine k_call ?_; (first | refine gw_q' rfl (q_call ⟨Try.call134⟩ rfl (MapFault_c _ _ _ _ xs h)) ?_)) | (refine k_binOp ?_; (first | refine gw_q rfl (q_gtr rfl rfl) ?_)) | (refine k_extract ?_; (first | refine gw_q rfl (q_extract rfl rfl) ?_)))) | (refine k_gl ?_; (first | refine gl_nil rfl ?_ | refine gl_go rfl rfl ?_ | refine gl_yes rfl rfl rfl rfl rfl ?_ | refine gl_no rfl rfl rfl rfl rfl rfl rfl ?_ | refine gl_nou rfl rfl rfl rfl rfl rfl ?_ | (refine gl_split_p rfl rfl rfl ?_ ?_ <;> intro hq <;> try (exfalso; first | exact hq rfl | omega)) | (refine gl_split_b rfl rfl rfl ?_ ?_ <;> intro hq))) | (refine k_gc ?_; (first | refine gc_seq ?_ | refine gc_region ?_ | refine gc_cond_t rfl ?_ | refine gc_cond_f rfl ?_ | (refine gc_cond_p rfl ?_ ?_ <;> intro hq <;> try (exfalso; first | exact hq rfl | omega)) | (refine gc_cond_b rfl ?_ ?_ <;> intro hq) | refine gc_block ?_ | refine gc_exit ?_ | refine gc_ret ?_ | refine gc_skip ?_)) | (refine k_at ?_; (first | refine at_seq ?_ | refine at_then_ret ?_ | refine at_then_exit ?_ | refine at_thn_ret ?_ | refine at_thn_exit ?_ | refine at_block_normal ?_ | refine at_block_ret ?_ | refine at_block_hit ?_ | refine at_block_miss rfl ?_)))
    all_goals (refine at_ret2 Try.results103 (rv_tmp rfl) (rv_tmp rfl) ?_)
    all_goals (rw [hostZ, if_neg h0]; rfl)
theorem RFromHost_c (V : View) (A : Option Addr) (n c : Nat) (xs : List PR) (h : MapV V A n xs) (x : Int) : Fn Try.prog 102 [.slice A n c, .int .i64 x] V fun v _ => v = lookR (fromZ xs x) := by
  have hbd := mapF_bd xs
  (refine fn_enter Try.func102 rfl Try.ntmps102 rfl ?_; intro w0)
  by_cases h0 : mapFaultZ xs = 0
  · repeat' (first | (refine k_gw ?_; (first | (refine k_assign ?_; (first | refine gw_q rfl (q_assign rfl) ?_)) | (refine k_move ?_; (first | refine gw_q rfl (q_move rfl) ?_)) | (refine k_call ?_; (first | refine gw_q' rfl (q_call ⟨Try.call134⟩ rfl (MapFault_c _ _ _ _ xs h)) ?_ | refine gw_q' rfl (q_call ⟨Try.call135⟩ rfl (inside_c _ _ _ _ xs h (fault_zero h0).2.1 x)) ?_)) | (refine k_binOp ?_; (first | refine gw_q rfl (q_gtr rfl rfl) ?_)) | (refine k_extract ?_; (first | refine gw_q rfl (q_extract rfl rfl) ?_)))) | (refine k_gl ?_; (first | refine gl_nil rfl ?_ | refine gl_go rfl rfl ?_ | refine gl_yes rfl rfl rfl rfl rfl ?_ | refine gl_no rfl rfl rfl rfl rfl rfl rfl ?_ | refine gl_nou rfl rfl rfl rfl rfl rfl ?_ | (refine gl_split_p rfl rfl rfl ?_ ?_ <;> intro hq <;> try (exfalso; first | exact hq rfl | omega)) | (refine gl_split_b rfl rfl rfl ?_ ?_ <;> intro hq))) | (refine k_gc ?_; (first | refine gc_seq ?_ | refine gc_region ?_ | refine gc_cond_t rfl ?_ | refine gc_cond_f rfl ?_ | (refine gc_cond_p rfl ?_ ?_ <;> intro hq <;> try (exfalso; first | exact hq rfl | omega)) | (refine gc_cond_b rfl ?_ ?_ <;> intro hq) | refine gc_block ?_ | refine gc_exit ?_ | refine gc_ret ?_ | refine gc_skip ?_)) | (refine k_at ?_; (first | refine at_seq ?_ | refine at_then_ret ?_ | refine at_then_exit ?_ | refine at_thn_ret ?_ | refine at_thn_exit ?_ | refine at_block_normal ?_ | refine at_block_ret ?_ | refine at_block_hit ?_ | refine at_block_miss rfl ?_)))
    all_goals (refine at_ret2 Try.results102 (rv_tmp rfl) (rv_tmp rfl) ?_)
    all_goals (rw [fromZ, if_pos h0]; rfl)
  · repeat' (first | (refine k_gw ?_; (first | (refine k_assign ?_; (first | refine gw_q rfl (q_assign rfl) ?_)) | (refine k_move ?_; (first | refine gw_q rfl (q_move rfl) ?_)) | (refine k_call ?_; (first | refine gw_q' rfl (q_call ⟨Try.call134⟩ rfl (MapFault_c _ _ _ _ xs h)) ?_)) | (refine k_binOp ?_; (first | refine gw_q rfl (q_gtr rfl rfl) ?_)) | (refine k_extract ?_; (first | refine gw_q rfl (q_extract rfl rfl) ?_)))) | (refine k_gl ?_; (first | refine gl_nil rfl ?_ | refine gl_go rfl rfl ?_ | refine gl_yes rfl rfl rfl rfl rfl ?_ | refine gl_no rfl rfl rfl rfl rfl rfl rfl ?_ | refine gl_nou rfl rfl rfl rfl rfl rfl ?_ | (refine gl_split_p rfl rfl rfl ?_ ?_ <;> intro hq <;> try (exfalso; first | exact hq rfl | omega)) | (refine gl_split_b rfl rfl rfl ?_ ?_ <;> intro hq))) | (refine k_gc ?_; (first | refine gc_seq ?_ | refine gc_region ?_ | refine gc_cond_t rfl ?_ | refine gc_cond_f rfl ?_ | (refine gc_cond_p rfl ?_ ?_ <;> intro hq <;> try (exfalso; first | exact hq rfl | omega)) | (refine gc_cond_b rfl ?_ ?_ <;> intro hq) | refine gc_block ?_ | refine gc_exit ?_ | refine gc_ret ?_ | refine gc_skip ?_)) | (refine k_at ?_; (first | refine at_seq ?_ | refine at_then_ret ?_ | refine at_then_exit ?_ | refine at_thn_ret ?_ | refine at_thn_exit ?_ | refine at_block_normal ?_ | refine at_block_ret ?_ | refine at_block_hit ?_ | refine at_block_miss rfl ?_)))
    all_goals (refine at_ret2 Try.results102 (rv_tmp rfl) (rv_tmp rfl) ?_)
    all_goals (rw [fromZ, if_neg h0]; rfl)
theorem through_c (V : View) (A : Option Addr) (n c : Nat) (xs : List PR) (h : MapV V A n xs) (hcap : n ≤ c) (x : Int) (f : FuncId) (g : PR → PR) (he : Enters Try.prog f) (hg1 : ∀ r, (g r).c = r.c) (hg2 : ∀ r, bdR r → bdR (g r))
    (hs : ∀ V r, Fn Try.prog f [.agg (prC r).toArray] V fun v _ => v = .tuple #[.int .i64 (g r).i, .int .i64 (g r).o]) :
    Fn Try.prog 77 [.slice A n c, .int .i64 x, .func (.func f) #[] #[]] V fun v _ => v = lookR (if mapFaultZ xs = 0 then lookZ (xs.map g) x else none) := by
  have hm := h.1.max
  have hl := h.1.1
  (refine fn_enter Try.func77 rfl Try.ntmps77 rfl ?_; intro w0)
  by_cases h0 : mapFaultZ xs = 0
  · rw [if_pos h0]
    have hb := (fault_zero h0).2.1
    repeat' (first | (refine k_gw ?_; (first | (refine k_assign ?_; (first | refine gw_q rfl (q_assign rfl) ?_)) | (refine k_move ?_; (first | refine gw_q rfl (q_move rfl) ?_)) | (refine k_call ?_; (first | refine gw_q rfl (q_len rfl und_62 rfl) ?_ | refine gw_q' rfl (q_call ⟨Try.call42⟩ rfl (MCheck_c _ _ _ _ xs h hcap)) ?_)) | (refine k_binOp ?_; (first | refine gw_q rfl (q_eneq rfl) ?_)))) | (refine k_gl ?_; (first | refine gl_nil rfl ?_ | refine gl_go rfl rfl ?_)) | (refine k_gc ?_; (first | refine gc_seq ?_ | refine gc_region ?_ | (refine gc_cond_p rfl ?_ ?_ <;> intro hq <;> try (exfalso; first | exact hq rfl | omega)) | refine gc_block ?_ | refine gc_skip ?_)) | (refine k_at ?_; (first | refine at_seq ?_ | refine at_then_ret ?_ | refine at_then_exit ?_ | refine at_thn_ret ?_ | refine at_thn_exit ?_ | refine at_block_normal ?_ | refine at_block_ret ?_ | refine at_block_hit ?_ | refine at_block_miss rfl ?_)))
    refine gc_loop (fun F V' L' m => ∃ k : Nat, k ≤ n ∧ m = n - k ∧ V = V' ∧ L' = [] ∧ lookZ (xs.map g) x = lookZ ((xs.drop k).map g) x ∧ F = [(1, .int .i64 x), (2, .func (.func f) #[] #[]), (15, .slice A n c), (16, .int .i64 n), (17, .int .i64 k)]) (m := n) ⟨0, Nat.zero_le _, by omega, rfl, rfl, by simp, rfl⟩ (by repeat (first | exact sub_nil | refine sub_cons (by exact rfl) ?_)) rfl (by repeat (first | exact List.Sublist.refl _ | refine List.Sublist.cons _ ?_ | refine List.sublist_append_of_sublist_right ?_)) ?_
    rintro F V' L' m ⟨k, hk, rfl, rfl, rfl, hg, rfl⟩
    by_cases hlt : k < n
    · obtain ⟨bb, off, r, rfl, hx, hc, c0, c1, c2, hr64⟩ := h.at_ hlt
      have hbr := hb r (List.mem_of_getElem? hx)
      have hbg := hg2 r hbr
      have hgc := hg1 r
      unfold bdR at hbr hbg
      rw [hg, drop_at hx, List.map_cons]
      repeat' (first | (refine k_gw ?_; (first | (refine k_assign ?_; (first | refine gw_q rfl (q_assign rfl) ?_)) | (refine k_move ?_; (first | refine gw_q rfl (q_move rfl) ?_)) | (refine k_call ?_; (first | refine gw_q rfl (q_len rfl und_62 rfl) ?_ | refine gw_q' rfl (q_callv he rfl rfl (hs _ r)) ?_)) | (refine k_binOp ?_; (first | refine gw_q rfl (q_lss rfl rfl) ?_ | refine gw_q rfl (q_geq rfl rfl) ?_ | refine gw_q rfl (q_add rfl rfl (by omega)) ?_ | refine gw_q rfl (q_sub rfl rfl (by omega)) ?_)) | (refine k_indexAddr ?_; (first | refine gw_q rfl (q_indexAddr und_62 siz_78 rfl rfl (by omega)) ?_)) | (refine k_load ?_; (first | refine gw_q rfl (q_loadA_o agg_78 rfl (by first | ((repeat (first | exact own_here | apply own_next | apply own_skip)); done) | fail) (by exact rfl)) ?_ | refine gw_q rfl (q_loadA_v agg_78 rfl (by assumption) (by exact rfl)) ?_ | refine gw_q rfl (q_load_o one_3 rfl (by first | ((repeat (first | exact own_here | apply own_next | apply own_skip)); done) | fail) (by exact rfl)) ?_)) | (refine k_alloc ?_; (first | (refine gw_alloc rfl zer_78 rfl ?_; intro γ))) | (refine k_store ?_; (first | refine gw_store rfl siz_78 rfl rfl rfl rfl (by first | exact ones_of rfl | exact ones_pr _ | exact ones_pa _ | exact ones_any (by assumption) | (simp [isOne, spl, *]; done) | fail) (by first | ((repeat (first | exact PutAt.here _ _ _ _ _ _ (Nat.le_of_ble_eq_true rfl) | apply PutAt.next | apply putAt_skip)); done) | fail) rfl ?_)) | (refine k_extract ?_; (first | refine gw_q rfl (q_extract rfl rfl) ?_)) | (refine k_fieldAddr ?_; (first | refine gw_q rfl (q_fieldAddr fld_78_2 rfl) ?_)) | (refine k_pick ?_; (first | refine gw_q rfl (q_pick_t rfl rfl) ?_ | refine gw_q rfl (q_pick_f rfl rfl) ?_)))) | (refine k_gl ?_; (first | refine gl_nil rfl ?_ | refine gl_go rfl rfl ?_ | refine gl_yes rfl rfl rfl rfl rfl ?_ | refine gl_no rfl rfl rfl rfl rfl rfl rfl ?_ | (refine gl_split_p rfl rfl rfl ?_ ?_ <;> intro hq <;> try (exfalso; first | exact hq rfl | omega)))) | (refine k_gc ?_; (first | refine gc_seq ?_ | refine gc_region ?_ | refine gc_cond_f rfl ?_ | (refine gc_cond_p rfl ?_ ?_ <;> intro hq <;> try (exfalso; first | exact hq rfl | omega)) | refine gc_block ?_ | refine gc_ret ?_ | refine gc_skip ?_)) | (refine k_at ?_; (first | refine at_seq ?_ | refine at_then_ret ?_ | refine at_then_exit ?_ | refine at_thn_ret ?_ | refine at_thn_exit ?_ | refine at_block_normal ?_ | refine at_block_ret ?_ | refine at_block_hit ?_ | refine at_block_miss rfl ?_)))
      all_goals try ((refine at_ret2 Try.results77 (rv_tmp rfl) (rv_tmp rfl) ?_); exact lookR_some (look_hit (by omega)) (by omega))
      all_goals
        refine at_round _ (n - (k + 1)) ⟨k + 1, by omega, rfl, rfl, rfl, ?_, rfl⟩ (by omega) (by repeat (first | exact sub_nil | refine sub_cons (by exact rfl) ?_)) (by repeat (first | exact List.Sublist.refl _ | refine List.Sublist.cons _ ?_ | refine List.sublist_append_of_sublist_right ?_))
        rw [look_miss (by omega)]
    · repeat' (first | (refine k_gw ?_; (first | (refine k_assign ?_; (first | refine gw_q rfl (q_assign rfl) ?_)) | (refine k_binOp ?_; (first | refine gw_q rfl (q_lss rfl rfl) ?_)))) | (refine k_gl ?_; (first | refine gl_nil rfl ?_ | refine gl_go rfl rfl ?_)) | (refine k_gc ?_; (first | refine gc_seq ?_ | refine gc_region ?_ | (refine gc_cond_p rfl ?_ ?_ <;> intro hq <;> try (exfalso; first | exact hq rfl | omega)) | refine gc_exit ?_ | refine gc_ret ?_)) | (refine k_at ?_; (first | refine at_seq ?_ | refine at_then_ret ?_ | refine at_then_exit ?_ | refine at_thn_ret ?_ | refine at_thn_exit ?_ | refine at_block_normal ?_ | refine at_block_ret ?_ | refine at_block_hit ?_ | refine at_block_miss rfl ?_)))
      (refine at_ret2 Try.results77 (rv_tmp rfl) (rv_tmp rfl) ?_)
      rw [hg, List.drop_eq_nil_of_le (by omega)]
      exact lookR_none rfl
  · rw [if_neg h0]
    repeat' (first | (refine k_gw ?_; (first | (refine k_assign ?_; (first | refine gw_q rfl (q_assign rfl) ?_)) | (refine k_move ?_; (first | refine gw_q rfl (q_move rfl) ?_)) | (refine k_call ?_; (first | refine gw_q rfl (q_len rfl und_62 rfl) ?_ | refine gw_q' rfl (q_call ⟨Try.call42⟩ rfl (MCheck_c _ _ _ _ xs h hcap)) ?_)) | (refine k_binOp ?_; (first | refine gw_q rfl (q_eneq rfl) ?_)))) | (refine k_gl ?_; (first | refine gl_nil rfl ?_ | refine gl_go rfl rfl ?_)) | (refine k_gc ?_; (first | refine gc_seq ?_ | refine gc_region ?_ | (refine gc_cond_p rfl ?_ ?_ <;> intro hq <;> try (exfalso; first | exact hq rfl | omega)) | refine gc_ret ?_)) | (refine k_at ?_; (first | refine at_seq ?_ | refine at_then_ret ?_ | refine at_then_exit ?_ | refine at_thn_ret ?_ | refine at_thn_exit ?_ | refine at_block_normal ?_ | refine at_block_ret ?_ | refine at_block_hit ?_ | refine at_block_miss rfl ?_)))
    all_goals (refine at_ret2 Try.results77 (rv_tmp rfl) (rv_tmp rfl) ?_)
    all_goals exact lookR_none rfl
theorem ToHost_c (V : View) (A : Option Addr) (n c : Nat) (xs : List PR) (h : MapV V A n xs) (hcap : n ≤ c) (x : Int) : Fn Try.prog 41 [.slice A n c, .int .i64 x] V fun v _ => v = lookR (hostZ xs x) := by
  have ht := through_c V A n c xs h hcap x 78 (fun r => r) ⟨Try.call78⟩ (fun _ => rfl) (fun _ hr => hr) (fun V r => ToHost1_c V r)
  rw [show (xs.map fun r => r) = xs by simp] at ht
  (refine fn_enter Try.func41 rfl Try.ntmps41 rfl ?_; intro w0)
  repeat' (first | (refine k_gw ?_; (first | (refine k_assign ?_; (first | refine gw_q rfl (q_assign rfl) ?_)) | (refine k_move ?_; (first | refine gw_q rfl (q_move rfl) ?_)) | (refine k_call ?_; (first | refine gw_q' rfl (q_call ⟨Try.call77⟩ rfl (ht)) ?_)) | (refine k_extract ?_; (first | refine gw_q rfl (q_extract rfl rfl) ?_)))) | (refine k_gl ?_; (first | refine gl_nil rfl ?_ | refine gl_go rfl rfl ?_ | refine gl_yes rfl rfl rfl rfl rfl ?_ | refine gl_no rfl rfl rfl rfl rfl rfl rfl ?_ | refine gl_nou rfl rfl rfl rfl rfl rfl ?_ | (refine gl_split_p rfl rfl rfl ?_ ?_ <;> intro hq <;> try (exfalso; first | exact hq rfl | omega)) | (refine gl_split_b rfl rfl rfl ?_ ?_ <;> intro hq))) | (refine k_gc ?_; (first | refine gc_seq ?_ | refine gc_region ?_ | refine gc_cond_t rfl ?_ | refine gc_cond_f rfl ?_ | (refine gc_cond_p rfl ?_ ?_ <;> intro hq <;> try (exfalso; first | exact hq rfl | omega)) | (refine gc_cond_b rfl ?_ ?_ <;> intro hq) | refine gc_block ?_ | refine gc_exit ?_ | refine gc_ret ?_ | refine gc_skip ?_)) | (refine k_at ?_; (first | refine at_seq ?_ | refine at_then_ret ?_ | refine at_then_exit ?_ | refine at_thn_ret ?_ | refine at_thn_exit ?_ | refine at_block_normal ?_ | refine at_block_ret ?_ | refine at_block_hit ?_ | refine at_block_miss rfl ?_)))
  all_goals (refine at_ret2 Try.results41 (rv_tmp rfl) (rv_tmp rfl) ?_)
  all_goals rfl
theorem FromHost_c (V : View) (A : Option Addr) (n c : Nat) (xs : List PR) (h : MapV V A n xs) (hcap : n ≤ c) (x : Int) : Fn Try.prog 43 [.slice A n c, .int .i64 x] V fun v _ => v = lookR (fromZ xs x) := by
  have ht := through_c V A n c xs h hcap x 81 PR.swap ⟨Try.call81⟩ (fun _ => rfl) (fun _ hr => swap_bd hr) (fun V r => FromHost1_c V r)
  (refine fn_enter Try.func43 rfl Try.ntmps43 rfl ?_; intro w0)
  repeat' (first | (refine k_gw ?_; (first | (refine k_assign ?_; (first | refine gw_q rfl (q_assign rfl) ?_)) | (refine k_move ?_; (first | refine gw_q rfl (q_move rfl) ?_)) | (refine k_call ?_; (first | refine gw_q' rfl (q_call ⟨Try.call77⟩ rfl (ht)) ?_)) | (refine k_extract ?_; (first | refine gw_q rfl (q_extract rfl rfl) ?_)))) | (refine k_gl ?_; (first | refine gl_nil rfl ?_ | refine gl_go rfl rfl ?_ | refine gl_yes rfl rfl rfl rfl rfl ?_ | refine gl_no rfl rfl rfl rfl rfl rfl rfl ?_ | refine gl_nou rfl rfl rfl rfl rfl rfl ?_ | (refine gl_split_p rfl rfl rfl ?_ ?_ <;> intro hq <;> try (exfalso; first | exact hq rfl | omega)) | (refine gl_split_b rfl rfl rfl ?_ ?_ <;> intro hq))) | (refine k_gc ?_; (first | refine gc_seq ?_ | refine gc_region ?_ | refine gc_cond_t rfl ?_ | refine gc_cond_f rfl ?_ | (refine gc_cond_p rfl ?_ ?_ <;> intro hq <;> try (exfalso; first | exact hq rfl | omega)) | (refine gc_cond_b rfl ?_ ?_ <;> intro hq) | refine gc_block ?_ | refine gc_exit ?_ | refine gc_ret ?_ | refine gc_skip ?_)) | (refine k_at ?_; (first | refine at_seq ?_ | refine at_then_ret ?_ | refine at_then_exit ?_ | refine at_thn_ret ?_ | refine at_thn_exit ?_ | refine at_block_normal ?_ | refine at_block_ret ?_ | refine at_block_hit ?_ | refine at_block_miss rfl ?_)))
  all_goals (refine at_ret2 Try.results43 (rv_tmp rfl) (rv_tmp rfl) ?_)
  all_goals rfl
theorem SameMap_c (V : View) (A B : Option Addr) (n m c1 c2 : Nat) (xs ys : List PR) (h : MapV V A n xs) (k : MapV V B m ys) :
    Fn Try.prog 46 [.slice A n c1, .slice B m c2] V fun v _ => v = .bool (decide (xs = ys)) := by
  have hm := h.1.max
  have hl := h.1.1
  have hl2 := k.1.1
  (refine fn_enter Try.func46 rfl Try.ntmps46 rfl ?_; intro w0)
  repeat' (first | (refine k_gw ?_; (first | (refine k_assign ?_; (first | refine gw_q rfl (q_assign rfl) ?_)) | (refine k_move ?_; (first | refine gw_q rfl (q_move rfl) ?_)) | (refine k_call ?_; (first | refine gw_q rfl (q_len rfl und_62 rfl) ?_)) | (refine k_binOp ?_; (first | refine gw_q rfl (q_neq rfl rfl) ?_ | refine gw_q rfl (q_lss rfl rfl) ?_ | refine gw_q rfl (q_aneq ng_78 rfl rfl (eqs_78 ..)) ?_ | refine gw_q rfl (q_add rfl rfl (by omega)) ?_ | refine gw_q rfl (q_addw rfl rfl) ?_)))) | (refine k_gl ?_; (first | refine gl_nil rfl ?_ | refine gl_go rfl rfl ?_)) | (refine k_gc ?_; (first | refine gc_seq ?_ | refine gc_region ?_ | (refine gc_cond_p rfl ?_ ?_ <;> intro hq <;> try (exfalso; first | exact hq rfl | omega)) | refine gc_block ?_ | refine gc_ret ?_ | refine gc_skip ?_)) | (refine k_at ?_; (first | refine at_seq ?_ | refine at_then_ret ?_ | refine at_then_exit ?_ | refine at_thn_ret ?_ | refine at_thn_exit ?_ | refine at_block_normal ?_ | refine at_block_ret ?_ | refine at_block_hit ?_ | refine at_block_miss rfl ?_)))
  · (refine at_ret1 Try.results46 (rv_tmp rfl) ?_)
    rw [decide_eq_false (fun e => by subst e; omega)]
  · have hnm : n = m := by omega
    subst hnm
    refine gc_loop (fun F V' L' m => ∃ i : Nat, i ≤ n ∧ m = n - i ∧ V = V' ∧ L' = [] ∧ xs.take i = ys.take i ∧ F = [(0, .slice A n c1), (1, .slice B n c2), (5, .int .i64 i)]) (m := n) ⟨0, Nat.zero_le _, by omega, rfl, rfl, by simp, rfl⟩ (by repeat (first | exact sub_nil | refine sub_cons (by exact rfl) ?_)) rfl (by repeat (first | exact List.Sublist.refl _ | refine List.Sublist.cons _ ?_ | refine List.sublist_append_of_sublist_right ?_)) ?_
    rintro F V' L' m ⟨i, hi, rfl, rfl, rfl, he, rfl⟩
    by_cases hlt : i < n
    · obtain ⟨b1, o1, x, rfl, hx, hcx, _⟩ := h.at_ hlt
      obtain ⟨b2, o2, y, rfl, hy, hcy, _⟩ := k.at_ hlt
      repeat' (first | (refine k_gw ?_; (first | (refine k_assign ?_; (first | refine gw_q rfl (q_assign rfl) ?_)) | (refine k_move ?_; (first | refine gw_q rfl (q_move rfl) ?_)) | (refine k_call ?_; (first | refine gw_q rfl (q_len rfl und_62 rfl) ?_)) | (refine k_binOp ?_; (first | refine gw_q rfl (q_neq rfl rfl) ?_ | refine gw_q rfl (q_lss rfl rfl) ?_ | refine gw_q rfl (q_aneq ng_78 rfl rfl (eqs_78 ..)) ?_ | refine gw_q rfl (q_add rfl rfl (by omega)) ?_ | refine gw_q rfl (q_addw rfl rfl) ?_)) | (refine k_indexAddr ?_; (first | refine gw_q rfl (q_indexAddr und_62 siz_78 rfl rfl (by omega)) ?_)) | (refine k_load ?_; (first | refine gw_q rfl (q_loadA_v agg_78 rfl (by assumption) (by exact rfl)) ?_)))) | (refine k_gl ?_; (first | refine gl_nil rfl ?_ | refine gl_go rfl rfl ?_)) | (refine k_gc ?_; (first | refine gc_seq ?_ | refine gc_region ?_ | (refine gc_cond_p rfl ?_ ?_ <;> intro hq <;> try (exfalso; first | exact hq rfl | omega)) | (refine gc_cond_b rfl ?_ ?_ <;> intro hq) | refine gc_block ?_ | refine gc_ret ?_ | refine gc_skip ?_ | refine gc_quiet (id := 6) mixed (by kernel_rfl) ?_)) | (refine k_at ?_; (first | refine at_seq ?_ | refine at_then_ret ?_ | refine at_then_exit ?_ | refine at_thn_ret ?_ | refine at_thn_exit ?_ | refine at_block_normal ?_ | refine at_block_ret ?_ | refine at_block_hit ?_ | refine at_block_miss rfl ?_)))
      · (refine at_ret1 Try.results46 (rv_tmp rfl) ?_)
        rw [decide_eq_false (fun e => by subst e; rw [hx] at hy; injection hy with hy; subst hy; simp at hq)]
      · refine at_round _ (n - (i + 1)) ⟨i + 1, by omega, rfl, rfl, rfl, ?_, rfl⟩ (by omega) (by repeat (first | exact sub_nil | refine sub_cons (by exact rfl) ?_)) (by repeat (first | exact List.Sublist.refl _ | refine List.Sublist.cons _ ?_ | refine List.sublist_append_of_sublist_right ?_))
        have hxy : x = y := by simp at hq; ext <;> simp [hq]
        rw [List.take_add_one, List.take_add_one, he, hx, hy, hxy]
    · repeat' (first | (refine k_gw ?_; (first | (refine k_assign ?_; (first | refine gw_q rfl (q_assign rfl) ?_)) | (refine k_move ?_; (first | refine gw_q rfl (q_move rfl) ?_)) | (refine k_call ?_; (first | refine gw_q rfl (q_len rfl und_62 rfl) ?_)) | (refine k_binOp ?_; (first | refine gw_q rfl (q_neq rfl rfl) ?_ | refine gw_q rfl (q_lss rfl rfl) ?_ | refine gw_q rfl (q_aneq ng_78 rfl rfl (eqs_78 ..)) ?_ | refine gw_q rfl (q_add rfl rfl (by omega)) ?_ | refine gw_q rfl (q_addw rfl rfl) ?_)))) | (refine k_gl ?_; (first | refine gl_nil rfl ?_ | refine gl_go rfl rfl ?_)) | (refine k_gc ?_; (first | refine gc_seq ?_ | refine gc_region ?_ | (refine gc_cond_p rfl ?_ ?_ <;> intro hq <;> try (exfalso; first | exact hq rfl | omega)) | refine gc_exit ?_ | refine gc_ret ?_)) | (refine k_at ?_; (first | refine at_seq ?_ | refine at_then_ret ?_ | refine at_then_exit ?_ | refine at_thn_ret ?_ | refine at_thn_exit ?_ | refine at_block_normal ?_ | refine at_block_ret ?_ | refine at_block_hit ?_ | refine at_block_miss rfl ?_)))
      (refine at_ret1 Try.results46 (rv_tmp rfl) ?_)
      rw [List.take_of_length_le (by omega), List.take_of_length_le (by omega)] at he
      rw [decide_eq_true he]
end Go.Proofs.Ytejkmomfpidnbab

/- What lowers have becomes the upper's, in plain terms. -/
namespace Go.Proofs.Ytejkmomfpidnbab
open Go.RowKit
set_option linter.unusedSimpArgs false
set_option linter.unusedVariables false
/-- An id outside (out), within. -/
def hz (out : Bool) (m : List PR) (x : Int) : Option Int := if out = true then hostZ m x else fromZ m x
def movedP (out : Bool) (us gs : List PR) (n : PN) : Option PN :=
  match hz out us n.h.user, hz out gs n.h.group with
  | some u, some g => some (.mk { n.h with user := u, group := g } n.ks)
  | _, _ => none
theorem moved_some {out : Bool} {us gs : List PR} {n : PN} {u g : Int} (h1 : hz out us n.h.user = some u) (h2 : hz out gs n.h.group = some g) : movedP out us gs n = some (.mk { n.h with user := u, group := g } n.ks) := by unfold movedP; rw [h1, h2]
theorem moved_one {out : Bool} {us gs : List PR} {n : PN} (h1 : hz out us n.h.user = none) : movedP out us gs n = none := by unfold movedP; rw [h1]
theorem moved_two {out : Bool} {us gs : List PR} {n : PN} (h1 : hz out gs n.h.group = none) : movedP out us gs n = none := by unfold movedP; rw [h1]; cases hz out us n.h.user <;> rfl
def movF (r : Option PN) : Int := if r.isSome = true then 0 else 11
/-- A node without what is in it. -/
def bareP (n : PN) : PN := .mk { n.h with opq := false } []
/-- One name more. -/
def upOne (l : List PN) (us gs : List PR) (ss : List ByteArray) (u : PN) : PN × Int :=
  match walkP l ss with
  | [] => (u, 0)
  | f :: _ => if f.2 = 0 then (u, 0) else match movedP true us gs (bareP f.1) with
    | none => (pnZ, 11)
    | some x => if pF false x u ss = 0 then (pN false x u ss, 0) else (pnZ, pF false x u ss)
def upK (l : List PN) (us gs : List PR) (ss : List ByteArray) (u0 : PN) : Nat → PN × Int
  | 0 => (u0, 0)
  | i + 1 => if (upK l us gs ss u0 i).2 = 0 then upOne l us gs (ss.take (i + 1)) (upK l us gs ss u0 i).1 else upK l us gs ss u0 i
theorem upK_stop {l : List PN} {us gs : List PR} {ss : List ByteArray} {u0 : PN} {i : Nat} (h : ¬ (upK l us gs ss u0 i).2 = 0) : ∀ d, upK l us gs ss u0 (i + d) = upK l us gs ss u0 i
  | 0 => rfl
  | d + 1 => by
    have := upK_stop h d
    rw [← Nat.add_assoc, upK, this, if_neg h]
theorem upK_on {l : List PN} {us gs : List PR} {ss : List ByteArray} {u0 : PN} {i : Nat} (h : (upK l us gs ss u0 i).2 = 0) : upK l us gs ss u0 (i + 1) = upOne l us gs (ss.take (i + 1)) (upK l us gs ss u0 i).1 := by rw [upK, if_pos h]
def upP (l : List PN) (us gs : List PR) (ss : List ByteArray) : PN × Int :=
  if walkP l ss = [] then (pnZ, 5) else upK l us gs ss (l.headD pnZ) ss.length
theorem upOne_bd (l : List PN) (us gs : List PR) (ss : List ByteArray) (u : PN) : 0 ≤ (upOne l us gs ss u).2 ∧ (upOne l us gs ss u).2 ≤ 11 := by
  unfold upOne
  split
  · simp
  · split
    · simp
    · split
      · simp
      · rename_i x _
        have := pF_bd false x ss u
        split
        · simp
        · simp only []; omega
theorem upK_bd (l : List PN) (us gs : List PR) (ss : List ByteArray) (u0 : PN) : ∀ i, 0 ≤ (upK l us gs ss u0 i).2 ∧ (upK l us gs ss u0 i).2 ≤ 11
  | 0 => by simp [upK]
  | i + 1 => by
    rw [upK]; split
    · exact upOne_bd _ _ _ _ _
    · exact upK_bd l us gs ss u0 i
theorem upP_bd (l : List PN) (us gs : List PR) (ss : List ByteArray) : 0 ≤ (upP l us gs ss).2 ∧ (upP l us gs ss).2 ≤ 11 := by
  unfold upP; split
  · simp
  · exact upK_bd _ _ _ _ _ _
/-- No node has too many kids. -/
def boundP (b : Nat) (h : Hd) (ks : PKs) : Prop := h.attrs.length ≤ 1000 ∧ ks.length ≤ b
theorem bound_le {b c : Nat} (h : b ≤ c) {hd : Hd} {ks : PKs} (k : boundP b hd ks) : boundP c hd ks := ⟨k.1, Nat.le_trans k.2 h⟩
theorem bound_mid {b : Nat} (h : b ≤ 50000) {hd : Hd} {ks : PKs} (k : boundP b hd ks) : midP hd ks := ⟨by have := k.1; omega, Nat.le_trans k.2 h⟩
theorem edit_bound {b : Nat} {x : PN} {hd : Hd} {ks : PKs} {s : ByteArray} (hn : boundP b hd ks) (hk : ∀ k ∈ ks, AllN (boundP (b + 1)) k.2) (hx : AllN (boundP (b + 1)) x) : AllN (boundP (b + 1)) (.mk hd (editK false x ks s)) := by
  refine .mk ⟨hn.1, ?_⟩ fun k hk2 => ?_
  · have := edit_len (cut := false) (x := x) (ks := ks) (s := s)
    have := hn.2
    omega
  · rcases edit_mem' hk2 with h | h
    · exact hk k h
    · rw [h]; exact hx
theorem pN_bound {b : Nat} {x : PN} (hx : AllN (boundP b) x) : ∀ {l : List ByteArray} {n : PN}, pF false x n l = 0 → AllN (boundP b) n → AllN (boundP (b + 1)) (pN false x n l)
  | [], n, h, _ => by simp [pF] at h
  | [s], n, _, hm => by
    rw [pN]
    exact edit_bound hm.here (fun k hk => (hm.kid hk).imp fun _ _ => bound_le (by omega)) (hx.imp fun _ _ => bound_le (by omega))
  | s :: t :: l, n, h, hm => by
    obtain ⟨hk, m, hm2, h3⟩ := pF_cons.1 h
    rw [pN_cons hm2]
    exact edit_bound hm.here (fun k hk => (hm.kid hk).imp fun _ _ => bound_le (by omega)) (pN_bound hx h3 (hm.kid (look_mem hm2)))
end Go.Proofs.Ytejkmomfpidnbab

/- The walks of copyup's Inside, Outside, Seen, and the reference's, by the engine. -/
namespace Go.Proofs.Ytejkmomfpidnbab
open Go.RowKit
set_option linter.unusedSimpArgs false
set_option linter.unusedVariables false
/-- Two maps. -/
structure LM where
  A : Option Addr
  n : Nat
  c : Nat
  us : List PR
  B : Option Addr
  m : Nat
  e : Nat
  gs : List PR
abbrev lmV (M : LM) : Value := .agg #[.slice M.A M.n M.c, .slice M.B M.m M.e]
def MapsV (V : View) (M : LM) : Prop := MapV V M.A M.n M.us ∧ M.n ≤ M.c ∧ MapV V M.B M.m M.gs ∧ M.m ≤ M.e
theorem MapsV.le {V V' : View} (hv : VLe V V') {M : LM} (h : MapsV V M) : MapsV V' M := ⟨⟨h.1.1.le hv, h.1.2⟩, h.2.1, ⟨h.2.2.1.1.le hv, h.2.2.1.2⟩, h.2.2.2⟩
def MovR (r : Option PN) (ev : Value) (v : Value) (V' : View) : Prop := ∃ y : LN, v = .tuple #[lnV y, ev] ∧ NodeV V' y ∧ y.n = r.getD pnZ
theorem MovR.none {V : View} {r : Option PN} {ev : Value} (h : r = .none) : MovR r ev (.tuple #[lnV lnZ, ev]) V := ⟨lnZ, rfl, NodeV.zero, by rw [h]; rfl⟩
theorem moved_node {V : View} {x : LN} {u g : Int} (h : NodeV V x) : NodeV V { x with h := { x.h with user := u, group := g } } := by
  obtain ⟨h1, h2, h3, h4, es, h5, h6⟩ := h.inv
  exact NodeV.of (es := es) h1 h2 h3 h4 h5 h6
attribute [local irreducible] AtQ GoC GoL GoW QO QP Fn RV OwnAt CellsFrom VLe SrcIs errV
set_option maxRecDepth 100000
set_option maxRecDepth 100000 in
set_option maxHeartbeats 4000000 in
theorem Outside_c (V : View) (M : LM) (hM : MapsV V M) (x : LN) (hx : NodeV V x) (hsm : AllN smallP x.n) : Fn Try.prog 140 [lmV M, lnV x] V (MovR (movedP true M.us M.gs x.n) (errV (movF (movedP true M.us M.gs x.n)))) := by
  cases h1 : hostZ M.us x.h.user with
  | none =>
    have hm := moved_one (out := true) (us := M.us) (gs := M.gs) (n := x.n) h1
    have c1 := fun V' (hV : VLe V V') => (by have h := ToHost_c V' M.A M.n M.c M.us (hM.le hV).1 hM.2.1 x.h.user; rw [h1] at h; exact h : Fn Try.prog 41 [.slice M.A M.n M.c, .int .i64 x.h.user] V' fun v _ => v = .tuple #[.int .i64 0, .bool false])
    have c2 := fun V' (hV : VLe V V') => ToHost_c V' M.B M.m M.e M.gs (hM.le hV).2.2.1 hM.2.2.2 x.h.group
    rw [hm]
    (refine fn_enter Try.func140 rfl Try.ntmps140 rfl ?_; intro w0)
    repeat' (first | (refine k_gw ?_; (first | (refine k_box ?_; (first | (refine gw_box rfl rfl rfl rfl ?_; intro γ))) | (refine k_alloc ?_; (first | (refine gw_alloc rfl zer_37 rfl ?_; intro γ))) | (refine k_assign ?_; (first | refine gw_q rfl (q_assign rfl) ?_)) | (refine k_fieldAddr ?_; (first | refine gw_q rfl (q_fieldAddr fld_64_0 rfl) ?_ | refine gw_q rfl (q_fieldAddr fld_37_2 rfl) ?_ | refine gw_q rfl (q_fieldAddr fld_64_1 rfl) ?_ | refine gw_q rfl (q_fieldAddr fld_37_3 rfl) ?_)) | (refine k_load ?_; (first | refine gw_q rfl (q_load_o one_62 rfl (by first | ((repeat (first | exact own_here | apply own_next | apply own_skip)); done) | fail) (by exact rfl)) ?_ | refine gw_q rfl (q_load_o one_3 rfl (by first | ((repeat (first | exact own_here | apply own_next | apply own_skip)); done) | fail) (by exact rfl)) ?_)) | (refine k_call ?_; (first | refine gw_q' rfl (q_call ⟨Try.call41⟩ rfl (c1 _ (by first | ((repeat (first | exact VLe.refl _ | assumption | refine VLe.trans ?_ (by assumption))); done) | fail))) ?_ | refine gw_q' rfl (q_call ⟨Try.call41⟩ rfl (c2 _ (by first | ((repeat (first | exact VLe.refl _ | assumption | refine VLe.trans ?_ (by assumption))); done) | fail))) ?_)) | (refine k_move ?_; (first | refine gw_q rfl (q_move rfl) ?_)) | (refine k_extract ?_; (first | refine gw_q rfl (q_extract rfl rfl) ?_)) | (refine k_unOp ?_; (first | refine gw_q rfl (q_not_t rfl) ?_ | refine gw_q rfl (q_not_f rfl) ?_ | refine gw_q rfl (q_not_p rfl) ?_ | refine gw_q rfl (q_not_b rfl) ?_)) | (refine k_pick ?_; (first | refine gw_q rfl (q_pick_t rfl rfl) ?_ | refine gw_q rfl (q_pick_f rfl rfl) ?_)) | (refine k_build ?_; (first | refine gw_q rfl (q_build bld_37 rfl rfl) ?_)) | (refine k_makeInterface ?_; (first | refine gw_q rfl (q_mkiface und_85 rfl rfl) ?_)) | (refine k_store ?_; (first | refine gw_store rfl siz_37 rfl rfl rfl rfl (by first | exact ones_of rfl | exact ones_pr _ | exact ones_pa _ | exact ones_any (by assumption) | (simp [isOne, spl, *]; done) | fail) (by first | ((repeat (first | exact PutAt.here _ _ _ _ _ _ (Nat.le_of_ble_eq_true rfl) | apply PutAt.next | apply putAt_skip)); done) | fail) rfl ?_)))) | (refine k_gl ?_; (first | refine gl_nil rfl ?_ | refine gl_go rfl rfl ?_ | refine gl_no rfl rfl rfl rfl rfl rfl rfl ?_)) | (refine k_gc ?_; (first | refine gc_seq ?_ | refine gc_region ?_ | refine gc_cond_t rfl ?_ | refine gc_ret ?_)) | (refine k_at ?_; (first | refine at_seq ?_ | refine at_then_ret ?_ | refine at_then_exit ?_ | refine at_thn_ret ?_ | refine at_thn_exit ?_ | refine at_block_normal ?_ | refine at_block_ret ?_ | refine at_block_hit ?_ | refine at_block_miss rfl ?_)))
    all_goals (refine at_ret2 Try.results140 (rv_cellA agg_37 rfl (by first | ((repeat (first | exact own_here | apply own_next | apply own_skip)); done) | fail) (by exact rfl)) (rv_tmp rfl) ?_)
    all_goals exact (by rw [← errV_pos (e := 11) (by decide)]; exact MovR.none rfl)
  | some u =>
    have c1 := fun V' (hV : VLe V V') => (by have h := ToHost_c V' M.A M.n M.c M.us (hM.le hV).1 hM.2.1 x.h.user; rw [h1] at h; exact h : Fn Try.prog 41 [.slice M.A M.n M.c, .int .i64 x.h.user] V' fun v _ => v = .tuple #[.int .i64 u, .bool true])
    cases h2 : hostZ M.gs x.h.group with
    | none =>
      have hm := moved_two (out := true) (us := M.us) (gs := M.gs) (n := x.n) h2
      have c2 := fun V' (hV : VLe V V') => (by have h := ToHost_c V' M.B M.m M.e M.gs (hM.le hV).2.2.1 hM.2.2.2 x.h.group; rw [h2] at h; exact h : Fn Try.prog 41 [.slice M.B M.m M.e, .int .i64 x.h.group] V' fun v _ => v = .tuple #[.int .i64 0, .bool false])
      rw [hm]
      (refine fn_enter Try.func140 rfl Try.ntmps140 rfl ?_; intro w0)
      repeat' (first | (refine k_gw ?_; (first | (refine k_box ?_; (first | (refine gw_box rfl rfl rfl rfl ?_; intro γ))) | (refine k_alloc ?_; (first | (refine gw_alloc rfl zer_37 rfl ?_; intro γ))) | (refine k_assign ?_; (first | refine gw_q rfl (q_assign rfl) ?_)) | (refine k_fieldAddr ?_; (first | refine gw_q rfl (q_fieldAddr fld_64_0 rfl) ?_ | refine gw_q rfl (q_fieldAddr fld_37_2 rfl) ?_ | refine gw_q rfl (q_fieldAddr fld_64_1 rfl) ?_ | refine gw_q rfl (q_fieldAddr fld_37_3 rfl) ?_)) | (refine k_load ?_; (first | refine gw_q rfl (q_load_o one_62 rfl (by first | ((repeat (first | exact own_here | apply own_next | apply own_skip)); done) | fail) (by exact rfl)) ?_ | refine gw_q rfl (q_load_o one_3 rfl (by first | ((repeat (first | exact own_here | apply own_next | apply own_skip)); done) | fail) (by exact rfl)) ?_)) | (refine k_call ?_; (first | refine gw_q' rfl (q_call ⟨Try.call41⟩ rfl (c1 _ (by first | ((repeat (first | exact VLe.refl _ | assumption | refine VLe.trans ?_ (by assumption))); done) | fail))) ?_ | refine gw_q' rfl (q_call ⟨Try.call41⟩ rfl (c2 _ (by first | ((repeat (first | exact VLe.refl _ | assumption | refine VLe.trans ?_ (by assumption))); done) | fail))) ?_)) | (refine k_move ?_; (first | refine gw_q rfl (q_move rfl) ?_)) | (refine k_extract ?_; (first | refine gw_q rfl (q_extract rfl rfl) ?_)) | (refine k_unOp ?_; (first | refine gw_q rfl (q_not_t rfl) ?_ | refine gw_q rfl (q_not_f rfl) ?_ | refine gw_q rfl (q_not_p rfl) ?_ | refine gw_q rfl (q_not_b rfl) ?_)) | (refine k_pick ?_; (first | refine gw_q rfl (q_pick_t rfl rfl) ?_ | refine gw_q rfl (q_pick_f rfl rfl) ?_)) | (refine k_build ?_; (first | refine gw_q rfl (q_build bld_37 rfl rfl) ?_)) | (refine k_makeInterface ?_; (first | refine gw_q rfl (q_mkiface und_85 rfl rfl) ?_)) | (refine k_store ?_; (first | refine gw_store rfl siz_37 rfl rfl rfl rfl (by first | exact ones_of rfl | exact ones_pr _ | exact ones_pa _ | exact ones_any (by assumption) | (simp [isOne, spl, *]; done) | fail) (by first | ((repeat (first | exact PutAt.here _ _ _ _ _ _ (Nat.le_of_ble_eq_true rfl) | apply PutAt.next | apply putAt_skip)); done) | fail) rfl ?_)))) | (refine k_gl ?_; (first | refine gl_nil rfl ?_ | refine gl_go rfl rfl ?_ | refine gl_yes rfl rfl rfl rfl rfl ?_)) | (refine k_gc ?_; (first | refine gc_seq ?_ | refine gc_region ?_ | refine gc_cond_t rfl ?_ | refine gc_ret ?_)) | (refine k_at ?_; (first | refine at_seq ?_ | refine at_then_ret ?_ | refine at_then_exit ?_ | refine at_thn_ret ?_ | refine at_thn_exit ?_ | refine at_block_normal ?_ | refine at_block_ret ?_ | refine at_block_hit ?_ | refine at_block_miss rfl ?_)))
      all_goals (refine at_ret2 Try.results140 (rv_cellA agg_37 rfl (by first | ((repeat (first | exact own_here | apply own_next | apply own_skip)); done) | fail) (by exact rfl)) (rv_tmp rfl) ?_)
      all_goals exact (by rw [← errV_pos (e := 11) (by decide)]; exact MovR.none rfl)
    | some g =>
      have hm := moved_some (out := true) (us := M.us) (gs := M.gs) (n := x.n) h1 h2
      have c2 := fun V' (hV : VLe V V') => (by have h := ToHost_c V' M.B M.m M.e M.gs (hM.le hV).2.2.1 hM.2.2.2 x.h.group; rw [h2] at h; exact h : Fn Try.prog 41 [.slice M.B M.m M.e, .int .i64 x.h.group] V' fun v _ => v = .tuple #[.int .i64 g, .bool true])
      rw [hm]
      (refine fn_enter Try.func140 rfl Try.ntmps140 rfl ?_; intro w0)
      repeat' (first | (refine k_gw ?_; (first | (refine k_box ?_; (first | (refine gw_box rfl rfl rfl rfl ?_; intro γ))) | (refine k_alloc ?_; (first | (refine gw_alloc rfl zer_37 rfl ?_; intro γ))) | (refine k_assign ?_; (first | refine gw_q rfl (q_assign rfl) ?_)) | (refine k_fieldAddr ?_; (first | refine gw_q rfl (q_fieldAddr fld_64_0 rfl) ?_ | refine gw_q rfl (q_fieldAddr fld_37_2 rfl) ?_ | refine gw_q rfl (q_fieldAddr fld_64_1 rfl) ?_ | refine gw_q rfl (q_fieldAddr fld_37_3 rfl) ?_)) | (refine k_load ?_; (first | refine gw_q rfl (q_load_o one_62 rfl (by first | ((repeat (first | exact own_here | apply own_next | apply own_skip)); done) | fail) (by exact rfl)) ?_ | refine gw_q rfl (q_load_o one_3 rfl (by first | ((repeat (first | exact own_here | apply own_next | apply own_skip)); done) | fail) (by exact rfl)) ?_ | refine gw_q rfl (q_loadA_o agg_37 rfl (by first | ((repeat (first | exact own_here | apply own_next | apply own_skip)); done) | fail) (by exact rfl)) ?_)) | (refine k_call ?_; (first | refine gw_q' rfl (q_call ⟨Try.call41⟩ rfl (c1 _ (by first | ((repeat (first | exact VLe.refl _ | assumption | refine VLe.trans ?_ (by assumption))); done) | fail))) ?_ | refine gw_q' rfl (q_call ⟨Try.call41⟩ rfl (c2 _ (by first | ((repeat (first | exact VLe.refl _ | assumption | refine VLe.trans ?_ (by assumption))); done) | fail))) ?_ | (refine gw_call rfl ⟨Try.call61⟩ rfl rfl (Own_v _ x (hx.le (by first | ((repeat (first | exact VLe.refl _ | assumption | refine VLe.trans ?_ (by assumption))); done) | fail)) hsm) ?_; rintro v V2 hV2 ⟨y, rfl, hyn, hyN⟩))) | (refine k_move ?_; (first | refine gw_q rfl (q_move rfl) ?_)) | (refine k_extract ?_; (first | refine gw_q rfl (q_extract rfl rfl) ?_)) | (refine k_unOp ?_; (first | refine gw_q rfl (q_not_t rfl) ?_ | refine gw_q rfl (q_not_f rfl) ?_ | refine gw_q rfl (q_not_p rfl) ?_ | refine gw_q rfl (q_not_b rfl) ?_)) | (refine k_pick ?_; (first | refine gw_q rfl (q_pick_t rfl rfl) ?_ | refine gw_q rfl (q_pick_f rfl rfl) ?_)) | (refine k_store ?_; (first | refine gw_store rfl siz_37 rfl rfl rfl rfl (by first | exact ones_of rfl | exact ones_pr _ | exact ones_pa _ | exact ones_any (by assumption) | (simp [isOne, spl, *]; done) | fail) (by first | ((repeat (first | exact PutAt.here _ _ _ _ _ _ (Nat.le_of_ble_eq_true rfl) | apply PutAt.next | apply putAt_skip)); done) | fail) rfl ?_ | refine gw_store rfl siz_3 rfl rfl rfl rfl (by first | exact ones_of rfl | exact ones_pr _ | exact ones_pa _ | exact ones_any (by assumption) | (simp [isOne, spl, *]; done) | fail) (by first | ((repeat (first | exact PutAt.here _ _ _ _ _ _ (Nat.le_of_ble_eq_true rfl) | apply PutAt.next | apply putAt_skip)); done) | fail) rfl ?_)))) | (refine k_gl ?_; (first | refine gl_nil rfl ?_ | refine gl_go rfl rfl ?_ | refine gl_yes rfl rfl rfl rfl rfl ?_)) | (refine k_gc ?_; (first | refine gc_seq ?_ | refine gc_region ?_ | refine gc_cond_f rfl ?_ | refine gc_ret ?_ | refine gc_skip ?_)) | (refine k_at ?_; (first | refine at_seq ?_ | refine at_then_ret ?_ | refine at_then_exit ?_ | refine at_thn_ret ?_ | refine at_thn_exit ?_ | refine at_block_normal ?_ | refine at_block_ret ?_ | refine at_block_hit ?_ | refine at_block_miss rfl ?_)))
      all_goals (refine at_ret2 Try.results140 (rv_cellA agg_37 rfl (by first | ((repeat (first | exact own_here | apply own_next | apply own_skip)); done) | fail) (by exact rfl)) (rv_tmp rfl) ?_)
      all_goals exact ⟨{ y with h := { y.h with user := u, group := g } }, by rw [show movF (some _) = 0 from rfl, errV_zero]; rfl, moved_node (hyN.le (by first | ((repeat (first | exact VLe.refl _ | assumption | refine VLe.trans ?_ (by assumption))); done) | fail)), by show PN.mk { y.h with user := u, group := g } y.ks = _; rw [show y.h = x.h from congrArg PN.h hyn, show y.ks = x.ks from congrArg PN.ks hyn]; rfl⟩
set_option maxRecDepth 100000 in
set_option maxHeartbeats 4000000 in
theorem Moved0_c (V : View) (M : LM) (hM : MapsV V M) (x : LN) (hx : NodeV V x) : Fn Try.prog 69 [lmV M, lnV x, .bool false] V (MovR (movedP false M.us M.gs x.n) (.bool (movedP false M.us M.gs x.n).isSome)) := by
  cases h1 : fromZ M.us x.h.user with
  | none =>
    have hm := moved_one (out := false) (us := M.us) (gs := M.gs) (n := x.n) h1
    have c1 := fun V' (hV : VLe V V') => (by have h := RFromHost_c V' M.A M.n M.c M.us (hM.le hV).1 x.h.user; rw [h1] at h; exact h : Fn Try.prog 102 [.slice M.A M.n M.c, .int .i64 x.h.user] V' fun v _ => v = .tuple #[.int .i64 0, .bool false])
    have c2 := fun V' (hV : VLe V V') => RFromHost_c V' M.B M.m M.e M.gs (hM.le hV).2.2.1 x.h.group
    rw [hm]
    (refine fn_enter Try.func69 rfl Try.ntmps69 rfl ?_; intro w0)
    repeat' (first | (refine k_gw ?_; (first | (refine k_box ?_; (first | (refine gw_box rfl rfl rfl rfl ?_; intro γ))) | (refine k_alloc ?_; (first | (refine gw_alloc rfl zer_37 rfl ?_; intro γ))) | (refine k_assign ?_; (first | refine gw_q rfl (q_assign rfl) ?_)) | (refine k_fieldAddr ?_; (first | refine gw_q rfl (q_fieldAddr fld_64_0 rfl) ?_ | refine gw_q rfl (q_fieldAddr fld_37_2 rfl) ?_ | refine gw_q rfl (q_fieldAddr fld_64_1 rfl) ?_ | refine gw_q rfl (q_fieldAddr fld_37_3 rfl) ?_)) | (refine k_load ?_; (first | refine gw_q rfl (q_load_o one_62 rfl (by first | ((repeat (first | exact own_here | apply own_next | apply own_skip)); done) | fail) (by exact rfl)) ?_ | refine gw_q rfl (q_load_o one_3 rfl (by first | ((repeat (first | exact own_here | apply own_next | apply own_skip)); done) | fail) (by exact rfl)) ?_)) | (refine k_call ?_; (first | refine gw_q' rfl (q_call ⟨Try.call102⟩ rfl (c1 _ (by first | ((repeat (first | exact VLe.refl _ | assumption | refine VLe.trans ?_ (by assumption))); done) | fail))) ?_ | refine gw_q' rfl (q_call ⟨Try.call102⟩ rfl (c2 _ (by first | ((repeat (first | exact VLe.refl _ | assumption | refine VLe.trans ?_ (by assumption))); done) | fail))) ?_)) | (refine k_move ?_; (first | refine gw_q rfl (q_move rfl) ?_)) | (refine k_extract ?_; (first | refine gw_q rfl (q_extract rfl rfl) ?_)) | (refine k_unOp ?_; (first | refine gw_q rfl (q_not_t rfl) ?_ | refine gw_q rfl (q_not_f rfl) ?_ | refine gw_q rfl (q_not_p rfl) ?_ | refine gw_q rfl (q_not_b rfl) ?_)) | (refine k_pick ?_; (first | refine gw_q rfl (q_pick_t rfl rfl) ?_ | refine gw_q rfl (q_pick_f rfl rfl) ?_)) | (refine k_build ?_; (first | refine gw_q rfl (q_build bld_37 rfl rfl) ?_)) | (refine k_store ?_; (first | refine gw_store rfl siz_37 rfl rfl rfl rfl (by first | exact ones_of rfl | exact ones_pr _ | exact ones_pa _ | exact ones_any (by assumption) | (simp [isOne, spl, *]; done) | fail) (by first | ((repeat (first | exact PutAt.here _ _ _ _ _ _ (Nat.le_of_ble_eq_true rfl) | apply PutAt.next | apply putAt_skip)); done) | fail) rfl ?_)))) | (refine k_gl ?_; (first | refine gl_nil rfl ?_ | refine gl_go rfl rfl ?_ | refine gl_no rfl rfl rfl rfl rfl rfl rfl ?_)) | (refine k_gc ?_; (first | refine gc_seq ?_ | refine gc_region ?_ | refine gc_cond_t rfl ?_ | refine gc_cond_f rfl ?_ | refine gc_ret ?_ | refine gc_skip ?_)) | (refine k_at ?_; (first | refine at_seq ?_ | refine at_then_ret ?_ | refine at_then_exit ?_ | refine at_thn_ret ?_ | refine at_thn_exit ?_ | refine at_block_normal ?_ | refine at_block_ret ?_ | refine at_block_hit ?_ | refine at_block_miss rfl ?_)))
    all_goals (refine at_ret2 Try.results69 (rv_cellA agg_37 rfl (by first | ((repeat (first | exact own_here | apply own_next | apply own_skip)); done) | fail) (by exact rfl)) (rv_tmp rfl) ?_)
    all_goals exact MovR.none rfl
  | some u =>
    have c1 := fun V' (hV : VLe V V') => (by have h := RFromHost_c V' M.A M.n M.c M.us (hM.le hV).1 x.h.user; rw [h1] at h; exact h : Fn Try.prog 102 [.slice M.A M.n M.c, .int .i64 x.h.user] V' fun v _ => v = .tuple #[.int .i64 u, .bool true])
    cases h2 : fromZ M.gs x.h.group with
    | none =>
      have hm := moved_two (out := false) (us := M.us) (gs := M.gs) (n := x.n) h2
      have c2 := fun V' (hV : VLe V V') => (by have h := RFromHost_c V' M.B M.m M.e M.gs (hM.le hV).2.2.1 x.h.group; rw [h2] at h; exact h : Fn Try.prog 102 [.slice M.B M.m M.e, .int .i64 x.h.group] V' fun v _ => v = .tuple #[.int .i64 0, .bool false])
      rw [hm]
      (refine fn_enter Try.func69 rfl Try.ntmps69 rfl ?_; intro w0)
      repeat' (first | (refine k_gw ?_; (first | (refine k_box ?_; (first | (refine gw_box rfl rfl rfl rfl ?_; intro γ))) | (refine k_alloc ?_; (first | (refine gw_alloc rfl zer_37 rfl ?_; intro γ))) | (refine k_assign ?_; (first | refine gw_q rfl (q_assign rfl) ?_)) | (refine k_fieldAddr ?_; (first | refine gw_q rfl (q_fieldAddr fld_64_0 rfl) ?_ | refine gw_q rfl (q_fieldAddr fld_37_2 rfl) ?_ | refine gw_q rfl (q_fieldAddr fld_64_1 rfl) ?_ | refine gw_q rfl (q_fieldAddr fld_37_3 rfl) ?_)) | (refine k_load ?_; (first | refine gw_q rfl (q_load_o one_62 rfl (by first | ((repeat (first | exact own_here | apply own_next | apply own_skip)); done) | fail) (by exact rfl)) ?_ | refine gw_q rfl (q_load_o one_3 rfl (by first | ((repeat (first | exact own_here | apply own_next | apply own_skip)); done) | fail) (by exact rfl)) ?_)) | (refine k_call ?_; (first | refine gw_q' rfl (q_call ⟨Try.call102⟩ rfl (c1 _ (by first | ((repeat (first | exact VLe.refl _ | assumption | refine VLe.trans ?_ (by assumption))); done) | fail))) ?_ | refine gw_q' rfl (q_call ⟨Try.call102⟩ rfl (c2 _ (by first | ((repeat (first | exact VLe.refl _ | assumption | refine VLe.trans ?_ (by assumption))); done) | fail))) ?_)) | (refine k_move ?_; (first | refine gw_q rfl (q_move rfl) ?_)) | (refine k_extract ?_; (first | refine gw_q rfl (q_extract rfl rfl) ?_)) | (refine k_unOp ?_; (first | refine gw_q rfl (q_not_t rfl) ?_ | refine gw_q rfl (q_not_f rfl) ?_ | refine gw_q rfl (q_not_p rfl) ?_ | refine gw_q rfl (q_not_b rfl) ?_)) | (refine k_pick ?_; (first | refine gw_q rfl (q_pick_t rfl rfl) ?_ | refine gw_q rfl (q_pick_f rfl rfl) ?_)) | (refine k_build ?_; (first | refine gw_q rfl (q_build bld_37 rfl rfl) ?_)) | (refine k_store ?_; (first | refine gw_store rfl siz_37 rfl rfl rfl rfl (by first | exact ones_of rfl | exact ones_pr _ | exact ones_pa _ | exact ones_any (by assumption) | (simp [isOne, spl, *]; done) | fail) (by first | ((repeat (first | exact PutAt.here _ _ _ _ _ _ (Nat.le_of_ble_eq_true rfl) | apply PutAt.next | apply putAt_skip)); done) | fail) rfl ?_)))) | (refine k_gl ?_; (first | refine gl_nil rfl ?_ | refine gl_go rfl rfl ?_ | refine gl_yes rfl rfl rfl rfl rfl ?_)) | (refine k_gc ?_; (first | refine gc_seq ?_ | refine gc_region ?_ | refine gc_cond_t rfl ?_ | refine gc_cond_f rfl ?_ | refine gc_ret ?_ | refine gc_skip ?_)) | (refine k_at ?_; (first | refine at_seq ?_ | refine at_then_ret ?_ | refine at_then_exit ?_ | refine at_thn_ret ?_ | refine at_thn_exit ?_ | refine at_block_normal ?_ | refine at_block_ret ?_ | refine at_block_hit ?_ | refine at_block_miss rfl ?_)))
      all_goals (refine at_ret2 Try.results69 (rv_cellA agg_37 rfl (by first | ((repeat (first | exact own_here | apply own_next | apply own_skip)); done) | fail) (by exact rfl)) (rv_tmp rfl) ?_)
      all_goals exact MovR.none rfl
    | some g =>
      have hm := moved_some (out := false) (us := M.us) (gs := M.gs) (n := x.n) h1 h2
      have c2 := fun V' (hV : VLe V V') => (by have h := RFromHost_c V' M.B M.m M.e M.gs (hM.le hV).2.2.1 x.h.group; rw [h2] at h; exact h : Fn Try.prog 102 [.slice M.B M.m M.e, .int .i64 x.h.group] V' fun v _ => v = .tuple #[.int .i64 g, .bool true])
      rw [hm]
      (refine fn_enter Try.func69 rfl Try.ntmps69 rfl ?_; intro w0)
      repeat' (first | (refine k_gw ?_; (first | (refine k_box ?_; (first | (refine gw_box rfl rfl rfl rfl ?_; intro γ))) | (refine k_alloc ?_; (first | (refine gw_alloc rfl zer_37 rfl ?_; intro γ))) | (refine k_assign ?_; (first | refine gw_q rfl (q_assign rfl) ?_)) | (refine k_fieldAddr ?_; (first | refine gw_q rfl (q_fieldAddr fld_64_0 rfl) ?_ | refine gw_q rfl (q_fieldAddr fld_37_2 rfl) ?_ | refine gw_q rfl (q_fieldAddr fld_64_1 rfl) ?_ | refine gw_q rfl (q_fieldAddr fld_37_3 rfl) ?_)) | (refine k_load ?_; (first | refine gw_q rfl (q_load_o one_62 rfl (by first | ((repeat (first | exact own_here | apply own_next | apply own_skip)); done) | fail) (by exact rfl)) ?_ | refine gw_q rfl (q_load_o one_3 rfl (by first | ((repeat (first | exact own_here | apply own_next | apply own_skip)); done) | fail) (by exact rfl)) ?_ | refine gw_q rfl (q_loadA_o agg_37 rfl (by first | ((repeat (first | exact own_here | apply own_next | apply own_skip)); done) | fail) (by exact rfl)) ?_)) | (refine k_call ?_; (first | refine gw_q' rfl (q_call ⟨Try.call102⟩ rfl (c1 _ (by first | ((repeat (first | exact VLe.refl _ | assumption | refine VLe.trans ?_ (by assumption))); done) | fail))) ?_ | refine gw_q' rfl (q_call ⟨Try.call102⟩ rfl (c2 _ (by first | ((repeat (first | exact VLe.refl _ | assumption | refine VLe.trans ?_ (by assumption))); done) | fail))) ?_)) | (refine k_move ?_; (first | refine gw_q rfl (q_move rfl) ?_)) | (refine k_extract ?_; (first | refine gw_q rfl (q_extract rfl rfl) ?_)) | (refine k_unOp ?_; (first | refine gw_q rfl (q_not_t rfl) ?_ | refine gw_q rfl (q_not_f rfl) ?_ | refine gw_q rfl (q_not_p rfl) ?_ | refine gw_q rfl (q_not_b rfl) ?_)) | (refine k_pick ?_; (first | refine gw_q rfl (q_pick_t rfl rfl) ?_ | refine gw_q rfl (q_pick_f rfl rfl) ?_)) | (refine k_store ?_; (first | refine gw_store rfl siz_37 rfl rfl rfl rfl (by first | exact ones_of rfl | exact ones_pr _ | exact ones_pa _ | exact ones_any (by assumption) | (simp [isOne, spl, *]; done) | fail) (by first | ((repeat (first | exact PutAt.here _ _ _ _ _ _ (Nat.le_of_ble_eq_true rfl) | apply PutAt.next | apply putAt_skip)); done) | fail) rfl ?_ | refine gw_store rfl siz_3 rfl rfl rfl rfl (by first | exact ones_of rfl | exact ones_pr _ | exact ones_pa _ | exact ones_any (by assumption) | (simp [isOne, spl, *]; done) | fail) (by first | ((repeat (first | exact PutAt.here _ _ _ _ _ _ (Nat.le_of_ble_eq_true rfl) | apply PutAt.next | apply putAt_skip)); done) | fail) rfl ?_)))) | (refine k_gl ?_; (first | refine gl_nil rfl ?_ | refine gl_go rfl rfl ?_ | refine gl_yes rfl rfl rfl rfl rfl ?_)) | (refine k_gc ?_; (first | refine gc_seq ?_ | refine gc_region ?_ | refine gc_cond_f rfl ?_ | refine gc_ret ?_ | refine gc_skip ?_)) | (refine k_at ?_; (first | refine at_seq ?_ | refine at_then_ret ?_ | refine at_then_exit ?_ | refine at_thn_ret ?_ | refine at_thn_exit ?_ | refine at_block_normal ?_ | refine at_block_ret ?_ | refine at_block_hit ?_ | refine at_block_miss rfl ?_)))
      all_goals (refine at_ret2 Try.results69 (rv_cellA agg_37 rfl (by first | ((repeat (first | exact own_here | apply own_next | apply own_skip)); done) | fail) (by exact rfl)) (rv_tmp rfl) ?_)
      all_goals exact ⟨{ x with h := { x.h with user := u, group := g } }, rfl, moved_node (hx.le (by first | ((repeat (first | exact VLe.refl _ | assumption | refine VLe.trans ?_ (by assumption))); done) | fail)), rfl⟩
set_option maxRecDepth 100000 in
set_option maxHeartbeats 4000000 in
theorem Moved1_c (V : View) (M : LM) (hM : MapsV V M) (x : LN) (hx : NodeV V x) : Fn Try.prog 69 [lmV M, lnV x, .bool true] V (MovR (movedP true M.us M.gs x.n) (.bool (movedP true M.us M.gs x.n).isSome)) := by
  cases h1 : hostZ M.us x.h.user with
  | none =>
    have hm := moved_one (out := true) (us := M.us) (gs := M.gs) (n := x.n) h1
    have c1 := fun V' (hV : VLe V V') => (by have h := RToHost_c V' M.A M.n M.c M.us (hM.le hV).1 x.h.user; rw [h1] at h; exact h : Fn Try.prog 103 [.slice M.A M.n M.c, .int .i64 x.h.user] V' fun v _ => v = .tuple #[.int .i64 0, .bool false])
    have c2 := fun V' (hV : VLe V V') => RToHost_c V' M.B M.m M.e M.gs (hM.le hV).2.2.1 x.h.group
    rw [hm]
    (refine fn_enter Try.func69 rfl Try.ntmps69 rfl ?_; intro w0)
    repeat' (first | (refine k_gw ?_; (first | (refine k_box ?_; (first | (refine gw_box rfl rfl rfl rfl ?_; intro γ))) | (refine k_alloc ?_; (first | (refine gw_alloc rfl zer_37 rfl ?_; intro γ))) | (refine k_assign ?_; (first | refine gw_q rfl (q_assign rfl) ?_)) | (refine k_fieldAddr ?_; (first | refine gw_q rfl (q_fieldAddr fld_64_0 rfl) ?_ | refine gw_q rfl (q_fieldAddr fld_37_2 rfl) ?_ | refine gw_q rfl (q_fieldAddr fld_64_1 rfl) ?_ | refine gw_q rfl (q_fieldAddr fld_37_3 rfl) ?_)) | (refine k_load ?_; (first | refine gw_q rfl (q_load_o one_62 rfl (by first | ((repeat (first | exact own_here | apply own_next | apply own_skip)); done) | fail) (by exact rfl)) ?_ | refine gw_q rfl (q_load_o one_3 rfl (by first | ((repeat (first | exact own_here | apply own_next | apply own_skip)); done) | fail) (by exact rfl)) ?_)) | (refine k_call ?_; (first | refine gw_q' rfl (q_call ⟨Try.call103⟩ rfl (c1 _ (by first | ((repeat (first | exact VLe.refl _ | assumption | refine VLe.trans ?_ (by assumption))); done) | fail))) ?_ | refine gw_q' rfl (q_call ⟨Try.call103⟩ rfl (c2 _ (by first | ((repeat (first | exact VLe.refl _ | assumption | refine VLe.trans ?_ (by assumption))); done) | fail))) ?_ | refine gw_q' rfl (q_call ⟨Try.call102⟩ rfl (RFromHost_c _ M.A M.n M.c M.us (hM.le (by first | ((repeat (first | exact VLe.refl _ | assumption | refine VLe.trans ?_ (by assumption))); done) | fail)).1 x.h.user)) ?_ | refine gw_q' rfl (q_call ⟨Try.call102⟩ rfl (RFromHost_c _ M.B M.m M.e M.gs (hM.le (by first | ((repeat (first | exact VLe.refl _ | assumption | refine VLe.trans ?_ (by assumption))); done) | fail)).2.2.1 x.h.group)) ?_)) | (refine k_move ?_; (first | refine gw_q rfl (q_move rfl) ?_)) | (refine k_extract ?_; (first | refine gw_q rfl (q_extract rfl rfl) ?_)) | (refine k_unOp ?_; (first | refine gw_q rfl (q_not_t rfl) ?_ | refine gw_q rfl (q_not_f rfl) ?_ | refine gw_q rfl (q_not_p rfl) ?_ | refine gw_q rfl (q_not_b rfl) ?_)) | (refine k_pick ?_; (first | refine gw_q rfl (q_pick_t rfl rfl) ?_ | refine gw_q rfl (q_pick_f rfl rfl) ?_)) | (refine k_build ?_; (first | refine gw_q rfl (q_build bld_37 rfl rfl) ?_)) | (refine k_store ?_; (first | refine gw_store rfl siz_37 rfl rfl rfl rfl (by first | exact ones_of rfl | exact ones_pr _ | exact ones_pa _ | exact ones_any (by assumption) | (simp [isOne, spl, *]; done) | fail) (by first | ((repeat (first | exact PutAt.here _ _ _ _ _ _ (Nat.le_of_ble_eq_true rfl) | apply PutAt.next | apply putAt_skip)); done) | fail) rfl ?_)))) | (refine k_gl ?_; (first | refine gl_nil rfl ?_ | refine gl_go rfl rfl ?_ | refine gl_no rfl rfl rfl rfl rfl rfl rfl ?_)) | (refine k_gc ?_; (first | refine gc_seq ?_ | refine gc_region ?_ | refine gc_cond_t rfl ?_ | refine gc_ret ?_)) | (refine k_at ?_; (first | refine at_seq ?_ | refine at_then_ret ?_ | refine at_then_exit ?_ | refine at_thn_ret ?_ | refine at_thn_exit ?_ | refine at_block_normal ?_ | refine at_block_ret ?_ | refine at_block_hit ?_ | refine at_block_miss rfl ?_)))
    all_goals (refine at_ret2 Try.results69 (rv_cellA agg_37 rfl (by first | ((repeat (first | exact own_here | apply own_next | apply own_skip)); done) | fail) (by exact rfl)) (rv_tmp rfl) ?_)
    all_goals exact MovR.none rfl
  | some u =>
    have c1 := fun V' (hV : VLe V V') => (by have h := RToHost_c V' M.A M.n M.c M.us (hM.le hV).1 x.h.user; rw [h1] at h; exact h : Fn Try.prog 103 [.slice M.A M.n M.c, .int .i64 x.h.user] V' fun v _ => v = .tuple #[.int .i64 u, .bool true])
    cases h2 : hostZ M.gs x.h.group with
    | none =>
      have hm := moved_two (out := true) (us := M.us) (gs := M.gs) (n := x.n) h2
      have c2 := fun V' (hV : VLe V V') => (by have h := RToHost_c V' M.B M.m M.e M.gs (hM.le hV).2.2.1 x.h.group; rw [h2] at h; exact h : Fn Try.prog 103 [.slice M.B M.m M.e, .int .i64 x.h.group] V' fun v _ => v = .tuple #[.int .i64 0, .bool false])
      rw [hm]
      (refine fn_enter Try.func69 rfl Try.ntmps69 rfl ?_; intro w0)
      repeat' (first | (refine k_gw ?_; (first | (refine k_box ?_; (first | (refine gw_box rfl rfl rfl rfl ?_; intro γ))) | (refine k_alloc ?_; (first | (refine gw_alloc rfl zer_37 rfl ?_; intro γ))) | (refine k_assign ?_; (first | refine gw_q rfl (q_assign rfl) ?_)) | (refine k_fieldAddr ?_; (first | refine gw_q rfl (q_fieldAddr fld_64_0 rfl) ?_ | refine gw_q rfl (q_fieldAddr fld_37_2 rfl) ?_ | refine gw_q rfl (q_fieldAddr fld_64_1 rfl) ?_ | refine gw_q rfl (q_fieldAddr fld_37_3 rfl) ?_)) | (refine k_load ?_; (first | refine gw_q rfl (q_load_o one_62 rfl (by first | ((repeat (first | exact own_here | apply own_next | apply own_skip)); done) | fail) (by exact rfl)) ?_ | refine gw_q rfl (q_load_o one_3 rfl (by first | ((repeat (first | exact own_here | apply own_next | apply own_skip)); done) | fail) (by exact rfl)) ?_)) | (refine k_call ?_; (first | refine gw_q' rfl (q_call ⟨Try.call103⟩ rfl (c1 _ (by first | ((repeat (first | exact VLe.refl _ | assumption | refine VLe.trans ?_ (by assumption))); done) | fail))) ?_ | refine gw_q' rfl (q_call ⟨Try.call103⟩ rfl (c2 _ (by first | ((repeat (first | exact VLe.refl _ | assumption | refine VLe.trans ?_ (by assumption))); done) | fail))) ?_ | refine gw_q' rfl (q_call ⟨Try.call102⟩ rfl (RFromHost_c _ M.A M.n M.c M.us (hM.le (by first | ((repeat (first | exact VLe.refl _ | assumption | refine VLe.trans ?_ (by assumption))); done) | fail)).1 x.h.user)) ?_ | refine gw_q' rfl (q_call ⟨Try.call102⟩ rfl (RFromHost_c _ M.B M.m M.e M.gs (hM.le (by first | ((repeat (first | exact VLe.refl _ | assumption | refine VLe.trans ?_ (by assumption))); done) | fail)).2.2.1 x.h.group)) ?_)) | (refine k_move ?_; (first | refine gw_q rfl (q_move rfl) ?_)) | (refine k_extract ?_; (first | refine gw_q rfl (q_extract rfl rfl) ?_)) | (refine k_unOp ?_; (first | refine gw_q rfl (q_not_t rfl) ?_ | refine gw_q rfl (q_not_f rfl) ?_ | refine gw_q rfl (q_not_p rfl) ?_ | refine gw_q rfl (q_not_b rfl) ?_)) | (refine k_pick ?_; (first | refine gw_q rfl (q_pick_t rfl rfl) ?_ | refine gw_q rfl (q_pick_f rfl rfl) ?_)) | (refine k_build ?_; (first | refine gw_q rfl (q_build bld_37 rfl rfl) ?_)) | (refine k_store ?_; (first | refine gw_store rfl siz_37 rfl rfl rfl rfl (by first | exact ones_of rfl | exact ones_pr _ | exact ones_pa _ | exact ones_any (by assumption) | (simp [isOne, spl, *]; done) | fail) (by first | ((repeat (first | exact PutAt.here _ _ _ _ _ _ (Nat.le_of_ble_eq_true rfl) | apply PutAt.next | apply putAt_skip)); done) | fail) rfl ?_)))) | (refine k_gl ?_; (first | refine gl_nil rfl ?_ | refine gl_go rfl rfl ?_ | refine gl_yes rfl rfl rfl rfl rfl ?_)) | (refine k_gc ?_; (first | refine gc_seq ?_ | refine gc_region ?_ | refine gc_cond_t rfl ?_ | refine gc_ret ?_)) | (refine k_at ?_; (first | refine at_seq ?_ | refine at_then_ret ?_ | refine at_then_exit ?_ | refine at_thn_ret ?_ | refine at_thn_exit ?_ | refine at_block_normal ?_ | refine at_block_ret ?_ | refine at_block_hit ?_ | refine at_block_miss rfl ?_)))
      all_goals (refine at_ret2 Try.results69 (rv_cellA agg_37 rfl (by first | ((repeat (first | exact own_here | apply own_next | apply own_skip)); done) | fail) (by exact rfl)) (rv_tmp rfl) ?_)
      all_goals exact MovR.none rfl
    | some g =>
      have hm := moved_some (out := true) (us := M.us) (gs := M.gs) (n := x.n) h1 h2
      have c2 := fun V' (hV : VLe V V') => (by have h := RToHost_c V' M.B M.m M.e M.gs (hM.le hV).2.2.1 x.h.group; rw [h2] at h; exact h : Fn Try.prog 103 [.slice M.B M.m M.e, .int .i64 x.h.group] V' fun v _ => v = .tuple #[.int .i64 g, .bool true])
      rw [hm]
      (refine fn_enter Try.func69 rfl Try.ntmps69 rfl ?_; intro w0)
      repeat' (first | (refine k_gw ?_; (first | (refine k_box ?_; (first | (refine gw_box rfl rfl rfl rfl ?_; intro γ))) | (refine k_alloc ?_; (first | (refine gw_alloc rfl zer_37 rfl ?_; intro γ))) | (refine k_assign ?_; (first | refine gw_q rfl (q_assign rfl) ?_)) | (refine k_fieldAddr ?_; (first | refine gw_q rfl (q_fieldAddr fld_64_0 rfl) ?_ | refine gw_q rfl (q_fieldAddr fld_37_2 rfl) ?_ | refine gw_q rfl (q_fieldAddr fld_64_1 rfl) ?_ | refine gw_q rfl (q_fieldAddr fld_37_3 rfl) ?_)) | (refine k_load ?_; (first | refine gw_q rfl (q_load_o one_62 rfl (by first | ((repeat (first | exact own_here | apply own_next | apply own_skip)); done) | fail) (by exact rfl)) ?_ | refine gw_q rfl (q_load_o one_3 rfl (by first | ((repeat (first | exact own_here | apply own_next | apply own_skip)); done) | fail) (by exact rfl)) ?_ | refine gw_q rfl (q_loadA_o agg_37 rfl (by first | ((repeat (first | exact own_here | apply own_next | apply own_skip)); done) | fail) (by exact rfl)) ?_)) | (refine k_call ?_; (first | refine gw_q' rfl (q_call ⟨Try.call103⟩ rfl (c1 _ (by first | ((repeat (first | exact VLe.refl _ | assumption | refine VLe.trans ?_ (by assumption))); done) | fail))) ?_ | refine gw_q' rfl (q_call ⟨Try.call103⟩ rfl (c2 _ (by first | ((repeat (first | exact VLe.refl _ | assumption | refine VLe.trans ?_ (by assumption))); done) | fail))) ?_ | refine gw_q' rfl (q_call ⟨Try.call102⟩ rfl (RFromHost_c _ M.A M.n M.c M.us (hM.le (by first | ((repeat (first | exact VLe.refl _ | assumption | refine VLe.trans ?_ (by assumption))); done) | fail)).1 x.h.user)) ?_ | refine gw_q' rfl (q_call ⟨Try.call102⟩ rfl (RFromHost_c _ M.B M.m M.e M.gs (hM.le (by first | ((repeat (first | exact VLe.refl _ | assumption | refine VLe.trans ?_ (by assumption))); done) | fail)).2.2.1 x.h.group)) ?_)) | (refine k_move ?_; (first | refine gw_q rfl (q_move rfl) ?_)) | (refine k_extract ?_; (first | refine gw_q rfl (q_extract rfl rfl) ?_)) | (refine k_unOp ?_; (first | refine gw_q rfl (q_not_t rfl) ?_ | refine gw_q rfl (q_not_f rfl) ?_ | refine gw_q rfl (q_not_p rfl) ?_ | refine gw_q rfl (q_not_b rfl) ?_)) | (refine k_pick ?_; (first | refine gw_q rfl (q_pick_t rfl rfl) ?_ | refine gw_q rfl (q_pick_f rfl rfl) ?_)) | (refine k_store ?_; (first | refine gw_store rfl siz_37 rfl rfl rfl rfl (by first | exact ones_of rfl | exact ones_pr _ | exact ones_pa _ | exact ones_any (by assumption) | (simp [isOne, spl, *]; done) | fail) (by first | ((repeat (first | exact PutAt.here _ _ _ _ _ _ (Nat.le_of_ble_eq_true rfl) | apply PutAt.next | apply putAt_skip)); done) | fail) rfl ?_ | refine gw_store rfl siz_3 rfl rfl rfl rfl (by first | exact ones_of rfl | exact ones_pr _ | exact ones_pa _ | exact ones_any (by assumption) | (simp [isOne, spl, *]; done) | fail) (by first | ((repeat (first | exact PutAt.here _ _ _ _ _ _ (Nat.le_of_ble_eq_true rfl) | apply PutAt.next | apply putAt_skip)); done) | fail) rfl ?_)))) | (refine k_gl ?_; (first | refine gl_nil rfl ?_ | refine gl_go rfl rfl ?_ | refine gl_yes rfl rfl rfl rfl rfl ?_)) | (refine k_gc ?_; (first | refine gc_seq ?_ | refine gc_region ?_ | refine gc_cond_t rfl ?_ | refine gc_cond_f rfl ?_ | refine gc_ret ?_ | refine gc_skip ?_)) | (refine k_at ?_; (first | refine at_seq ?_ | refine at_then_ret ?_ | refine at_then_exit ?_ | refine at_thn_ret ?_ | refine at_thn_exit ?_ | refine at_block_normal ?_ | refine at_block_ret ?_ | refine at_block_hit ?_ | refine at_block_miss rfl ?_)))
      all_goals (refine at_ret2 Try.results69 (rv_cellA agg_37 rfl (by first | ((repeat (first | exact own_here | apply own_next | apply own_skip)); done) | fail) (by exact rfl)) (rv_tmp rfl) ?_)
      all_goals exact ⟨{ x with h := { x.h with user := u, group := g } }, rfl, moved_node (hx.le (by first | ((repeat (first | exact VLe.refl _ | assumption | refine VLe.trans ?_ (by assumption))); done) | fail)), rfl⟩
/-- A node, as rights see it. -/
def seenV (upper : Bool) (us gs : List PR) (h : Hd) : Value := .agg #[.bool (decide (h.kind = 2)), .int .i64 h.mode, .int .i64 (if upper = true then (fromZ us h.user).getD 65534 else if (hostZ us h.user).isSome = true then h.user else 65534), .int .i64 (if upper = true then (fromZ gs h.group).getD 65534 else if (hostZ gs h.group).isSome = true then h.group else 65534), .bool (if upper = true then (fromZ us h.user).isSome && (fromZ gs h.group).isSome else (hostZ us h.user).isSome && (hostZ gs h.group).isSome)]
end Go.Proofs.Ytejkmomfpidnbab

/- The walk of copyup.Up, by the engine. -/
namespace Go.Proofs.Ytejkmomfpidnbab
open Go.RowKit
set_option linter.unusedSimpArgs false
set_option linter.unusedVariables false
def PutY (p : PN) (v : Value) (V' : View) : Prop := ∃ z : LN, v = .tuple #[lnV z, errV 0] ∧ NodeV V' z ∧ z.n = p
theorem PutR.y {cut : Bool} {x n : PN} {l : List ByteArray} (h : pF cut x n l = 0) {v : Value} {V' : View} (k : PutR cut x n l v V') : PutY (pN cut x n l) v V' := by
  obtain ⟨z, h1, h2, h3⟩ := k
  rw [h] at h1; rw [show putP cut x n l = pN cut x n l from if_pos h] at h3
  exact ⟨z, h1, h2, h3⟩
def UpR (r : PN × Int) (ev : Value) (v : Value) (V' : View) : Prop := ∃ y : LN, v = .tuple #[lnV y, ev] ∧ NodeV V' y ∧ y.n = r.1
theorem UpR.zero {V : View} {r : PN × Int} {ev : Value} (h : r.1 = pnZ) : UpR r ev (.tuple #[lnV lnZ, ev]) V := ⟨lnZ, rfl, NodeV.zero, h.symm⟩
abbrev bareL (y : LN) : LN := ⟨{ y.h with opq := false }, y.A, y.na, y.ca, none, 0, 0, []⟩
theorem bare_node {V : View} {y : LN} (h : NodeV V y) : NodeV V (bareL y) := by
  obtain ⟨h1, h2, h3, h4, es, h5, h6⟩ := h.inv
  exact NodeV.of (es := []) h1 h2 h3 (Nat.le_refl _) KidsV.nil rfl
theorem bare_n {y : LN} {n : PN} (h : y.n = n) : (bareL y).n = bareP n := by rw [← h]; rfl
theorem light_bound {h : Hd} {ks : PKs} (k : lightP h ks) : boundP 80 h ks := by
  obtain ⟨h1, _, h3, _⟩ := k
  refine ⟨?_, h3⟩
  unfold lightZ at h1
  simp at h1
  omega
theorem bare_all {p : Hd → PKs → Prop} {n : PN} (h : ∀ hd ks, p hd ks → p { hd with opq := false } []) (hn : AllN p n) : AllN p (bareP n) := .mk (h _ _ hn.here) (by simp)
theorem moved_all {p : Hd → PKs → Prop} {out : Bool} {us gs : List PR} {n m : PN} (h : ∀ (hd : Hd) ks u g, p hd ks → p { hd with user := u, group := g } ks) (hm : movedP out us gs n = some m) (hn : AllN p n) : AllN p m := by
  unfold movedP at hm
  split at hm
  · cases hm
    exact .mk (h _ _ _ _ hn.here) fun k hk => hn.kid hk
  · cases hm
theorem walk_head {l : List PN} {ss : List ByteArray} {f : PF} {t : List PF} (h : walkP l ss = f :: t) : 0 < l.length := by
  have := walkP_len l ss
  rw [h] at this; simp at this; omega
theorem upOne_none {l : List PN} {us gs : List PR} {ss : List ByteArray} {u : PN} (h : walkP l ss = []) : upOne l us gs ss u = (u, 0) := by unfold upOne; rw [h]
theorem upOne_top {l : List PN} {us gs : List PR} {ss : List ByteArray} {u : PN} {f : PF} {t : List PF} (h : walkP l ss = f :: t) (h0 : f.2 = 0) : upOne l us gs ss u = (u, 0) := by unfold upOne; rw [h]; exact if_pos h0
theorem upOne_un {l : List PN} {us gs : List PR} {ss : List ByteArray} {u : PN} {f : PF} {t : List PF} (h : walkP l ss = f :: t) (h0 : ¬ f.2 = 0) (h1 : movedP true us gs (bareP f.1) = none) : upOne l us gs ss u = (pnZ, 11) := by unfold upOne; rw [h]; simp only [if_neg h0, h1]
theorem upOne_put {l : List PN} {us gs : List PR} {ss : List ByteArray} {u x : PN} {f : PF} {t : List PF} (h : walkP l ss = f :: t) (h0 : ¬ f.2 = 0) (h1 : movedP true us gs (bareP f.1) = some x) (h2 : pF false x u ss = 0) : upOne l us gs ss u = (pN false x u ss, 0) := by unfold upOne; rw [h]; simp only [if_neg h0, h1, if_pos h2]
theorem upOne_bad {l : List PN} {us gs : List PR} {ss : List ByteArray} {u x : PN} {f : PF} {t : List PF} (h : walkP l ss = f :: t) (h0 : ¬ f.2 = 0) (h1 : movedP true us gs (bareP f.1) = some x) (h2 : ¬ pF false x u ss = 0) : upOne l us gs ss u = (pnZ, pF false x u ss) := by unfold upOne; rw [h]; simp only [if_neg h0, h1, if_neg h2]
theorem up_end {l : List PN} {us gs : List PR} {ss : List ByteArray} {f : PF} {t : List PF} {u0 : PN} {r : PN × Int} {k m : Nat} (h : walkP l ss = f :: t) (hu : l.headD pnZ = u0) (hk : (upK l us gs ss u0 k).2 = 0) (hr : upOne l us gs (ss.take (k + 1)) (upK l us gs ss u0 k).1 = r) (hn : ¬ r.2 = 0) (hm : ss.length = m) (hkm : k < m) : upP l us gs ss = r := by
  unfold upP
  rw [if_neg (by rw [h]; simp), hu, hm]
  have h1 : upK l us gs ss u0 (k + 1) = r := by rw [upK_on hk, hr]
  have h2 := upK_stop (i := k + 1) (l := l) (us := us) (gs := gs) (ss := ss) (u0 := u0) (by rw [h1]; exact hn) (m - (k + 1))
  rw [show k + 1 + (m - (k + 1)) = m by omega, h1] at h2
  exact h2
theorem strs_take {V : View} {A : Option Addr} {n k : Nat} {xs : List ByteArray} (h : StrsV V A n xs) (hk : k ≤ n) : StrsV V A k (xs.take k) := ⟨h.1.take hk, fun x hx => h.2 x (List.mem_of_mem_take hx)⟩
attribute [local irreducible] AtQ GoC GoL GoW QO QP Fn RV OwnAt CellsFrom VLe SrcIs errV
set_option maxRecDepth 100000
end Go.Proofs.Ytejkmomfpidnbab

/- The engine: regions in which three or four operations may come up at once; boxes in another order. No program is named here. -/
namespace Go.Proofs.Ytejkmomfpidnbab
open Go.RowKit
set_option linter.unusedSimpArgs false
set_option linter.unusedVariables false
section
variable {P : Program} {B : Base} {N : Nat} {Q : Exit → Act → World → Prop} {F : List (Nat × Value)} {V : View} {L : List Box} {k : List Cont} {ops : Array Oper} {rest : List Oper}
theorem gh_all {V0 : View} {Lk : List Box} {fuel : Nat} {listed : Array Bool} (l : List Nat) (hr : Region.ready .any ops listed = l) (hl : l ≠ []) (h0 : VLe B.v V0) (hV : VLe V0 V) (hk : Lk.Sublist L)
    (h : ∀ i ∈ l, ∃ oi, ops[i]? = some oi ∧ oi.guard = none ∧ GoW P B N (.held V0 Lk fuel (listed.setIfInBounds i true)) ops Q k oi rest F V L) : GoL P B N (.held V0 Lk (fuel + 1) listed) ops Q k rest F V L := by
  refine gl_mk rfl fun a w ha hs => ?_
  refine ⟨(hs.sub hk).view_le hV h0, wpAnyH_all hr hl fun m hm => ?_⟩
  obtain ⟨oi, hi, hg, hw⟩ := h m hm
  have hw := gw_un rfl hw
  unfold wpOp
  simp only [hi]
  rw [if_pos (by simp [Region.wanted, hg])]
  exact .inl (hw a w ha hs)
theorem gh_three {V0 : View} {Lk : List Box} {fuel : Nat} {listed : Array Bool} {i1 i2 i3 : Nat} {o1 o2 o3 : Oper} (hr : Region.ready .any ops listed = [i1, i2, i3]) (e1 : ops[i1]? = some o1) (e2 : ops[i2]? = some o2) (e3 : ops[i3]? = some o3) (g1 : o1.guard = none) (g2 : o2.guard = none) (g3 : o3.guard = none) (h0 : VLe B.v V0) (hV : VLe V0 V) (hk : Lk.Sublist L)
    (h1 : GoW P B N (.held V0 Lk fuel (listed.setIfInBounds i1 true)) ops Q k o1 rest F V L) (h2 : GoW P B N (.held V0 Lk fuel (listed.setIfInBounds i2 true)) ops Q k o2 rest F V L) (h3 : GoW P B N (.held V0 Lk fuel (listed.setIfInBounds i3 true)) ops Q k o3 rest F V L) : GoL P B N (.held V0 Lk (fuel + 1) listed) ops Q k rest F V L :=
  gh_all _ hr (by simp) h0 hV hk fun i hi => by
    simp only [List.mem_cons, List.not_mem_nil, or_false] at hi
    rcases hi with rfl | rfl | rfl
    · exact ⟨_, e1, g1, h1⟩
    · exact ⟨_, e2, g2, h2⟩
    · exact ⟨_, e3, g3, h3⟩
theorem gh_four {V0 : View} {Lk : List Box} {fuel : Nat} {listed : Array Bool} {i1 i2 i3 i4 : Nat} {o1 o2 o3 o4 : Oper} (hr : Region.ready .any ops listed = [i1, i2, i3, i4]) (e1 : ops[i1]? = some o1) (e2 : ops[i2]? = some o2) (e3 : ops[i3]? = some o3) (e4 : ops[i4]? = some o4) (g1 : o1.guard = none) (g2 : o2.guard = none) (g3 : o3.guard = none) (g4 : o4.guard = none) (h0 : VLe B.v V0) (hV : VLe V0 V) (hk : Lk.Sublist L)
    (h1 : GoW P B N (.held V0 Lk fuel (listed.setIfInBounds i1 true)) ops Q k o1 rest F V L) (h2 : GoW P B N (.held V0 Lk fuel (listed.setIfInBounds i2 true)) ops Q k o2 rest F V L) (h3 : GoW P B N (.held V0 Lk fuel (listed.setIfInBounds i3 true)) ops Q k o3 rest F V L) (h4 : GoW P B N (.held V0 Lk fuel (listed.setIfInBounds i4 true)) ops Q k o4 rest F V L) : GoL P B N (.held V0 Lk (fuel + 1) listed) ops Q k rest F V L :=
  gh_all _ hr (by simp) h0 hV hk fun i hi => by
    simp only [List.mem_cons, List.not_mem_nil, or_false] at hi
    rcases hi with rfl | rfl | rfl | rfl
    · exact ⟨_, e1, g1, h1⟩
    · exact ⟨_, e2, g2, h2⟩
    · exact ⟨_, e3, g3, h3⟩
    · exact ⟨_, e4, g4, h4⟩
end
/-! Boxes in another order. -/
inductive PickB : List Box → List Box → List Box → Prop
  | one (b : Box) (L : List Box) : PickB (b :: L) [b] L
  | all (A L : List Box) : PickB (A ++ L) A L
  | last (A : List Box) : PickB A A []
  | next {L X R : List Box} (b : Box) (h : PickB L X R) : PickB (b :: L) X (b :: R)
  | skip {L X R : List Box} (A : List Box) (h : PickB L X R) : PickB (A ++ L) X (A ++ R)
theorem PickB.perm {L X R : List Box} (h : PickB L X R) : L.Perm (X ++ R) := by
  induction h with
  | one b L => exact List.Perm.refl _
  | all A L => exact List.Perm.refl _
  | last A => simp
  | next b h ih => exact (List.Perm.cons b ih).trans (by simpa using (List.perm_middle (a := b)).symm)
  | @skip L X R A h ih =>
    refine (List.Perm.append_left A ih).trans ?_
    rw [← List.append_assoc, ← List.append_assoc]
    exact List.Perm.append_right R List.perm_append_comm
/-- What is kept of boxes, in another order. -/
def SubP (L' L : List Box) : Prop := ∃ R, L.Perm (L' ++ R)
theorem sp_nil {L : List Box} : SubP [] L := ⟨L, List.Perm.refl _⟩
theorem sp_app {X T L R : List Box} (h : PickB L X R) (ht : SubP T R) : SubP (X ++ T) L := by
  obtain ⟨Z, hZ⟩ := ht
  refine ⟨Z, h.perm.trans ?_⟩
  rw [List.append_assoc]
  exact List.Perm.append_left X hZ
theorem sp_cons {b : Box} {T L R : List Box} (h : PickB L [b] R) (ht : SubP T R) : SubP (b :: T) L := sp_app (X := [b]) h ht
theorem sp_last {X L R : List Box} (h : PickB L X R) : SubP X L := by have := sp_app h (sp_nil (L := R)); simpa using this
theorem sp_sub {L' L : List Box} (h : L'.Sublist L) : SubP L' L := by
  induction h with
  | slnil => exact ⟨[], by simp⟩
  | cons b h ih =>
    obtain ⟨R, hR⟩ := ih
    exact ⟨b :: R, (List.Perm.cons b hR).trans (List.perm_middle.symm)⟩
  | cons_cons b h ih =>
    obtain ⟨R, hR⟩ := ih
    exact ⟨R, List.Perm.cons b hR⟩
section
variable {P : Program} {B : Base} {N : Nat} {Q : Exit → Act → World → Prop} {F : List (Nat × Value)} {V : View} {L : List Box} {k : List Cont}
theorem St.subP {w : World} {L' : List Box} (hs : St B V L w) (h : SubP L' L) : St B V L' w := by
  obtain ⟨R, hp⟩ := h
  have hm : ∀ b ∈ L', b ∈ L := fun b hb => hp.mem_iff.2 (by simp [hb])
  refine ⟨hs.ext, fun p x hx => ⟨(hs.view p x hx).1, fun b hb => (hs.view p x hx).2 b (hm b hb)⟩, hs.old, hs.v0, fun b hb => hs.own b (hm b hb), ?_⟩
  have h1 := (hp.map Box.g).nodup_iff.1 hs.nodup
  rw [List.map_append] at h1
  exact (List.nodup_append.1 h1).1
/-- The same, with boxes in another order. -/
theorem at_order {e : Exit} {L' : List Box} (hL : SubP L' L) (h : AtQ P B N Q k e F V L') : AtQ P B N Q k e F V L := fun a w ha hs => h a w ha (hs.subP hL)
theorem gc_meet {c : Code} (J : List (Nat × Value) → View → List Box → Prop) (h1 : GoC P B N c Q (.thn (fun a w => ∃ F V L, J F V L ∧ Kn N F a ∧ St B V L w) :: k) F V L) (h2 : ∀ F V L, J F V L → AtQ P B N Q k .normal F V L) : GoC P B N c Q k F V L :=
  fun a w ha hs => Code.wp_mono (fun e a w q => by
    cases e with
    | normal => obtain ⟨F, V, L, hJ, ha, hs⟩ := q; exact h2 F V L hJ a w ha hs
    | exit i => exact q
    | goto l => exact q
    | ret => exact q
    | panic ch => exact q
    | outgrown => exact q) (h1 a w ha hs)
theorem gc_meet2 {x c r : Code} (J : List (Nat × Value) → View → List Box → Prop) (h1 : GoC P B N x Q (.seq c :: .thn (fun a w => ∃ F V L, J F V L ∧ Kn N F a ∧ St B V L w) :: .seq r :: k) F V L) (h2 : ∀ F V L, J F V L → GoC P B N r Q k F V L) : GoC P B N x Q (.seq (.seq c r) :: k) F V L :=
  fun a w ha hs => Code.wp_mono (fun e a w q => by
    cases e with
    | normal =>
      refine wp_seq (Code.wp_mono (fun e' a' w' q' => ?_) q)
      cases e' with
      | normal => obtain ⟨F, V, L, hJ, ha, hs⟩ := q'; exact h2 F V L hJ a' w' ha hs
      | exit i => exact q'
      | goto l => exact q'
      | ret => exact q'
      | panic ch => exact q'
      | outgrown => exact q'
    | exit i => exact q
    | goto l => exact q
    | ret => exact q
    | panic ch => exact q
    | outgrown => exact q) (h1 a w ha hs)
theorem gc_meet3 {x c : Code} (J : List (Nat × Value) → View → List Box → Prop) (h1 : GoC P B N x Q (.seq c :: .thn (fun a w => ∃ F V L, J F V L ∧ Kn N F a ∧ St B V L w) :: k) F V L) (h2 : ∀ F V L, J F V L → AtQ P B N Q k .normal F V L) : GoC P B N x Q (.seq c :: k) F V L :=
  fun a w ha hs => Code.wp_mono (fun e a w q => by
    cases e with
    | normal =>
      refine Code.wp_mono (fun e' a' w' q' => ?_) q
      cases e' with
      | normal => obtain ⟨F, V, L, hJ, ha, hs⟩ := q'; exact h2 F V L hJ a' w' ha hs
      | exit i => exact q'
      | goto l => exact q'
      | ret => exact q'
      | panic ch => exact q'
      | outgrown => exact q'
    | exit i => exact q
    | goto l => exact q
    | ret => exact q
    | panic ch => exact q
    | outgrown => exact q) (h1 a w ha hs)
theorem at_meetP {J : List (Nat × Value) → View → List Box → Prop} (F' : List (Nat × Value)) {L' : List Box} (hJ : J F' V L') (hF : ∀ p ∈ F', look F p.1 = some p.2) (hL : SubP L' L) :
    AtQ P B N Q (.thn (fun a w => ∃ F V L, J F V L ∧ Kn N F a ∧ St B V L w) :: k) .normal F V L := fun a w ha hs => ⟨F', V, L', hJ, ha.less hF, hs.subP hL⟩
theorem gc_order {c : Code} {L' : List Box} (hL : SubP L' L) (h : GoC P B N c Q k F V L') : GoC P B N c Q k F V L := fun a w ha hs => h a w ha (hs.subP hL)
end
end Go.Proofs.Ytejkmomfpidnbab

