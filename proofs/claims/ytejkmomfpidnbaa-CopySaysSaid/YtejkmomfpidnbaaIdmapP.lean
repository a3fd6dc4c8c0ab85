/- Maps of ids in plain terms: what package idmap and its reference reckon; that both make the same of a map. No program is named here. -/
import Derived.Test.YtejkmomfpidnbaaCore
namespace Go.Proofs.Ytejkmomfpidnbaa
open Go.RowKit
set_option linter.unusedSimpArgs false
set_option linter.unusedVariables false

/-- A range: the ids from i on are those from o on, c of them. -/
@[ext] structure PR where
  i : Int
  o : Int
  c : Int
instance : DecidableEq PR := fun a b => decidable_of_iff (a.i = b.i ∧ a.o = b.o ∧ a.c = b.c) ⟨fun ⟨h1, h2, h3⟩ => PR.ext h1 h2 h3, fun h => by subst h; exact ⟨rfl, rfl, rfl⟩⟩

def fitsZ (f n : Int) : Bool := decide (0 ≤ f) && decide (f ≤ 65535) && decide (1 ≤ n) && decide (n - 1 ≤ 65535 - f)
def meetsZ (a n b m : Int) : Bool := decide (a < b + m) && decide (b < a + n)
def okR (r : PR) : Bool := fitsZ r.i r.c && fitsZ r.o r.c
def meetR (r s : PR) : Bool := meetsZ r.i r.c s.i s.c || meetsZ r.o r.c s.o s.c
def mfault (seen : List PR) : List PR → Int
  | [] => 0
  | r :: l => if okR r = false then 1 else if seen.any (meetR r) then 3 else mfault (seen ++ [r]) l
def mapFaultZ (xs : List PR) : Int := if 4 < xs.length then 2 else mfault [] xs

def lookZ : List PR → Int → Option Int
  | [], _ => none
  | r :: l, x => if r.i ≤ x ∧ x < r.i + r.c then some (r.o + (x - r.i)) else lookZ l x
def PR.swap (r : PR) : PR := ⟨r.o, r.i, r.c⟩

/-- Where a range is put among those that are there: looked for from the end. -/
def atZ (l : List PR) (x : Int) : Nat → Nat
  | 0 => 0
  | k + 1 => if x < ((l[k]?).map PR.i).getD 0 then atZ l x k else k + 1
def insZ (l : List PR) (r : PR) : List PR := l.take (atZ l r.i l.length) ++ r :: l.drop (atZ l r.i l.length)
def mergeZ (out : List PR) (r : PR) : List PR :=
  match out.getLast? with
  | some q => if q.i + q.c = r.i ∧ q.o + q.c = r.o then out.dropLast ++ [⟨q.i, q.o, q.c + r.c⟩] else out ++ [r]
  | none => [r]
def canonZ (xs : List PR) : List PR := (xs.foldl insZ []).foldl mergeZ []

/-- The reference's way: each id is asked. -/
def refStep (f : Int → Option Int) (out : List PR) (x : Int) : List PR :=
  match f x with
  | none => out
  | some y => mergeZ out ⟨x, y, 1⟩
def scanZ (f : Int → Option Int) : List PR → Int → Nat → List PR
  | out, _, 0 => out
  | out, x, n + 1 => scanZ f (refStep f out x) (x + 1) n

theorem scan_add (f : Int → Option Int) : ∀ (m n : Nat) (out : List PR) (x : Int), scanZ f out x (m + n) = scanZ f (scanZ f out x m) (x + m) n
  | 0, n, out, x => by simp [scanZ]
  | m + 1, n, out, x => by
    rw [Nat.add_right_comm, scanZ, scan_add f m n, scanZ]
    congr 1; omega
theorem scan_none {f : Int → Option Int} : ∀ (n : Nat) (out : List PR) (x : Int), (∀ j : Nat, j < n → f (x + j) = none) → scanZ f out x n = out
  | 0, _, _, _ => rfl
  | n + 1, out, x, h => by
    have h0 : f x = none := by simpa using h 0 (by omega)
    rw [scanZ, refStep, h0]
    exact scan_none n out (x + 1) (fun j hj => by rw [show x + 1 + (j : Int) = x + ((j + 1 : Nat) : Int) by omega]; exact h _ (by omega))
theorem merge_snoc (o : List PR) (q r : PR) : mergeZ (o ++ [q]) r = if q.i + q.c = r.i ∧ q.o + q.c = r.o then o ++ [⟨q.i, q.o, q.c + r.c⟩] else o ++ [q] ++ [r] := by
  simp [mergeZ]
theorem scan_run {f : Int → Option Int} : ∀ (n : Nat) (o : List PR) (q : PR) (x y : Int), q.i + q.c = x → q.o + q.c = y → (∀ j : Nat, j < n → f (x + j) = some (y + j)) → scanZ f (o ++ [q]) x n = o ++ [⟨q.i, q.o, q.c + n⟩]
  | 0, o, q, x, y, _, _, _ => by simp [scanZ]
  | n + 1, o, q, x, y, h1, h2, h => by
    have h0 : f x = some y := by simpa using h 0 (by omega)
    rw [scanZ, refStep, h0]
    show scanZ f (mergeZ (o ++ [q]) ⟨x, y, 1⟩) (x + 1) n = _
    rw [merge_snoc, if_pos ⟨h1, h2⟩]
    rw [scan_run n o ⟨q.i, q.o, q.c + 1⟩ (x + 1) (y + 1) (by simp only []; omega) (by simp only []; omega) (fun j hj => by
      have := h (j + 1) (by omega)
      rw [show x + 1 + (j : Int) = x + ((j + 1 : Nat) : Int) by omega, this]
      congr 1; omega)]
    congr 3; simp only []; omega
theorem merge_one (out : List PR) (r : PR) : ∃ o q, mergeZ out ⟨r.i, r.o, 1⟩ = o ++ [q] ∧ q.i + q.c = r.i + 1 ∧ q.o + q.c = r.o + 1 ∧ ∀ n : Int, mergeZ out ⟨r.i, r.o, n + 1⟩ = o ++ [⟨q.i, q.o, q.c + n⟩] := by
  rcases List.eq_nil_or_concat out with rfl | ⟨o, q, rfl⟩
  · exact ⟨[], ⟨r.i, r.o, 1⟩, rfl, rfl, rfl, fun n => by simp [mergeZ, Int.add_comm n 1]⟩
  · rw [List.concat_eq_append]
    by_cases h : q.i + q.c = r.i ∧ q.o + q.c = r.o
    · refine ⟨o, ⟨q.i, q.o, q.c + 1⟩, by rw [merge_snoc, if_pos h], by simp only []; omega, by simp only []; omega, fun n => ?_⟩
      rw [merge_snoc, if_pos h]
      simp only [Int.add_assoc, Int.add_comm n 1]
    · refine ⟨o ++ [q], ⟨r.i, r.o, 1⟩, by rw [merge_snoc, if_neg h], rfl, rfl, fun n => ?_⟩
      rw [merge_snoc, if_neg h]
      simp only [Int.add_comm n 1]
theorem scan_range {f : Int → Option Int} (out : List PR) (r : PR) (n : Nat) (hc : r.c = n) (hn : 0 < n) (h : ∀ j : Nat, j < n → f (r.i + j) = some (r.o + j)) : scanZ f out r.i n = mergeZ out r := by
  obtain ⟨m, rfl⟩ : ∃ m, n = m + 1 := ⟨n - 1, by omega⟩
  obtain ⟨o, q, h1, h2, h3, h4⟩ := merge_one out r
  have h0 : f r.i = some r.o := by simpa using h 0 (by omega)
  rw [scanZ, refStep, h0]
  show scanZ f (mergeZ out ⟨r.i, r.o, 1⟩) (r.i + 1) m = _
  rw [h1, scan_run m o q (r.i + 1) (r.o + 1) h2 h3 (fun j hj => by
    have := h (j + 1) (by omega)
    rw [show r.i + 1 + (j : Int) = r.i + ((j + 1 : Nat) : Int) by omega, this]
    congr 1; omega)]
  have := h4 m
  rw [show r = ⟨r.i, r.o, (m : Int) + 1⟩ by ext <;> simp; omega, this]

def inR (r : PR) (x : Int) : Prop := r.i ≤ x ∧ x < r.i + r.c
def apart (r s : PR) : Prop := r.i + r.c ≤ s.i ∨ s.i + s.c ≤ r.i
def before (r s : PR) : Prop := r.i + r.c ≤ s.i
/-- Within the bounds of ids. -/
def bdR (r : PR) : Prop := 0 ≤ r.i ∧ 1 ≤ r.c ∧ r.i + r.c ≤ 65536 ∧ 0 ≤ r.o ∧ r.o + r.c ≤ 65536
theorem okR_iff (r : PR) : okR r = true ↔ bdR r := by
  simp only [okR, fitsZ, bdR, Bool.and_eq_true, decide_eq_true_eq]; omega

theorem look_none {l : List PR} {x : Int} (h : ∀ r ∈ l, ¬ inR r x) : lookZ l x = none := by
  induction l with
  | nil => rfl
  | cons r l ih =>
    rw [lookZ, if_neg (show ¬ (r.i ≤ x ∧ x < r.i + r.c) from h r (by simp))]
    exact ih fun s hs => h s (by simp [hs])
theorem look_some {l : List PR} {x y : Int} (h : lookZ l x = some y) : ∃ r ∈ l, inR r x ∧ y = r.o + (x - r.i) := by
  induction l with
  | nil => cases h
  | cons r l ih =>
    rw [lookZ] at h
    by_cases hr : r.i ≤ x ∧ x < r.i + r.c
    · rw [if_pos hr] at h; injection h with h; exact ⟨r, by simp, hr, h.symm⟩
    · rw [if_neg hr] at h
      obtain ⟨s, hs, h2⟩ := ih h
      exact ⟨s, by simp [hs], h2⟩
theorem look_in {l : List PR} (hp : l.Pairwise apart) {r : PR} (hr : r ∈ l) {x : Int} (hx : inR r x) : lookZ l x = some (r.o + (x - r.i)) := by
  induction l with
  | nil => cases hr
  | cons s l ih =>
    rw [List.pairwise_cons] at hp
    rw [lookZ]
    rcases List.mem_cons.1 hr with rfl | hr'
    · rw [if_pos (show r.i ≤ x ∧ x < r.i + r.c from hx)]
    · rw [if_neg, ih hp.2 hr']
      have h := hp.1 r hr'
      unfold apart at h; unfold inR at hx; omega
theorem look_perm {l m : List PR} (hl : l.Pairwise apart) (hm : m.Pairwise apart) (h : ∀ r, r ∈ l ↔ r ∈ m) (x : Int) : lookZ l x = lookZ m x := by
  by_cases hx : ∃ r ∈ l, inR r x
  · obtain ⟨r, hr, hi⟩ := hx
    rw [look_in hl hr hi, look_in hm ((h r).1 hr) hi]
  · rw [look_none (fun r hr hi => hx ⟨r, hr, hi⟩), look_none (fun r hr hi => hx ⟨r, (h r).2 hr, hi⟩)]

theorem scan_sorted {f : Int → Option Int} : ∀ (l : List PR) (out : List PR) (x : Nat), x ≤ 65536 → l.Pairwise before → (∀ r ∈ l, bdR r ∧ (x : Int) ≤ r.i) → (∀ z : Int, (x : Int) ≤ z → f z = lookZ l z) →
    scanZ f out x (65536 - x) = l.foldl mergeZ out
  | [], out, x, _, _, _, hf => by
    rw [scan_none]
    · rfl
    · intro j _; rw [hf _ (by omega)]; rfl
  | r :: l, out, x, hx, hp, hb, hf => by
    rw [List.pairwise_cons] at hp
    obtain ⟨hbr, hxr⟩ := hb r (by simp)
    unfold bdR at hbr
    obtain ⟨i, hi⟩ := Int.eq_ofNat_of_zero_le hbr.1
    obtain ⟨c, hc⟩ := Int.eq_ofNat_of_zero_le (show 0 ≤ r.c by omega)
    have e : 65536 - x = (i - x) + (c + (65536 - (i + c))) := by omega
    rw [e, scan_add, scan_none (i - x)]
    · rw [show (x : Int) + ((i - x : Nat) : Int) = r.i by omega, scan_add, scan_range out r c hc (by omega)]
      · rw [show r.i + (c : Int) = ((i + c : Nat) : Int) by omega, List.foldl_cons]
        refine scan_sorted l _ (i + c) (by omega) hp.2 (fun s hs => ?_) (fun z hz => ?_)
        · have := hp.1 s hs
          unfold before at this
          exact ⟨(hb s (by simp [hs])).1, by omega⟩
        · rw [hf z (by omega), lookZ, if_neg (by omega)]
      · intro j hj
        rw [hf _ (by omega), lookZ, if_pos (by omega)]
        congr 1; omega
    · intro j hj
      rw [hf _ (by omega)]
      refine look_none fun s hs hi' => ?_
      unfold inR at hi'
      rcases List.mem_cons.1 hs with rfl | hs
      · omega
      · have := hp.1 s hs
        unfold before at this
        omega

/-! ### The sort -/
def leR (r s : PR) : Prop := r.i ≤ s.i
theorem at_le (l : List PR) (x : Int) : ∀ k, atZ l x k ≤ k
  | 0 => Nat.le_refl _
  | k + 1 => by
    rw [atZ]
    split
    · exact Nat.le_trans (at_le l x k) (Nat.le_succ _)
    · exact Nat.le_refl _
theorem at_above (l : List PR) (x : Int) : ∀ k, k ≤ l.length → ∀ j r, atZ l x k ≤ j → j < k → l[j]? = some r → x < r.i
  | 0, _, j, r, _, h, _ => absurd h (by omega)
  | k + 1, hk, j, r, h1, h2, hr => by
    rw [atZ] at h1
    split at h1
    · rename_i hlt
      by_cases hj : j = k
      · subst hj; rw [hr] at hlt; exact hlt
      · exact at_above l x k (by omega) j r h1 (by omega) hr
    · omega
theorem at_last (l : List PR) (x : Int) : ∀ k, k ≤ l.length → ∀ j r, j + 1 = atZ l x k → l[j]? = some r → r.i ≤ x
  | 0, _, j, r, h, _ => by simp [atZ] at h
  | k + 1, hk, j, r, h, hr => by
    rw [atZ] at h
    split at h
    · exact at_last l x k (by omega) j r h hr
    · rename_i hlt
      have : j = k := by omega
      subst this
      rw [hr] at hlt
      simp at hlt; omega
theorem ins_mem (l : List PR) (r s : PR) : s ∈ insZ l r ↔ s = r ∨ s ∈ l := by
  unfold insZ
  rw [List.mem_append, List.mem_cons]
  have : s ∈ l ↔ s ∈ l.take (atZ l r.i l.length) ∨ s ∈ l.drop (atZ l r.i l.length) := by
    rw [← List.mem_append, List.take_append_drop]
  rw [this]
  constructor
  · rintro (h | h | h) <;> simp [h]
  · rintro (h | h | h) <;> simp [h]
theorem ins_sorted {l : List PR} (r : PR) (h : l.Pairwise leR) : (insZ l r).Pairwise leR := by
  unfold insZ
  generalize hk : atZ l r.i l.length = k
  have hkl : k ≤ l.length := hk ▸ at_le l r.i _
  rw [List.pairwise_append]
  have hdrop : ∀ s ∈ l.drop k, r.i < s.i := by
    intro s hs
    obtain ⟨j, hj, rfl⟩ := List.mem_iff_getElem.1 hs
    rw [List.length_drop] at hj
    have := at_above l r.i l.length (Nat.le_refl _) (k + j) (l[k + j]'(by omega)) (by omega) (by omega) (List.getElem?_eq_getElem _)
    simpa using this
  have htake : ∀ s ∈ l.take k, s.i ≤ r.i := by
    intro s hs
    rcases Nat.eq_zero_or_pos k with h0 | h0
    · subst h0; simp at hs
    · have hl := at_last l r.i l.length (Nat.le_refl _) (k - 1) (l[k - 1]'(by omega)) (by omega) (List.getElem?_eq_getElem _)
      obtain ⟨j, hj, rfl⟩ := List.mem_iff_getElem.1 hs
      rw [List.length_take] at hj
      rw [List.getElem_take]
      by_cases hj' : j = k - 1
      · subst hj'; exact hl
      · have := List.pairwise_iff_getElem.1 h j (k - 1) (by omega) (by omega) (by omega)
        unfold leR at this; omega
  refine ⟨h.sublist (List.take_sublist _ _), ?_, ?_⟩
  · rw [List.pairwise_cons]
    exact ⟨fun s hs => by have := hdrop s hs; unfold leR; omega, h.sublist (List.drop_sublist _ _)⟩
  · intro a ha b hb
    have h1 := htake a ha
    rcases List.mem_cons.1 hb with rfl | hb
    · exact h1
    · have := hdrop b hb; unfold leR; omega
theorem apart_symm {r s : PR} (h : apart r s) : apart s r := by unfold apart at *; omega
theorem ins_apart {l : List PR} {r : PR} (h : l.Pairwise apart) (hr : ∀ s ∈ l, apart r s) : (insZ l r).Pairwise apart := by
  unfold insZ
  generalize atZ l r.i l.length = k
  rw [List.pairwise_append]
  refine ⟨h.sublist (List.take_sublist _ _), ?_, ?_⟩
  · rw [List.pairwise_cons]
    exact ⟨fun s hs => hr s (List.mem_of_mem_drop hs), h.sublist (List.drop_sublist _ _)⟩
  · intro a ha b hb
    rcases List.mem_cons.1 hb with rfl | hb
    · exact apart_symm (hr a (List.mem_of_mem_take ha))
    · have := List.pairwise_append.1 (by rw [List.take_append_drop k l]; exact h)
      exact this.2.2 a ha b hb
theorem sort_all : ∀ (xs acc : List PR), acc.Pairwise leR → acc.Pairwise apart → xs.Pairwise apart → (∀ r ∈ xs, ∀ s ∈ acc, apart r s) →
    (xs.foldl insZ acc).Pairwise leR ∧ (xs.foldl insZ acc).Pairwise apart ∧ ∀ r, r ∈ xs.foldl insZ acc ↔ r ∈ acc ∨ r ∈ xs
  | [], acc, h1, h2, _, _ => ⟨h1, h2, fun r => by simp⟩
  | x :: xs, acc, h1, h2, h3, h4 => by
    rw [List.pairwise_cons] at h3
    obtain ⟨a, b, c⟩ := sort_all xs (insZ acc x) (ins_sorted x h1) (ins_apart h2 (fun s hs => h4 x (by simp) s hs)) h3.2 (fun r hr s hs => by
      rcases (ins_mem acc x s).1 hs with rfl | hs
      · exact apart_symm (h3.1 r hr)
      · exact h4 r (by simp [hr]) s hs)
    refine ⟨a, b, fun r => ?_⟩
    rw [List.foldl_cons, c, ins_mem, List.mem_cons]
    constructor
    · rintro ((h | h) | h) <;> simp [h]
    · rintro (h | h | h) <;> simp [h]

/-- What canon makes of ranges that lie apart is what the reference makes of asking each id. -/
theorem canon_scan {xs : List PR} {f : Int → Option Int} (hb : ∀ r ∈ xs, bdR r) (hp : xs.Pairwise apart) (hf : ∀ z : Int, 0 ≤ z → f z = lookZ xs z) : scanZ f [] 0 65536 = canonZ xs := by
  obtain ⟨h1, h2, h3⟩ := sort_all xs [] List.Pairwise.nil List.Pairwise.nil hp (by simp)
  have h3' : ∀ r, r ∈ xs.foldl insZ [] ↔ r ∈ xs := fun r => by rw [h3]; simp
  refine scan_sorted (xs.foldl insZ []) [] 0 (by omega) ?_ (fun r hr => ?_) (fun z hz => ?_)
  · refine (h1.and h2).imp_of_mem fun {a b} ha hb' hab => ?_
    have := hb b ((h3' b).1 hb'); have := hb a ((h3' a).1 ha)
    obtain ⟨q1, q2⟩ := hab
    unfold leR at q1; unfold apart at q2; unfold bdR at *; unfold before; omega
  · have := hb r ((h3' r).1 hr)
    refine ⟨this, ?_⟩
    unfold bdR at this; omega
  · rw [hf z (by omega)]
    exact look_perm hp h2 (fun r => (h3' r).symm) z

/-! ### A map that is right -/
theorem meets_apart {r s : PR} (h1 : bdR r) (h2 : bdR s) : meetR r s = false ↔ apart r s ∧ apart r.swap s.swap := by
  simp only [meetR, meetsZ, apart, PR.swap, Bool.or_eq_false_iff, Bool.and_eq_false_iff, decide_eq_false_iff_not]; unfold bdR at *; omega
theorem mfault_zero : ∀ (l seen : List PR), mfault seen l = 0 → (∀ r ∈ l, bdR r) ∧ (∀ r ∈ l, ∀ s ∈ seen, meetR r s = false) ∧ l.Pairwise fun s r => meetR r s = false
  | [], seen, _ => ⟨by simp, by simp, List.Pairwise.nil⟩
  | r :: l, seen, h => by
    rw [mfault] at h
    split at h
    · omega
    · rename_i hok
      split at h
      · omega
      · rename_i hany
        obtain ⟨a, b, c⟩ := mfault_zero l _ h
        have hr : bdR r := (okR_iff r).1 (by simpa using hok)
        refine ⟨fun s hs => ?_, fun s hs t ht => ?_, ?_⟩
        · rcases List.mem_cons.1 hs with rfl | hs
          · exact hr
          · exact a s hs
        · rcases List.mem_cons.1 hs with rfl | hs
          · simp at hany; exact hany t ht
          · exact b s hs t (by simp [ht])
        · rw [List.pairwise_cons]
          exact ⟨fun s hs => b s hs r (by simp), c⟩
theorem fault_zero {xs : List PR} (h : mapFaultZ xs = 0) : xs.length ≤ 4 ∧ (∀ r ∈ xs, bdR r) ∧ xs.Pairwise apart ∧ (xs.map PR.swap).Pairwise apart := by
  unfold mapFaultZ at h
  split at h
  · omega
  · obtain ⟨a, _, c⟩ := mfault_zero xs [] h
    refine ⟨by omega, a, ?_, ?_⟩
    · refine c.imp_of_mem fun {s r} hs hr h => ?_
      exact apart_symm ((meets_apart (a r hr) (a s hs)).1 h).1
    · rw [List.pairwise_map]
      refine c.imp_of_mem fun {s r} hs hr h => ?_
      exact apart_symm ((meets_apart (a r hr) (a s hs)).1 h).2
theorem swap_bd {r : PR} (h : bdR r) : bdR r.swap := by unfold bdR PR.swap at *; simp only []; omega

/-! ### A map, and behind it another one -/
def cutZ (r s : PR) : Option PR :=
  if max r.o s.i < min (r.o + r.c) (s.i + s.c) then some ⟨r.i + max r.o s.i - r.o, s.o + max r.o s.i - s.i, min (r.o + r.c) (s.i + s.c) - max r.o s.i⟩ else none
def thenZ (xs ys : List PR) : List PR := xs.flatMap fun r => ys.filterMap (cutZ r)
theorem cut_bd {r s t : PR} (hr : bdR r) (hs : bdR s) (h : cutZ r s = some t) : bdR t := by
  unfold cutZ at h
  split at h
  · injection h with h; subst h; unfold bdR at *; simp only []; omega
  · cases h
theorem then_bd {xs ys : List PR} (hx : ∀ r ∈ xs, bdR r) (hy : ∀ r ∈ ys, bdR r) : ∀ r ∈ thenZ xs ys, bdR r := by
  intro t ht
  obtain ⟨r, hr, ht⟩ := List.mem_flatMap.1 ht
  obtain ⟨s, hs, h⟩ := List.mem_filterMap.1 ht
  exact cut_bd (hx r hr) (hy s hs) h
theorem cut_in {r s t : PR} (h : cutZ r s = some t) (x : Int) : inR t x ↔ inR r x ∧ inR s (r.o + (x - r.i)) := by
  unfold cutZ at h
  split at h
  · injection h with h; subst h; unfold inR; simp only []; omega
  · cases h
theorem cut_to {r s t : PR} (h : cutZ r s = some t) (x : Int) : t.o + (x - t.i) = s.o + (r.o + (x - r.i) - s.i) := by
  unfold cutZ at h
  split at h
  · injection h with h; subst h; simp only []; omega
  · cases h
theorem apart_of {r s : PR} (hr : 1 ≤ r.c) (hs : 1 ≤ s.c) (h : ∀ x, inR r x → inR s x → False) : apart r s := by
  unfold apart
  by_cases h1 : r.i ≤ s.i
  · by_cases h2 : s.i < r.i + r.c
    · exact (h s.i ⟨h1, h2⟩ ⟨Int.le_refl _, by omega⟩).elim
    · omega
  · by_cases h2 : r.i < s.i + s.c
    · exact (h r.i ⟨Int.le_refl _, by omega⟩ ⟨by omega, h2⟩).elim
    · omega
theorem not_both {r s : PR} (h : apart r s) {x : Int} (h1 : inR r x) (h2 : inR s x) : False := by unfold apart inR at *; omega
theorem then_apart {xs ys : List PR} (hx : ∀ r ∈ xs, bdR r) (hy : ∀ r ∈ ys, bdR r) (hpx : xs.Pairwise apart) (hpy : ys.Pairwise apart) : (thenZ xs ys).Pairwise apart := by
  unfold thenZ
  rw [List.pairwise_flatMap]
  refine ⟨fun r hr => ?_, ?_⟩
  · rw [List.pairwise_filterMap]
    refine hpy.imp_of_mem fun {s t} hs ht hst => ?_
    intro a ha b hb
    refine apart_of (cut_bd (hx r hr) (hy s hs) ha).2.1 (cut_bd (hx r hr) (hy t ht) hb).2.1 fun x h1 h2 => ?_
    exact not_both hst ((cut_in ha x).1 h1).2 ((cut_in hb x).1 h2).2
  · refine hpx.imp_of_mem fun {r q} hr hq hrq => ?_
    intro a ha b hb
    obtain ⟨s, hs, ha⟩ := List.mem_filterMap.1 ha
    obtain ⟨t, ht, hb⟩ := List.mem_filterMap.1 hb
    refine apart_of (cut_bd (hx r hr) (hy s hs) ha).2.1 (cut_bd (hx q hq) (hy t ht) hb).2.1 fun x h1 h2 => ?_
    exact not_both hrq ((cut_in ha x).1 h1).1 ((cut_in hb x).1 h2).1
theorem then_look {xs ys : List PR} (hx : ∀ r ∈ xs, bdR r) (hy : ∀ r ∈ ys, bdR r) (hpx : xs.Pairwise apart) (hpy : ys.Pairwise apart) (x : Int) : lookZ (thenZ xs ys) x = (lookZ xs x).bind (lookZ ys) := by
  have hp := then_apart hx hy hpx hpy
  cases h1 : lookZ xs x with
  | none =>
    refine look_none fun t ht hi => ?_
    obtain ⟨r, hr, ht⟩ := List.mem_flatMap.1 ht
    obtain ⟨s, hs, h⟩ := List.mem_filterMap.1 ht
    rw [look_in hpx hr ((cut_in h x).1 hi).1] at h1
    cases h1
  | some y =>
    obtain ⟨r, hr, hi, rfl⟩ := look_some h1
    show _ = lookZ ys (r.o + (x - r.i))
    cases h2 : lookZ ys (r.o + (x - r.i)) with
    | none =>
      refine look_none fun t ht hit => ?_
      obtain ⟨q, hq, ht⟩ := List.mem_flatMap.1 ht
      obtain ⟨s, hs, h⟩ := List.mem_filterMap.1 ht
      have hh := (cut_in h x).1 hit
      have hqr : r.o + (x - r.i) = q.o + (x - q.i) := by
        have e1 := look_in hpx hr hi; have e2 := look_in hpx hq hh.1
        rw [e1] at e2; injection e2
      rw [hqr, look_in hpy hs hh.2] at h2
      cases h2
    | some z =>
      obtain ⟨s, hs, hj, rfl⟩ := look_some h2
      have hc : ∃ t, cutZ r s = some t := by
        unfold cutZ
        rw [if_pos]
        · exact ⟨_, rfl⟩
        · unfold inR at hi hj; omega
      obtain ⟨t, hc⟩ := hc
      have hmem : t ∈ thenZ xs ys := List.mem_flatMap.2 ⟨r, hr, List.mem_filterMap.2 ⟨s, hs, hc⟩⟩
      rw [look_in hp hmem ((cut_in hc x).2 ⟨hi, hj⟩), cut_to hc]
end Go.Proofs.Ytejkmomfpidnbaa
