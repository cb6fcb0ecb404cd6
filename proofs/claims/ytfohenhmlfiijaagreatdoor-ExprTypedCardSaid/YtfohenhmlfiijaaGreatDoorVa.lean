/- Texts as numbers and days, in plain Lean. -/
import Derived.Test.YtfohenhmlfiijaaGreatDoorB1
import Derived.Lib.ParseIntB
import Derived.Lib.SlTrimSet
import Derived.Lib.IndexMore
import Derived.Lib.ItoaNum
import Derived.Lib.Repeat
import Derived.Lib.Replace
import Derived.Lib.MapU
import Derived.Lib.Strings
set_option maxRecDepth 100000
namespace Go.Ex
open Go
theorem ba_beq {a b : ByteArray} : (a == b) = true ↔ a = b := by
  obtain ⟨x⟩ := a
  obtain ⟨y⟩ := b
  show ((x == y) = true) ↔ _
  simp
theorem ba_ne {a b : ByteArray} : (a == b) = false ↔ a ≠ b := by rw [Bool.eq_false_iff, ne_eq, ba_beq]
/-- A list of bytes as a text. -/
def tx (l : List UInt8) : ByteArray := ⟨l.toArray⟩
theorem tx_data (l : List UInt8) : (tx l).data.toList = l := rfl
theorem tx_of (s : ByteArray) : tx s.data.toList = s := rfl
theorem tx_size (l : List UInt8) : (tx l).size = l.length := by simp [tx, ByteArray.size]
theorem size_data (s : ByteArray) : s.data.toList.length = s.size := Array.length_toList
theorem tx_append (a b : List UInt8) : tx a ++ tx b = tx (a ++ b) := by
  apply ByteArray.ext; simp [tx]
theorem ext_tx (s : ByteArray) (l h : Nat) : s.extract l h = tx ((s.data.toList.take h).drop l) := by
  apply ByteArray.ext
  rw [ByteArray.data_extract]
  unfold tx
  apply Array.ext'
  rw [Array.toList_extract]
  show _ = (s.data.toList.take h).drop l
  rw [List.drop_take]
theorem drop_tx (s : ByteArray) (n : Nat) : s.extract n s.size = tx (s.data.toList.drop n) := by
  rw [ext_tx, List.take_of_length_le (by rw [size_data]; exact Nat.le_refl _)]
theorem take_tx (s : ByteArray) (n : Nat) : s.extract 0 n = tx (s.data.toList.take n) := by
  rw [ext_tx, List.drop_zero]
theorem tx_inj {a b : List UInt8} (h : tx a = tx b) : a = b := by
  have := congrArg (fun x : ByteArray => x.data.toList) h
  exact this
theorem pre_eq {s p : ByteArray} (h : p.size ≤ s.size) : (s.extract 0 p.size == p) = Lib.hasPrefix s.data.toList p.data.toList := by
  rw [Bool.eq_iff_iff, ba_beq, take_tx]
  unfold Lib.hasPrefix
  rw [List.isPrefixOf_iff_prefix, List.prefix_iff_eq_take, size_data]
  constructor
  · intro h; exact (tx_inj (h.trans (tx_of p).symm)).symm
  · intro h; rw [← h, tx_of]
theorem pre_no {s p : ByteArray} (h : ¬ p.size ≤ s.size) : Lib.hasPrefix s.data.toList p.data.toList = false := by
  rw [Bool.eq_false_iff]
  unfold Lib.hasPrefix
  rw [ne_eq, List.isPrefixOf_iff_prefix]
  intro hp
  have := hp.length_le
  rw [size_data, size_data] at this
  exact h this
def digL : List UInt8 := [48, 49, 50, 51, 52, 53, 54, 55, 56, 57]
def isDig (c : UInt8) : Bool := digL.contains c
theorem isDig_iff {c : UInt8} : isDig c = true ↔ 48 ≤ c.toNat ∧ c.toNat ≤ 57 := by
  constructor
  · intro h
    have h : c ∈ digL := List.elem_iff.1 h
    unfold digL at h
    simp only [List.mem_cons, List.not_mem_nil, or_false] at h
    rcases h with rfl | rfl | rfl | rfl | rfl | rfl | rfl | rfl | rfl | rfl <;> decide
  · intro ⟨h1, h2⟩
    have h : c = UInt8.ofNat c.toNat := (UInt8.ofNat_toNat).symm
    have : c.toNat = 48 ∨ c.toNat = 49 ∨ c.toNat = 50 ∨ c.toNat = 51 ∨ c.toNat = 52 ∨ c.toNat = 53 ∨ c.toNat = 54 ∨ c.toNat = 55 ∨ c.toNat = 56 ∨ c.toNat = 57 := by omega
    rw [h]
    rcases this with e | e | e | e | e | e | e | e | e | e <;> rw [e] <;> decide
theorem dropWhile_nil {α : Type} (p : α → Bool) : ∀ {l : List α}, l.dropWhile p = [] ↔ l.all p = true
  | [] => by simp
  | a :: l => by
    rw [List.dropWhile_cons]
    cases h : p a
    · simp [h]
    · simp [h, dropWhile_nil p (l := l)]
theorem trimS_nil {l cs : List UInt8} : Lib.trimS l cs = [] ↔ l.all (cs.contains ·) = true := by
  unfold Lib.trimS Lib.trimLeftS Lib.trimRightS
  rw [dropWhile_nil]
  constructor
  · intro h
    have h2 : (l.reverse.dropWhile (cs.contains ·)).all (cs.contains ·) = true := by
      rw [List.all_eq_true] at h ⊢
      intro x hx
      exact h x (List.mem_reverse.2 hx)
    rw [← List.all_reverse]
    rw [← List.takeWhile_append_dropWhile (p := (cs.contains ·)) (l := l.reverse), List.all_append, h2, Bool.and_true]
    exact List.all_takeWhile
  · intro h
    rw [List.all_eq_true] at h ⊢
    intro x hx
    exact h x (List.mem_reverse.1 ((List.dropWhile_sublist _).subset (List.mem_reverse.1 hx)))
/-- One digit or more, and nothing else. -/
def digP (l : List UInt8) : Bool := !l.isEmpty && l.all isDig
theorem digP_trim (l : List UInt8) : (bif tx l != tx [] then tx (Lib.trimS l digL) == tx [] else false) = digP l := by
  have e : ∀ a : List UInt8, (tx a == tx []) = a.isEmpty := by
    intro a
    cases a with
    | nil => rfl
    | cons x r =>
      have : tx (x :: r) ≠ tx [] := by
        intro h
        have := congrArg ByteArray.size h
        simp [tx_size] at this
      rw [List.isEmpty_cons, Bool.eq_false_iff]
      intro h
      exact this (ba_beq.1 h)
  have e2 : (tx l != tx []) = !l.isEmpty := by rw [bne, e]
  rw [e2, e]
  unfold digP
  cases h : l.isEmpty
  · simp only [Bool.not_false, cond_true, Bool.true_and]
    rw [Bool.eq_iff_iff, List.isEmpty_iff, trimS_nil]
    rfl
  · rfl
/-- What a text says as a whole number: the number, the error. -/
def intOf (l : List UInt8) : Int × Int :=
  if digP (Lib.trimPrefix l [45]) then (match Lib.parseIntB 64 l with | .ok v => (v, 0) | _ => (0, 10)) else (0, 12)
theorem parse_in64 {l : List UInt8} {v : Int} (h : Lib.parseIntB 64 l = .ok v) : in64 v := by
  unfold Lib.parseIntB at h
  split at h
  · cases h
  · rename_i c r
    dsimp only at h
    split at h
    · cases h
    · cases h
    · split at h
      · cases h
      · split at h
        · cases h
        · simp only [Lib.NumEnd.ok.injEq] at h
          subst h
          unfold in64
          split <;> omega
theorem intOf_in64 (l : List UInt8) : in64 (intOf l).1 := by
  unfold intOf
  split
  · split
    · rename_i v h; exact parse_in64 h
    · exact ⟨by decide, by decide⟩
  · exact ⟨by decide, by decide⟩
end Go.Ex
namespace Go.Ex
open Go
def leapP (y : Int) : Int := bif (bif (bif y.tmod 4 == 0 then y.tmod 100 != 0 else false) then true else y.tmod 400 == 0) then 1 else 0
/-- How many days a month has. -/
def monthL : List Int := [31, 28, 31, 30, 31, 30, 31, 31, 30, 31, 30, 31]
def monthP (y m : Int) : Int := monthL.getD (m - 1).toNat 0 + (if m = 2 then leapP y else 0)
def yearsP (y : Int) : Int := (y - 1) * 365 + (y - 1) / 4 - (y - 1) / 100 + (y - 1) / 400
/-- The days of a year's first months. -/
def sumM (y : Int) : Nat → Int
  | 0 => 0
  | k + 1 => sumM y k + monthP y ((k : Int) + 1)
theorem leapP_of {y : Int} (h : 0 ≤ y) : (leapP y = 1 ∧ ((y % 4 = 0 ∧ y % 100 ≠ 0) ∨ y % 400 = 0)) ∨ (leapP y = 0 ∧ ¬ ((y % 4 = 0 ∧ y % 100 ≠ 0) ∨ y % 400 = 0)) := by
  unfold leapP
  rw [Int.tmod_eq_emod_of_nonneg h, Int.tmod_eq_emod_of_nonneg h, Int.tmod_eq_emod_of_nonneg h]
  have b : ∀ a : Int, (a == 0) = decide (a = 0) := fun a => by by_cases h : a = 0 <;> simp [h]
  have b2 : ∀ a : Int, (a != 0) = !decide (a = 0) := fun a => by rw [bne, b]
  rw [b, b, b2]
  by_cases h1 : y % 4 = 0 <;> by_cases h2 : y % 100 = 0 <;> by_cases h3 : y % 400 = 0 <;> simp only [h1, h2, h3, decide_true, decide_false, Bool.not_true, Bool.not_false, cond_true, cond_false, true_and, ne_eq, not_true_eq_false, not_false_eq_true, or_true, or_false, false_and, and_false, and_true, or_self] <;> first | exact .inl rfl | exact .inr rfl | (left; decide) | (right; decide)
theorem years_step {y : Int} (h : 1 ≤ y) : yearsP (y + 1) = yearsP y + 365 + leapP y := by
  unfold yearsP
  rcases leapP_of (show 0 ≤ y by omega) with ⟨e, h1⟩ | ⟨e, h1⟩ <;> rw [e] <;> omega
theorem years_bound {y : Int} (h : 1 ≤ y) (h2 : y ≤ 10000) : 0 ≤ yearsP y ∧ yearsP y ≤ 3652059 := by
  unfold yearsP; omega
theorem sumM_12 (y : Int) (h : 0 ≤ y) : sumM y 12 = 365 + leapP y := by
  simp only [sumM, monthP, monthL]
  simp
  omega
theorem month_pos {y m : Int} (h0 : 0 ≤ y) (h1 : 1 ≤ m) (h2 : m ≤ 12) : 28 ≤ monthP y m ∧ monthP y m ≤ 31 := by
  have hl : 0 ≤ leapP y ∧ leapP y ≤ 1 := by rcases leapP_of h0 with ⟨e, _⟩ | ⟨e, _⟩ <;> rw [e] <;> decide
  have : m = 1 ∨ m = 2 ∨ m = 3 ∨ m = 4 ∨ m = 5 ∨ m = 6 ∨ m = 7 ∨ m = 8 ∨ m = 9 ∨ m = 10 ∨ m = 11 ∨ m = 12 := by omega
  rcases this with rfl | rfl | rfl | rfl | rfl | rfl | rfl | rfl | rfl | rfl | rfl | rfl <;> simp [monthP, monthL] <;> omega
theorem sumM_mono {y : Int} (h0 : 0 ≤ y) : ∀ {j k : Nat}, j ≤ k → k ≤ 12 → sumM y j ≤ sumM y k
  | j, k, h, hk => by
    induction k with
    | zero => have : j = 0 := by omega
              subst this; exact Int.le_refl _
    | succ k ih =>
      by_cases e : j = k + 1
      · subst e; exact Int.le_refl _
      · have := ih (by omega) (by omega)
        have := (month_pos (m := (k : Int) + 1) h0 (by omega) (by omega)).1
        simp only [sumM]; omega
/-- A day's number, or an error. -/
def dayOf (y m d : Int) : Int × Int :=
  if y < 1 ∨ y > 9999 ∨ m < 1 ∨ m > 12 ∨ d < 1 ∨ d > monthP y m then (0, 13) else (-719162 + yearsP y + d - 1 + sumM y (m - 1).toNat, 0)
theorem dayOf_range {y m d : Int} (h : (dayOf y m d).2 = 0) : -719162 ≤ (dayOf y m d).1 ∧ (dayOf y m d).1 ≤ 2932896 := by
  unfold dayOf at h ⊢
  split at h
  · cases h
  rename_i hc
  rw [if_neg hc]
  have h1 : 1 ≤ y ∧ y ≤ 9999 ∧ 1 ≤ m ∧ m ≤ 12 ∧ 1 ≤ d ∧ d ≤ monthP y m := by omega
  obtain ⟨h1, h2, h3, h4, h5, h6⟩ := h1
  have hb := years_bound (y := y) h1 (by omega)
  have hs := years_step (y := y) h1
  have hb2 := years_bound (y := y + 1) (by omega) (by omega)
  have m0 := sumM_mono (y := y) (by omega) (Nat.zero_le (m - 1).toNat) (by omega)
  have m1 := sumM_mono (y := y) (j := (m - 1).toNat + 1) (k := 12) (by omega) (by omega) (by omega)
  have e : ((m - 1).toNat : Int) + 1 = m := by omega
  rw [sumM_12 y (by omega)] at m1
  simp only [sumM, e] at m1
  have : sumM y 0 = 0 := rfl
  dsimp only
  omega
end Go.Ex
