/- A part of the proof: contracts of functions, by a verified generator of conditions; no condition of its own. -/
import Derived.Test.YtmieillgepoaeaaGreatDoorQ3
namespace Go.Ex
structure WN where
  k : Int
  arg : List EX
  part : List EX
  keys : List EX
  desc : List (List Go.Dm.D)
  frame : List BX
  n : Int
abbrev WN.cs (w : WN) : List Go.Dm.D := [.v (.int .i64 w.k), .sl (cellsL w.arg), .sl (cellsL w.part), .sl (cellsL w.keys), .sl w.desc, .sl (w.frame.map BX.cs), .v (.int .i64 w.n)]
end Go.Ex
namespace Go.Proofs.Tryz
open Go Go.Dm Go.Ex
set_option maxRecDepth 100000
variable {gl : Nat → Option Obj}
def C_q4 : CallT := addC (addC (addC (addC C_q166 18 c_84) 19 c_85) 20 c_80) 53 c_168
theorem C_q4_ok : CallsOk prog gl C_q4 := addC_ok (addC_ok (addC_ok (addC_ok C_q166_ok c_84_ok) c_85_ok) c_80_ok) c_168_ok
/-- mayWin. -/
def mayTail (w : WN) (b : Bool) : Bool := bif bif bif bif bif b then ((w.desc.length : Int)) == (((cellsL w.keys).length : Int)) else false then decide (w.n ≥ 0) else false then bif w.n == 0 then true else bif w.k == 8 then true else w.k == 9 else false then okFrame w.frame else false then bif (((w.frame.map BX.cs).length : Int)) == 0 then true else bif !bif decide (w.k ≥ 5) then decide (w.k ≤ 7) else false then !bif w.k == 8 then true else w.k == 9 else false else false
def mayBase (w : WN) : Bool := bif bif decide (w.k ≥ 1) then decide (w.k ≤ 9) else false then decide ((((cellsL w.arg).length : Int)) ≤ 1) else false
def mayWinB (w : WN) : Bool := mayTail w (bif bif decide (w.k ≥ 5) then decide (w.k ≤ 7) else false then (bif mayBase w then (((cellsL w.arg).length : Int)) == 0 else false) else bif w.k != 1 then (bif mayBase w then (((cellsL w.arg).length : Int)) == 1 else false) else mayBase w)
theorem mayWin_iff (w : WN) : mayWinB w = true ↔ (1 ≤ w.k ∧ w.k ≤ 9 ∧ w.arg.length ≤ 1 ∧ (5 ≤ w.k ∧ w.k ≤ 7 → w.arg.length = 0) ∧ (¬ (5 ≤ w.k ∧ w.k ≤ 7) → w.k ≠ 1 → w.arg.length = 1)) ∧ w.desc.length = w.keys.length ∧ 0 ≤ w.n ∧ (w.n = 0 ∨ w.k = 8 ∨ w.k = 9) ∧ okFrame w.frame = true ∧ (w.frame.length = 0 ∨ (¬ (5 ≤ w.k ∧ w.k ≤ 7) ∧ w.k ≠ 8 ∧ w.k ≠ 9)) := by
  have tail : ∀ b, mayTail w b = true ↔ b = true ∧ w.desc.length = w.keys.length ∧ 0 ≤ w.n ∧ (w.n = 0 ∨ w.k = 8 ∨ w.k = 9) ∧ okFrame w.frame = true ∧ (w.frame.length = 0 ∨ (¬ (5 ≤ w.k ∧ w.k ≤ 7) ∧ w.k ≠ 8 ∧ w.k ≠ 9)) := by
    intro b
    unfold mayTail
    simp only [Bool.cond_true_left, Bool.cond_false_right, Bool.and_eq_true, Bool.or_eq_true, decide_eq_true_eq, beq_iff_eq, cellsL_len, List.length_map, Bool.not_eq_true', Bool.and_eq_false_imp, Bool.or_eq_false_iff, decide_eq_false_iff_not, beq_eq_false_iff_ne]
    constructor
    · rintro ⟨⟨⟨⟨⟨h1, h2⟩, h3⟩, h4⟩, h5⟩, h6⟩
      exact ⟨h1, by omega, h3, h4, h5, by rcases h6 with h6 | ⟨h6, h7⟩; exact .inl (by omega); exact .inr ⟨fun hh => h6 hh.1 hh.2, h7⟩⟩
    · rintro ⟨h1, h2, h3, h4, h5, h6⟩
      exact ⟨⟨⟨⟨⟨h1, by omega⟩, h3⟩, h4⟩, h5⟩, by rcases h6 with h6 | ⟨h6, h7⟩; exact .inl (by omega); exact .inr ⟨fun hh hh2 => h6 ⟨hh, hh2⟩, h7⟩⟩
  have base : mayBase w = true ↔ 1 ≤ w.k ∧ w.k ≤ 9 ∧ w.arg.length ≤ 1 := by
    unfold mayBase
    simp only [Bool.cond_false_right, Bool.and_eq_true, decide_eq_true_eq, cellsL_len]
    omega
  unfold mayWinB
  rw [tail]
  refine and_congr ?_ Iff.rfl
  by_cases h5 : 5 ≤ w.k ∧ w.k ≤ 7
  · have e : (bif decide (w.k ≥ 5) then decide (w.k ≤ 7) else false) = true := by simp only [Bool.cond_false_right, Bool.and_eq_true, decide_eq_true_eq]; exact h5
    rw [e, cond_true]
    simp only [Bool.cond_false_right, Bool.and_eq_true, base, beq_iff_eq, cellsL_len]
    omega
  · have e : (bif decide (w.k ≥ 5) then decide (w.k ≤ 7) else false) = false := by
      rw [Bool.eq_false_iff]
      intro h
      simp only [Bool.cond_false_right, Bool.and_eq_true, decide_eq_true_eq] at h
      exact h5 h
    rw [e, cond_false]
    by_cases h1 : w.k = 1
    · have e1 : (w.k != 1) = false := by rw [h1]; rfl
      rw [e1, cond_false, base]
      omega
    · have e1 : (w.k != 1) = true := by simpa using h1
      rw [e1, cond_true]
      simp only [Bool.cond_false_right, Bool.and_eq_true, base, beq_iff_eq, cellsL_len]
      omega
theorem vc86 (w : WN) (Q : List R → List (List D) → Prop) : vc E_0 C_q4 noI fi21 (f21.body.getD .skip) f21.results.toList [.agg w.cs] Q = ( ∃ (es : List (List D)), D.sl (cellsL w.2) = D.sl es ∧ ((bif decide (w.1 ≥ (5 : Int)) then decide (w.1 ≤ (7 : Int)) else false) = true → ∃ (es_1 : List (List D)), D.sl w.5 = D.sl es_1 ∧ ∃ (es_2 : List (List D)), D.sl (cellsL w.4) = D.sl es_2 ∧ ∃ (l : List BX), List.map BX.cs w.6 = List.map BX.cs l ∧ l.length < (4611686018427387904 : Nat) ∧ ∃ (es_3 : List (List D)), D.sl (List.map BX.cs w.6) = D.sl es_3 ∧ Q [.d (.v (.bool (bif bif bif bif bif bif bif bif decide (w.1 ≥ (1 : Int)) then decide (w.1 ≤ (9 : Int)) else false then decide ((↑es.length : Int) ≤ (1 : Int)) else false then (↑es.length : Int) == (0 : Int) else false then (↑es_1.length : Int) == (↑es_2.length : Int) else false then decide (w.7 ≥ (0 : Int)) else false then bif w.7 == (0 : Int) then true else bif w.1 == (8 : Int) then true else w.1 == (9 : Int) else false then okFrame l else false then bif (↑es_3.length : Int) == (0 : Int) then true else bif !bif decide (w.1 ≥ (5 : Int)) then decide (w.1 ≤ (7 : Int)) else false then !bif w.1 == (8 : Int) then true else w.1 == (9 : Int) else false else false)))] []) ∧ ((bif decide (w.1 ≥ (5 : Int)) then decide (w.1 ≤ (7 : Int)) else false) = false → ((w.1 != (1 : Int)) = true → ∃ (es_1 : List (List D)), D.sl w.5 = D.sl es_1 ∧ ∃ (es_2 : List (List D)), D.sl (cellsL w.4) = D.sl es_2 ∧ ∃ (l : List BX), List.map BX.cs w.6 = List.map BX.cs l ∧ l.length < (4611686018427387904 : Nat) ∧ ∃ (es_3 : List (List D)), D.sl (List.map BX.cs w.6) = D.sl es_3 ∧ Q [.d (.v (.bool (bif bif bif bif bif bif bif bif decide (w.1 ≥ (1 : Int)) then decide (w.1 ≤ (9 : Int)) else false then decide ((↑es.length : Int) ≤ (1 : Int)) else false then (↑es.length : Int) == (1 : Int) else false then (↑es_1.length : Int) == (↑es_2.length : Int) else false then decide (w.7 ≥ (0 : Int)) else false then bif w.7 == (0 : Int) then true else bif w.1 == (8 : Int) then true else w.1 == (9 : Int) else false then okFrame l else false then bif (↑es_3.length : Int) == (0 : Int) then true else bif !bif decide (w.1 ≥ (5 : Int)) then decide (w.1 ≤ (7 : Int)) else false then !bif w.1 == (8 : Int) then true else w.1 == (9 : Int) else false else false)))] []) ∧ ((w.1 != (1 : Int)) = false → ∃ (es_1 : List (List D)), D.sl w.5 = D.sl es_1 ∧ ∃ (es_2 : List (List D)), D.sl (cellsL w.4) = D.sl es_2 ∧ ∃ (l : List BX), List.map BX.cs w.6 = List.map BX.cs l ∧ l.length < (4611686018427387904 : Nat) ∧ ∃ (es_3 : List (List D)), D.sl (List.map BX.cs w.6) = D.sl es_3 ∧ Q [.d (.v (.bool (bif bif bif bif bif bif bif decide (w.1 ≥ (1 : Int)) then decide (w.1 ≤ (9 : Int)) else false then decide ((↑es.length : Int) ≤ (1 : Int)) else false then (↑es_1.length : Int) == (↑es_2.length : Int) else false then decide (w.7 ≥ (0 : Int)) else false then bif w.7 == (0 : Int) then true else bif w.1 == (8 : Int) then true else w.1 == (9 : Int) else false then okFrame l else false then bif (↑es_3.length : Int) == (0 : Int) then true else bif !bif decide (w.1 ≥ (5 : Int)) then decide (w.1 ≤ (7 : Int)) else false then !bif w.1 == (8 : Int) then true else w.1 == (9 : Int) else false else false)))] []))) := by kernel_rfl
theorem ct86 (w : WN) (hl : w.frame.length < 4611686018427387904) : Ct prog gl 21 [.agg w.cs] (gives [.d (.v (.bool (mayWinB w)))]) := by
  refine ct_of_vc E_ok C_q4_ok ioK_no it_ok mixed (fn := f21) (body := f21.body.getD .skip) (by kernel_rfl) (by kernel_rfl) (by kernel_rfl) (fi := fi21) (by kernel_rfl) (by kernel_rfl) ⟨_, _, rfl, rfl⟩ ?_
  rw [vc86]
  refine ⟨_, rfl, fun h5 => ⟨_, rfl, _, rfl, w.frame, rfl, hl, _, rfl, ?_⟩, fun h5 => ⟨fun h1 => ⟨_, rfl, _, rfl, w.frame, rfl, hl, _, rfl, ?_⟩, fun h1 => ⟨_, rfl, _, rfl, w.frame, rfl, hl, _, rfl, ?_⟩⟩⟩
  · have e : mayWinB w = mayTail w (bif mayBase w then (((cellsL w.arg).length : Int)) == 0 else false) := by unfold mayWinB; rw [h5]; rfl
    rw [e]
    exact ⟨rfl, rfl⟩
  · have e : mayWinB w = mayTail w (bif mayBase w then (((cellsL w.arg).length : Int)) == 1 else false) := by unfold mayWinB; rw [h5, h1]; rfl
    rw [e]
    exact ⟨rfl, rfl⟩
  · have e : mayWinB w = mayTail w (mayBase w) := by unfold mayWinB; rw [h5, h1]; rfl
    rw [e]
    exact ⟨rfl, rfl⟩
def c_86 (a : List R) (K : List R → List (List D) → Prop) : Prop := match a with
  | [.agg x] => ∃ w : WN, x = w.cs ∧ w.frame.length < 4611686018427387904 ∧ K [.d (.v (.bool (mayWinB w)))] []
  | _ => False
theorem c_86_ok (a : List R) (K : List R → List (List D) → Prop) (h : c_86 a K) : Ct prog gl 21 a K := by
  unfold c_86 at h
  split at h
  · obtain ⟨w, rfl, h1, h2⟩ := h
    exact (ct86 w h1).gives h2
  · exact h.elim
end Go.Proofs.Tryz
namespace Go.Proofs.Tryz
open Go Go.Dm Go.Ex
set_option maxRecDepth 100000
variable {gl : Nat → Option Obj}
def allW (w : WN) : List EX := w.arg ++ (w.part ++ w.keys)
/-- The type of a window's value, before the test of sums. -/
def tyW (w : WN) (cols : List Ty) : Ty := bif ((w.arg.length : Int) == 1) && w.k != 1 then (tysL cols (allW w)).headD ⟨2, 0⟩ else ⟨2, 0⟩
def tyAt (w : WN) (cols : List Ty) (x : Nat) : Ty := bif ((x : Int)) == 0 then ⟨2, 0⟩ else tyW w cols
/-- WinType. -/
def winT (w : WN) (cols : List Ty) : Ty × Int := bif !mayWinB w then (⟨0, 0⟩, 184) else bif errL cols (allW w) != 0 then (⟨0, 0⟩, errL cols (allW w)) else bif w.k == 2 && !numT (tyW w cols) then (⟨0, 0⟩, 21) else (tyW w cols, 0)
def cellsW (w : WN) : List (List D) := cellsL w.arg ++ cellsL w.part ++ cellsL w.keys
theorem cellsW_eq (w : WN) : cellsW w = cellsL (allW w) := by unfold cellsW allW; rw [cellsL_append, cellsL_append, List.append_assoc]
def C_q5 : CallT := addC C_q4 21 c_86
theorem C_q5_ok : CallsOk prog gl C_q5 := addC_ok C_q4_ok c_86_ok
theorem vc39 (w : WN) (cols : List Ty) (Q : List R → List (List D) → Prop) : vc E_0 C_q4 noI fi7 (f7.body.getD .skip) f7.results.toList [.agg w.cs, .d (.sl (cols.map Ty.cs))] Q = ( ∃ (es : List (List D)), D.sl (cellsL w.2) = D.sl es ∧ ((bif decide (w.1 < (1 : Int)) then true else decide (w.1 > (9 : Int))) = true → Q [.agg [.v (.int .i64 0), .v (.int .i64 0)], .d (.v (.int .i64 184))] []) ∧ ((bif decide (w.1 < (1 : Int)) then true else decide (w.1 > (9 : Int))) = false → (decide ((↑es.length : Int) > (1 : Int)) = true → Q [.agg [.v (.int .i64 0), .v (.int .i64 0)], .d (.v (.int .i64 184))] []) ∧ (decide ((↑es.length : Int) > (1 : Int)) = false → ((bif bif decide (w.1 ≥ (5 : Int)) then decide (w.1 ≤ (7 : Int)) else false then decide ((↑es.length : Int) > (0 : Int)) else false) = true → Q [.agg [.v (.int .i64 0), .v (.int .i64 0)], .d (.v (.int .i64 184))] []) ∧ ((bif bif decide (w.1 ≥ (5 : Int)) then decide (w.1 ≤ (7 : Int)) else false then decide ((↑es.length : Int) > (0 : Int)) else false) = false → ((bif bif (↑es.length : Int) == (0 : Int) then !bif decide (w.1 ≥ (5 : Int)) then decide (w.1 ≤ (7 : Int)) else false else false then w.1 != (1 : Int) else false) = true → Q [.agg [.v (.int .i64 0), .v (.int .i64 0)], .d (.v (.int .i64 184))] []) ∧ ((bif bif (↑es.length : Int) == (0 : Int) then !bif decide (w.1 ≥ (5 : Int)) then decide (w.1 ≤ (7 : Int)) else false else false then w.1 != (1 : Int) else false) = false → ∃ (es : List (List D)), D.sl w.5 = D.sl es ∧ ∃ (es_1 : List (List D)), D.sl (cellsL w.4) = D.sl es_1 ∧ (((↑es.length : Int) != (↑es_1.length : Int)) = true → Q [.agg [.v (.int .i64 0), .v (.int .i64 0)], .d (.v (.int .i64 184))] []) ∧ (((↑es.length : Int) != (↑es_1.length : Int)) = false → (decide (w.7 < (0 : Int)) = true → Q [.agg [.v (.int .i64 0), .v (.int .i64 0)], .d (.v (.int .i64 184))] []) ∧ (decide (w.7 < (0 : Int)) = false → ((bif decide (w.7 > (0 : Int)) then !bif w.1 == (8 : Int) then true else w.1 == (9 : Int) else false) = true → Q [.agg [.v (.int .i64 0), .v (.int .i64 0)], .d (.v (.int .i64 184))] []) ∧ ((bif decide (w.7 > (0 : Int)) then !bif w.1 == (8 : Int) then true else w.1 == (9 : Int) else false) = false → ∃ (l : List BX), List.map BX.cs w.6 = List.map BX.cs l ∧ l.length < (4611686018427387904 : Nat) ∧ ((!okFrame l) = true → Q [.agg [.v (.int .i64 0), .v (.int .i64 0)], .d (.v (.int .i64 184))] []) ∧ ((!okFrame l) = false → ∃ (es : List (List D)), D.sl (List.map BX.cs w.6) = D.sl es ∧ ((bif decide ((↑es.length : Int) > (0 : Int)) then bif bif decide (w.1 ≥ (5 : Int)) then decide (w.1 ≤ (7 : Int)) else false then true else bif w.1 == (8 : Int) then true else w.1 == (9 : Int) else false) = true → Q [.agg [.v (.int .i64 0), .v (.int .i64 0)], .d (.v (.int .i64 184))] []) ∧ ((bif decide ((↑es.length : Int) > (0 : Int)) then bif bif decide (w.1 ≥ (5 : Int)) then decide (w.1 ≤ (7 : Int)) else false then true else bif w.1 == (8 : Int) then true else w.1 == (9 : Int) else false) = false → ∃ (ls : List (List (List D))), [[D.sl (cellsL w.2)], [D.sl (cellsL w.3)], [D.sl (cellsL w.4)]] = encL2 ls ∧ okTot ls ((104 : Nat)) ∧ (∀ (l : List (List D)), l ∈ ls → ∀ (c : List D), c ∈ l → c.length = (10 : Nat)) ∧ ∃ (l : List EX), ∃ (cols_1 : List Ty), ls.flatten = cellsL l ∧ List.map Ty.cs cols = List.map Ty.cs cols_1 ∧ fitsL l ∧ l.length ≤ (1353245080300 : Nat) ∧ cols_1.length ≤ (1353245080300 : Nat) ∧ ∀ (r : List Ty) (f : Int), f = errL cols_1 l → (f = (0 : Int) → r = tysL cols_1 l) → (f ≠ (0 : Int) → r = []) → ((f != (0 : Int)) = true → Q [.agg [.v (.int .i64 0), .v (.int .i64 0)], .d (.v (.int .i64 f))] []) ∧ ((f != (0 : Int)) = false → ((w.1 == (2 : Int)) = true → ∃ (es : List (List D)), D.sl (List.map Ty.cs r) = D.sl es ∧ ((0 : Int) ≤ (0 : Int) ∧ (0 : Int) < (↑es.length : Int)) ∧ ∃ (cells : List D), es[Int.toNat (0 : Int)]? = some cells ∧ cells.length = (2 : Nat) ∧ ∃ (n : Int), ∃ (n_1 : Int), cut ((0 : Nat)) ((2 : Nat)) cells = some [D.v (Value.int .i64 n), D.v (Value.int .i64 n_1)] ∧ ((!s82_0 n n_1) = true → Q [.agg [.v (.int .i64 0), .v (.int .i64 0)], .d (.v (.int .i64 21))] []) ∧ ((!s82_0 n n_1) = false → ((bif bif decide (w.1 ≥ (5 : Int)) then decide (w.1 ≤ (7 : Int)) else false then true else w.1 == (1 : Int)) = true → Q [.agg [.v (.int .i64 2), .v (.int .i64 0)], .d (.v (.int .i64 0))] []) ∧ ((bif bif decide (w.1 ≥ (5 : Int)) then decide (w.1 ≤ (7 : Int)) else false then true else w.1 == (1 : Int)) = false → ∃ (es : List (List D)), D.sl (List.map Ty.cs r) = D.sl es ∧ ((0 : Int) ≤ (0 : Int) ∧ (0 : Int) < (↑es.length : Int)) ∧ ∃ (cells : List D), es[Int.toNat (0 : Int)]? = some cells ∧ cells.length = (2 : Nat) ∧ ∃ (n : Int), ∃ (n_2 : Int), cut ((0 : Nat)) ((2 : Nat)) cells = some [D.v (Value.int .i64 n), D.v (Value.int .i64 n_2)] ∧ Q [.agg [.v (.int .i64 n), .v (.int .i64 n_2)], .d (.v (.int .i64 0))] []))) ∧ ((w.1 == (2 : Int)) = !true → (false = true → Q [.agg [.v (.int .i64 0), .v (.int .i64 0)], .d (.v (.int .i64 21))] []) ∧ (false = false → ((bif bif decide (w.1 ≥ (5 : Int)) then decide (w.1 ≤ (7 : Int)) else false then true else w.1 == (1 : Int)) = true → Q [.agg [.v (.int .i64 2), .v (.int .i64 0)], .d (.v (.int .i64 0))] []) ∧ ((bif bif decide (w.1 ≥ (5 : Int)) then decide (w.1 ≤ (7 : Int)) else false then true else w.1 == (1 : Int)) = false → ∃ (es : List (List D)), D.sl (List.map Ty.cs r) = D.sl es ∧ ((0 : Int) ≤ (0 : Int) ∧ (0 : Int) < (↑es.length : Int)) ∧ ∃ (cells : List D), es[Int.toNat (0 : Int)]? = some cells ∧ cells.length = (2 : Nat) ∧ ∃ (n : Int), ∃ (n_1 : Int), cut ((0 : Nat)) ((2 : Nat)) cells = some [D.v (Value.int .i64 n), D.v (Value.int .i64 n_1)] ∧ Q [.agg [.v (.int .i64 n), .v (.int .i64 n_1)], .d (.v (.int .i64 0))] [])))))))))))))) := by kernel_rfl
def st_40 (w : WN) (cols : List Ty) (x : Nat) : St := { tm := [(1, .d (.sl (cols.map Ty.cs))), (2, .ref 2 0), (4, .ref 4 0), (5, .d (.v (.int .i64 0))), (6, .own 17), (7, .ref 7 0), (8, .d (.v (.int .i64 (x : Int))))], hp := [(2, .box [.d (.v (.int .i64 w.k)), .d (.sl (cellsL w.arg)), .d (.sl (cellsL w.part)), .d (.sl (cellsL w.keys)), .d (.sl w.desc), .d (.sl (w.frame.map BX.cs)), .d (.v (.int .i64 w.n))]), (4, .box [.d (.v (.int .i64 0)), .d (.v (.int .i64 0))]), (7, .box [.d (.v (.int .i64 (tyAt w cols x).k)), .d (.v (.int .i64 (tyAt w cols x).sc))]), (17, .lst 43 10 (cellsW w))], kn := [], gd := [] }
def inv_40 (w : WN) (cols : List Ty) (m : Nat) (x : Nat) : Prop := (x ≤ (allW w).length ∧ m = (allW w).length - x) ∧ errL cols ((allW w).take x) = 0
def fx_40 (w : WN) (cols : List Ty) : Fi := { fi8 with lx := [(7, { X := Nat, sh := st_40 w cols, P := fun _ => inv_40 w cols })] }
theorem vc40 (w : WN) (cols : List Ty) (Q : List R → List (List D) → Prop) : vc E_0 C_q5 noI (fx_40 w cols) (f8.body.getD .skip) f8.results.toList [.agg w.cs, .d (.sl (cols.map Ty.cs))] Q = ( ∃ (w_1 : WN), [D.v (Value.int .i64 w.1), D.sl (cellsL w.2), D.sl (cellsL w.3), D.sl (cellsL w.4), D.sl w.5, D.sl (List.map BX.cs w.6), D.v (Value.int .i64 w.7)] = w_1.cs ∧ w_1.6.length < (4611686018427387904 : Nat) ∧ ((!mayWinB w_1) = true → Q [.agg [.v (.int .i64 0), .v (.int .i64 0)], .d (.v (.int .i64 184))] []) ∧ ((!mayWinB w_1) = false → ∃ (es : List (List D)), D.sl (cellsL w.2) = D.sl es ∧ (∀ (c : List D), c ∈ es → c.length = (10 : Nat)) ∧ (↑es.length : Int) * (↑((104 : Nat)) : Int) ≤ (140737488355328 : Int) ∧ ∃ (es_1 : List (List D)), D.sl (cellsL w.3) = D.sl es_1 ∧ (∀ (c : List D), c ∈ es_1 → c.length = (10 : Nat)) ∧ (43 : Nat) = (43 : Nat) ∧ (10 : Nat) = (10 : Nat) ∧ (↑(es.length.add es_1.length) : Int) * (↑((104 : Nat)) : Int) ≤ (140737488355328 : Int) ∧ ∃ (es_2 : List (List D)), D.sl (cellsL w.4) = D.sl es_2 ∧ (∀ (c : List D), c ∈ es_2 → c.length = (10 : Nat)) ∧ (43 : Nat) = (43 : Nat) ∧ (10 : Nat) = (10 : Nat) ∧ (↑((es ++ es_1).length.add es_2.length) : Int) * (↑((104 : Nat)) : Int) ≤ (140737488355328 : Int) ∧ ∃ (x0 : { X := Nat, sh := st_40 w cols, P := fun (x : Nat) => inv_40 w cols : LX }.X), ({ tm := [((1 : Nat), V.d (D.sl (List.map Ty.cs cols))), ((2 : Nat), V.ref ((2 : Nat)) ((0 : Nat))), ((4 : Nat), V.ref ((4 : Nat)) ((0 : Nat))), ((5 : Nat), V.d (D.v (Value.int .i64 0))), ((6 : Nat), V.own ((17 : Nat))), ((7 : Nat), V.ref ((7 : Nat)) ((0 : Nat))), ((8 : Nat), V.d (D.v (Value.int .i64 0)))], hp := [((2 : Nat), B.box [V.d (D.v (Value.int .i64 w.1)), V.d (D.sl (cellsL w.2)), V.d (D.sl (cellsL w.3)), V.d (D.sl (cellsL w.4)), V.d (D.sl w.5), V.d (D.sl (List.map BX.cs w.6)), V.d (D.v (Value.int .i64 w.7))]), ((4 : Nat), B.box [V.d (D.v (Value.int .i64 0)), V.d (D.v (Value.int .i64 0))]), ((7 : Nat), B.box [V.d (D.v (Value.int .i64 2)), V.d (D.v (Value.int .i64 0))]), ((17 : Nat), B.lst ((43 : Nat)) ((10 : Nat)) (es ++ es_1 ++ es_2))], kn := [], gd := [] : St } = { tm := [((1 : Nat), V.d (D.sl (List.map Ty.cs cols))), ((2 : Nat), V.ref ((2 : Nat)) ((0 : Nat))), ((4 : Nat), V.ref ((4 : Nat)) ((0 : Nat))), ((5 : Nat), V.d (D.v (Value.int .i64 0))), ((6 : Nat), V.own ((17 : Nat))), ((7 : Nat), V.ref ((7 : Nat)) ((0 : Nat))), ((8 : Nat), V.d (D.v (Value.int .i64 (↑x0 : Int))))], hp := [((2 : Nat), B.box [V.d (D.v (Value.int .i64 w.1)), V.d (D.sl (cellsL w.2)), V.d (D.sl (cellsL w.3)), V.d (D.sl (cellsL w.4)), V.d (D.sl w.5), V.d (D.sl (List.map BX.cs w.6)), V.d (D.v (Value.int .i64 w.7))]), ((4 : Nat), B.box [V.d (D.v (Value.int .i64 0)), V.d (D.v (Value.int .i64 0))]), ((7 : Nat), B.box [V.d (D.v (Value.int .i64 (tyAt w cols x0).1)), V.d (D.v (Value.int .i64 (tyAt w cols x0).2))]), ((17 : Nat), B.lst ((43 : Nat)) ((10 : Nat)) (cellsW w))], kn := [], gd := [] : St } ∧ ∃ (n : Nat), inv_40 w cols n x0) ∧ ∀ (n : Nat) (x : { X := Nat, sh := st_40 w cols, P := fun (x : Nat) => inv_40 w cols : LX }.X), inv_40 w cols n x → (decide ((↑x : Int) < (↑(cellsW w).length : Int)) = true → ((0 : Int) ≤ (↑x : Int) ∧ (↑x : Int) < (↑(cellsW w).length : Int)) ∧ (10 : Nat) = (10 : Nat) ∧ ∃ (cells : List D), (cellsW w)[(↑x : Int).toNat]? = some cells ∧ ∃ (n_1 : Int), ∃ (n_2 : Int), ∃ (n_3 : Int), ∃ (n_4 : Int), ∃ (n_5 : Int), ∃ (n_6 : Int), ∃ (b : Bool), ∃ (n_7 : Int), ∃ (b_1 : ByteArray), ∃ (es : List (List D)), cut ((0 : Nat)) ((10 : Nat)) cells = some [D.v (Value.int .i64 n_1), D.v (Value.int .i64 n_2), D.v (Value.int .i64 n_3), D.v (Value.int .i64 n_4), D.v (Value.int .i64 n_5), D.v (Value.int .i64 n_6), D.v (Value.bool b), D.v (Value.int .i64 n_7), D.v (Value.string b_1), D.sl es] ∧ ∃ (e : EX), ∃ (cols_1 : List Ty), [D.v (Value.int .i64 n_1), D.v (Value.int .i64 n_2), D.v (Value.int .i64 n_3), D.v (Value.int .i64 n_4), D.v (Value.int .i64 n_5), D.v (Value.int .i64 n_6), D.v (Value.bool b), D.v (Value.int .i64 n_7), D.v (Value.string b_1), D.sl es] = Ex.cells e ∧ List.map Ty.cs cols = List.map Ty.cs cols_1 ∧ fits e ∧ cols_1.length ≤ (1353245080300 : Nat) ∧ ∀ (t : Ty) (f : Int), checkE cols_1 e = (t, f) → ((f != (0 : Int)) = true → Q [.agg [.v (.int .i64 0), .v (.int .i64 0)], .d (.v (.int .i64 f))] []) ∧ ((f != (0 : Int)) = false → ∃ (es : List (List D)), D.sl (cellsL w.2) = D.sl es ∧ ((bif bif (↑x : Int) == (0 : Int) then (↑es.length : Int) == (1 : Int) else false then w.1 != (1 : Int) else false) = true → ∃ (m : Nat), ∃ (x' : { X := Nat, sh := st_40 w cols, P := fun (x : Nat) => inv_40 w cols : LX }.X), m < n ∧ { tm := [((1 : Nat), V.d (D.sl (List.map Ty.cs cols))), ((2 : Nat), V.ref ((2 : Nat)) ((0 : Nat))), ((4 : Nat), V.ref ((4 : Nat)) ((0 : Nat))), ((5 : Nat), V.d (D.v (Value.int .i64 0))), ((6 : Nat), V.own ((17 : Nat))), ((7 : Nat), V.ref ((7 : Nat)) ((0 : Nat))), ((8 : Nat), V.d (D.v (Value.int .i64 (IntKind.i64.wrap ((↑x : Int) + (1 : Int))))))], hp := [((2 : Nat), B.box [V.d (D.v (Value.int .i64 w.1)), V.d (D.sl (cellsL w.2)), V.d (D.sl (cellsL w.3)), V.d (D.sl (cellsL w.4)), V.d (D.sl w.5), V.d (D.sl (List.map BX.cs w.6)), V.d (D.v (Value.int .i64 w.7))]), ((4 : Nat), B.box [V.d (D.v (Value.int .i64 0)), V.d (D.v (Value.int .i64 0))]), ((7 : Nat), B.box [V.d (D.v (Value.int .i64 t.1)), V.d (D.v (Value.int .i64 t.2))]), ((17 : Nat), B.lst ((43 : Nat)) ((10 : Nat)) (cellsW w))], kn := [], gd := [] : St } = { tm := [((1 : Nat), V.d (D.sl (List.map Ty.cs cols))), ((2 : Nat), V.ref ((2 : Nat)) ((0 : Nat))), ((4 : Nat), V.ref ((4 : Nat)) ((0 : Nat))), ((5 : Nat), V.d (D.v (Value.int .i64 0))), ((6 : Nat), V.own ((17 : Nat))), ((7 : Nat), V.ref ((7 : Nat)) ((0 : Nat))), ((8 : Nat), V.d (D.v (Value.int .i64 (↑x' : Int))))], hp := [((2 : Nat), B.box [V.d (D.v (Value.int .i64 w.1)), V.d (D.sl (cellsL w.2)), V.d (D.sl (cellsL w.3)), V.d (D.sl (cellsL w.4)), V.d (D.sl w.5), V.d (D.sl (List.map BX.cs w.6)), V.d (D.v (Value.int .i64 w.7))]), ((4 : Nat), B.box [V.d (D.v (Value.int .i64 0)), V.d (D.v (Value.int .i64 0))]), ((7 : Nat), B.box [V.d (D.v (Value.int .i64 (tyAt w cols x').1)), V.d (D.v (Value.int .i64 (tyAt w cols x').2))]), ((17 : Nat), B.lst ((43 : Nat)) ((10 : Nat)) (cellsW w))], kn := [], gd := [] : St } ∧ inv_40 w cols m x') ∧ ((bif bif (↑x : Int) == (0 : Int) then (↑es.length : Int) == (1 : Int) else false then w.1 != (1 : Int) else false) = false → ∃ (m : Nat), ∃ (x' : { X := Nat, sh := st_40 w cols, P := fun (x : Nat) => inv_40 w cols : LX }.X), m < n ∧ { tm := [((1 : Nat), V.d (D.sl (List.map Ty.cs cols))), ((2 : Nat), V.ref ((2 : Nat)) ((0 : Nat))), ((4 : Nat), V.ref ((4 : Nat)) ((0 : Nat))), ((5 : Nat), V.d (D.v (Value.int .i64 0))), ((6 : Nat), V.own ((17 : Nat))), ((7 : Nat), V.ref ((7 : Nat)) ((0 : Nat))), ((8 : Nat), V.d (D.v (Value.int .i64 (IntKind.i64.wrap ((↑x : Int) + (1 : Int))))))], hp := [((2 : Nat), B.box [V.d (D.v (Value.int .i64 w.1)), V.d (D.sl (cellsL w.2)), V.d (D.sl (cellsL w.3)), V.d (D.sl (cellsL w.4)), V.d (D.sl w.5), V.d (D.sl (List.map BX.cs w.6)), V.d (D.v (Value.int .i64 w.7))]), ((4 : Nat), B.box [V.d (D.v (Value.int .i64 0)), V.d (D.v (Value.int .i64 0))]), ((7 : Nat), B.box [V.d (D.v (Value.int .i64 (tyAt w cols x).1)), V.d (D.v (Value.int .i64 (tyAt w cols x).2))]), ((17 : Nat), B.lst ((43 : Nat)) ((10 : Nat)) (cellsW w))], kn := [], gd := [] : St } = { tm := [((1 : Nat), V.d (D.sl (List.map Ty.cs cols))), ((2 : Nat), V.ref ((2 : Nat)) ((0 : Nat))), ((4 : Nat), V.ref ((4 : Nat)) ((0 : Nat))), ((5 : Nat), V.d (D.v (Value.int .i64 0))), ((6 : Nat), V.own ((17 : Nat))), ((7 : Nat), V.ref ((7 : Nat)) ((0 : Nat))), ((8 : Nat), V.d (D.v (Value.int .i64 (↑x' : Int))))], hp := [((2 : Nat), B.box [V.d (D.v (Value.int .i64 w.1)), V.d (D.sl (cellsL w.2)), V.d (D.sl (cellsL w.3)), V.d (D.sl (cellsL w.4)), V.d (D.sl w.5), V.d (D.sl (List.map BX.cs w.6)), V.d (D.v (Value.int .i64 w.7))]), ((4 : Nat), B.box [V.d (D.v (Value.int .i64 0)), V.d (D.v (Value.int .i64 0))]), ((7 : Nat), B.box [V.d (D.v (Value.int .i64 (tyAt w cols x').1)), V.d (D.v (Value.int .i64 (tyAt w cols x').2))]), ((17 : Nat), B.lst ((43 : Nat)) ((10 : Nat)) (cellsW w))], kn := [], gd := [] : St } ∧ inv_40 w cols m x'))) ∧ (decide ((↑x : Int) < (↑(cellsW w).length : Int)) = false → ((bif w.1 == (2 : Int) then !s83_0 (tyAt w cols x).1 (tyAt w cols x).2 else false) = true → Q [.agg [.v (.int .i64 0), .v (.int .i64 0)], .d (.v (.int .i64 21))] []) ∧ ((bif w.1 == (2 : Int) then !s83_0 (tyAt w cols x).1 (tyAt w cols x).2 else false) = false → Q [.agg [.v (.int .i64 (tyAt w cols x).1), .v (.int .i64 (tyAt w cols x).2)], .d (.v (.int .i64 0))] [])))) := by kernel_rfl
theorem tyAt_succ (w : WN) (cols : List Ty) (x : Nat) : tyAt w cols (x + 1) = tyW w cols := by
  unfold tyAt
  rw [show (((x + 1 : Nat) : Int) == 0) = false by simp; omega, cond_false]
theorem allW_len (w : WN) : (allW w).length = w.arg.length + (w.part.length + w.keys.length) := by unfold allW; simp
theorem tyW_head {w : WN} {cols : List Ty} (h : (bif (((cellsL w.arg).length : Int)) == 1 then w.k != 1 else false) = true) (h0 : 0 < (allW w).length) : tyW w cols = (checkE cols (allW w)[0]).1 := by
  simp only [Bool.cond_false_right, Bool.and_eq_true, cellsL_len] at h
  unfold tyW
  rw [h.1, h.2, Bool.and_self, cond_true]
  unfold tysL
  rw [List.headD_eq_head?_getD, List.head?_eq_getElem?, List.getElem?_map, List.getElem?_eq_getElem h0]
  rfl
theorem tyW_none {w : WN} {cols : List Ty} (h : (bif (((cellsL w.arg).length : Int)) == 1 then w.k != 1 else false) = false) : tyW w cols = ⟨2, 0⟩ := by
  simp only [Bool.cond_false_right, cellsL_len] at h
  unfold tyW
  rw [h, cond_false]
theorem ct40 (w : WN) (cols : List Ty) (hfl : w.frame.length < 4611686018427387904) (hf : fitsL (allW w)) (hl : (allW w).length ≤ 1353245080300) (hcl : cols.length ≤ 1353245080300) : Ct prog gl 8 [.agg w.cs, .d (.sl (cols.map Ty.cs))] (gives [.agg (winT w cols).1.cs, .d (.v (.int .i64 (winT w cols).2))]) := by
  refine ct_of_vc E_ok C_q5_ok ioK_no it_ok mixed (fn := f8) (body := f8.body.getD .skip) (by kernel_rfl) (by kernel_rfl) (by kernel_rfl) (fi := fx_40 w cols) (by kernel_rfl) (by kernel_rfl) ⟨_, _, rfl, rfl⟩ ?_
  rw [vc40]
  have hlen := allW_len w
  have hcw : (cellsW w).length = (allW w).length := by rw [cellsW_eq, cellsL_len]
  refine ⟨w, rfl, hfl, fun hm => ?_, fun hm => ?_⟩
  · unfold winT
    rw [hm]
    exact ⟨rfl, rfl⟩
  refine ⟨_, rfl, cellsL_all, by rw [cellsL_len]; omega, _, rfl, cellsL_all, rfl, rfl, ?_, _, rfl, cellsL_all, rfl, rfl, ?_, (0 : Nat), ⟨rfl, (allW w).length, ⟨Nat.zero_le _, rfl⟩, rfl⟩, fun m (x : Nat) hx => ⟨fun hi => ?_, fun hi => ?_⟩⟩
  · have : Nat.add (cellsL w.arg).length (cellsL w.part).length = w.arg.length + w.part.length := by rw [cellsL_len, cellsL_len]; rfl
    rw [this]; omega
  · have : Nat.add (cellsL w.arg ++ cellsL w.part).length (cellsL w.keys).length = w.arg.length + w.part.length + w.keys.length := by rw [List.length_append, cellsL_len, cellsL_len, cellsL_len]; rfl
    rw [this]; omega
  · have hi : x < (allW w).length := by rw [hcw] at hi; simpa using hi
    obtain ⟨op', sub', t', v', a', he, hget⟩ := arg_get hi
    have hm2 := hx.1.2
    refine ⟨⟨by omega, by rw [hcw]; omega⟩, rfl, _, by rw [cellsW_eq]; exact hget, op', sub', t'.k, t'.sc, v'.t.k, v'.t.sc, v'.nul, v'.n, v'.s, cellsL a', rfl, (allW w)[x], cols, by rw [he, cells_mk]; rfl, rfl, fitsL_mem hf (List.getElem_mem hi), hcl, fun t1 g1 hk => ⟨fun h => ?_, fun h => ?_⟩⟩
    · have hk2 : (checkE cols (allW w)[x]).2 = g1 := by rw [hk]
      have he := errL_at hi hx.2 (by rw [hk2]; exact h)
      unfold winT
      rw [hm, he, hk2, h]
      exact ⟨rfl, rfl⟩
    · have hk2 : (checkE cols (allW w)[x]).2 = 0 := by rw [hk]; simpa using h
      have hn : inv_40 w cols ((allW w).length - (x + 1)) (x + 1) := ⟨⟨hi, rfl⟩, by rw [errL_snoc hi hx.2, hk2]⟩
      refine ⟨_, rfl, fun hc => ⟨_, x + 1, by omega, ?_, hn⟩, fun hc => ⟨_, x + 1, by omega, ?_, hn⟩⟩
      · rw [wrap_next (by omega), tyAt_succ]
        simp only [Bool.cond_false_right, Bool.and_eq_true, beq_iff_eq] at hc
        obtain ⟨⟨hc0, hc1⟩, hc2⟩ := hc
        have hx0 : x = 0 := by omega
        subst hx0
        rw [tyW_head (by rw [hc1, hc2]; rfl) hi, hk]
      · rw [wrap_next (by omega), tyAt_succ]
        have : tyAt w cols x = tyW w cols := by
          match x, hc with
          | 0, hc => exact (tyW_none (by simpa using hc)).symm
          | x + 1, _ => exact tyAt_succ w cols x
        rw [this]
  · have hi : ¬ x < (allW w).length := by rw [hcw] at hi; simpa using hi
    have h2 := hx.2
    rw [List.take_of_length_le (by omega)] at h2
    have ht : tyAt w cols x = tyW w cols := by
      match x, hi with
      | 0, hi => exact (tyW_none (by
          have : w.arg.length = 0 := by omega
          rw [cellsL_len, this]; rfl)).symm
      | x + 1, _ => exact tyAt_succ w cols x
    rw [ht]
    have e : winT w cols = bif w.k == 2 && !numT (tyW w cols) then (⟨0, 0⟩, 21) else (tyW w cols, 0) := by
      unfold winT
      rw [hm, h2]
      rfl
    have en : (w.k == 2 && !numT (tyW w cols)) = (bif w.k == 2 then !s83_0 (tyW w cols).k (tyW w cols).sc else false) := by cases (w.k == 2) <;> rfl
    rw [e, en]
    refine ⟨fun h => ?_, fun h => ?_⟩
    · rw [h]; exact ⟨rfl, rfl⟩
    · rw [h]; exact ⟨rfl, rfl⟩
theorem ct39 (w : WN) (cols : List Ty) (hfl : w.frame.length < 4611686018427387904) (hf : fitsL (allW w)) (hl : (allW w).length ≤ 1353245080300) (hcl : cols.length ≤ 1353245080300) : Ct prog gl 7 [.agg w.cs, .d (.sl (cols.map Ty.cs))] (gives [.agg (winT w cols).1.cs, .d (.v (.int .i64 (winT w cols).2))]) := by
  refine ct_of_vc E_ok C_q4_ok ioK_no it_ok mixed (fn := f7) (body := f7.body.getD .skip) (by kernel_rfl) (by kernel_rfl) (by kernel_rfl) (fi := fi7) (by kernel_rfl) (by kernel_rfl) ⟨_, _, rfl, rfl⟩ ?_
  rw [vc39]
  have hlen := allW_len w
  have bad : (mayWinB w = true → False) → gives [.agg (winT w cols).1.cs, .d (.v (.int .i64 (winT w cols).2))] [R.agg [D.v (Value.int IntKind.i64 (0 : Int)), D.v (Value.int IntKind.i64 (0 : Int))], R.d (D.v (Value.int IntKind.i64 (184 : Int)))] [] := fun h => by
    have e : mayWinB w = false := by rw [Bool.eq_false_iff]; exact h
    unfold winT
    rw [e]
    exact ⟨rfl, rfl⟩
  refine ⟨_, rfl, fun h => bad fun hm => ?_, fun h1 => ⟨fun h => bad fun hm => ?_, fun h2 => ⟨fun h => bad fun hm => ?_, fun h3 => ⟨fun h => bad fun hm => ?_, fun h4 => ⟨_, rfl, _, rfl, fun h => bad fun hm => ?_, fun h5 => ⟨fun h => bad fun hm => ?_, fun h6 => ⟨fun h => bad fun hm => ?_, fun h7 => ⟨w.frame, rfl, hfl, fun h => bad fun hm => ?_, fun h8 => ⟨_, rfl, fun h => bad fun hm => ?_, fun h9 => ?_⟩⟩⟩⟩⟩⟩⟩⟩⟩
  case refine_8 =>
    obtain ⟨⟨a1, a2, a3, a4, a5⟩, b1, b2, b3, b4, b5⟩ := (mayWin_iff w).1 hm
    rw [b4] at h
    cases h
  case refine_10 =>
    have hm : mayWinB w = true := (mayWin_iff w).2 (by
      simp only [Bool.cond_true_left, Bool.cond_false_right, Bool.and_eq_true, Bool.or_eq_true, decide_eq_true_eq, beq_iff_eq, bne_iff_ne, Bool.not_eq_true', Bool.or_eq_false_iff, Bool.and_eq_false_imp, decide_eq_false_iff_not, beq_eq_false_iff_ne, bne_eq_false_iff_eq, Bool.not_eq_false', cellsL_len, List.length_map, ne_eq] at h1 h2 h3 h4 h5 h6 h7 h8 h9
      refine ⟨⟨by omega, by omega, by omega, by omega, by omega⟩, by omega, by omega, by omega, h8, by omega⟩)
    obtain ⟨⟨a1, a2, a3, a4, a5⟩, b1, b2, b3, b4, b5⟩ := (mayWin_iff w).1 hm
    have ha := cellsL_len w.arg
    have hp := cellsL_len w.part
    have hk := cellsL_len w.keys
    have ht : tot [cellsL w.arg, cellsL w.part, cellsL w.keys] = (allW w).length := by
      simp only [tot, List.map_cons, List.map_nil, List.sum_cons, List.sum_nil]; omega
    refine ⟨[cellsL w.arg, cellsL w.part, cellsL w.keys], rfl, ⟨by simp only [List.length_cons, List.length_nil]; decide, by rw [ht]; omega, by rw [ht]; omega⟩, ?_, allW w, cols, ?_, rfl, hf, hl, hcl, fun r g hg hg0 hg1 => ⟨fun h => ?_, fun h => ?_⟩⟩
    · intro l hl c hc
      simp only [List.mem_cons, List.not_mem_nil, or_false] at hl
      rcases hl with rfl | rfl | rfl <;> exact cellsL_all c hc
    · simp [allW, cellsL_append]
    · unfold winT
      rw [hm, ← hg, h]
      exact ⟨rfl, rfl⟩
    · have g0 : g = 0 := by simpa using h
      subst g0
      have hr := hg0 rfl
      subst hr
      have e : winT w cols = bif w.k == 2 && !numT (tyW w cols) then (⟨0, 0⟩, 21) else (tyW w cols, 0) := by
        unfold winT
        rw [hm, ← hg]
        rfl
      have hget : w.arg.length = 1 → w.k ≠ 1 → (List.map Ty.cs (tysL cols (allW w)))[Int.toNat 0]? = some (tyW w cols).cs := fun h1 hk1 => by
        have hpos : 0 < (allW w).length := by omega
        have := tyW_head (cols := cols) (w := w) (by rw [ha, h1]; simpa using hk1) hpos
        rw [this]
        show (List.map Ty.cs (tysL cols (allW w)))[0]? = _
        rw [List.getElem?_map]
        unfold tysL
        rw [List.getElem?_map, List.getElem?_eq_getElem hpos]
        rfl
      have hpos : w.arg.length = 1 → (0 : Int) < (((List.map Ty.cs (tysL cols (allW w))).length : Nat) : Int) := fun h1 => by
        have : (List.map Ty.cs (tysL cols (allW w))).length = (allW w).length := by simp [tysL]
        rw [this]; omega
      refine ⟨fun h2 => ?_, fun h2 => ⟨fun h => (by cases h), fun _ => ⟨fun hr => ?_, fun hr => ?_⟩⟩⟩
      · have hk2 : w.k = 2 := by simpa using h2
        have h1 := a5 (by omega) (by omega)
        have en : (w.k == 2 && !numT (tyW w cols)) = !s82_0 (tyW w cols).k (tyW w cols).sc := by rw [h2]; rfl
        refine ⟨_, rfl, ⟨by decide, hpos h1⟩, _, hget h1 (by omega), rfl, _, _, rfl, fun h => ?_, fun h => ⟨fun hr => ?_, fun _ => ⟨_, rfl, ⟨by decide, hpos h1⟩, _, hget h1 (by omega), rfl, _, _, rfl, ?_⟩⟩⟩
        · rw [e, en, h]; exact ⟨rfl, rfl⟩
        · simp only [Bool.cond_true_left, Bool.cond_false_right, Bool.and_eq_true, Bool.or_eq_true, decide_eq_true_eq, beq_iff_eq] at hr
          omega
        · rw [e, en, h]; exact ⟨rfl, rfl⟩
      · have hk2 : (w.k == 2) = false := h2
        have hty : tyW w cols = ⟨2, 0⟩ := tyW_none (by
          simp only [Bool.cond_true_left, Bool.cond_false_right, Bool.and_eq_true, Bool.or_eq_true, decide_eq_true_eq, beq_iff_eq] at hr
          rcases hr with hr | hr
          · rw [ha, a4 hr]; rfl
          · rw [hr]; cases ((((cellsL w.arg).length : Nat) : Int) == 1) <;> rfl)
        rw [e, hk2, hty]
        exact ⟨rfl, rfl⟩
      · have hk2 : (w.k == 2) = false := h2
        have hn : ¬ (5 ≤ w.k ∧ w.k ≤ 7) ∧ w.k ≠ 1 := by
          rw [Bool.eq_false_iff] at hr
          refine ⟨fun h => hr ?_, fun h => hr ?_⟩
          · simp only [Bool.cond_true_left, Bool.cond_false_right, Bool.and_eq_true, Bool.or_eq_true, decide_eq_true_eq, beq_iff_eq]
            exact .inl h
          · simp only [Bool.cond_true_left, Bool.cond_false_right, Bool.and_eq_true, Bool.or_eq_true, decide_eq_true_eq, beq_iff_eq]
            exact .inr h
        have h1 := a5 hn.1 hn.2
        refine ⟨_, rfl, ⟨by decide, hpos h1⟩, _, hget h1 hn.2, rfl, _, _, rfl, ?_⟩
        rw [e, hk2]
        exact ⟨rfl, rfl⟩
  all_goals
    obtain ⟨⟨a1, a2, a3, a4, a5⟩, b1, b2, b3, b4, b5⟩ := (mayWin_iff w).1 hm
    simp only [Bool.cond_true_left, Bool.cond_false_right, Bool.and_eq_true, Bool.or_eq_true, decide_eq_true_eq, beq_iff_eq, bne_iff_ne, Bool.not_eq_true', Bool.or_eq_false_iff, Bool.and_eq_false_imp, decide_eq_false_iff_not, beq_eq_false_iff_ne, bne_eq_false_iff_eq, Bool.not_eq_false', cellsL_len, List.length_map, ne_eq] at h
    omega
end Go.Proofs.Tryz
