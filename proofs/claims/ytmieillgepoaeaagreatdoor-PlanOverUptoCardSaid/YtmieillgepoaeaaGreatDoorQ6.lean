/- A part of the proof: contracts of functions, by a verified generator of conditions; no condition of its own. -/
import Derived.Test.YtmieillgepoaeaaGreatDoorQ5
import Derived.Test.YtmieillgepoaeaaGreatDoorBg18
namespace Go.Proofs.Tryz
open Go Go.Dm Go.Ex
set_option maxRecDepth 100000
variable {gl : Nat → Option Obj}
def c_39 (a : List R) (K : List R → List (List D) → Prop) : Prop := match a with
  | [.agg x, .d (.sl y)] => ∃ (w : WN) (cols : List Ty), x = w.cs ∧ y = cols.map Ty.cs ∧ w.frame.length < 4611686018427387904 ∧ fitsL (allW w) ∧ (allW w).length ≤ 1353245080300 ∧ cols.length ≤ 1353245080300 ∧ ∀ (t : Ty) (f : Int), winT w cols = (t, f) → K [.agg t.cs, .d (.v (.int .i64 f))] []
  | _ => False
theorem c_39_ok (a : List R) (K : List R → List (List D) → Prop) (h : c_39 a K) : Ct prog gl 7 a K := by
  unfold c_39 at h
  split at h
  · obtain ⟨w, cols, rfl, rfl, h1, h2, h3, h4, h5⟩ := h
    exact (ct39 w cols h1 h2 h3 h4).gives (h5 _ _ rfl)
  · exact h.elim
def c_40 (a : List R) (K : List R → List (List D) → Prop) : Prop := match a with
  | [.agg x, .d (.sl y)] => ∃ (w : WN) (cols : List Ty), x = w.cs ∧ y = cols.map Ty.cs ∧ w.frame.length < 4611686018427387904 ∧ fitsL (allW w) ∧ (allW w).length ≤ 1353245080300 ∧ cols.length ≤ 1353245080300 ∧ ∀ (t : Ty) (f : Int), winT w cols = (t, f) → K [.agg t.cs, .d (.v (.int .i64 f))] []
  | _ => False
theorem c_40_ok (a : List R) (K : List R → List (List D) → Prop) (h : c_40 a K) : Ct prog gl 8 a K := by
  unfold c_40 at h
  split at h
  · obtain ⟨w, cols, rfl, rfl, h1, h2, h3, h4, h5⟩ := h
    exact (ct40 w cols h1 h2 h3 h4).gives (h5 _ _ rfl)
  · exact h.elim
def c_41 (a : List R) (K : List R → List (List D) → Prop) : Prop := match a with
  | [] => K [.d (.v (.bool true))] []
  | _ => False
theorem c_41_ok (a : List R) (K : List R → List (List D) → Prop) (h : c_41 a K) : Ct prog gl 9 a K := by
  unfold c_41 at h
  split at h
  · exact (run_Yt gl).gives h
  · exact h.elim
def C_q6 : CallT := addC (addC (addC (addC (addC C_n 9 c_41) 5 c_37) 6 c_38) 7 c_39) 8 c_40
theorem C_q6_ok : CallsOk prog gl C_q6 := addC_ok (addC_ok (addC_ok (addC_ok (addC_ok C_n_ok c_41_ok) c_37_ok) c_38_ok) c_39_ok) c_40_ok
theorem vc9 (k : Int) (d : Bool) (arg : List EX) (w : WN) (cols : List Ty) (Q : List R → List (List D) → Prop) : vc E_0 C_q6 noI fi3 (f3.body.getD .skip) f3.results.toList [.agg [.v (.int .i64 k), .v (.bool d), .sl (cellsL arg)], .agg w.cs, .d (.sl (cols.map Ty.cs))] Q = ( ∃ (arg_1 : List EX), ∃ (cols_1 : List Ty), cellsL arg = cellsL arg_1 ∧ List.map Ty.cs cols = List.map Ty.cs cols_1 ∧ fitsL arg_1 ∧ cols_1.length ≤ (1353245080300 : Nat) ∧ ∀ (t : Ty) (f : Int), aggT k d arg_1 cols_1 = (t, f) → ∃ (arg_2 : List EX), ∃ (cols_2 : List Ty), cellsL arg = cellsL arg_2 ∧ List.map Ty.cs cols = List.map Ty.cs cols_2 ∧ fitsL arg_2 ∧ cols_2.length ≤ (1353245080300 : Nat) ∧ ∀ (t_1 : Ty) (f_1 : Int), aggT k d arg_2 cols_2 = (t_1, f_1) → ∃ (w_1 : WN), ∃ (cols_3 : List Ty), [D.v (Value.int .i64 w.1), D.sl (cellsL w.2), D.sl (cellsL w.3), D.sl (cellsL w.4), D.sl w.5, D.sl (List.map BX.cs w.6), D.v (Value.int .i64 w.7)] = w_1.cs ∧ List.map Ty.cs cols = List.map Ty.cs cols_3 ∧ w_1.6.length < (4611686018427387904 : Nat) ∧ fitsL (allW w_1) ∧ (allW w_1).length ≤ (1353245080300 : Nat) ∧ cols_3.length ≤ (1353245080300 : Nat) ∧ ∀ (t_2 : Ty) (f_2 : Int), winT w_1 cols_3 = (t_2, f_2) → ∃ (w_2 : WN), ∃ (cols_4 : List Ty), [D.v (Value.int .i64 w.1), D.sl (cellsL w.2), D.sl (cellsL w.3), D.sl (cellsL w.4), D.sl w.5, D.sl (List.map BX.cs w.6), D.v (Value.int .i64 w.7)] = w_2.cs ∧ List.map Ty.cs cols = List.map Ty.cs cols_4 ∧ w_2.6.length < (4611686018427387904 : Nat) ∧ fitsL (allW w_2) ∧ (allW w_2).length ≤ (1353245080300 : Nat) ∧ cols_4.length ≤ (1353245080300 : Nat) ∧ ∀ (t_3 : Ty) (f_3 : Int), winT w_2 cols_4 = (t_3, f_3) → Q [.d (.v (.bool (bif bif bif bif true then t.1 == t_1.1 && (t.2 == t_1.2 && true) else false then f == f_1 else false then t_2.1 == t_3.1 && (t_2.2 == t_3.2 && true) else false then f_2 == f_3 else false)))] []) := by kernel_rfl
theorem law_9 (k : Int) (d : Bool) (arg : List EX) (w : WN) (cols : List Ty) (ha : fitsL arg) (hcl : cols.length ≤ 1353245080300) (hfl : w.frame.length < 4611686018427387904) (hf : fitsL (allW w)) (hl : (allW w).length ≤ 1353245080300) : Ct prog gl 3 [.agg [.v (.int .i64 k), .v (.bool d), .sl (cellsL arg)], .agg w.cs, .d (.sl (cols.map Ty.cs))] (gives [.d (.v (.bool true))]) := by
  refine ct_of_vc E_ok C_q6_ok ioK_no it_ok mixed (fn := f3) (body := f3.body.getD .skip) (by kernel_rfl) (by kernel_rfl) (by kernel_rfl) (fi := fi3) (by kernel_rfl) (by kernel_rfl) ⟨_, _, rfl, rfl⟩ ?_
  rw [vc9]
  refine ⟨arg, cols, rfl, rfl, ha, hcl, fun t g e1 => ⟨arg, cols, rfl, rfl, ha, hcl, fun t1 g1 e2 => ⟨w, cols, rfl, rfl, hfl, hf, hl, hcl, fun t2 g2 e3 => ⟨w, cols, rfl, rfl, hfl, hf, hl, hcl, fun t3 g3 e4 => ?_⟩⟩⟩⟩
  rw [e1] at e2
  rw [e3] at e4
  cases e2
  cases e4
  simp only [beq_self_eq_true, Bool.and_self, cond_true]
  exact ⟨rfl, rfl⟩
end Go.Proofs.Tryz
