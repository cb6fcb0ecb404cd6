/- A part of the proof: contracts of functions, by a verified generator of conditions; no condition of its own. -/
import Derived.Test.YtmieillgepoaeaaGreatDoorR8
namespace Go.Proofs.Tryz
open Go Go.Dm Go.Ex
set_option maxRecDepth 100000
variable {gl : Nat → Option Obj}
def c_77 (n : Nat) (a : List R) (K : List R → List (List D) → Prop) : Prop := match a with
  | [.agg x, .d (.sl y)] => ∃ (e : EX) (cols : List Ty), x = cells e ∧ y = cols.map Ty.cs ∧ size e < n ∧ fits e ∧ mayE cols.length e = true ∧ (∀ t ∈ cols, goodT t) ∧ cols.length ≤ 1353245080300 ∧
      (∀ (t : Ty) (ok : Bool), agree (typedE cols e) (t, ok) → K [.agg t.cs, .d (.v (.bool ok))] [])
  | _ => False
def C_r77 (n : Nat) : CallT := addC (addC (addC (addC C_4e 86 c_151) 87 c_152) 89 c_154) 49 (c_77 n)
def st_77 (op sub : Int) (t : Ty) (v : Go.Ex.AV) (args : List EX) (cols : List Ty) (x : TX) : St := { tm := [(1, .d (.sl (cols.map Ty.cs))), (2, .ref 2 0), (4, .ref 4 0), (5, .d (.v (.bool false))), (6, .own 50006), (7, .d (.v (.int .i64 (x.i : Int))))], hp := [(2, .box [.d (.v (.int .i64 op)), .d (.v (.int .i64 sub)), .d (.v (.int .i64 t.k)), .d (.v (.int .i64 t.sc)), .d (.v (.int .i64 v.t.k)), .d (.v (.int .i64 v.t.sc)), .d (.v (.bool v.nul)), .d (.v (.int .i64 v.n)), .d (.v (.string v.s)), .d (.sl (cellsL args))]), (4, .box [.d (.v (.int .i64 0)), .d (.v (.int .i64 0))]), (50006, .lst 31 2 (x.l.map Ty.cs))], kn := [], gd := [] }
def fx_77 (op sub : Int) (t : Ty) (v : Go.Ex.AV) (args : List EX) (cols : List Ty) : Fi := { fi49 with cv := [(3, [⟨none, 6, 50006, 31, 2⟩])], lx := [(3, { X := TX, sh := st_77 op sub t v args cols, P := fun _ => inv_64 cols args })] }
theorem vc77 (n : Nat) (op sub : Int) (t : Ty) (v : Go.Ex.AV) (args : List EX) (cols : List Ty) (Q : List R → List (List D) → Prop) : vc E_0 (C_r77 n) noI (fx_77 op sub t v args cols) (f49.body.getD .skip) f49.results.toList [.agg (encX op sub t v (cellsL args)), .d (.sl (cols.map Ty.cs))] Q = ( ∃ (x0 : { X := TX, sh := st_77 op sub t v args cols, P := fun (x : TX) => inv_64 cols args : LX }.X), ({ tm := [((1 : Nat), V.d (D.sl (List.map Ty.cs cols))), ((2 : Nat), V.ref ((2 : Nat)) ((0 : Nat))), ((4 : Nat), V.ref ((4 : Nat)) ((0 : Nat))), ((5 : Nat), V.d (D.v (Value.bool false))), ((6 : Nat), V.own ((50006 : Nat))), ((7 : Nat), V.d (D.v (Value.int .i64 0)))], hp := [((2 : Nat), B.box [V.d (D.v (Value.int .i64 op)), V.d (D.v (Value.int .i64 sub)), V.d (D.v (Value.int .i64 t.1)), V.d (D.v (Value.int .i64 t.2)), V.d (D.v (Value.int .i64 v.1.1)), V.d (D.v (Value.int .i64 v.1.2)), V.d (D.v (Value.bool v.2)), V.d (D.v (Value.int .i64 v.3)), V.d (D.v (Value.string v.4)), V.d (D.sl (cellsL args))]), ((4 : Nat), B.box [V.d (D.v (Value.int .i64 0)), V.d (D.v (Value.int .i64 0))]), ((50006 : Nat), B.lst ((31 : Nat)) ((2 : Nat)) [])], kn := [], gd := [] : St } = { tm := [((1 : Nat), V.d (D.sl (List.map Ty.cs cols))), ((2 : Nat), V.ref ((2 : Nat)) ((0 : Nat))), ((4 : Nat), V.ref ((4 : Nat)) ((0 : Nat))), ((5 : Nat), V.d (D.v (Value.bool false))), ((6 : Nat), V.own ((50006 : Nat))), ((7 : Nat), V.d (D.v (Value.int .i64 (↑x0.1 : Int))))], hp := [((2 : Nat), B.box [V.d (D.v (Value.int .i64 op)), V.d (D.v (Value.int .i64 sub)), V.d (D.v (Value.int .i64 t.1)), V.d (D.v (Value.int .i64 t.2)), V.d (D.v (Value.int .i64 v.1.1)), V.d (D.v (Value.int .i64 v.1.2)), V.d (D.v (Value.bool v.2)), V.d (D.v (Value.int .i64 v.3)), V.d (D.v (Value.string v.4)), V.d (D.sl (cellsL args))]), ((4 : Nat), B.box [V.d (D.v (Value.int .i64 0)), V.d (D.v (Value.int .i64 0))]), ((50006 : Nat), B.lst ((31 : Nat)) ((2 : Nat)) (List.map Ty.cs x0.2))], kn := [], gd := [] : St } ∧ ∃ (n : Nat), inv_64 cols args n x0) ∧ ∀ (n_1 : Nat) (x : { X := TX, sh := st_77 op sub t v args cols, P := fun (x : TX) => inv_64 cols args : LX }.X), inv_64 cols args n_1 x → ∃ (es : List (List D)), D.sl (cellsL args) = D.sl es ∧ (decide ((↑x.1 : Int) < (↑es.length : Int)) = true → ∃ (es : List (List D)), D.sl (cellsL args) = D.sl es ∧ ((0 : Int) ≤ (↑x.1 : Int) ∧ (↑x.1 : Int) < (↑es.length : Int)) ∧ ∃ (cells : List D), es[(↑x.1 : Int).toNat]? = some cells ∧ cells.length = (10 : Nat) ∧ ∃ (n_2 : Int), ∃ (n_3 : Int), ∃ (n_4 : Int), ∃ (n_5 : Int), ∃ (n_6 : Int), ∃ (n_7 : Int), ∃ (b : Bool), ∃ (n_8 : Int), ∃ (b_1 : ByteArray), ∃ (es : List (List D)), cut ((0 : Nat)) ((10 : Nat)) cells = some [D.v (Value.int .i64 n_2), D.v (Value.int .i64 n_3), D.v (Value.int .i64 n_4), D.v (Value.int .i64 n_5), D.v (Value.int .i64 n_6), D.v (Value.int .i64 n_7), D.v (Value.bool b), D.v (Value.int .i64 n_8), D.v (Value.string b_1), D.sl es] ∧ ∃ (e : EX), ∃ (cols_1 : List Ty), [D.v (Value.int .i64 n_2), D.v (Value.int .i64 n_3), D.v (Value.int .i64 n_4), D.v (Value.int .i64 n_5), D.v (Value.int .i64 n_6), D.v (Value.int .i64 n_7), D.v (Value.bool b), D.v (Value.int .i64 n_8), D.v (Value.string b_1), D.sl es] = Ex.cells e ∧ List.map Ty.cs cols = List.map Ty.cs cols_1 ∧ size e < n ∧ fits e ∧ mayE (↑cols_1.length : Int) e = true ∧ (∀ (t : Ty), t ∈ cols_1 → goodT t) ∧ cols_1.length ≤ (1353245080300 : Nat) ∧ ∀ (t_1 : Ty) (ok : Bool), agree (typedE cols_1 e) (t_1, ok) → ((!ok) = true → Q [.agg [.v (.int .i64 0), .v (.int .i64 0)], .d (.v (.bool false))] []) ∧ ((!ok) = false → (∀ (c : List D), c ∈ [[D.v (Value.int .i64 t_1.1), D.v (Value.int .i64 t_1.2)]] → c.length = (2 : Nat)) ∧ (31 : Nat) = (31 : Nat) ∧ (2 : Nat) = (2 : Nat) ∧ (↑(List.map Ty.cs x.2).length.succ : Int) * (↑((16 : Nat)) : Int) ≤ (140737488355328 : Int) ∧ ∃ (m : Nat), ∃ (x' : { X := TX, sh := st_77 op sub t v args cols, P := fun (x : TX) => inv_64 cols args : LX }.X), m < n_1 ∧ { tm := [((1 : Nat), V.d (D.sl (List.map Ty.cs cols))), ((2 : Nat), V.ref ((2 : Nat)) ((0 : Nat))), ((4 : Nat), V.ref ((4 : Nat)) ((0 : Nat))), ((5 : Nat), V.d (D.v (Value.bool false))), ((6 : Nat), V.own ((50006 : Nat))), ((7 : Nat), V.d (D.v (Value.int .i64 (IntKind.i64.wrap ((↑x.1 : Int) + (1 : Int))))))], hp := [((2 : Nat), B.box [V.d (D.v (Value.int .i64 op)), V.d (D.v (Value.int .i64 sub)), V.d (D.v (Value.int .i64 t.1)), V.d (D.v (Value.int .i64 t.2)), V.d (D.v (Value.int .i64 v.1.1)), V.d (D.v (Value.int .i64 v.1.2)), V.d (D.v (Value.bool v.2)), V.d (D.v (Value.int .i64 v.3)), V.d (D.v (Value.string v.4)), V.d (D.sl (cellsL args))]), ((4 : Nat), B.box [V.d (D.v (Value.int .i64 0)), V.d (D.v (Value.int .i64 0))]), ((50006 : Nat), B.lst ((31 : Nat)) ((2 : Nat)) (List.map Ty.cs x.2 ++ [[D.v (Value.int .i64 t_1.1), D.v (Value.int .i64 t_1.2)]]))], kn := [], gd := [] : St } = { tm := [((1 : Nat), V.d (D.sl (List.map Ty.cs cols))), ((2 : Nat), V.ref ((2 : Nat)) ((0 : Nat))), ((4 : Nat), V.ref ((4 : Nat)) ((0 : Nat))), ((5 : Nat), V.d (D.v (Value.bool false))), ((6 : Nat), V.own ((50006 : Nat))), ((7 : Nat), V.d (D.v (Value.int .i64 (↑x'.1 : Int))))], hp := [((2 : Nat), B.box [V.d (D.v (Value.int .i64 op)), V.d (D.v (Value.int .i64 sub)), V.d (D.v (Value.int .i64 t.1)), V.d (D.v (Value.int .i64 t.2)), V.d (D.v (Value.int .i64 v.1.1)), V.d (D.v (Value.int .i64 v.1.2)), V.d (D.v (Value.bool v.2)), V.d (D.v (Value.int .i64 v.3)), V.d (D.v (Value.string v.4)), V.d (D.sl (cellsL args))]), ((4 : Nat), B.box [V.d (D.v (Value.int .i64 0)), V.d (D.v (Value.int .i64 0))]), ((50006 : Nat), B.lst ((31 : Nat)) ((2 : Nat)) (List.map Ty.cs x'.2))], kn := [], gd := [] : St } ∧ inv_64 cols args m x')) ∧ (decide ((↑x.1 : Int) < (↑es.length : Int)) = false → ((op == (1 : Int)) = true → ∃ (es : List (List D)), D.sl (List.map Ty.cs cols) = D.sl es ∧ ((0 : Int) ≤ sub ∧ sub < (↑es.length : Int)) ∧ ∃ (cells : List D), es[sub.toNat]? = some cells ∧ cells.length = (2 : Nat) ∧ ∃ (n : Int), ∃ (n_2 : Int), cut ((0 : Nat)) ((2 : Nat)) cells = some [D.v (Value.int .i64 n), D.v (Value.int .i64 n_2)] ∧ Q [.agg [.v (.int .i64 n), .v (.int .i64 n_2)], .d (.v (.bool true))] []) ∧ ((op == (1 : Int)) = false → ((op == (2 : Int)) = true → Q [.agg [.v (.int .i64 v.1.1), .v (.int .i64 v.1.2)], .d (.v (.bool true))] []) ∧ ((op == (2 : Int)) = false → ((op == (9 : Int)) = true → ((0 : Int) ≤ (0 : Int) ∧ (0 : Int) < (↑(List.map Ty.cs x.2).length : Int)) ∧ (2 : Nat) = (2 : Nat) ∧ ∃ (cells : List D), (List.map Ty.cs x.2)[Int.toNat (0 : Int)]? = some cells ∧ ∃ (n : Int), ∃ (n_2 : Int), cut ((0 : Nat)) ((2 : Nat)) cells = some [D.v (Value.int .i64 n), D.v (Value.int .i64 n_2)] ∧ ((0 : Int) ≤ (1 : Int) ∧ (1 : Int) < (↑(List.map Ty.cs x.2).length : Int)) ∧ (2 : Nat) = (2 : Nat) ∧ ∃ (cells : List D), (List.map Ty.cs x.2)[Int.toNat (1 : Int)]? = some cells ∧ ∃ (n_3 : Int), ∃ (n_4 : Int), cut ((0 : Nat)) ((2 : Nat)) cells = some [D.v (Value.int .i64 n_3), D.v (Value.int .i64 n_4)] ∧ Q [.agg [.v (.int .i64 1), .v (.int .i64 0)], .d (.v (.bool (s111_0 n n_2 n_3 n_4)))] []) ∧ ((op == (9 : Int)) = false → ((op == (10 : Int)) = true → ∃ (l : List Ty), List.map Ty.cs x.2 = List.map Ty.cs l ∧ l.length < (4611686018427387904 : Nat) ∧ Q [.agg [.v (.int .i64 1), .v (.int .i64 0)], .d (.v (.bool !l.any (offK (1 : Int))))] []) ∧ ((op == (10 : Int)) = false → ((op == (11 : Int)) = true → ∃ (l : List Ty), List.map Ty.cs x.2 = List.map Ty.cs l ∧ l.length < (4611686018427387904 : Nat) ∧ Q [.agg [.v (.int .i64 1), .v (.int .i64 0)], .d (.v (.bool !l.any (offK (1 : Int))))] []) ∧ ((op == (11 : Int)) = false → ((op == (12 : Int)) = true → ∃ (l : List Ty), List.map Ty.cs x.2 = List.map Ty.cs l ∧ l.length < (4611686018427387904 : Nat) ∧ Q [.agg [.v (.int .i64 1), .v (.int .i64 0)], .d (.v (.bool !l.any (offK (1 : Int))))] []) ∧ ((op == (12 : Int)) = false → ((op == (13 : Int)) = true → Q [.agg [.v (.int .i64 1), .v (.int .i64 0)], .d (.v (.bool true))] []) ∧ ((op == (13 : Int)) = false → ((op == (14 : Int)) = true → ∃ (op_1 : Int), ∃ (sub_1 : Int), ∃ (t_1 : Ty), ∃ (v_1 : AV), ∃ (args_1 : List EX), ∃ (l : List Ty), ∃ (a : Ty), ∃ (r : List Ty), [D.v (Value.int .i64 op), D.v (Value.int .i64 sub), D.v (Value.int .i64 t.1), D.v (Value.int .i64 t.2), D.v (Value.int .i64 v.1.1), D.v (Value.int .i64 v.1.2), D.v (Value.bool v.2), D.v (Value.int .i64 v.3), D.v (Value.string v.4), D.sl (cellsL args)] = [D.v (Value.int .i64 op_1), D.v (Value.int .i64 sub_1), D.v (Value.int .i64 t_1.1), D.v (Value.int .i64 t_1.2), D.v (Value.int .i64 v_1.1.1), D.v (Value.int .i64 v_1.1.2), D.v (Value.bool v_1.2), D.v (Value.int .i64 v_1.3), D.v (Value.string v_1.4), D.sl (cellsL args_1)] ∧ List.map Ty.cs x.2 = List.map Ty.cs l ∧ l.length ≤ (1353245080300 : Nat) ∧ selT l (resN op_1 l.length l.length) = a :: r ∧ Q [.agg [.v (.int .i64 (comR a r).1.1), .v (.int .i64 (comR a r).1.2)], .d (.v (.bool (bif (comR a r).2 then okK l (if op_1 = (14 : Int) then l.length / (2 : Nat) else (0 : Nat)) else false)))] []) ∧ ((op == (14 : Int)) = false → ((op == (15 : Int)) = true → ∃ (op_1 : Int), ∃ (sub_1 : Int), ∃ (t_1 : Ty), ∃ (v_1 : AV), ∃ (args_1 : List EX), ∃ (l : List Ty), ∃ (a : Ty), ∃ (r : List Ty), [D.v (Value.int .i64 op), D.v (Value.int .i64 sub), D.v (Value.int .i64 t.1), D.v (Value.int .i64 t.2), D.v (Value.int .i64 v.1.1), D.v (Value.int .i64 v.1.2), D.v (Value.bool v.2), D.v (Value.int .i64 v.3), D.v (Value.string v.4), D.sl (cellsL args)] = [D.v (Value.int .i64 op_1), D.v (Value.int .i64 sub_1), D.v (Value.int .i64 t_1.1), D.v (Value.int .i64 t_1.2), D.v (Value.int .i64 v_1.1.1), D.v (Value.int .i64 v_1.1.2), D.v (Value.bool v_1.2), D.v (Value.int .i64 v_1.3), D.v (Value.string v_1.4), D.sl (cellsL args_1)] ∧ List.map Ty.cs x.2 = List.map Ty.cs l ∧ l.length ≤ (1353245080300 : Nat) ∧ selT l (resN op_1 l.length l.length) = a :: r ∧ Q [.agg [.v (.int .i64 (comR a r).1.1), .v (.int .i64 (comR a r).1.2)], .d (.v (.bool (bif (comR a r).2 then okK l (if op_1 = (14 : Int) then l.length / (2 : Nat) else (0 : Nat)) else false)))] []) ∧ ((op == (15 : Int)) = false → ((op == (16 : Int)) = true → ((0 : Int) ≤ (0 : Int) ∧ (0 : Int) < (↑(List.map Ty.cs x.2).length : Int)) ∧ (2 : Nat) = (2 : Nat) ∧ ∃ (cells : List D), (List.map Ty.cs x.2)[Int.toNat (0 : Int)]? = some cells ∧ ∃ (n : Int), ∃ (n_2 : Int), cut ((0 : Nat)) ((2 : Nat)) cells = some [D.v (Value.int .i64 n), D.v (Value.int .i64 n_2)] ∧ Q [.agg [.v (.int .i64 t.1), .v (.int .i64 t.2)], .d (.v (.bool (s153_0 n n_2 t.1)))] []) ∧ ((op == (16 : Int)) = false → ((op == (17 : Int)) = true → ∃ (l : List Ty), List.map Ty.cs x.2 = List.map Ty.cs l ∧ l.length < (4611686018427387904 : Nat) ∧ Q [.agg [.v (.int .i64 4), .v (.int .i64 0)], .d (.v (.bool !l.any (offK (4 : Int))))] []) ∧ ((op == (17 : Int)) = false → ((op == (18 : Int)) = true → ∃ (l : List Ty), List.map Ty.cs x.2 = List.map Ty.cs l ∧ l.length < (4611686018427387904 : Nat) ∧ Q [.agg [.v (.int .i64 2), .v (.int .i64 0)], .d (.v (.bool !l.any (offK (4 : Int))))] []) ∧ ((op == (18 : Int)) = false → ∃ (l : List Ty), ∃ (u : Ty), ∃ (w : Ty), List.map Ty.cs x.2 = List.map Ty.cs l ∧ l[(0 : Nat)]? = some u ∧ l[l.length - (1 : Nat)]? = some w ∧ l.length ≤ (1353245080300 : Nat) ∧ Q [.agg [.v (.int .i64 (arithR op u w).1.1), .v (.int .i64 (arithR op u w).1.2)], .d (.v (.bool (arithR op u w).2))] [])))))))))))))) := by kernel_rfl
theorem res_15 (n x : Nat) : resN 15 n x = List.range x := by
  unfold resN
  rw [List.filter_eq_self]
  intro i _; rfl
theorem selT_range (l : List Ty) : selT l (List.range l.length) = l := by
  unfold selT
  apply List.ext_getElem?
  intro i
  rw [List.getElem?_map]
  by_cases h : i < l.length
  · rw [List.getElem?_eq_getElem (by simpa using h), List.getElem_range, List.getElem?_eq_getElem h]
    simp [List.getD_eq_getElem?_getD, h]
  · rw [List.getElem?_eq_none (by simpa using h), List.getElem?_eq_none (by omega)]; rfl
theorem res_14 (h : Nat) : ∀ j, j ≤ h → resN 14 (2 * h + 1) (2 * j) = (List.range j).map fun k => 2 * k + 1
  | 0, _ => rfl
  | j + 1, hj => by
    rw [show 2 * (j + 1) = 2 * j + 1 + 1 by omega, resN_next, resN_next, res_14 h j (by omega)]
    have e1 : ((14 : Int) == 15 || (2 * j) % 2 == 1 || 2 * j == 2 * h + 1 - 1) = false := by
      rw [Bool.eq_false_iff]; intro hh
      simp only [Bool.or_eq_true, beq_iff_eq] at hh
      rcases hh with (hh | hh) | hh
      · cases hh
      · omega
      · omega
    have e2 : ((14 : Int) == 15 || (2 * j + 1) % 2 == 1 || 2 * j + 1 == 2 * h + 1 - 1) = true := by
      rw [show (2 * j + 1) % 2 = 1 by omega]; rfl
    rw [e1, e2, if_pos rfl, if_neg (by decide), List.append_nil, List.range_succ, List.map_append]
    rfl
theorem sel_results {op : Int} {l : List Ty} (h : op = 15 ∨ (op = 14 ∧ l.length % 2 = 1)) : selT l (resN op l.length l.length) = resultsE op l := by
  rcases h with rfl | ⟨rfl, h⟩
  · rw [res_15, selT_range]; rfl
  · obtain ⟨m, hm⟩ : ∃ m, l.length = 2 * m + 1 := ⟨l.length / 2, by omega⟩
    have e : resN 14 l.length l.length = ((List.range m).map fun k => 2 * k + 1) ++ [2 * m] := by
      rw [hm, resN_next, res_14 m m (Nat.le_refl _)]
      have : ((14 : Int) == 15 || (2 * m) % 2 == 1 || 2 * m == 2 * m + 1 - 1) = true := by
        rw [show 2 * m + 1 - 1 = 2 * m by omega]; simp
      rw [this, if_pos rfl]
    rw [e]
    unfold resultsE selT oddsT
    rw [if_neg (by decide), hm, show (2 * m + 1) / 2 = m by omega, show 2 * m + 1 - 1 = 2 * m by omega, List.map_append, List.map_map]
    rfl
theorem okJK {l : List Ty} (hl : ∀ t ∈ l, goodT t) {j : Nat} (hj : 2 * j ≤ l.length) : okJ l j = okK l j := by
  unfold okJ okK
  rw [Bool.eq_iff_iff, List.all_eq_true, List.all_eq_true]
  have key : ∀ k, k ∈ List.range j → truthT (l.getD (2 * k) ⟨0, 0⟩) = ((l.getD (2 * k) ⟨0, 0⟩).k == 1) := by
    intro k hk
    have hk := List.mem_range.1 hk
    exact good_ty (get_good hl (by omega)) (by decide)
  constructor
  · intro h k hk; rw [← key k hk]; exact h k hk
  · intro h k hk; rw [key k hk]; exact h k hk
theorem case_agree {op : Int} (ho : op = 14 ∨ op = 15) {l : List Ty} (hl : ∀ t ∈ l, goodT t) {a : Ty} {r : List Ty} (ha : goodT a) : agree ((cfold a r).1, (cfold a r).2 && (decide (op = 15) || okJ l (l.length / 2))) ((comR a r).1, bif (comR a r).2 then okK l (if op = 14 then l.length / 2 else 0) else false) := by
  obtain ⟨h1, h2⟩ := com_agree a (good_iff.1 ha).2.2.1 r
  have h3 : (bif (comR a r).2 then okK l (if op = 14 then l.length / 2 else 0) else false) = ((cfold a r).2 && (decide (op = 15) || okJ l (l.length / 2))) := by
    rw [h1]
    rcases ho with rfl | rfl
    · rw [if_pos rfl, okJK hl (by omega)]
      cases (cfold a r).2 <;> rfl
    · cases (cfold a r).2 <;> rfl
  refine ⟨h3, fun h => h2 ?_⟩
  dsimp only at h
  revert h
  cases (cfold a r).2 <;> simp
theorem alike_eq (a b c d : Int) : s111_0 a b c d = s129_0 a b c d := by
  have e : ∀ k, s188_0 k = s209_0 k := fun _ => rfl
  unfold s111_0 s129_0
  rw [e, e]
  cases decide (a ≥ 1) <;> cases decide (a ≤ 5) <;> cases s209_0 a == s209_0 c <;> rfl
theorem any_two : ∀ {tl : List Ty}, (tl.length = 1 ∨ tl.length = 2) → ∀ (h1 : 0 < tl.length) (h2 : tl.length - 1 < tl.length), (!tl.any (offK 2)) = (bif tl[0].k == 2 then tl[tl.length - 1].k == 2 else false)
  | [x], _, _, _ => by
    show (!(x.k != 2 || false)) = (bif x.k == 2 then x.k == 2 else false)
    simp only [bne]
    cases x.k == 2 <;> rfl
  | [x, y], _, _, _ => by
    show (!(x.k != 2 || (y.k != 2 || false))) = (bif x.k == 2 then y.k == 2 else false)
    simp only [bne]
    cases x.k == 2 <;> cases y.k == 2 <;> rfl
  | [], h, _, _ => by simp at h
  | _ :: _ :: _ :: _, h, _, _ => by simp at h
theorem ct77 : ∀ (n : Nat) (e : EX) (cols : List Ty), size e < n → fits e → mayE cols.length e = true → (∀ t ∈ cols, goodT t) → cols.length ≤ 1353245080300 → Ct prog gl 49 [.agg (cells e), .d (.sl (cols.map Ty.cs))] (fun res fin => fin = [] ∧ ∃ (t : Ty) (ok : Bool), agree (typedE cols e) (t, ok) ∧ res = [.agg t.cs, .d (.v (.bool ok))])
  | 0, _, _, h, _, _, _, _ => absurd h (Nat.not_lt_zero _)
  | n + 1, .mk op sub t v args, cols, hs, hf, hm, hgc, hcl => by
    have hC : CallsOk prog gl (C_r77 n) := addC_ok (addC_ok (addC_ok (addC_ok C_4e_ok c_151_ok) c_152_ok) c_154_ok) (fun a K hk => by
      unfold c_77 at hk
      split at hk
      · obtain ⟨e, cols, rfl, rfl, h1, h2, h3, h4, h5, h6⟩ := hk
        exact (ct77 n e cols h1 h2 h3 h4 h5).mono fun res fin ⟨e1, t, ok, e2, e3⟩ => by subst e1; subst e3; exact h6 t ok e2
      · exact hk.elim)
    rw [cells_mk]
    refine ct_of_vc E_ok hC ioK_no it_ok mixed (fn := f49) (body := f49.body.getD .skip) (by kernel_rfl) (by kernel_rfl) (by kernel_rfl) (fi := fx_77 op sub t v args cols) (by kernel_rfl) (by kernel_rfl) ⟨_, _, rfl, (typedE cols (.mk op sub t v args)).1, (typedE cols (.mk op sub t v args)).2, agree_refl _, rfl⟩ ?_
    rw [vc77]
    obtain ⟨_, hl, hfl⟩ := fits_mk hf
    simp only [size] at hs
    have hmm : mayHd op sub t v ((cellsL args).length : Int) cols.length = true ∧ mayL cols.length args = true := by
      have : (mayHd op sub t v ((cellsL args).length : Int) cols.length && mayL cols.length args) = true := by simpa only [mayE] using hm
      simpa using this
    obtain ⟨hh, hml'⟩ := hmm
    have hml := hml'
    rw [mayL_all, List.all_eq_true] at hml
    refine ⟨⟨0, []⟩, ⟨rfl, args.length, ⟨Nat.zero_le _, rfl⟩, by simp only [List.take_zero, typedL], rfl⟩, fun m (x : TX) hx => ⟨cellsL args, rfl, fun hi => ?_, fun hi => ?_⟩⟩
    · obtain ⟨i, tl⟩ := x
      obtain ⟨⟨h1, h2⟩, h4, h5⟩ := hx
      dsimp only at h1 h2 h4 h5 hi ⊢
      have hi : i < args.length := by simpa [cellsL_len] using hi
      obtain ⟨op1, sub1, t1, v1, a1, e1, g1⟩ := arg_get hi
      have hsz := size_mem (List.getElem_mem hi)
      refine ⟨cellsL args, rfl, ⟨by omega, by rw [cellsL_len]; omega⟩, _, g1, rfl, op1, sub1, t1.k, t1.sc, v1.t.k, v1.t.sc, v1.nul, v1.n, v1.s, cellsL a1, rfl, args[i], cols, by rw [e1, cells_mk]; rfl, rfl, by omega, fitsL_mem hfl (List.getElem_mem hi), hml _ (List.getElem_mem hi), hgc, hcl, fun t2 ok he => ⟨fun ho => ?_, fun ho => ⟨by simp, rfl, rfl, ?_, args.length - (i + 1), ⟨i + 1, tl ++ [t2]⟩, by omega, ?_, ⟨hi, rfl⟩, ?_, by simp [h5]⟩⟩⟩
      · have : ok = false := by simpa using ho
        subst this
        have e2 : (typedE cols args[i]).2 = false := he.1.symm
        refine ⟨rfl, ⟨0, 0⟩, false, ?_, rfl⟩
        rw [typedE_none (typedL_none (List.getElem_mem hi) e2)]
        exact agree_refl _
      · rw [List.length_map, h5]; simp only [Nat.succ_eq_add_one]; omega
      · dsimp only
        rw [wrap_next (by omega), List.map_append]
        rfl
      · have : ok = true := by simpa using ho
        subst this
        rw [List.take_add_one, List.getElem?_eq_getElem hi]
        refine typedL_snoc h4 ?_
        have e2 : (typedE cols args[i]).2 = true := he.1.symm
        have e3 := he.2 e2
        rcases hte : typedE cols args[i] with ⟨u, b⟩
        rw [hte] at e2 e3
        dsimp only at e2 e3
        rw [e2, e3]
    · obtain ⟨i, tl⟩ := x
      obtain ⟨⟨h1, h2⟩, h4, h5⟩ := hx
      dsimp only at h1 h2 h4 h5 hi ⊢
      have hi : ¬ i < args.length := by simpa [cellsL_len] using hi
      rw [List.take_of_length_le (by omega)] at h4
      have htl : tl.length = args.length := by omega
      rw [cellsL_len] at hh
      have hgl := typedL_good hgc args hml' tl h4
      have fin : ∀ (a a' : Int) (c : Bool), agree (typedN cols op sub t v tl) (⟨a, a'⟩, c) → (([] : List (List D)) = [] ∧ ∃ (t' : Ty) (ok : Bool), agree (typedE cols (.mk op sub t v args)) (t', ok) ∧ [R.agg [D.v (Value.int IntKind.i64 a), D.v (Value.int IntKind.i64 a')], R.d (D.v (Value.bool c))] = [.agg t'.cs, .d (.v (.bool ok))]) := fun a a' c h => ⟨rfl, ⟨a, a'⟩, c, by rw [typedE_some h4]; exact h, rfl⟩
      have same : ∀ (p : Ty × Bool) (a a' : Int) (c : Bool), p = (⟨a, a'⟩, c) → agree p (⟨a, a'⟩, c) := fun p a a' c h => by rw [h]; exact agree_refl _
      have g0 : ∀ (h : 0 < tl.length), (tl.map Ty.cs)[Int.toNat 0]? = some (Ty.cs tl[0]) := fun h => ty_get h
      have g1 : ∀ (h : 1 < tl.length), (tl.map Ty.cs)[Int.toNat 1]? = some (Ty.cs tl[1]) := fun h => ty_get h
      have d0 : ∀ (h : 0 < tl.length), tl.getD 0 ⟨0, 0⟩ = tl[0] := fun h => by rw [List.getD_eq_getElem?_getD, List.getElem?_eq_getElem h]; rfl
      have d1 : ∀ (h : 1 < tl.length), tl.getD 1 ⟨0, 0⟩ = tl[1] := fun h => by rw [List.getD_eq_getElem?_getD, List.getElem?_eq_getElem h]; rfl
      refine ⟨fun o1 => ?_, fun o1 => ⟨fun o2 => ?_, fun o2 => ⟨fun o9 => ?_, fun o9 => ⟨fun o10 => ?_, fun o10 => ⟨fun o11 => ?_, fun o11 => ⟨fun o12 => ?_, fun o12 => ⟨fun o13 => ?_, fun o13 => ⟨fun o14 => ?_, fun o14 => ⟨fun o15 => ?_, fun o15 => ⟨fun o16 => ?_, fun o16 => ⟨fun o17 => ?_, fun o17 => ⟨fun o18 => ?_, fun o18 => ?_⟩⟩⟩⟩⟩⟩⟩⟩⟩⟩⟩⟩
      · have o1 : op = 1 := by simpa using o1
        subst o1
        obtain ⟨c1, c2⟩ := may_col hh
        have hlt : sub.toNat < cols.length := by omega
        refine ⟨_, rfl, ⟨c1, by rw [List.length_map]; exact c2⟩, _, ty_get hlt, rfl, _, _, rfl, fin _ _ _ (same _ _ _ _ ?_)⟩
        unfold typedN
        rw [if_pos rfl, List.getD_eq_getElem?_getD, List.getElem?_eq_getElem hlt]
        rfl
      all_goals have n1 : op ≠ 1 := by simpa using o1
      · have o2 : op = 2 := by simpa using o2
        refine fin _ _ _ (same _ _ _ _ ?_)
        unfold typedN
        rw [if_neg n1, if_pos o2]
      all_goals have n2 : op ≠ 2 := by simpa using o2
      all_goals have hpos : 1 ≤ args.length := by have := may_pos hh n1 n2; omega
      all_goals have hne : tl ≠ [] := by intro h; rw [h] at htl; simp at htl; omega
      · have o9 : op = 9 := by simpa using o9
        subst o9
        have h2 := may_two hh
        refine ⟨⟨by decide, by rw [List.length_map]; omega⟩, rfl, _, g0 (by omega), _, _, rfl, ⟨by decide, by rw [List.length_map]; omega⟩, rfl, _, g1 (by omega), _, _, rfl, fin _ _ _ (same _ _ _ _ ?_)⟩
        unfold typedN
        rw [if_neg n1, if_neg n2, if_pos rfl, d0 (by omega), d1 (by omega), alike_eq]
      all_goals have n9 : op ≠ 9 := by simpa using o9
      · have o10 : op = 10 := by simpa using o10
        refine ⟨tl, rfl, by omega, fin _ _ _ (same _ _ _ _ ?_)⟩
        unfold typedN
        rw [if_neg n1, if_neg n2, if_neg n9, if_pos (.inl o10)]
      all_goals have n10 : op ≠ 10 := by simpa using o10
      · have o11 : op = 11 := by simpa using o11
        refine ⟨tl, rfl, by omega, fin _ _ _ (same _ _ _ _ ?_)⟩
        unfold typedN
        rw [if_neg n1, if_neg n2, if_neg n9, if_pos (.inr (.inl o11))]
      all_goals have n11 : op ≠ 11 := by simpa using o11
      · have o12 : op = 12 := by simpa using o12
        refine ⟨tl, rfl, by omega, fin _ _ _ (same _ _ _ _ ?_)⟩
        unfold typedN
        rw [if_neg n1, if_neg n2, if_neg n9, if_pos (.inr (.inr o12))]
      all_goals have n12 : op ≠ 12 := by simpa using o12
      all_goals have nn : ¬ (op = 10 ∨ op = 11 ∨ op = 12) := by omega
      · have o13 : op = 13 := by simpa using o13
        refine fin _ _ _ (same _ _ _ _ ?_)
        unfold typedN
        rw [if_neg n1, if_neg n2, if_neg n9, if_neg nn, if_pos o13]
      all_goals have n13 : op ≠ 13 := by simpa using o13
      · have o14 : op = 14 := by simpa using o14
        obtain ⟨a, r, hr, hrl⟩ := results_ne (op := op) hne
        have hodd : op = 15 ∨ (op = 14 ∧ tl.length % 2 = 1) := by
          refine .inr ⟨o14, ?_⟩
          subst o14
          have := (may_case hh).2
          rw [Int.tmod_eq_emod_of_nonneg (by omega)] at this
          omega
        have ha : goodT a := hgl _ (results_mem hne (hr ▸ List.mem_cons_self))
        refine ⟨op, sub, t, v, args, tl, a, r, rfl, rfl, by omega, by rw [sel_results hodd, hr], fin _ _ _ ?_⟩
        have n17 : op ≠ 17 := by omega
        have n18 : op ≠ 18 := by omega
        have n16 : op ≠ 16 := by omega
        unfold typedN
        rw [if_neg n1, if_neg n2, if_neg n9, if_neg nn, if_neg n13, if_neg n17, if_neg n18, if_neg n16, if_pos (.inl o14), hr]
        exact case_agree (.inl o14) hgl ha
      all_goals have n14 : op ≠ 14 := by simpa using o14
      · have o15 : op = 15 := by simpa using o15
        obtain ⟨a, r, hr, hrl⟩ := results_ne (op := op) hne
        have ha : goodT a := hgl _ (results_mem hne (hr ▸ List.mem_cons_self))
        refine ⟨op, sub, t, v, args, tl, a, r, rfl, rfl, by omega, by rw [sel_results (.inl o15), hr], fin _ _ _ ?_⟩
        have n17 : op ≠ 17 := by omega
        have n18 : op ≠ 18 := by omega
        have n16 : op ≠ 16 := by omega
        unfold typedN
        rw [if_neg n1, if_neg n2, if_neg n9, if_neg nn, if_neg n13, if_neg n17, if_neg n18, if_neg n16, if_pos (.inr o15), hr]
        exact case_agree (.inr o15) hgl ha
      all_goals have n15 : op ≠ 15 := by simpa using o15
      · have o16 : op = 16 := by simpa using o16
        refine ⟨⟨by decide, by rw [List.length_map]; omega⟩, rfl, _, g0 (by omega), _, _, rfl, fin _ _ _ (same _ _ _ _ ?_)⟩
        have n17 : op ≠ 17 := by omega
        have n18 : op ≠ 18 := by omega
        unfold typedN
        rw [if_neg n1, if_neg n2, if_neg n9, if_neg nn, if_neg n13, if_neg n17, if_neg n18, if_pos o16, d0 (by omega)]
        unfold s153_0
        rw [BEq.comm (a := tl[0].k) (b := t.k)]
        have hs : ∀ k sc, s179_0 k sc = s130_0 k sc := fun _ _ => rfl
        rw [hs, show s130_0 t.k t.sc = (bif t.k == 2 then true else t.k == 3) from rfl]
        cases t.k == tl[0].k <;> cases tl[0].k == 4 <;> cases t.k == 4 <;> rfl
      all_goals have n16 : op ≠ 16 := by simpa using o16
      · have o17 : op = 17 := by simpa using o17
        refine ⟨tl, rfl, by omega, fin _ _ _ (same _ _ _ _ ?_)⟩
        unfold typedN
        rw [if_neg n1, if_neg n2, if_neg n9, if_neg nn, if_neg n13, if_pos o17]
      all_goals have n17 : op ≠ 17 := by simpa using o17
      · have o18 : op = 18 := by simpa using o18
        refine ⟨tl, rfl, by omega, fin _ _ _ (same _ _ _ _ ?_)⟩
        unfold typedN
        rw [if_neg n1, if_neg n2, if_neg n9, if_neg nn, if_neg n13, if_neg n17, if_pos o18]
      all_goals have n18 : op ≠ 18 := by simpa using o18
      have hlast : tl.length - 1 < tl.length := by omega
      have har := may_arith hh n1 n2 n9 n16 n12 n13 n18 n14 n15
      refine ⟨tl, tl[0], tl[tl.length - 1], rfl, List.getElem?_eq_getElem _, List.getElem?_eq_getElem _, by omega, fin _ _ _ ?_⟩
      unfold typedN
      rw [if_neg n1, if_neg n2, if_neg n9, if_neg nn, if_neg n13, if_neg n17, if_neg n18, if_neg n16, if_neg (by omega), d0 (by omega), List.getD_eq_getElem?_getD, List.getElem?_eq_getElem hlast, Option.getD_some]
      have hany : (!tl.any (offK 2)) = (bif tl[0].k == 2 then tl[tl.length - 1].k == 2 else false) := by
        exact any_two (by rcases har with ⟨_, h⟩ | ⟨_, h⟩ <;> omega) _ _
      rw [hany]
      refine arith_agree (hgl _ (List.getElem_mem _)) (hgl _ (List.getElem_mem _)) (fun o8 => ?_)
      rcases har with ⟨_, hm1⟩ | ⟨h8, _⟩
      · have : tl.length - 1 = 0 := by omega
        simp only [this]
      · exact absurd o8 h8
def c_77g (a : List R) (K : List R → List (List D) → Prop) : Prop := match a with
  | [.agg x, .d (.sl y)] => ∃ (e : EX) (cols : List Ty), x = cells e ∧ y = cols.map Ty.cs ∧ fits e ∧ mayE cols.length e = true ∧ (∀ t ∈ cols, goodT t) ∧ cols.length ≤ 1353245080300 ∧
      (∀ (t : Ty) (ok : Bool), agree (typedE cols e) (t, ok) → K [.agg t.cs, .d (.v (.bool ok))] [])
  | _ => False
theorem c_77g_ok (a : List R) (K : List R → List (List D) → Prop) (h : c_77g a K) : Ct prog gl 49 a K := by
  unfold c_77g at h
  split at h
  · obtain ⟨e, cols, rfl, rfl, h2, h3, h4, h5, h6⟩ := h
    exact (ct77 (size e + 1) e cols (Nat.lt_succ_self _) h2 h3 h4 h5).mono fun res fin ⟨e1, t, ok, e2, e3⟩ => by subst e1; subst e3; exact h6 t ok e2
  · exact h.elim
end Go.Proofs.Tryz
namespace Go.Proofs.Tryz
open Go Go.Dm Go.Ex
set_option maxRecDepth 100000
variable {gl : Nat → Option Obj}
def C_r23 : CallT := addC (addC (addC (addC C_4e 46 c_61h) 47 c_62h) 48 c_76g) 49 c_77g
def st_23 (op sub : Int) (t : Ty) (v : Go.Ex.AV) (args : List EX) (cols : List Ty) (x : Nat) : St := { tm := [(1, .d (.sl (cols.map Ty.cs))), (2, .ref 2 0), (4, .ref 4 0), (5, .d (.v (.int .i64 0))), (6, .d (.v (.int .i64 (x : Int))))], hp := [(2, .box [.d (.v (.int .i64 op)), .d (.v (.int .i64 sub)), .d (.v (.int .i64 t.k)), .d (.v (.int .i64 t.sc)), .d (.v (.int .i64 v.t.k)), .d (.v (.int .i64 v.t.sc)), .d (.v (.bool v.nul)), .d (.v (.int .i64 v.n)), .d (.v (.string v.s)), .d (.sl (cellsL args))]), (4, .box [.d (.v (.int .i64 0)), .d (.v (.int .i64 0))])], kn := [], gd := [] }
def inv_23 (cols : List Ty) (m : Nat) (x : Nat) : Prop := x ≤ cols.length ∧ m = cols.length - x ∧ (cols.take x).any badT = false
def fx_23 (op sub : Int) (t : Ty) (v : Go.Ex.AV) (args : List EX) (cols : List Ty) : Fi := { fi16 with lx := [(2, { X := Nat, sh := st_23 op sub t v args cols, P := fun _ => inv_23 cols })] }
theorem vc23 (op sub : Int) (t : Ty) (v : Go.Ex.AV) (args : List EX) (cols : List Ty) (Q : List R → List (List D) → Prop) : vc E_0 C_r23 noI (fx_23 op sub t v args cols) (f16.body.getD .skip) f16.results.toList [.agg (encX op sub t v (cellsL args)), .d (.sl (cols.map Ty.cs))] Q = ( ∃ (x0 : { X := Nat, sh := st_23 op sub t v args cols, P := fun (x : Nat) => inv_23 cols : LX }.X), ({ tm := [((1 : Nat), V.d (D.sl (List.map Ty.cs cols))), ((2 : Nat), V.ref ((2 : Nat)) ((0 : Nat))), ((4 : Nat), V.ref ((4 : Nat)) ((0 : Nat))), ((5 : Nat), V.d (D.v (Value.int .i64 0))), ((6 : Nat), V.d (D.v (Value.int .i64 0)))], hp := [((2 : Nat), B.box [V.d (D.v (Value.int .i64 op)), V.d (D.v (Value.int .i64 sub)), V.d (D.v (Value.int .i64 t.1)), V.d (D.v (Value.int .i64 t.2)), V.d (D.v (Value.int .i64 v.1.1)), V.d (D.v (Value.int .i64 v.1.2)), V.d (D.v (Value.bool v.2)), V.d (D.v (Value.int .i64 v.3)), V.d (D.v (Value.string v.4)), V.d (D.sl (cellsL args))]), ((4 : Nat), B.box [V.d (D.v (Value.int .i64 0)), V.d (D.v (Value.int .i64 0))])], kn := [], gd := [] : St } = { tm := [((1 : Nat), V.d (D.sl (List.map Ty.cs cols))), ((2 : Nat), V.ref ((2 : Nat)) ((0 : Nat))), ((4 : Nat), V.ref ((4 : Nat)) ((0 : Nat))), ((5 : Nat), V.d (D.v (Value.int .i64 0))), ((6 : Nat), V.d (D.v (Value.int .i64 (↑x0 : Int))))], hp := [((2 : Nat), B.box [V.d (D.v (Value.int .i64 op)), V.d (D.v (Value.int .i64 sub)), V.d (D.v (Value.int .i64 t.1)), V.d (D.v (Value.int .i64 t.2)), V.d (D.v (Value.int .i64 v.1.1)), V.d (D.v (Value.int .i64 v.1.2)), V.d (D.v (Value.bool v.2)), V.d (D.v (Value.int .i64 v.3)), V.d (D.v (Value.string v.4)), V.d (D.sl (cellsL args))]), ((4 : Nat), B.box [V.d (D.v (Value.int .i64 0)), V.d (D.v (Value.int .i64 0))])], kn := [], gd := [] : St } ∧ ∃ (n : Nat), inv_23 cols n x0) ∧ ∀ (n : Nat) (x : { X := Nat, sh := st_23 op sub t v args cols, P := fun (x : Nat) => inv_23 cols : LX }.X), inv_23 cols n x → ∃ (es : List (List D)), D.sl (List.map Ty.cs cols) = D.sl es ∧ (decide ((↑x : Int) < (↑es.length : Int)) = true → ∃ (es : List (List D)), D.sl (List.map Ty.cs cols) = D.sl es ∧ ((0 : Int) ≤ (↑x : Int) ∧ (↑x : Int) < (↑es.length : Int)) ∧ ∃ (cells : List D), es[(↑x : Int).toNat]? = some cells ∧ cells.length = (2 : Nat) ∧ ∃ (n_1 : Int), ∃ (n_2 : Int), cut ((0 : Nat)) ((2 : Nat)) cells = some [D.v (Value.int .i64 n_1), D.v (Value.int .i64 n_2)] ∧ ((s67_0 n_1 n_2 != (0 : Int)) = true → Q [.agg [.v (.int .i64 0), .v (.int .i64 0)], .d (.v (.int .i64 140))] []) ∧ ((s67_0 n_1 n_2 != (0 : Int)) = false → ∃ (m : Nat), ∃ (x' : { X := Nat, sh := st_23 op sub t v args cols, P := fun (x : Nat) => inv_23 cols : LX }.X), m < n ∧ { tm := [((1 : Nat), V.d (D.sl (List.map Ty.cs cols))), ((2 : Nat), V.ref ((2 : Nat)) ((0 : Nat))), ((4 : Nat), V.ref ((4 : Nat)) ((0 : Nat))), ((5 : Nat), V.d (D.v (Value.int .i64 0))), ((6 : Nat), V.d (D.v (Value.int .i64 (IntKind.i64.wrap ((↑x : Int) + (1 : Int))))))], hp := [((2 : Nat), B.box [V.d (D.v (Value.int .i64 op)), V.d (D.v (Value.int .i64 sub)), V.d (D.v (Value.int .i64 t.1)), V.d (D.v (Value.int .i64 t.2)), V.d (D.v (Value.int .i64 v.1.1)), V.d (D.v (Value.int .i64 v.1.2)), V.d (D.v (Value.bool v.2)), V.d (D.v (Value.int .i64 v.3)), V.d (D.v (Value.string v.4)), V.d (D.sl (cellsL args))]), ((4 : Nat), B.box [V.d (D.v (Value.int .i64 0)), V.d (D.v (Value.int .i64 0))])], kn := [], gd := [] : St } = { tm := [((1 : Nat), V.d (D.sl (List.map Ty.cs cols))), ((2 : Nat), V.ref ((2 : Nat)) ((0 : Nat))), ((4 : Nat), V.ref ((4 : Nat)) ((0 : Nat))), ((5 : Nat), V.d (D.v (Value.int .i64 0))), ((6 : Nat), V.d (D.v (Value.int .i64 (↑x' : Int))))], hp := [((2 : Nat), B.box [V.d (D.v (Value.int .i64 op)), V.d (D.v (Value.int .i64 sub)), V.d (D.v (Value.int .i64 t.1)), V.d (D.v (Value.int .i64 t.2)), V.d (D.v (Value.int .i64 v.1.1)), V.d (D.v (Value.int .i64 v.1.2)), V.d (D.v (Value.bool v.2)), V.d (D.v (Value.int .i64 v.3)), V.d (D.v (Value.string v.4)), V.d (D.sl (cellsL args))]), ((4 : Nat), B.box [V.d (D.v (Value.int .i64 0)), V.d (D.v (Value.int .i64 0))])], kn := [], gd := [] : St } ∧ inv_23 cols m x')) ∧ (decide ((↑x : Int) < (↑es.length : Int)) = false → ∃ (e : EX), [D.v (Value.int .i64 op), D.v (Value.int .i64 sub), D.v (Value.int .i64 t.1), D.v (Value.int .i64 t.2), D.v (Value.int .i64 v.1.1), D.v (Value.int .i64 v.1.2), D.v (Value.bool v.2), D.v (Value.int .i64 v.3), D.v (Value.string v.4), D.sl (cellsL args)] = cells e ∧ fits e ∧ ∃ (e_1 : EX), [D.v (Value.int .i64 op), D.v (Value.int .i64 sub), D.v (Value.int .i64 t.1), D.v (Value.int .i64 t.2), D.v (Value.int .i64 v.1.1), D.v (Value.int .i64 v.1.2), D.v (Value.bool v.2), D.v (Value.int .i64 v.3), D.v (Value.string v.4), D.sl (cellsL args)] = cells e_1 ∧ fits e_1 ∧ ∃ (es : List (List D)), D.sl (List.map Ty.cs cols) = D.sl es ∧ ∃ (e_2 : EX), [D.v (Value.int .i64 op), D.v (Value.int .i64 sub), D.v (Value.int .i64 t.1), D.v (Value.int .i64 t.2), D.v (Value.int .i64 v.1.1), D.v (Value.int .i64 v.1.2), D.v (Value.bool v.2), D.v (Value.int .i64 v.3), D.v (Value.string v.4), D.sl (cellsL args)] = cells e_2 ∧ fits e_2 ∧ ((bif bif decide (nodes e > (256 : Int)) then true else decide (deep e_1 > (24 : Int)) then true else !mayE (↑es.length : Int) e_2) = true → Q [.agg [.v (.int .i64 0), .v (.int .i64 0)], .d (.v (.int .i64 140))] []) ∧ ((bif bif decide (nodes e > (256 : Int)) then true else decide (deep e_1 > (24 : Int)) then true else !mayE (↑es.length : Int) e_2) = false → ∃ (e : EX), ∃ (cols_1 : List Ty), [D.v (Value.int .i64 op), D.v (Value.int .i64 sub), D.v (Value.int .i64 t.1), D.v (Value.int .i64 t.2), D.v (Value.int .i64 v.1.1), D.v (Value.int .i64 v.1.2), D.v (Value.bool v.2), D.v (Value.int .i64 v.3), D.v (Value.string v.4), D.sl (cellsL args)] = cells e ∧ List.map Ty.cs cols = List.map Ty.cs cols_1 ∧ fits e ∧ mayE (↑cols_1.length : Int) e = true ∧ (∀ (t : Ty), t ∈ cols_1 → goodT t) ∧ cols_1.length ≤ (1353245080300 : Nat) ∧ ∀ (t : Ty) (ok : Bool), agree (typedE cols_1 e) (t, ok) → ((!ok) = true → Q [.agg [.v (.int .i64 0), .v (.int .i64 0)], .d (.v (.int .i64 21))] []) ∧ ((!ok) = false → Q [.agg [.v (.int .i64 t.1), .v (.int .i64 t.2)], .d (.v (.int .i64 0))] [])))) := by kernel_rfl
theorem bad_eq (t : Ty) : badT t = (s67_0 t.k t.sc != 0) := by rw [s67_60]; rfl
theorem good_all {cols : List Ty} (h : cols.any badT = false) : ∀ t ∈ cols, goodT t := by
  intro t ht
  have h2 : badT t = false := by
    rw [Bool.eq_false_iff]; intro h3
    have : cols.any badT = true := List.any_eq_true.2 ⟨t, ht, h3⟩
    rw [h] at this; cases this
  unfold badT s59_0 at h2
  unfold goodT
  simpa [bne] using h2
theorem ct23 : ∀ (e : EX) (cols : List Ty), fits e → cols.length ≤ 1353245080300 → Ct prog gl 16 [.agg (cells e), .d (.sl (cols.map Ty.cs))] (gives [.agg (checkE cols e).1.cs, .d (.v (.int .i64 (checkE cols e).2))])
  | .mk op sub t v args, cols, hf, hcl => by
    have hC : CallsOk prog gl C_r23 := addC_ok (addC_ok (addC_ok (addC_ok C_4e_ok c_61h_ok) c_62h_ok) c_76g_ok) c_77g_ok
    rw [cells_mk]
    refine ct_of_vc E_ok hC ioK_no it_ok mixed (fn := f16) (body := f16.body.getD .skip) (by kernel_rfl) (by kernel_rfl) (by kernel_rfl) (fi := fx_23 op sub t v args cols) (by kernel_rfl) (by kernel_rfl) ⟨_, _, rfl, rfl⟩ ?_
    rw [vc23]
    have hc : encX op sub t v (cellsL args) = cells (.mk op sub t v args) := (cells_mk _ _ _ _ _).symm
    refine ⟨(0 : Nat), ⟨rfl, cols.length, Nat.zero_le _, rfl, by simp⟩, fun m (x : Nat) hx => ⟨_, rfl, fun hi => ?_, fun hi => ?_⟩⟩
    · have hi : x < cols.length := by simpa using hi
      have hg := ty_get hi
      have hm := hx.2.1
      refine ⟨_, rfl, ⟨by omega, by rw [List.length_map]; omega⟩, _, hg, rfl, _, _, rfl, fun h => ?_, fun h => ⟨cols.length - (x + 1), x + 1, by omega, ?_, hi, rfl, ?_⟩⟩
      · have : cols.any badT = true := List.any_eq_true.2 ⟨cols[x], List.getElem_mem hi, by rw [bad_eq]; exact h⟩
        unfold checkE
        rw [this]; exact ⟨rfl, rfl⟩
      · rw [wrap_next (by omega)]
      · rw [take_succ_get cols hi, List.any_append, hx.2.2]
        simp only [List.any_cons, List.any_nil, Bool.false_or, Bool.or_false]
        rw [bad_eq]; exact h
    · have hi : ¬ x < cols.length := by simpa using hi
      have h2 := hx.2.2
      rw [List.take_of_length_le (by omega)] at h2
      have hgc := good_all h2
      refine ⟨.mk op sub t v args, hc, hf, .mk op sub t v args, hc, hf, _, rfl, .mk op sub t v args, hc, hf, fun h => ?_, fun h => ?_⟩
      · rw [List.length_map] at h
        unfold checkE
        rw [h2, cond_false, h]; exact ⟨rfl, rfl⟩
      · rw [List.length_map] at h
        refine ⟨.mk op sub t v args, cols, hc, rfl, hf, ?_, hgc, hcl, fun t' ok ht => ⟨fun h3 => ?_, fun h3 => ?_⟩⟩
        · revert h
          cases mayE (cols.length : Int) (.mk op sub t v args) <;> cases decide (nodes (EX.mk op sub t v args) > 256) <;> cases decide (deep (EX.mk op sub t v args) > 24) <;> simp
        · have hok : ok = false := by simpa using h3
          have h4 : (typedE cols (.mk op sub t v args)).2 = false := by rw [← hok]; exact ht.1.symm
          unfold checkE
          rw [h2, cond_false, h, cond_false, h4]
          exact ⟨rfl, rfl⟩
        · have hok : ok = true := by simpa using h3
          have h4 : (typedE cols (.mk op sub t v args)).2 = true := by rw [← hok]; exact ht.1.symm
          have h5 : t' = (typedE cols (.mk op sub t v args)).1 := ht.2 h4
          unfold checkE
          rw [h2, cond_false, h, cond_false, h4, h5]
          exact ⟨rfl, rfl⟩
def c_23 (a : List R) (K : List R → List (List D) → Prop) : Prop := match a with
  | [.agg x, .d (.sl y)] => ∃ (e : EX) (cols : List Ty), x = cells e ∧ y = cols.map Ty.cs ∧ fits e ∧ cols.length ≤ 1353245080300 ∧ (∀ (t : Ty) (f : Int), checkE cols e = (t, f) → K [.agg t.cs, .d (.v (.int .i64 f))] [])
  | _ => False
theorem c_23_ok (a : List R) (K : List R → List (List D) → Prop) (h : c_23 a K) : Ct prog gl 16 a K := by
  unfold c_23 at h
  split at h
  · obtain ⟨e, cols, rfl, rfl, h1, h2, h3⟩ := h
    exact (ct23 e cols h1 h2).gives (h3 _ _ rfl)
  · exact h.elim
end Go.Proofs.Tryz
namespace Go.Proofs.Tryz
open Go Go.Dm Go.Ex
set_option maxRecDepth 100000
variable {gl : Nat → Option Obj}
/-- number. -/
def numT (t : Ty) : Bool := s82_0 t.k t.sc
/-- AggType. -/
def aggT (k : Int) (d : Bool) (arg : List EX) (cols : List Ty) : Ty × Int :=
  bif decide (k < 1) || decide (k > 4) then (⟨0, 0⟩, 184) else match arg with
  | [] => bif d || k != 1 then (⟨0, 0⟩, 184) else (⟨2, 0⟩, 0)
  | [e] => bif (checkE cols e).2 != 0 then (⟨0, 0⟩, (checkE cols e).2) else bif k == 1 then (⟨2, 0⟩, 0) else bif k == 2 && !numT (checkE cols e).1 then (⟨0, 0⟩, 21) else ((checkE cols e).1, 0)
  | _ :: _ :: _ => (⟨0, 0⟩, 184)
theorem vc37 (k : Int) (d : Bool) (arg : List EX) (cols : List Ty) (Q : List R → List (List D) → Prop) : vc E_0 C_g5 noI fi5 (f5.body.getD .skip) f5.results.toList [.agg [.v (.int .i64 k), .v (.bool d), .sl (cellsL arg)], .d (.sl (cols.map Ty.cs))] Q = ( ∃ (es : List (List D)), D.sl (cellsL arg) = D.sl es ∧ ((bif bif bif decide (k < (1 : Int)) then true else decide (k > (4 : Int)) then true else decide ((↑es.length : Int) > (1 : Int)) then true else bif (↑es.length : Int) == (0 : Int) then bif d then true else k != (1 : Int) else false) = true → Q [.agg [.v (.int .i64 0), .v (.int .i64 0)], .d (.v (.int .i64 184))] []) ∧ ((bif bif bif decide (k < (1 : Int)) then true else decide (k > (4 : Int)) then true else decide ((↑es.length : Int) > (1 : Int)) then true else bif (↑es.length : Int) == (0 : Int) then bif d then true else k != (1 : Int) else false) = false → (((↑es.length : Int) == (0 : Int)) = true → Q [.agg [.v (.int .i64 2), .v (.int .i64 0)], .d (.v (.int .i64 0))] []) ∧ (((↑es.length : Int) == (0 : Int)) = false → ∃ (es : List (List D)), D.sl (cellsL arg) = D.sl es ∧ ((0 : Int) ≤ (0 : Int) ∧ (0 : Int) < (↑es.length : Int)) ∧ ∃ (cells : List D), es[Int.toNat (0 : Int)]? = some cells ∧ cells.length = (10 : Nat) ∧ ∃ (n : Int), ∃ (n_1 : Int), ∃ (n_2 : Int), ∃ (n_3 : Int), ∃ (n_4 : Int), ∃ (n_5 : Int), ∃ (b : Bool), ∃ (n_6 : Int), ∃ (b_1 : ByteArray), ∃ (es : List (List D)), cut ((0 : Nat)) ((10 : Nat)) cells = some [D.v (Value.int .i64 n), D.v (Value.int .i64 n_1), D.v (Value.int .i64 n_2), D.v (Value.int .i64 n_3), D.v (Value.int .i64 n_4), D.v (Value.int .i64 n_5), D.v (Value.bool b), D.v (Value.int .i64 n_6), D.v (Value.string b_1), D.sl es] ∧ ∃ (e : EX), ∃ (cols_1 : List Ty), [D.v (Value.int .i64 n), D.v (Value.int .i64 n_1), D.v (Value.int .i64 n_2), D.v (Value.int .i64 n_3), D.v (Value.int .i64 n_4), D.v (Value.int .i64 n_5), D.v (Value.bool b), D.v (Value.int .i64 n_6), D.v (Value.string b_1), D.sl es] = Ex.cells e ∧ List.map Ty.cs cols = List.map Ty.cs cols_1 ∧ fits e ∧ cols_1.length ≤ (4398046511104 : Nat) ∧ ∀ (t : Ty) (f : Int), checkE cols_1 e = (t, f) → ((f != (0 : Int)) = true → Q [.agg [.v (.int .i64 0), .v (.int .i64 0)], .d (.v (.int .i64 f))] []) ∧ ((f != (0 : Int)) = false → ((k == (1 : Int)) = true → Q [.agg [.v (.int .i64 2), .v (.int .i64 0)], .d (.v (.int .i64 0))] []) ∧ ((k == (1 : Int)) = false → ((bif k == (2 : Int) then !s82_0 t.1 t.2 else false) = true → Q [.agg [.v (.int .i64 0), .v (.int .i64 0)], .d (.v (.int .i64 21))] []) ∧ ((bif k == (2 : Int) then !s82_0 t.1 t.2 else false) = false → Q [.agg [.v (.int .i64 t.1), .v (.int .i64 t.2)], .d (.v (.int .i64 0))] [])))))) := by kernel_rfl
theorem ct37 (k : Int) (d : Bool) (arg : List EX) (cols : List Ty) (hf : fitsL arg) (hcl : cols.length ≤ 1353245080300) : Ct prog gl 5 [.agg [.v (.int .i64 k), .v (.bool d), .sl (cellsL arg)], .d (.sl (cols.map Ty.cs))] (gives [.agg (aggT k d arg cols).1.cs, .d (.v (.int .i64 (aggT k d arg cols).2))]) := by
  refine ct_of_vc E_ok C_g5_ok ioK_no it_ok mixed (fn := f5) (body := f5.body.getD .skip) (by kernel_rfl) (by kernel_rfl) (by kernel_rfl) (fi := fi5) (by kernel_rfl) (by kernel_rfl) ⟨_, _, rfl, rfl⟩ ?_
  rw [vc37]
  refine ⟨cellsL arg, rfl, ?_⟩
  unfold aggT
  rcases arg with _ | ⟨e, _ | ⟨e2, r⟩⟩
  · have e1 : decide ((((cellsL []).length : Nat) : Int) > 1) = false := by rw [cellsL_len]; rfl
    have e0 : ((((cellsL []).length : Nat) : Int) == 0) = true := by rw [cellsL_len]; rfl
    rw [e1, e0]
    generalize decide (k < 1) = a1
    generalize decide (k > 4) = a4
    cases a1 <;> cases a4 <;> cases d <;> cases (k != 1) <;>
      exact ⟨fun h => (by first | (cases h; done) | exact ⟨rfl, rfl⟩), fun h => (by first | (cases h; done) | exact ⟨fun _ => ⟨rfl, rfl⟩, fun h => (by cases h)⟩)⟩
  · obtain ⟨op, sub, t, v, args⟩ := e
    simp only [fitsL] at hf
    have e1 : decide ((((cellsL [.mk op sub t v args]).length : Nat) : Int) > 1) = false := by rw [cellsL_len]; rfl
    have e0 : ((((cellsL [.mk op sub t v args]).length : Nat) : Int) == 0) = false := by rw [cellsL_len]; rfl
    have eg : (cellsL [.mk op sub t v args])[Int.toNat 0]? = some (encX op sub t v (cellsL args)) := by simp only [cellsL, cells_mk]; rfl
    have el : (0 : Int) < (((cellsL [.mk op sub t v args]).length : Nat) : Int) := by rw [cellsL_len]; exact Int.zero_lt_one
    rw [e1, e0]
    generalize decide (k < 1) = a1
    generalize decide (k > 4) = a4
    cases a1 <;> cases a4
    · refine ⟨fun h => (by cases h), fun _ => ⟨fun h => (by cases h), fun _ => ⟨_, rfl, ⟨by decide, el⟩, _, eg, rfl, op, sub, t.k, t.sc, v.t.k, v.t.sc, v.nul, v.n, v.s, cellsL args, rfl, .mk op sub t v args, cols, (cells_mk _ _ _ _ _).symm, rfl, hf.1, by omega, fun t1 g1 hk => ?_⟩⟩⟩
      dsimp only [Bool.or_false]
      rw [hk]
      dsimp only
      have en : numT t1 = s82_0 t1.k t1.sc := rfl
      rw [en]
      cases h1 : g1 != 0 with
      | true => exact ⟨fun _ => ⟨rfl, rfl⟩, fun h => (by cases h)⟩
      | false =>
        cases h2 : k == 1 <;> cases h3 : k == 2 <;> cases h4 : s82_0 t1.k t1.sc <;> first
          | exact absurd h3 (by rw [beq_iff_eq] at h2; subst h2; decide)
          | exact ⟨fun h => (by cases h), fun _ => by repeat' (first | (refine And.intro ?_ ?_) | rfl | (intro h; first | (cases h; done) | skip))⟩
    all_goals exact ⟨fun h => ⟨rfl, rfl⟩, fun h => (by cases h)⟩
  · have e1 : decide ((((cellsL (e :: e2 :: r)).length : Nat) : Int) > 1) = true := decide_eq_true (by rw [cellsL_len]; simp only [List.length_cons]; omega)
    rw [e1]
    generalize decide (k < 1) = a1
    generalize decide (k > 4) = a4
    cases a1 <;> cases a4 <;> exact ⟨fun h => ⟨rfl, rfl⟩, fun h => (by cases h)⟩
def c_37 (a : List R) (K : List R → List (List D) → Prop) : Prop := match a with
  | [.agg [.v (.int .i64 k), .v (.bool d), .sl x], .d (.sl y)] => ∃ (arg : List EX) (cols : List Ty), x = cellsL arg ∧ y = cols.map Ty.cs ∧ fitsL arg ∧ cols.length ≤ 1353245080300 ∧ ∀ (t : Ty) (f : Int), aggT k d arg cols = (t, f) → K [.agg t.cs, .d (.v (.int .i64 f))] []
  | _ => False
theorem c_37_ok (a : List R) (K : List R → List (List D) → Prop) (h : c_37 a K) : Ct prog gl 5 a K := by
  unfold c_37 at h
  split at h
  · obtain ⟨arg, cols, rfl, rfl, h1, h2, h3⟩ := h
    exact (ct37 _ _ arg cols h1 h2).gives (h3 _ _ rfl)
  · exact h.elim
def C_q23 : CallT := addC C_g5 16 c_23
theorem C_q23_ok : CallsOk prog gl C_q23 := addC_ok C_g5_ok c_23_ok
theorem vc38 (k : Int) (d : Bool) (arg : List EX) (cols : List Ty) (Q : List R → List (List D) → Prop) : vc E_0 C_q23 noI fi6 (f6.body.getD .skip) f6.results.toList [.agg [.v (.int .i64 k), .v (.bool d), .sl (cellsL arg)], .d (.sl (cols.map Ty.cs))] Q = ( ∃ (es : List (List D)), D.sl (cellsL arg) = D.sl es ∧ ∃ (es_1 : List (List D)), D.sl (cellsL arg) = D.sl es_1 ∧ ((bif bif bif decide (k < (1 : Int)) then true else decide (k > (4 : Int)) then true else decide ((↑es.length : Int) > (1 : Int)) then true else bif (↑es_1.length : Int) == (0 : Int) then bif k != (1 : Int) then true else d else false) = true → Q [.agg [.v (.int .i64 0), .v (.int .i64 0)], .d (.v (.int .i64 184))] []) ∧ ((bif bif bif decide (k < (1 : Int)) then true else decide (k > (4 : Int)) then true else decide ((↑es.length : Int) > (1 : Int)) then true else bif (↑es_1.length : Int) == (0 : Int) then bif k != (1 : Int) then true else d else false) = false → ∃ (es : List (List D)), D.sl (cellsL arg) = D.sl es ∧ (((↑es.length : Int) == (0 : Int)) = true → Q [.agg [.v (.int .i64 2), .v (.int .i64 0)], .d (.v (.int .i64 0))] []) ∧ (((↑es.length : Int) == (0 : Int)) = false → ∃ (es : List (List D)), D.sl (cellsL arg) = D.sl es ∧ ((0 : Int) ≤ (0 : Int) ∧ (0 : Int) < (↑es.length : Int)) ∧ ∃ (cells : List D), es[Int.toNat (0 : Int)]? = some cells ∧ cells.length = (10 : Nat) ∧ ∃ (n : Int), ∃ (n_1 : Int), ∃ (n_2 : Int), ∃ (n_3 : Int), ∃ (n_4 : Int), ∃ (n_5 : Int), ∃ (b : Bool), ∃ (n_6 : Int), ∃ (b_1 : ByteArray), ∃ (es : List (List D)), cut ((0 : Nat)) ((10 : Nat)) cells = some [D.v (Value.int .i64 n), D.v (Value.int .i64 n_1), D.v (Value.int .i64 n_2), D.v (Value.int .i64 n_3), D.v (Value.int .i64 n_4), D.v (Value.int .i64 n_5), D.v (Value.bool b), D.v (Value.int .i64 n_6), D.v (Value.string b_1), D.sl es] ∧ ∃ (e : EX), ∃ (cols_1 : List Ty), [D.v (Value.int .i64 n), D.v (Value.int .i64 n_1), D.v (Value.int .i64 n_2), D.v (Value.int .i64 n_3), D.v (Value.int .i64 n_4), D.v (Value.int .i64 n_5), D.v (Value.bool b), D.v (Value.int .i64 n_6), D.v (Value.string b_1), D.sl es] = Ex.cells e ∧ List.map Ty.cs cols = List.map Ty.cs cols_1 ∧ fits e ∧ cols_1.length ≤ (1353245080300 : Nat) ∧ ∀ (t : Ty) (f : Int), checkE cols_1 e = (t, f) → ((f != (0 : Int)) = true → Q [.agg [.v (.int .i64 0), .v (.int .i64 0)], .d (.v (.int .i64 f))] []) ∧ ((f != (0 : Int)) = false → ((bif k == (2 : Int) then !s83_0 t.1 t.2 else false) = true → Q [.agg [.v (.int .i64 0), .v (.int .i64 0)], .d (.v (.int .i64 21))] []) ∧ ((bif k == (2 : Int) then !s83_0 t.1 t.2 else false) = false → ((k == (1 : Int)) = true → Q [.agg [.v (.int .i64 2), .v (.int .i64 0)], .d (.v (.int .i64 0))] []) ∧ ((k == (1 : Int)) = false → Q [.agg [.v (.int .i64 t.1), .v (.int .i64 t.2)], .d (.v (.int .i64 0))] [])))))) := by kernel_rfl
theorem ct38 (k : Int) (d : Bool) (arg : List EX) (cols : List Ty) (hf : fitsL arg) (hcl : cols.length ≤ 1353245080300) : Ct prog gl 6 [.agg [.v (.int .i64 k), .v (.bool d), .sl (cellsL arg)], .d (.sl (cols.map Ty.cs))] (gives [.agg (aggT k d arg cols).1.cs, .d (.v (.int .i64 (aggT k d arg cols).2))]) := by
  refine ct_of_vc E_ok C_q23_ok ioK_no it_ok mixed (fn := f6) (body := f6.body.getD .skip) (by kernel_rfl) (by kernel_rfl) (by kernel_rfl) (fi := fi6) (by kernel_rfl) (by kernel_rfl) ⟨_, _, rfl, rfl⟩ ?_
  rw [vc38]
  refine ⟨cellsL arg, rfl, cellsL arg, rfl, ?_⟩
  unfold aggT
  rcases arg with _ | ⟨e, _ | ⟨e2, r⟩⟩
  · have e1 : decide ((((cellsL []).length : Nat) : Int) > 1) = false := by rw [cellsL_len]; rfl
    have e0 : ((((cellsL []).length : Nat) : Int) == 0) = true := by rw [cellsL_len]; rfl
    rw [e1, e0]
    generalize decide (k < 1) = a1
    generalize decide (k > 4) = a4
    cases a1 <;> cases a4 <;> cases d <;> cases (k != 1) <;>
      exact ⟨fun h => (by first | (cases h; done) | exact ⟨rfl, rfl⟩), fun h => (by first | (cases h; done) | exact ⟨_, rfl, fun _ => ⟨rfl, rfl⟩, fun h => (by rw [e0] at h; cases h)⟩)⟩
  · obtain ⟨op, sub, t, v, args⟩ := e
    simp only [fitsL] at hf
    have e1 : decide ((((cellsL [.mk op sub t v args]).length : Nat) : Int) > 1) = false := by rw [cellsL_len]; rfl
    have e0 : ((((cellsL [.mk op sub t v args]).length : Nat) : Int) == 0) = false := by rw [cellsL_len]; rfl
    have eg : (cellsL [.mk op sub t v args])[Int.toNat 0]? = some (encX op sub t v (cellsL args)) := by simp only [cellsL, cells_mk]; rfl
    have el : (0 : Int) < (((cellsL [.mk op sub t v args]).length : Nat) : Int) := by rw [cellsL_len]; exact Int.zero_lt_one
    rw [e1, e0]
    generalize decide (k < 1) = a1
    generalize decide (k > 4) = a4
    cases a1 <;> cases a4
    · refine ⟨fun h => (by cases h), fun _ => ⟨_, rfl, fun h => (by rw [e0] at h; cases h), fun _ => ⟨_, rfl, ⟨by decide, el⟩, _, eg, rfl, op, sub, t.k, t.sc, v.t.k, v.t.sc, v.nul, v.n, v.s, cellsL args, rfl, .mk op sub t v args, cols, (cells_mk _ _ _ _ _).symm, rfl, hf.1, by omega, fun t1 g1 hk => ?_⟩⟩⟩
      dsimp only [Bool.or_false]
      rw [hk]
      dsimp only
      have en : numT t1 = s83_0 t1.k t1.sc := rfl
      rw [en]
      cases h1 : g1 != 0 with
      | true => exact ⟨fun _ => ⟨rfl, rfl⟩, fun h => (by cases h)⟩
      | false =>
        cases h2 : k == 1 <;> cases h3 : k == 2 <;> cases h4 : s83_0 t1.k t1.sc <;> first
          | exact absurd h3 (by rw [beq_iff_eq] at h2; subst h2; decide)
          | exact ⟨fun h => (by cases h), fun _ => by repeat' (first | (refine And.intro ?_ ?_) | rfl | (intro h; first | (cases h; done) | skip))⟩
    all_goals exact ⟨fun h => ⟨rfl, rfl⟩, fun h => (by cases h)⟩
  · have e1 : decide ((((cellsL (e :: e2 :: r)).length : Nat) : Int) > 1) = true := decide_eq_true (by rw [cellsL_len]; simp only [List.length_cons]; omega)
    rw [e1]
    generalize decide (k < 1) = a1
    generalize decide (k > 4) = a4
    cases a1 <;> cases a4 <;> exact ⟨fun h => ⟨rfl, rfl⟩, fun h => (by cases h)⟩
def c_38 (a : List R) (K : List R → List (List D) → Prop) : Prop := match a with
  | [.agg [.v (.int .i64 k), .v (.bool d), .sl x], .d (.sl y)] => ∃ (arg : List EX) (cols : List Ty), x = cellsL arg ∧ y = cols.map Ty.cs ∧ fitsL arg ∧ cols.length ≤ 1353245080300 ∧ ∀ (t : Ty) (f : Int), aggT k d arg cols = (t, f) → K [.agg t.cs, .d (.v (.int .i64 f))] []
  | _ => False
theorem c_38_ok (a : List R) (K : List R → List (List D) → Prop) (h : c_38 a K) : Ct prog gl 6 a K := by
  unfold c_38 at h
  split at h
  · obtain ⟨arg, cols, rfl, rfl, h1, h2, h3⟩ := h
    exact (ct38 _ _ arg cols h1 h2).gives (h3 _ _ rfl)
  · exact h.elim
end Go.Proofs.Tryz
namespace Go.Ex
structure BX where
  k : Int
  n : Int
abbrev BX.cs (b : BX) : List Go.Dm.D := [.v (.int .i64 b.k), .v (.int .i64 b.n)]
end Go.Ex
namespace Go.Proofs.Tryz
open Go Go.Dm Go.Ex
set_option maxRecDepth 100000
variable {gl : Nat → Option Obj}
def badB (b : BX) : Bool := s167_0 b.k b.n
def C_q167 : CallT := C_q23
theorem C_q167_ok : CallsOk prog gl C_q167 := C_q23_ok
def st_229 (l : List BX) (x : Nat) : St := { tm := [(0, .d (.sl (l.map BX.cs))), (1, .fn 51 []), (4, .d (.v (.int .i64 0))), (7, .d (.v (.int .i64 ((l.map BX.cs).length : Int)))), (8, .d (.v (.int .i64 (x : Int))))], hp := [], kn := [], gd := [] }
def inv_229 (l : List BX) (m : Nat) (x : Nat) : Prop := (x ≤ l.length ∧ m = l.length - x) ∧ ∀ v ∈ l.take x, badB v = false
def fx_229 (l : List BX) : Fi := { fi90 with lx := [(2, { X := Nat, sh := st_229 l, P := fun _ => inv_229 l })] }
theorem vc229 (l : List BX) (Q : List R → List (List D) → Prop) : vc E_0 C_q167 noI (fx_229 l) (f90.body.getD .skip) f90.results.toList [.d (.sl (l.map BX.cs)), .fn 51 []] Q = ( ∃ (es : List (List D)), D.sl (List.map BX.cs l) = D.sl es ∧ ∃ (x0 : { X := Nat, sh := st_229 l, P := fun (x : Nat) => inv_229 l : LX }.X), ({ tm := [((0 : Nat), V.d (D.sl (List.map BX.cs l))), ((1 : Nat), V.fn ((51 : Nat)) []), ((4 : Nat), V.d (D.v (Value.int .i64 0))), ((7 : Nat), V.d (D.v (Value.int .i64 (↑es.length : Int)))), ((8 : Nat), V.d (D.v (Value.int .i64 0)))], hp := [], kn := [], gd := [] : St } = { tm := [((0 : Nat), V.d (D.sl (List.map BX.cs l))), ((1 : Nat), V.fn ((51 : Nat)) []), ((4 : Nat), V.d (D.v (Value.int .i64 0))), ((7 : Nat), V.d (D.v (Value.int .i64 (↑(List.map BX.cs l).length : Int)))), ((8 : Nat), V.d (D.v (Value.int .i64 (↑x0 : Int))))], hp := [], kn := [], gd := [] : St } ∧ ∃ (n : Nat), inv_229 l n x0) ∧ ∀ (n : Nat) (x : { X := Nat, sh := st_229 l, P := fun (x : Nat) => inv_229 l : LX }.X), inv_229 l n x → (decide ((↑x : Int) < (↑(List.map BX.cs l).length : Int)) = true → ∃ (es : List (List D)), D.sl (List.map BX.cs l) = D.sl es ∧ ((0 : Int) ≤ (↑x : Int) ∧ (↑x : Int) < (↑es.length : Int)) ∧ ∃ (cells : List D), es[(↑x : Int).toNat]? = some cells ∧ cells.length = (2 : Nat) ∧ ∃ (n_1 : Int), ∃ (n_2 : Int), cut ((0 : Nat)) ((2 : Nat)) cells = some [D.v (Value.int .i64 n_1), D.v (Value.int .i64 n_2)] ∧ (s167_0 n_1 n_2 = true → Q [.d (.v (.int .i64 (↑x : Int)))] []) ∧ (s167_0 n_1 n_2 = false → ∃ (m : Nat), ∃ (x' : { X := Nat, sh := st_229 l, P := fun (x : Nat) => inv_229 l : LX }.X), m < n ∧ { tm := [((0 : Nat), V.d (D.sl (List.map BX.cs l))), ((1 : Nat), V.fn ((51 : Nat)) []), ((4 : Nat), V.d (D.v (Value.int .i64 0))), ((7 : Nat), V.d (D.v (Value.int .i64 (↑(List.map BX.cs l).length : Int)))), ((8 : Nat), V.d (D.v (Value.int .i64 (IntKind.i64.wrap ((↑x : Int) + (1 : Int))))))], hp := [], kn := [], gd := [] : St } = { tm := [((0 : Nat), V.d (D.sl (List.map BX.cs l))), ((1 : Nat), V.fn ((51 : Nat)) []), ((4 : Nat), V.d (D.v (Value.int .i64 0))), ((7 : Nat), V.d (D.v (Value.int .i64 (↑(List.map BX.cs l).length : Int)))), ((8 : Nat), V.d (D.v (Value.int .i64 (↑x' : Int))))], hp := [], kn := [], gd := [] : St } ∧ inv_229 l m x')) ∧ (decide ((↑x : Int) < (↑(List.map BX.cs l).length : Int)) = false → Q [.d (.v (.int .i64 (-1)))] [])) := by kernel_rfl
theorem ct229 (l : List BX) (hl : l.length < 4611686018427387904) : Ct prog gl 90 [.d (.sl (l.map BX.cs)), .fn 51 []] (fun res fin => fin = [] ∧ ∃ r : Int, res = [.d (.v (.int .i64 r))] ∧ decide (r ≥ 0) = l.any (badB)) :=
  ct_of_vc E_ok C_q167_ok ioK_no it_ok mixed (fn := f90) (body := f90.body.getD .skip) (by kernel_rfl) (by kernel_rfl) (by kernel_rfl) (fi := fx_229 l) (by kernel_rfl) (by kernel_rfl) (by
    cases h : l.any (badB)
    · exact ⟨_, _, rfl, -1, rfl, rfl⟩
    · exact ⟨_, _, rfl, 0, rfl, rfl⟩) (by
    rw [vc229]
    refine ⟨_, rfl, (0 : Nat), ⟨rfl, l.length, ⟨Nat.zero_le _, rfl⟩, by simp⟩, fun m (x : Nat) hx => ⟨fun hi => ?_, fun hi => ?_⟩⟩
    · have hi : x < l.length := by simpa using hi
      have hg : (l.map BX.cs)[((x : Nat) : Int).toNat]? = some (BX.cs l[x]) := by simp [hi]
      have hm := hx.1.2
      refine ⟨_, rfl, ⟨by omega, by simpa using hi⟩, _, hg, rfl, _, _, rfl, fun hb => ?_, fun hb => ?_⟩
      · refine ⟨rfl, (x : Int), rfl, ?_⟩
        rw [decide_eq_true (by omega)]
        exact (List.any_eq_true.2 ⟨l[x], List.getElem_mem hi, hb⟩).symm
      · exact ⟨l.length - (x + 1), x + 1, by omega, by rw [wrap_next (by omega)], ⟨hi, rfl⟩, any_take hi hx.2 hb⟩
    · have hi : ¬ x < l.length := by simpa using hi
      have h := hx.2
      rw [List.take_of_length_le (by omega)] at h
      refine ⟨rfl, -1, rfl, ?_⟩
      rw [any_none h]; rfl)
def c_229 (a : List R) (K : List R → List (List D) → Prop) : Prop := match a with
  | [.d (.sl x), .fn 51 []] => ∃ l : List BX, x = l.map BX.cs ∧ l.length < 4611686018427387904 ∧ ∀ r : Int, decide (r ≥ 0) = l.any (badB) → K [.d (.v (.int .i64 r))] []
  | _ => False
theorem c_229_ok (a : List R) (K : List R → List (List D) → Prop) (h : c_229 a K) : Ct prog gl 90 a K := by
  unfold c_229 at h
  split at h
  · obtain ⟨l, rfl, h1, h2⟩ := h
    exact (ct229 l h1).mono fun res fin ⟨e1, r, e2, e3⟩ => by subst e1; subst e2; exact h2 r e3
  · exact h.elim
def C_q229 : CallT := addC C_q167 90 c_229
theorem C_q229_ok : CallsOk prog gl C_q229 := addC_ok C_q167_ok c_229_ok
theorem vc166 (x : List (List D)) (Q : List R → List (List D) → Prop) : vc E_0 C_q229 noI fi50 (f50.body.getD .skip) f50.results.toList [.d (.sl x), .fn 51 []] Q = ( ∃ (l : List BX), x = List.map BX.cs l ∧ l.length < (4611686018427387904 : Nat) ∧ ∀ (r : Int), decide (r ≥ (0 : Int)) = l.any badB → Q [.d (.v (.bool (decide (r ≥ (0 : Int)))))] []) := by kernel_rfl
def c_166 (a : List R) (K : List R → List (List D) → Prop) : Prop := match a with
  | [.d (.sl x), .fn 51 []] => ∃ l : List BX, x = l.map BX.cs ∧ l.length < 4611686018427387904 ∧ K [.d (.v (.bool (l.any (badB))))] []
  | _ => False
theorem c_166_ok (a : List R) (K : List R → List (List D) → Prop) (h : c_166 a K) : Ct prog gl 50 a K := by
  unfold c_166 at h
  split at h
  · obtain ⟨l, rfl, h1, h2⟩ := h
    refine Ct.gives (r := [.d (.v (.bool (l.any (badB))))]) (ct_of_vc E_ok C_q229_ok ioK_no it_ok mixed (fn := f50) (body := f50.body.getD .skip) (by kernel_rfl) (by kernel_rfl) (by kernel_rfl) (fi := fi50) (by kernel_rfl) (by kernel_rfl) ⟨_, _, rfl, rfl⟩ ?_) h2
    rw [vc166]
    exact ⟨l, rfl, h1, fun r hr => ⟨by rw [hr], rfl⟩⟩
  · exact h.elim
def C_q166 : CallT := addC C_q229 50 c_166
theorem C_q166_ok : CallsOk prog gl C_q166 := addC_ok C_q229_ok c_166_ok
/-- A frame that may be. -/
def okFrame : List BX → Bool
  | [] => true
  | [a, b] => bif a.k == 5 then false else bif b.k == 1 then false else ![a, b].any badB
  | _ => false
theorem okFrame2 (a b : BX) : okFrame [a, b] = bif a.k == 5 then false else bif b.k == 1 then false else ![a, b].any badB := rfl
theorem vc84 (l : List BX) (Q : List R → List (List D) → Prop) : vc E_0 C_q166 noI fi18 (f18.body.getD .skip) f18.results.toList [.d (.sl (l.map BX.cs))] Q = ( ∃ (es : List (List D)), D.sl (List.map BX.cs l) = D.sl es ∧ (((↑es.length : Int) == (0 : Int)) = true → Q [.d (.v (.bool true))] []) ∧ (((↑es.length : Int) == (0 : Int)) = false → ∃ (es : List (List D)), D.sl (List.map BX.cs l) = D.sl es ∧ (((↑es.length : Int) != (2 : Int)) = false → ∃ (es : List (List D)), D.sl (List.map BX.cs l) = D.sl es ∧ ((0 : Int) ≤ (0 : Int) ∧ (0 : Int) < (↑es.length : Int)) ∧ ∃ (cells : List D), es[Int.toNat (0 : Int)]? = some cells ∧ cells.length = (2 : Nat) ∧ ∃ (n : Int), cut ((0 : Nat)) ((1 : Nat)) cells = some [D.v (Value.int .i64 n)] ∧ ((n == (5 : Int)) = false → ∃ (es : List (List D)), D.sl (List.map BX.cs l) = D.sl es ∧ ((0 : Int) ≤ (1 : Int) ∧ (1 : Int) < (↑es.length : Int)) ∧ ∃ (cells : List D), es[Int.toNat (1 : Int)]? = some cells ∧ cells.length = (2 : Nat) ∧ ∃ (n : Int), cut ((0 : Nat)) ((1 : Nat)) cells = some [D.v (Value.int .i64 n)] ∧ ((n == (1 : Int)) = true → Q [.d (.v (.bool false))] []) ∧ ((n == (1 : Int)) = false → ∃ (l_1 : List BX), List.map BX.cs l = List.map BX.cs l_1 ∧ l_1.length < (4611686018427387904 : Nat) ∧ Q [.d (.v (.bool !l_1.any badB))] [])) ∧ ((n == (5 : Int)) = !false → (true = true → Q [.d (.v (.bool false))] []) ∧ (true = false → ∃ (l_1 : List BX), List.map BX.cs l = List.map BX.cs l_1 ∧ l_1.length < (4611686018427387904 : Nat) ∧ Q [.d (.v (.bool !l_1.any badB))] []))) ∧ (((↑es.length : Int) != (2 : Int)) = !false → (true = false → ∃ (es : List (List D)), D.sl (List.map BX.cs l) = D.sl es ∧ ((0 : Int) ≤ (1 : Int) ∧ (1 : Int) < (↑es.length : Int)) ∧ ∃ (cells : List D), es[Int.toNat (1 : Int)]? = some cells ∧ cells.length = (2 : Nat) ∧ ∃ (n : Int), cut ((0 : Nat)) ((1 : Nat)) cells = some [D.v (Value.int .i64 n)] ∧ ((n == (1 : Int)) = true → Q [.d (.v (.bool false))] []) ∧ ((n == (1 : Int)) = false → ∃ (l_1 : List BX), List.map BX.cs l = List.map BX.cs l_1 ∧ l_1.length < (4611686018427387904 : Nat) ∧ Q [.d (.v (.bool !l_1.any badB))] [])) ∧ (true = !false → (true = true → Q [.d (.v (.bool false))] []) ∧ (true = false → ∃ (l_1 : List BX), List.map BX.cs l = List.map BX.cs l_1 ∧ l_1.length < (4611686018427387904 : Nat) ∧ Q [.d (.v (.bool !l_1.any badB))] []))))) := by kernel_rfl
theorem ct84 (l : List BX) (hl : l.length < 4611686018427387904) : Ct prog gl 18 [.d (.sl (l.map BX.cs))] (gives [.d (.v (.bool (okFrame l)))]) := by
  refine ct_of_vc E_ok C_q166_ok ioK_no it_ok mixed (fn := f18) (body := f18.body.getD .skip) (by kernel_rfl) (by kernel_rfl) (by kernel_rfl) (fi := fi18) (by kernel_rfl) (by kernel_rfl) ⟨_, _, rfl, rfl⟩ ?_
  rw [vc84]
  rcases l with _ | ⟨a, _ | ⟨b, _ | ⟨c, r⟩⟩⟩
  · exact ⟨_, rfl, fun _ => ⟨rfl, rfl⟩, fun h => absurd (show ((0 : Int) == 0) = false from h) (by decide)⟩
  · exact ⟨_, rfl, fun h => absurd (show ((1 : Int) == 0) = true from h) (by decide), fun _ => ⟨_, rfl, fun h => absurd (show ((1 : Int) != 2) = false from h) (by decide), fun _ => ⟨fun h => (by cases h), fun _ => ⟨fun _ => ⟨rfl, rfl⟩, fun h => (by cases h)⟩⟩⟩⟩
  · refine ⟨_, rfl, fun h => absurd (show ((2 : Int) == 0) = true from h) (by decide), fun _ => ⟨_, rfl, fun _ => ⟨_, rfl, ⟨by decide, Int.lt_of_lt_of_le (by decide : (0 : Int) < 2) (Int.le_refl _)⟩, _, rfl, rfl, _, rfl, fun h5 => ⟨_, rfl, ⟨by decide, Int.lt_of_lt_of_le (by decide : (1 : Int) < 2) (Int.le_refl _)⟩, _, rfl, rfl, _, rfl, fun h1 => ?_, fun h1 => ⟨[a, b], rfl, by simp only [List.length_cons, List.length_nil]; decide, ?_⟩⟩, fun h5 => ⟨fun _ => ?_, fun h => (by cases h)⟩⟩, fun h => absurd (show ((2 : Int) != 2) = true from h) (by decide)⟩⟩
    · simp only [okFrame, h5, h1, cond_true, cond_false]
      exact ⟨rfl, rfl⟩
    · simp only [okFrame, h5, h1, cond_true, cond_false]
      exact ⟨rfl, rfl⟩
    · have h5 : (a.k == 5) = true := h5
      simp only [okFrame, h5, cond_true, cond_false]
      exact ⟨rfl, rfl⟩
  · have e0 : ((((List.map BX.cs (a :: b :: c :: r)).length : Nat) : Int) == 0) = false := by simp; omega
    have e2 : ((((List.map BX.cs (a :: b :: c :: r)).length : Nat) : Int) != 2) = true := by simp; omega
    exact ⟨_, rfl, fun h => (by rw [e0] at h; cases h), fun _ => ⟨_, rfl, fun h => (by rw [e2] at h; cases h), fun _ => ⟨fun h => (by cases h), fun _ => ⟨fun _ => ⟨rfl, rfl⟩, fun h => (by cases h)⟩⟩⟩⟩
def c_84 (a : List R) (K : List R → List (List D) → Prop) : Prop := match a with
  | [.d (.sl x)] => ∃ l : List BX, x = l.map BX.cs ∧ l.length < 4611686018427387904 ∧ K [.d (.v (.bool (okFrame l)))] []
  | _ => False
theorem c_84_ok (a : List R) (K : List R → List (List D) → Prop) (h : c_84 a K) : Ct prog gl 18 a K := by
  unfold c_84 at h
  split at h
  · obtain ⟨l, rfl, h1, h2⟩ := h
    exact (ct84 l h1).gives h2
  · exact h.elim
/-- The reference's test of one bound at a place. -/
def badI (x : Int) (b : BX) : Bool := bif bif bif bif bif decide (b.k < 1) then true else decide (b.k > 5) then true else decide (b.n < 0) then true else bif b.n != 0 then !bif b.k == 2 then true else b.k == 4 else false then true else bif x == 0 then b.k == 5 else false then true else bif x == 1 then b.k == 1 else false
theorem badI_eq (x : Int) (b : BX) : badI x b = (badB b || (x == 0 && b.k == 5) || (x == 1 && b.k == 1)) := by
  unfold badI badB s167_0
  have h : decide (b.n < 0) = false → (b.n != 0) = decide (b.n > 0) := fun h => by
    have := of_decide_eq_false h
    by_cases h0 : b.n = 0
    · rw [h0]; rfl
    · rw [decide_eq_true (by omega)]; simpa using h0
  revert h
  generalize decide (b.n < 0) = a1
  generalize (b.n != 0) = a2
  generalize decide (b.n > 0) = a3
  intro h
  have e2 : (b.k != 2) = !(b.k == 2) := rfl
  have e4 : (b.k != 4) = !(b.k == 4) := rfl
  rw [e2, e4]
  generalize (b.k == 2) = a4
  generalize (b.k == 4) = a5
  generalize decide (b.k < 1) = a6
  generalize decide (b.k > 5) = a7
  generalize (x == 0) = a8
  generalize (x == 1) = a9
  generalize (b.k == 5) = a10
  generalize (b.k == 1) = a11
  cases a1
  · have := h rfl
    subst this
    revert a2 a4 a5 a6 a7 a8 a9 a10 a11
    decide
  · revert a2 a3 a4 a5 a6 a7 a8 a9 a10 a11
    decide
def inv_168 (l : List BX) (m : Nat) (x : Nat) : Prop := (x ≤ l.length ∧ m = l.length - x) ∧ ∀ i : Nat, ∀ b, i < x → l[i]? = some b → badI i b = false
def st_168 (l : List BX) (x : Nat) : St := { tm := [(0, .d (.sl (l.map BX.cs))), (2, .d (.v (.bool false))), (3, .d (.v (.int .i64 (x : Int))))], hp := [], kn := [], gd := [] }
def fx_168 (l : List BX) : Fi := { fi53 with lx := [(2, { X := Nat, sh := st_168 l, P := fun _ => inv_168 l })] }
theorem vc168 (l : List BX) (Q : List R → List (List D) → Prop) : vc E_0 C_q166 noI (fx_168 l) (f53.body.getD .skip) f53.results.toList [.d (.sl (l.map BX.cs))] Q = ( ∃ (x0 : { X := Nat, sh := st_168 l, P := fun (x : Nat) => inv_168 l : LX }.X), ({ tm := [((0 : Nat), V.d (D.sl (List.map BX.cs l))), ((2 : Nat), V.d (D.v (Value.bool false))), ((3 : Nat), V.d (D.v (Value.int .i64 0)))], hp := [], kn := [], gd := [] : St } = { tm := [((0 : Nat), V.d (D.sl (List.map BX.cs l))), ((2 : Nat), V.d (D.v (Value.bool false))), ((3 : Nat), V.d (D.v (Value.int .i64 (↑x0 : Int))))], hp := [], kn := [], gd := [] : St } ∧ ∃ (n : Nat), inv_168 l n x0) ∧ ∀ (n : Nat) (x : { X := Nat, sh := st_168 l, P := fun (x : Nat) => inv_168 l : LX }.X), inv_168 l n x → ∃ (es : List (List D)), D.sl (List.map BX.cs l) = D.sl es ∧ (decide ((↑x : Int) < (↑es.length : Int)) = true → ∃ (es : List (List D)), D.sl (List.map BX.cs l) = D.sl es ∧ ((0 : Int) ≤ (↑x : Int) ∧ (↑x : Int) < (↑es.length : Int)) ∧ ∃ (cells : List D), es[(↑x : Int).toNat]? = some cells ∧ cells.length = (2 : Nat) ∧ ∃ (n_1 : Int), ∃ (n_2 : Int), cut ((0 : Nat)) ((2 : Nat)) cells = some [D.v (Value.int .i64 n_1), D.v (Value.int .i64 n_2)] ∧ ((bif bif bif bif bif decide (n_1 < (1 : Int)) then true else decide (n_1 > (5 : Int)) then true else decide (n_2 < (0 : Int)) then true else bif n_2 != (0 : Int) then !bif n_1 == (2 : Int) then true else n_1 == (4 : Int) else false then true else bif (↑x : Int) == (0 : Int) then n_1 == (5 : Int) else false then true else bif (↑x : Int) == (1 : Int) then n_1 == (1 : Int) else false) = true → Q [.d (.v (.bool false))] []) ∧ ((bif bif bif bif bif decide (n_1 < (1 : Int)) then true else decide (n_1 > (5 : Int)) then true else decide (n_2 < (0 : Int)) then true else bif n_2 != (0 : Int) then !bif n_1 == (2 : Int) then true else n_1 == (4 : Int) else false then true else bif (↑x : Int) == (0 : Int) then n_1 == (5 : Int) else false then true else bif (↑x : Int) == (1 : Int) then n_1 == (1 : Int) else false) = false → ∃ (m : Nat), ∃ (x' : { X := Nat, sh := st_168 l, P := fun (x : Nat) => inv_168 l : LX }.X), m < n ∧ { tm := [((0 : Nat), V.d (D.sl (List.map BX.cs l))), ((2 : Nat), V.d (D.v (Value.bool false))), ((3 : Nat), V.d (D.v (Value.int .i64 (IntKind.i64.wrap ((↑x : Int) + (1 : Int))))))], hp := [], kn := [], gd := [] : St } = { tm := [((0 : Nat), V.d (D.sl (List.map BX.cs l))), ((2 : Nat), V.d (D.v (Value.bool false))), ((3 : Nat), V.d (D.v (Value.int .i64 (↑x' : Int))))], hp := [], kn := [], gd := [] : St } ∧ inv_168 l m x')) ∧ (decide ((↑x : Int) < (↑es.length : Int)) = false → ∃ (es : List (List D)), D.sl (List.map BX.cs l) = D.sl es ∧ ∃ (es_1 : List (List D)), D.sl (List.map BX.cs l) = D.sl es_1 ∧ Q [.d (.v (.bool (bif (↑es.length : Int) == (0 : Int) then true else (↑es_1.length : Int) == (2 : Int))))] [])) := by kernel_rfl
theorem framed_bad {l : List BX} {x : Nat} {b : BX} (hb : l[x]? = some b) (h : badI x b = true) : okFrame l = false := by
  rw [badI_eq] at h
  rcases l with _ | ⟨a, _ | ⟨c, _ | ⟨d, r⟩⟩⟩
  · cases hb
  · rfl
  · rw [okFrame2]
    match x, hb, h with
    | 0, hb, h =>
      have e := Option.some.inj hb
      subst e
      have h' : (badB a || a.k == 5) = true := by simpa using h
      cases h5 : a.k == 5
      · rw [h5, Bool.or_false] at h'
        rw [cond_false, List.any_cons, h', Bool.true_or]
        cases (c.k == 1) <;> rfl
      · rfl
    | 1, hb, h =>
      have e := Option.some.inj hb
      subst e
      have h' : (badB c || c.k == 1) = true := by simpa using h
      cases h1 : c.k == 1
      · rw [h1, Bool.or_false] at h'
        rw [List.any_cons, List.any_cons, h', Bool.true_or, Bool.or_true]
        cases (a.k == 5) <;> rfl
      · cases (a.k == 5) <;> rfl
    | n + 2, hb, _ => simp at hb
  · rfl
theorem framed_good {l : List BX} (h : ∀ i : Nat, ∀ b, i < l.length → l[i]? = some b → badI i b = false) : okFrame l = (bif ((l.length : Nat) : Int) == 0 then true else ((l.length : Nat) : Int) == 2) := by
  rcases l with _ | ⟨a, _ | ⟨c, _ | ⟨d, r⟩⟩⟩
  · rfl
  · rfl
  · have h0 := h 0 a (by simp) rfl
    have h1 := h 1 c (by simp) rfl
    rw [badI_eq] at h0 h1
    have h0' : badB a = false ∧ (a.k == 5) = false := by simpa using h0
    have h1' : badB c = false ∧ (c.k == 1) = false := by simpa using h1
    rw [okFrame2, h0'.2, h1'.2]
    simp only [cond_false, List.any_cons, List.any_nil, h0'.1, h1'.1]
    rfl
  · have e0 : ((((a :: c :: d :: r).length : Nat) : Int) == 0) = false := by simp; omega
    have e2 : ((((a :: c :: d :: r).length : Nat) : Int) == 2) = false := by simp; omega
    rw [e0, e2]
    rfl
theorem ct168 (l : List BX) (hl : l.length < 4611686018427387904) : Ct prog gl 53 [.d (.sl (l.map BX.cs))] (gives [.d (.v (.bool (okFrame l)))]) := by
  refine ct_of_vc E_ok C_q166_ok ioK_no it_ok mixed (fn := f53) (body := f53.body.getD .skip) (by kernel_rfl) (by kernel_rfl) (by kernel_rfl) (fi := fx_168 l) (by kernel_rfl) (by kernel_rfl) ⟨_, _, rfl, rfl⟩ ?_
  rw [vc168]
  refine ⟨(0 : Nat), ⟨rfl, l.length, ⟨Nat.zero_le _, rfl⟩, fun i b hi => absurd hi (Nat.not_lt_zero _)⟩, fun m (x : Nat) hx => ⟨_, rfl, fun hi => ?_, fun hi => ?_⟩⟩
  · have hi : x < l.length := by simpa using hi
    have hm := hx.1.2
    have hg : (l.map BX.cs)[((x : Nat) : Int).toNat]? = some (BX.cs l[x]) := by simp [hi]
    refine ⟨_, rfl, ⟨by omega, by rw [List.length_map]; omega⟩, _, hg, rfl, _, _, rfl, fun h => ?_, fun h => ⟨l.length - (x + 1), x + 1, by omega, ?_, ⟨hi, rfl⟩, fun i b hlt hb => ?_⟩⟩
    · rw [framed_bad (l := l) (x := x) (b := l[x]) (List.getElem?_eq_getElem hi) h]
      exact ⟨rfl, rfl⟩
    · rw [wrap_next (by omega)]
    · rcases Nat.lt_succ_iff_lt_or_eq.1 hlt with h' | rfl
      · exact hx.2 i b h' hb
      · rw [List.getElem?_eq_getElem hi] at hb
        cases hb
        exact h
  · have hi : ¬ x < l.length := by simpa using hi
    have := hx.1.1
    have e : x = l.length := by omega
    subst e
    refine ⟨_, rfl, _, rfl, ?_⟩
    rw [framed_good hx.2]
    simp only [List.length_map]
    exact ⟨rfl, rfl⟩
def c_168 (a : List R) (K : List R → List (List D) → Prop) : Prop := match a with
  | [.d (.sl x)] => ∃ l : List BX, x = l.map BX.cs ∧ l.length < 4611686018427387904 ∧ K [.d (.v (.bool (okFrame l)))] []
  | _ => False
theorem c_168_ok (a : List R) (K : List R → List (List D) → Prop) (h : c_168 a K) : Ct prog gl 53 a K := by
  unfold c_168 at h
  split at h
  · obtain ⟨l, rfl, h1, h2⟩ := h
    exact (ct168 l h1).gives h2
  · exact h.elim
end Go.Proofs.Tryz
namespace Go.Proofs.Tryz
open Go Go.Dm Go.Ex
set_option maxRecDepth 100000
variable {gl : Nat → Option Obj}
/-- The first error of expressions, or 0; their types. -/
def errL (cols : List Ty) (l : List EX) : Int := ((l.map fun e => (checkE cols e).2).find? (· != 0)).getD 0
def tysL (cols : List Ty) (l : List EX) : List Ty := l.map fun e => (checkE cols e).1
def st_85 (l : List EX) (cols : List Ty) (x : Nat) : St := { tm := [(1, .d (.sl (cols.map Ty.cs))), (4, .nil), (5, .d (.v (.int .i64 0))), (6, .own 50006), (11, .d (.sl (cellsL l))), (12, .d (.v (.int .i64 ((cellsL l).length : Int)))), (13, .d (.v (.int .i64 (x : Int))))], hp := [(50006, .lst 31 2 ((tysL cols (l.take x)).map Ty.cs))], kn := [], gd := [] }
def inv_85 (l : List EX) (cols : List Ty) (m : Nat) (x : Nat) : Prop := (x ≤ l.length ∧ m = l.length - x) ∧ errL cols (l.take x) = 0
def fx_85 (l : List EX) (cols : List Ty) : Fi := { fi19 with cv := [(3, [⟨none, 6, 50006, 31, 2⟩])], lx := [(3, { X := Nat, sh := st_85 l cols, P := fun _ => inv_85 l cols })] }
theorem vc85 (l : List EX) (cols : List Ty) (Q : List R → List (List D) → Prop) : vc E_0 C_g5 noI (fx_85 l cols) (f19.body.getD .skip) f19.results.toList [.d (.sl (cellsL l)), .d (.sl (cols.map Ty.cs))] Q = ( ∃ (es : List (List D)), D.sl (cellsL l) = D.sl es ∧ ∃ (x0 : { X := Nat, sh := st_85 l cols, P := fun (x : Nat) => inv_85 l cols : LX }.X), ({ tm := [((1 : Nat), V.d (D.sl (List.map Ty.cs cols))), ((4 : Nat), V.nil), ((5 : Nat), V.d (D.v (Value.int .i64 0))), ((6 : Nat), V.own ((50006 : Nat))), ((11 : Nat), V.d (D.sl (cellsL l))), ((12 : Nat), V.d (D.v (Value.int .i64 (↑es.length : Int)))), ((13 : Nat), V.d (D.v (Value.int .i64 0)))], hp := [((50006 : Nat), B.lst ((31 : Nat)) ((2 : Nat)) [])], kn := [], gd := [] : St } = { tm := [((1 : Nat), V.d (D.sl (List.map Ty.cs cols))), ((4 : Nat), V.nil), ((5 : Nat), V.d (D.v (Value.int .i64 0))), ((6 : Nat), V.own ((50006 : Nat))), ((11 : Nat), V.d (D.sl (cellsL l))), ((12 : Nat), V.d (D.v (Value.int .i64 (↑(cellsL l).length : Int)))), ((13 : Nat), V.d (D.v (Value.int .i64 (↑x0 : Int))))], hp := [((50006 : Nat), B.lst ((31 : Nat)) ((2 : Nat)) (List.map Ty.cs (tysL cols (List.take x0 l))))], kn := [], gd := [] : St } ∧ ∃ (n : Nat), inv_85 l cols n x0) ∧ ∀ (n : Nat) (x : { X := Nat, sh := st_85 l cols, P := fun (x : Nat) => inv_85 l cols : LX }.X), inv_85 l cols n x → (decide ((↑x : Int) < (↑(cellsL l).length : Int)) = true → ∃ (es : List (List D)), D.sl (cellsL l) = D.sl es ∧ ((0 : Int) ≤ (↑x : Int) ∧ (↑x : Int) < (↑es.length : Int)) ∧ ∃ (cells : List D), es[(↑x : Int).toNat]? = some cells ∧ cells.length = (10 : Nat) ∧ ∃ (n_1 : Int), ∃ (n_2 : Int), ∃ (n_3 : Int), ∃ (n_4 : Int), ∃ (n_5 : Int), ∃ (n_6 : Int), ∃ (b : Bool), ∃ (n_7 : Int), ∃ (b_1 : ByteArray), ∃ (es : List (List D)), cut ((0 : Nat)) ((10 : Nat)) cells = some [D.v (Value.int .i64 n_1), D.v (Value.int .i64 n_2), D.v (Value.int .i64 n_3), D.v (Value.int .i64 n_4), D.v (Value.int .i64 n_5), D.v (Value.int .i64 n_6), D.v (Value.bool b), D.v (Value.int .i64 n_7), D.v (Value.string b_1), D.sl es] ∧ ∃ (e : EX), ∃ (cols_1 : List Ty), [D.v (Value.int .i64 n_1), D.v (Value.int .i64 n_2), D.v (Value.int .i64 n_3), D.v (Value.int .i64 n_4), D.v (Value.int .i64 n_5), D.v (Value.int .i64 n_6), D.v (Value.bool b), D.v (Value.int .i64 n_7), D.v (Value.string b_1), D.sl es] = Ex.cells e ∧ List.map Ty.cs cols = List.map Ty.cs cols_1 ∧ fits e ∧ cols_1.length ≤ (4398046511104 : Nat) ∧ ∀ (t : Ty) (f : Int), checkE cols_1 e = (t, f) → ((f != (0 : Int)) = true → Q [.d (.sl []), .d (.v (.int .i64 f))] []) ∧ ((f != (0 : Int)) = false → (∀ (c : List D), c ∈ [[D.v (Value.int .i64 t.1), D.v (Value.int .i64 t.2)]] → c.length = (2 : Nat)) ∧ (31 : Nat) = (31 : Nat) ∧ (2 : Nat) = (2 : Nat) ∧ (↑(List.map Ty.cs (tysL cols (List.take x l))).length.succ : Int) * (↑((16 : Nat)) : Int) ≤ (140737488355328 : Int) ∧ ∃ (m : Nat), ∃ (x' : { X := Nat, sh := st_85 l cols, P := fun (x : Nat) => inv_85 l cols : LX }.X), m < n ∧ { tm := [((1 : Nat), V.d (D.sl (List.map Ty.cs cols))), ((4 : Nat), V.nil), ((5 : Nat), V.d (D.v (Value.int .i64 0))), ((6 : Nat), V.own ((50006 : Nat))), ((11 : Nat), V.d (D.sl (cellsL l))), ((12 : Nat), V.d (D.v (Value.int .i64 (↑(cellsL l).length : Int)))), ((13 : Nat), V.d (D.v (Value.int .i64 (IntKind.i64.wrap ((↑x : Int) + (1 : Int))))))], hp := [((50006 : Nat), B.lst ((31 : Nat)) ((2 : Nat)) (List.map Ty.cs (tysL cols (List.take x l)) ++ [[D.v (Value.int .i64 t.1), D.v (Value.int .i64 t.2)]]))], kn := [], gd := [] : St } = { tm := [((1 : Nat), V.d (D.sl (List.map Ty.cs cols))), ((4 : Nat), V.nil), ((5 : Nat), V.d (D.v (Value.int .i64 0))), ((6 : Nat), V.own ((50006 : Nat))), ((11 : Nat), V.d (D.sl (cellsL l))), ((12 : Nat), V.d (D.v (Value.int .i64 (↑(cellsL l).length : Int)))), ((13 : Nat), V.d (D.v (Value.int .i64 (↑x' : Int))))], hp := [((50006 : Nat), B.lst ((31 : Nat)) ((2 : Nat)) (List.map Ty.cs (tysL cols (List.take x' l))))], kn := [], gd := [] : St } ∧ inv_85 l cols m x')) ∧ (decide ((↑x : Int) < (↑(cellsL l).length : Int)) = false → Q [.d (.sl (List.map Ty.cs (tysL cols (List.take x l)))), .d (.v (.int .i64 0))] [])) := by kernel_rfl
theorem errL_snoc {cols : List Ty} {l : List EX} {x : Nat} (hi : x < l.length) (h : errL cols (l.take x) = 0) : errL cols (l.take (x + 1)) = (checkE cols l[x]).2 := by
  unfold errL at h ⊢
  rw [List.take_add_one, List.getElem?_eq_getElem hi, Option.toList_some, List.map_append, List.find?_append]
  cases hf : ((l.take x).map fun e => (checkE cols e).2).find? (· != 0) with
  | none =>
    rw [Option.none_or]
    simp only [List.map_cons, List.map_nil, List.find?_cons, List.find?_nil]
    cases h0 : (checkE cols l[x]).2 != 0 with
    | true => rfl
    | false => exact (by simpa using h0 : (checkE cols l[x]).2 = 0).symm
  | some v =>
    rw [hf] at h
    have := List.find?_some hf
    rw [show v = 0 from h] at this
    cases this
theorem errL_stop {cols : List Ty} {l : List EX} {x : Nat} (h : errL cols (l.take x) ≠ 0) : errL cols l = errL cols (l.take x) := by
  unfold errL at h ⊢
  have e : l = l.take x ++ l.drop x := (List.take_append_drop x l).symm
  conv => lhs; rw [e]
  rw [List.map_append, List.find?_append]
  cases hf : ((l.take x).map fun e => (checkE cols e).2).find? (· != 0) with
  | none => rw [hf] at h; exact absurd rfl h
  | some v => rfl
theorem errL_at {cols : List Ty} {l : List EX} {x : Nat} (hi : x < l.length) (h : errL cols (l.take x) = 0) (hb : ((checkE cols l[x]).2 != 0) = true) : errL cols l = (checkE cols l[x]).2 := by
  have h1 := errL_snoc hi h
  rw [← h1]
  exact errL_stop (by rw [h1]; simpa using hb)
theorem tysL_snoc {cols : List Ty} {l : List EX} {x : Nat} (hi : x < l.length) : tysL cols (l.take (x + 1)) = tysL cols (l.take x) ++ [(checkE cols l[x]).1] := by
  unfold tysL
  rw [List.take_add_one, List.getElem?_eq_getElem hi, Option.toList_some, List.map_append]
  rfl
theorem ct85 (l : List EX) (cols : List Ty) (hf : fitsL l) (hl : l.length ≤ 1353245080300) (hcl : cols.length ≤ 1353245080300) : Ct prog gl 19 [.d (.sl (cellsL l)), .d (.sl (cols.map Ty.cs))] (gives [.d (.sl (bif errL cols l != 0 then [] else (tysL cols l).map Ty.cs)), .d (.v (.int .i64 (errL cols l)))]) := by
  refine ct_of_vc E_ok C_g5_ok ioK_no it_ok mixed (fn := f19) (body := f19.body.getD .skip) (by kernel_rfl) (by kernel_rfl) (by kernel_rfl) (fi := fx_85 l cols) (by kernel_rfl) (by kernel_rfl) ⟨_, _, rfl, rfl⟩ ?_
  rw [vc85]
  refine ⟨_, rfl, (0 : Nat), ⟨rfl, l.length, ⟨Nat.zero_le _, rfl⟩, rfl⟩, fun m (x : Nat) hx => ⟨fun hi => ?_, fun hi => ?_⟩⟩
  · have hi : x < l.length := by simpa [cellsL_len] using hi
    obtain ⟨op', sub', t', v', a', he, hget⟩ := arg_get hi
    have hm := hx.1.2
    refine ⟨_, rfl, ⟨by omega, by rw [cellsL_len]; omega⟩, _, hget, rfl, op', sub', t'.k, t'.sc, v'.t.k, v'.t.sc, v'.nul, v'.n, v'.s, cellsL a', rfl, l[x], cols, by rw [he, cells_mk]; rfl, rfl, fitsL_mem hf (List.getElem_mem hi), by omega, fun t1 g1 hk => ⟨fun h => ?_, fun h => ?_⟩⟩
    · have hk2 : (checkE cols l[x]).2 = g1 := by rw [hk]
      have := errL_at hi hx.2 (by rw [hk2]; exact h)
      rw [this, hk2, h]
      exact ⟨rfl, rfl⟩
    · have hk2 : (checkE cols l[x]).2 = 0 := by rw [hk]; simpa using h
      refine ⟨by simp, rfl, rfl, ?_, l.length - (x + 1), x + 1, by omega, ?_, ⟨hi, rfl⟩, by rw [errL_snoc hi hx.2, hk2]⟩
      · have : (List.map Ty.cs (tysL cols (List.take x l))).length ≤ l.length := by simp [tysL]; omega
        simp only [Nat.succ_eq_add_one]; omega
      · rw [wrap_next (by omega), tysL_snoc hi, hk]
        simp only [List.map_append, List.map_cons, List.map_nil]
  · have hi : ¬ x < l.length := by simpa [cellsL_len] using hi
    have h2 := hx.2
    rw [List.take_of_length_le (by omega)] at h2 ⊢
    rw [h2]
    exact ⟨rfl, rfl⟩
def c_85 (a : List R) (K : List R → List (List D) → Prop) : Prop := match a with
  | [.d (.sl x), .d (.sl y)] => ∃ (l : List EX) (cols : List Ty), x = cellsL l ∧ y = cols.map Ty.cs ∧ fitsL l ∧ l.length ≤ 1353245080300 ∧ cols.length ≤ 1353245080300 ∧ ∀ (r : List Ty) (f : Int), f = errL cols l → (f = 0 → r = tysL cols l) → (f ≠ 0 → r = []) → K [.d (.sl (r.map Ty.cs)), .d (.v (.int .i64 f))] []
  | _ => False
theorem c_85_ok (a : List R) (K : List R → List (List D) → Prop) (h : c_85 a K) : Ct prog gl 19 a K := by
  unfold c_85 at h
  split at h
  · obtain ⟨l, cols, rfl, rfl, h1, h2, h3, h4⟩ := h
    have e : (bif errL cols l != 0 then [] else (tysL cols l).map Ty.cs) = (bif errL cols l != 0 then [] else tysL cols l).map Ty.cs := by cases (errL cols l != 0) <;> rfl
    have := ct85 (gl := gl) l cols h1 h2 h3
    rw [e] at this
    exact this.gives (h4 _ _ rfl (fun h0 => by rw [h0]; rfl) (fun h0 => by rw [show (errL cols l != 0) = true by simpa using h0]; rfl))
  · exact h.elim
end Go.Proofs.Tryz
