/- A part of the proof: contracts of functions, by a verified generator of conditions; no condition of its own. -/
import Derived.Test.YtckihdaalmgbiaaGreatDoorR8
import Derived.Test.YtckihdaalmgbiaaGreatDoorR3
namespace Go.Proofs.Tryz
open Go Go.Dm Go.Ex
set_option maxRecDepth 100000
variable {gl : Nat → Option Obj}
def c_77 (n : Nat) (a : List R) (K : List R → List (List D) → Prop) : Prop := match a with
  | [.agg x, .d (.sl y)] => ∃ (e : EX) (cols : List Ty), x = cells e ∧ y = cols.map Ty.cs ∧ size e < n ∧ fits e ∧ mayE cols.length e = true ∧ (∀ t ∈ cols, goodT t) ∧ cols.length ≤ 1353245080300 ∧
      (∀ (t : Ty) (ok : Bool), agree (typedE cols e) (t, ok) → K [.agg t.cs, .d (.v (.bool ok))] [])
  | _ => False
def C_r77 (n : Nat) : CallT := addC (addC (addC (addC C_4e 59 c_151) 60 c_152) 62 c_154) 31 (c_77 n)
def st_77 (op sub : Int) (t : Ty) (v : Go.Ex.AV) (args : List EX) (cols : List Ty) (x : TX) : St := { tm := [(1, .d (.sl (cols.map Ty.cs))), (2, .ref 2 0), (4, .ref 4 0), (5, .d (.v (.bool false))), (6, .own 50006), (7, .d (.v (.int .i64 (x.i : Int))))], hp := [(2, .box [.d (.v (.int .i64 op)), .d (.v (.int .i64 sub)), .d (.v (.int .i64 t.k)), .d (.v (.int .i64 t.sc)), .d (.v (.int .i64 v.t.k)), .d (.v (.int .i64 v.t.sc)), .d (.v (.bool v.nul)), .d (.v (.int .i64 v.n)), .d (.v (.string v.s)), .d (.sl (cellsL args))]), (4, .box [.d (.v (.int .i64 0)), .d (.v (.int .i64 0))]), (50006, .lst 23 2 (x.l.map Ty.cs))], kn := [], gd := [] }
def fx_77 (op sub : Int) (t : Ty) (v : Go.Ex.AV) (args : List EX) (cols : List Ty) : Fi := { fi31 with cv := [(3, [⟨none, 6, 50006, 23, 2⟩])], lx := [(3, { X := TX, sh := st_77 op sub t v args cols, P := fun _ => inv_64 cols args })] }
theorem vc77 (n : Nat) (op sub : Int) (t : Ty) (v : Go.Ex.AV) (args : List EX) (cols : List Ty) (Q : List R → List (List D) → Prop) : vc E_0 (C_r77 n) noI (fx_77 op sub t v args cols) (f31.body.getD .skip) f31.results.toList [.agg (encX op sub t v (cellsL args)), .d (.sl (cols.map Ty.cs))] Q = (
  ∃ (x0 : { X := TX, sh := st_77 op sub t v args cols, P := fun (x : TX) => inv_64 cols args : LX }.X), ({ tm := [((1 : Nat), V.d (D.sl (List.map Ty.cs cols))), ((2 : Nat), V.ref ((2 : Nat)) ((0 : Nat))), ((4 : Nat), V.ref ((4 : Nat)) ((0 : Nat))), ((5 : Nat), V.d (D.v (Value.bool false))), ((6 : Nat), V.own ((50006 : Nat))), ((7 : Nat), V.d (D.v (Value.int IntKind.i64 (0 : Int))))], hp := [((2 : Nat), B.box [V.d (D.v (Value.int IntKind.i64 op)), V.d (D.v (Value.int IntKind.i64 sub)), V.d (D.v (Value.int IntKind.i64 t.1)), V.d (D.v (Value.int IntKind.i64 t.2)), V.d (D.v (Value.int IntKind.i64 v.1.1)), V.d (D.v (Value.int IntKind.i64 v.1.2)), V.d (D.v (Value.bool v.2)), V.d (D.v (Value.int IntKind.i64 v.3)), V.d (D.v (Value.string v.4)), V.d (D.sl (cellsL args))]), ((4 : Nat), B.box [V.d (D.v (Value.int IntKind.i64 (0 : Int))), V.d (D.v (Value.int IntKind.i64 (0 : Int)))]), ((50006 : Nat), B.lst ((23 : Nat)) ((2 : Nat)) [])], kn := [], gd := [] : St }
  = { tm := [((1 : Nat), V.d (D.sl (List.map Ty.cs cols))), ((2 : Nat), V.ref ((2 : Nat)) ((0 : Nat))), ((4 : Nat), V.ref ((4 : Nat)) ((0 : Nat))), ((5 : Nat), V.d (D.v (Value.bool false))), ((6 : Nat), V.own ((50006 : Nat))), ((7 : Nat), V.d (D.v (Value.int IntKind.i64 (↑x0.1 : Int))))], hp := [((2 : Nat), B.box [V.d (D.v (Value.int IntKind.i64 op)), V.d (D.v (Value.int IntKind.i64 sub)), V.d (D.v (Value.int IntKind.i64 t.1)), V.d (D.v (Value.int IntKind.i64 t.2)), V.d (D.v (Value.int IntKind.i64 v.1.1)), V.d (D.v (Value.int IntKind.i64 v.1.2)), V.d (D.v (Value.bool v.2)), V.d (D.v (Value.int IntKind.i64 v.3)), V.d (D.v (Value.string v.4)), V.d (D.sl (cellsL args))]), ((4 : Nat), B.box [V.d (D.v (Value.int IntKind.i64 (0 : Int))), V.d (D.v (Value.int IntKind.i64 (0 : Int)))]), ((50006 : Nat), B.lst ((23 : Nat)) ((2 : Nat)) (List.map Ty.cs x0.2))], kn := [], gd := [] : St }
  ∧ ∃ (n : Nat), inv_64 cols args n x0) ∧ ∀ (n_1 : Nat) (x : { X := TX, sh := st_77 op sub t v args cols, P := fun (x : TX) => inv_64 cols args : LX }.X),
  inv_64 cols args n_1 x → ∃ (es : List (List D)), D.sl (cellsL args) = D.sl es ∧ (decide ((↑x.1 : Int) < (↑es.length : Int)) = true → ∃ (es : List
  (List D)), D.sl (cellsL args) = D.sl es ∧ ((0 : Int) ≤ (↑x.1 : Int) ∧ (↑x.1 : Int) < (↑es.length : Int)) ∧ ∃ (cells : List D), es[(↑x.1 :
  Int).toNat]? = some cells ∧ cells.length = (10 : Nat) ∧ ∃ (n_2 : Int), ∃ (n_3 : Int), ∃ (n_4 : Int), ∃ (n_5 : Int), ∃ (n_6 : Int), ∃ (n_7 : Int), ∃
  (b : Bool), ∃ (n_8 : Int), ∃ (b_1 : ByteArray), ∃ (es : List (List D)), cut ((0 : Nat)) ((10 : Nat)) cells = some [D.v (Value.int IntKind.i64 n_2),
  D.v (Value.int IntKind.i64 n_3), D.v (Value.int IntKind.i64 n_4), D.v (Value.int IntKind.i64 n_5), D.v (Value.int IntKind.i64 n_6), D.v (Value.int
  IntKind.i64 n_7), D.v (Value.bool b), D.v (Value.int IntKind.i64 n_8), D.v (Value.string b_1), D.sl es] ∧ ∃ (e : EX), ∃ (cols_1 : List Ty), [D.v
  (Value.int IntKind.i64 n_2), D.v (Value.int IntKind.i64 n_3), D.v (Value.int IntKind.i64 n_4), D.v (Value.int IntKind.i64 n_5), D.v (Value.int
  IntKind.i64 n_6), D.v (Value.int IntKind.i64 n_7), D.v (Value.bool b), D.v (Value.int IntKind.i64 n_8), D.v (Value.string b_1), D.sl es] = Ex.cells e
  ∧ List.map Ty.cs cols = List.map Ty.cs cols_1 ∧ size e < n ∧ fits e ∧ mayE (↑cols_1.length : Int) e = true ∧ (∀ (t : Ty), t ∈ cols_1 → goodT t) ∧
  cols_1.length ≤ (1353245080300 : Nat) ∧ ∀ (t_1 : Ty) (ok : Bool), agree (typedE cols_1 e) (t_1, ok) → ((!ok) = true → Q [R.agg [D.v (Value.int
  IntKind.i64 (0 : Int)), D.v (Value.int IntKind.i64 (0 : Int))], R.d (D.v (Value.bool false))] []) ∧ ((!ok) = false → (∀ (c : List D), c ∈ [[D.v
  (Value.int IntKind.i64 t_1.1), D.v (Value.int IntKind.i64 t_1.2)]] → c.length = (2 : Nat)) ∧ (23 : Nat) = (23 : Nat) ∧ (2 : Nat) = (2 : Nat) ∧
  (↑(List.map Ty.cs x.2).length.succ : Int) * (↑((16 : Nat)) : Int) ≤ (140737488355328 : Int) ∧ ∃ (m : Nat), ∃ (x' : { X := TX, sh := st_77 op sub t v args cols, P := fun (x : TX) => inv_64 cols args : LX }.X),
  m < n_1 ∧ { tm := [((1 : Nat), V.d (D.sl (List.map Ty.cs cols))), ((2 : Nat), V.ref ((2 : Nat)) ((0 : Nat))), ((4 : Nat), V.ref ((4 : Nat)) ((0 : Nat))), ((5 : Nat), V.d (D.v (Value.bool false))), ((6 : Nat), V.own ((50006 : Nat))), ((7 : Nat), V.d (D.v (Value.int IntKind.i64 (IntKind.i64.wrap ((↑x.1 : Int) + (1 : Int))))))], hp := [((2 : Nat), B.box [V.d (D.v (Value.int IntKind.i64 op)), V.d (D.v (Value.int IntKind.i64 sub)), V.d (D.v (Value.int IntKind.i64 t.1)), V.d (D.v (Value.int IntKind.i64 t.2)), V.d (D.v (Value.int IntKind.i64 v.1.1)), V.d (D.v (Value.int IntKind.i64 v.1.2)), V.d (D.v (Value.bool v.2)), V.d (D.v (Value.int IntKind.i64 v.3)), V.d (D.v (Value.string v.4)), V.d (D.sl (cellsL args))]), ((4 : Nat), B.box [V.d (D.v (Value.int IntKind.i64 (0 : Int))), V.d (D.v (Value.int IntKind.i64 (0 : Int)))]), ((50006 : Nat), B.lst ((23 : Nat)) ((2 : Nat)) (List.map Ty.cs x.2 ++ [[D.v (Value.int IntKind.i64 t_1.1), D.v (Value.int IntKind.i64 t_1.2)]]))], kn := [], gd := [] : St }
  = { tm := [((1 : Nat), V.d (D.sl (List.map Ty.cs cols))), ((2 : Nat), V.ref ((2 : Nat)) ((0 : Nat))), ((4 : Nat), V.ref ((4 : Nat)) ((0 : Nat))), ((5 : Nat), V.d (D.v (Value.bool false))), ((6 : Nat), V.own ((50006 : Nat))), ((7 : Nat), V.d (D.v (Value.int IntKind.i64 (↑x'.1 : Int))))], hp := [((2 : Nat), B.box [V.d (D.v (Value.int IntKind.i64 op)), V.d (D.v (Value.int IntKind.i64 sub)), V.d (D.v (Value.int IntKind.i64 t.1)), V.d (D.v (Value.int IntKind.i64 t.2)), V.d (D.v (Value.int IntKind.i64 v.1.1)), V.d (D.v (Value.int IntKind.i64 v.1.2)), V.d (D.v (Value.bool v.2)), V.d (D.v (Value.int IntKind.i64 v.3)), V.d (D.v (Value.string v.4)), V.d (D.sl (cellsL args))]), ((4 : Nat), B.box [V.d (D.v (Value.int IntKind.i64 (0 : Int))), V.d (D.v (Value.int IntKind.i64 (0 : Int)))]), ((50006 : Nat), B.lst ((23 : Nat)) ((2 : Nat)) (List.map Ty.cs x'.2))], kn := [], gd := [] : St }
  ∧ inv_64 cols args m x')) ∧ (decide ((↑x.1 : Int) < (↑es.length : Int)) = false → ((op == (1 : Int)) = true → ∃ (es : List (List D)), D.sl (List.map
  Ty.cs cols) = D.sl es ∧ ((0 : Int) ≤ sub ∧ sub < (↑es.length : Int)) ∧ ∃ (cells : List D), es[sub.toNat]? = some cells ∧ cells.length = (2 : Nat) ∧ ∃
  (n : Int), ∃ (n_2 : Int), cut ((0 : Nat)) ((2 : Nat)) cells = some [D.v (Value.int IntKind.i64 n), D.v (Value.int IntKind.i64 n_2)] ∧ Q [R.agg [D.v
  (Value.int IntKind.i64 n), D.v (Value.int IntKind.i64 n_2)], R.d (D.v (Value.bool true))] []) ∧ ((op == (1 : Int)) = false → ((op == (2 : Int)) =
  true → Q [R.agg [D.v (Value.int IntKind.i64 v.1.1), D.v (Value.int IntKind.i64 v.1.2)], R.d (D.v (Value.bool true))] []) ∧ ((op == (2 : Int)) = false
  → ((op == (9 : Int)) = true → ((0 : Int) ≤ (0 : Int) ∧ (0 : Int) < (↑(List.map Ty.cs x.2).length : Int)) ∧ (2 : Nat) = (2 : Nat) ∧ ∃ (cells : List
  D), (List.map Ty.cs x.2)[Int.toNat (0 : Int)]? = some cells ∧ ∃ (n : Int), ∃ (n_2 : Int), cut ((0 : Nat)) ((2 : Nat)) cells = some [D.v (Value.int
  IntKind.i64 n), D.v (Value.int IntKind.i64 n_2)] ∧ ((0 : Int) ≤ (1 : Int) ∧ (1 : Int) < (↑(List.map Ty.cs x.2).length : Int)) ∧ (2 : Nat) = (2 : Nat)
  ∧ ∃ (cells : List D), (List.map Ty.cs x.2)[Int.toNat (1 : Int)]? = some cells ∧ ∃ (n_3 : Int), ∃ (n_4 : Int), cut ((0 : Nat)) ((2 : Nat)) cells =
  some [D.v (Value.int IntKind.i64 n_3), D.v (Value.int IntKind.i64 n_4)] ∧ Q [R.agg [D.v (Value.int IntKind.i64 (1 : Int)), D.v (Value.int IntKind.i64
  (0 : Int))], R.d (D.v (Value.bool (s111_0 n n_2 n_3 n_4)))] []) ∧ ((op == (9 : Int)) = false → ((op == (10 : Int)) = true → ∃ (l : List Ty), List.map
  Ty.cs x.2 = List.map Ty.cs l ∧ l.length < (4611686018427387904 : Nat) ∧ Q [R.agg [D.v (Value.int IntKind.i64 (1 : Int)), D.v (Value.int IntKind.i64
  (0 : Int))], R.d (D.v (Value.bool !l.any (offK (1 : Int))))] []) ∧ ((op == (10 : Int)) = false → ((op == (11 : Int)) = true → ∃ (l : List Ty),
  List.map Ty.cs x.2 = List.map Ty.cs l ∧ l.length < (4611686018427387904 : Nat) ∧ Q [R.agg [D.v (Value.int IntKind.i64 (1 : Int)), D.v (Value.int
  IntKind.i64 (0 : Int))], R.d (D.v (Value.bool !l.any (offK (1 : Int))))] []) ∧ ((op == (11 : Int)) = false → ((op == (12 : Int)) = true → ∃ (l : List
  Ty), List.map Ty.cs x.2 = List.map Ty.cs l ∧ l.length < (4611686018427387904 : Nat) ∧ Q [R.agg [D.v (Value.int IntKind.i64 (1 : Int)), D.v (Value.int
  IntKind.i64 (0 : Int))], R.d (D.v (Value.bool !l.any (offK (1 : Int))))] []) ∧ ((op == (12 : Int)) = false → ((op == (13 : Int)) = true → Q [R.agg
  [D.v (Value.int IntKind.i64 (1 : Int)), D.v (Value.int IntKind.i64 (0 : Int))], R.d (D.v (Value.bool true))] []) ∧ ((op == (13 : Int)) = false → ((op
  == (14 : Int)) = true → ∃ (op_1 : Int), ∃ (sub_1 : Int), ∃ (t_1 : Ty), ∃ (v_1 : AV), ∃ (args_1 : List EX), ∃ (l : List Ty), ∃ (a : Ty), ∃ (r : List
  Ty), [D.v (Value.int IntKind.i64 op), D.v (Value.int IntKind.i64 sub), D.v (Value.int IntKind.i64 t.1), D.v (Value.int IntKind.i64 t.2), D.v
  (Value.int IntKind.i64 v.1.1), D.v (Value.int IntKind.i64 v.1.2), D.v (Value.bool v.2), D.v (Value.int IntKind.i64 v.3), D.v (Value.string v.4), D.sl
  (cellsL args)] = [D.v (Value.int IntKind.i64 op_1), D.v (Value.int IntKind.i64 sub_1), D.v (Value.int IntKind.i64 t_1.1), D.v (Value.int IntKind.i64
  t_1.2), D.v (Value.int IntKind.i64 v_1.1.1), D.v (Value.int IntKind.i64 v_1.1.2), D.v (Value.bool v_1.2), D.v (Value.int IntKind.i64 v_1.3), D.v
  (Value.string v_1.4), D.sl (cellsL args_1)] ∧ List.map Ty.cs x.2 = List.map Ty.cs l ∧ l.length ≤ (1353245080300 : Nat) ∧ selT l (resN op_1 l.length
  l.length) = a :: r ∧ Q [R.agg [D.v (Value.int IntKind.i64 (comR a r).1.1), D.v (Value.int IntKind.i64 (comR a r).1.2)], R.d (D.v (Value.bool (bif
  (comR a r).2 then okK l (if op_1 = (14 : Int) then l.length / (2 : Nat) else (0 : Nat)) else false)))] []) ∧ ((op == (14 : Int)) = false → ((op ==
  (15 : Int)) = true → ∃ (op_1 : Int), ∃ (sub_1 : Int), ∃ (t_1 : Ty), ∃ (v_1 : AV), ∃ (args_1 : List EX), ∃ (l : List Ty), ∃ (a : Ty), ∃ (r : List Ty),
  [D.v (Value.int IntKind.i64 op), D.v (Value.int IntKind.i64 sub), D.v (Value.int IntKind.i64 t.1), D.v (Value.int IntKind.i64 t.2), D.v (Value.int
  IntKind.i64 v.1.1), D.v (Value.int IntKind.i64 v.1.2), D.v (Value.bool v.2), D.v (Value.int IntKind.i64 v.3), D.v (Value.string v.4), D.sl (cellsL
  args)] = [D.v (Value.int IntKind.i64 op_1), D.v (Value.int IntKind.i64 sub_1), D.v (Value.int IntKind.i64 t_1.1), D.v (Value.int IntKind.i64 t_1.2),
  D.v (Value.int IntKind.i64 v_1.1.1), D.v (Value.int IntKind.i64 v_1.1.2), D.v (Value.bool v_1.2), D.v (Value.int IntKind.i64 v_1.3), D.v
  (Value.string v_1.4), D.sl (cellsL args_1)] ∧ List.map Ty.cs x.2 = List.map Ty.cs l ∧ l.length ≤ (1353245080300 : Nat) ∧ selT l (resN op_1 l.length
  l.length) = a :: r ∧ Q [R.agg [D.v (Value.int IntKind.i64 (comR a r).1.1), D.v (Value.int IntKind.i64 (comR a r).1.2)], R.d (D.v (Value.bool (bif
  (comR a r).2 then okK l (if op_1 = (14 : Int) then l.length / (2 : Nat) else (0 : Nat)) else false)))] []) ∧ ((op == (15 : Int)) = false → ((op ==
  (16 : Int)) = true → ((0 : Int) ≤ (0 : Int) ∧ (0 : Int) < (↑(List.map Ty.cs x.2).length : Int)) ∧ (2 : Nat) = (2 : Nat) ∧ ∃ (cells : List D),
  (List.map Ty.cs x.2)[Int.toNat (0 : Int)]? = some cells ∧ ∃ (n : Int), ∃ (n_2 : Int), cut ((0 : Nat)) ((2 : Nat)) cells = some [D.v (Value.int
  IntKind.i64 n), D.v (Value.int IntKind.i64 n_2)] ∧ Q [R.agg [D.v (Value.int IntKind.i64 t.1), D.v (Value.int IntKind.i64 t.2)], R.d (D.v (Value.bool
  (s153_0 n n_2 t.1)))] []) ∧ ((op == (16 : Int)) = false → ((op == (17 : Int)) = true → ∃ (l : List Ty), List.map Ty.cs x.2 = List.map Ty.cs l ∧
  l.length < (4611686018427387904 : Nat) ∧ Q [R.agg [D.v (Value.int IntKind.i64 (4 : Int)), D.v (Value.int IntKind.i64 (0 : Int))], R.d (D.v
  (Value.bool !l.any (offK (4 : Int))))] []) ∧ ((op == (17 : Int)) = false → ((op == (18 : Int)) = true → ∃ (l : List Ty), List.map Ty.cs x.2 =
  List.map Ty.cs l ∧ l.length < (4611686018427387904 : Nat) ∧ Q [R.agg [D.v (Value.int IntKind.i64 (2 : Int)), D.v (Value.int IntKind.i64 (0 : Int))],
  R.d (D.v (Value.bool !l.any (offK (4 : Int))))] []) ∧ ((op == (18 : Int)) = false → ∃ (l : List Ty), ∃ (u : Ty), ∃ (w : Ty), List.map Ty.cs x.2 =
  List.map Ty.cs l ∧ l[(0 : Nat)]? = some u ∧ l[l.length - (1 : Nat)]? = some w ∧ l.length ≤ (1353245080300 : Nat) ∧ Q [R.agg [D.v (Value.int
  IntKind.i64 (arithR op u w).1.1), D.v (Value.int IntKind.i64 (arithR op u w).1.2)], R.d (D.v (Value.bool (arithR op u w).2))] [])))))))))))))) := by kernel_rfl
theorem res_15 (n x : Nat) : resN 15 n x = List.range x := by
  unfold resN
  rw [List.filter_eq_self]
  intro i _; rfl
theorem selT_range (l : List Ty) : selT l (List.range l.length) = l := by
  unfold selT
  apply List.ext_getElem?
  intro i
  rw [List.getElem?_map]
  by_cases h : i < l.length
  · rw [List.getElem?_eq_getElem (by simpa using h), List.getElem_range, List.getElem?_eq_getElem h]
    simp [List.getD_eq_getElem?_getD, h]
  · rw [List.getElem?_eq_none (by simpa using h), List.getElem?_eq_none (by omega)]; rfl
theorem res_14 (h : Nat) : ∀ j, j ≤ h → resN 14 (2 * h + 1) (2 * j) = (List.range j).map fun k => 2 * k + 1
  | 0, _ => rfl
  | j + 1, hj => by
    rw [show 2 * (j + 1) = 2 * j + 1 + 1 by omega, resN_next, resN_next, res_14 h j (by omega)]
    have e1 : ((14 : Int) == 15 || (2 * j) % 2 == 1 || 2 * j == 2 * h + 1 - 1) = false := by
      rw [Bool.eq_false_iff]; intro hh
      simp only [Bool.or_eq_true, beq_iff_eq] at hh
      rcases hh with (hh | hh) | hh
      · cases hh
      · omega
      · omega
    have e2 : ((14 : Int) == 15 || (2 * j + 1) % 2 == 1 || 2 * j + 1 == 2 * h + 1 - 1) = true := by
      rw [show (2 * j + 1) % 2 = 1 by omega]; rfl
    rw [e1, e2, if_pos rfl, if_neg (by decide), List.append_nil, List.range_succ, List.map_append]
    rfl
theorem sel_results {op : Int} {l : List Ty} (h : op = 15 ∨ (op = 14 ∧ l.length % 2 = 1)) : selT l (resN op l.length l.length) = resultsE op l := by
  rcases h with rfl | ⟨rfl, h⟩
  · rw [res_15, selT_range]; rfl
  · obtain ⟨m, hm⟩ : ∃ m, l.length = 2 * m + 1 := ⟨l.length / 2, by omega⟩
    have e : resN 14 l.length l.length = ((List.range m).map fun k => 2 * k + 1) ++ [2 * m] := by
      rw [hm, resN_next, res_14 m m (Nat.le_refl _)]
      have : ((14 : Int) == 15 || (2 * m) % 2 == 1 || 2 * m == 2 * m + 1 - 1) = true := by
        rw [show 2 * m + 1 - 1 = 2 * m by omega]; simp
      rw [this, if_pos rfl]
    rw [e]
    unfold resultsE selT oddsT
    rw [if_neg (by decide), hm, show (2 * m + 1) / 2 = m by omega, show 2 * m + 1 - 1 = 2 * m by omega, List.map_append, List.map_map]
    rfl
theorem okJK {l : List Ty} (hl : ∀ t ∈ l, goodT t) {j : Nat} (hj : 2 * j ≤ l.length) : okJ l j = okK l j := by
  unfold okJ okK
  rw [Bool.eq_iff_iff, List.all_eq_true, List.all_eq_true]
  have key : ∀ k, k ∈ List.range j → truthT (l.getD (2 * k) ⟨0, 0⟩) = ((l.getD (2 * k) ⟨0, 0⟩).k == 1) := by
    intro k hk
    have hk := List.mem_range.1 hk
    exact good_ty (get_good hl (by omega)) (by decide)
  constructor
  · intro h k hk; rw [← key k hk]; exact h k hk
  · intro h k hk; rw [key k hk]; exact h k hk
theorem case_agree {op : Int} (ho : op = 14 ∨ op = 15) {l : List Ty} (hl : ∀ t ∈ l, goodT t) {a : Ty} {r : List Ty} (ha : goodT a) : agree ((cfold a r).1, (cfold a r).2 && (decide (op = 15) || okJ l (l.length / 2))) ((comR a r).1, bif (comR a r).2 then okK l (if op = 14 then l.length / 2 else 0) else false) := by
  obtain ⟨h1, h2⟩ := com_agree a (good_iff.1 ha).2.2.1 r
  have h3 : (bif (comR a r).2 then okK l (if op = 14 then l.length / 2 else 0) else false) = ((cfold a r).2 && (decide (op = 15) || okJ l (l.length / 2))) := by
    rw [h1]
    rcases ho with rfl | rfl
    · rw [if_pos rfl, okJK hl (by omega)]
      cases (cfold a r).2 <;> rfl
    · cases (cfold a r).2 <;> rfl
  refine ⟨h3, fun h => h2 ?_⟩
  dsimp only at h
  revert h
  cases (cfold a r).2 <;> simp
theorem alike_eq (a b c d : Int) : s111_0 a b c d = s129_0 a b c d := by
  have e : ∀ k, s188_0 k = s209_0 k := fun _ => rfl
  unfold s111_0 s129_0
  rw [e, e]
  cases decide (a ≥ 1) <;> cases decide (a ≤ 5) <;> cases s209_0 a == s209_0 c <;> rfl
theorem any_two : ∀ {tl : List Ty}, (tl.length = 1 ∨ tl.length = 2) → ∀ (h1 : 0 < tl.length) (h2 : tl.length - 1 < tl.length), (!tl.any (offK 2)) = (bif tl[0].k == 2 then tl[tl.length - 1].k == 2 else false)
  | [x], _, _, _ => by
    show (!(x.k != 2 || false)) = (bif x.k == 2 then x.k == 2 else false)
    simp only [bne]
    cases x.k == 2 <;> rfl
  | [x, y], _, _, _ => by
    show (!(x.k != 2 || (y.k != 2 || false))) = (bif x.k == 2 then y.k == 2 else false)
    simp only [bne]
    cases x.k == 2 <;> cases y.k == 2 <;> rfl
  | [], h, _, _ => by simp at h
  | _ :: _ :: _ :: _, h, _, _ => by simp at h
theorem ct77 : ∀ (n : Nat) (e : EX) (cols : List Ty), size e < n → fits e → mayE cols.length e = true → (∀ t ∈ cols, goodT t) → cols.length ≤ 1353245080300 → Ct prog gl 31 [.agg (cells e), .d (.sl (cols.map Ty.cs))] (fun res fin => fin = [] ∧ ∃ (t : Ty) (ok : Bool), agree (typedE cols e) (t, ok) ∧ res = [.agg t.cs, .d (.v (.bool ok))])
  | 0, _, _, h, _, _, _, _ => absurd h (Nat.not_lt_zero _)
  | n + 1, .mk op sub t v args, cols, hs, hf, hm, hgc, hcl => by
    have hC : CallsOk prog gl (C_r77 n) := addC_ok (addC_ok (addC_ok (addC_ok C_4e_ok c_151_ok) c_152_ok) c_154_ok) (fun a K hk => by
      unfold c_77 at hk
      split at hk
      · obtain ⟨e, cols, rfl, rfl, h1, h2, h3, h4, h5, h6⟩ := hk
        exact (ct77 n e cols h1 h2 h3 h4 h5).mono fun res fin ⟨e1, t, ok, e2, e3⟩ => by subst e1; subst e3; exact h6 t ok e2
      · exact hk.elim)
    rw [cells_mk]
    refine ct_of_vc E_ok hC ioK_no it_ok mixed (fn := f31) (body := f31.body.getD .skip) (by kernel_rfl) (by kernel_rfl) (by kernel_rfl) (fi := fx_77 op sub t v args cols) (by kernel_rfl) (by kernel_rfl) ⟨_, _, rfl, (typedE cols (.mk op sub t v args)).1, (typedE cols (.mk op sub t v args)).2, agree_refl _, rfl⟩ ?_
    rw [vc77]
    obtain ⟨_, hl, hfl⟩ := fits_mk hf
    simp only [size] at hs
    have hmm : mayHd op sub t v ((cellsL args).length : Int) cols.length = true ∧ mayL cols.length args = true := by
      have : (mayHd op sub t v ((cellsL args).length : Int) cols.length && mayL cols.length args) = true := by simpa only [mayE] using hm
      simpa using this
    obtain ⟨hh, hml'⟩ := hmm
    have hml := hml'
    rw [mayL_all, List.all_eq_true] at hml
    refine ⟨⟨0, []⟩, ⟨rfl, args.length, ⟨Nat.zero_le _, rfl⟩, by simp only [List.take_zero, typedL], rfl⟩, fun m (x : TX) hx => ⟨cellsL args, rfl, fun hi => ?_, fun hi => ?_⟩⟩
    · obtain ⟨i, tl⟩ := x
      obtain ⟨⟨h1, h2⟩, h4, h5⟩ := hx
      dsimp only at h1 h2 h4 h5 hi ⊢
      have hi : i < args.length := by simpa [cellsL_len] using hi
      obtain ⟨op1, sub1, t1, v1, a1, e1, g1⟩ := arg_get hi
      have hsz := size_mem (List.getElem_mem hi)
      refine ⟨cellsL args, rfl, ⟨by omega, by rw [cellsL_len]; omega⟩, _, g1, rfl, op1, sub1, t1.k, t1.sc, v1.t.k, v1.t.sc, v1.nul, v1.n, v1.s, cellsL a1, rfl, args[i], cols, by rw [e1, cells_mk]; rfl, rfl, by omega, fitsL_mem hfl (List.getElem_mem hi), hml _ (List.getElem_mem hi), hgc, hcl, fun t2 ok he => ⟨fun ho => ?_, fun ho => ⟨by simp, rfl, rfl, ?_, args.length - (i + 1), ⟨i + 1, tl ++ [t2]⟩, by omega, ?_, ⟨hi, rfl⟩, ?_, by simp [h5]⟩⟩⟩
      · have : ok = false := by simpa using ho
        subst this
        have e2 : (typedE cols args[i]).2 = false := he.1.symm
        refine ⟨rfl, ⟨0, 0⟩, false, ?_, rfl⟩
        rw [typedE_none (typedL_none (List.getElem_mem hi) e2)]
        exact agree_refl _
      · rw [List.length_map, h5]; simp only [Nat.succ_eq_add_one]; omega
      · dsimp only
        rw [wrap_next (by omega), List.map_append]
        rfl
      · have : ok = true := by simpa using ho
        subst this
        rw [List.take_add_one, List.getElem?_eq_getElem hi]
        refine typedL_snoc h4 ?_
        have e2 : (typedE cols args[i]).2 = true := he.1.symm
        have e3 := he.2 e2
        rcases hte : typedE cols args[i] with ⟨u, b⟩
        rw [hte] at e2 e3
        dsimp only at e2 e3
        rw [e2, e3]
    · obtain ⟨i, tl⟩ := x
      obtain ⟨⟨h1, h2⟩, h4, h5⟩ := hx
      dsimp only at h1 h2 h4 h5 hi ⊢
      have hi : ¬ i < args.length := by simpa [cellsL_len] using hi
      rw [List.take_of_length_le (by omega)] at h4
      have htl : tl.length = args.length := by omega
      rw [cellsL_len] at hh
      have hgl := typedL_good hgc args hml' tl h4
      have fin : ∀ (a a' : Int) (c : Bool), agree (typedN cols op sub t v tl) (⟨a, a'⟩, c) → (([] : List (List D)) = [] ∧ ∃ (t' : Ty) (ok : Bool), agree (typedE cols (.mk op sub t v args)) (t', ok) ∧ [R.agg [D.v (Value.int IntKind.i64 a), D.v (Value.int IntKind.i64 a')], R.d (D.v (Value.bool c))] = [.agg t'.cs, .d (.v (.bool ok))]) := fun a a' c h => ⟨rfl, ⟨a, a'⟩, c, by rw [typedE_some h4]; exact h, rfl⟩
      have same : ∀ (p : Ty × Bool) (a a' : Int) (c : Bool), p = (⟨a, a'⟩, c) → agree p (⟨a, a'⟩, c) := fun p a a' c h => by rw [h]; exact agree_refl _
      have g0 : ∀ (h : 0 < tl.length), (tl.map Ty.cs)[Int.toNat 0]? = some (Ty.cs tl[0]) := fun h => ty_get h
      have g1 : ∀ (h : 1 < tl.length), (tl.map Ty.cs)[Int.toNat 1]? = some (Ty.cs tl[1]) := fun h => ty_get h
      have d0 : ∀ (h : 0 < tl.length), tl.getD 0 ⟨0, 0⟩ = tl[0] := fun h => by rw [List.getD_eq_getElem?_getD, List.getElem?_eq_getElem h]; rfl
      have d1 : ∀ (h : 1 < tl.length), tl.getD 1 ⟨0, 0⟩ = tl[1] := fun h => by rw [List.getD_eq_getElem?_getD, List.getElem?_eq_getElem h]; rfl
      refine ⟨fun o1 => ?_, fun o1 => ⟨fun o2 => ?_, fun o2 => ⟨fun o9 => ?_, fun o9 => ⟨fun o10 => ?_, fun o10 => ⟨fun o11 => ?_, fun o11 => ⟨fun o12 => ?_, fun o12 => ⟨fun o13 => ?_, fun o13 => ⟨fun o14 => ?_, fun o14 => ⟨fun o15 => ?_, fun o15 => ⟨fun o16 => ?_, fun o16 => ⟨fun o17 => ?_, fun o17 => ⟨fun o18 => ?_, fun o18 => ?_⟩⟩⟩⟩⟩⟩⟩⟩⟩⟩⟩⟩
      · have o1 : op = 1 := by simpa using o1
        subst o1
        obtain ⟨c1, c2⟩ := may_col hh
        have hlt : sub.toNat < cols.length := by omega
        refine ⟨_, rfl, ⟨c1, by rw [List.length_map]; exact c2⟩, _, ty_get hlt, rfl, _, _, rfl, fin _ _ _ (same _ _ _ _ ?_)⟩
        unfold typedN
        rw [if_pos rfl, List.getD_eq_getElem?_getD, List.getElem?_eq_getElem hlt]
        rfl
      all_goals have n1 : op ≠ 1 := by simpa using o1
      · have o2 : op = 2 := by simpa using o2
        refine fin _ _ _ (same _ _ _ _ ?_)
        unfold typedN
        rw [if_neg n1, if_pos o2]
      all_goals have n2 : op ≠ 2 := by simpa using o2
      all_goals have hpos : 1 ≤ args.length := by have := may_pos hh n1 n2; omega
      all_goals have hne : tl ≠ [] := by intro h; rw [h] at htl; simp at htl; omega
      · have o9 : op = 9 := by simpa using o9
        subst o9
        have h2 := may_two hh
        refine ⟨⟨by decide, by rw [List.length_map]; omega⟩, rfl, _, g0 (by omega), _, _, rfl, ⟨by decide, by rw [List.length_map]; omega⟩, rfl, _, g1 (by omega), _, _, rfl, fin _ _ _ (same _ _ _ _ ?_)⟩
        unfold typedN
        rw [if_neg n1, if_neg n2, if_pos rfl, d0 (by omega), d1 (by omega), alike_eq]
      all_goals have n9 : op ≠ 9 := by simpa using o9
      · have o10 : op = 10 := by simpa using o10
        refine ⟨tl, rfl, by omega, fin _ _ _ (same _ _ _ _ ?_)⟩
        unfold typedN
        rw [if_neg n1, if_neg n2, if_neg n9, if_pos (.inl o10)]
      all_goals have n10 : op ≠ 10 := by simpa using o10
      · have o11 : op = 11 := by simpa using o11
        refine ⟨tl, rfl, by omega, fin _ _ _ (same _ _ _ _ ?_)⟩
        unfold typedN
        rw [if_neg n1, if_neg n2, if_neg n9, if_pos (.inr (.inl o11))]
      all_goals have n11 : op ≠ 11 := by simpa using o11
      · have o12 : op = 12 := by simpa using o12
        refine ⟨tl, rfl, by omega, fin _ _ _ (same _ _ _ _ ?_)⟩
        unfold typedN
        rw [if_neg n1, if_neg n2, if_neg n9, if_pos (.inr (.inr o12))]
      all_goals have n12 : op ≠ 12 := by simpa using o12
      all_goals have nn : ¬ (op = 10 ∨ op = 11 ∨ op = 12) := by omega
      · have o13 : op = 13 := by simpa using o13
        refine fin _ _ _ (same _ _ _ _ ?_)
        unfold typedN
        rw [if_neg n1, if_neg n2, if_neg n9, if_neg nn, if_pos o13]
      all_goals have n13 : op ≠ 13 := by simpa using o13
      · have o14 : op = 14 := by simpa using o14
        obtain ⟨a, r, hr, hrl⟩ := results_ne (op := op) hne
        have hodd : op = 15 ∨ (op = 14 ∧ tl.length % 2 = 1) := by
          refine .inr ⟨o14, ?_⟩
          subst o14
          have := (may_case hh).2
          rw [Int.tmod_eq_emod_of_nonneg (by omega)] at this
          omega
        have ha : goodT a := hgl _ (results_mem hne (hr ▸ List.mem_cons_self))
        refine ⟨op, sub, t, v, args, tl, a, r, rfl, rfl, by omega, by rw [sel_results hodd, hr], fin _ _ _ ?_⟩
        have n17 : op ≠ 17 := by omega
        have n18 : op ≠ 18 := by omega
        have n16 : op ≠ 16 := by omega
        unfold typedN
        rw [if_neg n1, if_neg n2, if_neg n9, if_neg nn, if_neg n13, if_neg n17, if_neg n18, if_neg n16, if_pos (.inl o14), hr]
        exact case_agree (.inl o14) hgl ha
      all_goals have n14 : op ≠ 14 := by simpa using o14
      · have o15 : op = 15 := by simpa using o15
        obtain ⟨a, r, hr, hrl⟩ := results_ne (op := op) hne
        have ha : goodT a := hgl _ (results_mem hne (hr ▸ List.mem_cons_self))
        refine ⟨op, sub, t, v, args, tl, a, r, rfl, rfl, by omega, by rw [sel_results (.inl o15), hr], fin _ _ _ ?_⟩
        have n17 : op ≠ 17 := by omega
        have n18 : op ≠ 18 := by omega
        have n16 : op ≠ 16 := by omega
        unfold typedN
        rw [if_neg n1, if_neg n2, if_neg n9, if_neg nn, if_neg n13, if_neg n17, if_neg n18, if_neg n16, if_pos (.inr o15), hr]
        exact case_agree (.inr o15) hgl ha
      all_goals have n15 : op ≠ 15 := by simpa using o15
      · have o16 : op = 16 := by simpa using o16
        refine ⟨⟨by decide, by rw [List.length_map]; omega⟩, rfl, _, g0 (by omega), _, _, rfl, fin _ _ _ (same _ _ _ _ ?_)⟩
        have n17 : op ≠ 17 := by omega
        have n18 : op ≠ 18 := by omega
        unfold typedN
        rw [if_neg n1, if_neg n2, if_neg n9, if_neg nn, if_neg n13, if_neg n17, if_neg n18, if_pos o16, d0 (by omega)]
        unfold s153_0
        rw [BEq.comm (a := tl[0].k) (b := t.k)]
        have hs : ∀ k sc, s179_0 k sc = s130_0 k sc := fun _ _ => rfl
        rw [hs, show s130_0 t.k t.sc = (bif t.k == 2 then true else t.k == 3) from rfl]
        cases t.k == tl[0].k <;> cases tl[0].k == 4 <;> cases t.k == 4 <;> rfl
      all_goals have n16 : op ≠ 16 := by simpa using o16
      · have o17 : op = 17 := by simpa using o17
        refine ⟨tl, rfl, by omega, fin _ _ _ (same _ _ _ _ ?_)⟩
        unfold typedN
        rw [if_neg n1, if_neg n2, if_neg n9, if_neg nn, if_neg n13, if_pos o17]
      all_goals have n17 : op ≠ 17 := by simpa using o17
      · have o18 : op = 18 := by simpa using o18
        refine ⟨tl, rfl, by omega, fin _ _ _ (same _ _ _ _ ?_)⟩
        unfold typedN
        rw [if_neg n1, if_neg n2, if_neg n9, if_neg nn, if_neg n13, if_neg n17, if_pos o18]
      all_goals have n18 : op ≠ 18 := by simpa using o18
      have hlast : tl.length - 1 < tl.length := by omega
      have har := may_arith hh n1 n2 n9 n16 n12 n13 n18 n14 n15
      refine ⟨tl, tl[0], tl[tl.length - 1], rfl, List.getElem?_eq_getElem _, List.getElem?_eq_getElem _, by omega, fin _ _ _ ?_⟩
      unfold typedN
      rw [if_neg n1, if_neg n2, if_neg n9, if_neg nn, if_neg n13, if_neg n17, if_neg n18, if_neg n16, if_neg (by omega), d0 (by omega), List.getD_eq_getElem?_getD, List.getElem?_eq_getElem hlast, Option.getD_some]
      have hany : (!tl.any (offK 2)) = (bif tl[0].k == 2 then tl[tl.length - 1].k == 2 else false) := by
        exact any_two (by rcases har with ⟨_, h⟩ | ⟨_, h⟩ <;> omega) _ _
      rw [hany]
      refine arith_agree (hgl _ (List.getElem_mem _)) (hgl _ (List.getElem_mem _)) (fun o8 => ?_)
      rcases har with ⟨_, hm1⟩ | ⟨h8, _⟩
      · have : tl.length - 1 = 0 := by omega
        simp only [this]
      · exact absurd o8 h8
def c_77g (a : List R) (K : List R → List (List D) → Prop) : Prop := match a with
  | [.agg x, .d (.sl y)] => ∃ (e : EX) (cols : List Ty), x = cells e ∧ y = cols.map Ty.cs ∧ fits e ∧ mayE cols.length e = true ∧ (∀ t ∈ cols, goodT t) ∧ cols.length ≤ 1353245080300 ∧
      (∀ (t : Ty) (ok : Bool), agree (typedE cols e) (t, ok) → K [.agg t.cs, .d (.v (.bool ok))] [])
  | _ => False
theorem c_77g_ok (a : List R) (K : List R → List (List D) → Prop) (h : c_77g a K) : Ct prog gl 31 a K := by
  unfold c_77g at h
  split at h
  · obtain ⟨e, cols, rfl, rfl, h2, h3, h4, h5, h6⟩ := h
    exact (ct77 (size e + 1) e cols (Nat.lt_succ_self _) h2 h3 h4 h5).mono fun res fin ⟨e1, t, ok, e2, e3⟩ => by subst e1; subst e3; exact h6 t ok e2
  · exact h.elim
end Go.Proofs.Tryz
namespace Go.Proofs.Tryz
open Go Go.Dm Go.Ex
set_option maxRecDepth 100000
variable {gl : Nat → Option Obj}
def C_r23 : CallT := addC (addC (addC (addC C_4e 28 c_61h) 29 c_62h) 30 c_76g) 31 c_77g
def st_23 (op sub : Int) (t : Ty) (v : Go.Ex.AV) (args : List EX) (cols : List Ty) (x : Nat) : St := { tm := [(1, .d (.sl (cols.map Ty.cs))), (2, .ref 2 0), (4, .ref 4 0), (5, .d (.v (.int .i64 0))), (6, .d (.v (.int .i64 (x : Int))))], hp := [(2, .box [.d (.v (.int .i64 op)), .d (.v (.int .i64 sub)), .d (.v (.int .i64 t.k)), .d (.v (.int .i64 t.sc)), .d (.v (.int .i64 v.t.k)), .d (.v (.int .i64 v.t.sc)), .d (.v (.bool v.nul)), .d (.v (.int .i64 v.n)), .d (.v (.string v.s)), .d (.sl (cellsL args))]), (4, .box [.d (.v (.int .i64 0)), .d (.v (.int .i64 0))])], kn := [], gd := [] }
def inv_23 (cols : List Ty) (m : Nat) (x : Nat) : Prop := x ≤ cols.length ∧ m = cols.length - x ∧ (cols.take x).any badT = false
def fx_23 (op sub : Int) (t : Ty) (v : Go.Ex.AV) (args : List EX) (cols : List Ty) : Fi := { fi11 with lx := [(2, { X := Nat, sh := st_23 op sub t v args cols, P := fun _ => inv_23 cols })] }
theorem vc23 (op sub : Int) (t : Ty) (v : Go.Ex.AV) (args : List EX) (cols : List Ty) (Q : List R → List (List D) → Prop) : vc E_0 C_r23 noI (fx_23 op sub t v args cols) (f11.body.getD .skip) f11.results.toList [.agg (encX op sub t v (cellsL args)), .d (.sl (cols.map Ty.cs))] Q = (
  ∃ (x0 : { X := Nat, sh := st_23 op sub t v args cols, P := fun (x : Nat) => inv_23 cols : LX }.X), ({ tm := [((1 : Nat), V.d (D.sl (List.map Ty.cs cols))), ((2 : Nat), V.ref ((2 : Nat)) ((0 : Nat))), ((4 : Nat), V.ref ((4 : Nat)) ((0 : Nat))), ((5 : Nat), V.d (D.v (Value.int IntKind.i64 (0 : Int)))), ((6 : Nat), V.d (D.v (Value.int IntKind.i64 (0 : Int))))], hp := [((2 : Nat), B.box [V.d (D.v (Value.int IntKind.i64 op)), V.d (D.v (Value.int IntKind.i64 sub)), V.d (D.v (Value.int IntKind.i64 t.1)), V.d (D.v (Value.int IntKind.i64 t.2)), V.d (D.v (Value.int IntKind.i64 v.1.1)), V.d (D.v (Value.int IntKind.i64 v.1.2)), V.d (D.v (Value.bool v.2)), V.d (D.v (Value.int IntKind.i64 v.3)), V.d (D.v (Value.string v.4)), V.d (D.sl (cellsL args))]), ((4 : Nat), B.box [V.d (D.v (Value.int IntKind.i64 (0 : Int))), V.d (D.v (Value.int IntKind.i64 (0 : Int)))])], kn := [], gd := [] : St }
  = { tm := [((1 : Nat), V.d (D.sl (List.map Ty.cs cols))), ((2 : Nat), V.ref ((2 : Nat)) ((0 : Nat))), ((4 : Nat), V.ref ((4 : Nat)) ((0 : Nat))), ((5 : Nat), V.d (D.v (Value.int IntKind.i64 (0 : Int)))), ((6 : Nat), V.d (D.v (Value.int IntKind.i64 (↑x0 : Int))))], hp := [((2 : Nat), B.box [V.d (D.v (Value.int IntKind.i64 op)), V.d (D.v (Value.int IntKind.i64 sub)), V.d (D.v (Value.int IntKind.i64 t.1)), V.d (D.v (Value.int IntKind.i64 t.2)), V.d (D.v (Value.int IntKind.i64 v.1.1)), V.d (D.v (Value.int IntKind.i64 v.1.2)), V.d (D.v (Value.bool v.2)), V.d (D.v (Value.int IntKind.i64 v.3)), V.d (D.v (Value.string v.4)), V.d (D.sl (cellsL args))]), ((4 : Nat), B.box [V.d (D.v (Value.int IntKind.i64 (0 : Int))), V.d (D.v (Value.int IntKind.i64 (0 : Int)))])], kn := [], gd := [] : St }
  ∧ ∃ (n : Nat), inv_23 cols n x0) ∧ ∀ (n : Nat) (x : { X := Nat, sh := st_23 op sub t v args cols, P := fun (x : Nat) => inv_23 cols : LX }.X), inv_23
  cols n x → ∃ (es : List (List D)), D.sl (List.map Ty.cs cols) = D.sl es ∧ (decide ((↑x : Int) < (↑es.length : Int)) = true → ∃ (es : List (List D)),
  D.sl (List.map Ty.cs cols) = D.sl es ∧ ((0 : Int) ≤ (↑x : Int) ∧ (↑x : Int) < (↑es.length : Int)) ∧ ∃ (cells : List D), es[(↑x : Int).toNat]? = some
  cells ∧ cells.length = (2 : Nat) ∧ ∃ (n_1 : Int), ∃ (n_2 : Int), cut ((0 : Nat)) ((2 : Nat)) cells = some [D.v (Value.int IntKind.i64 n_1), D.v
  (Value.int IntKind.i64 n_2)] ∧ ((s67_0 n_1 n_2 != (0 : Int)) = true → Q [R.agg [D.v (Value.int IntKind.i64 (0 : Int)), D.v (Value.int IntKind.i64 (0
  : Int))], R.d (D.v (Value.int IntKind.i64 (140 : Int)))] []) ∧ ((s67_0 n_1 n_2 != (0 : Int)) = false → ∃ (m : Nat), ∃ (x' : { X := Nat, sh := st_23 op sub t v args cols, P := fun (x : Nat) => inv_23 cols : LX }.X),
  m < n ∧ { tm := [((1 : Nat), V.d (D.sl (List.map Ty.cs cols))), ((2 : Nat), V.ref ((2 : Nat)) ((0 : Nat))), ((4 : Nat), V.ref ((4 : Nat)) ((0 : Nat))), ((5 : Nat), V.d (D.v (Value.int IntKind.i64 (0 : Int)))), ((6 : Nat), V.d (D.v (Value.int IntKind.i64 (IntKind.i64.wrap ((↑x : Int) + (1 : Int))))))], hp := [((2 : Nat), B.box [V.d (D.v (Value.int IntKind.i64 op)), V.d (D.v (Value.int IntKind.i64 sub)), V.d (D.v (Value.int IntKind.i64 t.1)), V.d (D.v (Value.int IntKind.i64 t.2)), V.d (D.v (Value.int IntKind.i64 v.1.1)), V.d (D.v (Value.int IntKind.i64 v.1.2)), V.d (D.v (Value.bool v.2)), V.d (D.v (Value.int IntKind.i64 v.3)), V.d (D.v (Value.string v.4)), V.d (D.sl (cellsL args))]), ((4 : Nat), B.box [V.d (D.v (Value.int IntKind.i64 (0 : Int))), V.d (D.v (Value.int IntKind.i64 (0 : Int)))])], kn := [], gd := [] : St }
  = { tm := [((1 : Nat), V.d (D.sl (List.map Ty.cs cols))), ((2 : Nat), V.ref ((2 : Nat)) ((0 : Nat))), ((4 : Nat), V.ref ((4 : Nat)) ((0 : Nat))), ((5 : Nat), V.d (D.v (Value.int IntKind.i64 (0 : Int)))), ((6 : Nat), V.d (D.v (Value.int IntKind.i64 (↑x' : Int))))], hp := [((2 : Nat), B.box [V.d (D.v (Value.int IntKind.i64 op)), V.d (D.v (Value.int IntKind.i64 sub)), V.d (D.v (Value.int IntKind.i64 t.1)), V.d (D.v (Value.int IntKind.i64 t.2)), V.d (D.v (Value.int IntKind.i64 v.1.1)), V.d (D.v (Value.int IntKind.i64 v.1.2)), V.d (D.v (Value.bool v.2)), V.d (D.v (Value.int IntKind.i64 v.3)), V.d (D.v (Value.string v.4)), V.d (D.sl (cellsL args))]), ((4 : Nat), B.box [V.d (D.v (Value.int IntKind.i64 (0 : Int))), V.d (D.v (Value.int IntKind.i64 (0 : Int)))])], kn := [], gd := [] : St }
  ∧ inv_23 cols m x')) ∧ (decide ((↑x : Int) < (↑es.length : Int)) = false → ∃ (e : EX), [D.v (Value.int IntKind.i64 op), D.v (Value.int IntKind.i64
  sub), D.v (Value.int IntKind.i64 t.1), D.v (Value.int IntKind.i64 t.2), D.v (Value.int IntKind.i64 v.1.1), D.v (Value.int IntKind.i64 v.1.2), D.v
  (Value.bool v.2), D.v (Value.int IntKind.i64 v.3), D.v (Value.string v.4), D.sl (cellsL args)] = cells e ∧ fits e ∧ ∃ (e_1 : EX), [D.v (Value.int
  IntKind.i64 op), D.v (Value.int IntKind.i64 sub), D.v (Value.int IntKind.i64 t.1), D.v (Value.int IntKind.i64 t.2), D.v (Value.int IntKind.i64
  v.1.1), D.v (Value.int IntKind.i64 v.1.2), D.v (Value.bool v.2), D.v (Value.int IntKind.i64 v.3), D.v (Value.string v.4), D.sl (cellsL args)] = cells
  e_1 ∧ fits e_1 ∧ ∃ (es : List (List D)), D.sl (List.map Ty.cs cols) = D.sl es ∧ ∃ (e_2 : EX), [D.v (Value.int IntKind.i64 op), D.v (Value.int
  IntKind.i64 sub), D.v (Value.int IntKind.i64 t.1), D.v (Value.int IntKind.i64 t.2), D.v (Value.int IntKind.i64 v.1.1), D.v (Value.int IntKind.i64
  v.1.2), D.v (Value.bool v.2), D.v (Value.int IntKind.i64 v.3), D.v (Value.string v.4), D.sl (cellsL args)] = cells e_2 ∧ fits e_2 ∧ ((bif bif decide
  (nodes e > (256 : Int)) then true else decide (deep e_1 > (24 : Int)) then true else !mayE (↑es.length : Int) e_2) = true → Q [R.agg [D.v (Value.int
  IntKind.i64 (0 : Int)), D.v (Value.int IntKind.i64 (0 : Int))], R.d (D.v (Value.int IntKind.i64 (140 : Int)))] []) ∧ ((bif bif decide (nodes e > (256
  : Int)) then true else decide (deep e_1 > (24 : Int)) then true else !mayE (↑es.length : Int) e_2) = false → ∃ (e : EX), ∃ (cols_1 : List Ty), [D.v
  (Value.int IntKind.i64 op), D.v (Value.int IntKind.i64 sub), D.v (Value.int IntKind.i64 t.1), D.v (Value.int IntKind.i64 t.2), D.v (Value.int
  IntKind.i64 v.1.1), D.v (Value.int IntKind.i64 v.1.2), D.v (Value.bool v.2), D.v (Value.int IntKind.i64 v.3), D.v (Value.string v.4), D.sl (cellsL
  args)] = cells e ∧ List.map Ty.cs cols = List.map Ty.cs cols_1 ∧ fits e ∧ mayE (↑cols_1.length : Int) e = true ∧ (∀ (t : Ty), t ∈ cols_1 → goodT t) ∧
  cols_1.length ≤ (1353245080300 : Nat) ∧ ∀ (t : Ty) (ok : Bool), agree (typedE cols_1 e) (t, ok) → ((!ok) = true → Q [R.agg [D.v (Value.int
  IntKind.i64 (0 : Int)), D.v (Value.int IntKind.i64 (0 : Int))], R.d (D.v (Value.int IntKind.i64 (21 : Int)))] []) ∧ ((!ok) = false → Q [R.agg [D.v
  (Value.int IntKind.i64 t.1), D.v (Value.int IntKind.i64 t.2)], R.d (D.v (Value.int IntKind.i64 (0 : Int)))] [])))) := by kernel_rfl
theorem bad_eq (t : Ty) : badT t = (s67_0 t.k t.sc != 0) := by rw [s67_60]; rfl
theorem good_all {cols : List Ty} (h : cols.any badT = false) : ∀ t ∈ cols, goodT t := by
  intro t ht
  have h2 : badT t = false := by
    rw [Bool.eq_false_iff]; intro h3
    have : cols.any badT = true := List.any_eq_true.2 ⟨t, ht, h3⟩
    rw [h] at this; cases this
  unfold badT s59_0 at h2
  unfold goodT
  simpa [bne] using h2
theorem ct23 : ∀ (e : EX) (cols : List Ty), fits e → cols.length ≤ 1353245080300 → Ct prog gl 11 [.agg (cells e), .d (.sl (cols.map Ty.cs))] (gives [.agg (checkE cols e).1.cs, .d (.v (.int .i64 (checkE cols e).2))])
  | .mk op sub t v args, cols, hf, hcl => by
    have hC : CallsOk prog gl C_r23 := addC_ok (addC_ok (addC_ok (addC_ok C_4e_ok c_61h_ok) c_62h_ok) c_76g_ok) c_77g_ok
    rw [cells_mk]
    refine ct_of_vc E_ok hC ioK_no it_ok mixed (fn := f11) (body := f11.body.getD .skip) (by kernel_rfl) (by kernel_rfl) (by kernel_rfl) (fi := fx_23 op sub t v args cols) (by kernel_rfl) (by kernel_rfl) ⟨_, _, rfl, rfl⟩ ?_
    rw [vc23]
    have hc : encX op sub t v (cellsL args) = cells (.mk op sub t v args) := (cells_mk _ _ _ _ _).symm
    refine ⟨(0 : Nat), ⟨rfl, cols.length, Nat.zero_le _, rfl, by simp⟩, fun m (x : Nat) hx => ⟨_, rfl, fun hi => ?_, fun hi => ?_⟩⟩
    · have hi : x < cols.length := by simpa using hi
      have hg := ty_get hi
      have hm := hx.2.1
      refine ⟨_, rfl, ⟨by omega, by rw [List.length_map]; omega⟩, _, hg, rfl, _, _, rfl, fun h => ?_, fun h => ⟨cols.length - (x + 1), x + 1, by omega, ?_, hi, rfl, ?_⟩⟩
      · have : cols.any badT = true := List.any_eq_true.2 ⟨cols[x], List.getElem_mem hi, by rw [bad_eq]; exact h⟩
        unfold checkE
        rw [this]; exact ⟨rfl, rfl⟩
      · rw [wrap_next (by omega)]
      · rw [take_succ_get cols hi, List.any_append, hx.2.2]
        simp only [List.any_cons, List.any_nil, Bool.false_or, Bool.or_false]
        rw [bad_eq]; exact h
    · have hi : ¬ x < cols.length := by simpa using hi
      have h2 := hx.2.2
      rw [List.take_of_length_le (by omega)] at h2
      have hgc := good_all h2
      refine ⟨.mk op sub t v args, hc, hf, .mk op sub t v args, hc, hf, _, rfl, .mk op sub t v args, hc, hf, fun h => ?_, fun h => ?_⟩
      · rw [List.length_map] at h
        unfold checkE
        rw [h2, cond_false, h]; exact ⟨rfl, rfl⟩
      · rw [List.length_map] at h
        refine ⟨.mk op sub t v args, cols, hc, rfl, hf, ?_, hgc, hcl, fun t' ok ht => ⟨fun h3 => ?_, fun h3 => ?_⟩⟩
        · revert h
          cases mayE (cols.length : Int) (.mk op sub t v args) <;> cases decide (nodes (EX.mk op sub t v args) > 256) <;> cases decide (deep (EX.mk op sub t v args) > 24) <;> simp
        · have hok : ok = false := by simpa using h3
          have h4 : (typedE cols (.mk op sub t v args)).2 = false := by rw [← hok]; exact ht.1.symm
          unfold checkE
          rw [h2, cond_false, h, cond_false, h4]
          exact ⟨rfl, rfl⟩
        · have hok : ok = true := by simpa using h3
          have h4 : (typedE cols (.mk op sub t v args)).2 = true := by rw [← hok]; exact ht.1.symm
          have h5 : t' = (typedE cols (.mk op sub t v args)).1 := ht.2 h4
          unfold checkE
          rw [h2, cond_false, h, cond_false, h4, h5]
          exact ⟨rfl, rfl⟩
def c_23 (a : List R) (K : List R → List (List D) → Prop) : Prop := match a with
  | [.agg x, .d (.sl y)] => ∃ (e : EX) (cols : List Ty), x = cells e ∧ y = cols.map Ty.cs ∧ fits e ∧ cols.length ≤ 1353245080300 ∧ (∀ (t : Ty) (f : Int), checkE cols e = (t, f) → K [.agg t.cs, .d (.v (.int .i64 f))] [])
  | _ => False
theorem c_23_ok (a : List R) (K : List R → List (List D) → Prop) (h : c_23 a K) : Ct prog gl 11 a K := by
  unfold c_23 at h
  split at h
  · obtain ⟨e, cols, rfl, rfl, h1, h2, h3⟩ := h
    exact (ct23 e cols h1 h2).gives (h3 _ _ rfl)
  · exact h.elim
end Go.Proofs.Tryz
/- Tests that a scan can do, as data. -/
namespace Go.Ex
open Go Go.Dm
/-- Is it a column beside a constant? -/
def isW (p : EX) : Bool := p.op == 9 && ((p.args.getD 0 zeroE).op == 1 && (p.args.getD 1 zeroE).op == 2)
def wcells (p : EX) : List D := [.v (.int .i64 (p.args.getD 0 zeroE).sub), .v (.int .i64 p.sub), .v (.int .i64 (p.args.getD 1 zeroE).v.t.k), .v (.int .i64 (p.args.getD 1 zeroE).v.t.sc), .v (.bool (p.args.getD 1 zeroE).v.nul), .v (.int .i64 (p.args.getD 1 zeroE).v.n), .v (.string (p.args.getD 1 zeroE).v.s)]
def wsD (l : List EX) : List (List D) := l.map wcells
end Go.Ex
namespace Go.Proofs.Tryz
open Go Go.Dm Go.Ex
set_option maxRecDepth 100000
variable {gl : Nat → Option Obj}
def c_34g (a : List R) (K : List R → List (List D) → Prop) : Prop := match a with
  | [.agg x] => ∃ e : EX, x = cells e ∧ fits e ∧ size e ≤ 1000000000 ∧ K [.lst 28 10 (cellsL (partsE e))] []
  | _ => False
theorem c_34g_ok (a : List R) (K : List R → List (List D) → Prop) (h : c_34g a K) : Ct prog gl 18 a K := by
  unfold c_34g at h
  split at h
  · obtain ⟨e, rfl, h1, h2, h3⟩ := h
    exact (ct34 (size e + 1) e (Nat.lt_succ_self _) h1 h2).gives h3
  · exact h.elim
theorem c_35g_ok (a : List R) (K : List R → List (List D) → Prop) (h : c_34g a K) : Ct prog gl 19 a K := by
  unfold c_34g at h
  split at h
  · obtain ⟨e, rfl, h1, h2, h3⟩ := h
    exact (ct35 (size e + 1) e (Nat.lt_succ_self _) h1 h2).gives h3
  · exact h.elim
def C_r31 : CallT := addC (addC C_n 21 c_15) 18 c_34g
def st_31 (ps : List EX) (x : Nat) : St := { tm := [(4, .nil), (5, .d (.v (.bool false))), (8, .own 50008), (25, .d (.sl (cellsL ps))), (26, .d (.v (.int .i64 (ps.length : Int)))), (27, .d (.v (.int .i64 (x : Int))))], hp := [(50008, .lst 57 7 (wsD (ps.take x)))], kn := [], gd := [] }
def inv_31 (ps : List EX) (m : Nat) (x : Nat) : Prop := x ≤ ps.length ∧ m = ps.length - x ∧ (ps.take x).all isW = true
def fx_31 (ps : List EX) : Fi := { fi15 with lp := [(6, ([4, 5, 8, 25, 26, 27], [2, 6, 10, 65, 66]))], cv := [(6, [⟨none, 8, 50008, 57, 7⟩, ⟨none, 0, 25, 0, 0⟩])], lx := [(6, { X := Nat, sh := st_31 ps, P := fun _ => inv_31 ps })] }
theorem vc31 (op sub : Int) (t : Ty) (v : Go.Ex.AV) (args : List EX) (cols : List Ty) (ps : List EX) (Q : List R → List (List D) → Prop) : vc E_0 C_r31 noI (fx_31 ps) (f15.body.getD .skip) f15.results.toList [.agg (encX op sub t v (cellsL args)), .d (.sl (cols.map Ty.cs))] Q = (
  ∃ (e : EX), ∃ (cols_1 : List Ty), [D.v (Value.int IntKind.i64 op), D.v (Value.int IntKind.i64 sub), D.v (Value.int IntKind.i64 t.1), D.v (Value.int
  IntKind.i64 t.2), D.v (Value.int IntKind.i64 v.1.1), D.v (Value.int IntKind.i64 v.1.2), D.v (Value.bool v.2), D.v (Value.int IntKind.i64 v.3), D.v
  (Value.string v.4), D.sl (cellsL args)] = cells e ∧ List.map Ty.cs cols = List.map Ty.cs cols_1 ∧ fits e ∧ cols_1.length ≤ (1353245080300 : Nat) ∧ ∀
  (t_1 : Ty) (f : Int), checkE cols_1 e = (t_1, f) → ((bif f != (0 : Int) then true else t_1.1 != (1 : Int)) = true → Q [R.d (D.sl []), R.d (D.v
  (Value.bool false))] []) ∧ ((bif f != (0 : Int) then true else t_1.1 != (1 : Int)) = false → ∃ (e : EX), [D.v (Value.int IntKind.i64 op), D.v
  (Value.int IntKind.i64 sub), D.v (Value.int IntKind.i64 t.1), D.v (Value.int IntKind.i64 t.2), D.v (Value.int IntKind.i64 v.1.1), D.v (Value.int
  IntKind.i64 v.1.2), D.v (Value.bool v.2), D.v (Value.int IntKind.i64 v.3), D.v (Value.string v.4), D.sl (cellsL args)] = cells e ∧ fits e ∧ size e ≤
  (1000000000 : Nat) ∧ ∃ (x0 : { X := Nat, sh := st_31 ps, P := fun (x : Nat) => inv_31 ps : LX }.X), ({ tm := [((4 : Nat), V.nil), ((5 : Nat), V.d (D.v (Value.bool false))), ((8 : Nat), V.own ((50008 : Nat))), ((25 : Nat), V.d (D.sl (cellsL (partsE e)))), ((26 : Nat), V.d (D.v (Value.int IntKind.i64 (↑(cellsL (partsE e)).length : Int)))), ((27 : Nat), V.d (D.v (Value.int IntKind.i64 (0 : Int))))], hp := [((50008 : Nat), B.lst ((57 : Nat)) ((7 : Nat)) [])], kn := [], gd := [] : St }
  = { tm := [((4 : Nat), V.nil), ((5 : Nat), V.d (D.v (Value.bool false))), ((8 : Nat), V.own ((50008 : Nat))), ((25 : Nat), V.d (D.sl (cellsL ps))), ((26 : Nat), V.d (D.v (Value.int IntKind.i64 (↑ps.length : Int)))), ((27 : Nat), V.d (D.v (Value.int IntKind.i64 (↑x0 : Int))))], hp := [((50008 : Nat), B.lst ((57 : Nat)) ((7 : Nat)) (wsD (List.take x0 ps)))], kn := [], gd := [] : St }
  ∧ ∃ (n : Nat), inv_31 ps n x0) ∧ ∀ (n : Nat) (x : { X := Nat, sh := st_31 ps, P := fun (x : Nat) => inv_31 ps : LX }.X), inv_31 ps n x → (decide ((↑x
  : Int) < (↑ps.length : Int)) = true → ∃ (es : List (List D)), D.sl (cellsL ps) = D.sl es ∧ ((0 : Int) ≤ (↑x : Int) ∧ (↑x : Int) < (↑es.length : Int))
  ∧ ∃ (cells : List D), es[(↑x : Int).toNat]? = some cells ∧ cells.length = (10 : Nat) ∧ ∃ (n_1 : Int), ∃ (n_2 : Int), ∃ (n_3 : Int), ∃ (n_4 : Int), ∃
  (n_5 : Int), ∃ (n_6 : Int), ∃ (b : Bool), ∃ (n_7 : Int), ∃ (b_1 : ByteArray), ∃ (es : List (List D)), cut ((0 : Nat)) ((10 : Nat)) cells = some [D.v
  (Value.int IntKind.i64 n_1), D.v (Value.int IntKind.i64 n_2), D.v (Value.int IntKind.i64 n_3), D.v (Value.int IntKind.i64 n_4), D.v (Value.int
  IntKind.i64 n_5), D.v (Value.int IntKind.i64 n_6), D.v (Value.bool b), D.v (Value.int IntKind.i64 n_7), D.v (Value.string b_1), D.sl es] ∧ ((n_1 !=
  (9 : Int)) = false → ∃ (es_1 : List (List D)), D.sl es = D.sl es_1 ∧ ((0 : Int) ≤ (0 : Int) ∧ (0 : Int) < (↑es_1.length : Int)) ∧ ∃ (cells : List D),
  es_1[Int.toNat (0 : Int)]? = some cells ∧ cells.length = (10 : Nat) ∧ ∃ (n_8 : Int), cut ((0 : Nat)) ((1 : Nat)) cells = some [D.v (Value.int
  IntKind.i64 n_8)] ∧ ((n_8 != (1 : Int)) = false → ∃ (es_2 : List (List D)), D.sl es = D.sl es_2 ∧ ((0 : Int) ≤ (1 : Int) ∧ (1 : Int) < (↑es_2.length
  : Int)) ∧ ∃ (cells : List D), es_2[Int.toNat (1 : Int)]? = some cells ∧ cells.length = (10 : Nat) ∧ ∃ (n_9 : Int), cut ((0 : Nat)) ((1 : Nat)) cells
  = some [D.v (Value.int IntKind.i64 n_9)] ∧ ((n_9 != (2 : Int)) = true → Q [R.d (D.sl []), R.d (D.v (Value.bool false))] []) ∧ ((n_9 != (2 : Int)) =
  false → ∃ (es_3 : List (List D)), D.sl es = D.sl es_3 ∧ ((0 : Int) ≤ (0 : Int) ∧ (0 : Int) < (↑es_3.length : Int)) ∧ ∃ (cells : List D),
  es_3[Int.toNat (0 : Int)]? = some cells ∧ cells.length = (10 : Nat) ∧ ∃ (n_10 : Int), cut ((0 : Nat)) ((1 : Nat)) (dropN ((1 : Nat)) cells) = some
  [D.v (Value.int IntKind.i64 n_10)] ∧ ∃ (es_4 : List (List D)), D.sl es = D.sl es_4 ∧ ((0 : Int) ≤ (1 : Int) ∧ (1 : Int) < (↑es_4.length : Int)) ∧ ∃
  (cells : List D), es_4[Int.toNat (1 : Int)]? = some cells ∧ cells.length = (10 : Nat) ∧ ∃ (n_11 : Int), ∃ (n_12 : Int), ∃ (b : Bool), ∃ (n_13 : Int),
  ∃ (b_2 : ByteArray), cut ((0 : Nat)) ((5 : Nat)) (dropN ((4 : Nat)) cells) = some [D.v (Value.int IntKind.i64 n_11), D.v (Value.int IntKind.i64
  n_12), D.v (Value.bool b), D.v (Value.int IntKind.i64 n_13), D.v (Value.string b_2)] ∧ (∀ (c : List D), c ∈ [[D.v (Value.int IntKind.i64 n_10), D.v
  (Value.int IntKind.i64 n_2), D.v (Value.int IntKind.i64 n_11), D.v (Value.int IntKind.i64 n_12), D.v (Value.bool b), D.v (Value.int IntKind.i64
  n_13), D.v (Value.string b_2)]] → c.length = (7 : Nat)) ∧ (57 : Nat) = (57 : Nat) ∧ (7 : Nat) = (7 : Nat) ∧ (↑(wsD (List.take x ps)).length.succ :
  Int) * (↑((64 : Nat)) : Int) ≤ (140737488355328 : Int) ∧ ∃ (m : Nat), ∃ (x' : { X := Nat, sh := st_31 ps, P := fun (x : Nat) => inv_31 ps : LX }.X),
  m < n ∧ { tm := [((4 : Nat), V.nil), ((5 : Nat), V.d (D.v (Value.bool false))), ((8 : Nat), V.own ((50008 : Nat))), ((25 : Nat), V.d (D.sl (cellsL ps))), ((26 : Nat), V.d (D.v (Value.int IntKind.i64 (↑ps.length : Int)))), ((27 : Nat), V.d (D.v (Value.int IntKind.i64 (IntKind.i64.wrap ((↑x : Int) + (1 : Int))))))], hp := [((50008 : Nat), B.lst ((57 : Nat)) ((7 : Nat)) (wsD (List.take x ps) ++ [[D.v (Value.int IntKind.i64 n_10), D.v (Value.int IntKind.i64 n_2), D.v (Value.int IntKind.i64 n_11), D.v (Value.int IntKind.i64 n_12), D.v (Value.bool b), D.v (Value.int IntKind.i64 n_13), D.v (Value.string b_2)]]))], kn := [], gd := [] : St }
  = { tm := [((4 : Nat), V.nil), ((5 : Nat), V.d (D.v (Value.bool false))), ((8 : Nat), V.own ((50008 : Nat))), ((25 : Nat), V.d (D.sl (cellsL ps))), ((26 : Nat), V.d (D.v (Value.int IntKind.i64 (↑ps.length : Int)))), ((27 : Nat), V.d (D.v (Value.int IntKind.i64 (↑x' : Int))))], hp := [((50008 : Nat), B.lst ((57 : Nat)) ((7 : Nat)) (wsD (List.take x' ps)))], kn := [], gd := [] : St }
  ∧ inv_31 ps m x')) ∧ ((n_8 != (1 : Int)) = !false → (true = true → Q [R.d (D.sl []), R.d (D.v (Value.bool false))] []) ∧ (true = false → ∃ (es_2 :
  List (List D)), D.sl es = D.sl es_2 ∧ ((0 : Int) ≤ (0 : Int) ∧ (0 : Int) < (↑es_2.length : Int)) ∧ ∃ (cells : List D), es_2[Int.toNat (0 : Int)]? =
  some cells ∧ cells.length = (10 : Nat) ∧ ∃ (n_9 : Int), cut ((0 : Nat)) ((1 : Nat)) (dropN ((1 : Nat)) cells) = some [D.v (Value.int IntKind.i64
  n_9)] ∧ ∃ (es_3 : List (List D)), D.sl es = D.sl es_3 ∧ ((0 : Int) ≤ (1 : Int) ∧ (1 : Int) < (↑es_3.length : Int)) ∧ ∃ (cells : List D),
  es_3[Int.toNat (1 : Int)]? = some cells ∧ cells.length = (10 : Nat) ∧ ∃ (n_10 : Int), ∃ (n_11 : Int), ∃ (b : Bool), ∃ (n_12 : Int), ∃ (b_2 :
  ByteArray), cut ((0 : Nat)) ((5 : Nat)) (dropN ((4 : Nat)) cells) = some [D.v (Value.int IntKind.i64 n_10), D.v (Value.int IntKind.i64 n_11), D.v
  (Value.bool b), D.v (Value.int IntKind.i64 n_12), D.v (Value.string b_2)] ∧ (∀ (c : List D), c ∈ [[D.v (Value.int IntKind.i64 n_9), D.v (Value.int
  IntKind.i64 n_2), D.v (Value.int IntKind.i64 n_10), D.v (Value.int IntKind.i64 n_11), D.v (Value.bool b), D.v (Value.int IntKind.i64 n_12), D.v
  (Value.string b_2)]] → c.length = (7 : Nat)) ∧ (57 : Nat) = (57 : Nat) ∧ (7 : Nat) = (7 : Nat) ∧ (↑(wsD (List.take x ps)).length.succ : Int) * (↑((64
  : Nat)) : Int) ≤ (140737488355328 : Int) ∧ ∃ (m : Nat), ∃ (x' : { X := Nat, sh := st_31 ps, P := fun (x : Nat) => inv_31 ps : LX }.X), m < n ∧ { tm := [((4 : Nat), V.nil), ((5 : Nat), V.d (D.v (Value.bool false))), ((8 : Nat), V.own ((50008 : Nat))), ((25 : Nat), V.d (D.sl (cellsL ps))), ((26 : Nat), V.d (D.v (Value.int IntKind.i64 (↑ps.length : Int)))), ((27 : Nat), V.d (D.v (Value.int IntKind.i64 (IntKind.i64.wrap ((↑x : Int) + (1 : Int))))))], hp := [((50008 : Nat), B.lst ((57 : Nat)) ((7 : Nat)) (wsD (List.take x ps) ++ [[D.v (Value.int IntKind.i64 n_9), D.v (Value.int IntKind.i64 n_2), D.v (Value.int IntKind.i64 n_10), D.v (Value.int IntKind.i64 n_11), D.v (Value.bool b), D.v (Value.int IntKind.i64 n_12), D.v (Value.string b_2)]]))], kn := [], gd := [] : St }
  = { tm := [((4 : Nat), V.nil), ((5 : Nat), V.d (D.v (Value.bool false))), ((8 : Nat), V.own ((50008 : Nat))), ((25 : Nat), V.d (D.sl (cellsL ps))), ((26 : Nat), V.d (D.v (Value.int IntKind.i64 (↑ps.length : Int)))), ((27 : Nat), V.d (D.v (Value.int IntKind.i64 (↑x' : Int))))], hp := [((50008 : Nat), B.lst ((57 : Nat)) ((7 : Nat)) (wsD (List.take x' ps)))], kn := [], gd := [] : St }
  ∧ inv_31 ps m x'))) ∧ ((n_1 != (9 : Int)) = !false → (true = false → ∃ (es_1 : List (List D)), D.sl es = D.sl es_1 ∧ ((0 : Int) ≤ (1 : Int) ∧ (1 :
  Int) < (↑es_1.length : Int)) ∧ ∃ (cells : List D), es_1[Int.toNat (1 : Int)]? = some cells ∧ cells.length = (10 : Nat) ∧ ∃ (n_8 : Int), cut ((0 :
  Nat)) ((1 : Nat)) cells = some [D.v (Value.int IntKind.i64 n_8)] ∧ ((n_8 != (2 : Int)) = true → Q [R.d (D.sl []), R.d (D.v (Value.bool false))] []) ∧
  ((n_8 != (2 : Int)) = false → ∃ (es_2 : List (List D)), D.sl es = D.sl es_2 ∧ ((0 : Int) ≤ (0 : Int) ∧ (0 : Int) < (↑es_2.length : Int)) ∧ ∃ (cells :
  List D), es_2[Int.toNat (0 : Int)]? = some cells ∧ cells.length = (10 : Nat) ∧ ∃ (n_9 : Int), cut ((0 : Nat)) ((1 : Nat)) (dropN ((1 : Nat)) cells) =
  some [D.v (Value.int IntKind.i64 n_9)] ∧ ∃ (es_3 : List (List D)), D.sl es = D.sl es_3 ∧ ((0 : Int) ≤ (1 : Int) ∧ (1 : Int) < (↑es_3.length : Int)) ∧
  ∃ (cells : List D), es_3[Int.toNat (1 : Int)]? = some cells ∧ cells.length = (10 : Nat) ∧ ∃ (n_10 : Int), ∃ (n_11 : Int), ∃ (b : Bool), ∃ (n_12 :
  Int), ∃ (b_2 : ByteArray), cut ((0 : Nat)) ((5 : Nat)) (dropN ((4 : Nat)) cells) = some [D.v (Value.int IntKind.i64 n_10), D.v (Value.int IntKind.i64
  n_11), D.v (Value.bool b), D.v (Value.int IntKind.i64 n_12), D.v (Value.string b_2)] ∧ (∀ (c : List D), c ∈ [[D.v (Value.int IntKind.i64 n_9), D.v
  (Value.int IntKind.i64 n_2), D.v (Value.int IntKind.i64 n_10), D.v (Value.int IntKind.i64 n_11), D.v (Value.bool b), D.v (Value.int IntKind.i64
  n_12), D.v (Value.string b_2)]] → c.length = (7 : Nat)) ∧ (57 : Nat) = (57 : Nat) ∧ (7 : Nat) = (7 : Nat) ∧ (↑(wsD (List.take x ps)).length.succ :
  Int) * (↑((64 : Nat)) : Int) ≤ (140737488355328 : Int) ∧ ∃ (m : Nat), ∃ (x' : { X := Nat, sh := st_31 ps, P := fun (x : Nat) => inv_31 ps : LX }.X),
  m < n ∧ { tm := [((4 : Nat), V.nil), ((5 : Nat), V.d (D.v (Value.bool false))), ((8 : Nat), V.own ((50008 : Nat))), ((25 : Nat), V.d (D.sl (cellsL ps))), ((26 : Nat), V.d (D.v (Value.int IntKind.i64 (↑ps.length : Int)))), ((27 : Nat), V.d (D.v (Value.int IntKind.i64 (IntKind.i64.wrap ((↑x : Int) + (1 : Int))))))], hp := [((50008 : Nat), B.lst ((57 : Nat)) ((7 : Nat)) (wsD (List.take x ps) ++ [[D.v (Value.int IntKind.i64 n_9), D.v (Value.int IntKind.i64 n_2), D.v (Value.int IntKind.i64 n_10), D.v (Value.int IntKind.i64 n_11), D.v (Value.bool b), D.v (Value.int IntKind.i64 n_12), D.v (Value.string b_2)]]))], kn := [], gd := [] : St }
  = { tm := [((4 : Nat), V.nil), ((5 : Nat), V.d (D.v (Value.bool false))), ((8 : Nat), V.own ((50008 : Nat))), ((25 : Nat), V.d (D.sl (cellsL ps))), ((26 : Nat), V.d (D.v (Value.int IntKind.i64 (↑ps.length : Int)))), ((27 : Nat), V.d (D.v (Value.int IntKind.i64 (↑x' : Int))))], hp := [((50008 : Nat), B.lst ((57 : Nat)) ((7 : Nat)) (wsD (List.take x' ps)))], kn := [], gd := [] : St }
  ∧ inv_31 ps m x')) ∧ (true = !false → (true = true → Q [R.d (D.sl []), R.d (D.v (Value.bool false))] []) ∧ (true = false → ∃ (es_1 : List (List D)),
  D.sl es = D.sl es_1 ∧ ((0 : Int) ≤ (0 : Int) ∧ (0 : Int) < (↑es_1.length : Int)) ∧ ∃ (cells : List D), es_1[Int.toNat (0 : Int)]? = some cells ∧
  cells.length = (10 : Nat) ∧ ∃ (n_8 : Int), cut ((0 : Nat)) ((1 : Nat)) (dropN ((1 : Nat)) cells) = some [D.v (Value.int IntKind.i64 n_8)] ∧ ∃ (es_2 :
  List (List D)), D.sl es = D.sl es_2 ∧ ((0 : Int) ≤ (1 : Int) ∧ (1 : Int) < (↑es_2.length : Int)) ∧ ∃ (cells : List D), es_2[Int.toNat (1 : Int)]? =
  some cells ∧ cells.length = (10 : Nat) ∧ ∃ (n_9 : Int), ∃ (n_10 : Int), ∃ (b : Bool), ∃ (n_11 : Int), ∃ (b_2 : ByteArray), cut ((0 : Nat)) ((5 :
  Nat)) (dropN ((4 : Nat)) cells) = some [D.v (Value.int IntKind.i64 n_9), D.v (Value.int IntKind.i64 n_10), D.v (Value.bool b), D.v (Value.int
  IntKind.i64 n_11), D.v (Value.string b_2)] ∧ (∀ (c : List D), c ∈ [[D.v (Value.int IntKind.i64 n_8), D.v (Value.int IntKind.i64 n_2), D.v (Value.int
  IntKind.i64 n_9), D.v (Value.int IntKind.i64 n_10), D.v (Value.bool b), D.v (Value.int IntKind.i64 n_11), D.v (Value.string b_2)]] → c.length = (7 :
  Nat)) ∧ (57 : Nat) = (57 : Nat) ∧ (7 : Nat) = (7 : Nat) ∧ (↑(wsD (List.take x ps)).length.succ : Int) * (↑((64 : Nat)) : Int) ≤ (140737488355328 :
  Int) ∧ ∃ (m : Nat), ∃ (x' : { X := Nat, sh := st_31 ps, P := fun (x : Nat) => inv_31 ps : LX }.X), m < n ∧ { tm := [((4 : Nat), V.nil), ((5 : Nat), V.d (D.v (Value.bool false))), ((8 : Nat), V.own ((50008 : Nat))), ((25 : Nat), V.d (D.sl (cellsL ps))), ((26 : Nat), V.d (D.v (Value.int IntKind.i64 (↑ps.length : Int)))), ((27 : Nat), V.d (D.v (Value.int IntKind.i64 (IntKind.i64.wrap ((↑x : Int) + (1 : Int))))))], hp := [((50008 : Nat), B.lst ((57 : Nat)) ((7 : Nat)) (wsD (List.take x ps) ++ [[D.v (Value.int IntKind.i64 n_8), D.v (Value.int IntKind.i64 n_2), D.v (Value.int IntKind.i64 n_9), D.v (Value.int IntKind.i64 n_10), D.v (Value.bool b), D.v (Value.int IntKind.i64 n_11), D.v (Value.string b_2)]]))], kn := [], gd := [] : St }
  = { tm := [((4 : Nat), V.nil), ((5 : Nat), V.d (D.v (Value.bool false))), ((8 : Nat), V.own ((50008 : Nat))), ((25 : Nat), V.d (D.sl (cellsL ps))), ((26 : Nat), V.d (D.v (Value.int IntKind.i64 (↑ps.length : Int)))), ((27 : Nat), V.d (D.v (Value.int IntKind.i64 (↑x' : Int))))], hp := [((50008 : Nat), B.lst ((57 : Nat)) ((7 : Nat)) (wsD (List.take x' ps)))], kn := [], gd := [] : St }
  ∧ inv_31 ps m x')))) ∧ (decide ((↑x : Int) < (↑ps.length : Int)) = false → Q [R.d (D.sl (wsD (List.take x ps))), R.d (D.v (Value.bool true))] []))) := by kernel_rfl
def C_r32 : CallT := addC (addC C_n 11 c_23) 19 c_34g
def st_32 (ps : List EX) (x : Nat) : St := { tm := [(4, .nil), (5, .d (.v (.bool false))), (8, .own 50008), (9, .d (.sl (cellsL ps))), (10, .d (.v (.int .i64 (x : Int))))], hp := [(50008, .lst 57 7 (wsD (ps.take x)))], kn := [], gd := [] }
def fx_32 (ps : List EX) : Fi := { fi16 with lp := [(7, ([4, 5, 8, 9, 10], [2, 6, 11, 71, 72]))], cv := [(7, [⟨none, 8, 50008, 57, 7⟩, ⟨none, 0, 26, 0, 0⟩])], lx := [(7, { X := Nat, sh := st_32 ps, P := fun _ => inv_31 ps })] }
theorem vc32 (op sub : Int) (t : Ty) (v : Go.Ex.AV) (args : List EX) (cols : List Ty) (ps : List EX) (Q : List R → List (List D) → Prop) : vc E_0 C_r32 noI (fx_32 ps) (f16.body.getD .skip) f16.results.toList [.agg (encX op sub t v (cellsL args)), .d (.sl (cols.map Ty.cs))] Q = (
  ∃ (e : EX), ∃ (cols_1 : List Ty), [D.v (Value.int IntKind.i64 op), D.v (Value.int IntKind.i64 sub), D.v (Value.int IntKind.i64 t.1), D.v (Value.int
  IntKind.i64 t.2), D.v (Value.int IntKind.i64 v.1.1), D.v (Value.int IntKind.i64 v.1.2), D.v (Value.bool v.2), D.v (Value.int IntKind.i64 v.3), D.v
  (Value.string v.4), D.sl (cellsL args)] = cells e ∧ List.map Ty.cs cols = List.map Ty.cs cols_1 ∧ fits e ∧ cols_1.length ≤ (1353245080300 : Nat) ∧ ∀
  (t_1 : Ty) (f : Int), checkE cols_1 e = (t_1, f) → ((bif f != (0 : Int) then true else t_1.1 != (1 : Int)) = true → Q [R.d (D.sl []), R.d (D.v
  (Value.bool false))] []) ∧ ((bif f != (0 : Int) then true else t_1.1 != (1 : Int)) = false → ∃ (e : EX), [D.v (Value.int IntKind.i64 op), D.v
  (Value.int IntKind.i64 sub), D.v (Value.int IntKind.i64 t.1), D.v (Value.int IntKind.i64 t.2), D.v (Value.int IntKind.i64 v.1.1), D.v (Value.int
  IntKind.i64 v.1.2), D.v (Value.bool v.2), D.v (Value.int IntKind.i64 v.3), D.v (Value.string v.4), D.sl (cellsL args)] = cells e ∧ fits e ∧ size e ≤
  (1000000000 : Nat) ∧ ∃ (x0 : { X := Nat, sh := st_32 ps, P := fun (x : Nat) => inv_31 ps : LX }.X), ({ tm := [((4 : Nat), V.nil), ((5 : Nat), V.d (D.v (Value.bool false))), ((8 : Nat), V.own ((50008 : Nat))), ((9 : Nat), V.d (D.sl (cellsL (partsE e)))), ((10 : Nat), V.d (D.v (Value.int IntKind.i64 (0 : Int))))], hp := [((50008 : Nat), B.lst ((57 : Nat)) ((7 : Nat)) [])], kn := [], gd := [] : St }
  = { tm := [((4 : Nat), V.nil), ((5 : Nat), V.d (D.v (Value.bool false))), ((8 : Nat), V.own ((50008 : Nat))), ((9 : Nat), V.d (D.sl (cellsL ps))), ((10 : Nat), V.d (D.v (Value.int IntKind.i64 (↑x0 : Int))))], hp := [((50008 : Nat), B.lst ((57 : Nat)) ((7 : Nat)) (wsD (List.take x0 ps)))], kn := [], gd := [] : St }
  ∧ ∃ (n : Nat), inv_31 ps n x0) ∧ ∀ (n : Nat) (x : { X := Nat, sh := st_32 ps, P := fun (x : Nat) => inv_31 ps : LX }.X), inv_31 ps n x → ∃ (es : List
  (List D)), D.sl (cellsL ps) = D.sl es ∧ (decide ((↑x : Int) < (↑es.length : Int)) = true → ∃ (es : List (List D)), D.sl (cellsL ps) = D.sl es ∧ ((0 :
  Int) ≤ (↑x : Int) ∧ (↑x : Int) < (↑es.length : Int)) ∧ ∃ (cells : List D), es[(↑x : Int).toNat]? = some cells ∧ cells.length = (10 : Nat) ∧ ∃ (n_1 :
  Int), ∃ (n_2 : Int), ∃ (n_3 : Int), ∃ (n_4 : Int), ∃ (n_5 : Int), ∃ (n_6 : Int), ∃ (b : Bool), ∃ (n_7 : Int), ∃ (b_1 : ByteArray), ∃ (es : List (List
  D)), cut ((0 : Nat)) ((10 : Nat)) cells = some [D.v (Value.int IntKind.i64 n_1), D.v (Value.int IntKind.i64 n_2), D.v (Value.int IntKind.i64 n_3),
  D.v (Value.int IntKind.i64 n_4), D.v (Value.int IntKind.i64 n_5), D.v (Value.int IntKind.i64 n_6), D.v (Value.bool b), D.v (Value.int IntKind.i64
  n_7), D.v (Value.string b_1), D.sl es] ∧ ((n_1 != (9 : Int)) = false → ∃ (es_1 : List (List D)), D.sl es = D.sl es_1 ∧ ((0 : Int) ≤ (0 : Int) ∧ (0 :
  Int) < (↑es_1.length : Int)) ∧ ∃ (cells : List D), es_1[Int.toNat (0 : Int)]? = some cells ∧ cells.length = (10 : Nat) ∧ ∃ (n_8 : Int), cut ((0 :
  Nat)) ((1 : Nat)) cells = some [D.v (Value.int IntKind.i64 n_8)] ∧ ((n_8 != (1 : Int)) = false → ∃ (es_2 : List (List D)), D.sl es = D.sl es_2 ∧ ((0
  : Int) ≤ (1 : Int) ∧ (1 : Int) < (↑es_2.length : Int)) ∧ ∃ (cells : List D), es_2[Int.toNat (1 : Int)]? = some cells ∧ cells.length = (10 : Nat) ∧ ∃
  (n_9 : Int), cut ((0 : Nat)) ((1 : Nat)) cells = some [D.v (Value.int IntKind.i64 n_9)] ∧ ((n_9 != (2 : Int)) = true → Q [R.d (D.sl []), R.d (D.v
  (Value.bool false))] []) ∧ ((n_9 != (2 : Int)) = false → ∃ (es_3 : List (List D)), D.sl es = D.sl es_3 ∧ ((0 : Int) ≤ (0 : Int) ∧ (0 : Int) <
  (↑es_3.length : Int)) ∧ ∃ (cells : List D), es_3[Int.toNat (0 : Int)]? = some cells ∧ cells.length = (10 : Nat) ∧ ∃ (n_10 : Int), cut ((0 : Nat)) ((1
  : Nat)) (dropN ((1 : Nat)) cells) = some [D.v (Value.int IntKind.i64 n_10)] ∧ ∃ (es_4 : List (List D)), D.sl es = D.sl es_4 ∧ ((0 : Int) ≤ (1 : Int)
  ∧ (1 : Int) < (↑es_4.length : Int)) ∧ ∃ (cells : List D), es_4[Int.toNat (1 : Int)]? = some cells ∧ cells.length = (10 : Nat) ∧ ∃ (n_11 : Int), ∃
  (n_12 : Int), ∃ (b : Bool), ∃ (n_13 : Int), ∃ (b_2 : ByteArray), cut ((0 : Nat)) ((5 : Nat)) (dropN ((4 : Nat)) cells) = some [D.v (Value.int
  IntKind.i64 n_11), D.v (Value.int IntKind.i64 n_12), D.v (Value.bool b), D.v (Value.int IntKind.i64 n_13), D.v (Value.string b_2)] ∧ (∀ (c : List D),
  c ∈ [[D.v (Value.int IntKind.i64 n_10), D.v (Value.int IntKind.i64 n_2), D.v (Value.int IntKind.i64 n_11), D.v (Value.int IntKind.i64 n_12), D.v
  (Value.bool b), D.v (Value.int IntKind.i64 n_13), D.v (Value.string b_2)]] → c.length = (7 : Nat)) ∧ (57 : Nat) = (57 : Nat) ∧ (7 : Nat) = (7 : Nat)
  ∧ (↑(wsD (List.take x ps)).length.succ : Int) * (↑((64 : Nat)) : Int) ≤ (140737488355328 : Int) ∧ ∃ (m : Nat), ∃ (x' : { X := Nat, sh := st_32 ps, P := fun (x : Nat) => inv_31 ps : LX }.X),
  m < n ∧ { tm := [((4 : Nat), V.nil), ((5 : Nat), V.d (D.v (Value.bool false))), ((8 : Nat), V.own ((50008 : Nat))), ((9 : Nat), V.d (D.sl (cellsL ps))), ((10 : Nat), V.d (D.v (Value.int IntKind.i64 (IntKind.i64.wrap ((↑x : Int) + (1 : Int))))))], hp := [((50008 : Nat), B.lst ((57 : Nat)) ((7 : Nat)) (wsD (List.take x ps) ++ [[D.v (Value.int IntKind.i64 n_10), D.v (Value.int IntKind.i64 n_2), D.v (Value.int IntKind.i64 n_11), D.v (Value.int IntKind.i64 n_12), D.v (Value.bool b), D.v (Value.int IntKind.i64 n_13), D.v (Value.string b_2)]]))], kn := [], gd := [] : St }
  = { tm := [((4 : Nat), V.nil), ((5 : Nat), V.d (D.v (Value.bool false))), ((8 : Nat), V.own ((50008 : Nat))), ((9 : Nat), V.d (D.sl (cellsL ps))), ((10 : Nat), V.d (D.v (Value.int IntKind.i64 (↑x' : Int))))], hp := [((50008 : Nat), B.lst ((57 : Nat)) ((7 : Nat)) (wsD (List.take x' ps)))], kn := [], gd := [] : St }
  ∧ inv_31 ps m x')) ∧ ((n_8 != (1 : Int)) = !false → (true = true → Q [R.d (D.sl []), R.d (D.v (Value.bool false))] []) ∧ (true = false → ∃ (es_2 :
  List (List D)), D.sl es = D.sl es_2 ∧ ((0 : Int) ≤ (0 : Int) ∧ (0 : Int) < (↑es_2.length : Int)) ∧ ∃ (cells : List D), es_2[Int.toNat (0 : Int)]? =
  some cells ∧ cells.length = (10 : Nat) ∧ ∃ (n_9 : Int), cut ((0 : Nat)) ((1 : Nat)) (dropN ((1 : Nat)) cells) = some [D.v (Value.int IntKind.i64
  n_9)] ∧ ∃ (es_3 : List (List D)), D.sl es = D.sl es_3 ∧ ((0 : Int) ≤ (1 : Int) ∧ (1 : Int) < (↑es_3.length : Int)) ∧ ∃ (cells : List D),
  es_3[Int.toNat (1 : Int)]? = some cells ∧ cells.length = (10 : Nat) ∧ ∃ (n_10 : Int), ∃ (n_11 : Int), ∃ (b : Bool), ∃ (n_12 : Int), ∃ (b_2 :
  ByteArray), cut ((0 : Nat)) ((5 : Nat)) (dropN ((4 : Nat)) cells) = some [D.v (Value.int IntKind.i64 n_10), D.v (Value.int IntKind.i64 n_11), D.v
  (Value.bool b), D.v (Value.int IntKind.i64 n_12), D.v (Value.string b_2)] ∧ (∀ (c : List D), c ∈ [[D.v (Value.int IntKind.i64 n_9), D.v (Value.int
  IntKind.i64 n_2), D.v (Value.int IntKind.i64 n_10), D.v (Value.int IntKind.i64 n_11), D.v (Value.bool b), D.v (Value.int IntKind.i64 n_12), D.v
  (Value.string b_2)]] → c.length = (7 : Nat)) ∧ (57 : Nat) = (57 : Nat) ∧ (7 : Nat) = (7 : Nat) ∧ (↑(wsD (List.take x ps)).length.succ : Int) * (↑((64
  : Nat)) : Int) ≤ (140737488355328 : Int) ∧ ∃ (m : Nat), ∃ (x' : { X := Nat, sh := st_32 ps, P := fun (x : Nat) => inv_31 ps : LX }.X), m < n ∧ { tm := [((4 : Nat), V.nil), ((5 : Nat), V.d (D.v (Value.bool false))), ((8 : Nat), V.own ((50008 : Nat))), ((9 : Nat), V.d (D.sl (cellsL ps))), ((10 : Nat), V.d (D.v (Value.int IntKind.i64 (IntKind.i64.wrap ((↑x : Int) + (1 : Int))))))], hp := [((50008 : Nat), B.lst ((57 : Nat)) ((7 : Nat)) (wsD (List.take x ps) ++ [[D.v (Value.int IntKind.i64 n_9), D.v (Value.int IntKind.i64 n_2), D.v (Value.int IntKind.i64 n_10), D.v (Value.int IntKind.i64 n_11), D.v (Value.bool b), D.v (Value.int IntKind.i64 n_12), D.v (Value.string b_2)]]))], kn := [], gd := [] : St }
  = { tm := [((4 : Nat), V.nil), ((5 : Nat), V.d (D.v (Value.bool false))), ((8 : Nat), V.own ((50008 : Nat))), ((9 : Nat), V.d (D.sl (cellsL ps))), ((10 : Nat), V.d (D.v (Value.int IntKind.i64 (↑x' : Int))))], hp := [((50008 : Nat), B.lst ((57 : Nat)) ((7 : Nat)) (wsD (List.take x' ps)))], kn := [], gd := [] : St }
  ∧ inv_31 ps m x'))) ∧ ((n_1 != (9 : Int)) = !false → (true = false → ∃ (es_1 : List (List D)), D.sl es = D.sl es_1 ∧ ((0 : Int) ≤ (1 : Int) ∧ (1 :
  Int) < (↑es_1.length : Int)) ∧ ∃ (cells : List D), es_1[Int.toNat (1 : Int)]? = some cells ∧ cells.length = (10 : Nat) ∧ ∃ (n_8 : Int), cut ((0 :
  Nat)) ((1 : Nat)) cells = some [D.v (Value.int IntKind.i64 n_8)] ∧ ((n_8 != (2 : Int)) = true → Q [R.d (D.sl []), R.d (D.v (Value.bool false))] []) ∧
  ((n_8 != (2 : Int)) = false → ∃ (es_2 : List (List D)), D.sl es = D.sl es_2 ∧ ((0 : Int) ≤ (0 : Int) ∧ (0 : Int) < (↑es_2.length : Int)) ∧ ∃ (cells :
  List D), es_2[Int.toNat (0 : Int)]? = some cells ∧ cells.length = (10 : Nat) ∧ ∃ (n_9 : Int), cut ((0 : Nat)) ((1 : Nat)) (dropN ((1 : Nat)) cells) =
  some [D.v (Value.int IntKind.i64 n_9)] ∧ ∃ (es_3 : List (List D)), D.sl es = D.sl es_3 ∧ ((0 : Int) ≤ (1 : Int) ∧ (1 : Int) < (↑es_3.length : Int)) ∧
  ∃ (cells : List D), es_3[Int.toNat (1 : Int)]? = some cells ∧ cells.length = (10 : Nat) ∧ ∃ (n_10 : Int), ∃ (n_11 : Int), ∃ (b : Bool), ∃ (n_12 :
  Int), ∃ (b_2 : ByteArray), cut ((0 : Nat)) ((5 : Nat)) (dropN ((4 : Nat)) cells) = some [D.v (Value.int IntKind.i64 n_10), D.v (Value.int IntKind.i64
  n_11), D.v (Value.bool b), D.v (Value.int IntKind.i64 n_12), D.v (Value.string b_2)] ∧ (∀ (c : List D), c ∈ [[D.v (Value.int IntKind.i64 n_9), D.v
  (Value.int IntKind.i64 n_2), D.v (Value.int IntKind.i64 n_10), D.v (Value.int IntKind.i64 n_11), D.v (Value.bool b), D.v (Value.int IntKind.i64
  n_12), D.v (Value.string b_2)]] → c.length = (7 : Nat)) ∧ (57 : Nat) = (57 : Nat) ∧ (7 : Nat) = (7 : Nat) ∧ (↑(wsD (List.take x ps)).length.succ :
  Int) * (↑((64 : Nat)) : Int) ≤ (140737488355328 : Int) ∧ ∃ (m : Nat), ∃ (x' : { X := Nat, sh := st_32 ps, P := fun (x : Nat) => inv_31 ps : LX }.X),
  m < n ∧ { tm := [((4 : Nat), V.nil), ((5 : Nat), V.d (D.v (Value.bool false))), ((8 : Nat), V.own ((50008 : Nat))), ((9 : Nat), V.d (D.sl (cellsL ps))), ((10 : Nat), V.d (D.v (Value.int IntKind.i64 (IntKind.i64.wrap ((↑x : Int) + (1 : Int))))))], hp := [((50008 : Nat), B.lst ((57 : Nat)) ((7 : Nat)) (wsD (List.take x ps) ++ [[D.v (Value.int IntKind.i64 n_9), D.v (Value.int IntKind.i64 n_2), D.v (Value.int IntKind.i64 n_10), D.v (Value.int IntKind.i64 n_11), D.v (Value.bool b), D.v (Value.int IntKind.i64 n_12), D.v (Value.string b_2)]]))], kn := [], gd := [] : St }
  = { tm := [((4 : Nat), V.nil), ((5 : Nat), V.d (D.v (Value.bool false))), ((8 : Nat), V.own ((50008 : Nat))), ((9 : Nat), V.d (D.sl (cellsL ps))), ((10 : Nat), V.d (D.v (Value.int IntKind.i64 (↑x' : Int))))], hp := [((50008 : Nat), B.lst ((57 : Nat)) ((7 : Nat)) (wsD (List.take x' ps)))], kn := [], gd := [] : St }
  ∧ inv_31 ps m x')) ∧ (true = !false → (true = true → Q [R.d (D.sl []), R.d (D.v (Value.bool false))] []) ∧ (true = false → ∃ (es_1 : List (List D)),
  D.sl es = D.sl es_1 ∧ ((0 : Int) ≤ (0 : Int) ∧ (0 : Int) < (↑es_1.length : Int)) ∧ ∃ (cells : List D), es_1[Int.toNat (0 : Int)]? = some cells ∧
  cells.length = (10 : Nat) ∧ ∃ (n_8 : Int), cut ((0 : Nat)) ((1 : Nat)) (dropN ((1 : Nat)) cells) = some [D.v (Value.int IntKind.i64 n_8)] ∧ ∃ (es_2 :
  List (List D)), D.sl es = D.sl es_2 ∧ ((0 : Int) ≤ (1 : Int) ∧ (1 : Int) < (↑es_2.length : Int)) ∧ ∃ (cells : List D), es_2[Int.toNat (1 : Int)]? =
  some cells ∧ cells.length = (10 : Nat) ∧ ∃ (n_9 : Int), ∃ (n_10 : Int), ∃ (b : Bool), ∃ (n_11 : Int), ∃ (b_2 : ByteArray), cut ((0 : Nat)) ((5 :
  Nat)) (dropN ((4 : Nat)) cells) = some [D.v (Value.int IntKind.i64 n_9), D.v (Value.int IntKind.i64 n_10), D.v (Value.bool b), D.v (Value.int
  IntKind.i64 n_11), D.v (Value.string b_2)] ∧ (∀ (c : List D), c ∈ [[D.v (Value.int IntKind.i64 n_8), D.v (Value.int IntKind.i64 n_2), D.v (Value.int
  IntKind.i64 n_9), D.v (Value.int IntKind.i64 n_10), D.v (Value.bool b), D.v (Value.int IntKind.i64 n_11), D.v (Value.string b_2)]] → c.length = (7 :
  Nat)) ∧ (57 : Nat) = (57 : Nat) ∧ (7 : Nat) = (7 : Nat) ∧ (↑(wsD (List.take x ps)).length.succ : Int) * (↑((64 : Nat)) : Int) ≤ (140737488355328 :
  Int) ∧ ∃ (m : Nat), ∃ (x' : { X := Nat, sh := st_32 ps, P := fun (x : Nat) => inv_31 ps : LX }.X), m < n ∧ { tm := [((4 : Nat), V.nil), ((5 : Nat), V.d (D.v (Value.bool false))), ((8 : Nat), V.own ((50008 : Nat))), ((9 : Nat), V.d (D.sl (cellsL ps))), ((10 : Nat), V.d (D.v (Value.int IntKind.i64 (IntKind.i64.wrap ((↑x : Int) + (1 : Int))))))], hp := [((50008 : Nat), B.lst ((57 : Nat)) ((7 : Nat)) (wsD (List.take x ps) ++ [[D.v (Value.int IntKind.i64 n_8), D.v (Value.int IntKind.i64 n_2), D.v (Value.int IntKind.i64 n_9), D.v (Value.int IntKind.i64 n_10), D.v (Value.bool b), D.v (Value.int IntKind.i64 n_11), D.v (Value.string b_2)]]))], kn := [], gd := [] : St }
  = { tm := [((4 : Nat), V.nil), ((5 : Nat), V.d (D.v (Value.bool false))), ((8 : Nat), V.own ((50008 : Nat))), ((9 : Nat), V.d (D.sl (cellsL ps))), ((10 : Nat), V.d (D.v (Value.int IntKind.i64 (↑x' : Int))))], hp := [((50008 : Nat), B.lst ((57 : Nat)) ((7 : Nat)) (wsD (List.take x' ps)))], kn := [], gd := [] : St }
  ∧ inv_31 ps m x')))) ∧ (decide ((↑x : Int) < (↑es.length : Int)) = false → Q [R.d (D.sl (wsD (List.take x ps))), R.d (D.v (Value.bool true))] []))) := by kernel_rfl
mutual
theorem partsE_may {c : Int} : ∀ (e : EX), mayE c e = true → ∀ p ∈ partsE e, mayE c p = true
  | .mk op sub t v args, h, p, hp => by
    simp only [partsE] at hp
    split at hp
    · have hm : mayL c args = true := by
        have : (mayHd op sub t v ((cellsL args).length : Int) c && mayL c args) = true := by simpa only [mayE] using h
        simp only [Bool.and_eq_true] at this
        exact this.2
      exact partsL_may args hm p hp
    · rw [List.mem_singleton.1 hp]; exact h
theorem partsL_may {c : Int} : ∀ (l : List EX), mayL c l = true → ∀ p ∈ partsL l, mayE c p = true
  | [], _, p, hp => by simp [partsL] at hp
  | e :: r, h, p, hp => by
    have hm : (mayE c e && mayL c r) = true := by simpa only [mayL] using h
    simp only [Bool.and_eq_true] at hm
    simp only [partsL] at hp
    rcases List.mem_append.1 hp with hp | hp
    · exact partsE_may e hm.1 p hp
    · exact partsL_may r hm.2 p hp
end
theorem checkE_may {cols : List Ty} {e : EX} (h : (checkE cols e).2 = 0) : mayE cols.length e = true := by
  unfold checkE at h
  revert h
  cases mayE (cols.length : Int) e
  · cases cols.any badT <;> cases decide (nodes e > 256) <;> cases decide (deep e > 24) <;> intro h <;> cases h
  · intro _; rfl
theorem may_args {c op sub : Int} {t : Ty} {v : Go.Ex.AV} {args : List EX} (h : mayE c (.mk op sub t v args) = true) (ho : op = 9) : ∃ a b, args = [a, b] := by
  subst ho
  have : (mayHd 9 sub t v ((cellsL args).length : Int) c && mayL c args) = true := by simpa only [mayE] using h
  simp only [Bool.and_eq_true] at this
  have h2 := may_two this.1
  rw [cellsL_len] at h2
  match args, (show args.length = 2 by omega) with
  | [a, b], _ => exact ⟨a, b, rfl⟩
def wheresP (cols : List Ty) (e : EX) : List (List D) × Bool :=
  bif (bif (checkE cols e).2 != 0 then true else (checkE cols e).1.k != 1) then ([], false) else bif (partsE e).all isW then (wsD (partsE e), true) else ([], false)
theorem wheres_no {cols : List Ty} {e : EX} (h : (bif (checkE cols e).2 != 0 then true else (checkE cols e).1.k != 1) = true) : wheresP cols e = ([], false) := by
  unfold wheresP; rw [h]; rfl
theorem wheres_not {cols : List Ty} {e : EX} {p : EX} (hp : p ∈ partsE e) (h : isW p = false) : wheresP cols e = ([], false) := by
  have : (partsE e).all isW = false := by
    rw [← Bool.not_eq_true, List.all_eq_true]
    intro h2
    rw [h2 p hp] at h; cases h
  unfold wheresP; rw [this]
  cases (bif (checkE cols e).2 != 0 then true else (checkE cols e).1.k != 1) <;> rfl
theorem wheres_all {cols : List Ty} {e : EX} (h : (bif (checkE cols e).2 != 0 then true else (checkE cols e).1.k != 1) = false) (h2 : (partsE e).all isW = true) : wheresP cols e = (wsD (partsE e), true) := by
  unfold wheresP; rw [h, h2]; rfl
theorem ct31 : ∀ (e : EX) (cols : List Ty), fits e → size e ≤ 1000000000 → cols.length ≤ 1353245080300 → Ct prog gl 15 [.agg (cells e), .d (.sl (cols.map Ty.cs))] (gives [.d (.sl (wheresP cols e).1), .d (.v (.bool (wheresP cols e).2))])
  | .mk op sub t v args, cols, hf, hs, hcl => by
    have hC : CallsOk prog gl C_r31 := addC_ok (addC_ok C_n_ok c_15_ok) c_34g_ok
    have hc : encX op sub t v (cellsL args) = cells (.mk op sub t v args) := (cells_mk _ _ _ _ _).symm
    rw [hc.symm]
    refine ct_of_vc E_ok hC ioK_no it_ok mixed (fn := f15) (body := f15.body.getD .skip) (by kernel_rfl) (by kernel_rfl) (by kernel_rfl) (fi := fx_31 (partsE (.mk op sub t v args))) (by kernel_rfl) (by kernel_rfl) ⟨_, _, rfl, rfl⟩ ?_
    rw [vc31]
    have fin : ∀ (l : List (List D)) (b : Bool), wheresP cols (.mk op sub t v args) = (l, b) → gives [.d (.sl (wheresP cols (.mk op sub t v args)).1), .d (.v (.bool (wheresP cols (.mk op sub t v args)).2))] [R.d (D.sl l), R.d (D.v (Value.bool b))] [] := fun l b h => by rw [h]; exact ⟨rfl, rfl⟩
    refine ⟨.mk op sub t v args, cols, hc, rfl, hf, hcl, fun t1 f1 he => ⟨fun h => ?_, fun h => ⟨.mk op sub t v args, hc, hf, hs, (0 : Nat), ⟨by rw [cellsL_len]; rfl, _, Nat.zero_le _, rfl, by simp⟩, fun m (x : Nat) hx => ⟨fun hi => ?_, fun hi => ?_⟩⟩⟩⟩
    · refine fin _ _ (wheres_no ?_)
      rw [he]; exact h
    · have hi : x < (partsE (.mk op sub t v args)).length := by simpa using hi
      obtain ⟨op1, sub1, t1', v1, a1, e1, g1⟩ := arg_get hi
      have hm := hx.2.1
      have hmem := List.getElem_mem hi
      have hf1 : f1 = 0 := by
        by_cases h0 : f1 = 0
        · exact h0
        · rw [show (f1 != 0) = true by simpa using h0] at h; cases h
      have hmay := partsE_may _ (checkE_may (cols := cols) (e := .mk op sub t v args) (by rw [he]; exact hf1)) _ hmem
      rw [e1] at hmay
      have hlen := partsE_len (.mk op sub t v args)
      have hwl : (wsD ((partsE (.mk op sub t v args)).take x)).length ≤ x := by simp only [wsD, List.length_map, List.length_take]; omega
      refine ⟨_, rfl, ⟨by omega, by rw [cellsL_len]; omega⟩, _, g1, rfl, op1, sub1, t1'.k, t1'.sc, v1.t.k, v1.t.sc, v1.nul, v1.n, v1.s, cellsL a1, rfl, fun o9 => ?_, fun o9 => ⟨fun h => absurd h (by decide), fun _ => ⟨fun _ => ?_, fun h => absurd h (by decide)⟩⟩⟩
      · have o9' : op1 = 9 := by simpa [bne] using o9
        obtain ⟨a, b, rfl⟩ := may_args hmay o9'
        obtain ⟨op2, sub2, t2, v2, a2, e2, g2⟩ := arg_get (l := [a, b]) (i := 0) (by simp)
        obtain ⟨op3, sub3, t3, v3, a3, e3, g3⟩ := arg_get (l := [a, b]) (i := 1) (by simp)
        have e2 : a = .mk op2 sub2 t2 v2 a2 := e2
        have e3 : b = .mk op3 sub3 t3 v3 a3 := e3
        have hW : isW (partsE (.mk op sub t v args))[x] = (op2 == 1 && op3 == 2) := by
          rw [e1, e2, e3, o9']
          rfl
        refine ⟨_, rfl, ⟨by decide, by rw [cellsL_len]; simp⟩, _, g2, rfl, op2, rfl, fun o1 => ⟨_, rfl, ⟨by decide, by rw [cellsL_len]; simp⟩, _, g3, rfl, op3, rfl, fun o2 => ?_, fun o2 => ⟨_, rfl, ⟨by decide, by rw [cellsL_len]; simp⟩, _, g2, rfl, sub2, rfl, _, rfl, ⟨by decide, by rw [cellsL_len]; simp⟩, _, g3, rfl, v3.t.k, v3.t.sc, v3.nul, v3.n, v3.s, rfl, by simp, rfl, rfl, ?_, _, x + 1, ?_, ?_, hi, rfl, ?_⟩⟩, fun o1 => ⟨fun _ => ?_, fun h => absurd h (by decide)⟩⟩
        · refine fin _ _ (wheres_not hmem ?_)
          rw [hW]
          have : (op3 == 2) = false := by simpa [bne] using o2
          rw [this, Bool.and_false]
        · simp only [Nat.succ_eq_add_one]; omega
        · omega
        · rw [wrap_next (by omega), take_succ_get _ hi]
          simp only [wsD, List.map_append, List.map_cons, List.map_nil]
          rw [e1, e2, e3]
          rfl
        · rw [take_succ_get _ hi, List.all_append, hx.2.2]
          simp only [List.all_cons, List.all_nil, Bool.and_true, Bool.true_and]
          have i1 : (op2 == 1) = true := by simpa [bne] using o1
          have i2 : (op3 == 2) = true := by simpa [bne] using o2
          rw [hW, i1, i2]; rfl
        · refine fin _ _ (wheres_not hmem ?_)
          rw [hW]
          have : (op2 == 1) = false := by simpa [bne] using o1
          rw [this, Bool.false_and]
      · refine fin _ _ (wheres_not hmem ?_)
        have : (op1 == 9) = false := by simpa [bne] using o9
        rw [e1]
        show (op1 == 9 && _) = false
        rw [this, Bool.false_and]
    · have hi : ¬ x < (partsE (.mk op sub t v args)).length := by simpa using hi
      have h2 := hx.2.2
      rw [List.take_of_length_le (by omega)] at h2 ⊢
      exact fin _ _ (wheres_all (by rw [he]; exact h) h2)
theorem ct32 : ∀ (e : EX) (cols : List Ty), fits e → size e ≤ 1000000000 → cols.length ≤ 1353245080300 → Ct prog gl 16 [.agg (cells e), .d (.sl (cols.map Ty.cs))] (gives [.d (.sl (wheresP cols e).1), .d (.v (.bool (wheresP cols e).2))])
  | .mk op sub t v args, cols, hf, hs, hcl => by
    have hC : CallsOk prog gl C_r32 := addC_ok (addC_ok C_n_ok c_23_ok) c_35g_ok
    have hc : encX op sub t v (cellsL args) = cells (.mk op sub t v args) := (cells_mk _ _ _ _ _).symm
    rw [hc.symm]
    refine ct_of_vc E_ok hC ioK_no it_ok mixed (fn := f16) (body := f16.body.getD .skip) (by kernel_rfl) (by kernel_rfl) (by kernel_rfl) (fi := fx_32 (partsE (.mk op sub t v args))) (by kernel_rfl) (by kernel_rfl) ⟨_, _, rfl, rfl⟩ ?_
    rw [vc32]
    have fin : ∀ (l : List (List D)) (b : Bool), wheresP cols (.mk op sub t v args) = (l, b) → gives [.d (.sl (wheresP cols (.mk op sub t v args)).1), .d (.v (.bool (wheresP cols (.mk op sub t v args)).2))] [R.d (D.sl l), R.d (D.v (Value.bool b))] [] := fun l b h => by rw [h]; exact ⟨rfl, rfl⟩
    refine ⟨.mk op sub t v args, cols, hc, rfl, hf, hcl, fun t1 f1 he => ⟨fun h => ?_, fun h => ⟨.mk op sub t v args, hc, hf, hs, (0 : Nat), ⟨rfl, _, Nat.zero_le _, rfl, by simp⟩, fun m (x : Nat) hx => ⟨_, rfl, fun hi => ?_, fun hi => ?_⟩⟩⟩⟩
    · refine fin _ _ (wheres_no ?_)
      rw [he]; exact h
    · have hi : x < (partsE (.mk op sub t v args)).length := by simpa [cellsL_len] using hi
      obtain ⟨op1, sub1, t1', v1, a1, e1, g1⟩ := arg_get hi
      have hm := hx.2.1
      have hmem := List.getElem_mem hi
      have hf1 : f1 = 0 := by
        by_cases h0 : f1 = 0
        · exact h0
        · rw [show (f1 != 0) = true by simpa using h0] at h; cases h
      have hmay := partsE_may _ (checkE_may (cols := cols) (e := .mk op sub t v args) (by rw [he]; exact hf1)) _ hmem
      rw [e1] at hmay
      have hlen := partsE_len (.mk op sub t v args)
      have hwl : (wsD ((partsE (.mk op sub t v args)).take x)).length ≤ x := by simp only [wsD, List.length_map, List.length_take]; omega
      refine ⟨_, rfl, ⟨by omega, by rw [cellsL_len]; omega⟩, _, g1, rfl, op1, sub1, t1'.k, t1'.sc, v1.t.k, v1.t.sc, v1.nul, v1.n, v1.s, cellsL a1, rfl, fun o9 => ?_, fun o9 => ⟨fun h => absurd h (by decide), fun _ => ⟨fun _ => ?_, fun h => absurd h (by decide)⟩⟩⟩
      · have o9' : op1 = 9 := by simpa [bne] using o9
        obtain ⟨a, b, rfl⟩ := may_args hmay o9'
        obtain ⟨op2, sub2, t2, v2, a2, e2, g2⟩ := arg_get (l := [a, b]) (i := 0) (by simp)
        obtain ⟨op3, sub3, t3, v3, a3, e3, g3⟩ := arg_get (l := [a, b]) (i := 1) (by simp)
        have e2 : a = .mk op2 sub2 t2 v2 a2 := e2
        have e3 : b = .mk op3 sub3 t3 v3 a3 := e3
        have hW : isW (partsE (.mk op sub t v args))[x] = (op2 == 1 && op3 == 2) := by
          rw [e1, e2, e3, o9']
          rfl
        refine ⟨_, rfl, ⟨by decide, by rw [cellsL_len]; simp⟩, _, g2, rfl, op2, rfl, fun o1 => ⟨_, rfl, ⟨by decide, by rw [cellsL_len]; simp⟩, _, g3, rfl, op3, rfl, fun o2 => ?_, fun o2 => ⟨_, rfl, ⟨by decide, by rw [cellsL_len]; simp⟩, _, g2, rfl, sub2, rfl, _, rfl, ⟨by decide, by rw [cellsL_len]; simp⟩, _, g3, rfl, v3.t.k, v3.t.sc, v3.nul, v3.n, v3.s, rfl, by simp, rfl, rfl, ?_, _, x + 1, ?_, ?_, hi, rfl, ?_⟩⟩, fun o1 => ⟨fun _ => ?_, fun h => absurd h (by decide)⟩⟩
        · refine fin _ _ (wheres_not hmem ?_)
          rw [hW]
          have : (op3 == 2) = false := by simpa [bne] using o2
          rw [this, Bool.and_false]
        · simp only [Nat.succ_eq_add_one]; omega
        · omega
        · rw [wrap_next (by omega), take_succ_get _ hi]
          simp only [wsD, List.map_append, List.map_cons, List.map_nil]
          rw [e1, e2, e3]
          rfl
        · rw [take_succ_get _ hi, List.all_append, hx.2.2]
          simp only [List.all_cons, List.all_nil, Bool.and_true, Bool.true_and]
          have i1 : (op2 == 1) = true := by simpa [bne] using o1
          have i2 : (op3 == 2) = true := by simpa [bne] using o2
          rw [hW, i1, i2]; rfl
        · refine fin _ _ (wheres_not hmem ?_)
          rw [hW]
          have : (op2 == 1) = false := by simpa [bne] using o1
          rw [this, Bool.false_and]
      · refine fin _ _ (wheres_not hmem ?_)
        have : (op1 == 9) = false := by simpa [bne] using o9
        rw [e1]
        show (op1 == 9 && _) = false
        rw [this, Bool.false_and]
    · have hi : ¬ x < (partsE (.mk op sub t v args)).length := by simpa [cellsL_len] using hi
      have h2 := hx.2.2
      rw [List.take_of_length_le (by omega)] at h2 ⊢
      exact fin _ _ (wheres_all (by rw [he]; exact h) h2)
def c_31 (a : List R) (K : List R → List (List D) → Prop) : Prop := match a with
  | [.agg x, .d (.sl y)] => ∃ (e : EX) (cols : List Ty), x = cells e ∧ y = cols.map Ty.cs ∧ fits e ∧ size e ≤ 1000000000 ∧ cols.length ≤ 1353245080300 ∧ K [.d (.sl (wheresP cols e).1), .d (.v (.bool (wheresP cols e).2))] []
  | _ => False
theorem c_31_ok (a : List R) (K : List R → List (List D) → Prop) (h : c_31 a K) : Ct prog gl 15 a K := by
  unfold c_31 at h
  split at h
  · obtain ⟨e, cols, rfl, rfl, h1, h2, h3, h4⟩ := h
    exact (ct31 e cols h1 h2 h3).gives h4
  · exact h.elim
theorem c_32_ok (a : List R) (K : List R → List (List D) → Prop) (h : c_31 a K) : Ct prog gl 16 a K := by
  unfold c_31 at h
  split at h
  · obtain ⟨e, cols, rfl, rfl, h1, h2, h3, h4⟩ := h
    exact (ct32 e cols h1 h2 h3).gives h4
  · exact h.elim
end Go.Proofs.Tryz
