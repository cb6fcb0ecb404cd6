/- A part of the proof: contracts of functions, by a verified generator of conditions; no condition of its own. -/
import Derived.Test.YtfohenhmlfiijaaGreatDoorB1
import Derived.Test.YtfohenhmlfiijaaGreatDoorAb
namespace Go.Proofs.Tryz
open Go Go.Dm Go.Ex
set_option maxRecDepth 100000
variable {gl : Nat → Option Obj}
def encI (l : List Int) : List (List D) := l.map fun n => [.v (.int .i64 n)]
def c_27 (n : Nat) (a : List R) (K : List R → List (List D) → Prop) : Prop := match a with
  | [.agg x, .agg y] => ∃ a b : EX, x = cells a ∧ y = cells b ∧ size a < n ∧ fits a ∧ fits b ∧ K [.d (.v (.bool (sameE a b)))] []
  | _ => False
def C_f33 (n : Nat) : CallT := addC C_66 14 (c_27 n)
def st_33 (l r : List EX) (x : Nat) : St := { tm := [(1, .d (.sl (cellsL r))), (2, .fn 14 []), (6, .d (.v (.bool false))), (15, .d (.sl (cellsL l))), (16, .d (.v (.int .i64 ((cellsL l).length : Int)))), (17, .d (.v (.int .i64 (x : Int))))], hp := [], kn := [], gd := [] }
def inv_33 (l r : List EX) (m : Nat) (x : Nat) : Prop := (x ≤ l.length ∧ m = l.length - x) ∧ l.take x = r.take x
def fx_33 (l r : List EX) : Fi := { fi32 with lp := [(4, ([1, 2, 6, 15, 16, 17], [8, 9, 29]))], lx := [(4, { X := Nat, sh := st_33 l r, P := fun _ => inv_33 l r })] }
theorem vc33 (n : Nat) (l r : List EX) (Q : List R → List (List D) → Prop) : vc E_0 (C_f33 n) noI (fx_33 l r) (f32.body.getD .skip) f32.results.toList [.d (.sl (cellsL l)), .d (.sl (cellsL r)), .fn 14 []] Q = (
  ∃ (es : List (List D)), D.sl (cellsL l) = D.sl es ∧ ∃ (es_1 : List (List D)), D.sl (cellsL r) = D.sl es_1 ∧ (((↑es.length : Int) != (↑es_1.length :
  Int)) = true → Q [R.d (D.v (Value.bool false))] []) ∧ (((↑es.length : Int) != (↑es_1.length : Int)) = false → ∃ (es : List (List D)), D.sl (cellsL l)
  = D.sl es ∧ ∃ (x0 : { X := Nat, sh := st_33 l r, P := fun (x : Nat) => inv_33 l r : LX }.X), ({ tm := [((1 : Nat), V.d (D.sl (cellsL r))), ((2 : Nat), V.fn ((14 : Nat)) []), ((6 : Nat), V.d (D.v (Value.bool false))), ((15 : Nat), V.d (D.sl (cellsL l))), ((16 : Nat), V.d (D.v (Value.int IntKind.i64 (↑es.length : Int)))), ((17 : Nat), V.d (D.v (Value.int IntKind.i64 (0 : Int))))], hp := [], kn := [], gd := [] : St }
  = { tm := [((1 : Nat), V.d (D.sl (cellsL r))), ((2 : Nat), V.fn ((14 : Nat)) []), ((6 : Nat), V.d (D.v (Value.bool false))), ((15 : Nat), V.d (D.sl (cellsL l))), ((16 : Nat), V.d (D.v (Value.int IntKind.i64 (↑(cellsL l).length : Int)))), ((17 : Nat), V.d (D.v (Value.int IntKind.i64 (↑x0 : Int))))], hp := [], kn := [], gd := [] : St }
  ∧ ∃ (n : Nat), inv_33 l r n x0) ∧ ∀ (n_1 : Nat) (x : { X := Nat, sh := st_33 l r, P := fun (x : Nat) => inv_33 l r : LX }.X), inv_33 l r n_1 x →
  (decide ((↑x : Int) < (↑(cellsL l).length : Int)) = true → ∃ (es : List (List D)), D.sl (cellsL l) = D.sl es ∧ ((0 : Int) ≤ (↑x : Int) ∧ (↑x : Int) <
  (↑es.length : Int)) ∧ ∃ (cells : List D), es[(↑x : Int).toNat]? = some cells ∧ cells.length = (10 : Nat) ∧ ∃ (n_2 : Int), ∃ (n_3 : Int), ∃ (n_4 :
  Int), ∃ (n_5 : Int), ∃ (n_6 : Int), ∃ (n_7 : Int), ∃ (b : Bool), ∃ (n_8 : Int), ∃ (b_1 : ByteArray), ∃ (es : List (List D)), cut ((0 : Nat)) ((10 :
  Nat)) cells = some [D.v (Value.int IntKind.i64 n_2), D.v (Value.int IntKind.i64 n_3), D.v (Value.int IntKind.i64 n_4), D.v (Value.int IntKind.i64
  n_5), D.v (Value.int IntKind.i64 n_6), D.v (Value.int IntKind.i64 n_7), D.v (Value.bool b), D.v (Value.int IntKind.i64 n_8), D.v (Value.string b_1),
  D.sl es] ∧ ∃ (es_2 : List (List D)), D.sl (cellsL r) = D.sl es_2 ∧ ((0 : Int) ≤ (↑x : Int) ∧ (↑x : Int) < (↑es_2.length : Int)) ∧ ∃ (cells : List D),
  es_2[(↑x : Int).toNat]? = some cells ∧ cells.length = (10 : Nat) ∧ ∃ (n_9 : Int), ∃ (n_10 : Int), ∃ (n_11 : Int), ∃ (n_12 : Int), ∃ (n_13 : Int), ∃
  (n_14 : Int), ∃ (b_2 : Bool), ∃ (n_15 : Int), ∃ (b_3 : ByteArray), ∃ (es_3 : List (List D)), cut ((0 : Nat)) ((10 : Nat)) cells = some [D.v
  (Value.int IntKind.i64 n_9), D.v (Value.int IntKind.i64 n_10), D.v (Value.int IntKind.i64 n_11), D.v (Value.int IntKind.i64 n_12), D.v (Value.int
  IntKind.i64 n_13), D.v (Value.int IntKind.i64 n_14), D.v (Value.bool b_2), D.v (Value.int IntKind.i64 n_15), D.v (Value.string b_3), D.sl es_3] ∧ ∃
  (a : EX), ∃ (b_4 : EX), [D.v (Value.int IntKind.i64 n_2), D.v (Value.int IntKind.i64 n_3), D.v (Value.int IntKind.i64 n_4), D.v (Value.int
  IntKind.i64 n_5), D.v (Value.int IntKind.i64 n_6), D.v (Value.int IntKind.i64 n_7), D.v (Value.bool b), D.v (Value.int IntKind.i64 n_8), D.v
  (Value.string b_1), D.sl es] = Ex.cells a ∧ [D.v (Value.int IntKind.i64 n_9), D.v (Value.int IntKind.i64 n_10), D.v (Value.int IntKind.i64 n_11), D.v
  (Value.int IntKind.i64 n_12), D.v (Value.int IntKind.i64 n_13), D.v (Value.int IntKind.i64 n_14), D.v (Value.bool b_2), D.v (Value.int IntKind.i64
  n_15), D.v (Value.string b_3), D.sl es_3] = Ex.cells b_4 ∧ size a < n ∧ fits a ∧ fits b_4 ∧ ((!sameE a b_4) = true → Q [R.d (D.v (Value.bool false))]
  []) ∧ ((!sameE a b_4) = false → ∃ (m : Nat), ∃ (x' : { X := Nat, sh := st_33 l r, P := fun (x : Nat) => inv_33 l r : LX }.X), m < n_1 ∧ { tm := [((1 : Nat), V.d (D.sl (cellsL r))), ((2 : Nat), V.fn ((14 : Nat)) []), ((6 : Nat), V.d (D.v (Value.bool false))), ((15 : Nat), V.d (D.sl (cellsL l))), ((16 : Nat), V.d (D.v (Value.int IntKind.i64 (↑(cellsL l).length : Int)))), ((17 : Nat), V.d (D.v (Value.int IntKind.i64 (IntKind.i64.wrap ((↑x : Int) + (1 : Int))))))], hp := [], kn := [], gd := [] : St }
  = { tm := [((1 : Nat), V.d (D.sl (cellsL r))), ((2 : Nat), V.fn ((14 : Nat)) []), ((6 : Nat), V.d (D.v (Value.bool false))), ((15 : Nat), V.d (D.sl (cellsL l))), ((16 : Nat), V.d (D.v (Value.int IntKind.i64 (↑(cellsL l).length : Int)))), ((17 : Nat), V.d (D.v (Value.int IntKind.i64 (↑x' : Int))))], hp := [], kn := [], gd := [] : St }
  ∧ inv_33 l r m x')) ∧ (decide ((↑x : Int) < (↑(cellsL l).length : Int)) = false → Q [R.d (D.v (Value.bool true))] []))) := by kernel_rfl
def c_33 (n : Nat) (a : List R) (K : List R → List (List D) → Prop) : Prop := match a with
  | [.d (.sl x), .d (.sl y), .fn 14 []] => ∃ l r : List EX, x = cellsL l ∧ y = cellsL r ∧ sizeL l < n ∧ l.length ≤ 1353245080300 ∧ fitsL l ∧ fitsL r ∧ K [.d (.v (.bool (sameL l r)))] []
  | _ => False
def C_f27 (n : Nat) : CallT := addC C_66 32 (c_33 n)
theorem vc27 (n : Nat) (op sub : Int) (t : Ty) (v : Go.Ex.AV) (args : List EX) (op' sub' : Int) (t' : Ty) (v' : Go.Ex.AV) (args' : List EX) (Q : List R → List (List D) → Prop) : vc E_0 (C_f27 n) noI fi14 (f14.body.getD .skip) f14.results.toList [.agg (encX op sub t v (cellsL args)), .agg (encX op' sub' t' v' (cellsL args'))] Q = (
  ((bif bif bif op == op' then sub == sub' else false then t.1 == t'.1 && (t.2 == t'.2 && true) else false then v.1.1 == v'.1.1 && (v.1.2 == v'.1.2 &&
  (v.2 == v'.2 && (v.3 == v'.3 && (v.4 == v'.4 && true)))) else false) = true → ∃ (l : List EX), ∃ (r : List EX), cellsL args = cellsL l ∧ cellsL args'
  = cellsL r ∧ sizeL l < n ∧ l.length ≤ (1353245080300 : Nat) ∧ fitsL l ∧ fitsL r ∧ Q [R.d (D.v (Value.bool (sameL l r)))] []) ∧ ((bif bif bif op ==
  op' then sub == sub' else false then t.1 == t'.1 && (t.2 == t'.2 && true) else false then v.1.1 == v'.1.1 && (v.1.2 == v'.1.2 && (v.2 == v'.2 && (v.3
  == v'.3 && (v.4 == v'.4 && true)))) else false) = !true → Q [R.d (D.v (Value.bool false))] [])) := by kernel_rfl
def c_22 (n : Nat) (a : List R) (K : List R → List (List D) → Prop) : Prop := match a with
  | [.agg x, .agg y] => ∃ a b : EX, x = cells a ∧ y = cells b ∧ size a < n ∧ fits a ∧ fits b ∧ K [.d (.v (.bool (sameE a b)))] []
  | _ => False
def C_f22 (n : Nat) : CallT := addC C_66 13 (c_22 n)
def st_22 (op sub : Int) (t : Ty) (v : Go.Ex.AV) (args : List EX) (op' sub' : Int) (t' : Ty) (v' : Go.Ex.AV) (args' : List EX) (x : Nat) : St := { tm := [(2, .ref 2 0), (3, .ref 3 0), (4, .d (.v (.bool false))), (5, .d (.v (.int .i64 (x : Int))))], hp := [(2, .box [.d (.v (.int .i64 op)), .d (.v (.int .i64 sub)), .d (.v (.int .i64 t.k)), .d (.v (.int .i64 t.sc)), .d (.v (.int .i64 v.t.k)), .d (.v (.int .i64 v.t.sc)), .d (.v (.bool v.nul)), .d (.v (.int .i64 v.n)), .d (.v (.string v.s)), .d (.sl (cellsL args))]), (3, .box [.d (.v (.int .i64 op')), .d (.v (.int .i64 sub')), .d (.v (.int .i64 t'.k)), .d (.v (.int .i64 t'.sc)), .d (.v (.int .i64 v'.t.k)), .d (.v (.int .i64 v'.t.sc)), .d (.v (.bool v'.nul)), .d (.v (.int .i64 v'.n)), .d (.v (.string v'.s)), .d (.sl (cellsL args'))])], kn := [], gd := [] }
def fx_22 (op sub : Int) (t : Ty) (v : Go.Ex.AV) (args : List EX) (op' sub' : Int) (t' : Ty) (v' : Go.Ex.AV) (args' : List EX) : Fi := { fi13 with lx := [(4, { X := Nat, sh := st_22 op sub t v args op' sub' t' v' args', P := fun _ => inv_33 args args' })] }
theorem vc22 (n : Nat) (op sub : Int) (t : Ty) (v : Go.Ex.AV) (args : List EX) (op' sub' : Int) (t' : Ty) (v' : Go.Ex.AV) (args' : List EX) (Q : List R → List (List D) → Prop) : vc E_0 (C_f22 n) noI (fx_22 op sub t v args op' sub' t' v' args') (f13.body.getD .skip) f13.results.toList [.agg (encX op sub t v (cellsL args)), .agg (encX op' sub' t' v' (cellsL args'))] Q = (
  ∃ (es : List (List D)), D.sl (cellsL args) = D.sl es ∧ ∃ (es_1 : List (List D)), D.sl (cellsL args') = D.sl es_1 ∧ ((bif bif bif bif op != op' then
  true else sub != sub' then true else !(t.1 == t'.1 && (t.2 == t'.2 && true)) then true else !(v.1.1 == v'.1.1 && (v.1.2 == v'.1.2 && (v.2 == v'.2 &&
  (v.3 == v'.3 && (v.4 == v'.4 && true))))) then true else (↑es.length : Int) != (↑es_1.length : Int)) = true → Q [R.d (D.v (Value.bool false))] []) ∧
  ((bif bif bif bif op != op' then true else sub != sub' then true else !(t.1 == t'.1 && (t.2 == t'.2 && true)) then true else !(v.1.1 == v'.1.1 &&
  (v.1.2 == v'.1.2 && (v.2 == v'.2 && (v.3 == v'.3 && (v.4 == v'.4 && true))))) then true else (↑es.length : Int) != (↑es_1.length : Int)) = false → ∃
  (x0 : { X := Nat, sh := st_22 op sub t v args op' sub' t' v' args', P := fun (x : Nat) => inv_33 args args' : LX }.X), ({ tm := [((2 : Nat), V.ref ((2 : Nat)) ((0 : Nat))), ((3 : Nat), V.ref ((3 : Nat)) ((0 : Nat))), ((4 : Nat), V.d (D.v (Value.bool false))), ((5 : Nat), V.d (D.v (Value.int IntKind.i64 (0 : Int))))], hp := [((2 : Nat), B.box [V.d (D.v (Value.int IntKind.i64 op)), V.d (D.v (Value.int IntKind.i64 sub)), V.d (D.v (Value.int IntKind.i64 t.1)), V.d (D.v (Value.int IntKind.i64 t.2)), V.d (D.v (Value.int IntKind.i64 v.1.1)), V.d (D.v (Value.int IntKind.i64 v.1.2)), V.d (D.v (Value.bool v.2)), V.d (D.v (Value.int IntKind.i64 v.3)), V.d (D.v (Value.string v.4)), V.d (D.sl (cellsL args))]), ((3 : Nat), B.box [V.d (D.v (Value.int IntKind.i64 op')), V.d (D.v (Value.int IntKind.i64 sub')), V.d (D.v (Value.int IntKind.i64 t'.1)), V.d (D.v (Value.int IntKind.i64 t'.2)), V.d (D.v (Value.int IntKind.i64 v'.1.1)), V.d (D.v (Value.int IntKind.i64 v'.1.2)), V.d (D.v (Value.bool v'.2)), V.d (D.v (Value.int IntKind.i64 v'.3)), V.d (D.v (Value.string v'.4)), V.d (D.sl (cellsL args'))])], kn := [], gd := [] : St }
  = { tm := [((2 : Nat), V.ref ((2 : Nat)) ((0 : Nat))), ((3 : Nat), V.ref ((3 : Nat)) ((0 : Nat))), ((4 : Nat), V.d (D.v (Value.bool false))), ((5 : Nat), V.d (D.v (Value.int IntKind.i64 (↑x0 : Int))))], hp := [((2 : Nat), B.box [V.d (D.v (Value.int IntKind.i64 op)), V.d (D.v (Value.int IntKind.i64 sub)), V.d (D.v (Value.int IntKind.i64 t.1)), V.d (D.v (Value.int IntKind.i64 t.2)), V.d (D.v (Value.int IntKind.i64 v.1.1)), V.d (D.v (Value.int IntKind.i64 v.1.2)), V.d (D.v (Value.bool v.2)), V.d (D.v (Value.int IntKind.i64 v.3)), V.d (D.v (Value.string v.4)), V.d (D.sl (cellsL args))]), ((3 : Nat), B.box [V.d (D.v (Value.int IntKind.i64 op')), V.d (D.v (Value.int IntKind.i64 sub')), V.d (D.v (Value.int IntKind.i64 t'.1)), V.d (D.v (Value.int IntKind.i64 t'.2)), V.d (D.v (Value.int IntKind.i64 v'.1.1)), V.d (D.v (Value.int IntKind.i64 v'.1.2)), V.d (D.v (Value.bool v'.2)), V.d (D.v (Value.int IntKind.i64 v'.3)), V.d (D.v (Value.string v'.4)), V.d (D.sl (cellsL args'))])], kn := [], gd := [] : St }
  ∧ ∃ (n : Nat), inv_33 args args' n x0) ∧ ∀ (n_1 : Nat) (x : { X := Nat, sh := st_22 op sub t v args op' sub' t' v' args', P := fun (x : Nat) => inv_33 args args' : LX }.X),
  inv_33 args args' n_1 x → ∃ (es : List (List D)), D.sl (cellsL args) = D.sl es ∧ (decide ((↑x : Int) < (↑es.length : Int)) = true → ∃ (es : List
  (List D)), D.sl (cellsL args) = D.sl es ∧ ((0 : Int) ≤ (↑x : Int) ∧ (↑x : Int) < (↑es.length : Int)) ∧ ∃ (cells : List D), es[(↑x : Int).toNat]? =
  some cells ∧ cells.length = (10 : Nat) ∧ ∃ (n_2 : Int), ∃ (n_3 : Int), ∃ (n_4 : Int), ∃ (n_5 : Int), ∃ (n_6 : Int), ∃ (n_7 : Int), ∃ (b : Bool), ∃
  (n_8 : Int), ∃ (b_1 : ByteArray), ∃ (es : List (List D)), cut ((0 : Nat)) ((10 : Nat)) cells = some [D.v (Value.int IntKind.i64 n_2), D.v (Value.int
  IntKind.i64 n_3), D.v (Value.int IntKind.i64 n_4), D.v (Value.int IntKind.i64 n_5), D.v (Value.int IntKind.i64 n_6), D.v (Value.int IntKind.i64 n_7),
  D.v (Value.bool b), D.v (Value.int IntKind.i64 n_8), D.v (Value.string b_1), D.sl es] ∧ ∃ (es_2 : List (List D)), D.sl (cellsL args') = D.sl es_2 ∧
  ((0 : Int) ≤ (↑x : Int) ∧ (↑x : Int) < (↑es_2.length : Int)) ∧ ∃ (cells : List D), es_2[(↑x : Int).toNat]? = some cells ∧ cells.length = (10 : Nat) ∧
  ∃ (n_9 : Int), ∃ (n_10 : Int), ∃ (n_11 : Int), ∃ (n_12 : Int), ∃ (n_13 : Int), ∃ (n_14 : Int), ∃ (b_2 : Bool), ∃ (n_15 : Int), ∃ (b_3 : ByteArray), ∃
  (es_3 : List (List D)), cut ((0 : Nat)) ((10 : Nat)) cells = some [D.v (Value.int IntKind.i64 n_9), D.v (Value.int IntKind.i64 n_10), D.v (Value.int
  IntKind.i64 n_11), D.v (Value.int IntKind.i64 n_12), D.v (Value.int IntKind.i64 n_13), D.v (Value.int IntKind.i64 n_14), D.v (Value.bool b_2), D.v
  (Value.int IntKind.i64 n_15), D.v (Value.string b_3), D.sl es_3] ∧ ∃ (a : EX), ∃ (b_4 : EX), [D.v (Value.int IntKind.i64 n_2), D.v (Value.int
  IntKind.i64 n_3), D.v (Value.int IntKind.i64 n_4), D.v (Value.int IntKind.i64 n_5), D.v (Value.int IntKind.i64 n_6), D.v (Value.int IntKind.i64 n_7),
  D.v (Value.bool b), D.v (Value.int IntKind.i64 n_8), D.v (Value.string b_1), D.sl es] = Ex.cells a ∧ [D.v (Value.int IntKind.i64 n_9), D.v (Value.int
  IntKind.i64 n_10), D.v (Value.int IntKind.i64 n_11), D.v (Value.int IntKind.i64 n_12), D.v (Value.int IntKind.i64 n_13), D.v (Value.int IntKind.i64
  n_14), D.v (Value.bool b_2), D.v (Value.int IntKind.i64 n_15), D.v (Value.string b_3), D.sl es_3] = Ex.cells b_4 ∧ size a < n ∧ fits a ∧ fits b_4 ∧
  ((!sameE a b_4) = true → Q [R.d (D.v (Value.bool false))] []) ∧ ((!sameE a b_4) = false → ∃ (m : Nat), ∃ (x' : { X := Nat, sh := st_22 op sub t v args op' sub' t' v' args', P := fun (x : Nat) => inv_33 args args' : LX }.X),
  m < n_1 ∧ { tm := [((2 : Nat), V.ref ((2 : Nat)) ((0 : Nat))), ((3 : Nat), V.ref ((3 : Nat)) ((0 : Nat))), ((4 : Nat), V.d (D.v (Value.bool false))), ((5 : Nat), V.d (D.v (Value.int IntKind.i64 (IntKind.i64.wrap ((↑x : Int) + (1 : Int))))))], hp := [((2 : Nat), B.box [V.d (D.v (Value.int IntKind.i64 op)), V.d (D.v (Value.int IntKind.i64 sub)), V.d (D.v (Value.int IntKind.i64 t.1)), V.d (D.v (Value.int IntKind.i64 t.2)), V.d (D.v (Value.int IntKind.i64 v.1.1)), V.d (D.v (Value.int IntKind.i64 v.1.2)), V.d (D.v (Value.bool v.2)), V.d (D.v (Value.int IntKind.i64 v.3)), V.d (D.v (Value.string v.4)), V.d (D.sl (cellsL args))]), ((3 : Nat), B.box [V.d (D.v (Value.int IntKind.i64 op')), V.d (D.v (Value.int IntKind.i64 sub')), V.d (D.v (Value.int IntKind.i64 t'.1)), V.d (D.v (Value.int IntKind.i64 t'.2)), V.d (D.v (Value.int IntKind.i64 v'.1.1)), V.d (D.v (Value.int IntKind.i64 v'.1.2)), V.d (D.v (Value.bool v'.2)), V.d (D.v (Value.int IntKind.i64 v'.3)), V.d (D.v (Value.string v'.4)), V.d (D.sl (cellsL args'))])], kn := [], gd := [] : St }
  = { tm := [((2 : Nat), V.ref ((2 : Nat)) ((0 : Nat))), ((3 : Nat), V.ref ((3 : Nat)) ((0 : Nat))), ((4 : Nat), V.d (D.v (Value.bool false))), ((5 : Nat), V.d (D.v (Value.int IntKind.i64 (↑x' : Int))))], hp := [((2 : Nat), B.box [V.d (D.v (Value.int IntKind.i64 op)), V.d (D.v (Value.int IntKind.i64 sub)), V.d (D.v (Value.int IntKind.i64 t.1)), V.d (D.v (Value.int IntKind.i64 t.2)), V.d (D.v (Value.int IntKind.i64 v.1.1)), V.d (D.v (Value.int IntKind.i64 v.1.2)), V.d (D.v (Value.bool v.2)), V.d (D.v (Value.int IntKind.i64 v.3)), V.d (D.v (Value.string v.4)), V.d (D.sl (cellsL args))]), ((3 : Nat), B.box [V.d (D.v (Value.int IntKind.i64 op')), V.d (D.v (Value.int IntKind.i64 sub')), V.d (D.v (Value.int IntKind.i64 t'.1)), V.d (D.v (Value.int IntKind.i64 t'.2)), V.d (D.v (Value.int IntKind.i64 v'.1.1)), V.d (D.v (Value.int IntKind.i64 v'.1.2)), V.d (D.v (Value.bool v'.2)), V.d (D.v (Value.int IntKind.i64 v'.3)), V.d (D.v (Value.string v'.4)), V.d (D.sl (cellsL args'))])], kn := [], gd := [] : St }
  ∧ inv_33 args args' m x')) ∧ (decide ((↑x : Int) < (↑es.length : Int)) = false → Q [R.d (D.v (Value.bool true))] []))) := by kernel_rfl
theorem hdr_eq (op op' sub sub' : Int) (t t' : Ty) (v v' : Go.Ex.AV) : (bif bif bif op == op' then sub == sub' else false then t.1 == t'.1 && (t.2 == t'.2 && true) else false then v.1.1 == v'.1.1 && (v.1.2 == v'.1.2 && (v.2 == v'.2 && (v.3 == v'.3 && (v.4 == v'.4 && true)))) else false) = true ↔ op = op' ∧ sub = sub' ∧ t = t' ∧ v = v' := by
  have e : ∀ a b : ByteArray, (a == b) = decide (a = b) := fun a b => by
    rcases a with ⟨a⟩; rcases b with ⟨b⟩
    have : ((⟨a⟩ : ByteArray) == ⟨b⟩) = (a == b) := rfl
    rw [this, Bool.eq_iff_iff]
    simp
  rcases t with ⟨tk, ts⟩; rcases t' with ⟨tk', ts'⟩; rcases v with ⟨⟨vk, vs⟩, vn, vv, vb⟩; rcases v' with ⟨⟨vk', vs'⟩, vn', vv', vb'⟩
  simp only [e, Bool.cond_eq_ite, Bool.and_true]
  by_cases h1 : op = op' <;> by_cases h2 : sub = sub' <;> simp [h1, h2, and_assoc]
theorem hdr_ne (op op' sub sub' : Int) (t t' : Ty) (v v' : Go.Ex.AV) (n m : Nat) : (bif bif bif bif op != op' then true else sub != sub' then true else !(t.1 == t'.1 && (t.2 == t'.2 && true)) then true else !(v.1.1 == v'.1.1 && (v.1.2 == v'.1.2 && (v.2 == v'.2 && (v.3 == v'.3 && (v.4 == v'.4 && true))))) then true else ((n : Nat) : Int) != ((m : Nat) : Int)) = false ↔ (op = op' ∧ sub = sub' ∧ t = t' ∧ v = v') ∧ n = m := by
  rw [← hdr_eq]
  simp only [bne]
  generalize (op == op') = x1
  generalize (sub == sub') = x2
  generalize (t.1 == t'.1 && (t.2 == t'.2 && true)) = x3
  generalize (v.1.1 == v'.1.1 && (v.1.2 == v'.1.2 && (v.2 == v'.2 && (v.3 == v'.3 && (v.4 == v'.4 && true))))) = x4
  have e : (((n : Nat) : Int) == ((m : Nat) : Int)) = decide (n = m) := by
    rw [Bool.eq_iff_iff]; simp; omega
  rw [e]
  cases x1 <;> cases x2 <;> cases x3 <;> cases x4 <;> simp
theorem sameE_true {a b : EX} : sameE a b = true ↔ a = b := by simp [sameE]
theorem sameL_true {a b : List EX} : sameL a b = true ↔ a = b := by simp [sameL]
theorem sameE_mk (op op' sub sub' : Int) (t t' : Ty) (v v' : Go.Ex.AV) (a a' : List EX) : sameE (.mk op sub t v a) (.mk op' sub' t' v' a') = true ↔ (op = op' ∧ sub = sub' ∧ t = t' ∧ v = v') ∧ a = a' := by
  rw [sameE_true, EX.mk.injEq]
  constructor
  · rintro ⟨h1, h2, h3, h4, h5⟩; exact ⟨⟨h1, h2, h3, h4⟩, h5⟩
  · rintro ⟨⟨h1, h2, h3, h4⟩, h5⟩; exact ⟨h1, h2, h3, h4, h5⟩
theorem take_next {l r : List EX} {x : Nat} (h : l.take x = r.take x) (h1 : x < l.length) (h2 : x < r.length) : l.take (x + 1) = r.take (x + 1) ↔ l[x] = r[x] := by
  have a1 : l.take (x + 1) = l.take x ++ [l[x]] := by rw [List.take_add_one, List.getElem?_eq_getElem h1]; rfl
  have a2 : r.take (x + 1) = r.take x ++ [r[x]] := by rw [List.take_add_one, List.getElem?_eq_getElem h2]; rfl
  rw [a1, a2, h]
  exact ⟨fun e => List.head_eq_of_cons_eq (List.append_cancel_left e), fun e => by rw [e]⟩
theorem ct33_of (n : Nat) (h27 : ∀ a b, size a < n → fits a → fits b → Ct prog gl 14 [.agg (cells a), .agg (cells b)] (gives [.d (.v (.bool (sameE a b)))])) (l r : List EX) (hs : sizeL l < n) (hl : l.length ≤ 1353245080300) (hf : fitsL l) (hf' : fitsL r) :
    Ct prog gl 32 [.d (.sl (cellsL l)), .d (.sl (cellsL r)), .fn 14 []] (gives [.d (.v (.bool (sameL l r)))]) := by
  have hC : CallsOk prog gl (C_f33 n) := addC_ok C_66_ok (fun a K hk => by
    unfold c_27 at hk
    split at hk
    · obtain ⟨a, b, rfl, rfl, h1, h2, h3, h4⟩ := hk
      exact (h27 a b h1 h2 h3).gives h4
    · exact hk.elim)
  refine ct_of_vc E_ok hC ioK_no it_ok mixed (fn := f32) (body := f32.body.getD .skip) (by kernel_rfl) (by kernel_rfl) (by kernel_rfl) (fi := fx_33 l r) (by kernel_rfl) (by kernel_rfl) ⟨_, _, rfl, rfl⟩ ?_
  rw [vc33]
  refine ⟨cellsL l, rfl, cellsL r, rfl, fun h => ?_, fun h => ⟨cellsL l, rfl, (0 : Nat), ⟨rfl, l.length, ⟨⟨Nat.zero_le _, rfl⟩, rfl⟩⟩, fun m (x : Nat) hx => ⟨fun hi => ?_, fun hi => ?_⟩⟩⟩
  · have h : l.length ≠ r.length := by rw [cellsL_len, cellsL_len] at h; intro e; rw [e] at h; simp at h
    have : sameL l r = false := by
      rw [← Bool.not_eq_true, sameL_true]; rintro rfl; exact h rfl
    rw [this]; exact ⟨rfl, rfl⟩
  · have h : l.length = r.length := by
      rw [cellsL_len, cellsL_len] at h
      have h : ((l.length : Nat) : Int) = ((r.length : Nat) : Int) := by simpa using h
      omega
    have hi : x < l.length := by simpa [cellsL_len] using hi
    have hi' : x < r.length := by omega
    obtain ⟨op1, sub1, t1, v1, a1, e1, g1⟩ := arg_get hi
    obtain ⟨op2, sub2, t2, v2, a2, e2, g2⟩ := arg_get hi'
    have hm := hx.1.2
    have hsz := size_mem (List.getElem_mem hi)
    refine ⟨cellsL l, rfl, ⟨by omega, by rw [cellsL_len]; omega⟩, _, g1, rfl, op1, sub1, t1.k, t1.sc, v1.t.k, v1.t.sc, v1.nul, v1.n, v1.s, cellsL a1, rfl, cellsL r, rfl, ⟨by omega, by rw [cellsL_len]; omega⟩, _, g2, rfl, op2, sub2, t2.k, t2.sc, v2.t.k, v2.t.sc, v2.nul, v2.n, v2.s, cellsL a2, rfl, l[x], r[x], by rw [e1, cells_mk]; rfl, by rw [e2, cells_mk]; rfl, by omega, fitsL_mem hf (List.getElem_mem hi), fitsL_mem hf' (List.getElem_mem hi'), fun hc => ?_, fun hc => ?_⟩
    · have : ¬ l = r := by
        rintro rfl
        have : sameE l[x] l[x] = true := sameE_true.2 rfl
        rw [this] at hc; cases hc
      have : sameL l r = false := by rw [← Bool.not_eq_true, sameL_true]; exact this
      rw [this]; exact ⟨rfl, rfl⟩
    · have hs2 : l[x] = r[x] := sameE_true.1 (by simpa using hc)
      refine ⟨l.length - (x + 1), x + 1, by omega, by rw [wrap_next (by omega)], ⟨hi, rfl⟩, (take_next hx.2 hi hi').2 hs2⟩
  · have h : l.length = r.length := by
      rw [cellsL_len, cellsL_len] at h
      have h : ((l.length : Nat) : Int) = ((r.length : Nat) : Int) := by simpa using h
      omega
    have hi : ¬ x < l.length := by simpa [cellsL_len] using hi
    have := hx.2
    rw [List.take_of_length_le (by omega), List.take_of_length_le (by omega)] at this
    have : sameL l r = true := sameL_true.2 this
    rw [this]; exact ⟨rfl, rfl⟩
theorem ct27_of (n : Nat) (h33 : ∀ l r, sizeL l < n → l.length ≤ 1353245080300 → fitsL l → fitsL r → Ct prog gl 32 [.d (.sl (cellsL l)), .d (.sl (cellsL r)), .fn 14 []] (gives [.d (.v (.bool (sameL l r)))])) : ∀ (a b : EX), size a < n + 1 → fits a → fits b →
    Ct prog gl 14 [.agg (cells a), .agg (cells b)] (gives [.d (.v (.bool (sameE a b)))])
  | .mk op sub t v args, .mk op' sub' t' v' args', hs, hf, hf' => by
    have hC : CallsOk prog gl (C_f27 n) := addC_ok C_66_ok (fun a K hk => by
      unfold c_33 at hk
      split at hk
      · obtain ⟨l, r, rfl, rfl, h1, h2, h3, h4, h5⟩ := hk
        exact (h33 l r h1 h2 h3 h4).gives h5
      · exact hk.elim)
    rw [cells_mk, cells_mk]
    refine ct_of_vc E_ok hC ioK_no it_ok mixed (fn := f14) (body := f14.body.getD .skip) (by kernel_rfl) (by kernel_rfl) (by kernel_rfl) (fi := fi14) (by kernel_rfl) (by kernel_rfl) ⟨_, _, rfl, rfl⟩ ?_
    rw [vc27]
    obtain ⟨_, hl, hfl⟩ := fits_mk hf
    obtain ⟨_, hl', hfl'⟩ := fits_mk hf'
    simp only [size] at hs
    refine ⟨fun h => ⟨args, args', rfl, rfl, by omega, hl, hfl, hfl', ?_⟩, fun h => ?_⟩
    · have h := (hdr_eq _ _ _ _ _ _ _ _).1 h
      have : sameE (.mk op sub t v args) (.mk op' sub' t' v' args') = sameL args args' := by
        rw [Bool.eq_iff_iff, sameE_mk, sameL_true]
        exact ⟨fun x => x.2, fun x => ⟨h, x⟩⟩
      rw [this]; exact ⟨rfl, rfl⟩
    · have : sameE (.mk op sub t v args) (.mk op' sub' t' v' args') = false := by
        rw [← Bool.not_eq_true, sameE_mk]
        rintro ⟨hh, _⟩
        rw [(hdr_eq _ _ _ _ _ _ _ _).2 hh] at h; cases h
      rw [this]; exact ⟨rfl, rfl⟩
theorem ct27 : ∀ (n : Nat) (a b : EX), size a < n → fits a → fits b → Ct prog gl 14 [.agg (cells a), .agg (cells b)] (gives [.d (.v (.bool (sameE a b)))])
  | 0, _, _, h, _, _ => absurd h (Nat.not_lt_zero _)
  | n + 1, a, b, h, h1, h2 => ct27_of n (ct33_of n (ct27 n)) a b h h1 h2
theorem ct22 : ∀ (n : Nat) (a b : EX), size a < n → fits a → fits b → Ct prog gl 13 [.agg (cells a), .agg (cells b)] (gives [.d (.v (.bool (sameE a b)))])
  | 0, _, _, h, _, _ => absurd h (Nat.not_lt_zero _)
  | n + 1, .mk op sub t v args, .mk op' sub' t' v' args', hs, hf, hf' => by
    have hC : CallsOk prog gl (C_f22 n) := addC_ok C_66_ok (fun a K hk => by
      unfold c_22 at hk
      split at hk
      · obtain ⟨a, b, rfl, rfl, h1, h2, h3, h4⟩ := hk
        exact (ct22 n a b h1 h2 h3).gives h4
      · exact hk.elim)
    rw [cells_mk, cells_mk]
    refine ct_of_vc E_ok hC ioK_no it_ok mixed (fn := f13) (body := f13.body.getD .skip) (by kernel_rfl) (by kernel_rfl) (by kernel_rfl) (fi := fx_22 op sub t v args op' sub' t' v' args') (by kernel_rfl) (by kernel_rfl) ⟨_, _, rfl, rfl⟩ ?_
    rw [vc22]
    obtain ⟨_, hl, hfl⟩ := fits_mk hf
    obtain ⟨_, hl', hfl'⟩ := fits_mk hf'
    simp only [size] at hs
    refine ⟨cellsL args, rfl, cellsL args', rfl, fun h => ?_, fun h => ⟨(0 : Nat), ⟨rfl, args.length, ⟨⟨Nat.zero_le _, rfl⟩, rfl⟩⟩, fun m (x : Nat) hx => ⟨cellsL args, rfl, fun hi => ?_, fun hi => ?_⟩⟩⟩
    · have : sameE (.mk op sub t v args) (.mk op' sub' t' v' args') = false := by
        rw [← Bool.not_eq_true, sameE_mk]
        rintro ⟨hh, he⟩
        rw [cellsL_len, cellsL_len, (hdr_ne _ _ _ _ _ _ _ _ _ _).2 ⟨hh, by rw [he]⟩] at h; cases h
      rw [this]; exact ⟨rfl, rfl⟩
    · rw [cellsL_len, cellsL_len] at h
      obtain ⟨hh, h⟩ := (hdr_ne _ _ _ _ _ _ _ _ _ _).1 h
      have hi : x < args.length := by simpa [cellsL_len] using hi
      have hi' : x < args'.length := by omega
      obtain ⟨op1, sub1, t1, v1, a1, e1, g1⟩ := arg_get hi
      obtain ⟨op2, sub2, t2, v2, a2, e2, g2⟩ := arg_get hi'
      have hm := hx.1.2
      have hsz := size_mem (List.getElem_mem hi)
      refine ⟨cellsL args, rfl, ⟨by omega, by rw [cellsL_len]; omega⟩, _, g1, rfl, op1, sub1, t1.k, t1.sc, v1.t.k, v1.t.sc, v1.nul, v1.n, v1.s, cellsL a1, rfl, cellsL args', rfl, ⟨by omega, by rw [cellsL_len]; omega⟩, _, g2, rfl, op2, sub2, t2.k, t2.sc, v2.t.k, v2.t.sc, v2.nul, v2.n, v2.s, cellsL a2, rfl, args[x], args'[x], by rw [e1, cells_mk]; rfl, by rw [e2, cells_mk]; rfl, by omega, fitsL_mem hfl (List.getElem_mem hi), fitsL_mem hfl' (List.getElem_mem hi'), fun hc => ?_, fun hc => ?_⟩
      · have hne : ¬ args = args' := by
          rintro rfl
          have : sameE args[x] args[x] = true := sameE_true.2 rfl
          rw [this] at hc; cases hc
        have : sameE (.mk op sub t v args) (.mk op' sub' t' v' args') = false := by
          rw [← Bool.not_eq_true, sameE_mk]
          exact fun z => hne z.2
        rw [this]; exact ⟨rfl, rfl⟩
      · have hs2 : args[x] = args'[x] := sameE_true.1 (by simpa using hc)
        refine ⟨args.length - (x + 1), x + 1, by omega, by rw [wrap_next (by omega)], ⟨hi, rfl⟩, (take_next hx.2 hi hi').2 hs2⟩
    · rw [cellsL_len, cellsL_len] at h
      obtain ⟨hh, h⟩ := (hdr_ne _ _ _ _ _ _ _ _ _ _).1 h
      have hi : ¬ x < args.length := by simpa [cellsL_len] using hi
      have := hx.2
      rw [List.take_of_length_le (by omega), List.take_of_length_le (by omega)] at this
      have : sameE (.mk op sub t v args) (.mk op' sub' t' v' args') = true := (sameE_mk _ _ _ _ _ _ _ _ _ _).2 ⟨hh, this⟩
      rw [this]; exact ⟨rfl, rfl⟩
end Go.Proofs.Tryz
