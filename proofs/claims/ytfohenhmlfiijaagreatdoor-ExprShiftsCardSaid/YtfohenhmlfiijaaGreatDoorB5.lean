/- A part of the proof: contracts of functions, by a verified generator of conditions; no condition of its own. -/
import Derived.Test.YtfohenhmlfiijaaGreatDoorB4
namespace Go.Proofs.Tryz
open Go Go.Dm Go.Ex
set_option maxRecDepth 100000
variable {gl : Nat → Option Obj}
def tyZ (t : Ty) : Bool := t.1 == (0 : Int) && (t.2 == (0 : Int) && true)
def valZ (v : Go.Ex.AV) : Bool := v.1.1 == (0 : Int) && (v.1.2 == (0 : Int) && (v.2 == false && (v.3 == (0 : Int) && (v.4 == ({ data := { toList := [] } } : ByteArray) && true))))
/-- May a node be, but for its types and its parts? -/
def mayHd (op sub : Int) (t : Ty) (v : Go.Ex.AV) (m c : Int) : Bool :=
  bif op == 1 then (bif bif bif m == 0 then (bif decide (sub ≥ 0) then decide (sub < c) else false) else false then tyZ t else false then valZ v else false)
  else bif op == 2 then (bif bif bif m == 0 then sub == 0 else false then tyZ t else false then s56_0 v.1.1 v.1.2 v.2 v.3 v.4 == 0 else false)
  else bif op == 9 then (bif bif bif m == 2 then (bif decide (sub ≥ 1) then decide (sub ≤ 6) else false) else false then tyZ t else false then valZ v else false)
  else bif op == 16 then (bif bif bif m == 1 then sub == 0 else false then s60_0 t.1 t.2 == 0 else false then valZ v else false)
  else bif (op == 8 || op == 12 || op == 13 || op == 18) then (bif bif bif m == 1 then sub == 0 else false then tyZ t else false then valZ v else false)
  else bif op == 14 then (bif bif bif (bif decide (m ≥ 3) then m.tmod 2 != 0 else false) then sub == 0 else false then tyZ t else false then valZ v else false)
  else bif op == 15 then (bif bif bif decide (m ≥ 1) then sub == 0 else false then tyZ t else false then valZ v else false)
  else bif (op == 3 || op == 4 || op == 5 || op == 6 || op == 7 || op == 10 || op == 11 || op == 17) then (bif bif bif m == 2 then sub == 0 else false then tyZ t else false then valZ v else false)
  else false
mutual
/-- May it be, but for its types? -/
def mayE (c : Int) : EX → Bool
  | .mk op sub t v args => mayHd op sub t v ((cellsL args).length : Int) c && mayL c args
def mayL (c : Int) : List EX → Bool
  | [] => true
  | e :: r => mayE c e && mayL c r
end
theorem mayL_all (c : Int) : ∀ l : List EX, mayL c l = l.all (mayE c)
  | [] => by simp [mayL]
  | e :: r => by simp [mayL, mayL_all c r]
theorem mayL_any (c : Int) (l : List EX) : (!mayL c l) = l.any (fun e => !mayE c e) := by
  rw [mayL_all, List.not_all_eq_any_not]
def c_63 (n : Nat) (a : List R) (K : List R → List (List D) → Prop) : Prop := match a with
  | [.agg x, .d (.v (.int .i64 c))] => ∃ e : EX, x = cells e ∧ size e < n ∧ fits e ∧ K [.d (.v (.bool (mayE c e)))] []
  | _ => False
def C_f126 (n : Nat) : CallT := addC C_4e 26 (c_63 n)
theorem vc126 (n : Nat) (op sub : Int) (t : Ty) (v : Go.Ex.AV) (args : List EX) (c : Int) (Q : List R → List (List D) → Prop) : vc E_0 (C_f126 n) noI fi47 (f47.body.getD .skip) f47.results.toList [.agg (encX op sub t v (cellsL args)), .ptr [.v (.int .i64 c)]] Q = (
  ∃ (n_1 : Int), some [D.v (Value.int IntKind.i64 c)] = some [D.v (Value.int IntKind.i64 n_1)] ∧ ∃ (e : EX), [D.v (Value.int IntKind.i64 op), D.v
  (Value.int IntKind.i64 sub), D.v (Value.int IntKind.i64 t.1), D.v (Value.int IntKind.i64 t.2), D.v (Value.int IntKind.i64 v.1.1), D.v (Value.int
  IntKind.i64 v.1.2), D.v (Value.bool v.2), D.v (Value.int IntKind.i64 v.3), D.v (Value.string v.4), D.sl (cellsL args)] = cells e ∧ size e < n ∧ fits
  e ∧ Q [R.d (D.v (Value.bool !mayE n_1 e))] []) := by kernel_rfl
def c_126 (n : Nat) (a : List R) (K : List R → List (List D) → Prop) : Prop := match a with
  | [.agg x, .ptr [.v (.int .i64 c)]] => ∃ e : EX, x = cells e ∧ size e < n ∧ fits e ∧ K [.d (.v (.bool (!mayE c e)))] []
  | _ => False
def C_f208 (n : Nat) : CallT := addC C_4e 47 (c_126 n)
def st_208 (k : Int) (l : List EX) (x : Nat) : St := { tm := [(0, .d (.sl (cellsL l))), (1, .fn 47 [.dptr [.v (.int .i64 k)]]), (4, .d (.v (.int .i64 0))), (7, .d (.v (.int .i64 ((cellsL l).length : Int)))), (8, .d (.v (.int .i64 (x : Int))))], hp := [], kn := [], gd := [] }
def inv_208 (k : Int) (l : List EX) (m : Nat) (x : Nat) : Prop := (x ≤ l.length ∧ m = l.length - x) ∧ ∀ e ∈ l.take x, (!mayE k e) = false
def fx_208 (k : Int) (l : List EX) : Fi := { fi75 with lx := [(2, { X := Nat, sh := st_208 k l, P := fun _ => inv_208 k l })] }
theorem vc208 (n : Nat) (k : Int) (l : List EX) (Q : List R → List (List D) → Prop) : vc E_0 (C_f208 n) noI (fx_208 k l) (f75.body.getD .skip) f75.results.toList [.d (.sl (cellsL l)), .fn 47 [.ptr [.v (.int .i64 k)]]] Q = (
  ∃ (es : List (List D)), D.sl (cellsL l) = D.sl es ∧ ∃ (x0 : { X := Nat, sh := st_208 k l, P := fun (x : Nat) => inv_208 k l : LX }.X), ({ tm := [((0 : Nat), V.d (D.sl (cellsL l))), ((1 : Nat), V.fn ((47 : Nat)) [V.dptr [D.v (Value.int IntKind.i64 k)]]), ((4 : Nat), V.d (D.v (Value.int IntKind.i64 (0 : Int)))), ((7 : Nat), V.d (D.v (Value.int IntKind.i64 (↑es.length : Int)))), ((8 : Nat), V.d (D.v (Value.int IntKind.i64 (0 : Int))))], hp := [], kn := [], gd := [] : St }
  = { tm := [((0 : Nat), V.d (D.sl (cellsL l))), ((1 : Nat), V.fn ((47 : Nat)) [V.dptr [D.v (Value.int IntKind.i64 k)]]), ((4 : Nat), V.d (D.v (Value.int IntKind.i64 (0 : Int)))), ((7 : Nat), V.d (D.v (Value.int IntKind.i64 (↑(cellsL l).length : Int)))), ((8 : Nat), V.d (D.v (Value.int IntKind.i64 (↑x0 : Int))))], hp := [], kn := [], gd := [] : St }
  ∧ ∃ (n : Nat), inv_208 k l n x0) ∧ ∀ (n_1 : Nat) (x : { X := Nat, sh := st_208 k l, P := fun (x : Nat) => inv_208 k l : LX }.X), inv_208 k l n_1 x →
  (decide ((↑x : Int) < (↑(cellsL l).length : Int)) = true → ∃ (es : List (List D)), D.sl (cellsL l) = D.sl es ∧ ((0 : Int) ≤ (↑x : Int) ∧ (↑x : Int) <
  (↑es.length : Int)) ∧ ∃ (cells : List D), es[(↑x : Int).toNat]? = some cells ∧ cells.length = (10 : Nat) ∧ ∃ (n_2 : Int), ∃ (n_3 : Int), ∃ (n_4 :
  Int), ∃ (n_5 : Int), ∃ (n_6 : Int), ∃ (n_7 : Int), ∃ (b : Bool), ∃ (n_8 : Int), ∃ (b_1 : ByteArray), ∃ (es : List (List D)), cut ((0 : Nat)) ((10 :
  Nat)) cells = some [D.v (Value.int IntKind.i64 n_2), D.v (Value.int IntKind.i64 n_3), D.v (Value.int IntKind.i64 n_4), D.v (Value.int IntKind.i64
  n_5), D.v (Value.int IntKind.i64 n_6), D.v (Value.int IntKind.i64 n_7), D.v (Value.bool b), D.v (Value.int IntKind.i64 n_8), D.v (Value.string b_1),
  D.sl es] ∧ ∃ (e : EX), [D.v (Value.int IntKind.i64 n_2), D.v (Value.int IntKind.i64 n_3), D.v (Value.int IntKind.i64 n_4), D.v (Value.int IntKind.i64
  n_5), D.v (Value.int IntKind.i64 n_6), D.v (Value.int IntKind.i64 n_7), D.v (Value.bool b), D.v (Value.int IntKind.i64 n_8), D.v (Value.string b_1),
  D.sl es] = Ex.cells e ∧ size e < n ∧ fits e ∧ ((!mayE k e) = true → Q [R.d (D.v (Value.int IntKind.i64 (↑x : Int)))] []) ∧ ((!mayE k e) = false → ∃
  (m : Nat), ∃ (x' : { X := Nat, sh := st_208 k l, P := fun (x : Nat) => inv_208 k l : LX }.X), m < n_1 ∧ { tm := [((0 : Nat), V.d (D.sl (cellsL l))), ((1 : Nat), V.fn ((47 : Nat)) [V.dptr [D.v (Value.int IntKind.i64 k)]]), ((4 : Nat), V.d (D.v (Value.int IntKind.i64 (0 : Int)))), ((7 : Nat), V.d (D.v (Value.int IntKind.i64 (↑(cellsL l).length : Int)))), ((8 : Nat), V.d (D.v (Value.int IntKind.i64 (IntKind.i64.wrap ((↑x : Int) + (1 : Int))))))], hp := [], kn := [], gd := [] : St }
  = { tm := [((0 : Nat), V.d (D.sl (cellsL l))), ((1 : Nat), V.fn ((47 : Nat)) [V.dptr [D.v (Value.int IntKind.i64 k)]]), ((4 : Nat), V.d (D.v (Value.int IntKind.i64 (0 : Int)))), ((7 : Nat), V.d (D.v (Value.int IntKind.i64 (↑(cellsL l).length : Int)))), ((8 : Nat), V.d (D.v (Value.int IntKind.i64 (↑x' : Int))))], hp := [], kn := [], gd := [] : St }
  ∧ inv_208 k l m x')) ∧ (decide ((↑x : Int) < (↑(cellsL l).length : Int)) = false → Q [R.d (D.v (Value.int IntKind.i64 (-1 : Int)))] [])) := by kernel_rfl
def c_208 (n : Nat) (a : List R) (K : List R → List (List D) → Prop) : Prop := match a with
  | [.d (.sl x), .fn 47 [.ptr [.v (.int .i64 c)]]] => ∃ l : List EX, x = cellsL l ∧ sizeL l < n ∧ l.length ≤ 1353245080300 ∧ fitsL l ∧ ∀ r : Int, decide (r ≥ 0) = (!mayL c l) → K [.d (.v (.int .i64 r))] []
  | _ => False
def C_f125 (n : Nat) : CallT := addC C_4e 75 (c_208 n)
theorem vc125 (n : Nat) (x : List (List D)) (c : Int) (Q : List R → List (List D) → Prop) : vc E_0 (C_f125 n) noI fi46 (f46.body.getD .skip) f46.results.toList [.d (.sl x), .fn 47 [.ptr [.v (.int .i64 c)]]] Q = (
  ∃ (l : List EX), x = cellsL l ∧ sizeL l < n ∧ l.length ≤ (1353245080300 : Nat) ∧ fitsL l ∧ ∀ (r : Int), decide (r ≥ (0 : Int)) = !mayL c l → Q [R.d
  (D.v (Value.bool (decide (r ≥ (0 : Int)))))] []) := by kernel_rfl
def c_125 (n : Nat) (a : List R) (K : List R → List (List D) → Prop) : Prop := match a with
  | [.d (.sl x), .fn 47 [.ptr [.v (.int .i64 c)]]] => ∃ l : List EX, x = cellsL l ∧ sizeL l < n ∧ l.length ≤ 1353245080300 ∧ fitsL l ∧ K [.d (.v (.bool (!mayL c l)))] []
  | _ => False
def C_f63 (n : Nat) : CallT := addC C_4e 46 (c_125 n)
def E_b : Env := { E_0 with bw := [46] }
theorem E_b_ok : EnvOk prog E_b := ⟨E_ok.te⟩
theorem it_b : ItOk prog E_b := fun _ _ _ h => h.elim
theorem vc63 (n : Nat) (op sub : Int) (t : Ty) (v : Go.Ex.AV) (args : List EX) (c : Int) (Q : List R → List (List D) → Prop) : vc E_b (C_f63 n) noI fi26 (f26.body.getD .skip) f26.results.toList [.agg (encX op sub t v (cellsL args)), .d (.v (.int .i64 c))] Q = (
  ∃ (es : List (List D)), D.sl (cellsL args) = D.sl es ∧ ((op == (1 : Int)) = true → ((bif bif bif (↑es.length : Int) == (0 : Int) then bif decide (sub ≥
  (0 : Int)) then decide (sub < c) else false else false then t.1 == (0 : Int) && (t.2 == (0 : Int) && true) else false then v.1.1 == (0 : Int) &&
  (v.1.2 == (0 : Int) && (v.2 == false && (v.3 == (0 : Int) && (v.4 == { data := { toList := [] : Array UInt8 } : ByteArray } && true)))) else false) =
  true → ∃ (l : List EX), cellsL args = cellsL l ∧ sizeL l < n ∧ l.length ≤ (1353245080300 : Nat) ∧ fitsL l ∧ Q [R.d (D.v (Value.bool !!mayL c l))] [])
  ∧ ((bif bif bif (↑es.length : Int) == (0 : Int) then bif decide (sub ≥ (0 : Int)) then decide (sub < c) else false else false then t.1 == (0 : Int)
  && (t.2 == (0 : Int) && true) else false then v.1.1 == (0 : Int) && (v.1.2 == (0 : Int) && (v.2 == false && (v.3 == (0 : Int) && (v.4 == { data := { toList := [] : Array UInt8 } : ByteArray }
  && true)))) else false) = !true → Q [R.d (D.v (Value.bool false))] [])) ∧ ((op == (1 : Int)) = false → ((op == (2 : Int)) = true → ((bif bif bif
  (↑es.length : Int) == (0 : Int) then sub == (0 : Int) else false then t.1 == (0 : Int) && (t.2 == (0 : Int) && true) else false then s56_0 v.1.1
  v.1.2 v.2 v.3 v.4 == (0 : Int) else false) = true → ∃ (l : List EX), cellsL args = cellsL l ∧ sizeL l < n ∧ l.length ≤ (1353245080300 : Nat) ∧ fitsL
  l ∧ Q [R.d (D.v (Value.bool !!mayL c l))] []) ∧ ((bif bif bif (↑es.length : Int) == (0 : Int) then sub == (0 : Int) else false then t.1 == (0 : Int)
  && (t.2 == (0 : Int) && true) else false then s56_0 v.1.1 v.1.2 v.2 v.3 v.4 == (0 : Int) else false) = !true → Q [R.d (D.v (Value.bool false))] []))
  ∧ ((op == (2 : Int)) = false → ((op == (9 : Int)) = true → ((bif bif bif (↑es.length : Int) == (2 : Int) then bif decide (sub ≥ (1 : Int)) then
  decide (sub ≤ (6 : Int)) else false else false then t.1 == (0 : Int) && (t.2 == (0 : Int) && true) else false then v.1.1 == (0 : Int) && (v.1.2 == (0
  : Int) && (v.2 == false && (v.3 == (0 : Int) && (v.4 == { data := { toList := [] : Array UInt8 } : ByteArray } && true)))) else false) = true → ∃ (l
  : List EX), cellsL args = cellsL l ∧ sizeL l < n ∧ l.length ≤ (1353245080300 : Nat) ∧ fitsL l ∧ Q [R.d (D.v (Value.bool !!mayL c l))] []) ∧ ((bif bif
  bif (↑es.length : Int) == (2 : Int) then bif decide (sub ≥ (1 : Int)) then decide (sub ≤ (6 : Int)) else false else false then t.1 == (0 : Int) &&
  (t.2 == (0 : Int) && true) else false then v.1.1 == (0 : Int) && (v.1.2 == (0 : Int) && (v.2 == false && (v.3 == (0 : Int) && (v.4 == { data := { toList := [] : Array UInt8 } : ByteArray }
  && true)))) else false) = !true → Q [R.d (D.v (Value.bool false))] [])) ∧ ((op == (9 : Int)) = false → ((op == (16 : Int)) = true → ((bif bif bif
  (↑es.length : Int) == (1 : Int) then sub == (0 : Int) else false then s60_0 t.1 t.2 == (0 : Int) else false then v.1.1 == (0 : Int) && (v.1.2 == (0 :
  Int) && (v.2 == false && (v.3 == (0 : Int) && (v.4 == { data := { toList := [] : Array UInt8 } : ByteArray } && true)))) else false) = true → ∃ (l :
  List EX), cellsL args = cellsL l ∧ sizeL l < n ∧ l.length ≤ (1353245080300 : Nat) ∧ fitsL l ∧ Q [R.d (D.v (Value.bool !!mayL c l))] []) ∧ ((bif bif
  bif (↑es.length : Int) == (1 : Int) then sub == (0 : Int) else false then s60_0 t.1 t.2 == (0 : Int) else false then v.1.1 == (0 : Int) && (v.1.2 ==
  (0 : Int) && (v.2 == false && (v.3 == (0 : Int) && (v.4 == { data := { toList := [] : Array UInt8 } : ByteArray } && true)))) else false) = !true → Q
  [R.d (D.v (Value.bool false))] [])) ∧ ((op == (16 : Int)) = false → ((op == (8 : Int)) = true → ((bif bif bif (↑es.length : Int) == (1 : Int) then
  sub == (0 : Int) else false then t.1 == (0 : Int) && (t.2 == (0 : Int) && true) else false then v.1.1 == (0 : Int) && (v.1.2 == (0 : Int) && (v.2 ==
  false && (v.3 == (0 : Int) && (v.4 == { data := { toList := [] : Array UInt8 } : ByteArray } && true)))) else false) = true → ∃ (l : List EX), cellsL
  args = cellsL l ∧ sizeL l < n ∧ l.length ≤ (1353245080300 : Nat) ∧ fitsL l ∧ Q [R.d (D.v (Value.bool !!mayL c l))] []) ∧ ((bif bif bif (↑es.length :
  Int) == (1 : Int) then sub == (0 : Int) else false then t.1 == (0 : Int) && (t.2 == (0 : Int) && true) else false then v.1.1 == (0 : Int) && (v.1.2
  == (0 : Int) && (v.2 == false && (v.3 == (0 : Int) && (v.4 == { data := { toList := [] : Array UInt8 } : ByteArray } && true)))) else false) = !true
  → Q [R.d (D.v (Value.bool false))] [])) ∧ ((op == (8 : Int)) = false → ((op == (12 : Int)) = true → ((bif bif bif (↑es.length : Int) == (1 : Int)
  then sub == (0 : Int) else false then t.1 == (0 : Int) && (t.2 == (0 : Int) && true) else false then v.1.1 == (0 : Int) && (v.1.2 == (0 : Int) &&
  (v.2 == false && (v.3 == (0 : Int) && (v.4 == { data := { toList := [] : Array UInt8 } : ByteArray } && true)))) else false) = true → ∃ (l : List
  EX), cellsL args = cellsL l ∧ sizeL l < n ∧ l.length ≤ (1353245080300 : Nat) ∧ fitsL l ∧ Q [R.d (D.v (Value.bool !!mayL c l))] []) ∧ ((bif bif bif
  (↑es.length : Int) == (1 : Int) then sub == (0 : Int) else false then t.1 == (0 : Int) && (t.2 == (0 : Int) && true) else false then v.1.1 == (0 :
  Int) && (v.1.2 == (0 : Int) && (v.2 == false && (v.3 == (0 : Int) && (v.4 == { data := { toList := [] : Array UInt8 } : ByteArray } && true)))) else
  false) = !true → Q [R.d (D.v (Value.bool false))] [])) ∧ ((op == (12 : Int)) = false → ((op == (13 : Int)) = true → ((bif bif bif (↑es.length : Int)
  == (1 : Int) then sub == (0 : Int) else false then t.1 == (0 : Int) && (t.2 == (0 : Int) && true) else false then v.1.1 == (0 : Int) && (v.1.2 == (0
  : Int) && (v.2 == false && (v.3 == (0 : Int) && (v.4 == { data := { toList := [] : Array UInt8 } : ByteArray } && true)))) else false) = true → ∃ (l
  : List EX), cellsL args = cellsL l ∧ sizeL l < n ∧ l.length ≤ (1353245080300 : Nat) ∧ fitsL l ∧ Q [R.d (D.v (Value.bool !!mayL c l))] []) ∧ ((bif bif
  bif (↑es.length : Int) == (1 : Int) then sub == (0 : Int) else false then t.1 == (0 : Int) && (t.2 == (0 : Int) && true) else false then v.1.1 == (0
  : Int) && (v.1.2 == (0 : Int) && (v.2 == false && (v.3 == (0 : Int) && (v.4 == { data := { toList := [] : Array UInt8 } : ByteArray } && true))))
  else false) = !true → Q [R.d (D.v (Value.bool false))] [])) ∧ ((op == (13 : Int)) = false → ((op == (18 : Int)) = true → ((bif bif bif (↑es.length :
  Int) == (1 : Int) then sub == (0 : Int) else false then t.1 == (0 : Int) && (t.2 == (0 : Int) && true) else false then v.1.1 == (0 : Int) && (v.1.2
  == (0 : Int) && (v.2 == false && (v.3 == (0 : Int) && (v.4 == { data := { toList := [] : Array UInt8 } : ByteArray } && true)))) else false) = true →
  ∃ (l : List EX), cellsL args = cellsL l ∧ sizeL l < n ∧ l.length ≤ (1353245080300 : Nat) ∧ fitsL l ∧ Q [R.d (D.v (Value.bool !!mayL c l))] []) ∧
  ((bif bif bif (↑es.length : Int) == (1 : Int) then sub == (0 : Int) else false then t.1 == (0 : Int) && (t.2 == (0 : Int) && true) else false then
  v.1.1 == (0 : Int) && (v.1.2 == (0 : Int) && (v.2 == false && (v.3 == (0 : Int) && (v.4 == { data := { toList := [] : Array UInt8 } : ByteArray } &&
  true)))) else false) = !true → Q [R.d (D.v (Value.bool false))] [])) ∧ ((op == (18 : Int)) = false → ((op == (14 : Int)) = true → (2 : Int) ≠ (0 :
  Int) ∧ ((bif bif bif bif decide ((↑es.length : Int) ≥ (3 : Int)) then (↑es.length : Int).tmod (2 : Int) != (0 : Int) else false then sub == (0 : Int)
  else false then t.1 == (0 : Int) && (t.2 == (0 : Int) && true) else false then v.1.1 == (0 : Int) && (v.1.2 == (0 : Int) && (v.2 == false && (v.3 ==
  (0 : Int) && (v.4 == { data := { toList := [] : Array UInt8 } : ByteArray } && true)))) else false) = true → ∃ (l : List EX), cellsL args = cellsL l
  ∧ sizeL l < n ∧ l.length ≤ (1353245080300 : Nat) ∧ fitsL l ∧ Q [R.d (D.v (Value.bool !!mayL c l))] []) ∧ ((bif bif bif bif decide ((↑es.length : Int)
  ≥ (3 : Int)) then (↑es.length : Int).tmod (2 : Int) != (0 : Int) else false then sub == (0 : Int) else false then t.1 == (0 : Int) && (t.2 == (0 :
  Int) && true) else false then v.1.1 == (0 : Int) && (v.1.2 == (0 : Int) && (v.2 == false && (v.3 == (0 : Int) && (v.4 == { data := { toList := [] : Array UInt8 } : ByteArray }
  && true)))) else false) = !true → Q [R.d (D.v (Value.bool false))] [])) ∧ ((op == (14 : Int)) = false → ((op == (15 : Int)) = true → ((bif bif bif
  decide ((↑es.length : Int) ≥ (1 : Int)) then sub == (0 : Int) else false then t.1 == (0 : Int) && (t.2 == (0 : Int) && true) else false then v.1.1 ==
  (0 : Int) && (v.1.2 == (0 : Int) && (v.2 == false && (v.3 == (0 : Int) && (v.4 == { data := { toList := [] : Array UInt8 } : ByteArray } && true))))
  else false) = true → ∃ (l : List EX), cellsL args = cellsL l ∧ sizeL l < n ∧ l.length ≤ (1353245080300 : Nat) ∧ fitsL l ∧ Q [R.d (D.v (Value.bool
  !!mayL c l))] []) ∧ ((bif bif bif decide ((↑es.length : Int) ≥ (1 : Int)) then sub == (0 : Int) else false then t.1 == (0 : Int) && (t.2 == (0 : Int)
  && true) else false then v.1.1 == (0 : Int) && (v.1.2 == (0 : Int) && (v.2 == false && (v.3 == (0 : Int) && (v.4 == { data := { toList := [] : Array UInt8 } : ByteArray }
  && true)))) else false) = !true → Q [R.d (D.v (Value.bool false))] [])) ∧ ((op == (15 : Int)) = false → ((op == (3 : Int)) = true → ((bif bif bif
  (↑es.length : Int) == (2 : Int) then sub == (0 : Int) else false then t.1 == (0 : Int) && (t.2 == (0 : Int) && true) else false then v.1.1 == (0 :
  Int) && (v.1.2 == (0 : Int) && (v.2 == false && (v.3 == (0 : Int) && (v.4 == { data := { toList := [] : Array UInt8 } : ByteArray } && true)))) else
  false) = true → ∃ (l : List EX), cellsL args = cellsL l ∧ sizeL l < n ∧ l.length ≤ (1353245080300 : Nat) ∧ fitsL l ∧ Q [R.d (D.v (Value.bool !!mayL c
  l))] []) ∧ ((bif bif bif (↑es.length : Int) == (2 : Int) then sub == (0 : Int) else false then t.1 == (0 : Int) && (t.2 == (0 : Int) && true) else
  false then v.1.1 == (0 : Int) && (v.1.2 == (0 : Int) && (v.2 == false && (v.3 == (0 : Int) && (v.4 == { data := { toList := [] : Array UInt8 } : ByteArray }
  && true)))) else false) = !true → Q [R.d (D.v (Value.bool false))] [])) ∧ ((op == (3 : Int)) = false → ((op == (4 : Int)) = true → ((bif bif bif
  (↑es.length : Int) == (2 : Int) then sub == (0 : Int) else false then t.1 == (0 : Int) && (t.2 == (0 : Int) && true) else false then v.1.1 == (0 :
  Int) && (v.1.2 == (0 : Int) && (v.2 == false && (v.3 == (0 : Int) && (v.4 == { data := { toList := [] : Array UInt8 } : ByteArray } && true)))) else
  false) = true → ∃ (l : List EX), cellsL args = cellsL l ∧ sizeL l < n ∧ l.length ≤ (1353245080300 : Nat) ∧ fitsL l ∧ Q [R.d (D.v (Value.bool !!mayL c
  l))] []) ∧ ((bif bif bif (↑es.length : Int) == (2 : Int) then sub == (0 : Int) else false then t.1 == (0 : Int) && (t.2 == (0 : Int) && true) else
  false then v.1.1 == (0 : Int) && (v.1.2 == (0 : Int) && (v.2 == false && (v.3 == (0 : Int) && (v.4 == { data := { toList := [] : Array UInt8 } : ByteArray }
  && true)))) else false) = !true → Q [R.d (D.v (Value.bool false))] [])) ∧ ((op == (4 : Int)) = false → ((op == (5 : Int)) = true → ((bif bif bif
  (↑es.length : Int) == (2 : Int) then sub == (0 : Int) else false then t.1 == (0 : Int) && (t.2 == (0 : Int) && true) else false then v.1.1 == (0 :
  Int) && (v.1.2 == (0 : Int) && (v.2 == false && (v.3 == (0 : Int) && (v.4 == { data := { toList := [] : Array UInt8 } : ByteArray } && true)))) else
  false) = true → ∃ (l : List EX), cellsL args = cellsL l ∧ sizeL l < n ∧ l.length ≤ (1353245080300 : Nat) ∧ fitsL l ∧ Q [R.d (D.v (Value.bool !!mayL c
  l))] []) ∧ ((bif bif bif (↑es.length : Int) == (2 : Int) then sub == (0 : Int) else false then t.1 == (0 : Int) && (t.2 == (0 : Int) && true) else
  false then v.1.1 == (0 : Int) && (v.1.2 == (0 : Int) && (v.2 == false && (v.3 == (0 : Int) && (v.4 == { data := { toList := [] : Array UInt8 } : ByteArray }
  && true)))) else false) = !true → Q [R.d (D.v (Value.bool false))] [])) ∧ ((op == (5 : Int)) = false → ((op == (6 : Int)) = true → ((bif bif bif
  (↑es.length : Int) == (2 : Int) then sub == (0 : Int) else false then t.1 == (0 : Int) && (t.2 == (0 : Int) && true) else false then v.1.1 == (0 :
  Int) && (v.1.2 == (0 : Int) && (v.2 == false && (v.3 == (0 : Int) && (v.4 == { data := { toList := [] : Array UInt8 } : ByteArray } && true)))) else
  false) = true → ∃ (l : List EX), cellsL args = cellsL l ∧ sizeL l < n ∧ l.length ≤ (1353245080300 : Nat) ∧ fitsL l ∧ Q [R.d (D.v (Value.bool !!mayL c
  l))] []) ∧ ((bif bif bif (↑es.length : Int) == (2 : Int) then sub == (0 : Int) else false then t.1 == (0 : Int) && (t.2 == (0 : Int) && true) else
  false then v.1.1 == (0 : Int) && (v.1.2 == (0 : Int) && (v.2 == false && (v.3 == (0 : Int) && (v.4 == { data := { toList := [] : Array UInt8 } : ByteArray }
  && true)))) else false) = !true → Q [R.d (D.v (Value.bool false))] [])) ∧ ((op == (6 : Int)) = false → ((op == (7 : Int)) = true → ((bif bif bif
  (↑es.length : Int) == (2 : Int) then sub == (0 : Int) else false then t.1 == (0 : Int) && (t.2 == (0 : Int) && true) else false then v.1.1 == (0 :
  Int) && (v.1.2 == (0 : Int) && (v.2 == false && (v.3 == (0 : Int) && (v.4 == { data := { toList := [] : Array UInt8 } : ByteArray } && true)))) else
  false) = true → ∃ (l : List EX), cellsL args = cellsL l ∧ sizeL l < n ∧ l.length ≤ (1353245080300 : Nat) ∧ fitsL l ∧ Q [R.d (D.v (Value.bool !!mayL c
  l))] []) ∧ ((bif bif bif (↑es.length : Int) == (2 : Int) then sub == (0 : Int) else false then t.1 == (0 : Int) && (t.2 == (0 : Int) && true) else
  false then v.1.1 == (0 : Int) && (v.1.2 == (0 : Int) && (v.2 == false && (v.3 == (0 : Int) && (v.4 == { data := { toList := [] : Array UInt8 } : ByteArray }
  && true)))) else false) = !true → Q [R.d (D.v (Value.bool false))] [])) ∧ ((op == (7 : Int)) = false → ((op == (10 : Int)) = true → ((bif bif bif
  (↑es.length : Int) == (2 : Int) then sub == (0 : Int) else false then t.1 == (0 : Int) && (t.2 == (0 : Int) && true) else false then v.1.1 == (0 :
  Int) && (v.1.2 == (0 : Int) && (v.2 == false && (v.3 == (0 : Int) && (v.4 == { data := { toList := [] : Array UInt8 } : ByteArray } && true)))) else
  false) = true → ∃ (l : List EX), cellsL args = cellsL l ∧ sizeL l < n ∧ l.length ≤ (1353245080300 : Nat) ∧ fitsL l ∧ Q [R.d (D.v (Value.bool !!mayL c
  l))] []) ∧ ((bif bif bif (↑es.length : Int) == (2 : Int) then sub == (0 : Int) else false then t.1 == (0 : Int) && (t.2 == (0 : Int) && true) else
  false then v.1.1 == (0 : Int) && (v.1.2 == (0 : Int) && (v.2 == false && (v.3 == (0 : Int) && (v.4 == { data := { toList := [] : Array UInt8 } : ByteArray }
  && true)))) else false) = !true → Q [R.d (D.v (Value.bool false))] [])) ∧ ((op == (10 : Int)) = false → ((op == (11 : Int)) = true → ((bif bif bif
  (↑es.length : Int) == (2 : Int) then sub == (0 : Int) else false then t.1 == (0 : Int) && (t.2 == (0 : Int) && true) else false then v.1.1 == (0 :
  Int) && (v.1.2 == (0 : Int) && (v.2 == false && (v.3 == (0 : Int) && (v.4 == { data := { toList := [] : Array UInt8 } : ByteArray } && true)))) else
  false) = true → ∃ (l : List EX), cellsL args = cellsL l ∧ sizeL l < n ∧ l.length ≤ (1353245080300 : Nat) ∧ fitsL l ∧ Q [R.d (D.v (Value.bool !!mayL c
  l))] []) ∧ ((bif bif bif (↑es.length : Int) == (2 : Int) then sub == (0 : Int) else false then t.1 == (0 : Int) && (t.2 == (0 : Int) && true) else
  false then v.1.1 == (0 : Int) && (v.1.2 == (0 : Int) && (v.2 == false && (v.3 == (0 : Int) && (v.4 == { data := { toList := [] : Array UInt8 } : ByteArray }
  && true)))) else false) = !true → Q [R.d (D.v (Value.bool false))] [])) ∧ ((op == (11 : Int)) = false → ((op == (17 : Int)) = true → ((bif bif bif
  (↑es.length : Int) == (2 : Int) then sub == (0 : Int) else false then t.1 == (0 : Int) && (t.2 == (0 : Int) && true) else false then v.1.1 == (0 :
  Int) && (v.1.2 == (0 : Int) && (v.2 == false && (v.3 == (0 : Int) && (v.4 == { data := { toList := [] : Array UInt8 } : ByteArray } && true)))) else
  false) = true → ∃ (l : List EX), cellsL args = cellsL l ∧ sizeL l < n ∧ l.length ≤ (1353245080300 : Nat) ∧ fitsL l ∧ Q [R.d (D.v (Value.bool !!mayL c
  l))] []) ∧ ((bif bif bif (↑es.length : Int) == (2 : Int) then sub == (0 : Int) else false then t.1 == (0 : Int) && (t.2 == (0 : Int) && true) else
  false then v.1.1 == (0 : Int) && (v.1.2 == (0 : Int) && (v.2 == false && (v.3 == (0 : Int) && (v.4 == { data := { toList := [] : Array UInt8 } : ByteArray }
  && true)))) else false) = !true → Q [R.d (D.v (Value.bool false))] [])) ∧ ((op == (17 : Int)) = false → ((bif bif bif false then sub == (0 : Int)
  else false then t.1 == (0 : Int) && (t.2 == (0 : Int) && true) else false then v.1.1 == (0 : Int) && (v.1.2 == (0 : Int) && (v.2 == false && (v.3 ==
  (0 : Int) && (v.4 == { data := { toList := [] : Array UInt8 } : ByteArray } && true)))) else false) = true → ∃ (l : List EX), cellsL args = cellsL l
  ∧ sizeL l < n ∧ l.length ≤ (1353245080300 : Nat) ∧ fitsL l ∧ Q [R.d (D.v (Value.bool !!mayL c l))] []) ∧ ((bif bif bif false then sub == (0 : Int)
  else false then t.1 == (0 : Int) && (t.2 == (0 : Int) && true) else false then v.1.1 == (0 : Int) && (v.1.2 == (0 : Int) && (v.2 == false && (v.3 ==
  (0 : Int) && (v.4 == { data := { toList := [] : Array UInt8 } : ByteArray } && true)))) else false) = !true → Q [R.d (D.v (Value.bool false))]
  [])))))))))))))))))))) := by kernel_rfl
/-- The contract of may, for what is less than n. -/
def P63 (gl : Nat → Option Obj) (n : Nat) : Prop := ∀ (e : EX) (c : Int), size e < n → fits e → Ct prog gl 26 [.agg (cells e), .d (.v (.int .i64 c))] (gives [.d (.v (.bool (mayE c e)))])
theorem ct126_of {n : Nat} (h63 : P63 gl n) : ∀ (e : EX) (c : Int), size e < n → fits e → Ct prog gl 47 [.agg (cells e), .ptr [.v (.int .i64 c)]] (gives [.d (.v (.bool (!mayE c e)))])
  | .mk op sub t v args, c, hs, hf => by
    have hC : CallsOk prog gl (C_f126 n) := addC_ok C_4e_ok (fun a K hk => by
      unfold c_63 at hk
      split at hk
      · obtain ⟨e, rfl, h1, h2, h3⟩ := hk
        exact (h63 e _ h1 h2).gives h3
      · exact hk.elim)
    rw [cells_mk]
    refine ct_of_vc E_ok hC ioK_no it_ok mixed (fn := f47) (body := f47.body.getD .skip) (by kernel_rfl) (by kernel_rfl) (by kernel_rfl) (fi := fi47) (by kernel_rfl) (by kernel_rfl) ⟨_, _, rfl, rfl⟩ ?_
    rw [vc126]
    exact ⟨c, rfl, .mk op sub t v args, by rw [cells_mk]; rfl, hs, hf, rfl, rfl⟩
theorem ct208_of {n : Nat} (h63 : P63 gl n) (l : List EX) (c : Int) (hs : sizeL l < n) (hl : l.length ≤ 1353245080300) (hf : fitsL l) :
    Ct prog gl 75 [.d (.sl (cellsL l)), .fn 47 [.ptr [.v (.int .i64 c)]]] (fun res fin => fin = [] ∧ ∃ r : Int, res = [.d (.v (.int .i64 r))] ∧ decide (r ≥ 0) = (!mayL c l)) := by
  have hC : CallsOk prog gl (C_f208 n) := addC_ok C_4e_ok (fun a K hk => by
    unfold c_126 at hk
    split at hk
    · obtain ⟨e, rfl, h1, h2, h3⟩ := hk
      exact (ct126_of h63 e _ h1 h2).gives h3
    · exact hk.elim)
  refine ct_of_vc E_ok hC ioK_no it_ok mixed (fn := f75) (body := f75.body.getD .skip) (by kernel_rfl) (by kernel_rfl) (by kernel_rfl) (fi := fx_208 c l) (by kernel_rfl) (by kernel_rfl) (by
    cases h : mayL c l
    · exact ⟨_, _, rfl, 0, rfl, rfl⟩
    · exact ⟨_, _, rfl, -1, rfl, rfl⟩) ?_
  rw [vc208]
  refine ⟨_, rfl, (0 : Nat), ⟨rfl, l.length, ⟨Nat.zero_le _, rfl⟩, by simp⟩, fun m (x : Nat) hx => ⟨fun hi => ?_, fun hi => ?_⟩⟩
  · have hi : x < l.length := by simpa [cellsL_len] using hi
    obtain ⟨op1, sub1, t1, v1, a1, e1, g1⟩ := arg_get hi
    have hm := hx.1.2
    have hsz := size_mem (List.getElem_mem hi)
    refine ⟨cellsL l, rfl, ⟨by omega, by rw [cellsL_len]; omega⟩, _, g1, rfl, op1, sub1, t1.k, t1.sc, v1.t.k, v1.t.sc, v1.nul, v1.n, v1.s, cellsL a1, rfl, l[x], by rw [e1, cells_mk]; rfl, by omega, fitsL_mem hf (List.getElem_mem hi), fun hb => ?_, fun hb => ?_⟩
    · refine ⟨rfl, (x : Int), rfl, ?_⟩
      rw [decide_eq_true (by omega), mayL_any]
      exact (List.any_eq_true.2 ⟨l[x], List.getElem_mem hi, hb⟩).symm
    · exact ⟨l.length - (x + 1), x + 1, by omega, by rw [wrap_next (by omega)], ⟨hi, rfl⟩, any_take (p := fun e => !mayE c e) hi hx.2 hb⟩
  · have hi : ¬ x < l.length := by simpa [cellsL_len] using hi
    have h := hx.2
    rw [List.take_of_length_le (by omega)] at h
    refine ⟨rfl, -1, rfl, ?_⟩
    rw [mayL_any, any_none h]; rfl
theorem ct125_of {n : Nat} (h63 : P63 gl n) (l : List EX) (c : Int) (hs : sizeL l < n) (hl : l.length ≤ 1353245080300) (hf : fitsL l) :
    Ct prog gl 46 [.d (.sl (cellsL l)), .fn 47 [.ptr [.v (.int .i64 c)]]] (gives [.d (.v (.bool (!mayL c l)))]) := by
  have hC : CallsOk prog gl (C_f125 n) := addC_ok C_4e_ok (fun a K hk => by
    unfold c_208 at hk
    split at hk
    · obtain ⟨l, rfl, h1, h2, h3, h4⟩ := hk
      exact (ct208_of h63 l _ h1 h2 h3).mono fun res fin ⟨e1, r, e2, e3⟩ => by subst e1; subst e2; exact h4 r e3
    · exact hk.elim)
  refine ct_of_vc E_ok hC ioK_no it_ok mixed (fn := f46) (body := f46.body.getD .skip) (by kernel_rfl) (by kernel_rfl) (by kernel_rfl) (fi := fi46) (by kernel_rfl) (by kernel_rfl) ⟨_, _, rfl, rfl⟩ ?_
  rw [vc125]
  exact ⟨l, rfl, hs, hl, hf, fun r hr => ⟨by rw [hr], rfl⟩⟩
theorem ct63_of {n : Nat} (h63 : P63 gl n) : ∀ (e : EX) (c : Int), size e < n + 1 → fits e → Ct prog gl 26 [.agg (cells e), .d (.v (.int .i64 c))] (gives [.d (.v (.bool (mayE c e)))])
  | .mk op sub t v args, c, hs, hf => by
    have hC : CallsOk prog gl (C_f63 n) := addC_ok C_4e_ok (fun a K hk => by
      unfold c_125 at hk
      split at hk
      · obtain ⟨l, rfl, h1, h2, h3, h4⟩ := hk
        exact (ct125_of h63 l _ h1 h2 h3).gives h4
      · exact hk.elim)
    rw [cells_mk]
    refine ct_of_vc E_b_ok hC ioK_no it_b mixed (fn := f26) (body := f26.body.getD .skip) (by kernel_rfl) (by kernel_rfl) (by kernel_rfl) (fi := fi26) (by kernel_rfl) (by kernel_rfl) ⟨_, _, rfl, rfl⟩ ?_
    rw [vc63]
    obtain ⟨_, hl, hfl⟩ := fits_mk hf
    simp only [size] at hs
    have hs' : sizeL args < n := by omega
    refine ⟨cellsL args, rfl, ?_⟩
    have two : (2 : Int) ≠ 0 := by decide
    have leaf : ∀ b : Bool, mayE c (.mk op sub t v args) = b → gives [.d (.v (.bool (mayE c (.mk op sub t v args))))] [R.d (D.v (Value.bool b))] [] := fun b h => by rw [h]; exact ⟨rfl, rfl⟩
    repeat' first | (refine And.intro (fun h => ?_) (fun h => ?_)) | (refine And.intro two ?_) | fail
    all_goals first
      | (exfalso; rename_i h; simp only [cond_false] at h; cases h; done)
      | (refine ⟨args, rfl, hs', hl, hfl, leaf _ ?_⟩; simp only [mayE, mayHd, tyZ, valZ, *, cond_true, cond_false, Bool.not_not, Bool.true_and, Bool.or_true, Bool.true_or, Bool.or_false, Bool.false_or])
      | (refine leaf _ ?_; simp only [mayE, mayHd, tyZ, valZ, *, cond_true, cond_false, Bool.not_true, Bool.false_and, Bool.or_true, Bool.true_or, Bool.or_false, Bool.false_or])
theorem ct63 : ∀ n : Nat, P63 gl n
  | 0 => fun e c h => absurd h (Nat.not_lt_zero _)
  | n + 1 => fun e c h hf => ct63_of (ct63 n) e c h hf
end Go.Proofs.Tryz
