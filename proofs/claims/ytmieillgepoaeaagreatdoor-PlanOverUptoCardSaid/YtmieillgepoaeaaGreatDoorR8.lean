/- A part of the proof: contracts of functions, by a verified generator of conditions; no condition of its own. -/
import Derived.Test.YtmieillgepoaeaaGreatDoorR5
namespace Go.Proofs.Tryz
open Go Go.Dm Go.Ex
set_option maxRecDepth 100000
variable {gl : Nat → Option Obj}
structure CX where
  s : Bool
  n : Bool
  c : Int
def rstep (a : Ty) (x : CX) (u : Ty) : CX := ⟨bif x.s then u.k == a.k && (u.sc == a.sc && true) else false, bif x.n then s179_0 u.k u.sc else false, if u.sc > x.c then u.sc else x.c⟩
def rfold (a : Ty) (l : List Ty) : CX := l.foldl (rstep a) ⟨true, true, 0⟩
def st_96 (a : Ty) (r : List Ty) (x : Nat) : St := { tm := [(0, .d (.sl ((a :: r).map Ty.cs))), (2, .ref 2 0), (3, .d (.v (.bool false))), (4, .d (.v (.bool (rfold a ((a :: r).take x)).s))), (5, .d (.v (.bool (rfold a ((a :: r).take x)).n))), (6, .d (.v (.int .i64 (rfold a ((a :: r).take x)).c))), (7, .d (.v (.int .i64 (x : Int))))], hp := [(2, .box [.d (.v (.int .i64 0)), .d (.v (.int .i64 0))])], kn := [], gd := [] }
def fx_96 (a : Ty) (r : List Ty) : Fi := { fi34 with lx := [(5, { X := Nat, sh := st_96 a r, P := fun _ => inv_m (a :: r) })] }
theorem vc96 (a : Ty) (r : List Ty) (Q : List R → List (List D) → Prop) : vc E_0 C_4e noI (fx_96 a r) (f34.body.getD .skip) f34.results.toList [.d (.sl ((a :: r).map Ty.cs))] Q = ( ∃ (x0 : { X := Nat, sh := st_96 a r, P := fun (x : Nat) => inv_m (a :: r) : LX }.X), ({ tm := [((0 : Nat), V.d (D.sl (a.cs :: List.map Ty.cs r))), ((2 : Nat), V.ref ((2 : Nat)) ((0 : Nat))), ((3 : Nat), V.d (D.v (Value.bool false))), ((4 : Nat), V.d (D.v (Value.bool true))), ((5 : Nat), V.d (D.v (Value.bool true))), ((6 : Nat), V.d (D.v (Value.int .i64 0))), ((7 : Nat), V.d (D.v (Value.int .i64 0)))], hp := [((2 : Nat), B.box [V.d (D.v (Value.int .i64 0)), V.d (D.v (Value.int .i64 0))])], kn := [], gd := [] : St } = { tm := [((0 : Nat), V.d (D.sl (a.cs :: List.map Ty.cs r))), ((2 : Nat), V.ref ((2 : Nat)) ((0 : Nat))), ((3 : Nat), V.d (D.v (Value.bool false))), ((4 : Nat), V.d (D.v (Value.bool (rfold a (List.take x0 (a :: r))).1))), ((5 : Nat), V.d (D.v (Value.bool (rfold a (List.take x0 (a :: r))).2))), ((6 : Nat), V.d (D.v (Value.int .i64 (rfold a (List.take x0 (a :: r))).3))), ((7 : Nat), V.d (D.v (Value.int .i64 (↑x0 : Int))))], hp := [((2 : Nat), B.box [V.d (D.v (Value.int .i64 0)), V.d (D.v (Value.int .i64 0))])], kn := [], gd := [] : St } ∧ ∃ (n : Nat), inv_m (a :: r) n x0) ∧ ∀ (n : Nat) (x : { X := Nat, sh := st_96 a r, P := fun (x : Nat) => inv_m (a :: r) : LX }.X), inv_m (a :: r) n x → ∃ (es : List (List D)), D.sl (a.cs :: List.map Ty.cs r) = D.sl es ∧ (decide ((↑x : Int) < (↑es.length : Int)) = true → ((rfold a (List.take x (a :: r))).1 = true → ∃ (es : List (List D)), D.sl (a.cs :: List.map Ty.cs r) = D.sl es ∧ ((0 : Int) ≤ (↑x : Int) ∧ (↑x : Int) < (↑es.length : Int)) ∧ ∃ (cells : List D), es[(↑x : Int).toNat]? = some cells ∧ cells.length = (2 : Nat) ∧ ∃ (n_1 : Int), ∃ (n_2 : Int), cut ((0 : Nat)) ((2 : Nat)) cells = some [D.v (Value.int .i64 n_1), D.v (Value.int .i64 n_2)] ∧ ∃ (es : List (List D)), D.sl (a.cs :: List.map Ty.cs r) = D.sl es ∧ ((0 : Int) ≤ (0 : Int) ∧ (0 : Int) < (↑es.length : Int)) ∧ ∃ (cells : List D), es[Int.toNat (0 : Int)]? = some cells ∧ cells.length = (2 : Nat) ∧ ∃ (n_3 : Int), ∃ (n_4 : Int), cut ((0 : Nat)) ((2 : Nat)) cells = some [D.v (Value.int .i64 n_3), D.v (Value.int .i64 n_4)] ∧ ((rfold a (List.take x (a :: r))).2 = true → ∃ (es : List (List D)), D.sl (a.cs :: List.map Ty.cs r) = D.sl es ∧ ((0 : Int) ≤ (↑x : Int) ∧ (↑x : Int) < (↑es.length : Int)) ∧ ∃ (cells : List D), es[(↑x : Int).toNat]? = some cells ∧ cells.length = (2 : Nat) ∧ ∃ (n_5 : Int), ∃ (n_6 : Int), cut ((0 : Nat)) ((2 : Nat)) cells = some [D.v (Value.int .i64 n_5), D.v (Value.int .i64 n_6)] ∧ ∃ (es : List (List D)), D.sl (a.cs :: List.map Ty.cs r) = D.sl es ∧ ((0 : Int) ≤ (↑x : Int) ∧ (↑x : Int) < (↑es.length : Int)) ∧ ∃ (cells : List D), es[(↑x : Int).toNat]? = some cells ∧ cells.length = (2 : Nat) ∧ ∃ (n_7 : Int), cut ((0 : Nat)) ((1 : Nat)) (dropN ((1 : Nat)) cells) = some [D.v (Value.int .i64 n_7)] ∧ ∃ (m : Nat), ∃ (x' : { X := Nat, sh := st_96 a r, P := fun (x : Nat) => inv_m (a :: r) : LX }.X), m < n ∧ { tm := [((0 : Nat), V.d (D.sl (a.cs :: List.map Ty.cs r))), ((2 : Nat), V.ref ((2 : Nat)) ((0 : Nat))), ((3 : Nat), V.d (D.v (Value.bool false))), ((4 : Nat), V.d (D.v (Value.bool (n_1 == n_3 && (n_2 == n_4 && true))))), ((5 : Nat), V.d (D.v (Value.bool (s179_0 n_5 n_6)))), ((6 : Nat), V.d (D.v (Value.int .i64 (if n_7 > (rfold a (List.take x (a :: r))).3 then n_7 else (rfold a (List.take x (a :: r))).3)))), ((7 : Nat), V.d (D.v (Value.int .i64 (IntKind.i64.wrap ((↑x : Int) + (1 : Int))))))], hp := [((2 : Nat), B.box [V.d (D.v (Value.int .i64 0)), V.d (D.v (Value.int .i64 0))])], kn := [], gd := [] : St } = { tm := [((0 : Nat), V.d (D.sl (a.cs :: List.map Ty.cs r))), ((2 : Nat), V.ref ((2 : Nat)) ((0 : Nat))), ((3 : Nat), V.d (D.v (Value.bool false))), ((4 : Nat), V.d (D.v (Value.bool (rfold a (List.take x' (a :: r))).1))), ((5 : Nat), V.d (D.v (Value.bool (rfold a (List.take x' (a :: r))).2))), ((6 : Nat), V.d (D.v (Value.int .i64 (rfold a (List.take x' (a :: r))).3))), ((7 : Nat), V.d (D.v (Value.int .i64 (↑x' : Int))))], hp := [((2 : Nat), B.box [V.d (D.v (Value.int .i64 0)), V.d (D.v (Value.int .i64 0))])], kn := [], gd := [] : St } ∧ inv_m (a :: r) m x') ∧ ((rfold a (List.take x (a :: r))).2 = !true → ∃ (es : List (List D)), D.sl (a.cs :: List.map Ty.cs r) = D.sl es ∧ ((0 : Int) ≤ (↑x : Int) ∧ (↑x : Int) < (↑es.length : Int)) ∧ ∃ (cells : List D), es[(↑x : Int).toNat]? = some cells ∧ cells.length = (2 : Nat) ∧ ∃ (n_5 : Int), cut ((0 : Nat)) ((1 : Nat)) (dropN ((1 : Nat)) cells) = some [D.v (Value.int .i64 n_5)] ∧ ∃ (m : Nat), ∃ (x' : { X := Nat, sh := st_96 a r, P := fun (x : Nat) => inv_m (a :: r) : LX }.X), m < n ∧ { tm := [((0 : Nat), V.d (D.sl (a.cs :: List.map Ty.cs r))), ((2 : Nat), V.ref ((2 : Nat)) ((0 : Nat))), ((3 : Nat), V.d (D.v (Value.bool false))), ((4 : Nat), V.d (D.v (Value.bool (n_1 == n_3 && (n_2 == n_4 && true))))), ((5 : Nat), V.d (D.v (Value.bool false))), ((6 : Nat), V.d (D.v (Value.int .i64 (if n_5 > (rfold a (List.take x (a :: r))).3 then n_5 else (rfold a (List.take x (a :: r))).3)))), ((7 : Nat), V.d (D.v (Value.int .i64 (IntKind.i64.wrap ((↑x : Int) + (1 : Int))))))], hp := [((2 : Nat), B.box [V.d (D.v (Value.int .i64 0)), V.d (D.v (Value.int .i64 0))])], kn := [], gd := [] : St } = { tm := [((0 : Nat), V.d (D.sl (a.cs :: List.map Ty.cs r))), ((2 : Nat), V.ref ((2 : Nat)) ((0 : Nat))), ((3 : Nat), V.d (D.v (Value.bool false))), ((4 : Nat), V.d (D.v (Value.bool (rfold a (List.take x' (a :: r))).1))), ((5 : Nat), V.d (D.v (Value.bool (rfold a (List.take x' (a :: r))).2))), ((6 : Nat), V.d (D.v (Value.int .i64 (rfold a (List.take x' (a :: r))).3))), ((7 : Nat), V.d (D.v (Value.int .i64 (↑x' : Int))))], hp := [((2 : Nat), B.box [V.d (D.v (Value.int .i64 0)), V.d (D.v (Value.int .i64 0))])], kn := [], gd := [] : St } ∧ inv_m (a :: r) m x')) ∧ ((rfold a (List.take x (a :: r))).1 = !true → ((rfold a (List.take x (a :: r))).2 = true → ∃ (es : List (List D)), D.sl (a.cs :: List.map Ty.cs r) = D.sl es ∧ ((0 : Int) ≤ (↑x : Int) ∧ (↑x : Int) < (↑es.length : Int)) ∧ ∃ (cells : List D), es[(↑x : Int).toNat]? = some cells ∧ cells.length = (2 : Nat) ∧ ∃ (n_1 : Int), ∃ (n_2 : Int), cut ((0 : Nat)) ((2 : Nat)) cells = some [D.v (Value.int .i64 n_1), D.v (Value.int .i64 n_2)] ∧ ∃ (es : List (List D)), D.sl (a.cs :: List.map Ty.cs r) = D.sl es ∧ ((0 : Int) ≤ (↑x : Int) ∧ (↑x : Int) < (↑es.length : Int)) ∧ ∃ (cells : List D), es[(↑x : Int).toNat]? = some cells ∧ cells.length = (2 : Nat) ∧ ∃ (n_3 : Int), cut ((0 : Nat)) ((1 : Nat)) (dropN ((1 : Nat)) cells) = some [D.v (Value.int .i64 n_3)] ∧ ∃ (m : Nat), ∃ (x' : { X := Nat, sh := st_96 a r, P := fun (x : Nat) => inv_m (a :: r) : LX }.X), m < n ∧ { tm := [((0 : Nat), V.d (D.sl (a.cs :: List.map Ty.cs r))), ((2 : Nat), V.ref ((2 : Nat)) ((0 : Nat))), ((3 : Nat), V.d (D.v (Value.bool false))), ((4 : Nat), V.d (D.v (Value.bool false))), ((5 : Nat), V.d (D.v (Value.bool (s179_0 n_1 n_2)))), ((6 : Nat), V.d (D.v (Value.int .i64 (if n_3 > (rfold a (List.take x (a :: r))).3 then n_3 else (rfold a (List.take x (a :: r))).3)))), ((7 : Nat), V.d (D.v (Value.int .i64 (IntKind.i64.wrap ((↑x : Int) + (1 : Int))))))], hp := [((2 : Nat), B.box [V.d (D.v (Value.int .i64 0)), V.d (D.v (Value.int .i64 0))])], kn := [], gd := [] : St } = { tm := [((0 : Nat), V.d (D.sl (a.cs :: List.map Ty.cs r))), ((2 : Nat), V.ref ((2 : Nat)) ((0 : Nat))), ((3 : Nat), V.d (D.v (Value.bool false))), ((4 : Nat), V.d (D.v (Value.bool (rfold a (List.take x' (a :: r))).1))), ((5 : Nat), V.d (D.v (Value.bool (rfold a (List.take x' (a :: r))).2))), ((6 : Nat), V.d (D.v (Value.int .i64 (rfold a (List.take x' (a :: r))).3))), ((7 : Nat), V.d (D.v (Value.int .i64 (↑x' : Int))))], hp := [((2 : Nat), B.box [V.d (D.v (Value.int .i64 0)), V.d (D.v (Value.int .i64 0))])], kn := [], gd := [] : St } ∧ inv_m (a :: r) m x') ∧ ((rfold a (List.take x (a :: r))).2 = !true → ∃ (es : List (List D)), D.sl (a.cs :: List.map Ty.cs r) = D.sl es ∧ ((0 : Int) ≤ (↑x : Int) ∧ (↑x : Int) < (↑es.length : Int)) ∧ ∃ (cells : List D), es[(↑x : Int).toNat]? = some cells ∧ cells.length = (2 : Nat) ∧ ∃ (n_1 : Int), cut ((0 : Nat)) ((1 : Nat)) (dropN ((1 : Nat)) cells) = some [D.v (Value.int .i64 n_1)] ∧ ∃ (m : Nat), ∃ (x' : { X := Nat, sh := st_96 a r, P := fun (x : Nat) => inv_m (a :: r) : LX }.X), m < n ∧ { tm := [((0 : Nat), V.d (D.sl (a.cs :: List.map Ty.cs r))), ((2 : Nat), V.ref ((2 : Nat)) ((0 : Nat))), ((3 : Nat), V.d (D.v (Value.bool false))), ((4 : Nat), V.d (D.v (Value.bool false))), ((5 : Nat), V.d (D.v (Value.bool false))), ((6 : Nat), V.d (D.v (Value.int .i64 (if n_1 > (rfold a (List.take x (a :: r))).3 then n_1 else (rfold a (List.take x (a :: r))).3)))), ((7 : Nat), V.d (D.v (Value.int .i64 (IntKind.i64.wrap ((↑x : Int) + (1 : Int))))))], hp := [((2 : Nat), B.box [V.d (D.v (Value.int .i64 0)), V.d (D.v (Value.int .i64 0))])], kn := [], gd := [] : St } = { tm := [((0 : Nat), V.d (D.sl (a.cs :: List.map Ty.cs r))), ((2 : Nat), V.ref ((2 : Nat)) ((0 : Nat))), ((3 : Nat), V.d (D.v (Value.bool false))), ((4 : Nat), V.d (D.v (Value.bool (rfold a (List.take x' (a :: r))).1))), ((5 : Nat), V.d (D.v (Value.bool (rfold a (List.take x' (a :: r))).2))), ((6 : Nat), V.d (D.v (Value.int .i64 (rfold a (List.take x' (a :: r))).3))), ((7 : Nat), V.d (D.v (Value.int .i64 (↑x' : Int))))], hp := [((2 : Nat), B.box [V.d (D.v (Value.int .i64 0)), V.d (D.v (Value.int .i64 0))])], kn := [], gd := [] : St } ∧ inv_m (a :: r) m x'))) ∧ (decide ((↑x : Int) < (↑es.length : Int)) = false → ((rfold a (List.take x (a :: r))).1 = true → ∃ (es : List (List D)), D.sl (a.cs :: List.map Ty.cs r) = D.sl es ∧ ((0 : Int) ≤ (0 : Int) ∧ (0 : Int) < (↑es.length : Int)) ∧ ∃ (cells : List D), es[Int.toNat (0 : Int)]? = some cells ∧ cells.length = (2 : Nat) ∧ ∃ (n : Int), ∃ (n_1 : Int), cut ((0 : Nat)) ((2 : Nat)) cells = some [D.v (Value.int .i64 n), D.v (Value.int .i64 n_1)] ∧ Q [.agg [.v (.int .i64 n), .v (.int .i64 n_1)], .d (.v (.bool true))] []) ∧ ((rfold a (List.take x (a :: r))).1 = false → Q [.agg [.v (.int .i64 3), .v (.int .i64 (rfold a (List.take x (a :: r))).3)], .d (.v (.bool (rfold a (List.take x (a :: r))).2))] []))) := by kernel_rfl
def encW (l : List Nat) : List (List D) := l.map fun (i : Nat) => [.v (.int .i64 (i : Int))]
def resN (op : Int) (n x : Nat) : List Nat := (List.range x).filter fun i => op == 15 || i % 2 == 1 || i == n - 1
def st_224 (op : Int) (n x : Nat) : St := { tm := [(0, .d (.v (.int .i64 op))), (1, .d (.v (.int .i64 (n : Int)))), (4, .nil), (5, .own 50005), (6, .d (.v (.int .i64 (x : Int))))], hp := [(50005, .lst 3 1 (encW (resN op n x)))], kn := [], gd := [] }
def inv_224 (n : Nat) (m : Nat) (x : Nat) : Prop := x ≤ n ∧ m = n - x
def fx_224 (op : Int) (n : Nat) : Fi := { fi125 with cv := [(3, [⟨none, 5, 50005, 3, 1⟩])], lx := [(3, { X := Nat, sh := st_224 op n, P := fun _ => inv_224 n })] }
theorem vc224 (op : Int) (n : Nat) (Q : List R → List (List D) → Prop) : vc E_0 C_4e noI (fx_224 op n) (f125.body.getD .skip) f125.results.toList [.d (.v (.int .i64 op)), .d (.v (.int .i64 (n : Int)))] Q = ( ∃ (x0 : { X := Nat, sh := st_224 op n, P := fun (x : Nat) => inv_224 n : LX }.X), ({ tm := [((0 : Nat), V.d (D.v (Value.int .i64 op))), ((1 : Nat), V.d (D.v (Value.int .i64 (↑n : Int)))), ((4 : Nat), V.nil), ((5 : Nat), V.own ((50005 : Nat))), ((6 : Nat), V.d (D.v (Value.int .i64 0)))], hp := [((50005 : Nat), B.lst ((3 : Nat)) ((1 : Nat)) [])], kn := [], gd := [] : St } = { tm := [((0 : Nat), V.d (D.v (Value.int .i64 op))), ((1 : Nat), V.d (D.v (Value.int .i64 (↑n : Int)))), ((4 : Nat), V.nil), ((5 : Nat), V.own ((50005 : Nat))), ((6 : Nat), V.d (D.v (Value.int .i64 (↑x0 : Int))))], hp := [((50005 : Nat), B.lst ((3 : Nat)) ((1 : Nat)) (List.map (fun (i : Nat) => [D.v (Value.int .i64 (↑i : Int))]) (resN op n x0)))], kn := [], gd := [] : St } ∧ ∃ (n_1 : Nat), inv_224 n n_1 x0) ∧ ∀ (n_1 : Nat) (x : { X := Nat, sh := st_224 op n, P := fun (x : Nat) => inv_224 n : LX }.X), inv_224 n n_1 x → (decide ((↑x : Int) < (↑n : Int)) = true → (2 : Int) ≠ (0 : Int) ∧ ((bif bif op == (15 : Int) then true else (↑x : Int).tmod (2 : Int) == (1 : Int) then true else (↑x : Int) == IntKind.i64.wrap ((↑n : Int) - (1 : Int))) = true → (∀ (c : List D), c ∈ [[D.v (Value.int .i64 (↑x : Int))]] → c.length = (1 : Nat)) ∧ (3 : Nat) = (3 : Nat) ∧ (1 : Nat) = (1 : Nat) ∧ (↑(List.map (fun (i : Nat) => [D.v (Value.int .i64 (↑i : Int))]) (resN op n x)).length.succ : Int) * (↑((8 : Nat)) : Int) ≤ (140737488355328 : Int) ∧ ∃ (m : Nat), ∃ (x' : { X := Nat, sh := st_224 op n, P := fun (x : Nat) => inv_224 n : LX }.X), m < n_1 ∧ { tm := [((0 : Nat), V.d (D.v (Value.int .i64 op))), ((1 : Nat), V.d (D.v (Value.int .i64 (↑n : Int)))), ((4 : Nat), V.nil), ((5 : Nat), V.own ((50005 : Nat))), ((6 : Nat), V.d (D.v (Value.int .i64 (IntKind.i64.wrap ((↑x : Int) + (1 : Int))))))], hp := [((50005 : Nat), B.lst ((3 : Nat)) ((1 : Nat)) (List.map (fun (i : Nat) => [D.v (Value.int .i64 (↑i : Int))]) (resN op n x) ++ [[D.v (Value.int .i64 (↑x : Int))]]))], kn := [], gd := [] : St } = { tm := [((0 : Nat), V.d (D.v (Value.int .i64 op))), ((1 : Nat), V.d (D.v (Value.int .i64 (↑n : Int)))), ((4 : Nat), V.nil), ((5 : Nat), V.own ((50005 : Nat))), ((6 : Nat), V.d (D.v (Value.int .i64 (↑x' : Int))))], hp := [((50005 : Nat), B.lst ((3 : Nat)) ((1 : Nat)) (List.map (fun (i : Nat) => [D.v (Value.int .i64 (↑i : Int))]) (resN op n x')))], kn := [], gd := [] : St } ∧ inv_224 n m x') ∧ ((bif bif op == (15 : Int) then true else (↑x : Int).tmod (2 : Int) == (1 : Int) then true else (↑x : Int) == IntKind.i64.wrap ((↑n : Int) - (1 : Int))) = false → ∃ (m : Nat), ∃ (x' : { X := Nat, sh := st_224 op n, P := fun (x : Nat) => inv_224 n : LX }.X), m < n_1 ∧ { tm := [((0 : Nat), V.d (D.v (Value.int .i64 op))), ((1 : Nat), V.d (D.v (Value.int .i64 (↑n : Int)))), ((4 : Nat), V.nil), ((5 : Nat), V.own ((50005 : Nat))), ((6 : Nat), V.d (D.v (Value.int .i64 (IntKind.i64.wrap ((↑x : Int) + (1 : Int))))))], hp := [((50005 : Nat), B.lst ((3 : Nat)) ((1 : Nat)) (List.map (fun (i : Nat) => [D.v (Value.int .i64 (↑i : Int))]) (resN op n x)))], kn := [], gd := [] : St } = { tm := [((0 : Nat), V.d (D.v (Value.int .i64 op))), ((1 : Nat), V.d (D.v (Value.int .i64 (↑n : Int)))), ((4 : Nat), V.nil), ((5 : Nat), V.own ((50005 : Nat))), ((6 : Nat), V.d (D.v (Value.int .i64 (↑x' : Int))))], hp := [((50005 : Nat), B.lst ((3 : Nat)) ((1 : Nat)) (List.map (fun (i : Nat) => [D.v (Value.int .i64 (↑i : Int))]) (resN op n x')))], kn := [], gd := [] : St } ∧ inv_224 n m x')) ∧ (decide ((↑x : Int) < (↑n : Int)) = false → Q [.d (.sl (List.map (fun (i : Nat) => [.v (.int .i64 (↑i : Int))]) (resN op n x)))] [])) := by kernel_rfl
def st_151 (l : List Ty) (k : Int) (x : Nat) : St := { tm := [(0, .d (.sl (l.map Ty.cs))), (1, .d (.v (.int .i64 k))), (4, .d (.v (.bool false))), (5, .d (.v (.int .i64 (x : Int))))], hp := [], kn := [], gd := [] }
def inv_151 (l : List Ty) (k : Int) (m : Nat) (x : Nat) : Prop := x ≤ l.length ∧ m = l.length - x ∧ (l.take x).any (offK k) = false
def fx_151 (l : List Ty) (k : Int) : Fi := { fi86 with lx := [(2, { X := Nat, sh := st_151 l k, P := fun _ => inv_151 l k })] }
theorem vc151 (l : List Ty) (k : Int) (Q : List R → List (List D) → Prop) : vc E_0 C_4e noI (fx_151 l k) (f86.body.getD .skip) f86.results.toList [.d (.sl (l.map Ty.cs)), .d (.v (.int .i64 k))] Q = ( ∃ (x0 : { X := Nat, sh := st_151 l k, P := fun (x : Nat) => inv_151 l k : LX }.X), ({ tm := [((0 : Nat), V.d (D.sl (List.map Ty.cs l))), ((1 : Nat), V.d (D.v (Value.int .i64 k))), ((4 : Nat), V.d (D.v (Value.bool false))), ((5 : Nat), V.d (D.v (Value.int .i64 0)))], hp := [], kn := [], gd := [] : St } = { tm := [((0 : Nat), V.d (D.sl (List.map Ty.cs l))), ((1 : Nat), V.d (D.v (Value.int .i64 k))), ((4 : Nat), V.d (D.v (Value.bool false))), ((5 : Nat), V.d (D.v (Value.int .i64 (↑x0 : Int))))], hp := [], kn := [], gd := [] : St } ∧ ∃ (n : Nat), inv_151 l k n x0) ∧ ∀ (n : Nat) (x : { X := Nat, sh := st_151 l k, P := fun (x : Nat) => inv_151 l k : LX }.X), inv_151 l k n x → ∃ (es : List (List D)), D.sl (List.map Ty.cs l) = D.sl es ∧ (decide ((↑x : Int) < (↑es.length : Int)) = true → ∃ (es : List (List D)), D.sl (List.map Ty.cs l) = D.sl es ∧ ((0 : Int) ≤ (↑x : Int) ∧ (↑x : Int) < (↑es.length : Int)) ∧ ∃ (cells : List D), es[(↑x : Int).toNat]? = some cells ∧ cells.length = (2 : Nat) ∧ ∃ (n_1 : Int), cut ((0 : Nat)) ((1 : Nat)) cells = some [D.v (Value.int .i64 n_1)] ∧ ((n_1 != k) = true → Q [.d (.v (.bool false))] []) ∧ ((n_1 != k) = false → ∃ (m : Nat), ∃ (x' : { X := Nat, sh := st_151 l k, P := fun (x : Nat) => inv_151 l k : LX }.X), m < n ∧ { tm := [((0 : Nat), V.d (D.sl (List.map Ty.cs l))), ((1 : Nat), V.d (D.v (Value.int .i64 k))), ((4 : Nat), V.d (D.v (Value.bool false))), ((5 : Nat), V.d (D.v (Value.int .i64 (IntKind.i64.wrap ((↑x : Int) + (1 : Int))))))], hp := [], kn := [], gd := [] : St } = { tm := [((0 : Nat), V.d (D.sl (List.map Ty.cs l))), ((1 : Nat), V.d (D.v (Value.int .i64 k))), ((4 : Nat), V.d (D.v (Value.bool false))), ((5 : Nat), V.d (D.v (Value.int .i64 (↑x' : Int))))], hp := [], kn := [], gd := [] : St } ∧ inv_151 l k m x')) ∧ (decide ((↑x : Int) < (↑es.length : Int)) = false → Q [.d (.v (.bool true))] [])) := by kernel_rfl
theorem rfold_next {a : Ty} {l : List Ty} {x : Nat} (hi : x < l.length) : rfold a (l.take (x + 1)) = rstep a (rfold a (l.take x)) l[x] := by
  unfold rfold
  rw [take_succ_get l hi, List.foldl_append]
  rfl
def comR (a : Ty) (r : List Ty) : Ty × Bool := bif (rfold a (a :: r)).s then (a, true) else (⟨3, (rfold a (a :: r)).c⟩, (rfold a (a :: r)).n)
theorem ct96 (a : Ty) (r : List Ty) (hl : r.length < 4611686018427387904) : Ct prog gl 34 [.d (.sl ((a :: r).map Ty.cs))] (gives [.agg (comR a r).1.cs, .d (.v (.bool (comR a r).2))]) := by
  refine ct_of_vc E_ok C_4e_ok ioK_no it_ok mixed (fn := f34) (body := f34.body.getD .skip) (by kernel_rfl) (by kernel_rfl) (by kernel_rfl) (fi := fx_96 a r) (by kernel_rfl) (by kernel_rfl) ⟨_, _, rfl, rfl⟩ ?_
  rw [vc96]
  refine ⟨(0 : Nat), ⟨by simp only [List.take_zero, rfold, List.foldl_nil]; rfl, (a :: r).length, Nat.zero_le _, rfl⟩, fun m (x : Nat) hx => ⟨_, rfl, fun hi => ?_, fun hi => ?_⟩⟩
  · have hi : x < (a :: r).length := by have h := of_decide_eq_true hi; rw [List.length_cons, List.length_map] at h; rw [List.length_cons]; omega
    have hg := ty_get hi
    have hm := hx.2
    have hlen : (a :: r).length = r.length + 1 := rfl
    have hb : (0 : Int) ≤ (x : Int) ∧ (x : Int) < ((((a :: r).map Ty.cs).length : Nat) : Int) := by rw [List.length_map]; omega
    have h0 : (0 : Int) ≤ 0 ∧ (0 : Int) < ((((a :: r).map Ty.cs).length : Nat) : Int) := by rw [List.length_map]; omega
    have e0 := rfold_next (a := a) hi
    generalize hu : (a :: r)[x] = u at hg e0
    refine ⟨fun s1 => ⟨_, rfl, hb, _, hg, rfl, u.k, u.sc, rfl, _, rfl, h0, Ty.cs a, rfl, rfl, a.k, a.sc, rfl, fun s2 => ⟨_, rfl, hb, _, hg, rfl, u.k, u.sc, rfl, _, rfl, hb, _, hg, rfl, u.sc, rfl, (a :: r).length - (x + 1), x + 1, by omega, ?_, hi, rfl⟩, fun s2 => ⟨_, rfl, hb, _, hg, rfl, u.sc, rfl, (a :: r).length - (x + 1), x + 1, by omega, ?_, hi, rfl⟩⟩, fun s1 => ⟨fun s2 => ⟨_, rfl, hb, _, hg, rfl, u.k, u.sc, rfl, _, rfl, hb, _, hg, rfl, u.sc, rfl, (a :: r).length - (x + 1), x + 1, by omega, ?_, hi, rfl⟩, fun s2 => ⟨_, rfl, hb, _, hg, rfl, u.sc, rfl, (a :: r).length - (x + 1), x + 1, by omega, ?_, hi, rfl⟩⟩⟩
    all_goals
      (first | (have s1 : (rfold a ((a :: r).take x)).s = true := s1) | (have s1 : (rfold a ((a :: r).take x)).s = false := s1))
      (first | (have s2 : (rfold a ((a :: r).take x)).n = true := s2) | (have s2 : (rfold a ((a :: r).take x)).n = false := s2))
      rw [wrap_next (by omega), e0]
      simp only [rstep, s1, s2, cond_true, cond_false]
      try rfl
  · have hi : ¬ x < (a :: r).length := by have h := of_decide_eq_false hi; rw [List.length_cons, List.length_map] at h; rw [List.length_cons]; omega
    rw [List.take_of_length_le (by omega)]
    refine ⟨fun s1 => ⟨_, rfl, ⟨by decide, by simp only [List.length_cons]; omega⟩, Ty.cs a, rfl, rfl, a.k, a.sc, rfl, ?_⟩, fun s1 => ?_⟩
    · have s1 : (rfold a (a :: r)).s = true := s1
      unfold comR; rw [s1]; exact ⟨rfl, rfl⟩
    · have s1 : (rfold a (a :: r)).s = false := s1
      unfold comR; rw [s1]; exact ⟨rfl, rfl⟩
/-- The two agree where there is a type. -/
def agree (p q : Ty × Bool) : Prop := q.2 = p.2 ∧ (p.2 = true → q.1 = p.1)
theorem agree_refl (p : Ty × Bool) : agree p p := ⟨rfl, fun _ => rfl⟩
def comInv (a : Ty) (p : Ty × Bool) (x : CX) : Prop := (x.s = true → p = (a, true) ∧ x.n = s130_0 a.k a.sc ∧ x.c = a.sc) ∧ (x.s = false → p.2 = x.n ∧ (x.n = true → p.1 = ⟨3, x.c⟩))
theorem com_step (a : Ty) (p : Ty × Bool) (x : CX) (u : Ty) (h : comInv a p x) : comInv a (cstep p u) (rstep a x u) := by
  obtain ⟨t, ok⟩ := p
  obtain ⟨s, n, c⟩ := x
  obtain ⟨h1, h2⟩ := h
  dsimp only at h1 h2
  cases s with
  | true =>
    obtain ⟨e1, e2, e3⟩ := h1 rfl
    injection e1 with e1 e4
    subst e1; subst e4; subst e2; subst e3
    by_cases hu : u = t
    · subst hu
      have q : (u.k == u.k && (u.sc == u.sc && true)) = true := by simp
      unfold cstep rstep
      rw [q]
      refine ⟨fun _ => ⟨rfl, ?_, ?_⟩, fun h => (by cases h)⟩
      · show (bif s130_0 u.k u.sc then s179_0 u.k u.sc else false) = s130_0 u.k u.sc
        cases h : s130_0 u.k u.sc with
        | true => exact h
        | false => rfl
      · show (if u.sc > u.sc then u.sc else u.sc) = u.sc
        split <;> rfl
    · have q : (u.k == t.k && (u.sc == t.sc && true)) = false := by
        rw [Bool.eq_false_iff]; intro h
        simp only [Bool.and_true, Bool.and_eq_true, beq_iff_eq] at h
        exact hu (by obtain ⟨_, _⟩ := u; obtain ⟨_, _⟩ := t; simp_all)
      unfold cstep rstep
      dsimp only
      rw [q]
      have hs : ∀ k sc, s179_0 k sc = s130_0 k sc := fun _ _ => rfl
      rw [hs]
      cases h3 : s130_0 u.k u.sc <;> cases h4 : s130_0 t.k t.sc <;> simp only [cond_true, cond_false]
      · exact ⟨fun h => (by cases h), fun _ => ⟨rfl, fun h => (by cases h)⟩⟩
      · exact ⟨fun h => (by cases h), fun _ => ⟨rfl, fun h => (by cases h)⟩⟩
      · exact ⟨fun h => (by cases h), fun _ => ⟨rfl, fun h => (by cases h)⟩⟩
      · exact ⟨fun h => (by cases h), fun _ => ⟨rfl, fun _ => rfl⟩⟩
  | false =>
    obtain ⟨e1, e2⟩ := h2 rfl
    subst e1
    refine ⟨fun h => (by unfold rstep at h; cases h), fun _ => ?_⟩
    have hs : ∀ k sc, s179_0 k sc = s130_0 k sc := fun _ _ => rfl
    cases ok with
    | false =>
      have : (cstep (t, false) u).2 = false := by
        unfold cstep; dsimp only
        cases (u.k == t.k && (u.sc == t.sc && true)) <;> cases (bif s130_0 u.k u.sc then s130_0 t.k t.sc else false) <;> rfl
      rw [this]
      exact ⟨rfl, fun h => (by cases h)⟩
    | true =>
      have e2 := e2 rfl
      subst e2
      unfold cstep rstep
      dsimp only
      rw [hs, show s130_0 3 c = true from rfl]
      by_cases hu : u = ⟨3, c⟩
      · subst hu
        have q : ((3 : Int) == 3 && (c == c && true)) = true := by simp
        rw [q]
        refine ⟨rfl, fun _ => ?_⟩
        show (⟨3, c⟩ : Ty) = ⟨3, if c > c then c else c⟩
        split <;> rfl
      · have q : (u.k == 3 && (u.sc == c && true)) = false := by
          rw [Bool.eq_false_iff]; intro h
          simp only [Bool.and_true, Bool.and_eq_true, beq_iff_eq] at h
          exact hu (by obtain ⟨_, _⟩ := u; simp_all)
        rw [q]
        cases h3 : s130_0 u.k u.sc <;> simp only [cond_true, cond_false]
        · exact ⟨by first | rfl | trivial, fun h => (by cases h)⟩
        · exact ⟨by first | rfl | trivial, fun _ => by first | rfl | trivial⟩
theorem com_inv (a : Ty) (ha : 0 ≤ a.sc) (r : List Ty) : comInv a (cfold a r) (rfold a (a :: r)) := by
  have key : ∀ (r : List Ty) (p : Ty × Bool) (x : CX), comInv a p x → comInv a (r.foldl cstep p) (r.foldl (rstep a) x) := by
    intro r
    induction r with
    | nil => intro p x h; exact h
    | cons u r ih => intro p x h; exact ih _ _ (com_step a p x u h)
  refine key r (a, true) (rstep a ⟨true, true, 0⟩ a) ⟨fun _ => ⟨rfl, rfl, ?_⟩, fun h => ?_⟩
  · show (if a.sc > 0 then a.sc else 0) = a.sc
    split <;> omega
  · exfalso
    revert h
    show (a.k == a.k && (a.sc == a.sc && true)) = false → False
    simp
theorem com_agree (a : Ty) (ha : 0 ≤ a.sc) (r : List Ty) : agree (cfold a r) (comR a r) := by
  have h := com_inv a ha r
  unfold comR
  rcases hs : (rfold a (a :: r)).s with _ | _
  · obtain ⟨h1, h2⟩ := h.2 hs
    exact ⟨h1.symm, fun h3 => (h2 (h1 ▸ h3)).symm⟩
  · obtain ⟨h1, _⟩ := h.1 hs
    rw [h1]; exact ⟨rfl, fun _ => rfl⟩
theorem ct151 (l : List Ty) (k : Int) (hl : l.length < 4611686018427387904) : Ct prog gl 86 [.d (.sl (l.map Ty.cs)), .d (.v (.int .i64 k))] (gives [.d (.v (.bool (!l.any (offK k))))]) := by
  refine ct_of_vc E_ok C_4e_ok ioK_no it_ok mixed (fn := f86) (body := f86.body.getD .skip) (by kernel_rfl) (by kernel_rfl) (by kernel_rfl) (fi := fx_151 l k) (by kernel_rfl) (by kernel_rfl) ⟨_, _, rfl, rfl⟩ ?_
  rw [vc151]
  refine ⟨(0 : Nat), ⟨rfl, l.length, Nat.zero_le _, rfl, by simp⟩, fun m (x : Nat) hx => ⟨_, rfl, fun hi => ?_, fun hi => ?_⟩⟩
  · have hi : x < l.length := by simpa using hi
    have hg := ty_get hi
    have hm := hx.2.1
    refine ⟨_, rfl, ⟨by omega, by rw [List.length_map]; omega⟩, _, hg, rfl, l[x].k, rfl, fun hk => ?_, fun hk => ⟨l.length - (x + 1), x + 1, by omega, ?_, hi, rfl, ?_⟩⟩
    · have : l.any (offK k) = true := List.any_eq_true.2 ⟨l[x], List.getElem_mem hi, hk⟩
      rw [this]; exact ⟨rfl, rfl⟩
    · rw [wrap_next (by omega)]
    · rw [take_succ_get l hi, List.any_append, hx.2.2]
      simpa [offK] using hk
  · have hi : ¬ x < l.length := by simpa using hi
    have h2 := hx.2.2
    rw [List.take_of_length_le (by omega)] at h2
    rw [h2]; exact ⟨rfl, rfl⟩
theorem resN_next (op : Int) (n x : Nat) : resN op n (x + 1) = resN op n x ++ (if (op == 15 || x % 2 == 1 || x == n - 1) = true then [x] else []) := by
  unfold resN
  rw [List.range_succ, List.filter_append]
  simp only [List.filter_cons, List.filter_nil]
theorem ct224 (op : Int) (n : Nat) (hn : n ≤ 1353245080300) : Ct prog gl 125 [.d (.v (.int .i64 op)), .d (.v (.int .i64 (n : Int)))] (gives [.d (.sl (encW (resN op n n)))]) := by
  refine ct_of_vc E_ok C_4e_ok ioK_no it_ok mixed (fn := f125) (body := f125.body.getD .skip) (by kernel_rfl) (by kernel_rfl) (by kernel_rfl) (fi := fx_224 op n) (by kernel_rfl) (by kernel_rfl) ⟨_, _, rfl, rfl⟩ ?_
  rw [vc224]
  refine ⟨(0 : Nat), ⟨rfl, n, Nat.zero_le _, rfl⟩, fun m (x : Nat) hx => ⟨fun hi => ?_, fun hi => ?_⟩⟩
  · have hi : x < n := by simpa using hi
    have hm := hx.2
    have hc : (bif bif op == 15 then true else ((x : Nat) : Int).tmod 2 == 1 then true else ((x : Nat) : Int) == IntKind.i64.wrap ((n : Int) - 1)) = (op == 15 || x % 2 == 1 || x == n - 1) := by
      rw [wrap64_of (by omega) (by omega)]
      have e1 : (((x : Nat) : Int).tmod 2 == 1) = (x % 2 == 1) := by
        rw [Int.tmod_eq_emod_of_nonneg (by omega)]
        rw [Bool.eq_iff_iff]; simp only [beq_iff_eq]; omega
      have e2 : (((x : Nat) : Int) == (n : Int) - 1) = (x == n - 1) := by
        rw [Bool.eq_iff_iff]; simp only [beq_iff_eq]; omega
      rw [e1, e2]
      cases op == 15 <;> cases x % 2 == 1 <;> rfl
    rw [hc]
    have hlen : (resN op n x).length ≤ x := by
      unfold resN
      have := List.length_filter_le (fun i => op == 15 || i % 2 == 1 || i == n - 1) (List.range x)
      rw [List.length_range] at this; exact this
    refine ⟨by decide, fun h => ⟨by simp, rfl, rfl, ?_, n - (x + 1), x + 1, by omega, ?_, hi, rfl⟩, fun h => ⟨n - (x + 1), x + 1, by omega, ?_, hi, rfl⟩⟩
    · rw [List.length_map]; simp only [Nat.succ_eq_add_one]; omega
    · rw [wrap_next (by omega), resN_next, if_pos h, List.map_append]; rfl
    · rw [wrap_next (by omega), resN_next, if_neg (by rw [h]; decide), List.append_nil]
  · have hi : ¬ x < n := by simpa using hi
    have hx1 := hx.1
    rw [show x = n by omega]
    exact ⟨rfl, rfl⟩
theorem vc154 (op : Int) (l : List Ty) (Q : List R → List (List D) → Prop) : vc E_0 C_4e noI fi89 (f89.body.getD .skip) f89.results.toList [.d (.v (.int .i64 op)), .d (.sl (l.map Ty.cs))] Q = ( ∃ (es : List (List D)), D.sl (List.map Ty.cs l) = D.sl es ∧ ((0 : Int) ≤ (0 : Int) ∧ (0 : Int) < (↑es.length : Int)) ∧ ∃ (cells : List D), es[Int.toNat (0 : Int)]? = some cells ∧ cells.length = (2 : Nat) ∧ ∃ (n : Int), ∃ (n_1 : Int), cut ((0 : Nat)) ((2 : Nat)) cells = some [D.v (Value.int .i64 n), D.v (Value.int .i64 n_1)] ∧ ∃ (es : List (List D)), D.sl (List.map Ty.cs l) = D.sl es ∧ ∃ (es_1 : List (List D)), D.sl (List.map Ty.cs l) = D.sl es_1 ∧ ((0 : Int) ≤ IntKind.i64.wrap ((↑es.length : Int) - (1 : Int)) ∧ IntKind.i64.wrap ((↑es.length : Int) - (1 : Int)) < (↑es_1.length : Int)) ∧ ∃ (cells : List D), es_1[(IntKind.i64.wrap ((↑es.length : Int) - (1 : Int))).toNat]? = some cells ∧ cells.length = (2 : Nat) ∧ ∃ (n_2 : Int), ∃ (n_3 : Int), cut ((0 : Nat)) ((2 : Nat)) cells = some [D.v (Value.int .i64 n_2), D.v (Value.int .i64 n_3)] ∧ ((op == (6 : Int)) = true → Q [.agg [.v (.int .i64 2), .v (.int .i64 0)], .d (.v (.bool (bif n == (2 : Int) then n_2 == (2 : Int) else false)))] []) ∧ ((op == (6 : Int)) = false → ((op == (7 : Int)) = true → Q [.agg [.v (.int .i64 2), .v (.int .i64 0)], .d (.v (.bool (bif n == (2 : Int) then n_2 == (2 : Int) else false)))] []) ∧ ((op == (7 : Int)) = false → ((op == (8 : Int)) = true → Q [.agg [.v (.int .i64 n), .v (.int .i64 n_1)], .d (.v (.bool (bif s179_0 n n_1 then s179_0 n_2 n_3 else false)))] []) ∧ ((op == (8 : Int)) = false → ((op == (5 : Int)) = true → ((bif n == (2 : Int) then n_2 == (2 : Int) else false) = true → Q [.agg [.v (.int .i64 2), .v (.int .i64 0)], .d (.v (.bool true))] []) ∧ ((bif n == (2 : Int) then n_2 == (2 : Int) else false) = false → Q [.agg [.v (.int .i64 3), .v (.int .i64 (IntKind.i64.wrap (n_1 + n_3)))], .d (.v (.bool (bif bif s179_0 n n_1 then s179_0 n_2 n_3 else false then decide (IntKind.i64.wrap (n_1 + n_3) ≤ (18 : Int)) else false)))] [])) ∧ ((op == (5 : Int)) = false → ((bif n == (2 : Int) then n_2 == (2 : Int) else false) = true → Q [.agg [.v (.int .i64 2), .v (.int .i64 0)], .d (.v (.bool true))] []) ∧ ((bif n == (2 : Int) then n_2 == (2 : Int) else false) = false → ((bif s179_0 n n_1 then s179_0 n_2 n_3 else false) = true → Q [.agg [.v (.int .i64 3), .v (.int .i64 (if n_3 > n_1 then n_3 else n_1))], .d (.v (.bool true))] []) ∧ ((bif s179_0 n n_1 then s179_0 n_2 n_3 else false) = false → ((bif bif n == (5 : Int) then n_2 == (5 : Int) else false then op == (4 : Int) else false) = true → Q [.agg [.v (.int .i64 2), .v (.int .i64 0)], .d (.v (.bool true))] []) ∧ ((bif bif n == (5 : Int) then n_2 == (5 : Int) else false then op == (4 : Int) else false) = false → Q [.agg [.v (.int .i64 5), .v (.int .i64 0)], .d (.v (.bool (bif bif n == (5 : Int) then n_2 == (2 : Int) else false then true else bif bif op == (3 : Int) then n == (2 : Int) else false then n_2 == (5 : Int) else false)))] [])))))))) := by kernel_rfl
def arithR (op : Int) (x y : Ty) : Ty × Bool :=
  bif op == 6 then (⟨2, 0⟩, bif x.k == 2 then y.k == 2 else false)
  else bif op == 7 then (⟨2, 0⟩, bif x.k == 2 then y.k == 2 else false)
  else bif op == 8 then (x, bif s179_0 x.k x.sc then s179_0 y.k y.sc else false)
  else bif op == 5 then (bif (bif x.k == 2 then y.k == 2 else false) then (⟨2, 0⟩, true) else (⟨3, IntKind.i64.wrap (x.sc + y.sc)⟩, bif (bif s179_0 x.k x.sc then s179_0 y.k y.sc else false) then decide (IntKind.i64.wrap (x.sc + y.sc) ≤ 18) else false))
  else bif (bif x.k == 2 then y.k == 2 else false) then (⟨2, 0⟩, true)
  else bif (bif s179_0 x.k x.sc then s179_0 y.k y.sc else false) then (⟨3, if y.sc > x.sc then y.sc else x.sc⟩, true)
  else bif (bif (bif x.k == 5 then y.k == 5 else false) then op == 4 else false) then (⟨2, 0⟩, true)
  else (⟨5, 0⟩, bif (bif x.k == 5 then y.k == 2 else false) then true else bif (bif op == 3 then x.k == 2 else false) then y.k == 5 else false)
theorem ct154 (op : Int) (l : List Ty) (x y : Ty) (hx : l[0]? = some x) (hy : l[l.length - 1]? = some y) (hl : l.length ≤ 1353245080300) : Ct prog gl 89 [.d (.v (.int .i64 op)), .d (.sl (l.map Ty.cs))] (gives [.agg (arithR op x y).1.cs, .d (.v (.bool (arithR op x y).2))]) := by
  refine ct_of_vc E_ok C_4e_ok ioK_no it_ok mixed (fn := f89) (body := f89.body.getD .skip) (by kernel_rfl) (by kernel_rfl) (by kernel_rfl) (fi := fi89) (by kernel_rfl) (by kernel_rfl) ⟨_, _, rfl, rfl⟩ ?_
  rw [vc154]
  have h0 := (List.getElem?_eq_some_iff.1 hx).1
  have w : IntKind.i64.wrap (((List.map Ty.cs l).length : Int) - 1) = ((l.length - 1 : Nat) : Int) := by rw [List.length_map, wrap_i64_of (by omega) (by omega)]; omega
  have g0 : (l.map Ty.cs)[Int.toNat 0]? = some (Ty.cs x) := by
    show (l.map Ty.cs)[0]? = _
    rw [List.getElem?_map, hx]; rfl
  have g1 : (l.map Ty.cs)[(IntKind.i64.wrap (((List.map Ty.cs l).length : Int) - 1)).toNat]? = some (Ty.cs y) := by
    rw [w, Int.toNat_natCast, List.getElem?_map, hy]; rfl
  have fin : ∀ (a a' : Int) (c : Bool), arithR op x y = (⟨a, a'⟩, c) → gives [.agg (arithR op x y).1.cs, .d (.v (.bool (arithR op x y).2))] [R.agg [D.v (Value.int IntKind.i64 a), D.v (Value.int IntKind.i64 a')], R.d (D.v (Value.bool c))] [] := fun a a' c h => by rw [h]; exact ⟨rfl, rfl⟩
  refine ⟨_, rfl, ⟨by decide, by rw [List.length_map]; omega⟩, _, g0, rfl, x.k, x.sc, rfl, _, rfl, _, rfl, ⟨by rw [w]; omega, by rw [w, List.length_map]; omega⟩, _, g1, rfl, y.k, y.sc, rfl, ?_⟩
  repeat' first | (refine And.intro (fun h => ?_) (fun h => ?_)) | fail
  all_goals (refine fin _ _ _ ?_; clear fin; first | (simp only [arithR, *, cond_true, cond_false]; done) | (simp_all only [arithR, cond_true, cond_false]; done))
end Go.Proofs.Tryz
namespace Go.Proofs.Tryz
open Go Go.Dm Go.Ex
set_option maxRecDepth 100000
variable {gl : Nat → Option Obj}
def c_96 (a : List R) (K : List R → List (List D) → Prop) : Prop := match a with
  | [.d (.sl x)] => ∃ (a : Ty) (r : List Ty), x = (a :: r).map Ty.cs ∧ r.length < 4611686018427387904 ∧ K [.agg (comR a r).1.cs, .d (.v (.bool (comR a r).2))] []
  | _ => False
theorem c_96_ok (a : List R) (K : List R → List (List D) → Prop) (h : c_96 a K) : Ct prog gl 34 a K := by
  unfold c_96 at h
  split at h
  · obtain ⟨a, r, rfl, h1, h2⟩ := h
    exact (ct96 a r h1).gives h2
  · exact h.elim
def c_224 (a : List R) (K : List R → List (List D) → Prop) : Prop := match a with
  | [.d (.v (.int .i64 op)), .d (.v (.int .i64 n))] => ∃ m : Nat, n = (m : Int) ∧ m ≤ 1353245080300 ∧ K [.d (.sl (encW (resN op m m)))] []
  | _ => False
theorem c_224_ok (a : List R) (K : List R → List (List D) → Prop) (h : c_224 a K) : Ct prog gl 125 a K := by
  unfold c_224 at h
  split at h
  · obtain ⟨m, rfl, h1, h2⟩ := h
    exact (ct224 _ m h1).gives h2
  · exact h.elim
def c_151 (a : List R) (K : List R → List (List D) → Prop) : Prop := match a with
  | [.d (.sl x), .d (.v (.int .i64 k))] => ∃ l : List Ty, x = l.map Ty.cs ∧ l.length < 4611686018427387904 ∧ K [.d (.v (.bool (!l.any (offK k))))] []
  | _ => False
theorem c_151_ok (a : List R) (K : List R → List (List D) → Prop) (h : c_151 a K) : Ct prog gl 86 a K := by
  unfold c_151 at h
  split at h
  · obtain ⟨l, rfl, h1, h2⟩ := h
    exact (ct151 l _ h1).gives h2
  · exact h.elim
def c_154 (a : List R) (K : List R → List (List D) → Prop) : Prop := match a with
  | [.d (.v (.int .i64 op)), .d (.sl y)] => ∃ (l : List Ty) (u w : Ty), y = l.map Ty.cs ∧ l[0]? = some u ∧ l[l.length - 1]? = some w ∧ l.length ≤ 1353245080300 ∧ K [.agg (arithR op u w).1.cs, .d (.v (.bool (arithR op u w).2))] []
  | _ => False
theorem c_154_ok (a : List R) (K : List R → List (List D) → Prop) (h : c_154 a K) : Ct prog gl 89 a K := by
  unfold c_154 at h
  split at h
  · obtain ⟨l, u, w, rfl, h1, h2, h3, h4⟩ := h
    exact (ct154 _ l u w h1 h2 h3).gives h4
  · exact h.elim
def selT (l : List Ty) (is : List Nat) : List Ty := is.map fun i => l.getD i ⟨0, 0⟩
def okK (l : List Ty) (j : Nat) : Bool := (List.range j).all fun k => (l.getD (2 * k) ⟨0, 0⟩).k == 1
def C_152 : CallT := addC (addC C_4e 34 c_96) 125 c_224
def st_152 (op sub : Int) (t : Ty) (v : Go.Ex.AV) (args : List EX) (l : List Ty) (x : Nat) : St := { tm := [(1, .d (.sl (l.map Ty.cs))), (2, .ref 2 0), (4, .ref 4 0), (5, .d (.v (.bool false))), (6, .d (.sl (encW (resN op l.length l.length)))), (7, .own 50007), (8, .d (.v (.int .i64 (x : Int))))], hp := [(2, .box [.d (.v (.int .i64 op)), .d (.v (.int .i64 sub)), .d (.v (.int .i64 t.k)), .d (.v (.int .i64 t.sc)), .d (.v (.int .i64 v.t.k)), .d (.v (.int .i64 v.t.sc)), .d (.v (.bool v.nul)), .d (.v (.int .i64 v.n)), .d (.v (.string v.s)), .d (.sl (cellsL args))]), (4, .box [.d (.v (.int .i64 0)), .d (.v (.int .i64 0))]), (50007, .lst 31 2 ((selT l ((resN op l.length l.length).take x)).map Ty.cs))], kn := [], gd := [] }
def inv_152 (op : Int) (l : List Ty) (m : Nat) (x : Nat) : Prop := x ≤ (resN op l.length l.length).length ∧ m = (resN op l.length l.length).length - x
structure RY where
  t : Ty
  ok : Bool
  j : Nat
def st_152b (op sub : Int) (t : Ty) (v : Go.Ex.AV) (args : List EX) (l : List Ty) (y : RY) : St := { tm := [(1, .d (.sl (l.map Ty.cs))), (2, .ref 2 0), (4, .ref 4 0), (5, .d (.v (.bool false))), (9, .ref 9 0), (10, .d (.v (.bool (bif y.ok then okK l y.j else false)))), (11, .d (.v (.int .i64 (2 * (y.j : Int)))))], hp := [(2, .box [.d (.v (.int .i64 op)), .d (.v (.int .i64 sub)), .d (.v (.int .i64 t.k)), .d (.v (.int .i64 t.sc)), .d (.v (.int .i64 v.t.k)), .d (.v (.int .i64 v.t.sc)), .d (.v (.bool v.nul)), .d (.v (.int .i64 v.n)), .d (.v (.string v.s)), .d (.sl (cellsL args))]), (4, .box [.d (.v (.int .i64 0)), .d (.v (.int .i64 0))]), (9, .box [.d (.v (.int .i64 y.t.k)), .d (.v (.int .i64 y.t.sc))])], kn := [], gd := [] }
def inv_152b (op : Int) (l : List Ty) (y0 : RY) (m : Nat) (y : RY) : Prop := y.t = y0.t ∧ y.ok = y0.ok ∧ y.j ≤ l.length / 2 ∧ m = l.length - y.j ∧ (op = 14 ∨ y.j = 0)
def fx_152 (op sub : Int) (t : Ty) (v : Go.Ex.AV) (args : List EX) (l : List Ty) : Fi := { fi87 with lp := [(4, ([1, 2, 4, 5, 6, 7, 8], [31, 32])), (9, ([1, 2, 4, 5, 9, 10, 11], [50007]))], cv := [(4, [⟨none, 7, 50007, 31, 2⟩])], lx := [(4, { X := Nat, sh := st_152 op sub t v args l, P := fun _ => inv_152 op l }), (9, { X := RY, sh := st_152b op sub t v args l, P := inv_152b op l })] }
theorem vc152 (op sub : Int) (t : Ty) (v : Go.Ex.AV) (args : List EX) (l : List Ty) (Q : List R → List (List D) → Prop) : vc E_0 C_152 noI (fx_152 op sub t v args l) (f87.body.getD .skip) f87.results.toList [.agg (encX op sub t v (cellsL args)), .d (.sl (l.map Ty.cs))] Q = ( ∃ (es : List (List D)), D.sl (List.map Ty.cs l) = D.sl es ∧ ∃ (m : Nat), (↑es.length : Int) = (↑m : Int) ∧ m ≤ (1353245080300 : Nat) ∧ ∃ (x0 : { X := Nat, sh := st_152 op sub t v args l, P := fun (x : Nat) => inv_152 op l : LX }.X), ({ tm := [((1 : Nat), V.d (D.sl (List.map Ty.cs l))), ((2 : Nat), V.ref ((2 : Nat)) ((0 : Nat))), ((4 : Nat), V.ref ((4 : Nat)) ((0 : Nat))), ((5 : Nat), V.d (D.v (Value.bool false))), ((6 : Nat), V.d (D.sl (List.map (fun (i : Nat) => [D.v (Value.int .i64 (↑i : Int))]) (resN op m m)))), ((7 : Nat), V.own ((50007 : Nat))), ((8 : Nat), V.d (D.v (Value.int .i64 0)))], hp := [((2 : Nat), B.box [V.d (D.v (Value.int .i64 op)), V.d (D.v (Value.int .i64 sub)), V.d (D.v (Value.int .i64 t.1)), V.d (D.v (Value.int .i64 t.2)), V.d (D.v (Value.int .i64 v.1.1)), V.d (D.v (Value.int .i64 v.1.2)), V.d (D.v (Value.bool v.2)), V.d (D.v (Value.int .i64 v.3)), V.d (D.v (Value.string v.4)), V.d (D.sl (cellsL args))]), ((4 : Nat), B.box [V.d (D.v (Value.int .i64 0)), V.d (D.v (Value.int .i64 0))]), ((50007 : Nat), B.lst ((31 : Nat)) ((2 : Nat)) [])], kn := [], gd := [] : St } = { tm := [((1 : Nat), V.d (D.sl (List.map Ty.cs l))), ((2 : Nat), V.ref ((2 : Nat)) ((0 : Nat))), ((4 : Nat), V.ref ((4 : Nat)) ((0 : Nat))), ((5 : Nat), V.d (D.v (Value.bool false))), ((6 : Nat), V.d (D.sl (List.map (fun (i : Nat) => [D.v (Value.int .i64 (↑i : Int))]) (resN op l.length l.length)))), ((7 : Nat), V.own ((50007 : Nat))), ((8 : Nat), V.d (D.v (Value.int .i64 (↑x0 : Int))))], hp := [((2 : Nat), B.box [V.d (D.v (Value.int .i64 op)), V.d (D.v (Value.int .i64 sub)), V.d (D.v (Value.int .i64 t.1)), V.d (D.v (Value.int .i64 t.2)), V.d (D.v (Value.int .i64 v.1.1)), V.d (D.v (Value.int .i64 v.1.2)), V.d (D.v (Value.bool v.2)), V.d (D.v (Value.int .i64 v.3)), V.d (D.v (Value.string v.4)), V.d (D.sl (cellsL args))]), ((4 : Nat), B.box [V.d (D.v (Value.int .i64 0)), V.d (D.v (Value.int .i64 0))]), ((50007 : Nat), B.lst ((31 : Nat)) ((2 : Nat)) (List.map Ty.cs (selT l (List.take x0 (resN op l.length l.length)))))], kn := [], gd := [] : St } ∧ ∃ (n : Nat), inv_152 op l n x0) ∧ ∀ (n : Nat) (x : { X := Nat, sh := st_152 op sub t v args l, P := fun (x : Nat) => inv_152 op l : LX }.X), inv_152 op l n x → ∃ (es : List (List D)), D.sl (List.map (fun (i : Nat) => [D.v (Value.int .i64 (↑i : Int))]) (resN op l.length l.length)) = D.sl es ∧ (decide ((↑x : Int) < (↑es.length : Int)) = true → ∃ (es : List (List D)), D.sl (List.map (fun (i : Nat) => [D.v (Value.int .i64 (↑i : Int))]) (resN op l.length l.length)) = D.sl es ∧ ((0 : Int) ≤ (↑x : Int) ∧ (↑x : Int) < (↑es.length : Int)) ∧ ∃ (cells : List D), es[(↑x : Int).toNat]? = some cells ∧ cells.length = (1 : Nat) ∧ ∃ (n_1 : Int), cut ((0 : Nat)) ((1 : Nat)) cells = some [D.v (Value.int .i64 n_1)] ∧ ∃ (es : List (List D)), D.sl (List.map Ty.cs l) = D.sl es ∧ ((0 : Int) ≤ n_1 ∧ n_1 < (↑es.length : Int)) ∧ ∃ (cells : List D), es[n_1.toNat]? = some cells ∧ cells.length = (2 : Nat) ∧ ∃ (n_2 : Int), ∃ (n_3 : Int), cut ((0 : Nat)) ((2 : Nat)) cells = some [D.v (Value.int .i64 n_2), D.v (Value.int .i64 n_3)] ∧ (∀ (c : List D), c ∈ [[D.v (Value.int .i64 n_2), D.v (Value.int .i64 n_3)]] → c.length = (2 : Nat)) ∧ (31 : Nat) = (31 : Nat) ∧ (2 : Nat) = (2 : Nat) ∧ (↑(List.map Ty.cs (selT l (List.take x (resN op l.length l.length)))).length.succ : Int) * (↑((16 : Nat)) : Int) ≤ (140737488355328 : Int) ∧ ∃ (m : Nat), ∃ (x' : { X := Nat, sh := st_152 op sub t v args l, P := fun (x : Nat) => inv_152 op l : LX }.X), m < n ∧ { tm := [((1 : Nat), V.d (D.sl (List.map Ty.cs l))), ((2 : Nat), V.ref ((2 : Nat)) ((0 : Nat))), ((4 : Nat), V.ref ((4 : Nat)) ((0 : Nat))), ((5 : Nat), V.d (D.v (Value.bool false))), ((6 : Nat), V.d (D.sl (List.map (fun (i : Nat) => [D.v (Value.int .i64 (↑i : Int))]) (resN op l.length l.length)))), ((7 : Nat), V.own ((50007 : Nat))), ((8 : Nat), V.d (D.v (Value.int .i64 (IntKind.i64.wrap ((↑x : Int) + (1 : Int))))))], hp := [((2 : Nat), B.box [V.d (D.v (Value.int .i64 op)), V.d (D.v (Value.int .i64 sub)), V.d (D.v (Value.int .i64 t.1)), V.d (D.v (Value.int .i64 t.2)), V.d (D.v (Value.int .i64 v.1.1)), V.d (D.v (Value.int .i64 v.1.2)), V.d (D.v (Value.bool v.2)), V.d (D.v (Value.int .i64 v.3)), V.d (D.v (Value.string v.4)), V.d (D.sl (cellsL args))]), ((4 : Nat), B.box [V.d (D.v (Value.int .i64 0)), V.d (D.v (Value.int .i64 0))]), ((50007 : Nat), B.lst ((31 : Nat)) ((2 : Nat)) (List.map Ty.cs (selT l (List.take x (resN op l.length l.length))) ++ [[D.v (Value.int .i64 n_2), D.v (Value.int .i64 n_3)]]))], kn := [], gd := [] : St } = { tm := [((1 : Nat), V.d (D.sl (List.map Ty.cs l))), ((2 : Nat), V.ref ((2 : Nat)) ((0 : Nat))), ((4 : Nat), V.ref ((4 : Nat)) ((0 : Nat))), ((5 : Nat), V.d (D.v (Value.bool false))), ((6 : Nat), V.d (D.sl (List.map (fun (i : Nat) => [D.v (Value.int .i64 (↑i : Int))]) (resN op l.length l.length)))), ((7 : Nat), V.own ((50007 : Nat))), ((8 : Nat), V.d (D.v (Value.int .i64 (↑x' : Int))))], hp := [((2 : Nat), B.box [V.d (D.v (Value.int .i64 op)), V.d (D.v (Value.int .i64 sub)), V.d (D.v (Value.int .i64 t.1)), V.d (D.v (Value.int .i64 t.2)), V.d (D.v (Value.int .i64 v.1.1)), V.d (D.v (Value.int .i64 v.1.2)), V.d (D.v (Value.bool v.2)), V.d (D.v (Value.int .i64 v.3)), V.d (D.v (Value.string v.4)), V.d (D.sl (cellsL args))]), ((4 : Nat), B.box [V.d (D.v (Value.int .i64 0)), V.d (D.v (Value.int .i64 0))]), ((50007 : Nat), B.lst ((31 : Nat)) ((2 : Nat)) (List.map Ty.cs (selT l (List.take x' (resN op l.length l.length)))))], kn := [], gd := [] : St } ∧ inv_152 op l m x') ∧ (decide ((↑x : Int) < (↑es.length : Int)) = false → ∃ (a : Ty), ∃ (r : List Ty), List.map Ty.cs (selT l (List.take x (resN op l.length l.length))) = a.cs :: List.map Ty.cs r ∧ r.length < (4611686018427387904 : Nat) ∧ ∃ (x0 : { X := RY, sh := st_152b op sub t v args l, P := inv_152b op l : LX }.X), ({ tm := [((1 : Nat), V.d (D.sl (List.map Ty.cs l))), ((2 : Nat), V.ref ((2 : Nat)) ((0 : Nat))), ((4 : Nat), V.ref ((4 : Nat)) ((0 : Nat))), ((5 : Nat), V.d (D.v (Value.bool false))), ((9 : Nat), V.ref ((9 : Nat)) ((0 : Nat))), ((10 : Nat), V.d (D.v (Value.bool (comR a r).2))), ((11 : Nat), V.d (D.v (Value.int .i64 0)))], hp := [((2 : Nat), B.box [V.d (D.v (Value.int .i64 op)), V.d (D.v (Value.int .i64 sub)), V.d (D.v (Value.int .i64 t.1)), V.d (D.v (Value.int .i64 t.2)), V.d (D.v (Value.int .i64 v.1.1)), V.d (D.v (Value.int .i64 v.1.2)), V.d (D.v (Value.bool v.2)), V.d (D.v (Value.int .i64 v.3)), V.d (D.v (Value.string v.4)), V.d (D.sl (cellsL args))]), ((4 : Nat), B.box [V.d (D.v (Value.int .i64 0)), V.d (D.v (Value.int .i64 0))]), ((9 : Nat), B.box [V.d (D.v (Value.int .i64 (comR a r).1.1)), V.d (D.v (Value.int .i64 (comR a r).1.2))])], kn := [], gd := [] : St } = { tm := [((1 : Nat), V.d (D.sl (List.map Ty.cs l))), ((2 : Nat), V.ref ((2 : Nat)) ((0 : Nat))), ((4 : Nat), V.ref ((4 : Nat)) ((0 : Nat))), ((5 : Nat), V.d (D.v (Value.bool false))), ((9 : Nat), V.ref ((9 : Nat)) ((0 : Nat))), ((10 : Nat), V.d (D.v (Value.bool (bif x0.2 then okK l x0.3 else false)))), ((11 : Nat), V.d (D.v (Value.int .i64 ((2 : Int) * (↑x0.3 : Int)))))], hp := [((2 : Nat), B.box [V.d (D.v (Value.int .i64 op)), V.d (D.v (Value.int .i64 sub)), V.d (D.v (Value.int .i64 t.1)), V.d (D.v (Value.int .i64 t.2)), V.d (D.v (Value.int .i64 v.1.1)), V.d (D.v (Value.int .i64 v.1.2)), V.d (D.v (Value.bool v.2)), V.d (D.v (Value.int .i64 v.3)), V.d (D.v (Value.string v.4)), V.d (D.sl (cellsL args))]), ((4 : Nat), B.box [V.d (D.v (Value.int .i64 0)), V.d (D.v (Value.int .i64 0))]), ((9 : Nat), B.box [V.d (D.v (Value.int .i64 x0.1.1)), V.d (D.v (Value.int .i64 x0.1.2))])], kn := [], gd := [] : St } ∧ ∃ (n : Nat), inv_152b op l x0 n x0) ∧ ∀ (n : Nat) (x : { X := RY, sh := st_152b op sub t v args l, P := inv_152b op l : LX }.X), inv_152b op l x0 n x → ∃ (es : List (List D)), D.sl (List.map Ty.cs l) = D.sl es ∧ ((bif decide ((2 : Int) * (↑x.3 : Int) < IntKind.i64.wrap ((↑es.length : Int) - (1 : Int))) then op == (14 : Int) else false) = true → ((bif x.2 then okK l x.3 else false) = true → ∃ (es : List (List D)), D.sl (List.map Ty.cs l) = D.sl es ∧ ((0 : Int) ≤ (2 : Int) * (↑x.3 : Int) ∧ (2 : Int) * (↑x.3 : Int) < (↑es.length : Int)) ∧ ∃ (cells : List D), es[((2 : Int) * (↑x.3 : Int)).toNat]? = some cells ∧ cells.length = (2 : Nat) ∧ ∃ (n_1 : Int), cut ((0 : Nat)) ((1 : Nat)) cells = some [D.v (Value.int .i64 n_1)] ∧ ∃ (m : Nat), ∃ (x' : { X := RY, sh := st_152b op sub t v args l, P := inv_152b op l : LX }.X), m < n ∧ { tm := [((1 : Nat), V.d (D.sl (List.map Ty.cs l))), ((2 : Nat), V.ref ((2 : Nat)) ((0 : Nat))), ((4 : Nat), V.ref ((4 : Nat)) ((0 : Nat))), ((5 : Nat), V.d (D.v (Value.bool false))), ((9 : Nat), V.ref ((9 : Nat)) ((0 : Nat))), ((10 : Nat), V.d (D.v (Value.bool (n_1 == (1 : Int))))), ((11 : Nat), V.d (D.v (Value.int .i64 (IntKind.i64.wrap ((2 : Int) * (↑x.3 : Int) + (2 : Int))))))], hp := [((2 : Nat), B.box [V.d (D.v (Value.int .i64 op)), V.d (D.v (Value.int .i64 sub)), V.d (D.v (Value.int .i64 t.1)), V.d (D.v (Value.int .i64 t.2)), V.d (D.v (Value.int .i64 v.1.1)), V.d (D.v (Value.int .i64 v.1.2)), V.d (D.v (Value.bool v.2)), V.d (D.v (Value.int .i64 v.3)), V.d (D.v (Value.string v.4)), V.d (D.sl (cellsL args))]), ((4 : Nat), B.box [V.d (D.v (Value.int .i64 0)), V.d (D.v (Value.int .i64 0))]), ((9 : Nat), B.box [V.d (D.v (Value.int .i64 x.1.1)), V.d (D.v (Value.int .i64 x.1.2))])], kn := [], gd := [] : St } = { tm := [((1 : Nat), V.d (D.sl (List.map Ty.cs l))), ((2 : Nat), V.ref ((2 : Nat)) ((0 : Nat))), ((4 : Nat), V.ref ((4 : Nat)) ((0 : Nat))), ((5 : Nat), V.d (D.v (Value.bool false))), ((9 : Nat), V.ref ((9 : Nat)) ((0 : Nat))), ((10 : Nat), V.d (D.v (Value.bool (bif x'.2 then okK l x'.3 else false)))), ((11 : Nat), V.d (D.v (Value.int .i64 ((2 : Int) * (↑x'.3 : Int)))))], hp := [((2 : Nat), B.box [V.d (D.v (Value.int .i64 op)), V.d (D.v (Value.int .i64 sub)), V.d (D.v (Value.int .i64 t.1)), V.d (D.v (Value.int .i64 t.2)), V.d (D.v (Value.int .i64 v.1.1)), V.d (D.v (Value.int .i64 v.1.2)), V.d (D.v (Value.bool v.2)), V.d (D.v (Value.int .i64 v.3)), V.d (D.v (Value.string v.4)), V.d (D.sl (cellsL args))]), ((4 : Nat), B.box [V.d (D.v (Value.int .i64 0)), V.d (D.v (Value.int .i64 0))]), ((9 : Nat), B.box [V.d (D.v (Value.int .i64 x'.1.1)), V.d (D.v (Value.int .i64 x'.1.2))])], kn := [], gd := [] : St } ∧ inv_152b op l x0 m x') ∧ ((bif x.2 then okK l x.3 else false) = !true → ∃ (m : Nat), ∃ (x' : { X := RY, sh := st_152b op sub t v args l, P := inv_152b op l : LX }.X), m < n ∧ { tm := [((1 : Nat), V.d (D.sl (List.map Ty.cs l))), ((2 : Nat), V.ref ((2 : Nat)) ((0 : Nat))), ((4 : Nat), V.ref ((4 : Nat)) ((0 : Nat))), ((5 : Nat), V.d (D.v (Value.bool false))), ((9 : Nat), V.ref ((9 : Nat)) ((0 : Nat))), ((10 : Nat), V.d (D.v (Value.bool false))), ((11 : Nat), V.d (D.v (Value.int .i64 (IntKind.i64.wrap ((2 : Int) * (↑x.3 : Int) + (2 : Int))))))], hp := [((2 : Nat), B.box [V.d (D.v (Value.int .i64 op)), V.d (D.v (Value.int .i64 sub)), V.d (D.v (Value.int .i64 t.1)), V.d (D.v (Value.int .i64 t.2)), V.d (D.v (Value.int .i64 v.1.1)), V.d (D.v (Value.int .i64 v.1.2)), V.d (D.v (Value.bool v.2)), V.d (D.v (Value.int .i64 v.3)), V.d (D.v (Value.string v.4)), V.d (D.sl (cellsL args))]), ((4 : Nat), B.box [V.d (D.v (Value.int .i64 0)), V.d (D.v (Value.int .i64 0))]), ((9 : Nat), B.box [V.d (D.v (Value.int .i64 x.1.1)), V.d (D.v (Value.int .i64 x.1.2))])], kn := [], gd := [] : St } = { tm := [((1 : Nat), V.d (D.sl (List.map Ty.cs l))), ((2 : Nat), V.ref ((2 : Nat)) ((0 : Nat))), ((4 : Nat), V.ref ((4 : Nat)) ((0 : Nat))), ((5 : Nat), V.d (D.v (Value.bool false))), ((9 : Nat), V.ref ((9 : Nat)) ((0 : Nat))), ((10 : Nat), V.d (D.v (Value.bool (bif x'.2 then okK l x'.3 else false)))), ((11 : Nat), V.d (D.v (Value.int .i64 ((2 : Int) * (↑x'.3 : Int)))))], hp := [((2 : Nat), B.box [V.d (D.v (Value.int .i64 op)), V.d (D.v (Value.int .i64 sub)), V.d (D.v (Value.int .i64 t.1)), V.d (D.v (Value.int .i64 t.2)), V.d (D.v (Value.int .i64 v.1.1)), V.d (D.v (Value.int .i64 v.1.2)), V.d (D.v (Value.bool v.2)), V.d (D.v (Value.int .i64 v.3)), V.d (D.v (Value.string v.4)), V.d (D.sl (cellsL args))]), ((4 : Nat), B.box [V.d (D.v (Value.int .i64 0)), V.d (D.v (Value.int .i64 0))]), ((9 : Nat), B.box [V.d (D.v (Value.int .i64 x'.1.1)), V.d (D.v (Value.int .i64 x'.1.2))])], kn := [], gd := [] : St } ∧ inv_152b op l x0 m x')) ∧ ((bif decide ((2 : Int) * (↑x.3 : Int) < IntKind.i64.wrap ((↑es.length : Int) - (1 : Int))) then op == (14 : Int) else false) = false → Q [.agg [.v (.int .i64 x.1.1), .v (.int .i64 x.1.2)], .d (.v (.bool (bif x.2 then okK l x.3 else false)))] []))) := by kernel_rfl
theorem okK_next {l : List Ty} {j : Nat} (hj : 2 * j < l.length) : okK l (j + 1) = (okK l j && l[2 * j].k == 1) := by
  unfold okK
  rw [List.range_succ, List.all_append]
  simp [List.getD_eq_getElem?_getD, hj]
theorem resN_mem {op : Int} {n i : Nat} (h : i ∈ resN op n n) : i < n := by
  unfold resN at h
  exact List.mem_range.1 (List.mem_filter.1 h).1
theorem resN_len (op : Int) (n : Nat) : (resN op n n).length ≤ n := by
  unfold resN
  have := List.length_filter_le (fun i => op == 15 || i % 2 == 1 || i == n - 1) (List.range n)
  rw [List.length_range] at this; exact this
theorem encW_get {l : List Nat} {x : Nat} (h : x < l.length) : (encW l)[x]? = some [.v (.int .i64 (l[x] : Int))] := by
  unfold encW
  rw [List.getElem?_map, List.getElem?_eq_getElem h]; rfl
theorem C_152_ok : CallsOk prog gl C_152 := addC_ok (addC_ok C_4e_ok c_96_ok) c_224_ok
theorem ct152 (op sub : Int) (t : Ty) (v : Go.Ex.AV) (args : List EX) (l : List Ty) (hl : l.length ≤ 1353245080300) (a : Ty) (r : List Ty) (hsel : selT l (resN op l.length l.length) = a :: r) : Ct prog gl 87 [.agg (encX op sub t v (cellsL args)), .d (.sl (l.map Ty.cs))] (gives [.agg (comR a r).1.cs, .d (.v (.bool (bif (comR a r).2 then okK l (if op = 14 then l.length / 2 else 0) else false)))]) := by
  refine ct_of_vc E_ok C_152_ok ioK_no it_ok mixed (fn := f87) (body := f87.body.getD .skip) (by kernel_rfl) (by kernel_rfl) (by kernel_rfl) (fi := fx_152 op sub t v args l) (by kernel_rfl) (by kernel_rfl) ⟨_, _, rfl, rfl⟩ ?_
  rw [vc152]
  have hrl := resN_len op l.length
  refine ⟨_, rfl, l.length, by rw [List.length_map], hl, (0 : Nat), ⟨by simp only [List.take_zero, selT, List.map_nil]; rfl, _, Nat.zero_le _, rfl⟩, fun m (x : Nat) hx => ⟨_, rfl, fun hi => ?_, fun hi => ?_⟩⟩
  · have hi : x < (resN op l.length l.length).length := by
      have h := of_decide_eq_true hi
      rw [List.length_map] at h; omega
    have hm := hx.2
    have hlt := resN_mem (List.getElem_mem hi)
    refine ⟨_, rfl, ⟨by omega, by rw [List.length_map]; omega⟩, _, encW_get hi, rfl, _, rfl, _, rfl, ⟨by omega, by rw [List.length_map]; omega⟩, _, ty_get hlt, rfl, _, _, rfl, by simp, rfl, rfl, ?_, (resN op l.length l.length).length - (x + 1), x + 1, by omega, ?_, hi, rfl⟩
    · rw [List.length_map]; simp only [selT, List.length_map, List.length_take, Nat.succ_eq_add_one]; omega
    · rw [wrap_next (by omega), take_succ_get _ hi]
      simp only [selT, List.map_append, List.map_cons, List.map_nil, List.getD_eq_getElem?_getD, List.getElem?_eq_getElem hlt, Option.getD_some]
  · have hi : ¬ x < (resN op l.length l.length).length := by
      have h := of_decide_eq_false hi
      rw [List.length_map] at h; omega
    rw [List.take_of_length_le (by omega), hsel]
    have hrr : r.length < l.length + 1 := by
      have := congrArg List.length hsel
      simp only [selT, List.length_map, List.length_cons] at this
      omega
    refine ⟨a, r, rfl, by omega, ⟨(comR a r).1, (comR a r).2, 0⟩, ⟨by
      have : (bif (comR a r).2 then okK l 0 else false) = (comR a r).2 := by cases (comR a r).2 <;> rfl
      dsimp only
      rw [this]
      rfl, l.length, rfl, rfl, Nat.zero_le _, rfl, .inr rfl⟩, fun m2 y hy => ?_⟩
    obtain ⟨yt, yok, yj⟩ := y
    obtain ⟨e2, e3, hj, hm2, hz⟩ := hy
    dsimp only at e2 e3 hj hm2 hz ⊢
    subst e2; subst e3
    refine ⟨_, rfl, fun hc => ?_, fun hc => ?_⟩
    · have hc2 : op = 14 ∧ 2 * yj + 1 < l.length := by
        by_cases h14 : op = 14
        · rw [show (op == 14) = true by simpa using h14, List.length_map] at hc
          by_cases hd : decide (2 * (yj : Int) < IntKind.i64.wrap ((l.length : Int) - 1)) = true
          · have := of_decide_eq_true hd
            rw [wrap64_of (by omega) (by omega)] at this
            exact ⟨h14, by omega⟩
          · rw [Bool.eq_false_iff.2 hd] at hc; cases hc
        · rw [show (op == 14) = false by simpa using h14] at hc
          revert hc
          cases decide (2 * (yj : Int) < IntKind.i64.wrap (((List.map Ty.cs l).length : Int) - 1)) <;> intro hc <;> cases hc
      have h2j : 2 * yj < l.length := by omega
      have w : IntKind.i64.wrap (2 * ((yj : Nat) : Int) + 2) = 2 * ((yj + 1 : Nat) : Int) := by rw [wrap64_of (by omega) (by omega)]; omega
      have hg := ty_get h2j
      have e : (bif (comR a r).2 then okK l (yj + 1) else false) = (bif (bif (comR a r).2 then okK l yj else false) then l[2 * yj].k == 1 else false) := by
        rw [okK_next h2j]; cases (comR a r).2 <;> cases okK l yj <;> rfl
      refine ⟨fun hk => ⟨_, rfl, ⟨by omega, by rw [List.length_map]; omega⟩, _, (by rw [show (2 * ((yj : Nat) : Int)).toNat = 2 * yj by omega]; exact hg), rfl, l[2 * yj].k, rfl, l.length - (yj + 1), ⟨(comR a r).1, (comR a r).2, yj + 1⟩, by omega, ?_, rfl, rfl, by show yj + 1 ≤ l.length / 2; omega, rfl, .inl hc2.1⟩, fun hk => ⟨l.length - (yj + 1), ⟨(comR a r).1, (comR a r).2, yj + 1⟩, by omega, ?_, rfl, rfl, by show yj + 1 ≤ l.length / 2; omega, rfl, .inl hc2.1⟩⟩
      · rw [hk, cond_true] at e
        dsimp only
        rw [e, w]
      · have hk' : (bif (comR a r).2 then okK l yj else false) = false := hk
        rw [hk', cond_false] at e
        dsimp only
        rw [e, w]
    · have hj' : yj = (if op = 14 then l.length / 2 else 0) := by
        by_cases h14 : op = 14
        · rw [if_pos h14]
          rw [show (op == 14) = true by simpa using h14, List.length_map] at hc
          by_cases hd : decide (2 * (yj : Int) < IntKind.i64.wrap ((l.length : Int) - 1)) = true
          · rw [hd] at hc; cases hc
          · have := of_decide_eq_false (Bool.eq_false_iff.2 hd)
            rw [wrap64_of (by omega) (by omega)] at this
            omega
        · rw [if_neg h14]
          rcases hz with h | h
          · exact absurd h h14
          · exact h
      rw [← hj']
      exact ⟨rfl, rfl⟩
def c_152 (a : List R) (K : List R → List (List D) → Prop) : Prop := match a with
  | [.agg x, .d (.sl y)] => ∃ (op sub : Int) (t : Ty) (v : Go.Ex.AV) (args : List EX) (l : List Ty) (a : Ty) (r : List Ty), x = encX op sub t v (cellsL args) ∧ y = l.map Ty.cs ∧ l.length ≤ 1353245080300 ∧ selT l (resN op l.length l.length) = a :: r ∧ K [.agg (comR a r).1.cs, .d (.v (.bool (bif (comR a r).2 then okK l (if op = 14 then l.length / 2 else 0) else false)))] []
  | _ => False
theorem c_152_ok (a : List R) (K : List R → List (List D) → Prop) (h : c_152 a K) : Ct prog gl 87 a K := by
  unfold c_152 at h
  split at h
  · obtain ⟨op, sub, t, v, args, l, a, r, rfl, rfl, h1, h2, h3⟩ := h
    exact (ct152 op sub t v args l h1 a r h2).gives h3
  · exact h.elim
end Go.Proofs.Tryz
namespace Go.Proofs.Tryz
open Go Go.Dm Go.Ex
set_option maxRecDepth 100000
variable {gl : Nat → Option Obj}
/-- A type that may be. -/
def goodT (t : Ty) : Prop := s60_0 t.k t.sc = 0
theorem good_iff {t : Ty} : goodT t ↔ 1 ≤ t.k ∧ t.k ≤ 5 ∧ 0 ≤ t.sc ∧ t.sc ≤ 18 ∧ (t.sc ≠ 0 → t.k = 3) := by
  unfold goodT s60_0 s124_0
  simp only [bne]
  by_cases h1 : t.k < 1
  · rw [decide_eq_true h1]; constructor
    · intro h; cases h
    · intro h; omega
  rw [decide_eq_false h1]
  by_cases h2 : t.k > 5
  · rw [decide_eq_true h2]; constructor
    · intro h; cases h
    · intro h; omega
  rw [decide_eq_false h2]
  by_cases h3 : t.sc ≥ 0
  · rw [decide_eq_true h3]
    by_cases h4 : t.sc ≤ 18
    · rw [decide_eq_true h4]
      by_cases h5 : t.sc = 0
      · rw [show (t.sc == 0) = true by simpa using h5]
        constructor
        · intro _; omega
        · intro _; rfl
      · rw [show (t.sc == 0) = false by simpa using h5]
        by_cases h6 : t.k = 3
        · rw [show (t.k == 3) = true by simpa using h6]
          constructor
          · intro _; omega
          · intro _; rfl
        · rw [show (t.k == 3) = false by simpa using h6]
          constructor
          · intro h; cases h
          · intro h; omega
    · rw [decide_eq_false h4]; constructor
      · intro h; cases h
      · intro h; omega
  · rw [decide_eq_false h3]; constructor
    · intro h; cases h
    · intro h; omega
theorem good_ty {t : Ty} (h : goodT t) {k : Int} (hk : k ≠ 3) : (t.k == k && (t.sc == 0 && true)) = (t.k == k) := by
  have h := good_iff.1 h
  by_cases h1 : t.k = k
  · have : t.sc = 0 := by
      by_cases h2 : t.sc = 0
      · exact h2
      · exact absurd (h.2.2.2.2 h2) (by omega)
    rw [this]; simp
  · rw [show (t.k == k) = false by simpa using h1]; rfl
theorem good_eq {t : Ty} (h : goodT t) {k : Int} (hk : k ≠ 3) (h1 : t.k = k) : t = ⟨k, 0⟩ := by
  have h := good_iff.1 h
  obtain ⟨a, b⟩ := t
  dsimp only at h h1
  subst h1
  have : b = 0 := by
    by_cases h2 : b = 0
    · exact h2
    · exact absurd (h.2.2.2.2 h2) hk
  rw [this]
theorem arith_agree {op : Int} {x y : Ty} (hx : goodT x) (hy : goodT y) (h8 : op = 8 → x = y) : agree (arithE op x y (bif x.k == 2 then y.k == 2 else false)) (arithR op x y) := by
  by_cases hi : x.k = 2 ∧ y.k = 2
  · have ex := good_eq hx (by decide) hi.1
    have ey := good_eq hy (by decide) hi.2
    subst ex; subst ey
    have : arithE op ⟨2, 0⟩ ⟨2, 0⟩ (bif (2 : Int) == 2 then (2 : Int) == 2 else false) = (⟨2, 0⟩, true) := rfl
    dsimp only
    rw [this]
    unfold arithR
    cases op == 6 <;> cases op == 7 <;> cases op == 8 <;> cases op == 5 <;> exact ⟨rfl, fun _ => rfl⟩
  have hI : (bif x.k == 2 then y.k == 2 else false) = false := by
    by_cases h1 : x.k = 2
    · have h2 : ¬ y.k = 2 := fun h => hi ⟨h1, h⟩
      rw [show (y.k == 2) = false by simpa using h2]; cases x.k == 2 <;> rfl
    · rw [show (x.k == 2) = false by simpa using h1]; rfl
  rw [hI]
  unfold arithE arithR
  rw [hI, good_ty hx (k := 5) (by decide), good_ty hy (k := 5) (by decide), good_ty hx (k := 2) (by decide), good_ty hy (k := 2) (by decide)]
  have hs : ∀ k sc, s179_0 k sc = s130_0 k sc := fun _ _ => rfl
  rw [hs, hs]
  cases op == 6
  · cases op == 7
    · by_cases o8 : op = 8
      · have e := h8 o8
        subst e
        rw [show (op == 8) = true by simpa using o8]
        cases s130_0 x.k x.sc <;> exact ⟨rfl, fun _ => rfl⟩
      · rw [show (op == 8) = false by simpa using o8]
        cases op == 5
        · cases (bif s130_0 x.k x.sc then s130_0 y.k y.sc else false)
          · cases op == 4 <;> cases x.k == 5 <;> cases y.k == 5 <;> cases y.k == 2 <;> cases op == 3 <;> cases x.k == 2 <;> exact ⟨rfl, fun _ => rfl⟩
          · exact ⟨rfl, fun _ => rfl⟩
        · cases (bif s130_0 x.k x.sc then s130_0 y.k y.sc else false)
          · exact ⟨rfl, fun h => by cases h⟩
          · exact ⟨rfl, fun _ => rfl⟩
    · exact ⟨rfl, fun h => by cases h⟩
  · exact ⟨rfl, fun h => by cases h⟩
theorem arith_good {op : Int} {x y : Ty} {b : Bool} (hx : goodT x) (hy : goodT y) {t : Ty} (h : arithE op x y b = (t, true)) : goodT t := by
  unfold arithE at h
  have g2 : goodT ⟨2, 0⟩ := rfl
  have g5 : goodT ⟨5, 0⟩ := rfl
  cases b
  case true => injection h with h _; subst h; exact g2
  cases h6 : (bif op == 6 then true else op == 7)
  case true => rw [h6] at h; injection h with _ h; cases h
  rw [h6] at h
  cases h8 : op == 8
  case true => rw [h8] at h; injection h with h _; subst h; exact hx
  rw [h8] at h
  have kx := good_iff.1 hx
  have ky := good_iff.1 hy
  cases hb : (bif s130_0 x.k x.sc then s130_0 y.k y.sc else false)
  · rw [hb] at h
    cases h5 : op == 5
    case true => rw [h5] at h; injection h with _ h; cases h
    rw [h5] at h
    cases hd : (bif (bif op == 4 then x.k == 5 && (x.sc == 0 && true) else false) then y.k == 5 && (y.sc == 0 && true) else false)
    · rw [hd] at h; injection h with h _; subst h; exact g5
    · rw [hd] at h; injection h with h _; subst h; exact g2
  · rw [hb] at h
    cases h5 : op == 5
    · rw [h5] at h; injection h with h _; subst h
      refine good_iff.2 ⟨(by show (1 : Int) ≤ 3; decide), (by show (3 : Int) ≤ 5; decide), ?_, ?_, fun _ => rfl⟩ <;> (show _ ≤ _; dsimp only; split <;> omega)
    · rw [h5] at h; injection h with h h3; subst h
      have := of_decide_eq_true h3
      rw [wrap64_of (by omega) (by omega)] at this ⊢
      exact good_iff.2 ⟨(by show (1 : Int) ≤ 3; decide), (by show (3 : Int) ≤ 5; decide), by show 0 ≤ x.sc + y.sc; omega, this, fun _ => rfl⟩
theorem cfold_good {a : Ty} {r : List Ty} (ha : goodT a) (hr : ∀ t ∈ r, goodT t) : goodT (cfold a r).1 := by
  have key : ∀ (r : List Ty) (p : Ty × Bool), goodT p.1 → (∀ t ∈ r, goodT t) → goodT (r.foldl cstep p).1 := by
    intro r
    induction r with
    | nil => intro p h _; exact h
    | cons u r ih =>
      intro p h hr
      refine ih _ ?_ (fun t ht => hr t (List.mem_cons_of_mem _ ht))
      have hu := good_iff.1 (hr u List.mem_cons_self)
      have hp := good_iff.1 h
      unfold cstep
      cases (u.k == p.1.k && (u.sc == p.1.sc && true))
      · cases (bif s130_0 u.k u.sc then s130_0 p.1.k p.1.sc else false)
        · exact h
        · refine good_iff.2 ⟨(by show (1 : Int) ≤ 3; decide), (by show (3 : Int) ≤ 5; decide), ?_, ?_, fun _ => rfl⟩ <;> (show _ ≤ _; dsimp only [cond_true, cond_false]; split <;> omega)
      · exact h
  exact key r (a, true) ha hr
theorem may_const {sub : Int} {t : Ty} {v : Go.Ex.AV} {m c : Int} (h : mayHd 2 sub t v m c = true) : goodT v.t := by
  have h2 : s56_0 v.1.1 v.1.2 v.2 v.3 v.4 = 0 := by
    have e : mayHd 2 sub t v m c = (bif (bif bif m == 0 then sub == 0 else false then tyZ t else false) then s56_0 v.1.1 v.1.2 v.2 v.3 v.4 == 0 else false) := rfl
    rw [e] at h
    revert h
    cases (bif bif m == 0 then sub == 0 else false then tyZ t else false) <;> intro h
    · cases h
    · simpa using h
  unfold goodT
  by_cases h3 : s60_0 v.t.k v.t.sc = 0
  · exact h3
  · exfalso
    apply h3
    unfold s56_0 at h2
    rw [show (s60_0 v.1.1 v.1.2 != 0) = true by simpa using h3, cond_true] at h2
    exact h2
theorem may_cast {sub : Int} {t : Ty} {v : Go.Ex.AV} {m c : Int} (h : mayHd 16 sub t v m c = true) : goodT t := by
  have e : mayHd 16 sub t v m c = (bif (bif bif m == 1 then sub == 0 else false then s60_0 t.1 t.2 == 0 else false) then valZ v else false) := rfl
  rw [e] at h
  unfold goodT
  revert h
  cases m == 1 <;> cases sub == 0 <;> cases h : (s60_0 t.1 t.2 == 0) <;> cases valZ v <;> intro h2 <;> first | (cases h2; done) | (simpa using h)
theorem may_case {sub : Int} {t : Ty} {v : Go.Ex.AV} {m c : Int} (h : mayHd 14 sub t v m c = true) : 3 ≤ m ∧ m.tmod 2 ≠ 0 := by
  have e : mayHd 14 sub t v m c = (bif (bif bif (bif decide (m ≥ 3) then m.tmod 2 != 0 else false) then sub == 0 else false then tyZ t else false) then valZ v else false) := rfl
  rw [e] at h
  revert h
  cases h1 : decide (m ≥ 3) <;> cases h2 : (m.tmod 2 != 0) <;> cases sub == 0 <;> cases tyZ t <;> cases valZ v <;> intro h <;> first | (cases h; done) | exact ⟨of_decide_eq_true h1, by simpa using h2⟩
theorem may_arith {op sub : Int} {t : Ty} {v : Go.Ex.AV} {m c : Int} (h : mayHd op sub t v m c = true) (n1 : op ≠ 1) (n2 : op ≠ 2) (n9 : op ≠ 9) (n16 : op ≠ 16) (n12 : op ≠ 12) (n13 : op ≠ 13) (n18 : op ≠ 18) (n14 : op ≠ 14) (n15 : op ≠ 15) : (op = 8 ∧ m = 1) ∨ (op ≠ 8 ∧ m = 2) := by
  unfold mayHd at h
  rw [show (op == 1) = false by simpa using n1, show (op == 2) = false by simpa using n2, show (op == 9) = false by simpa using n9, show (op == 16) = false by simpa using n16, show (op == 12) = false by simpa using n12, show (op == 13) = false by simpa using n13, show (op == 18) = false by simpa using n18, show (op == 14) = false by simpa using n14, show (op == 15) = false by simpa using n15] at h
  simp only [cond_false, Bool.or_false] at h
  by_cases o8 : op = 8
  · rw [show (op == 8) = true by simpa using o8, cond_true] at h
    refine .inl ⟨o8, ?_⟩
    by_cases hm : m = 1
    · exact hm
    · rw [show (m == 1) = false by simpa using hm] at h; cases h
  · rw [show (op == 8) = false by simpa using o8, cond_false] at h
    refine .inr ⟨o8, ?_⟩
    by_cases hm : m = 2
    · exact hm
    · rw [show (m == 2) = false by simpa using hm] at h
      revert h
      cases (op == 3 || op == 4 || op == 5 || op == 6 || op == 7 || op == 10 || op == 11 || op == 17) <;> intro h <;> cases h
theorem results_mem {op : Int} {l : List Ty} (hne : l ≠ []) {t : Ty} (h : t ∈ resultsE op l) : t ∈ l := by
  have hp := List.length_pos_iff.2 hne
  unfold resultsE at h
  split at h
  · exact h
  · rcases List.mem_append.1 h with h | h
    · unfold oddsT at h
      obtain ⟨k, hk, rfl⟩ := List.mem_map.1 h
      have hk := List.mem_range.1 hk
      have hlt : 2 * k + 1 < l.length := by omega
      rw [List.getD_eq_getElem?_getD, List.getElem?_eq_getElem hlt]
      exact List.getElem_mem hlt
    · have h := List.mem_singleton.1 h
      have hlt : l.length - 1 < l.length := by omega
      rw [List.getD_eq_getElem?_getD, List.getElem?_eq_getElem hlt] at h
      rw [h]; exact List.getElem_mem hlt
theorem get_good {l : List Ty} (hl : ∀ t ∈ l, goodT t) {i : Nat} (h : i < l.length) : goodT (l.getD i ⟨0, 0⟩) := by
  rw [List.getD_eq_getElem?_getD, List.getElem?_eq_getElem h]
  exact hl _ (List.getElem_mem h)
theorem typedN_good {cols : List Ty} (hc : ∀ t ∈ cols, goodT t) {op sub : Int} {t : Ty} {v : Go.Ex.AV} {l : List Ty} (hl : ∀ t ∈ l, goodT t) (hm : mayHd op sub t v (l.length : Int) cols.length = true) {t' : Ty} (h : typedN cols op sub t v l = (t', true)) : goodT t' := by
  have g1 : goodT ⟨1, 0⟩ := rfl
  have g2 : goodT ⟨2, 0⟩ := rfl
  have g4 : goodT ⟨4, 0⟩ := rfl
  unfold typedN at h
  split at h
  · rename_i o; subst o
    obtain ⟨h1, h2⟩ := may_col hm
    injection h with h _
    rw [← h]; exact get_good hc (by omega)
  split at h
  · rename_i o; subst o
    injection h with h _
    rw [← h]; exact may_const hm
  rename_i n1 n2
  have hpos := may_pos hm n1 n2
  have hne : l ≠ [] := by intro h; rw [h] at hpos; simp at hpos
  split at h
  · injection h with h _; subst h; exact g1
  split at h
  · injection h with h _; subst h; exact g1
  split at h
  · injection h with h _; subst h; exact g1
  split at h
  · injection h with h _; subst h; exact g4
  split at h
  · injection h with h _; subst h; exact g2
  split at h
  · rename_i o; subst o
    injection h with h _; subst h; exact may_cast hm
  split at h
  · obtain ⟨a, r, hr, _⟩ := results_ne (op := op) hne
    rw [hr] at h
    injection h with h _
    rw [← h]
    have hmem : ∀ t ∈ a :: r, goodT t := fun t ht => hl t (results_mem hne (hr ▸ ht))
    exact cfold_good (hmem _ List.mem_cons_self) (fun t ht => hmem t (List.mem_cons_of_mem _ ht))
  · exact arith_good (get_good hl (by omega)) (get_good hl (by omega)) h
theorem typedL_len {cols : List Ty} : ∀ {l : List EX} {tl : List Ty}, typedL cols l = some tl → tl.length = l.length
  | [], tl, h => by simp only [typedL, Option.some.injEq] at h; subst h; rfl
  | a :: l, tl, h => by
    simp only [typedL] at h
    rcases hh : typedE cols a with ⟨u, _ | _⟩
    · rw [hh] at h; cases h
    · rw [hh] at h
      rcases hl : typedL cols l with _ | r
      · rw [hl] at h; cases h
      · rw [hl] at h
        simp only [Option.some.injEq] at h
        subst h
        simp only [List.length_cons, typedL_len hl]
mutual
theorem typedE_good {cols : List Ty} (hc : ∀ t ∈ cols, goodT t) : ∀ (e : EX), mayE cols.length e = true → ∀ t, typedE cols e = (t, true) → goodT t
  | .mk op sub t v args, hm, t', h => by
    have hmm : mayHd op sub t v ((cellsL args).length : Int) cols.length = true ∧ mayL cols.length args = true := by
      have : (mayHd op sub t v ((cellsL args).length : Int) cols.length && mayL cols.length args) = true := by simpa only [mayE] using hm
      simpa using this
    simp only [typedE] at h
    rcases hl : typedL cols args with _ | l
    · rw [hl] at h; injection h with _ h; cases h
    · rw [hl] at h
      have hlen := typedL_len hl
      refine typedN_good hc (typedL_good hc args hmm.2 l hl) ?_ h
      rw [hlen, ← cellsL_len]; exact hmm.1
theorem typedL_good {cols : List Ty} (hc : ∀ t ∈ cols, goodT t) : ∀ (l : List EX), mayL cols.length l = true → ∀ tl, typedL cols l = some tl → ∀ t ∈ tl, goodT t
  | [], _, tl, h => by simp only [typedL, Option.some.injEq] at h; subst h; intro t ht; cases ht
  | e :: l, hm, tl, h => by
    have hmm : mayE cols.length e = true ∧ mayL cols.length l = true := by
      have : (mayE cols.length e && mayL cols.length l) = true := by simpa only [mayL] using hm
      simpa using this
    simp only [typedL] at h
    rcases hh : typedE cols e with ⟨u, _ | _⟩
    · rw [hh] at h; cases h
    · rw [hh] at h
      rcases hl : typedL cols l with _ | r
      · rw [hl] at h; cases h
      · rw [hl] at h
        simp only [Option.some.injEq] at h
        subst h
        intro t ht
        cases ht with
        | head => exact typedE_good hc e hmm.1 _ hh
        | tail _ ht => exact typedL_good hc l hmm.2 r hl t ht
end
end Go.Proofs.Tryz
