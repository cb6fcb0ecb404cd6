/- A part of the proof: contracts of functions, by a verified generator of conditions; no condition of its own. -/
import Derived.Test.YtckihdaalmgbiaaGreatDoorB5
namespace Go.Proofs.Tryz
open Go Go.Dm Go.Ex
set_option maxRecDepth 100000
variable {gl : Nat → Option Obj}
/-- The common type of some, one after another. -/
def cstep (a : Ty × Bool) (u : Ty) : Ty × Bool :=
  bif u.k == a.1.k && (u.sc == a.1.sc && true) then a
  else bif (bif s130_0 u.k u.sc then s130_0 a.1.k a.1.sc else false) then (⟨3, if u.sc > a.1.sc then u.sc else a.1.sc⟩, a.2)
  else (a.1, false)
def cfold (a : Ty) (r : List Ty) : Ty × Bool := r.foldl cstep (a, true)
def st_131 (a : Ty) (r : List Ty) (x : Nat) : St := { tm := [(2, .ref 2 0), (3, .d (.v (.bool false))), (4, .ref 4 0), (5, .d (.v (.bool (cfold a (r.take x)).2))), (12, .d (.sl (r.map Ty.cs))), (13, .d (.v (.int .i64 ((r.map Ty.cs).length : Int)))), (14, .d (.v (.int .i64 (x : Int))))], hp := [(2, .box [.d (.v (.int .i64 0)), .d (.v (.int .i64 0))]), (4, .box [.d (.v (.int .i64 (cfold a (r.take x)).1.k)), .d (.v (.int .i64 (cfold a (r.take x)).1.sc))])], kn := [], gd := [] }
def inv_m {α : Type} (l : List α) (m : Nat) (x : Nat) : Prop := x ≤ l.length ∧ m = l.length - x
def fx_131 (a : Ty) (r : List Ty) : Fi := { fi81 with lx := [(4, { X := Nat, sh := st_131 a r, P := fun _ => inv_m r })] }
theorem vc131 (a : Ty) (r : List Ty) (Q : List R → List (List D) → Prop) : vc E_0 C_4e noI (fx_131 a r) (f81.body.getD .skip) f81.results.toList [.d (.sl ((a :: r).map Ty.cs))] Q = (
  ∃ (es : List (List D)), D.sl (a.cs :: List.map Ty.cs r) = D.sl es ∧ ((0 : Int) ≤ (0 : Int) ∧ (0 : Int) < (↑es.length : Int)) ∧ ∃ (cells : List D),
  es[Int.toNat (0 : Int)]? = some cells ∧ cells.length = (2 : Nat) ∧ ∃ (n : Int), ∃ (n_1 : Int), cut ((0 : Nat)) ((2 : Nat)) cells = some [D.v
  (Value.int IntKind.i64 n), D.v (Value.int IntKind.i64 n_1)] ∧ ∃ (es : List (List D)), D.sl (a.cs :: List.map Ty.cs r) = D.sl es ∧ ∃ (l : Nat), ∃ (h :
  Nat), V.d (D.v (Value.int IntKind.i64 (1 : Int))) = V.d (D.v (Value.int IntKind.i64 (↑l : Int))) ∧ h = es.length ∧ l ≤ h ∧ h ≤ es.length ∧ (∀ (c :
  List D), c ∈ es → c.length = (2 : Nat)) ∧ ∃ (es_1 : List (List D)), D.sl (List.drop l (List.take h es)) = D.sl es_1 ∧ ∃ (x0 : { X := Nat, sh := st_131 a r, P := fun (x : Nat) => inv_m r : LX }.X),
  ({ tm := [((2 : Nat), V.ref ((2 : Nat)) ((0 : Nat))), ((3 : Nat), V.d (D.v (Value.bool false))), ((4 : Nat), V.ref ((4 : Nat)) ((0 : Nat))), ((5 : Nat), V.d (D.v (Value.bool true))), ((12 : Nat), V.d (D.sl (List.drop l (List.take h es)))), ((13 : Nat), V.d (D.v (Value.int IntKind.i64 (↑es_1.length : Int)))), ((14 : Nat), V.d (D.v (Value.int IntKind.i64 (0 : Int))))], hp := [((2 : Nat), B.box [V.d (D.v (Value.int IntKind.i64 (0 : Int))), V.d (D.v (Value.int IntKind.i64 (0 : Int)))]), ((4 : Nat), B.box [V.d (D.v (Value.int IntKind.i64 n)), V.d (D.v (Value.int IntKind.i64 n_1))])], kn := [], gd := [] : St }
  = { tm := [((2 : Nat), V.ref ((2 : Nat)) ((0 : Nat))), ((3 : Nat), V.d (D.v (Value.bool false))), ((4 : Nat), V.ref ((4 : Nat)) ((0 : Nat))), ((5 : Nat), V.d (D.v (Value.bool (cfold a (List.take x0 r)).2))), ((12 : Nat), V.d (D.sl (List.map Ty.cs r))), ((13 : Nat), V.d (D.v (Value.int IntKind.i64 (↑(List.map Ty.cs r).length : Int)))), ((14 : Nat), V.d (D.v (Value.int IntKind.i64 (↑x0 : Int))))], hp := [((2 : Nat), B.box [V.d (D.v (Value.int IntKind.i64 (0 : Int))), V.d (D.v (Value.int IntKind.i64 (0 : Int)))]), ((4 : Nat), B.box [V.d (D.v (Value.int IntKind.i64 (cfold a (List.take x0 r)).1.1)), V.d (D.v (Value.int IntKind.i64 (cfold a (List.take x0 r)).1.2))])], kn := [], gd := [] : St }
  ∧ ∃ (n : Nat), inv_m r n x0) ∧ ∀ (n : Nat) (x : { X := Nat, sh := st_131 a r, P := fun (x : Nat) => inv_m r : LX }.X), inv_m r n x → (decide ((↑x :
  Int) < (↑(List.map Ty.cs r).length : Int)) = true → ∃ (es : List (List D)), D.sl (List.map Ty.cs r) = D.sl es ∧ ((0 : Int) ≤ (↑x : Int) ∧ (↑x : Int)
  < (↑es.length : Int)) ∧ ∃ (cells : List D), es[(↑x : Int).toNat]? = some cells ∧ cells.length = (2 : Nat) ∧ ∃ (n_2 : Int), ∃ (n_3 : Int), cut ((0 :
  Nat)) ((2 : Nat)) cells = some [D.v (Value.int IntKind.i64 n_2), D.v (Value.int IntKind.i64 n_3)] ∧ ((n_2 == (cfold a (List.take x r)).1.1 && (n_3 ==
  (cfold a (List.take x r)).1.2 && true)) = true → ∃ (m : Nat), ∃ (x' : { X := Nat, sh := st_131 a r, P := fun (x : Nat) => inv_m r : LX }.X), m < n ∧
  { tm := [((2 : Nat), V.ref ((2 : Nat)) ((0 : Nat))), ((3 : Nat), V.d (D.v (Value.bool false))), ((4 : Nat), V.ref ((4 : Nat)) ((0 : Nat))), ((5 : Nat), V.d (D.v (Value.bool (cfold a (List.take x r)).2))), ((12 : Nat), V.d (D.sl (List.map Ty.cs r))), ((13 : Nat), V.d (D.v (Value.int IntKind.i64 (↑(List.map Ty.cs r).length : Int)))), ((14 : Nat), V.d (D.v (Value.int IntKind.i64 (IntKind.i64.wrap ((↑x : Int) + (1 : Int))))))], hp := [((2 : Nat), B.box [V.d (D.v (Value.int IntKind.i64 (0 : Int))), V.d (D.v (Value.int IntKind.i64 (0 : Int)))]), ((4 : Nat), B.box [V.d (D.v (Value.int IntKind.i64 (cfold a (List.take x r)).1.1)), V.d (D.v (Value.int IntKind.i64 (cfold a (List.take x r)).1.2))])], kn := [], gd := [] : St }
  = { tm := [((2 : Nat), V.ref ((2 : Nat)) ((0 : Nat))), ((3 : Nat), V.d (D.v (Value.bool false))), ((4 : Nat), V.ref ((4 : Nat)) ((0 : Nat))), ((5 : Nat), V.d (D.v (Value.bool (cfold a (List.take x' r)).2))), ((12 : Nat), V.d (D.sl (List.map Ty.cs r))), ((13 : Nat), V.d (D.v (Value.int IntKind.i64 (↑(List.map Ty.cs r).length : Int)))), ((14 : Nat), V.d (D.v (Value.int IntKind.i64 (↑x' : Int))))], hp := [((2 : Nat), B.box [V.d (D.v (Value.int IntKind.i64 (0 : Int))), V.d (D.v (Value.int IntKind.i64 (0 : Int)))]), ((4 : Nat), B.box [V.d (D.v (Value.int IntKind.i64 (cfold a (List.take x' r)).1.1)), V.d (D.v (Value.int IntKind.i64 (cfold a (List.take x' r)).1.2))])], kn := [], gd := [] : St }
  ∧ inv_m r m x') ∧ ((n_2 == (cfold a (List.take x r)).1.1 && (n_3 == (cfold a (List.take x r)).1.2 && true)) = false → ((bif s130_0 n_2 n_3 then
  s130_0 (cfold a (List.take x r)).1.1 (cfold a (List.take x r)).1.2 else false) = true → ∃ (m : Nat), ∃ (x' : { X := Nat, sh := st_131 a r, P := fun (x : Nat) => inv_m r : LX }.X),
  m < n ∧ { tm := [((2 : Nat), V.ref ((2 : Nat)) ((0 : Nat))), ((3 : Nat), V.d (D.v (Value.bool false))), ((4 : Nat), V.ref ((4 : Nat)) ((0 : Nat))), ((5 : Nat), V.d (D.v (Value.bool (cfold a (List.take x r)).2))), ((12 : Nat), V.d (D.sl (List.map Ty.cs r))), ((13 : Nat), V.d (D.v (Value.int IntKind.i64 (↑(List.map Ty.cs r).length : Int)))), ((14 : Nat), V.d (D.v (Value.int IntKind.i64 (IntKind.i64.wrap ((↑x : Int) + (1 : Int))))))], hp := [((2 : Nat), B.box [V.d (D.v (Value.int IntKind.i64 (0 : Int))), V.d (D.v (Value.int IntKind.i64 (0 : Int)))]), ((4 : Nat), B.box [V.d (D.v (Value.int IntKind.i64 (3 : Int))), V.d (D.v (Value.int IntKind.i64 (if n_3 > (cfold a (List.take x r)).1.2 then n_3 else (cfold a (List.take x r)).1.2)))])], kn := [], gd := [] : St }
  = { tm := [((2 : Nat), V.ref ((2 : Nat)) ((0 : Nat))), ((3 : Nat), V.d (D.v (Value.bool false))), ((4 : Nat), V.ref ((4 : Nat)) ((0 : Nat))), ((5 : Nat), V.d (D.v (Value.bool (cfold a (List.take x' r)).2))), ((12 : Nat), V.d (D.sl (List.map Ty.cs r))), ((13 : Nat), V.d (D.v (Value.int IntKind.i64 (↑(List.map Ty.cs r).length : Int)))), ((14 : Nat), V.d (D.v (Value.int IntKind.i64 (↑x' : Int))))], hp := [((2 : Nat), B.box [V.d (D.v (Value.int IntKind.i64 (0 : Int))), V.d (D.v (Value.int IntKind.i64 (0 : Int)))]), ((4 : Nat), B.box [V.d (D.v (Value.int IntKind.i64 (cfold a (List.take x' r)).1.1)), V.d (D.v (Value.int IntKind.i64 (cfold a (List.take x' r)).1.2))])], kn := [], gd := [] : St }
  ∧ inv_m r m x') ∧ ((bif s130_0 n_2 n_3 then s130_0 (cfold a (List.take x r)).1.1 (cfold a (List.take x r)).1.2 else false) = false → ∃ (m : Nat), ∃
  (x' : { X := Nat, sh := st_131 a r, P := fun (x : Nat) => inv_m r : LX }.X), m < n ∧ { tm := [((2 : Nat), V.ref ((2 : Nat)) ((0 : Nat))), ((3 : Nat), V.d (D.v (Value.bool false))), ((4 : Nat), V.ref ((4 : Nat)) ((0 : Nat))), ((5 : Nat), V.d (D.v (Value.bool false))), ((12 : Nat), V.d (D.sl (List.map Ty.cs r))), ((13 : Nat), V.d (D.v (Value.int IntKind.i64 (↑(List.map Ty.cs r).length : Int)))), ((14 : Nat), V.d (D.v (Value.int IntKind.i64 (IntKind.i64.wrap ((↑x : Int) + (1 : Int))))))], hp := [((2 : Nat), B.box [V.d (D.v (Value.int IntKind.i64 (0 : Int))), V.d (D.v (Value.int IntKind.i64 (0 : Int)))]), ((4 : Nat), B.box [V.d (D.v (Value.int IntKind.i64 (cfold a (List.take x r)).1.1)), V.d (D.v (Value.int IntKind.i64 (cfold a (List.take x r)).1.2))])], kn := [], gd := [] : St }
  = { tm := [((2 : Nat), V.ref ((2 : Nat)) ((0 : Nat))), ((3 : Nat), V.d (D.v (Value.bool false))), ((4 : Nat), V.ref ((4 : Nat)) ((0 : Nat))), ((5 : Nat), V.d (D.v (Value.bool (cfold a (List.take x' r)).2))), ((12 : Nat), V.d (D.sl (List.map Ty.cs r))), ((13 : Nat), V.d (D.v (Value.int IntKind.i64 (↑(List.map Ty.cs r).length : Int)))), ((14 : Nat), V.d (D.v (Value.int IntKind.i64 (↑x' : Int))))], hp := [((2 : Nat), B.box [V.d (D.v (Value.int IntKind.i64 (0 : Int))), V.d (D.v (Value.int IntKind.i64 (0 : Int)))]), ((4 : Nat), B.box [V.d (D.v (Value.int IntKind.i64 (cfold a (List.take x' r)).1.1)), V.d (D.v (Value.int IntKind.i64 (cfold a (List.take x' r)).1.2))])], kn := [], gd := [] : St }
  ∧ inv_m r m x'))) ∧ (decide ((↑x : Int) < (↑(List.map Ty.cs r).length : Int)) = false → Q [R.agg [D.v (Value.int IntKind.i64 (cfold a (List.take x
  r)).1.1), D.v (Value.int IntKind.i64 (cfold a (List.take x r)).1.2)], R.d (D.v (Value.bool (cfold a (List.take x r)).2))] [])) := by kernel_rfl
def oddsT (l : List Ty) (j : Nat) : List Ty := (List.range j).map fun k => l.getD (2 * k + 1) ⟨0, 0⟩
def resultsE (op : Int) (l : List Ty) : List Ty := if op = 15 then l else oddsT l (l.length / 2) ++ [l.getD (l.length - 1) ⟨0, 0⟩]
def st_132 (op sub : Int) (t : Ty) (v : Go.Ex.AV) (args : List EX) (l : List Ty) (x : Nat) : St := { tm := [(1, .d (.sl (l.map Ty.cs))), (4, .nil), (5, .own 50005), (6, .d (.v (.int .i64 (2 * (x : Int) + 1))))], hp := [(2, .box [.d (.v (.int .i64 op)), .d (.v (.int .i64 sub)), .d (.v (.int .i64 t.k)), .d (.v (.int .i64 t.sc)), .d (.v (.int .i64 v.t.k)), .d (.v (.int .i64 v.t.sc)), .d (.v (.bool v.nul)), .d (.v (.int .i64 v.n)), .d (.v (.string v.s)), .d (.sl (cellsL args))]), (50005, .lst 23 2 ((oddsT l x).map Ty.cs))], kn := [], gd := [] }
def inv_132 (l : List Ty) (m : Nat) (x : Nat) : Prop := x ≤ l.length / 2 ∧ m = l.length - x
def fx_132 (op sub : Int) (t : Ty) (v : Go.Ex.AV) (args : List EX) (l : List Ty) : Fi := { fi82 with cv := [(5, [⟨none, 5, 50005, 23, 2⟩])], lx := [(5, { X := Nat, sh := st_132 op sub t v args l, P := fun _ => inv_132 l })] }
theorem vc132 (op sub : Int) (t : Ty) (v : Go.Ex.AV) (args : List EX) (l : List Ty) (Q : List R → List (List D) → Prop) : vc E_0 C_4e noI (fx_132 op sub t v args l) (f82.body.getD .skip) f82.results.toList [.agg (encX op sub t v (cellsL args)), .d (.sl (l.map Ty.cs))] Q = (
  ((op == (15 : Int)) = true → Q [R.d (D.sl (List.map Ty.cs l))] []) ∧ ((op == (15 : Int)) = false → ∃ (x0 : { X := Nat, sh := st_132 op sub t v args l, P := fun (x : Nat) => inv_132 l : LX }.X),
  ({ tm := [((1 : Nat), V.d (D.sl (List.map Ty.cs l))), ((4 : Nat), V.nil), ((5 : Nat), V.own ((50005 : Nat))), ((6 : Nat), V.d (D.v (Value.int IntKind.i64 (1 : Int))))], hp := [((2 : Nat), B.box [V.d (D.v (Value.int IntKind.i64 op)), V.d (D.v (Value.int IntKind.i64 sub)), V.d (D.v (Value.int IntKind.i64 t.1)), V.d (D.v (Value.int IntKind.i64 t.2)), V.d (D.v (Value.int IntKind.i64 v.1.1)), V.d (D.v (Value.int IntKind.i64 v.1.2)), V.d (D.v (Value.bool v.2)), V.d (D.v (Value.int IntKind.i64 v.3)), V.d (D.v (Value.string v.4)), V.d (D.sl (cellsL args))]), ((50005 : Nat), B.lst ((23 : Nat)) ((2 : Nat)) [])], kn := [], gd := [] : St }
  = { tm := [((1 : Nat), V.d (D.sl (List.map Ty.cs l))), ((4 : Nat), V.nil), ((5 : Nat), V.own ((50005 : Nat))), ((6 : Nat), V.d (D.v (Value.int IntKind.i64 ((2 : Int) * (↑x0 : Int) + (1 : Int)))))], hp := [((2 : Nat), B.box [V.d (D.v (Value.int IntKind.i64 op)), V.d (D.v (Value.int IntKind.i64 sub)), V.d (D.v (Value.int IntKind.i64 t.1)), V.d (D.v (Value.int IntKind.i64 t.2)), V.d (D.v (Value.int IntKind.i64 v.1.1)), V.d (D.v (Value.int IntKind.i64 v.1.2)), V.d (D.v (Value.bool v.2)), V.d (D.v (Value.int IntKind.i64 v.3)), V.d (D.v (Value.string v.4)), V.d (D.sl (cellsL args))]), ((50005 : Nat), B.lst ((23 : Nat)) ((2 : Nat)) (List.map Ty.cs (oddsT l x0)))], kn := [], gd := [] : St }
  ∧ ∃ (n : Nat), inv_132 l n x0) ∧ ∀ (n : Nat) (x : { X := Nat, sh := st_132 op sub t v args l, P := fun (x : Nat) => inv_132 l : LX }.X), inv_132 l n
  x → ∃ (es : List (List D)), D.sl (List.map Ty.cs l) = D.sl es ∧ (decide ((2 : Int) * (↑x : Int) + (1 : Int) < (↑es.length : Int)) = true → ∃ (es :
  List (List D)), D.sl (List.map Ty.cs l) = D.sl es ∧ ((0 : Int) ≤ (2 : Int) * (↑x : Int) + (1 : Int) ∧ (2 : Int) * (↑x : Int) + (1 : Int) <
  (↑es.length : Int)) ∧ ∃ (cells : List D), es[((2 : Int) * (↑x : Int) + (1 : Int)).toNat]? = some cells ∧ cells.length = (2 : Nat) ∧ ∃ (n_1 : Int), ∃
  (n_2 : Int), cut ((0 : Nat)) ((2 : Nat)) cells = some [D.v (Value.int IntKind.i64 n_1), D.v (Value.int IntKind.i64 n_2)] ∧ (∀ (c : List D), c ∈ [[D.v
  (Value.int IntKind.i64 n_1), D.v (Value.int IntKind.i64 n_2)]] → c.length = (2 : Nat)) ∧ (23 : Nat) = (23 : Nat) ∧ (2 : Nat) = (2 : Nat) ∧
  (↑(List.map Ty.cs (oddsT l x)).length.succ : Int) * (↑((16 : Nat)) : Int) ≤ (140737488355328 : Int) ∧ ∃ (m : Nat), ∃ (x' : { X := Nat, sh := st_132 op sub t v args l, P := fun (x : Nat) => inv_132 l : LX }.X),
  m < n ∧ { tm := [((1 : Nat), V.d (D.sl (List.map Ty.cs l))), ((4 : Nat), V.nil), ((5 : Nat), V.own ((50005 : Nat))), ((6 : Nat), V.d (D.v (Value.int IntKind.i64 (IntKind.i64.wrap ((2 : Int) * (↑x : Int) + (1 : Int) + (2 : Int))))))], hp := [((2 : Nat), B.box [V.d (D.v (Value.int IntKind.i64 op)), V.d (D.v (Value.int IntKind.i64 sub)), V.d (D.v (Value.int IntKind.i64 t.1)), V.d (D.v (Value.int IntKind.i64 t.2)), V.d (D.v (Value.int IntKind.i64 v.1.1)), V.d (D.v (Value.int IntKind.i64 v.1.2)), V.d (D.v (Value.bool v.2)), V.d (D.v (Value.int IntKind.i64 v.3)), V.d (D.v (Value.string v.4)), V.d (D.sl (cellsL args))]), ((50005 : Nat), B.lst ((23 : Nat)) ((2 : Nat)) (List.map Ty.cs (oddsT l x) ++ [[D.v (Value.int IntKind.i64 n_1), D.v (Value.int IntKind.i64 n_2)]]))], kn := [], gd := [] : St }
  = { tm := [((1 : Nat), V.d (D.sl (List.map Ty.cs l))), ((4 : Nat), V.nil), ((5 : Nat), V.own ((50005 : Nat))), ((6 : Nat), V.d (D.v (Value.int IntKind.i64 ((2 : Int) * (↑x' : Int) + (1 : Int)))))], hp := [((2 : Nat), B.box [V.d (D.v (Value.int IntKind.i64 op)), V.d (D.v (Value.int IntKind.i64 sub)), V.d (D.v (Value.int IntKind.i64 t.1)), V.d (D.v (Value.int IntKind.i64 t.2)), V.d (D.v (Value.int IntKind.i64 v.1.1)), V.d (D.v (Value.int IntKind.i64 v.1.2)), V.d (D.v (Value.bool v.2)), V.d (D.v (Value.int IntKind.i64 v.3)), V.d (D.v (Value.string v.4)), V.d (D.sl (cellsL args))]), ((50005 : Nat), B.lst ((23 : Nat)) ((2 : Nat)) (List.map Ty.cs (oddsT l x')))], kn := [], gd := [] : St }
  ∧ inv_132 l m x') ∧ (decide ((2 : Int) * (↑x : Int) + (1 : Int) < (↑es.length : Int)) = false → ∃ (es : List (List D)), D.sl (List.map Ty.cs l) =
  D.sl es ∧ ∃ (es_1 : List (List D)), D.sl (List.map Ty.cs l) = D.sl es_1 ∧ ((0 : Int) ≤ IntKind.i64.wrap ((↑es.length : Int) - (1 : Int)) ∧
  IntKind.i64.wrap ((↑es.length : Int) - (1 : Int)) < (↑es_1.length : Int)) ∧ ∃ (cells : List D), es_1[(IntKind.i64.wrap ((↑es.length : Int) - (1 :
  Int))).toNat]? = some cells ∧ cells.length = (2 : Nat) ∧ ∃ (n : Int), ∃ (n_1 : Int), cut ((0 : Nat)) ((2 : Nat)) cells = some [D.v (Value.int
  IntKind.i64 n), D.v (Value.int IntKind.i64 n_1)] ∧ (∀ (c : List D), c ∈ [[D.v (Value.int IntKind.i64 n), D.v (Value.int IntKind.i64 n_1)]] → c.length
  = (2 : Nat)) ∧ (23 : Nat) = (23 : Nat) ∧ (2 : Nat) = (2 : Nat) ∧ (↑(List.map Ty.cs (oddsT l x)).length.succ : Int) * (↑((16 : Nat)) : Int) ≤
  (140737488355328 : Int) ∧ Q [R.d (D.sl (List.map Ty.cs (oddsT l x) ++ [[D.v (Value.int IntKind.i64 n), D.v (Value.int IntKind.i64 n_1)]]))] []))) := by kernel_rfl
/-- The type of arithmetic. -/
def arithE (op : Int) (a b : Ty) (ints : Bool) : Ty × Bool :=
  bif ints then (⟨2, 0⟩, true)
  else bif (bif op == 6 then true else op == 7) then (⟨0, 0⟩, false)
  else bif op == 8 then (a, s130_0 a.k a.sc)
  else bif (bif (bif s130_0 a.k a.sc then s130_0 b.k b.sc else false) then op == 5 else false) then (⟨3, IntKind.i64.wrap (a.sc + b.sc)⟩, decide (IntKind.i64.wrap (a.sc + b.sc) ≤ 18))
  else bif (bif s130_0 a.k a.sc then s130_0 b.k b.sc else false) then (⟨3, if b.sc > a.sc then b.sc else a.sc⟩, true)
  else bif op == 5 then (⟨0, 0⟩, false)
  else bif (bif (bif op == 4 then a.k == 5 && (a.sc == 0 && true) else false) then b.k == 5 && (b.sc == 0 && true) else false) then (⟨2, 0⟩, true)
  else (⟨5, 0⟩, bif (bif a.k == 5 && (a.sc == 0 && true) then b.k == 2 && (b.sc == 0 && true) else false) then true else bif (bif op == 3 then a.k == 2 && (a.sc == 0 && true) else false) then b.k == 5 && (b.sc == 0 && true) else false)
theorem vc133 (op : Int) (l : List Ty) (b : Bool) (Q : List R → List (List D) → Prop) : vc E_0 C_4e noI fi83 (f83.body.getD .skip) f83.results.toList [.d (.v (.int .i64 op)), .d (.sl (l.map Ty.cs)), .d (.v (.bool b))] Q = (
  ∃ (es : List (List D)), D.sl (List.map Ty.cs l) = D.sl es ∧ ((0 : Int) ≤ (0 : Int) ∧ (0 : Int) < (↑es.length : Int)) ∧ ∃ (cells : List D), es[Int.toNat
  (0 : Int)]? = some cells ∧ cells.length = (2 : Nat) ∧ ∃ (n : Int), ∃ (n_1 : Int), cut ((0 : Nat)) ((2 : Nat)) cells = some [D.v (Value.int
  IntKind.i64 n), D.v (Value.int IntKind.i64 n_1)] ∧ ∃ (es : List (List D)), D.sl (List.map Ty.cs l) = D.sl es ∧ ∃ (es_1 : List (List D)), D.sl
  (List.map Ty.cs l) = D.sl es_1 ∧ ((0 : Int) ≤ IntKind.i64.wrap ((↑es.length : Int) - (1 : Int)) ∧ IntKind.i64.wrap ((↑es.length : Int) - (1 : Int)) <
  (↑es_1.length : Int)) ∧ ∃ (cells : List D), es_1[(IntKind.i64.wrap ((↑es.length : Int) - (1 : Int))).toNat]? = some cells ∧ cells.length = (2 : Nat)
  ∧ ∃ (n_2 : Int), ∃ (n_3 : Int), cut ((0 : Nat)) ((2 : Nat)) cells = some [D.v (Value.int IntKind.i64 n_2), D.v (Value.int IntKind.i64 n_3)] ∧ ((b =
  true → Q [R.agg [D.v (Value.int IntKind.i64 (2 : Int)), D.v (Value.int IntKind.i64 (0 : Int))], R.d (D.v (Value.bool true))] []) ∧ (b = false → ((bif
  op == (6 : Int) then true else op == (7 : Int)) = true → Q [R.agg [D.v (Value.int IntKind.i64 (0 : Int)), D.v (Value.int IntKind.i64 (0 : Int))], R.d
  (D.v (Value.bool false))] []) ∧ ((bif op == (6 : Int) then true else op == (7 : Int)) = false → ((op == (8 : Int)) = true → Q [R.agg [D.v (Value.int
  IntKind.i64 n), D.v (Value.int IntKind.i64 n_1)], R.d (D.v (Value.bool (s130_0 n n_1)))] []) ∧ ((op == (8 : Int)) = false → ((bif bif s130_0 n n_1
  then s130_0 n_2 n_3 else false then op == (5 : Int) else false) = true → Q [R.agg [D.v (Value.int IntKind.i64 (3 : Int)), D.v (Value.int IntKind.i64
  (IntKind.i64.wrap (n_1 + n_3)))], R.d (D.v (Value.bool (decide (IntKind.i64.wrap (n_1 + n_3) ≤ (18 : Int)))))] []) ∧ ((bif bif s130_0 n n_1 then
  s130_0 n_2 n_3 else false then op == (5 : Int) else false) = false → ((bif s130_0 n n_1 then s130_0 n_2 n_3 else false) = true → Q [R.agg [D.v
  (Value.int IntKind.i64 (3 : Int)), D.v (Value.int IntKind.i64 (if n_3 > n_1 then n_3 else n_1))], R.d (D.v (Value.bool true))] []) ∧ ((bif s130_0 n
  n_1 then s130_0 n_2 n_3 else false) = false → ((op == (5 : Int)) = true → Q [R.agg [D.v (Value.int IntKind.i64 (0 : Int)), D.v (Value.int IntKind.i64
  (0 : Int))], R.d (D.v (Value.bool false))] []) ∧ ((op == (5 : Int)) = false → ((bif bif op == (4 : Int) then n == (5 : Int) && (n_1 == (0 : Int) &&
  true) else false then n_2 == (5 : Int) && (n_3 == (0 : Int) && true) else false) = true → Q [R.agg [D.v (Value.int IntKind.i64 (2 : Int)), D.v
  (Value.int IntKind.i64 (0 : Int))], R.d (D.v (Value.bool true))] []) ∧ ((bif bif op == (4 : Int) then n == (5 : Int) && (n_1 == (0 : Int) && true)
  else false then n_2 == (5 : Int) && (n_3 == (0 : Int) && true) else false) = false → Q [R.agg [D.v (Value.int IntKind.i64 (5 : Int)), D.v (Value.int
  IntKind.i64 (0 : Int))], R.d (D.v (Value.bool (bif bif n == (5 : Int) && (n_1 == (0 : Int) && true) then n_2 == (2 : Int) && (n_3 == (0 : Int) &&
  true) else false then true else bif bif op == (3 : Int) then n == (2 : Int) && (n_1 == (0 : Int) && true) else false then n_2 == (5 : Int) && (n_3 ==
  (0 : Int) && true) else false)))] [])))))))) ∧ (b = true → Q [R.agg [D.v (Value.int IntKind.i64 (2 : Int)), D.v (Value.int IntKind.i64 (0 : Int))],
  R.d (D.v (Value.bool true))] []) ∧ (b = false → ((bif op == (6 : Int) then true else op == (7 : Int)) = true → Q [R.agg [D.v (Value.int IntKind.i64
  (0 : Int)), D.v (Value.int IntKind.i64 (0 : Int))], R.d (D.v (Value.bool false))] []) ∧ ((bif op == (6 : Int) then true else op == (7 : Int)) = false
  → ((op == (8 : Int)) = true → Q [R.agg [D.v (Value.int IntKind.i64 n), D.v (Value.int IntKind.i64 n_1)], R.d (D.v (Value.bool (s130_0 n n_1)))] []) ∧
  ((op == (8 : Int)) = false → ((bif bif s130_0 n n_1 then s130_0 n_2 n_3 else false then op == (5 : Int) else false) = true → Q [R.agg [D.v (Value.int
  IntKind.i64 (3 : Int)), D.v (Value.int IntKind.i64 (IntKind.i64.wrap (n_1 + n_3)))], R.d (D.v (Value.bool (decide (IntKind.i64.wrap (n_1 + n_3) ≤ (18
  : Int)))))] []) ∧ ((bif bif s130_0 n n_1 then s130_0 n_2 n_3 else false then op == (5 : Int) else false) = false → ((bif s130_0 n n_1 then s130_0 n_2
  n_3 else false) = true → Q [R.agg [D.v (Value.int IntKind.i64 (3 : Int)), D.v (Value.int IntKind.i64 (if n_3 > n_1 then n_3 else n_1))], R.d (D.v
  (Value.bool true))] []) ∧ ((bif s130_0 n n_1 then s130_0 n_2 n_3 else false) = false → ((op == (5 : Int)) = true → Q [R.agg [D.v (Value.int
  IntKind.i64 (0 : Int)), D.v (Value.int IntKind.i64 (0 : Int))], R.d (D.v (Value.bool false))] []) ∧ ((op == (5 : Int)) = false → ((bif bif op == (4 :
  Int) then n == (5 : Int) && (n_1 == (0 : Int) && true) else false then n_2 == (5 : Int) && (n_3 == (0 : Int) && true) else false) = true → Q [R.agg
  [D.v (Value.int IntKind.i64 (2 : Int)), D.v (Value.int IntKind.i64 (0 : Int))], R.d (D.v (Value.bool true))] []) ∧ ((bif bif op == (4 : Int) then n
  == (5 : Int) && (n_1 == (0 : Int) && true) else false then n_2 == (5 : Int) && (n_3 == (0 : Int) && true) else false) = false → Q [R.agg [D.v
  (Value.int IntKind.i64 (5 : Int)), D.v (Value.int IntKind.i64 (0 : Int))], R.d (D.v (Value.bool (bif bif n == (5 : Int) && (n_1 == (0 : Int) && true)
  then n_2 == (2 : Int) && (n_3 == (0 : Int) && true) else false then true else bif bif op == (3 : Int) then n == (2 : Int) && (n_1 == (0 : Int) &&
  true) else false then n_2 == (5 : Int) && (n_3 == (0 : Int) && true) else false)))] [])))))))) := by kernel_rfl
def E_7 : Env := { E_0 with bw := [35] }
theorem vc127 (l : List (List D)) (k : Int) (Q : List R → List (List D) → Prop) : vc E_7 C_4e noI fi77 (f77.body.getD .skip) f77.results.toList [.d (.v (.int .i64 k)), .ptr [.sl l]] Q = (
  ∃ (es : List (List D)), some [D.sl l] = some [D.sl es] ∧ ∃ (l : List Ty), es = List.map Ty.cs l ∧ l.length < (4611686018427387904 : Nat) ∧ Q [R.d (D.v
  (Value.bool !l.any (offK k)))] []) := by kernel_rfl
theorem ty_get {l : List Ty} {i : Nat} (hi : i < l.length) : (l.map Ty.cs)[i]? = some (Ty.cs l[i]) := by simp [hi]
theorem ty_all (l : List Ty) : ∀ c ∈ l.map Ty.cs, c.length = 2 := by
  intro c hc
  obtain ⟨t, _, rfl⟩ := List.mem_map.1 hc; rfl
theorem cfold_next {a : Ty} {r : List Ty} {x : Nat} (hi : x < r.length) : cfold a (r.take (x + 1)) = cstep (cfold a (r.take x)) r[x] := by
  unfold cfold
  rw [List.take_add_one, List.getElem?_eq_getElem hi, List.foldl_append]
  rfl
theorem ct131 (a : Ty) (r : List Ty) (hl : r.length < 4611686018427387904) : Ct prog gl 81 [.d (.sl ((a :: r).map Ty.cs))] (gives [.agg (cfold a r).1.cs, .d (.v (.bool (cfold a r).2))]) := by
  refine ct_of_vc E_ok C_4e_ok ioK_no it_ok mixed (fn := f81) (body := f81.body.getD .skip) (by kernel_rfl) (by kernel_rfl) (by kernel_rfl) (fi := fx_131 a r) (by kernel_rfl) (by kernel_rfl) ⟨_, _, rfl, rfl⟩ ?_
  rw [vc131]
  have hd : List.drop 1 (List.take (Ty.cs a :: List.map Ty.cs r).length (Ty.cs a :: List.map Ty.cs r)) = r.map Ty.cs := by rw [List.take_length]; rfl
  refine ⟨_, rfl, ⟨by decide, by rw [List.length_cons]; omega⟩, Ty.cs a, rfl, rfl, a.k, a.sc, rfl, _, rfl, 1, _, rfl, rfl, by simp, Nat.le_refl _, ty_all (a :: r), r.map Ty.cs, by rw [hd], (0 : Nat), ⟨by rw [hd]; rfl, r.length, Nat.zero_le _, rfl⟩, fun m (x : Nat) hx => ⟨fun hi => ?_, fun hi => ?_⟩⟩
  · have hi : x < r.length := by simpa using hi
    have hg := ty_get hi
    have hm := hx.2
    have e0 := cfold_next (a := a) hi
    unfold cstep at e0
    refine ⟨_, rfl, ⟨by omega, by simpa using hi⟩, _, hg, rfl, r[x].k, r[x].sc, rfl, fun h => ?_, fun h => ⟨fun h2 => ?_, fun h2 => ?_⟩⟩
    · have h' : (r[x].k == (cfold a (r.take x)).1.k && (r[x].sc == (cfold a (r.take x)).1.sc && true)) = true := h
      rw [h', cond_true] at e0
      exact ⟨r.length - (x + 1), x + 1, by omega, by rw [e0, wrap_next (by omega)], hi, rfl⟩
    · have h' : (r[x].k == (cfold a (r.take x)).1.k && (r[x].sc == (cfold a (r.take x)).1.sc && true)) = false := h
      have h2' : (bif s130_0 r[x].k r[x].sc then s130_0 (cfold a (r.take x)).1.k (cfold a (r.take x)).1.sc else false) = true := h2
      rw [h', cond_false, h2', cond_true] at e0
      exact ⟨r.length - (x + 1), x + 1, by omega, by rw [e0, wrap_next (by omega)], hi, rfl⟩
    · have h' : (r[x].k == (cfold a (r.take x)).1.k && (r[x].sc == (cfold a (r.take x)).1.sc && true)) = false := h
      have h2' : (bif s130_0 r[x].k r[x].sc then s130_0 (cfold a (r.take x)).1.k (cfold a (r.take x)).1.sc else false) = false := h2
      rw [h', cond_false, h2', cond_false] at e0
      exact ⟨r.length - (x + 1), x + 1, by omega, by rw [e0, wrap_next (by omega)], hi, rfl⟩
  · have hi : ¬ x < r.length := by simpa using hi
    rw [List.take_of_length_le (by omega)]
    exact ⟨rfl, rfl⟩
theorem odds_next {l : List Ty} {x : Nat} (hi : 2 * x + 1 < l.length) : (oddsT l x).map Ty.cs ++ [Ty.cs l[2 * x + 1]] = (oddsT l (x + 1)).map Ty.cs := by
  unfold oddsT
  rw [List.range_succ, List.map_append, List.map_append]
  simp only [List.map_cons, List.map_nil, List.getD_eq_getElem?_getD, List.getElem?_eq_getElem hi, Option.getD_some]
theorem ct132 (op sub : Int) (t : Ty) (v : Go.Ex.AV) (args : List EX) (l : List Ty) (hl : l.length ≤ 1353245080300) (hn : l ≠ []) : Ct prog gl 82 [.agg (encX op sub t v (cellsL args)), .d (.sl (l.map Ty.cs))] (gives [.d (.sl ((resultsE op l).map Ty.cs))]) := by
  refine ct_of_vc E_ok C_4e_ok ioK_no it_ok mixed (fn := f82) (body := f82.body.getD .skip) (by kernel_rfl) (by kernel_rfl) (by kernel_rfl) (fi := fx_132 op sub t v args l) (by kernel_rfl) (by kernel_rfl) ⟨_, _, rfl, rfl⟩ ?_
  rw [vc132]
  have hpos : 0 < l.length := List.length_pos_iff.2 hn
  refine ⟨fun ho => ?_, fun ho => ⟨(0 : Nat), ⟨rfl, l.length, Nat.zero_le _, rfl⟩, fun m (x : Nat) hx => ⟨_, rfl, fun hi => ?_, fun hi => ?_⟩⟩⟩
  · have ho : op = 15 := by simpa using ho
    unfold resultsE
    rw [if_pos ho]
    exact ⟨rfl, rfl⟩
  · have hi : 2 * x + 1 < l.length := by
      have := of_decide_eq_true hi
      rw [List.length_map] at this
      omega
    have hg := ty_get hi
    have hi' : (2 * (x : Int) + 1).toNat = 2 * x + 1 := by omega
    have hm := hx.2
    refine ⟨_, rfl, ⟨by omega, by rw [List.length_map]; omega⟩, _, (by rw [hi']; exact hg), rfl, l[2 * x + 1].k, l[2 * x + 1].sc, rfl, by simp, rfl, rfl, ?_, l.length - (x + 1), x + 1, by omega, ?_, by show x + 1 ≤ l.length / 2; omega, rfl⟩
    · rw [List.length_map]; simp only [oddsT, List.length_map, List.length_range]; omega
    · have w : IntKind.i64.wrap (2 * ((x : Nat) : Int) + 1 + 2) = 2 * ((x + 1 : Nat) : Int) + 1 := by rw [wrap_i64_of (by omega) (by omega)]; omega
      rw [w, ← odds_next hi]
  · have hi : ¬ 2 * x + 1 < l.length := by
      have := of_decide_eq_false hi
      rw [List.length_map] at this
      omega
    have ho : op ≠ 15 := by simpa using ho
    have hx1 : x = l.length / 2 := by have := hx.1; omega
    have hlt : l.length - 1 < l.length := by omega
    have hg := ty_get hlt
    have w : IntKind.i64.wrap (((List.map Ty.cs l).length : Int) - 1) = ((l.length - 1 : Nat) : Int) := by rw [List.length_map, wrap_i64_of (by omega) (by omega)]; omega
    refine ⟨_, rfl, _, rfl, ⟨by rw [w]; omega, by rw [w, List.length_map]; omega⟩, _, (by rw [w, Int.toNat_natCast]; exact hg), rfl, l[l.length - 1].k, l[l.length - 1].sc, rfl, by simp, rfl, rfl, ?_, ?_, rfl⟩
    · rw [List.length_map]; simp only [oddsT, List.length_map, List.length_range]; omega
    · unfold resultsE
      rw [if_neg ho, ← hx1, List.map_append]
      simp only [List.map_cons, List.map_nil, List.getD_eq_getElem?_getD, List.getElem?_eq_getElem hlt, Option.getD_some]
theorem ct133 (op : Int) (l : List Ty) (b : Bool) (x y : Ty) (hx : l[0]? = some x) (hy : l[l.length - 1]? = some y) (hl : l.length ≤ 1353245080300) : Ct prog gl 83 [.d (.v (.int .i64 op)), .d (.sl (l.map Ty.cs)), .d (.v (.bool b))] (gives [.agg (arithE op x y b).1.cs, .d (.v (.bool (arithE op x y b).2))]) := by
  refine ct_of_vc E_ok C_4e_ok ioK_no it_ok mixed (fn := f83) (body := f83.body.getD .skip) (by kernel_rfl) (by kernel_rfl) (by kernel_rfl) (fi := fi83) (by kernel_rfl) (by kernel_rfl) ⟨_, _, rfl, rfl⟩ ?_
  rw [vc133]
  have h0 := (List.getElem?_eq_some_iff.1 hx).1
  have w : IntKind.i64.wrap (((List.map Ty.cs l).length : Int) - 1) = ((l.length - 1 : Nat) : Int) := by rw [List.length_map, wrap_i64_of (by omega) (by omega)]; omega
  have g0 : (l.map Ty.cs)[Int.toNat 0]? = some (Ty.cs x) := by
    show (l.map Ty.cs)[0]? = _
    rw [List.getElem?_map, hx]; rfl
  have g1 : (l.map Ty.cs)[(IntKind.i64.wrap (((List.map Ty.cs l).length : Int) - 1)).toNat]? = some (Ty.cs y) := by
    rw [w, Int.toNat_natCast, List.getElem?_map, hy]; rfl
  have fin : ∀ (a a' : Int) (c : Bool), arithE op x y b = (⟨a, a'⟩, c) → gives [.agg (arithE op x y b).1.cs, .d (.v (.bool (arithE op x y b).2))] [R.agg [D.v (Value.int IntKind.i64 a), D.v (Value.int IntKind.i64 a')], R.d (D.v (Value.bool c))] [] := fun a a' c h => by rw [h]; exact ⟨rfl, rfl⟩
  refine ⟨_, rfl, ⟨by decide, by rw [List.length_map]; omega⟩, _, g0, rfl, x.k, x.sc, rfl, _, rfl, _, rfl, ⟨by rw [w]; omega, by rw [w, List.length_map]; omega⟩, _, g1, rfl, y.k, y.sc, rfl, ?_⟩
  repeat' first | (refine And.intro (fun h => ?_) (fun h => ?_)) | (refine And.intro ?_ (And.intro (fun h => ?_) (fun h => ?_))) | fail
  all_goals (refine fin _ _ _ ?_; clear fin; first | (simp only [arithE, *, cond_true, cond_false]; done) | (simp_all only [arithE, cond_true, cond_false]; done))
theorem ct127 (l : List Ty) (k : Int) (hl : l.length < 4611686018427387904) : Ct prog gl 77 [.d (.v (.int .i64 k)), .ptr [.sl (l.map Ty.cs)]] (gives [.d (.v (.bool (!l.any (offK k))))]) := by
  refine ct_of_vc (E := E_7) ⟨E_ok.te⟩ C_4e_ok ioK_no (fun _ _ _ h => h.elim) mixed (fn := f77) (body := f77.body.getD .skip) (by kernel_rfl) (by kernel_rfl) (by kernel_rfl) (fi := fi77) (by kernel_rfl) (by kernel_rfl) ⟨_, _, rfl, rfl⟩ ?_
  rw [vc127]
  exact ⟨_, rfl, l, rfl, hl, rfl, rfl⟩
end Go.Proofs.Tryz
