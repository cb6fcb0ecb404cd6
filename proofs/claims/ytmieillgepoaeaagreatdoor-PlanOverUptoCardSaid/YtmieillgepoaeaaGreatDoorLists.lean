/- A part of the proof: contracts of functions, by a verified generator of conditions; no condition of its own. -/
import Derived.Test.YtmieillgepoaeaaGreatDoorB6
import Derived.Test.YtmieillgepoaeaaGreatDoorDm21
namespace Go.Proofs.Tryz
open Go Go.Dm Go.Ex
set_option maxRecDepth 100000
variable {gl : Nat → Option Obj}
def c_127 (a : List R) (K : List R → List (List D) → Prop) : Prop := match a with
  | [.d (.v (.int .i64 k)), .ptr [.sl x]] => ∃ l : List Ty, x = l.map Ty.cs ∧ l.length < 4611686018427387904 ∧ K [.d (.v (.bool (!l.any (offK k))))] []
  | _ => False
theorem c_127_ok (a : List R) (K : List R → List (List D) → Prop) (h : c_127 a K) : Ct prog gl 75 a K := by
  unfold c_127 at h
  split at h
  · obtain ⟨l, rfl, h1, h2⟩ := h
    exact (ct127 l _ h1).gives h2
  · exact h.elim
def c_131 (a : List R) (K : List R → List (List D) → Prop) : Prop := match a with
  | [.d (.sl x)] => ∃ (a : Ty) (r : List Ty), x = (a :: r).map Ty.cs ∧ r.length < 4611686018427387904 ∧ K [.agg (cfold a r).1.cs, .d (.v (.bool (cfold a r).2))] []
  | _ => False
theorem c_131_ok (a : List R) (K : List R → List (List D) → Prop) (h : c_131 a K) : Ct prog gl 79 a K := by
  unfold c_131 at h
  split at h
  · obtain ⟨a, r, rfl, h1, h2⟩ := h
    exact (ct131 a r h1).gives h2
  · exact h.elim
def c_132 (a : List R) (K : List R → List (List D) → Prop) : Prop := match a with
  | [.agg x, .d (.sl y)] => ∃ (op sub : Int) (t : Ty) (v : Go.Ex.AV) (args : List EX) (l : List Ty), x = encX op sub t v (cellsL args) ∧ y = l.map Ty.cs ∧ l.length ≤ 1353245080300 ∧ l ≠ [] ∧ K [.d (.sl ((resultsE op l).map Ty.cs))] []
  | _ => False
theorem c_132_ok (a : List R) (K : List R → List (List D) → Prop) (h : c_132 a K) : Ct prog gl 80 a K := by
  unfold c_132 at h
  split at h
  · obtain ⟨op, sub, t, v, args, l, rfl, rfl, h1, h2, h3⟩ := h
    exact (ct132 op sub t v args l h1 h2).gives h3
  · exact h.elim
def c_133 (a : List R) (K : List R → List (List D) → Prop) : Prop := match a with
  | [.d (.v (.int .i64 op)), .d (.sl y), .d (.v (.bool b))] => ∃ (l : List Ty) (u w : Ty), y = l.map Ty.cs ∧ l[0]? = some u ∧ l[l.length - 1]? = some w ∧ l.length ≤ 1353245080300 ∧ K [.agg (arithE op u w b).1.cs, .d (.v (.bool (arithE op u w b).2))] []
  | _ => False
theorem c_133_ok (a : List R) (K : List R → List (List D) → Prop) (h : c_133 a K) : Ct prog gl 81 a K := by
  unfold c_133 at h
  split at h
  · obtain ⟨l, u, w, rfl, h1, h2, h3, h4⟩ := h
    exact (ct133 _ l _ u w h1 h2 h3).gives h4
  · exact h.elim
def C_f7 : CallT := addC (addC (addC (addC C_4e 75 c_127) 79 c_131) 80 c_132) 81 c_133
def truthT (t : Ty) : Bool := t.k == (1 : Int) && (t.sc == (0 : Int) && true)
/-- Are the conditions truths? -/
def okJ (l : List Ty) (j : Nat) : Bool := (List.range j).all fun k => truthT (l.getD (2 * k) ⟨0, 0⟩)
/-- The type of a node of given parts. -/
def typedN (cols : List Ty) (op sub : Int) (t : Ty) (v : Go.Ex.AV) (l : List Ty) : Ty × Bool :=
  if op = 1 then (cols.getD sub.toNat ⟨0, 0⟩, true)
  else if op = 2 then (v.t, true)
  else if op = 9 then (⟨1, 0⟩, s129_0 (l.getD 0 ⟨0, 0⟩).k (l.getD 0 ⟨0, 0⟩).sc (l.getD 1 ⟨0, 0⟩).k (l.getD 1 ⟨0, 0⟩).sc)
  else if op = 10 ∨ op = 11 ∨ op = 12 then (⟨1, 0⟩, !l.any (offK 1))
  else if op = 13 then (⟨1, 0⟩, true)
  else if op = 17 then (⟨4, 0⟩, !l.any (offK 4))
  else if op = 18 then (⟨2, 0⟩, !l.any (offK 4))
  else if op = 16 then (t, bif (bif (bif t.k == (l.getD 0 ⟨0, 0⟩).k then true else t.k == 4) then true else (l.getD 0 ⟨0, 0⟩).k == 4) then true else bif s130_0 (l.getD 0 ⟨0, 0⟩).k (l.getD 0 ⟨0, 0⟩).sc then s130_0 t.k t.sc else false)
  else if op = 14 ∨ op = 15 then
    match resultsE op l with
    | [] => (⟨0, 0⟩, false)
    | a :: r => ((cfold a r).1, (cfold a r).2 && (decide (op = 15) || okJ l (l.length / 2)))
  else arithE op (l.getD 0 ⟨0, 0⟩) (l.getD (l.length - 1) ⟨0, 0⟩) (!l.any (offK 2))
mutual
/-- The type of an expression over columns. -/
def typedE (cols : List Ty) : EX → Ty × Bool
  | .mk op sub t v args => match typedL cols args with
    | none => (⟨0, 0⟩, false)
    | some l => typedN cols op sub t v l
def typedL (cols : List Ty) : List EX → Option (List Ty)
  | [] => some []
  | e :: r => match typedE cols e, typedL cols r with
    | (t, true), some l => some (t :: l)
    | _, _ => none
end
def c_64 (n : Nat) (a : List R) (K : List R → List (List D) → Prop) : Prop := match a with
  | [.agg x, .d (.sl y)] => ∃ (e : EX) (cols : List Ty), x = cells e ∧ y = cols.map Ty.cs ∧ size e < n ∧ fits e ∧ mayE cols.length e = true ∧ cols.length ≤ 4398046511104 ∧
      (∀ (t : Ty) (ok : Bool), typedE cols e = (t, ok) → K [.agg t.cs, .d (.v (.bool ok))] [])
  | _ => False
def C_f64 (n : Nat) : CallT := addC C_f7 44 (c_64 n)
def E_8 : Env := { E_0 with bw := [75] }
structure TX where
  i : Nat
  l : List Ty
def st_64 (op sub : Int) (t : Ty) (v : Go.Ex.AV) (args : List EX) (cols : List Ty) (x : TX) : St := { tm := [(1, .d (.sl (cols.map Ty.cs))), (2, .ref 2 0), (4, .ref 4 0), (5, .d (.v (.bool false))), (6, .ref 6 0), (20, .d (.sl (cellsL args))), (21, .d (.v (.int .i64 ((cellsL args).length : Int)))), (22, .d (.v (.int .i64 (x.i : Int))))], hp := [(2, .box [.d (.v (.int .i64 op)), .d (.v (.int .i64 sub)), .d (.v (.int .i64 t.k)), .d (.v (.int .i64 t.sc)), .d (.v (.int .i64 v.t.k)), .d (.v (.int .i64 v.t.sc)), .d (.v (.bool v.nul)), .d (.v (.int .i64 v.n)), .d (.v (.string v.s)), .d (.sl (cellsL args))]), (4, .box [.d (.v (.int .i64 0)), .d (.v (.int .i64 0))]), (6, .box [.own 50006]), (50006, .lst 31 2 (x.l.map Ty.cs))], kn := [], gd := [] }
def inv_64 (cols : List Ty) (args : List EX) (m : Nat) (x : TX) : Prop := (x.i ≤ args.length ∧ m = args.length - x.i) ∧ typedL cols (args.take x.i) = some x.l ∧ x.l.length = x.i
structure TY where
  l : List Ty
  t : Ty
  ok : Bool
  j : Nat
def st_64b (op sub : Int) (t : Ty) (v : Go.Ex.AV) (args : List EX) (y : TY) : St := { tm := [(2, .ref 2 0), (4, .ref 4 0), (5, .d (.v (.bool false))), (6, .ref 6 0), (11, .ref 11 0), (13, .fn 75 [.ref 6 0]), (16, .ref 16 0), (17, .d (.v (.bool (bif y.ok then okJ y.l y.j else false)))), (18, .d (.v (.int .i64 (2 * (y.j : Int)))))], hp := [(2, .box [.d (.v (.int .i64 op)), .d (.v (.int .i64 sub)), .d (.v (.int .i64 t.k)), .d (.v (.int .i64 t.sc)), .d (.v (.int .i64 v.t.k)), .d (.v (.int .i64 v.t.sc)), .d (.v (.bool v.nul)), .d (.v (.int .i64 v.n)), .d (.v (.string v.s)), .d (.sl (cellsL args))]), (4, .box [.d (.v (.int .i64 0)), .d (.v (.int .i64 0))]), (6, .box [.own 50006]), (11, .box [.d (.v (.int .i64 1)), .d (.v (.int .i64 0))]), (12, .box [.d (.v (.int .i64 2)), .d (.v (.int .i64 0))]), (16, .box [.d (.v (.int .i64 y.t.k)), .d (.v (.int .i64 y.t.sc))]), (50006, .fro 2 (y.l.map Ty.cs))], kn := [], gd := [] }
def inv_64b (op : Int) (y0 : TY) (m : Nat) (y : TY) : Prop := y.l = y0.l ∧ y.t = y0.t ∧ y.ok = y0.ok ∧ y.j ≤ y.l.length / 2 ∧ m = y.l.length - y.j ∧ (op = 14 ∨ y.j = 0)
def fx_64 (op sub : Int) (t : Ty) (v : Go.Ex.AV) (args : List EX) (cols : List Ty) : Fi := { fi44 with cv := [(3, [⟨some 6, 0, 50006, 31, 2⟩])], lx := [(3, { X := TX, sh := st_64 op sub t v args cols, P := fun _ => inv_64 cols args }), (36, { X := TY, sh := st_64b op sub t v args, P := inv_64b op })] }
theorem vc64 (n : Nat) (op sub : Int) (t : Ty) (v : Go.Ex.AV) (args : List EX) (cols : List Ty) (Q : List R → List (List D) → Prop) : vc E_8 (C_f64 n) noI (fx_64 op sub t v args cols) (f44.body.getD .skip) f44.results.toList [.agg (encX op sub t v (cellsL args)), .d (.sl (cols.map Ty.cs))] Q = ( ∃ (es : List (List D)), D.sl (cellsL args) = D.sl es ∧ ∃ (x0 : { X := TX, sh := st_64 op sub t v args cols, P := fun (x : TX) => inv_64 cols args : LX }.X), ({ tm := [((1 : Nat), V.d (D.sl (List.map Ty.cs cols))), ((2 : Nat), V.ref ((2 : Nat)) ((0 : Nat))), ((4 : Nat), V.ref ((4 : Nat)) ((0 : Nat))), ((5 : Nat), V.d (D.v (Value.bool false))), ((6 : Nat), V.ref ((6 : Nat)) ((0 : Nat))), ((20 : Nat), V.d (D.sl (cellsL args))), ((21 : Nat), V.d (D.v (Value.int .i64 (↑es.length : Int)))), ((22 : Nat), V.d (D.v (Value.int .i64 0)))], hp := [((2 : Nat), B.box [V.d (D.v (Value.int .i64 op)), V.d (D.v (Value.int .i64 sub)), V.d (D.v (Value.int .i64 t.1)), V.d (D.v (Value.int .i64 t.2)), V.d (D.v (Value.int .i64 v.1.1)), V.d (D.v (Value.int .i64 v.1.2)), V.d (D.v (Value.bool v.2)), V.d (D.v (Value.int .i64 v.3)), V.d (D.v (Value.string v.4)), V.d (D.sl (cellsL args))]), ((4 : Nat), B.box [V.d (D.v (Value.int .i64 0)), V.d (D.v (Value.int .i64 0))]), ((6 : Nat), B.box [V.own ((50006 : Nat))]), ((50006 : Nat), B.lst ((31 : Nat)) ((2 : Nat)) [])], kn := [], gd := [] : St } = { tm := [((1 : Nat), V.d (D.sl (List.map Ty.cs cols))), ((2 : Nat), V.ref ((2 : Nat)) ((0 : Nat))), ((4 : Nat), V.ref ((4 : Nat)) ((0 : Nat))), ((5 : Nat), V.d (D.v (Value.bool false))), ((6 : Nat), V.ref ((6 : Nat)) ((0 : Nat))), ((20 : Nat), V.d (D.sl (cellsL args))), ((21 : Nat), V.d (D.v (Value.int .i64 (↑(cellsL args).length : Int)))), ((22 : Nat), V.d (D.v (Value.int .i64 (↑x0.1 : Int))))], hp := [((2 : Nat), B.box [V.d (D.v (Value.int .i64 op)), V.d (D.v (Value.int .i64 sub)), V.d (D.v (Value.int .i64 t.1)), V.d (D.v (Value.int .i64 t.2)), V.d (D.v (Value.int .i64 v.1.1)), V.d (D.v (Value.int .i64 v.1.2)), V.d (D.v (Value.bool v.2)), V.d (D.v (Value.int .i64 v.3)), V.d (D.v (Value.string v.4)), V.d (D.sl (cellsL args))]), ((4 : Nat), B.box [V.d (D.v (Value.int .i64 0)), V.d (D.v (Value.int .i64 0))]), ((6 : Nat), B.box [V.own ((50006 : Nat))]), ((50006 : Nat), B.lst ((31 : Nat)) ((2 : Nat)) (List.map Ty.cs x0.2))], kn := [], gd := [] : St } ∧ ∃ (n : Nat), inv_64 cols args n x0) ∧ ∀ (n_1 : Nat) (x : { X := TX, sh := st_64 op sub t v args cols, P := fun (x : TX) => inv_64 cols args : LX }.X), inv_64 cols args n_1 x → (decide ((↑x.1 : Int) < (↑(cellsL args).length : Int)) = true → ∃ (es : List (List D)), D.sl (cellsL args) = D.sl es ∧ ((0 : Int) ≤ (↑x.1 : Int) ∧ (↑x.1 : Int) < (↑es.length : Int)) ∧ ∃ (cells : List D), es[(↑x.1 : Int).toNat]? = some cells ∧ cells.length = (10 : Nat) ∧ ∃ (n_2 : Int), ∃ (n_3 : Int), ∃ (n_4 : Int), ∃ (n_5 : Int), ∃ (n_6 : Int), ∃ (n_7 : Int), ∃ (b : Bool), ∃ (n_8 : Int), ∃ (b_1 : ByteArray), ∃ (es : List (List D)), cut ((0 : Nat)) ((10 : Nat)) cells = some [D.v (Value.int .i64 n_2), D.v (Value.int .i64 n_3), D.v (Value.int .i64 n_4), D.v (Value.int .i64 n_5), D.v (Value.int .i64 n_6), D.v (Value.int .i64 n_7), D.v (Value.bool b), D.v (Value.int .i64 n_8), D.v (Value.string b_1), D.sl es] ∧ ∃ (e : EX), ∃ (cols_1 : List Ty), [D.v (Value.int .i64 n_2), D.v (Value.int .i64 n_3), D.v (Value.int .i64 n_4), D.v (Value.int .i64 n_5), D.v (Value.int .i64 n_6), D.v (Value.int .i64 n_7), D.v (Value.bool b), D.v (Value.int .i64 n_8), D.v (Value.string b_1), D.sl es] = Ex.cells e ∧ List.map Ty.cs cols = List.map Ty.cs cols_1 ∧ size e < n ∧ fits e ∧ mayE (↑cols_1.length : Int) e = true ∧ cols_1.length ≤ (4398046511104 : Nat) ∧ ∀ (t_1 : Ty) (ok : Bool), typedE cols_1 e = (t_1, ok) → ((!ok) = true → Q [.agg [.v (.int .i64 0), .v (.int .i64 0)], .d (.v (.bool false))] []) ∧ ((!ok) = false → (∀ (c : List D), c ∈ [[D.v (Value.int .i64 t_1.1), D.v (Value.int .i64 t_1.2)]] → c.length = (2 : Nat)) ∧ (31 : Nat) = (31 : Nat) ∧ (2 : Nat) = (2 : Nat) ∧ (↑(List.map Ty.cs x.2).length.succ : Int) * (↑((16 : Nat)) : Int) ≤ (140737488355328 : Int) ∧ ∃ (m : Nat), ∃ (x' : { X := TX, sh := st_64 op sub t v args cols, P := fun (x : TX) => inv_64 cols args : LX }.X), m < n_1 ∧ { tm := [((1 : Nat), V.d (D.sl (List.map Ty.cs cols))), ((2 : Nat), V.ref ((2 : Nat)) ((0 : Nat))), ((4 : Nat), V.ref ((4 : Nat)) ((0 : Nat))), ((5 : Nat), V.d (D.v (Value.bool false))), ((6 : Nat), V.ref ((6 : Nat)) ((0 : Nat))), ((20 : Nat), V.d (D.sl (cellsL args))), ((21 : Nat), V.d (D.v (Value.int .i64 (↑(cellsL args).length : Int)))), ((22 : Nat), V.d (D.v (Value.int .i64 (IntKind.i64.wrap ((↑x.1 : Int) + (1 : Int))))))], hp := [((2 : Nat), B.box [V.d (D.v (Value.int .i64 op)), V.d (D.v (Value.int .i64 sub)), V.d (D.v (Value.int .i64 t.1)), V.d (D.v (Value.int .i64 t.2)), V.d (D.v (Value.int .i64 v.1.1)), V.d (D.v (Value.int .i64 v.1.2)), V.d (D.v (Value.bool v.2)), V.d (D.v (Value.int .i64 v.3)), V.d (D.v (Value.string v.4)), V.d (D.sl (cellsL args))]), ((4 : Nat), B.box [V.d (D.v (Value.int .i64 0)), V.d (D.v (Value.int .i64 0))]), ((6 : Nat), B.box [V.own ((50006 : Nat))]), ((50006 : Nat), B.lst ((31 : Nat)) ((2 : Nat)) (List.map Ty.cs x.2 ++ [[D.v (Value.int .i64 t_1.1), D.v (Value.int .i64 t_1.2)]]))], kn := [], gd := [] : St } = { tm := [((1 : Nat), V.d (D.sl (List.map Ty.cs cols))), ((2 : Nat), V.ref ((2 : Nat)) ((0 : Nat))), ((4 : Nat), V.ref ((4 : Nat)) ((0 : Nat))), ((5 : Nat), V.d (D.v (Value.bool false))), ((6 : Nat), V.ref ((6 : Nat)) ((0 : Nat))), ((20 : Nat), V.d (D.sl (cellsL args))), ((21 : Nat), V.d (D.v (Value.int .i64 (↑(cellsL args).length : Int)))), ((22 : Nat), V.d (D.v (Value.int .i64 (↑x'.1 : Int))))], hp := [((2 : Nat), B.box [V.d (D.v (Value.int .i64 op)), V.d (D.v (Value.int .i64 sub)), V.d (D.v (Value.int .i64 t.1)), V.d (D.v (Value.int .i64 t.2)), V.d (D.v (Value.int .i64 v.1.1)), V.d (D.v (Value.int .i64 v.1.2)), V.d (D.v (Value.bool v.2)), V.d (D.v (Value.int .i64 v.3)), V.d (D.v (Value.string v.4)), V.d (D.sl (cellsL args))]), ((4 : Nat), B.box [V.d (D.v (Value.int .i64 0)), V.d (D.v (Value.int .i64 0))]), ((6 : Nat), B.box [V.own ((50006 : Nat))]), ((50006 : Nat), B.lst ((31 : Nat)) ((2 : Nat)) (List.map Ty.cs x'.2))], kn := [], gd := [] : St } ∧ inv_64 cols args m x')) ∧ (decide ((↑x.1 : Int) < (↑(cellsL args).length : Int)) = false → ((op == (1 : Int)) = true → ∃ (es : List (List D)), D.sl (List.map Ty.cs cols) = D.sl es ∧ ((0 : Int) ≤ sub ∧ sub < (↑es.length : Int)) ∧ ∃ (cells : List D), es[sub.toNat]? = some cells ∧ cells.length = (2 : Nat) ∧ ∃ (n : Int), ∃ (n_2 : Int), cut ((0 : Nat)) ((2 : Nat)) cells = some [D.v (Value.int .i64 n), D.v (Value.int .i64 n_2)] ∧ Q [.agg [.v (.int .i64 n), .v (.int .i64 n_2)], .d (.v (.bool true))] []) ∧ ((op == (1 : Int)) = false → ((op == (2 : Int)) = true → Q [.agg [.v (.int .i64 v.1.1), .v (.int .i64 v.1.2)], .d (.v (.bool true))] []) ∧ ((op == (2 : Int)) = false → ((op == (9 : Int)) = true → ((0 : Int) ≤ (0 : Int) ∧ (0 : Int) < (↑(List.map Ty.cs x.2).length : Int)) ∧ (2 : Nat) = (2 : Nat) ∧ ∃ (cells : List D), (List.map Ty.cs x.2)[Int.toNat (0 : Int)]? = some cells ∧ ∃ (n : Int), ∃ (n_2 : Int), cut ((0 : Nat)) ((2 : Nat)) cells = some [D.v (Value.int .i64 n), D.v (Value.int .i64 n_2)] ∧ ((0 : Int) ≤ (1 : Int) ∧ (1 : Int) < (↑(List.map Ty.cs x.2).length : Int)) ∧ (2 : Nat) = (2 : Nat) ∧ ∃ (cells : List D), (List.map Ty.cs x.2)[Int.toNat (1 : Int)]? = some cells ∧ ∃ (n_3 : Int), ∃ (n_4 : Int), cut ((0 : Nat)) ((2 : Nat)) cells = some [D.v (Value.int .i64 n_3), D.v (Value.int .i64 n_4)] ∧ Q [.agg [.v (.int .i64 1), .v (.int .i64 0)], .d (.v (.bool (s129_0 n n_2 n_3 n_4)))] []) ∧ ((op == (9 : Int)) = false → ((op == (10 : Int)) = true → ∃ (l : List Ty), List.map Ty.cs x.2 = List.map Ty.cs l ∧ l.length < (4611686018427387904 : Nat) ∧ Q [.agg [.v (.int .i64 1), .v (.int .i64 0)], .d (.v (.bool !l.any (offK (1 : Int))))] []) ∧ ((op == (10 : Int)) = false → ((op == (11 : Int)) = true → ∃ (l : List Ty), List.map Ty.cs x.2 = List.map Ty.cs l ∧ l.length < (4611686018427387904 : Nat) ∧ Q [.agg [.v (.int .i64 1), .v (.int .i64 0)], .d (.v (.bool !l.any (offK (1 : Int))))] []) ∧ ((op == (11 : Int)) = false → ((op == (12 : Int)) = true → ∃ (l : List Ty), List.map Ty.cs x.2 = List.map Ty.cs l ∧ l.length < (4611686018427387904 : Nat) ∧ Q [.agg [.v (.int .i64 1), .v (.int .i64 0)], .d (.v (.bool !l.any (offK (1 : Int))))] []) ∧ ((op == (12 : Int)) = false → ((op == (13 : Int)) = true → Q [.agg [.v (.int .i64 1), .v (.int .i64 0)], .d (.v (.bool true))] []) ∧ ((op == (13 : Int)) = false → ((op == (17 : Int)) = true → ∃ (l : List Ty), List.map Ty.cs x.2 = List.map Ty.cs l ∧ l.length < (4611686018427387904 : Nat) ∧ Q [.agg [.v (.int .i64 4), .v (.int .i64 0)], .d (.v (.bool !l.any (offK (4 : Int))))] []) ∧ ((op == (17 : Int)) = false → ((op == (18 : Int)) = true → ∃ (l : List Ty), List.map Ty.cs x.2 = List.map Ty.cs l ∧ l.length < (4611686018427387904 : Nat) ∧ Q [.agg [.v (.int .i64 2), .v (.int .i64 0)], .d (.v (.bool !l.any (offK (4 : Int))))] []) ∧ ((op == (18 : Int)) = false → ((op == (16 : Int)) = true → ((0 : Int) ≤ (0 : Int) ∧ (0 : Int) < (↑(List.map Ty.cs x.2).length : Int)) ∧ (2 : Nat) = (2 : Nat) ∧ ∃ (cells : List D), (List.map Ty.cs x.2)[Int.toNat (0 : Int)]? = some cells ∧ ∃ (n : Int), ∃ (n_2 : Int), cut ((0 : Nat)) ((2 : Nat)) cells = some [D.v (Value.int .i64 n), D.v (Value.int .i64 n_2)] ∧ Q [.agg [.v (.int .i64 t.1), .v (.int .i64 t.2)], .d (.v (.bool (bif bif bif t.1 == n then true else t.1 == (4 : Int) then true else n == (4 : Int) then true else bif s130_0 n n_2 then s130_0 t.1 t.2 else false)))] []) ∧ ((op == (16 : Int)) = false → ((op == (14 : Int)) = true → ∃ (op_1 : Int), ∃ (sub_1 : Int), ∃ (t_1 : Ty), ∃ (v_1 : AV), ∃ (args_1 : List EX), ∃ (l : List Ty), [D.v (Value.int .i64 op), D.v (Value.int .i64 sub), D.v (Value.int .i64 t.1), D.v (Value.int .i64 t.2), D.v (Value.int .i64 v.1.1), D.v (Value.int .i64 v.1.2), D.v (Value.bool v.2), D.v (Value.int .i64 v.3), D.v (Value.string v.4), D.sl (cellsL args)] = [D.v (Value.int .i64 op_1), D.v (Value.int .i64 sub_1), D.v (Value.int .i64 t_1.1), D.v (Value.int .i64 t_1.2), D.v (Value.int .i64 v_1.1.1), D.v (Value.int .i64 v_1.1.2), D.v (Value.bool v_1.2), D.v (Value.int .i64 v_1.3), D.v (Value.string v_1.4), D.sl (cellsL args_1)] ∧ List.map Ty.cs x.2 = List.map Ty.cs l ∧ l.length ≤ (1353245080300 : Nat) ∧ l ≠ [] ∧ ∃ (a : Ty), ∃ (r : List Ty), List.map Ty.cs (resultsE op_1 l) = a.cs :: List.map Ty.cs r ∧ r.length < (4611686018427387904 : Nat) ∧ ∃ (x0 : { X := TY, sh := st_64b op sub t v args, P := inv_64b op : LX }.X), ({ tm := [((2 : Nat), V.ref ((2 : Nat)) ((0 : Nat))), ((4 : Nat), V.ref ((4 : Nat)) ((0 : Nat))), ((5 : Nat), V.d (D.v (Value.bool false))), ((6 : Nat), V.ref ((6 : Nat)) ((0 : Nat))), ((11 : Nat), V.ref ((11 : Nat)) ((0 : Nat))), ((13 : Nat), V.fn ((75 : Nat)) [V.ref ((6 : Nat)) ((0 : Nat))]), ((16 : Nat), V.ref ((16 : Nat)) ((0 : Nat))), ((17 : Nat), V.d (D.v (Value.bool (cfold a r).2))), ((18 : Nat), V.d (D.v (Value.int .i64 0)))], hp := [((2 : Nat), B.box [V.d (D.v (Value.int .i64 op)), V.d (D.v (Value.int .i64 sub)), V.d (D.v (Value.int .i64 t.1)), V.d (D.v (Value.int .i64 t.2)), V.d (D.v (Value.int .i64 v.1.1)), V.d (D.v (Value.int .i64 v.1.2)), V.d (D.v (Value.bool v.2)), V.d (D.v (Value.int .i64 v.3)), V.d (D.v (Value.string v.4)), V.d (D.sl (cellsL args))]), ((4 : Nat), B.box [V.d (D.v (Value.int .i64 0)), V.d (D.v (Value.int .i64 0))]), ((6 : Nat), B.box [V.own ((50006 : Nat))]), ((11 : Nat), B.box [V.d (D.v (Value.int .i64 1)), V.d (D.v (Value.int .i64 0))]), ((12 : Nat), B.box [V.d (D.v (Value.int .i64 2)), V.d (D.v (Value.int .i64 0))]), ((16 : Nat), B.box [V.d (D.v (Value.int .i64 (cfold a r).1.1)), V.d (D.v (Value.int .i64 (cfold a r).1.2))]), ((50006 : Nat), B.fro ((2 : Nat)) (List.map Ty.cs x.2))], kn := [], gd := [] : St } = { tm := [((2 : Nat), V.ref ((2 : Nat)) ((0 : Nat))), ((4 : Nat), V.ref ((4 : Nat)) ((0 : Nat))), ((5 : Nat), V.d (D.v (Value.bool false))), ((6 : Nat), V.ref ((6 : Nat)) ((0 : Nat))), ((11 : Nat), V.ref ((11 : Nat)) ((0 : Nat))), ((13 : Nat), V.fn ((75 : Nat)) [V.ref ((6 : Nat)) ((0 : Nat))]), ((16 : Nat), V.ref ((16 : Nat)) ((0 : Nat))), ((17 : Nat), V.d (D.v (Value.bool (bif x0.3 then okJ x0.1 x0.4 else false)))), ((18 : Nat), V.d (D.v (Value.int .i64 ((2 : Int) * (↑x0.4 : Int)))))], hp := [((2 : Nat), B.box [V.d (D.v (Value.int .i64 op)), V.d (D.v (Value.int .i64 sub)), V.d (D.v (Value.int .i64 t.1)), V.d (D.v (Value.int .i64 t.2)), V.d (D.v (Value.int .i64 v.1.1)), V.d (D.v (Value.int .i64 v.1.2)), V.d (D.v (Value.bool v.2)), V.d (D.v (Value.int .i64 v.3)), V.d (D.v (Value.string v.4)), V.d (D.sl (cellsL args))]), ((4 : Nat), B.box [V.d (D.v (Value.int .i64 0)), V.d (D.v (Value.int .i64 0))]), ((6 : Nat), B.box [V.own ((50006 : Nat))]), ((11 : Nat), B.box [V.d (D.v (Value.int .i64 1)), V.d (D.v (Value.int .i64 0))]), ((12 : Nat), B.box [V.d (D.v (Value.int .i64 2)), V.d (D.v (Value.int .i64 0))]), ((16 : Nat), B.box [V.d (D.v (Value.int .i64 x0.2.1)), V.d (D.v (Value.int .i64 x0.2.2))]), ((50006 : Nat), B.fro ((2 : Nat)) (List.map Ty.cs x0.1))], kn := [], gd := [] : St } ∧ ∃ (n : Nat), inv_64b op x0 n x0) ∧ ∀ (n : Nat) (x : { X := TY, sh := st_64b op sub t v args, P := inv_64b op : LX }.X), inv_64b op x0 n x → ((bif op == (14 : Int) then decide (IntKind.i64.wrap ((2 : Int) * (↑x.4 : Int) + (1 : Int)) < (↑(List.map Ty.cs x.1).length : Int)) else false) = true → ((bif x.3 then okJ x.1 x.4 else false) = true → ((0 : Int) ≤ (2 : Int) * (↑x.4 : Int) ∧ (2 : Int) * (↑x.4 : Int) < (↑(List.map Ty.cs x.1).length : Int)) ∧ (2 : Nat) = (2 : Nat) ∧ ∃ (cells : List D), (List.map Ty.cs x.1)[((2 : Int) * (↑x.4 : Int)).toNat]? = some cells ∧ ∃ (n_2 : Int), ∃ (n_3 : Int), cut ((0 : Nat)) ((2 : Nat)) cells = some [D.v (Value.int .i64 n_2), D.v (Value.int .i64 n_3)] ∧ ∃ (m : Nat), ∃ (x' : { X := TY, sh := st_64b op sub t v args, P := inv_64b op : LX }.X), m < n ∧ { tm := [((2 : Nat), V.ref ((2 : Nat)) ((0 : Nat))), ((4 : Nat), V.ref ((4 : Nat)) ((0 : Nat))), ((5 : Nat), V.d (D.v (Value.bool false))), ((6 : Nat), V.ref ((6 : Nat)) ((0 : Nat))), ((11 : Nat), V.ref ((11 : Nat)) ((0 : Nat))), ((13 : Nat), V.fn ((75 : Nat)) [V.ref ((6 : Nat)) ((0 : Nat))]), ((16 : Nat), V.ref ((16 : Nat)) ((0 : Nat))), ((17 : Nat), V.d (D.v (Value.bool (n_2 == (1 : Int) && (n_3 == (0 : Int) && true))))), ((18 : Nat), V.d (D.v (Value.int .i64 (IntKind.i64.wrap ((2 : Int) * (↑x.4 : Int) + (2 : Int))))))], hp := [((2 : Nat), B.box [V.d (D.v (Value.int .i64 op)), V.d (D.v (Value.int .i64 sub)), V.d (D.v (Value.int .i64 t.1)), V.d (D.v (Value.int .i64 t.2)), V.d (D.v (Value.int .i64 v.1.1)), V.d (D.v (Value.int .i64 v.1.2)), V.d (D.v (Value.bool v.2)), V.d (D.v (Value.int .i64 v.3)), V.d (D.v (Value.string v.4)), V.d (D.sl (cellsL args))]), ((4 : Nat), B.box [V.d (D.v (Value.int .i64 0)), V.d (D.v (Value.int .i64 0))]), ((6 : Nat), B.box [V.own ((50006 : Nat))]), ((11 : Nat), B.box [V.d (D.v (Value.int .i64 1)), V.d (D.v (Value.int .i64 0))]), ((12 : Nat), B.box [V.d (D.v (Value.int .i64 2)), V.d (D.v (Value.int .i64 0))]), ((16 : Nat), B.box [V.d (D.v (Value.int .i64 x.2.1)), V.d (D.v (Value.int .i64 x.2.2))]), ((50006 : Nat), B.fro ((2 : Nat)) (List.map Ty.cs x.1))], kn := [], gd := [] : St } = { tm := [((2 : Nat), V.ref ((2 : Nat)) ((0 : Nat))), ((4 : Nat), V.ref ((4 : Nat)) ((0 : Nat))), ((5 : Nat), V.d (D.v (Value.bool false))), ((6 : Nat), V.ref ((6 : Nat)) ((0 : Nat))), ((11 : Nat), V.ref ((11 : Nat)) ((0 : Nat))), ((13 : Nat), V.fn ((75 : Nat)) [V.ref ((6 : Nat)) ((0 : Nat))]), ((16 : Nat), V.ref ((16 : Nat)) ((0 : Nat))), ((17 : Nat), V.d (D.v (Value.bool (bif x'.3 then okJ x'.1 x'.4 else false)))), ((18 : Nat), V.d (D.v (Value.int .i64 ((2 : Int) * (↑x'.4 : Int)))))], hp := [((2 : Nat), B.box [V.d (D.v (Value.int .i64 op)), V.d (D.v (Value.int .i64 sub)), V.d (D.v (Value.int .i64 t.1)), V.d (D.v (Value.int .i64 t.2)), V.d (D.v (Value.int .i64 v.1.1)), V.d (D.v (Value.int .i64 v.1.2)), V.d (D.v (Value.bool v.2)), V.d (D.v (Value.int .i64 v.3)), V.d (D.v (Value.string v.4)), V.d (D.sl (cellsL args))]), ((4 : Nat), B.box [V.d (D.v (Value.int .i64 0)), V.d (D.v (Value.int .i64 0))]), ((6 : Nat), B.box [V.own ((50006 : Nat))]), ((11 : Nat), B.box [V.d (D.v (Value.int .i64 1)), V.d (D.v (Value.int .i64 0))]), ((12 : Nat), B.box [V.d (D.v (Value.int .i64 2)), V.d (D.v (Value.int .i64 0))]), ((16 : Nat), B.box [V.d (D.v (Value.int .i64 x'.2.1)), V.d (D.v (Value.int .i64 x'.2.2))]), ((50006 : Nat), B.fro ((2 : Nat)) (List.map Ty.cs x'.1))], kn := [], gd := [] : St } ∧ inv_64b op x0 m x') ∧ ((bif x.3 then okJ x.1 x.4 else false) = !true → ∃ (m : Nat), ∃ (x' : { X := TY, sh := st_64b op sub t v args, P := inv_64b op : LX }.X), m < n ∧ { tm := [((2 : Nat), V.ref ((2 : Nat)) ((0 : Nat))), ((4 : Nat), V.ref ((4 : Nat)) ((0 : Nat))), ((5 : Nat), V.d (D.v (Value.bool false))), ((6 : Nat), V.ref ((6 : Nat)) ((0 : Nat))), ((11 : Nat), V.ref ((11 : Nat)) ((0 : Nat))), ((13 : Nat), V.fn ((75 : Nat)) [V.ref ((6 : Nat)) ((0 : Nat))]), ((16 : Nat), V.ref ((16 : Nat)) ((0 : Nat))), ((17 : Nat), V.d (D.v (Value.bool false))), ((18 : Nat), V.d (D.v (Value.int .i64 (IntKind.i64.wrap ((2 : Int) * (↑x.4 : Int) + (2 : Int))))))], hp := [((2 : Nat), B.box [V.d (D.v (Value.int .i64 op)), V.d (D.v (Value.int .i64 sub)), V.d (D.v (Value.int .i64 t.1)), V.d (D.v (Value.int .i64 t.2)), V.d (D.v (Value.int .i64 v.1.1)), V.d (D.v (Value.int .i64 v.1.2)), V.d (D.v (Value.bool v.2)), V.d (D.v (Value.int .i64 v.3)), V.d (D.v (Value.string v.4)), V.d (D.sl (cellsL args))]), ((4 : Nat), B.box [V.d (D.v (Value.int .i64 0)), V.d (D.v (Value.int .i64 0))]), ((6 : Nat), B.box [V.own ((50006 : Nat))]), ((11 : Nat), B.box [V.d (D.v (Value.int .i64 1)), V.d (D.v (Value.int .i64 0))]), ((12 : Nat), B.box [V.d (D.v (Value.int .i64 2)), V.d (D.v (Value.int .i64 0))]), ((16 : Nat), B.box [V.d (D.v (Value.int .i64 x.2.1)), V.d (D.v (Value.int .i64 x.2.2))]), ((50006 : Nat), B.fro ((2 : Nat)) (List.map Ty.cs x.1))], kn := [], gd := [] : St } = { tm := [((2 : Nat), V.ref ((2 : Nat)) ((0 : Nat))), ((4 : Nat), V.ref ((4 : Nat)) ((0 : Nat))), ((5 : Nat), V.d (D.v (Value.bool false))), ((6 : Nat), V.ref ((6 : Nat)) ((0 : Nat))), ((11 : Nat), V.ref ((11 : Nat)) ((0 : Nat))), ((13 : Nat), V.fn ((75 : Nat)) [V.ref ((6 : Nat)) ((0 : Nat))]), ((16 : Nat), V.ref ((16 : Nat)) ((0 : Nat))), ((17 : Nat), V.d (D.v (Value.bool (bif x'.3 then okJ x'.1 x'.4 else false)))), ((18 : Nat), V.d (D.v (Value.int .i64 ((2 : Int) * (↑x'.4 : Int)))))], hp := [((2 : Nat), B.box [V.d (D.v (Value.int .i64 op)), V.d (D.v (Value.int .i64 sub)), V.d (D.v (Value.int .i64 t.1)), V.d (D.v (Value.int .i64 t.2)), V.d (D.v (Value.int .i64 v.1.1)), V.d (D.v (Value.int .i64 v.1.2)), V.d (D.v (Value.bool v.2)), V.d (D.v (Value.int .i64 v.3)), V.d (D.v (Value.string v.4)), V.d (D.sl (cellsL args))]), ((4 : Nat), B.box [V.d (D.v (Value.int .i64 0)), V.d (D.v (Value.int .i64 0))]), ((6 : Nat), B.box [V.own ((50006 : Nat))]), ((11 : Nat), B.box [V.d (D.v (Value.int .i64 1)), V.d (D.v (Value.int .i64 0))]), ((12 : Nat), B.box [V.d (D.v (Value.int .i64 2)), V.d (D.v (Value.int .i64 0))]), ((16 : Nat), B.box [V.d (D.v (Value.int .i64 x'.2.1)), V.d (D.v (Value.int .i64 x'.2.2))]), ((50006 : Nat), B.fro ((2 : Nat)) (List.map Ty.cs x'.1))], kn := [], gd := [] : St } ∧ inv_64b op x0 m x')) ∧ ((bif op == (14 : Int) then decide (IntKind.i64.wrap ((2 : Int) * (↑x.4 : Int) + (1 : Int)) < (↑(List.map Ty.cs x.1).length : Int)) else false) = false → Q [.agg [.v (.int .i64 x.2.1), .v (.int .i64 x.2.2)], .d (.v (.bool (bif x.3 then okJ x.1 x.4 else false)))] [])) ∧ ((op == (14 : Int)) = false → ((op == (15 : Int)) = true → ∃ (op_1 : Int), ∃ (sub_1 : Int), ∃ (t_1 : Ty), ∃ (v_1 : AV), ∃ (args_1 : List EX), ∃ (l : List Ty), [D.v (Value.int .i64 op), D.v (Value.int .i64 sub), D.v (Value.int .i64 t.1), D.v (Value.int .i64 t.2), D.v (Value.int .i64 v.1.1), D.v (Value.int .i64 v.1.2), D.v (Value.bool v.2), D.v (Value.int .i64 v.3), D.v (Value.string v.4), D.sl (cellsL args)] = [D.v (Value.int .i64 op_1), D.v (Value.int .i64 sub_1), D.v (Value.int .i64 t_1.1), D.v (Value.int .i64 t_1.2), D.v (Value.int .i64 v_1.1.1), D.v (Value.int .i64 v_1.1.2), D.v (Value.bool v_1.2), D.v (Value.int .i64 v_1.3), D.v (Value.string v_1.4), D.sl (cellsL args_1)] ∧ List.map Ty.cs x.2 = List.map Ty.cs l ∧ l.length ≤ (1353245080300 : Nat) ∧ l ≠ [] ∧ ∃ (a : Ty), ∃ (r : List Ty), List.map Ty.cs (resultsE op_1 l) = a.cs :: List.map Ty.cs r ∧ r.length < (4611686018427387904 : Nat) ∧ ∃ (x0 : { X := TY, sh := st_64b op sub t v args, P := inv_64b op : LX }.X), ({ tm := [((2 : Nat), V.ref ((2 : Nat)) ((0 : Nat))), ((4 : Nat), V.ref ((4 : Nat)) ((0 : Nat))), ((5 : Nat), V.d (D.v (Value.bool false))), ((6 : Nat), V.ref ((6 : Nat)) ((0 : Nat))), ((11 : Nat), V.ref ((11 : Nat)) ((0 : Nat))), ((13 : Nat), V.fn ((75 : Nat)) [V.ref ((6 : Nat)) ((0 : Nat))]), ((16 : Nat), V.ref ((16 : Nat)) ((0 : Nat))), ((17 : Nat), V.d (D.v (Value.bool (cfold a r).2))), ((18 : Nat), V.d (D.v (Value.int .i64 0)))], hp := [((2 : Nat), B.box [V.d (D.v (Value.int .i64 op)), V.d (D.v (Value.int .i64 sub)), V.d (D.v (Value.int .i64 t.1)), V.d (D.v (Value.int .i64 t.2)), V.d (D.v (Value.int .i64 v.1.1)), V.d (D.v (Value.int .i64 v.1.2)), V.d (D.v (Value.bool v.2)), V.d (D.v (Value.int .i64 v.3)), V.d (D.v (Value.string v.4)), V.d (D.sl (cellsL args))]), ((4 : Nat), B.box [V.d (D.v (Value.int .i64 0)), V.d (D.v (Value.int .i64 0))]), ((6 : Nat), B.box [V.own ((50006 : Nat))]), ((11 : Nat), B.box [V.d (D.v (Value.int .i64 1)), V.d (D.v (Value.int .i64 0))]), ((12 : Nat), B.box [V.d (D.v (Value.int .i64 2)), V.d (D.v (Value.int .i64 0))]), ((16 : Nat), B.box [V.d (D.v (Value.int .i64 (cfold a r).1.1)), V.d (D.v (Value.int .i64 (cfold a r).1.2))]), ((50006 : Nat), B.fro ((2 : Nat)) (List.map Ty.cs x.2))], kn := [], gd := [] : St } = { tm := [((2 : Nat), V.ref ((2 : Nat)) ((0 : Nat))), ((4 : Nat), V.ref ((4 : Nat)) ((0 : Nat))), ((5 : Nat), V.d (D.v (Value.bool false))), ((6 : Nat), V.ref ((6 : Nat)) ((0 : Nat))), ((11 : Nat), V.ref ((11 : Nat)) ((0 : Nat))), ((13 : Nat), V.fn ((75 : Nat)) [V.ref ((6 : Nat)) ((0 : Nat))]), ((16 : Nat), V.ref ((16 : Nat)) ((0 : Nat))), ((17 : Nat), V.d (D.v (Value.bool (bif x0.3 then okJ x0.1 x0.4 else false)))), ((18 : Nat), V.d (D.v (Value.int .i64 ((2 : Int) * (↑x0.4 : Int)))))], hp := [((2 : Nat), B.box [V.d (D.v (Value.int .i64 op)), V.d (D.v (Value.int .i64 sub)), V.d (D.v (Value.int .i64 t.1)), V.d (D.v (Value.int .i64 t.2)), V.d (D.v (Value.int .i64 v.1.1)), V.d (D.v (Value.int .i64 v.1.2)), V.d (D.v (Value.bool v.2)), V.d (D.v (Value.int .i64 v.3)), V.d (D.v (Value.string v.4)), V.d (D.sl (cellsL args))]), ((4 : Nat), B.box [V.d (D.v (Value.int .i64 0)), V.d (D.v (Value.int .i64 0))]), ((6 : Nat), B.box [V.own ((50006 : Nat))]), ((11 : Nat), B.box [V.d (D.v (Value.int .i64 1)), V.d (D.v (Value.int .i64 0))]), ((12 : Nat), B.box [V.d (D.v (Value.int .i64 2)), V.d (D.v (Value.int .i64 0))]), ((16 : Nat), B.box [V.d (D.v (Value.int .i64 x0.2.1)), V.d (D.v (Value.int .i64 x0.2.2))]), ((50006 : Nat), B.fro ((2 : Nat)) (List.map Ty.cs x0.1))], kn := [], gd := [] : St } ∧ ∃ (n : Nat), inv_64b op x0 n x0) ∧ ∀ (n : Nat) (x : { X := TY, sh := st_64b op sub t v args, P := inv_64b op : LX }.X), inv_64b op x0 n x → ((bif op == (14 : Int) then decide (IntKind.i64.wrap ((2 : Int) * (↑x.4 : Int) + (1 : Int)) < (↑(List.map Ty.cs x.1).length : Int)) else false) = true → ((bif x.3 then okJ x.1 x.4 else false) = true → ((0 : Int) ≤ (2 : Int) * (↑x.4 : Int) ∧ (2 : Int) * (↑x.4 : Int) < (↑(List.map Ty.cs x.1).length : Int)) ∧ (2 : Nat) = (2 : Nat) ∧ ∃ (cells : List D), (List.map Ty.cs x.1)[((2 : Int) * (↑x.4 : Int)).toNat]? = some cells ∧ ∃ (n_2 : Int), ∃ (n_3 : Int), cut ((0 : Nat)) ((2 : Nat)) cells = some [D.v (Value.int .i64 n_2), D.v (Value.int .i64 n_3)] ∧ ∃ (m : Nat), ∃ (x' : { X := TY, sh := st_64b op sub t v args, P := inv_64b op : LX }.X), m < n ∧ { tm := [((2 : Nat), V.ref ((2 : Nat)) ((0 : Nat))), ((4 : Nat), V.ref ((4 : Nat)) ((0 : Nat))), ((5 : Nat), V.d (D.v (Value.bool false))), ((6 : Nat), V.ref ((6 : Nat)) ((0 : Nat))), ((11 : Nat), V.ref ((11 : Nat)) ((0 : Nat))), ((13 : Nat), V.fn ((75 : Nat)) [V.ref ((6 : Nat)) ((0 : Nat))]), ((16 : Nat), V.ref ((16 : Nat)) ((0 : Nat))), ((17 : Nat), V.d (D.v (Value.bool (n_2 == (1 : Int) && (n_3 == (0 : Int) && true))))), ((18 : Nat), V.d (D.v (Value.int .i64 (IntKind.i64.wrap ((2 : Int) * (↑x.4 : Int) + (2 : Int))))))], hp := [((2 : Nat), B.box [V.d (D.v (Value.int .i64 op)), V.d (D.v (Value.int .i64 sub)), V.d (D.v (Value.int .i64 t.1)), V.d (D.v (Value.int .i64 t.2)), V.d (D.v (Value.int .i64 v.1.1)), V.d (D.v (Value.int .i64 v.1.2)), V.d (D.v (Value.bool v.2)), V.d (D.v (Value.int .i64 v.3)), V.d (D.v (Value.string v.4)), V.d (D.sl (cellsL args))]), ((4 : Nat), B.box [V.d (D.v (Value.int .i64 0)), V.d (D.v (Value.int .i64 0))]), ((6 : Nat), B.box [V.own ((50006 : Nat))]), ((11 : Nat), B.box [V.d (D.v (Value.int .i64 1)), V.d (D.v (Value.int .i64 0))]), ((12 : Nat), B.box [V.d (D.v (Value.int .i64 2)), V.d (D.v (Value.int .i64 0))]), ((16 : Nat), B.box [V.d (D.v (Value.int .i64 x.2.1)), V.d (D.v (Value.int .i64 x.2.2))]), ((50006 : Nat), B.fro ((2 : Nat)) (List.map Ty.cs x.1))], kn := [], gd := [] : St } = { tm := [((2 : Nat), V.ref ((2 : Nat)) ((0 : Nat))), ((4 : Nat), V.ref ((4 : Nat)) ((0 : Nat))), ((5 : Nat), V.d (D.v (Value.bool false))), ((6 : Nat), V.ref ((6 : Nat)) ((0 : Nat))), ((11 : Nat), V.ref ((11 : Nat)) ((0 : Nat))), ((13 : Nat), V.fn ((75 : Nat)) [V.ref ((6 : Nat)) ((0 : Nat))]), ((16 : Nat), V.ref ((16 : Nat)) ((0 : Nat))), ((17 : Nat), V.d (D.v (Value.bool (bif x'.3 then okJ x'.1 x'.4 else false)))), ((18 : Nat), V.d (D.v (Value.int .i64 ((2 : Int) * (↑x'.4 : Int)))))], hp := [((2 : Nat), B.box [V.d (D.v (Value.int .i64 op)), V.d (D.v (Value.int .i64 sub)), V.d (D.v (Value.int .i64 t.1)), V.d (D.v (Value.int .i64 t.2)), V.d (D.v (Value.int .i64 v.1.1)), V.d (D.v (Value.int .i64 v.1.2)), V.d (D.v (Value.bool v.2)), V.d (D.v (Value.int .i64 v.3)), V.d (D.v (Value.string v.4)), V.d (D.sl (cellsL args))]), ((4 : Nat), B.box [V.d (D.v (Value.int .i64 0)), V.d (D.v (Value.int .i64 0))]), ((6 : Nat), B.box [V.own ((50006 : Nat))]), ((11 : Nat), B.box [V.d (D.v (Value.int .i64 1)), V.d (D.v (Value.int .i64 0))]), ((12 : Nat), B.box [V.d (D.v (Value.int .i64 2)), V.d (D.v (Value.int .i64 0))]), ((16 : Nat), B.box [V.d (D.v (Value.int .i64 x'.2.1)), V.d (D.v (Value.int .i64 x'.2.2))]), ((50006 : Nat), B.fro ((2 : Nat)) (List.map Ty.cs x'.1))], kn := [], gd := [] : St } ∧ inv_64b op x0 m x') ∧ ((bif x.3 then okJ x.1 x.4 else false) = !true → ∃ (m : Nat), ∃ (x' : { X := TY, sh := st_64b op sub t v args, P := inv_64b op : LX }.X), m < n ∧ { tm := [((2 : Nat), V.ref ((2 : Nat)) ((0 : Nat))), ((4 : Nat), V.ref ((4 : Nat)) ((0 : Nat))), ((5 : Nat), V.d (D.v (Value.bool false))), ((6 : Nat), V.ref ((6 : Nat)) ((0 : Nat))), ((11 : Nat), V.ref ((11 : Nat)) ((0 : Nat))), ((13 : Nat), V.fn ((75 : Nat)) [V.ref ((6 : Nat)) ((0 : Nat))]), ((16 : Nat), V.ref ((16 : Nat)) ((0 : Nat))), ((17 : Nat), V.d (D.v (Value.bool false))), ((18 : Nat), V.d (D.v (Value.int .i64 (IntKind.i64.wrap ((2 : Int) * (↑x.4 : Int) + (2 : Int))))))], hp := [((2 : Nat), B.box [V.d (D.v (Value.int .i64 op)), V.d (D.v (Value.int .i64 sub)), V.d (D.v (Value.int .i64 t.1)), V.d (D.v (Value.int .i64 t.2)), V.d (D.v (Value.int .i64 v.1.1)), V.d (D.v (Value.int .i64 v.1.2)), V.d (D.v (Value.bool v.2)), V.d (D.v (Value.int .i64 v.3)), V.d (D.v (Value.string v.4)), V.d (D.sl (cellsL args))]), ((4 : Nat), B.box [V.d (D.v (Value.int .i64 0)), V.d (D.v (Value.int .i64 0))]), ((6 : Nat), B.box [V.own ((50006 : Nat))]), ((11 : Nat), B.box [V.d (D.v (Value.int .i64 1)), V.d (D.v (Value.int .i64 0))]), ((12 : Nat), B.box [V.d (D.v (Value.int .i64 2)), V.d (D.v (Value.int .i64 0))]), ((16 : Nat), B.box [V.d (D.v (Value.int .i64 x.2.1)), V.d (D.v (Value.int .i64 x.2.2))]), ((50006 : Nat), B.fro ((2 : Nat)) (List.map Ty.cs x.1))], kn := [], gd := [] : St } = { tm := [((2 : Nat), V.ref ((2 : Nat)) ((0 : Nat))), ((4 : Nat), V.ref ((4 : Nat)) ((0 : Nat))), ((5 : Nat), V.d (D.v (Value.bool false))), ((6 : Nat), V.ref ((6 : Nat)) ((0 : Nat))), ((11 : Nat), V.ref ((11 : Nat)) ((0 : Nat))), ((13 : Nat), V.fn ((75 : Nat)) [V.ref ((6 : Nat)) ((0 : Nat))]), ((16 : Nat), V.ref ((16 : Nat)) ((0 : Nat))), ((17 : Nat), V.d (D.v (Value.bool (bif x'.3 then okJ x'.1 x'.4 else false)))), ((18 : Nat), V.d (D.v (Value.int .i64 ((2 : Int) * (↑x'.4 : Int)))))], hp := [((2 : Nat), B.box [V.d (D.v (Value.int .i64 op)), V.d (D.v (Value.int .i64 sub)), V.d (D.v (Value.int .i64 t.1)), V.d (D.v (Value.int .i64 t.2)), V.d (D.v (Value.int .i64 v.1.1)), V.d (D.v (Value.int .i64 v.1.2)), V.d (D.v (Value.bool v.2)), V.d (D.v (Value.int .i64 v.3)), V.d (D.v (Value.string v.4)), V.d (D.sl (cellsL args))]), ((4 : Nat), B.box [V.d (D.v (Value.int .i64 0)), V.d (D.v (Value.int .i64 0))]), ((6 : Nat), B.box [V.own ((50006 : Nat))]), ((11 : Nat), B.box [V.d (D.v (Value.int .i64 1)), V.d (D.v (Value.int .i64 0))]), ((12 : Nat), B.box [V.d (D.v (Value.int .i64 2)), V.d (D.v (Value.int .i64 0))]), ((16 : Nat), B.box [V.d (D.v (Value.int .i64 x'.2.1)), V.d (D.v (Value.int .i64 x'.2.2))]), ((50006 : Nat), B.fro ((2 : Nat)) (List.map Ty.cs x'.1))], kn := [], gd := [] : St } ∧ inv_64b op x0 m x')) ∧ ((bif op == (14 : Int) then decide (IntKind.i64.wrap ((2 : Int) * (↑x.4 : Int) + (1 : Int)) < (↑(List.map Ty.cs x.1).length : Int)) else false) = false → Q [.agg [.v (.int .i64 x.2.1), .v (.int .i64 x.2.2)], .d (.v (.bool (bif x.3 then okJ x.1 x.4 else false)))] [])) ∧ ((op == (15 : Int)) = false → ∃ (l : List Ty), List.map Ty.cs x.2 = List.map Ty.cs l ∧ l.length < (4611686018427387904 : Nat) ∧ ∃ (l_1 : List Ty), ∃ (u : Ty), ∃ (w : Ty), List.map Ty.cs x.2 = List.map Ty.cs l_1 ∧ l_1[(0 : Nat)]? = some u ∧ l_1[l_1.length - (1 : Nat)]? = some w ∧ l_1.length ≤ (1353245080300 : Nat) ∧ Q [.agg [.v (.int .i64 (arithE op u w !l.any (offK (2 : Int))).1.1), .v (.int .i64 (arithE op u w !l.any (offK (2 : Int))).1.2)], .d (.v (.bool (arithE op u w !l.any (offK (2 : Int))).2))] [])))))))))))))) := by kernel_rfl
theorem typedL_none {cols : List Ty} : ∀ {l : List EX} {e : EX}, e ∈ l → (typedE cols e).2 = false → typedL cols l = none
  | a :: l, e, h, hn => by
    simp only [typedL]
    cases h with
    | head =>
      rcases hh : typedE cols a with ⟨t, ok⟩
      rw [hh] at hn
      have : ok = false := hn
      subst this
      rfl
    | tail _ h =>
      rw [typedL_none h hn]
      rcases typedE cols a with ⟨t, _ | _⟩ <;> rfl
theorem typedL_snoc {cols : List Ty} : ∀ {l : List EX} {tl : List Ty} {e : EX} {t : Ty}, typedL cols l = some tl → typedE cols e = (t, true) → typedL cols (l ++ [e]) = some (tl ++ [t])
  | [], tl, e, t, h, he => by
    simp only [typedL, Option.some.injEq] at h
    subst h
    simp only [List.nil_append, typedL, he]
  | a :: l, tl, e, t, h, he => by
    simp only [typedL] at h
    rcases hh : typedE cols a with ⟨u, _ | _⟩
    · rw [hh] at h; cases h
    · rw [hh] at h
      rcases hl : typedL cols l with _ | r
      · rw [hl] at h; cases h
      · rw [hl] at h
        simp only [Option.some.injEq] at h
        subst h
        simp only [List.cons_append, typedL, hh, typedL_snoc hl he]
theorem typedE_some {cols : List Ty} {op sub : Int} {t : Ty} {v : Go.Ex.AV} {args : List EX} {l : List Ty} (h : typedL cols args = some l) : typedE cols (.mk op sub t v args) = typedN cols op sub t v l := by
  simp only [typedE, h]
theorem typedE_none {cols : List Ty} {op sub : Int} {t : Ty} {v : Go.Ex.AV} {args : List EX} (h : typedL cols args = none) : typedE cols (.mk op sub t v args) = (⟨0, 0⟩, false) := by
  simp only [typedE, h]
theorem may_col {sub : Int} {t : Ty} {v : Go.Ex.AV} {m c : Int} (h : mayHd 1 sub t v m c = true) : 0 ≤ sub ∧ sub < c := by
  simp only [mayHd] at h
  by_cases h1 : m = 0 <;> by_cases h2 : 0 ≤ sub <;> by_cases h3 : sub < c <;> simp_all
theorem may_two {sub : Int} {t : Ty} {v : Go.Ex.AV} {m c : Int} (h : mayHd 9 sub t v m c = true) : m = 2 := by
  simp only [mayHd] at h
  by_cases h1 : m = 2
  · exact h1
  · simp_all
theorem may_pos {op sub : Int} {t : Ty} {v : Go.Ex.AV} {m c : Int} (h : mayHd op sub t v m c = true) (h1 : op ≠ 1) (h2 : op ≠ 2) : 1 ≤ m := by
  have b1 : (op == 1) = false := by simpa using h1
  have b2 : (op == 2) = false := by simpa using h2
  unfold mayHd at h
  rw [b1, b2, cond_false, cond_false] at h
  by_cases hm : 1 ≤ m
  · exact hm
  · exfalso
    have e1 : (m == 1) = false := by simp; omega
    have e2 : (m == 2) = false := by simp; omega
    have e3 : decide (m ≥ 3) = false := by simp; omega
    have e4 : decide (m ≥ 1) = false := by simp; omega
    rw [e1, e2, e3, e4] at h
    revert h
    cases op == 9 <;> cases op == 16 <;> cases (op == 8 || op == 12 || op == 13 || op == 18) <;> cases op == 14 <;> cases op == 15 <;> cases (op == 3 || op == 4 || op == 5 || op == 6 || op == 7 || op == 10 || op == 11 || op == 17) <;> simp
theorem okJ_next {l : List Ty} {j : Nat} (hj : 2 * j < l.length) : okJ l (j + 1) = (okJ l j && truthT l[2 * j]) := by
  unfold okJ
  rw [List.range_succ, List.all_append]
  simp [List.getD_eq_getElem?_getD, hj]
theorem results_ne {op : Int} {l : List Ty} (h : l ≠ []) : ∃ a r, resultsE op l = a :: r ∧ r.length ≤ l.length := by
  have hp := List.length_pos_iff.2 h
  rcases hr : resultsE op l with _ | ⟨a, r⟩
  · exfalso
    unfold resultsE at hr
    split at hr
    · exact h hr
    · simp at hr
  · refine ⟨a, r, rfl, ?_⟩
    have : (resultsE op l).length ≤ l.length + 1 := by
      unfold resultsE
      split
      · omega
      · simp only [List.length_append, oddsT, List.length_map, List.length_range, List.length_singleton]; omega
    rw [hr] at this
    simpa using this
theorem C_f7_ok : CallsOk prog gl C_f7 := addC_ok (addC_ok (addC_ok (addC_ok C_4e_ok c_127_ok) c_131_ok) c_132_ok) c_133_ok
theorem ct64 : ∀ (n : Nat) (e : EX) (cols : List Ty), size e < n → fits e → mayE cols.length e = true → cols.length ≤ 4398046511104 → Ct prog gl 44 [.agg (cells e), .d (.sl (cols.map Ty.cs))] (gives [.agg (typedE cols e).1.cs, .d (.v (.bool (typedE cols e).2))])
  | 0, _, _, h, _, _, _ => absurd h (Nat.not_lt_zero _)
  | n + 1, .mk op sub t v args, cols, hs, hf, hm, hcl => by
    have hC : CallsOk prog gl (C_f64 n) := addC_ok C_f7_ok (fun a K hk => by
      unfold c_64 at hk
      split at hk
      · obtain ⟨e, cols, rfl, rfl, h1, h2, h3, h4, h5⟩ := hk
        exact (ct64 n e cols h1 h2 h3 h4).gives (h5 _ _ rfl)
      · exact hk.elim)
    rw [cells_mk]
    refine ct_of_vc (E := E_8) ⟨E_ok.te⟩ hC ioK_no (fun _ _ _ h => h.elim) mixed (fn := f44) (body := f44.body.getD .skip) (by kernel_rfl) (by kernel_rfl) (by kernel_rfl) (fi := fx_64 op sub t v args cols) (by kernel_rfl) (by kernel_rfl) ⟨_, _, rfl, rfl⟩ ?_
    rw [vc64]
    obtain ⟨_, hl, hfl⟩ := fits_mk hf
    simp only [size] at hs
    have hmm : mayHd op sub t v ((cellsL args).length : Int) cols.length = true ∧ mayL cols.length args = true := by
      have : (mayHd op sub t v ((cellsL args).length : Int) cols.length && mayL cols.length args) = true := by simpa only [mayE] using hm
      simpa using this
    obtain ⟨hh, hml⟩ := hmm
    rw [mayL_all, List.all_eq_true] at hml
    refine ⟨cellsL args, rfl, ⟨0, []⟩, ⟨rfl, args.length, ⟨Nat.zero_le _, rfl⟩, by simp only [List.take_zero, typedL], rfl⟩, fun m (x : TX) hx => ⟨fun hi => ?_, fun hi => ?_⟩⟩
    · obtain ⟨i, tl⟩ := x
      obtain ⟨⟨h1, h2⟩, h4, h5⟩ := hx
      dsimp only at h1 h2 h4 h5 hi ⊢
      have hi : i < args.length := by simpa [cellsL_len] using hi
      obtain ⟨op1, sub1, t1, v1, a1, e1, g1⟩ := arg_get hi
      have hsz := size_mem (List.getElem_mem hi)
      refine ⟨cellsL args, rfl, ⟨by omega, by rw [cellsL_len]; omega⟩, _, g1, rfl, op1, sub1, t1.k, t1.sc, v1.t.k, v1.t.sc, v1.nul, v1.n, v1.s, cellsL a1, rfl, args[i], cols, by rw [e1, cells_mk]; rfl, rfl, by omega, fitsL_mem hfl (List.getElem_mem hi), hml _ (List.getElem_mem hi), hcl, fun t2 ok he => ⟨fun ho => ?_, fun ho => ⟨by simp, rfl, rfl, ?_, args.length - (i + 1), ⟨i + 1, tl ++ [t2]⟩, by omega, ?_, ⟨hi, rfl⟩, ?_, by simp [h5]⟩⟩⟩
      · have : ok = false := by simpa using ho
        subst this
        rw [typedE_none (typedL_none (List.getElem_mem hi) (by rw [he]))]
        exact ⟨rfl, rfl⟩
      · rw [List.length_map, h5]; omega
      · dsimp only
        rw [wrap_next (by omega), List.map_append]
        rfl
      · have : ok = true := by simpa using ho
        subst this
        rw [List.take_add_one, List.getElem?_eq_getElem hi]
        exact typedL_snoc h4 he
    · obtain ⟨i, tl⟩ := x
      obtain ⟨⟨h1, h2⟩, h4, h5⟩ := hx
      dsimp only at h1 h2 h4 h5 hi ⊢
      have hi : ¬ i < args.length := by simpa [cellsL_len] using hi
      rw [List.take_of_length_le (by omega)] at h4
      have htl : tl.length = args.length := by omega
      rw [cellsL_len] at hh
      have fin : ∀ (a a' : Int) (c : Bool), typedN cols op sub t v tl = (⟨a, a'⟩, c) → gives [.agg (typedE cols (.mk op sub t v args)).1.cs, .d (.v (.bool (typedE cols (.mk op sub t v args)).2))] [R.agg [D.v (Value.int IntKind.i64 a), D.v (Value.int IntKind.i64 a')], R.d (D.v (Value.bool c))] [] := fun a a' c h => by rw [typedE_some h4, h]; exact ⟨rfl, rfl⟩
      have g0 : ∀ (h : 0 < tl.length), (tl.map Ty.cs)[Int.toNat 0]? = some (Ty.cs tl[0]) := fun h => ty_get h
      have g1 : ∀ (h : 1 < tl.length), (tl.map Ty.cs)[Int.toNat 1]? = some (Ty.cs tl[1]) := fun h => ty_get h
      have d0 : ∀ (h : 0 < tl.length), tl.getD 0 ⟨0, 0⟩ = tl[0] := fun h => by rw [List.getD_eq_getElem?_getD, List.getElem?_eq_getElem h]; rfl
      have d1 : ∀ (h : 1 < tl.length), tl.getD 1 ⟨0, 0⟩ = tl[1] := fun h => by rw [List.getD_eq_getElem?_getD, List.getElem?_eq_getElem h]; rfl
      refine ⟨fun o1 => ?_, fun o1 => ⟨fun o2 => ?_, fun o2 => ⟨fun o9 => ?_, fun o9 => ⟨fun o10 => ?_, fun o10 => ⟨fun o11 => ?_, fun o11 => ⟨fun o12 => ?_, fun o12 => ⟨fun o13 => ?_, fun o13 => ⟨fun o17 => ?_, fun o17 => ⟨fun o18 => ?_, fun o18 => ⟨fun o16 => ?_, fun o16 => ?_⟩⟩⟩⟩⟩⟩⟩⟩⟩⟩
      · have o1 : op = 1 := by simpa using o1
        subst o1
        obtain ⟨c1, c2⟩ := may_col hh
        have hlt : sub.toNat < cols.length := by omega
        refine ⟨_, rfl, ⟨c1, by rw [List.length_map]; exact c2⟩, _, ty_get hlt, rfl, _, _, rfl, fin _ _ _ ?_⟩
        unfold typedN
        rw [if_pos rfl, List.getD_eq_getElem?_getD, List.getElem?_eq_getElem hlt]
        rfl
      all_goals have n1 : op ≠ 1 := by simpa using o1
      · have o2 : op = 2 := by simpa using o2
        refine fin _ _ _ ?_
        unfold typedN
        rw [if_neg n1, if_pos o2]
      all_goals have n2 : op ≠ 2 := by simpa using o2
      all_goals have hpos : 1 ≤ args.length := by have := may_pos hh n1 n2; omega
      all_goals have hne : tl ≠ [] := by intro h; rw [h] at htl; simp at htl; omega
      · have o9 : op = 9 := by simpa using o9
        subst o9
        have h2 := may_two hh
        refine ⟨⟨by decide, by rw [List.length_map]; omega⟩, rfl, _, g0 (by omega), _, _, rfl, ⟨by decide, by rw [List.length_map]; omega⟩, rfl, _, g1 (by omega), _, _, rfl, fin _ _ _ ?_⟩
        unfold typedN
        rw [if_neg n1, if_neg n2, if_pos rfl, d0 (by omega), d1 (by omega)]
      all_goals have n9 : op ≠ 9 := by simpa using o9
      · have o10 : op = 10 := by simpa using o10
        refine ⟨tl, rfl, by omega, fin _ _ _ ?_⟩
        unfold typedN
        rw [if_neg n1, if_neg n2, if_neg n9, if_pos (.inl o10)]
      all_goals have n10 : op ≠ 10 := by simpa using o10
      · have o11 : op = 11 := by simpa using o11
        refine ⟨tl, rfl, by omega, fin _ _ _ ?_⟩
        unfold typedN
        rw [if_neg n1, if_neg n2, if_neg n9, if_pos (.inr (.inl o11))]
      all_goals have n11 : op ≠ 11 := by simpa using o11
      · have o12 : op = 12 := by simpa using o12
        refine ⟨tl, rfl, by omega, fin _ _ _ ?_⟩
        unfold typedN
        rw [if_neg n1, if_neg n2, if_neg n9, if_pos (.inr (.inr o12))]
      all_goals have n12 : op ≠ 12 := by simpa using o12
      all_goals have nn : ¬ (op = 10 ∨ op = 11 ∨ op = 12) := by omega
      · have o13 : op = 13 := by simpa using o13
        refine fin _ _ _ ?_
        unfold typedN
        rw [if_neg n1, if_neg n2, if_neg n9, if_neg nn, if_pos o13]
      all_goals have n13 : op ≠ 13 := by simpa using o13
      · have o17 : op = 17 := by simpa using o17
        refine ⟨tl, rfl, by omega, fin _ _ _ ?_⟩
        unfold typedN
        rw [if_neg n1, if_neg n2, if_neg n9, if_neg nn, if_neg n13, if_pos o17]
      all_goals have n17 : op ≠ 17 := by simpa using o17
      · have o18 : op = 18 := by simpa using o18
        refine ⟨tl, rfl, by omega, fin _ _ _ ?_⟩
        unfold typedN
        rw [if_neg n1, if_neg n2, if_neg n9, if_neg nn, if_neg n13, if_neg n17, if_pos o18]
      all_goals have n18 : op ≠ 18 := by simpa using o18
      · have o16 : op = 16 := by simpa using o16
        refine ⟨⟨by decide, by rw [List.length_map]; omega⟩, rfl, _, g0 (by omega), _, _, rfl, fin _ _ _ ?_⟩
        unfold typedN
        rw [if_neg n1, if_neg n2, if_neg n9, if_neg nn, if_neg n13, if_neg n17, if_neg n18, if_pos o16, d0 (by omega)]
      have n16 : op ≠ 16 := by simpa using o16
      refine ⟨fun o14 => ?_, fun o14 => ⟨fun o15 => ?_, fun o15 => ?_⟩⟩
      · have o14 : op = 14 := by simpa using o14
        obtain ⟨a, r, hr, hrl⟩ := results_ne (op := op) hne
        refine ⟨op, sub, t, v, args, tl, rfl, rfl, by omega, hne, a, r, by rw [hr]; rfl, by omega, ⟨tl, (cfold a r).1, (cfold a r).2, 0⟩, ⟨by
          have : (bif (cfold a r).2 then okJ tl 0 else false) = (cfold a r).2 := by cases (cfold a r).2 <;> rfl
          dsimp only
          rw [this]
          rfl, tl.length, rfl, rfl, rfl, Nat.zero_le _, rfl, .inr rfl⟩, fun m2 y hy => ?_⟩
        obtain ⟨yl, yt, yok, yj⟩ := y
        obtain ⟨e1, e2, e3, hj, hm2, hz⟩ := hy
        dsimp only at e1 e2 e3 hj hm2 hz ⊢
        have e1' := e1.symm
        subst e1'; subst e2; subst e3
        refine ⟨fun hc => ?_, fun hc => ?_⟩
        · have hc2 : op = 14 ∧ 2 * yj + 1 < tl.length := by
            by_cases h14 : op = 14
            · rw [show (op == 14) = true by simpa using h14, cond_true] at hc
              have := of_decide_eq_true hc
              rw [List.length_map, wrap_i64_of (by omega) (by omega)] at this
              exact ⟨h14, by omega⟩
            · rw [show (op == 14) = false by simpa using h14, cond_false] at hc; cases hc
          have h2j : 2 * yj < tl.length := by omega
          have w : IntKind.i64.wrap (2 * ((yj : Nat) : Int) + 2) = 2 * ((yj + 1 : Nat) : Int) := by rw [wrap_i64_of (by omega) (by omega)]; omega
          have hg := ty_get h2j
          refine ⟨fun hk => ⟨⟨by omega, by rw [List.length_map]; omega⟩, rfl, _, (by rw [show (2 * ((yj : Nat) : Int)).toNat = 2 * yj by omega]; exact hg), tl[2 * yj].k, tl[2 * yj].sc, rfl, tl.length - (yj + 1), ⟨tl, (cfold a r).1, (cfold a r).2, yj + 1⟩, by omega, ?_, rfl, rfl, rfl, by show yj + 1 ≤ tl.length / 2; omega, rfl, .inl hc2.1⟩, fun hk => ⟨tl.length - (yj + 1), ⟨tl, (cfold a r).1, (cfold a r).2, yj + 1⟩, by omega, ?_, rfl, rfl, rfl, by show yj + 1 ≤ tl.length / 2; omega, rfl, .inl hc2.1⟩⟩
          · have e : (bif (cfold a r).2 then okJ tl (yj + 1) else false) = (bif (bif (cfold a r).2 then okJ tl yj else false) then truthT tl[2 * yj] else false) := by
              rw [okJ_next h2j]; cases (cfold a r).2 <;> cases okJ tl yj <;> rfl
            rw [hk, cond_true] at e
            dsimp only
            rw [e, w]
            rfl
          · have e : (bif (cfold a r).2 then okJ tl (yj + 1) else false) = (bif (bif (cfold a r).2 then okJ tl yj else false) then truthT tl[2 * yj] else false) := by
              rw [okJ_next h2j]; cases (cfold a r).2 <;> cases okJ tl yj <;> rfl
            have hk' : (bif (cfold a r).2 then okJ tl yj else false) = false := hk
            rw [hk', cond_false] at e
            dsimp only
            rw [e, w]
            try rw [hk']
            try rfl
        · refine fin _ _ _ ?_
          have hjj : yj = tl.length / 2 := by
            rw [show (op == 14) = true by simpa using o14, cond_true] at hc
            have := of_decide_eq_false hc
            rw [List.length_map, wrap_i64_of (by omega) (by omega)] at this
            omega
          unfold typedN
          rw [if_neg n1, if_neg n2, if_neg n9, if_neg nn, if_neg n13, if_neg n17, if_neg n18, if_neg n16, if_pos (.inl o14), hr, hjj]
          have n15 : decide (op = 15) = false := decide_eq_false (by omega)
          simp only [n15]
          cases (cfold a r).2 <;> simp
      · have o15 : op = 15 := by simpa using o15
        obtain ⟨a, r, hr, hrl⟩ := results_ne (op := op) hne
        refine ⟨op, sub, t, v, args, tl, rfl, rfl, by omega, hne, a, r, by rw [hr]; rfl, by omega, ⟨tl, (cfold a r).1, (cfold a r).2, 0⟩, ⟨by
          have : (bif (cfold a r).2 then okJ tl 0 else false) = (cfold a r).2 := by cases (cfold a r).2 <;> rfl
          dsimp only
          rw [this]
          rfl, tl.length, rfl, rfl, rfl, Nat.zero_le _, rfl, .inr rfl⟩, fun m2 y hy => ?_⟩
        obtain ⟨yl, yt, yok, yj⟩ := y
        obtain ⟨e1, e2, e3, hj, hm2, hz⟩ := hy
        dsimp only at e1 e2 e3 hj hm2 hz ⊢
        have e1' := e1.symm
        subst e1'; subst e2; subst e3
        refine ⟨fun hc => ?_, fun hc => ?_⟩
        · have hc2 : op = 14 ∧ 2 * yj + 1 < tl.length := by
            by_cases h14 : op = 14
            · rw [show (op == 14) = true by simpa using h14, cond_true] at hc
              have := of_decide_eq_true hc
              rw [List.length_map, wrap_i64_of (by omega) (by omega)] at this
              exact ⟨h14, by omega⟩
            · rw [show (op == 14) = false by simpa using h14, cond_false] at hc; cases hc
          have h2j : 2 * yj < tl.length := by omega
          have w : IntKind.i64.wrap (2 * ((yj : Nat) : Int) + 2) = 2 * ((yj + 1 : Nat) : Int) := by rw [wrap_i64_of (by omega) (by omega)]; omega
          have hg := ty_get h2j
          refine ⟨fun hk => ⟨⟨by omega, by rw [List.length_map]; omega⟩, rfl, _, (by rw [show (2 * ((yj : Nat) : Int)).toNat = 2 * yj by omega]; exact hg), tl[2 * yj].k, tl[2 * yj].sc, rfl, tl.length - (yj + 1), ⟨tl, (cfold a r).1, (cfold a r).2, yj + 1⟩, by omega, ?_, rfl, rfl, rfl, by show yj + 1 ≤ tl.length / 2; omega, rfl, .inl hc2.1⟩, fun hk => ⟨tl.length - (yj + 1), ⟨tl, (cfold a r).1, (cfold a r).2, yj + 1⟩, by omega, ?_, rfl, rfl, rfl, by show yj + 1 ≤ tl.length / 2; omega, rfl, .inl hc2.1⟩⟩
          · have e : (bif (cfold a r).2 then okJ tl (yj + 1) else false) = (bif (bif (cfold a r).2 then okJ tl yj else false) then truthT tl[2 * yj] else false) := by
              rw [okJ_next h2j]; cases (cfold a r).2 <;> cases okJ tl yj <;> rfl
            rw [hk, cond_true] at e
            dsimp only
            rw [e, w]
            rfl
          · have e : (bif (cfold a r).2 then okJ tl (yj + 1) else false) = (bif (bif (cfold a r).2 then okJ tl yj else false) then truthT tl[2 * yj] else false) := by
              rw [okJ_next h2j]; cases (cfold a r).2 <;> cases okJ tl yj <;> rfl
            have hk' : (bif (cfold a r).2 then okJ tl yj else false) = false := hk
            rw [hk', cond_false] at e
            dsimp only
            rw [e, w]
            try rw [hk']
            try rfl
        · refine fin _ _ _ ?_
          unfold typedN
          rw [if_neg n1, if_neg n2, if_neg n9, if_neg nn, if_neg n13, if_neg n17, if_neg n18, if_neg n16, if_pos (.inr o15), hr]
          have e15 : decide (op = 15) = true := decide_eq_true o15
          have hj0 : okJ tl yj = true := by
            rw [show yj = 0 by omega]; rfl
          simp only [e15, hj0]
          cases (cfold a r).2 <;> simp
      · have n14 : op ≠ 14 := by simpa using o14
        have n15 : op ≠ 15 := by simpa using o15
        have hlast : tl.length - 1 < tl.length := by omega
        refine ⟨tl, rfl, by omega, tl, tl[0], tl[tl.length - 1], rfl, List.getElem?_eq_getElem _, List.getElem?_eq_getElem _, by omega, fin _ _ _ ?_⟩
        unfold typedN
        rw [if_neg n1, if_neg n2, if_neg n9, if_neg nn, if_neg n13, if_neg n17, if_neg n18, if_neg n16, if_neg (by omega), d0 (by omega), List.getD_eq_getElem?_getD, List.getElem?_eq_getElem hlast]
        rfl
end Go.Proofs.Tryz
namespace Go.Proofs.Tryz
open Go Go.Dm Go.Ex
set_option maxRecDepth 100000
variable {gl : Nat → Option Obj}
theorem ct62 : ∀ (n : Nat) (e : EX), size e < n → fits e → Ct prog gl 42 [.agg (cells e)] (gives [.d (.v (.int .i64 (deep e)))])
  | 0, e, h, _ => absurd h (Nat.not_lt_zero _)
  | n + 1, .mk op sub t v args, h, hf => by
    have hC : CallsOk prog gl (C_f62 n) := addC_ok C_n_ok (fun a K hk => by
      unfold c_62 at hk
      split at hk
      · obtain ⟨e, rfl, h1, h2, h3⟩ := hk
        exact (ct62 n e h1 h2).gives h3
      · exact hk.elim)
    rw [cells_mk]
    refine ct_of_vc E_ok hC ioK_no it_ok mixed (fn := f42) (body := f42.body.getD .skip) (by kernel_rfl) (by kernel_rfl) (by kernel_rfl) (fi := fx_62 op sub t v args) (by kernel_rfl) (by kernel_rfl) ⟨_, _, rfl, rfl⟩ ?_
    rw [vc62]
    obtain ⟨_, hl, hfl⟩ := fits_mk hf
    have hsz : ∀ e ∈ args, size e < n := fun e he => by have := size_arg (op := op) (sub := sub) (ty := t) (v := v) he; omega
    refine ⟨cellsL args, rfl, (0 : Nat), ⟨by simp only [List.take_zero, deepL]; rfl, args.length, Nat.zero_le _, rfl⟩, fun m (x : Nat) hx => ⟨fun hi => ?_, fun hi => ?_⟩⟩
    · have hi : x < args.length := by simpa [cellsL_len] using hi
      obtain ⟨op', sub', t', v', a', he, hget⟩ := arg_get hi
      have hm := hx.2
      refine ⟨cellsL args, rfl, ⟨by omega, by rw [cellsL_len]; omega⟩, _, hget, rfl, op', sub', t'.k, t'.sc, v'.t.k, v'.t.sc, v'.nul, v'.n, v'.s, cellsL a', rfl, args[x], by rw [he, cells_mk]; rfl, hsz _ (List.getElem_mem hi), fitsL_mem hfl (List.getElem_mem hi), args.length - (x + 1), x + 1, by omega, ?_, hi, rfl⟩
      rw [wrap_next (by omega), List.take_add_one, List.getElem?_eq_getElem hi, Option.toList_some, deepL_snoc]
    · have hi : ¬ x < args.length := by simpa [cellsL_len] using hi
      rw [List.take_of_length_le (by omega)]
      refine ⟨?_, rfl⟩
      simp only [deep]
def c_61g (a : List R) (K : List R → List (List D) → Prop) : Prop := match a with
  | [.agg x] => ∃ e : EX, x = cells e ∧ fits e ∧ K [.d (.v (.int .i64 (nodes e)))] []
  | _ => False
theorem c_61g_ok (a : List R) (K : List R → List (List D) → Prop) (h : c_61g a K) : Ct prog gl 41 a K := by
  unfold c_61g at h
  split at h
  · obtain ⟨e, rfl, h1, h2⟩ := h
    exact (ct61 (size e + 1) e (Nat.lt_succ_self _) h1).gives h2
  · exact h.elim
def c_62g (a : List R) (K : List R → List (List D) → Prop) : Prop := match a with
  | [.agg x] => ∃ e : EX, x = cells e ∧ fits e ∧ K [.d (.v (.int .i64 (deep e)))] []
  | _ => False
theorem c_62g_ok (a : List R) (K : List R → List (List D) → Prop) (h : c_62g a K) : Ct prog gl 42 a K := by
  unfold c_62g at h
  split at h
  · obtain ⟨e, rfl, h1, h2⟩ := h
    exact (ct62 (size e + 1) e (Nat.lt_succ_self _) h1).gives h2
  · exact h.elim
def c_63g (a : List R) (K : List R → List (List D) → Prop) : Prop := match a with
  | [.agg x, .d (.v (.int .i64 c))] => ∃ e : EX, x = cells e ∧ fits e ∧ K [.d (.v (.bool (mayE c e)))] []
  | _ => False
theorem c_63g_ok (a : List R) (K : List R → List (List D) → Prop) (h : c_63g a K) : Ct prog gl 43 a K := by
  unfold c_63g at h
  split at h
  · obtain ⟨e, rfl, h1, h2⟩ := h
    exact (ct63 (size e + 1) e _ (Nat.lt_succ_self _) h1).gives h2
  · exact h.elim
def c_64g (a : List R) (K : List R → List (List D) → Prop) : Prop := match a with
  | [.agg x, .d (.sl y)] => ∃ (e : EX) (cols : List Ty), x = cells e ∧ y = cols.map Ty.cs ∧ fits e ∧ mayE cols.length e = true ∧ cols.length ≤ 4398046511104 ∧ (∀ (t : Ty) (ok : Bool), typedE cols e = (t, ok) → K [.agg t.cs, .d (.v (.bool ok))] [])
  | _ => False
theorem c_64g_ok (a : List R) (K : List R → List (List D) → Prop) (h : c_64g a K) : Ct prog gl 44 a K := by
  unfold c_64g at h
  split at h
  · obtain ⟨e, cols, rfl, rfl, h1, h2, h3, h4⟩ := h
    exact (ct64 (size e + 1) e cols (Nat.lt_succ_self _) h1 h2 h3).gives (h4 _ _ rfl)
  · exact h.elim
def C_g4 : CallT := addC (addC (addC (addC C_f7 41 c_61g) 42 c_62g) 43 c_63g) 44 c_64g
theorem C_g4_ok : CallsOk prog gl C_g4 := addC_ok (addC_ok (addC_ok (addC_ok C_f7_ok c_61g_ok) c_62g_ok) c_63g_ok) c_64g_ok
theorem vc15 (op sub : Int) (t : Ty) (v : Go.Ex.AV) (args : List EX) (x : List (List D)) (Q : List R → List (List D) → Prop) : vc E_0 C_g4 noI fi14 (f14.body.getD .skip) f14.results.toList [.agg (encX op sub t v (cellsL args)), .d (.sl x)] Q = ( ∃ (l : List Ty), x = List.map Ty.cs l ∧ l.length < (4611686018427387904 : Nat) ∧ ∃ (e : EX), [D.v (Value.int .i64 op), D.v (Value.int .i64 sub), D.v (Value.int .i64 t.1), D.v (Value.int .i64 t.2), D.v (Value.int .i64 v.1.1), D.v (Value.int .i64 v.1.2), D.v (Value.bool v.2), D.v (Value.int .i64 v.3), D.v (Value.string v.4), D.sl (cellsL args)] = cells e ∧ fits e ∧ ∃ (e_1 : EX), [D.v (Value.int .i64 op), D.v (Value.int .i64 sub), D.v (Value.int .i64 t.1), D.v (Value.int .i64 t.2), D.v (Value.int .i64 v.1.1), D.v (Value.int .i64 v.1.2), D.v (Value.bool v.2), D.v (Value.int .i64 v.3), D.v (Value.string v.4), D.sl (cellsL args)] = cells e_1 ∧ fits e_1 ∧ ∃ (es : List (List D)), D.sl x = D.sl es ∧ ∃ (e_2 : EX), [D.v (Value.int .i64 op), D.v (Value.int .i64 sub), D.v (Value.int .i64 t.1), D.v (Value.int .i64 t.2), D.v (Value.int .i64 v.1.1), D.v (Value.int .i64 v.1.2), D.v (Value.bool v.2), D.v (Value.int .i64 v.3), D.v (Value.string v.4), D.sl (cellsL args)] = cells e_2 ∧ fits e_2 ∧ ((bif bif bif l.any badT then true else decide (nodes e > (256 : Int)) then true else decide (deep e_1 > (24 : Int)) then true else !mayE (↑es.length : Int) e_2) = true → Q [.agg [.v (.int .i64 0), .v (.int .i64 0)], .d (.v (.int .i64 140))] []) ∧ ((bif bif bif l.any badT then true else decide (nodes e > (256 : Int)) then true else decide (deep e_1 > (24 : Int)) then true else !mayE (↑es.length : Int) e_2) = false → ∃ (e : EX), ∃ (cols : List Ty), [D.v (Value.int .i64 op), D.v (Value.int .i64 sub), D.v (Value.int .i64 t.1), D.v (Value.int .i64 t.2), D.v (Value.int .i64 v.1.1), D.v (Value.int .i64 v.1.2), D.v (Value.bool v.2), D.v (Value.int .i64 v.3), D.v (Value.string v.4), D.sl (cellsL args)] = cells e ∧ x = List.map Ty.cs cols ∧ fits e ∧ mayE (↑cols.length : Int) e = true ∧ cols.length ≤ (4398046511104 : Nat) ∧ ∀ (t : Ty) (ok : Bool), typedE cols e = (t, ok) → ((!ok) = true → Q [.agg [.v (.int .i64 0), .v (.int .i64 0)], .d (.v (.int .i64 21))] []) ∧ ((!ok) = false → Q [.agg [.v (.int .i64 t.1), .v (.int .i64 t.2)], .d (.v (.int .i64 0))] []))) := by kernel_rfl
/-- Check. -/
def checkE (cols : List Ty) (e : EX) : Ty × Int :=
  bif (bif bif bif cols.any badT then true else decide (nodes e > 256) then true else decide (deep e > 24) then true else !mayE cols.length e) then (⟨0, 0⟩, 140) else (bif !(typedE cols e).2 then (⟨0, 0⟩, 21) else ((typedE cols e).1, 0))
theorem ct15 : ∀ (e : EX) (cols : List Ty), fits e → cols.length ≤ 4398046511104 → Ct prog gl 14 [.agg (cells e), .d (.sl (cols.map Ty.cs))] (gives [.agg (checkE cols e).1.cs, .d (.v (.int .i64 (checkE cols e).2))])
  | .mk op sub t v args, cols, hf, hcl => by
    rw [cells_mk]
    refine ct_of_vc E_ok C_g4_ok ioK_no it_ok mixed (fn := f14) (body := f14.body.getD .skip) (by kernel_rfl) (by kernel_rfl) (by kernel_rfl) (fi := fi14) (by kernel_rfl) (by kernel_rfl) ⟨_, _, rfl, rfl⟩ ?_
    rw [vc15]
    have hc : encX op sub t v (cellsL args) = cells (.mk op sub t v args) := (cells_mk _ _ _ _ _).symm
    refine ⟨cols, rfl, by omega, .mk op sub t v args, hc, hf, .mk op sub t v args, hc, hf, _, rfl, .mk op sub t v args, hc, hf, fun h => ?_, fun h => ?_⟩
    · rw [List.length_map] at h
      unfold checkE
      rw [h]; exact ⟨rfl, rfl⟩
    · rw [List.length_map] at h
      refine ⟨.mk op sub t v args, cols, hc, rfl, hf, ?_, hcl, fun t' ok ht => ⟨fun h2 => ?_, fun h2 => ?_⟩⟩
      · revert h
        cases mayE (cols.length : Int) (.mk op sub t v args) <;> cases cols.any badT <;> cases decide (nodes (EX.mk op sub t v args) > 256) <;> cases decide (deep (EX.mk op sub t v args) > 24) <;> simp
      · unfold checkE
        rw [h, ht]
        simp only [h2, cond_true, cond_false]
        exact ⟨rfl, rfl⟩
      · unfold checkE
        rw [h, ht]
        simp only [h2, cond_true, cond_false]
        exact ⟨rfl, rfl⟩
def c_15 (a : List R) (K : List R → List (List D) → Prop) : Prop := match a with
  | [.agg x, .d (.sl y)] => ∃ (e : EX) (cols : List Ty), x = cells e ∧ y = cols.map Ty.cs ∧ fits e ∧ cols.length ≤ 4398046511104 ∧ (∀ (t : Ty) (f : Int), checkE cols e = (t, f) → K [.agg t.cs, .d (.v (.int .i64 f))] [])
  | _ => False
theorem c_15_ok (a : List R) (K : List R → List (List D) → Prop) (h : c_15 a K) : Ct prog gl 14 a K := by
  unfold c_15 at h
  split at h
  · obtain ⟨e, cols, rfl, rfl, h1, h2, h3⟩ := h
    exact (ct15 e cols h1 h2).gives (h3 _ _ rfl)
  · exact h.elim
def C_g5 : CallT := addC C_g4 14 c_15
theorem C_g5_ok : CallsOk prog gl C_g5 := addC_ok C_g4_ok c_15_ok
end Go.Proofs.Tryz
/- slices.Grow at nil: an own slice with nothing in it, and room. -/
namespace Go.Dm

variable {P : Program} {E : Env}
variable {B0 : Nat} {bx : List Nat} {W0 : World} {ok0 : Nat → Prop} {Z : Zr} {N : Nat}
variable {ok : Nat → Prop} {φ : Nat → Value} {s : St} {a : Act} {w : World}

/-- A new row in a world that has grown is an own slice. -/
theorem own_new (r : Rel B0 bx W0 ok0 Z N ok φ s a w) {key : Nat} (hk : lk s.hp key = none) {e sz : Nat} (hpos : 0 < sz) {v' : Value} {w' : World} {es : List (List D)} {news : List Value}
    (hown : w'.ownsRow w.heap.size e sz v' es.length news) (hgr : w.grownBy w' none) (hblk : ∀ g, blockOf v' = some g → g = w.heap.size ∧ g < w'.heap.size) (hall : ∀ c ∈ es, c.length = sz)
    (hrd : ∀ i j, i < es.length → j < sz → Rd ok w (news.getD (i * sz + j) undef) ((es.getD i []).getD j default)) :
    Rel B0 bx W0 ok0 Z N ok (updF φ key v') (s.setB key (.lst e sz es)) a w' ∧ VR ok (updF φ key v') (s.setB key (.lst e sz es)).hp w' (.own key) v' ∧ Frm [] φ s w (updF φ key v') (s.setB key (.lst e sz es)) w' := by
  have hgr' : ∀ b, b < w.heap.size → w'.heap[b]? = w.heap[b]? := fun b hb => hgr.block b hb (by simp)
  have hv1 : v'.oneCell' = true := by
    rcases hown.2 with ⟨rfl, _⟩ | ⟨g, cap, cur, rfl, _⟩ <;> rfl
  have h2 : ∀ b, ok b → w'.heap[b]? = w.heap[b]? := fun b hb => hgr' b (r.okl b hb)
  have h3 : ∀ k, ¬ False → lk s.hp k ≠ none → updF φ key v' k = φ k := fun k _ hn => by simp only [updF]; rw [if_neg (by rintro rfl; exact hn hk)]
  have h4 : ∀ k, ¬ False → Sim s.hp (pt s.hp key (.lst e sz es)) k := fun k _ => by
    unfold Sim
    rw [lk_pt]
    by_cases h : key = k
    · subst h; rw [hk]; trivial
    · rw [if_neg h]; exact Sim.refl s.hp k
  refine ⟨?_, .own (sz := sz) (es := es) (.inl ⟨e, by simp [St.setB, lk_pt]⟩) (by simp [updF]), ⟨hgr.size, fun g hg _ => hgr' g hg, fun k b' g hb ha hg hlt => ?_⟩⟩
  rotate_left
  · simp only [St.setB] at hb
    rw [lk_pt] at hb
    by_cases e : key = k
    · subst e
      simp only [updF, if_true] at hg
      have := hblk g hg; omega
    · rw [if_neg e] at hb
      simp only [updF, if_neg (Ne.symm e)] at hg
      exact ⟨k, b', hb, ha, hg, .inl rfl⟩
  refine r.step (fun _ => False) (fun _ h => h.elim) (fun _ h => h) h2 h3 h4 (fun k b' hb => ?_) (fun k b' g hb ha hg => ?_) (fun k k' b1 b2 g hne hb1 hb2 ha1 ha2 hg1 hg2 => ?_) (fun k => ?_) (fun b hb => Nat.lt_of_lt_of_le (r.okl b hb) hgr.size) r.oks ?_
  · rw [lk_pt] at hb
    by_cases h : key = k
    · subst h
      rw [if_pos rfl] at hb
      simp only [Option.some.injEq] at hb; subst hb
      simp only [updF, if_true]
      refine ⟨hpos, hall, news, ⟨hown.1, ?_⟩, fun i j hi hj => (hrd i j hi hj).mono (fun _ h => h) h2⟩
      rcases hown.2 with hnil | ⟨g, cap, cur, rfl, hb, rest⟩
      · exact .inl hnil
      · exact .inr ⟨g, cap, cur, rfl, Nat.le_trans r.b0 hb, rest⟩
    · rw [if_neg h] at hb
      have : updF φ key v' k = φ k := by simp [updF, Ne.symm h]
      rw [this]
      exact (r.hp k b' hb).keep (fun _ => False) (fun _ _ h => h.elim) (fun _ h => h) h2 h3 h4 (fun ha g hg => hgr' g ((r.hp k b' hb).block_lt ha hg))
  · rw [lk_pt] at hb
    by_cases h : key = k
    · subst h
      simp only [updF, if_true] at hg
      have := hblk g hg
      exact ⟨fun hok => by have := r.okl _ hok; omega, .inl (by have := r.b0; omega)⟩
    · rw [if_neg h] at hb
      simp only [updF, if_neg (Ne.symm h)] at hg
      exact r.act k b' g hb ha hg
  · rw [lk_pt] at hb1 hb2
    by_cases h : key = k
    · subst h
      rw [if_neg hne] at hb2
      simp only [updF, if_true] at hg1
      simp only [updF, if_neg (Ne.symm hne)] at hg2
      have := hblk g hg1
      have := (r.hp k' b2 hb2).block_lt ha2 hg2
      omega
    · rw [if_neg h] at hb1
      simp only [updF, if_neg (Ne.symm h)] at hg1
      by_cases h' : key = k'
      · subst h'
        simp only [updF, if_true] at hg2
        have := hblk g hg2
        have := (r.hp k b1 hb1).block_lt ha1 hg1
        omega
      · rw [if_neg h'] at hb2
        simp only [updF, if_neg (Ne.symm h')] at hg2
        exact r.inj k k' b1 b2 g hne hb1 hb2 ha1 ha2 hg1 hg2
  · simp only [updF]; split
    · exact hv1
    · exact r.one k
  · exact ⟨hgr.os, hgr.tape, hgr.output, hgr.size, fun k hk _ => hgr' k (Nat.lt_of_lt_of_le hk r.b0)⟩

/-- slices.Grow of nil, walked in place. -/
def growI (I : Nat → List V → List V → St → (V → St → Prop) → Prop) (g e sz by_ key : Nat) (f : Nat) (args caps : List V) (s : St) (K : V → St → Prop) : Prop :=
  match Nat.beq f g with
  | true =>
    (match args, caps with
     | [.nil, .d (.v (.int .i64 n))], [] => 0 ≤ n ∧ n * by_ ≤ 140737488355328 ∧ n ≤ 4611686018427387904 ∧ (n = 0 → K .nil s) ∧ (n ≠ 0 → K (.own (freshK s.hp key)) (s.setB (freshK s.hp key) (.lst e sz [])))
     | _, _ => False)
  | false => I f args caps s K

theorem nextKey_lt : ∀ {hp : List (Nat × B)} {n : Nat}, (∀ k b, lk hp k = some b → k < nextKey hp n) ∧ n ≤ nextKey hp n
  | [], n => ⟨fun k b h => (by simp [lk] at h), Nat.le_refl _⟩
  | (a, x) :: r, n => by
    have ih := fun m => nextKey_lt (hp := r) (n := m)
    simp only [nextKey]
    split
    · rename_i h
      have h := Nat.le_of_ble_eq_true h
      refine ⟨fun k b hb => ?_, Nat.le_trans (Nat.le_succ_of_le h) (ih _).2⟩
      simp only [lk] at hb
      split at hb
      · rename_i e
        have := Nat.eq_of_beq_eq_true e
        subst this
        exact (ih _).2
      · exact (ih _).1 k b hb
    · rename_i h
      have h : ¬ n ≤ a := fun hle => by rw [Nat.ble_eq_true_of_le hle] at h; cases h
      refine ⟨fun k b hb => ?_, (ih _).2⟩
      simp only [lk] at hb
      split at hb
      · rename_i e
        have := Nat.eq_of_beq_eq_true e
        subst this
        exact Nat.lt_of_lt_of_le (Nat.lt_of_not_le h) (ih _).2
      · exact (ih _).1 k b hb
theorem freshK_none (hp : List (Nat × B)) (k : Nat) : lk hp (freshK hp k) = none := by
  unfold freshK
  split
  · assumption
  · cases h : lk hp (nextKey hp k) with
    | none => rfl
    | some b => exact absurd ((nextKey_lt (hp := hp) (n := k)).1 _ b h) (Nat.lt_irrefl _)

theorem growI_ok {gl : Nat → Option Obj} {I : Nat → List V → List V → St → (V → St → Prop) → Prop} (hI : IOk P gl I) {g e sz by_ key : Nat} (hpos : 0 < sz) (hf : FnOk P g)
    (h0 : ∀ w, Calls P g #[.slice none 0 0, .int .i64 (0 : Nat)] w fun e w' => e = .returned (.slice none 0 0) ∧ w' = w)
    (hn : ∀ (n : Nat) (w : World), 0 < n → n * by_ ≤ 140737488355328 → n ≤ 4611686018427387904 → Calls P g #[.slice none 0 0, .int .i64 n] w fun en w' => ∃ cap cells, n ≤ cap ∧ cap ≤ maxLen ∧ cells.size = cap * sz ∧
      en = .returned (.slice (some ⟨w.heap.size, 0, none⟩) 0 cap) ∧ w' = w.drew.alloc (.cells cells e)) : IOk P gl (growI I g e sz by_ key) := by
  intro B0 bx W0 ok0 Z N ok φ s a w f args caps K vs cs hgl r h hl hv hlc hc
  unfold growI at h
  split at h
  rotate_left
  · exact hI B0 bx W0 ok0 Z N ok φ s a w f args caps K vs cs hgl r h hl hv hlc hc
  rename_i hb
  have := Nat.eq_of_beq_eq_true hb
  subst this
  split at h
  rotate_left
  · exact h.elim
  rename_i n
  obtain ⟨h1, h2, h3, h4, h5⟩ := h
  refine ⟨hf, ?_⟩
  obtain ⟨x, y, rfl⟩ : ∃ x y, vs = [x, y] := by
    match vs, hl with
    | [x, y], _ => exact ⟨x, y, rfl⟩
  have : cs = [] := List.eq_nil_of_length_eq_zero (by simpa using hlc)
  subst this
  have hx := hv 0 _ x rfl rfl
  have hy := hv 1 _ y rfl rfl
  cases hx
  cases hy; rename_i hy
  cases hy
  obtain ⟨m, rfl⟩ := Int.eq_ofNat_of_zero_le h1
  have harr : ([Value.slice none 0 0, Value.int .i64 (m : Int)] ++ []).toArray = #[.slice none 0 0, .int .i64 (m : Int)] := rfl
  rw [harr]
  by_cases hm : m = 0
  · subst hm
    refine (h0 w).mono fun en w' ⟨e1, e2⟩ => ?_
    subst e2
    exact ⟨_, e1, .nil, s, ok, φ, h4 rfl, r, .nil, Frm.same_hp rfl⟩
  · refine (hn m w (by omega) (by rw [← Int.natCast_mul] at h2; omega) (by omega)).mono fun en w' ⟨cap, cells, e1, e2, e3, e4, e5⟩ => ?_
    subst e5
    obtain ⟨f1, f2, f3⟩ := own_new r (freshK_none s.hp key) (e := e) (sz := sz) hpos (v' := .slice (some ⟨w.heap.size, 0, none⟩) 0 cap) (w' := w.drew.alloc (.cells cells e)) (es := []) (news := [])
      ⟨by simp, .inr ⟨w.heap.size, cap, cells, rfl, Nat.le_refl _, heap_alloc_new w.drew _, Nat.zero_le _, e2, e3, by simp⟩⟩ ⟨rfl, rfl, rfl, by simp, fun k hk _ => heap_alloc_old w.drew _ k hk⟩
      (fun g hg => by simp [blockOf] at hg; subst hg; exact ⟨rfl, by simp⟩) (by simp) (by simp)
    exact ⟨_, e4, .own _, _, ok, _, h5 (by omega), f1, f2, f3.mono (by intro k hk; cases hk)⟩

/-- What is told of a type. -/
def tiAt (te : List (Nat × TI)) (t : Nat) : TI := match lk te t with | some x => x | none => default
end Go.Dm
/- Lists of lists, as slices of slices. -/
namespace Go.Ex
open Go.Dm
/-- Slices as elements of a slice. -/
def encL2 (ls : List (List (List D))) : List (List D) := ls.map fun l => [.sl l]
def tot (ls : List (List (List D))) : Nat := (ls.map List.length).sum
/-- Not too much. -/
def okTot (ls : List (List (List D))) (b : Nat) : Prop := ls.length ≤ 1353245080300 ∧ tot ls * b ≤ 140737488355328 ∧ tot ls ≤ 140737488355328
theorem encL2_len (ls : List (List (List D))) : (encL2 ls).length = ls.length := by simp [encL2]
theorem encL2_get {ls : List (List (List D))} {i : Nat} (h : i < ls.length) : (encL2 ls)[i]? = some [.sl ls[i]] := by simp [encL2, h]
theorem take_succ_get {α : Type} (l : List α) {i : Nat} (h : i < l.length) : l.take (i + 1) = l.take i ++ [l[i]] := by rw [List.take_add_one, List.getElem?_eq_getElem h]; rfl
theorem tot_next {ls : List (List (List D))} {i : Nat} (h : i < ls.length) : tot (ls.take (i + 1)) = tot (ls.take i) + ls[i].length := by
  simp only [tot, take_succ_get ls h, List.map_append, List.sum_append, List.map_cons, List.map_nil, List.sum_cons, List.sum_nil, Nat.add_zero]
theorem tot_le (ls : List (List (List D))) (i : Nat) : tot (ls.take i) ≤ tot ls := by
  have : tot ls = tot (ls.take i) + tot (ls.drop i) := by
    simp only [tot]
    rw [← List.sum_append, ← List.map_append, List.take_append_drop]
  omega
theorem flat_next {ls : List (List (List D))} {i : Nat} (h : i < ls.length) : (ls.take (i + 1)).flatten = (ls.take i).flatten ++ ls[i] := by
  rw [take_succ_get ls h, List.flatten_append, List.flatten_cons, List.flatten_nil, List.append_nil]
theorem flat_len (ls : List (List (List D))) : ls.flatten.length = tot ls := by simp [tot, List.length_flatten]
theorem wrap64_of {n : Int} (h0 : -9223372036854775808 ≤ n) (h1 : n < 9223372036854775808) : IntKind.i64.wrap n = n := by
  simp [IntKind.wrap, IntKind.signed, IntKind.bits]
  split <;> omega
end Go.Ex
