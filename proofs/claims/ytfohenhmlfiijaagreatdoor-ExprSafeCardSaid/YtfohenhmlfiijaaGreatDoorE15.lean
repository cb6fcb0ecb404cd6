/- A part of the proof: contracts of functions, by a verified generator of conditions; no condition of its own. -/
import Derived.Test.YtfohenhmlfiijaaGreatDoorE13
namespace Go.Proofs.Tryz
open Go Go.Dm Go.Ex
set_option maxRecDepth 100000
variable {gl : Nat → Option Obj}
def E_k : Env := { E_0 with con := true, inl := [59] }
theorem E_k_ok : EnvOk prog E_k := ⟨E_ok.te⟩
theorem vc164 (l : List Ty) (Q : List R → List (List D) → Prop) : vcO E_k C_0 noI fi60 (f60.body.getD .skip) f60.results.toList [.d (.sl (l.map Ty.cs))] Q = ( ∀ (b : Bool), (b = true → List.map Ty.cs l = []) → (b = true → Q [.d (.sl [])] []) ∧ (b = false → ∃ (es : List (List D)), D.sl (List.map Ty.cs l) = D.sl es ∧ (∀ (c : List D), c ∈ es → c.length = 2) ∧ (23 : Nat) = (23 : Nat) ∧ (2 : Nat) = (2 : Nat) ∧ (↑(Nat.add (0 : Nat) es.length) : Int) * (↑(16 : Nat) : Int) ≤ 140737488355328 ∧ Q [.lst (23 : Nat) (2 : Nat) ([] ++ es)] [])) := by kernel_rfl
theorem ct164 (l : List Ty) (hne : l ≠ []) (hl : l.length ≤ 1400000000000) : Ct prog gl 60 [.d (.sl (l.map Ty.cs))] (gives [.lst 23 2 (l.map Ty.cs)]) := by
  refine ct_of_vcO E_k_ok C_0_ok ioK_no (fun _ _ _ h => h.elim) mixed (fn := f60) (body := f60.body.getD .skip) (by kernel_rfl) (by kernel_rfl) (by kernel_rfl) (fi := fi60) (by kernel_rfl) (by kernel_rfl) ⟨_, _, rfl, rfl⟩ ?_
  rw [vc164]
  refine fun b hb => ⟨fun h => (hne (by simpa using hb h)).elim, fun _ => ⟨_, rfl, ty_all l, rfl, rfl, ?_, ⟨rfl, rfl⟩⟩⟩
  show ((0 + (l.map Ty.cs).length : Nat) : Int) * ((16 : Nat) : Int) ≤ _
  rw [List.length_map]; omega
def c_164 (a : List R) (K : List R → List (List D) → Prop) : Prop := match a with
  | [.d (.sl x)] => ∃ l : List Ty, x = l.map Ty.cs ∧ l ≠ [] ∧ l.length ≤ 1400000000000 ∧ K [.lst 23 2 (l.map Ty.cs)] []
  | _ => False
def c_79n (n : Nat) (a : List R) (K : List R → List (List D) → Prop) : Prop := match a with
  | [.agg x, .d (.sl y)] => ∃ (e : EX) (cols : List Ty), x = cells e ∧ y = cols.map Ty.cs ∧ size e < n ∧ fits e ∧ mayE cols.length e = true ∧ cols.length ≤ 4398046511104 ∧ (typedE cols e).2 = true ∧ K [.d (.v (.bool (safeE cols e)))] []
  | _ => False
theorem c_164_ok (a : List R) (K : List R → List (List D) → Prop) (h : c_164 a K) : Ct prog gl 60 a K := by
  unfold c_164 at h
  split at h
  · obtain ⟨l, rfl, h1, h2, h3⟩ := h
    exact (ct164 l h1 h2).gives h3
  · exact h.elim
def C_f79 (n : Nat) : CallT := addC (addC (addC C_g4 53 c_132) 60 c_164) 33 (c_79n n)
def st_79 (op sub : Int) (t : Ty) (v : Go.Ex.AV) (args : List EX) (cols tl : List Ty) (x : Nat) : St := { tm := [(1, .d (.sl (cols.map Ty.cs))), (2, .ref 2 0), (4, .d (.v (.bool false))), (5, .own 50005), (11, .d (.sl (cellsL args))), (12, .d (.v (.int .i64 ((cellsL args).length : Int)))), (13, .d (.v (.int .i64 (x : Int))))], hp := [(2, .box [.d (.v (.int .i64 op)), .d (.v (.int .i64 sub)), .d (.v (.int .i64 t.k)), .d (.v (.int .i64 t.sc)), .d (.v (.int .i64 v.t.k)), .d (.v (.int .i64 v.t.sc)), .d (.v (.bool v.nul)), .d (.v (.int .i64 v.n)), .d (.v (.string v.s)), .d (.sl (cellsL args))]), (50005, .lst 23 2 ((tl.take x).map Ty.cs))], kn := [], gd := [] }
def inv_79 (cols : List Ty) (args : List EX) (m : Nat) (x : Nat) : Prop := x ≤ args.length ∧ m = args.length - x ∧ safeL cols (args.take x) = true
def fx_79 (op sub : Int) (t : Ty) (v : Go.Ex.AV) (args : List EX) (cols tl : List Ty) : Fi := { fi33 with cv := [(3, [⟨none, 5, 50005, 23, 2⟩])], lx := [(3, { X := Nat, sh := st_79 op sub t v args cols tl, P := fun _ => inv_79 cols args })] }
structure CPX where
  x : Nat
  b : Bool
  r : List (List D)
  l : List Ty
  o : List Ty
  k : Nat
  p : Nat
  q : Nat
def st_bx (op sub : Int) (t : Ty) (v : Go.Ex.AV) (args : List EX) (cols tl : List Ty) (y : CPX) : List (Nat × B) := [(2, .box [.d (.v (.int .i64 op)), .d (.v (.int .i64 sub)), .d (.v (.int .i64 t.k)), .d (.v (.int .i64 t.sc)), .d (.v (.int .i64 v.t.k)), .d (.v (.int .i64 v.t.sc)), .d (.v (.bool v.nul)), .d (.v (.int .i64 v.n)), .d (.v (.string v.s)), .d (.sl (cellsL args))]), (62, .lst 23 2 (y.o.map Ty.cs)), (50005, .fro 2 ((tl.take y.x).map Ty.cs))]
def st_rt (op sub : Int) (t : Ty) (v : Go.Ex.AV) (args : List EX) (cols tl : List Ty) (y : CPX) : List (List (Nat × V)) := [[(1, .d (.sl (cols.map Ty.cs))), (2, .ref 2 0), (4, .d (.v (.bool false))), (5, .own 50005), (11, .d (.sl (cellsL args))), (12, .d (.v (.int .i64 ((cellsL args).length : Int)))), (13, .d (.v (.int .i64 (y.x : Int)))), (14, .d (.v (.bool (decide ((y.x : Int) < ((cellsL args).length : Int)))))), (33, .d (.v (.int .i64 op))), (34, .d (.v (.bool (op == 17)))), (42, .d (.v (.bool (op == 16)))), (56, .d (.v (.bool y.b))), (59, .agg [.d (.v (.int .i64 op)), .d (.v (.int .i64 sub)), .d (.v (.int .i64 t.k)), .d (.v (.int .i64 t.sc)), .d (.v (.int .i64 v.t.k)), .d (.v (.int .i64 v.t.sc)), .d (.v (.bool v.nul)), .d (.v (.int .i64 v.n)), .d (.v (.string v.s)), .d (.sl (cellsL args))]), (60, .own 50005), (61, .d (.sl y.r)), (62, .own 62)]]
def st_163a (op sub : Int) (t : Ty) (v : Go.Ex.AV) (args : List EX) (cols tl : List Ty) (y : CPX) : St := { tm := [(0, .own 62), (2, .nil), (3, .d (.v (.int .i64 (y.k : Int))))], hp := st_bx op sub t v args cols tl y, kn := [], gd := [], rt := st_rt op sub t v args cols tl y }
def inv_163a (y0 : CPX) (n : Nat) (y : CPX) : Prop := y.x = y0.x ∧ y.b = y0.b ∧ y.r = y0.r ∧ y.l = y0.l ∧ y.o = y.l ∧ 2 ≤ y.l.length ∧ y.l.length ≤ 1400000000000 ∧ 1 ≤ y.k ∧ y.k ≤ y.l.length ∧ n = y.l.length - y.k ∧ (2 ≤ y.k → y.l.getD 1 ⟨0, 0⟩ ≠ y.l.getD 0 ⟨0, 0⟩)
structure CPY where
  c : CPX
  kk : Nat
  m : Nat
  e13 : Bool
  e25 : Bool
def st_163b (op sub : Int) (t : Ty) (v : Go.Ex.AV) (args : List EX) (cols tl : List Ty) (y : CPY) : St := { tm := [(0, .own 62), (2, .nil), (3, .d (.v (.int .i64 (y.kk : Int)))), (4, .vw 62 y.c.p y.c.q), (5, .d (.v (.int .i64 (y.m : Int)))), (13, .d (.v (.bool y.e13))), (25, .d (.v (.bool y.e25)))], hp := st_bx op sub t v args cols tl y.c, kn := [], gd := [], rt := st_rt op sub t v args cols tl y.c }
def inv_163b (y0 : CPY) (n : Nat) (y : CPY) : Prop := (y.c.x = y0.c.x ∧ y.c.b = y0.c.b ∧ y.c.r = y0.c.r ∧ y.c.l = y0.c.l ∧ y.c.k = y0.c.k ∧ y.c.p = y0.c.p ∧ y.c.q = y0.c.q) ∧ (y.e13 = y0.e13 ∧ y.e25 = y0.e25) ∧
  (y.c.p = y.c.k ∧ y.c.q = y.c.l.length - y.c.k ∧ y.c.o.length = y.c.l.length ∧ 1 ≤ y.c.k ∧ 1 ≤ y.m ∧ y.c.k + y.m ≤ y.c.l.length ∧ n = y.c.l.length - (y.c.k + y.m) ∧ 1 ≤ y.kk ∧ y.kk ≤ y.c.k + y.m - 1) ∧
  (∀ j, y.c.k + y.m - 1 ≤ j → y.c.o.getD j ⟨0, 0⟩ = y.c.l.getD j ⟨0, 0⟩) ∧ (y.kk = 1 ↔ ∀ j, j < y.c.k + y.m → y.c.l.getD j ⟨0, 0⟩ = y.c.l.getD 0 ⟨0, 0⟩)
def fx_163 (op sub : Int) (t : Ty) (v : Go.Ex.AV) (args : List EX) (cols tl : List Ty) : Fi := { fi59 with lx := [(4, { X := CPX, sh := st_163a op sub t v args cols tl, P := inv_163a }), (9, { X := CPY, sh := st_163b op sub t v args cols tl, P := inv_163b })] }
noncomputable def fis_163 (op sub : Int) (t : Ty) (v : Go.Ex.AV) (args : List EX) (cols tl : List Ty) : Fis := [(59, (3000, f59.ntmps, f59.body.getD .skip, f59.results.toList, fx_163 op sub t v args cols tl))]
noncomputable def I_163 (n : Nat) (op sub : Int) (t : Ty) (v : Go.Ex.AV) (args : List EX) (cols tl : List Ty) : Nat → List V → List V → St → (V → St → Prop) → Prop := inl E_k (C_f79 n) noI (fis_163 op sub t v args cols tl)
theorem vc79 (n : Nat) (op sub : Int) (t : Ty) (v : Go.Ex.AV) (args : List EX) (cols tl : List Ty) (Q : List R → List (List D) → Prop) : vc E_k (C_f79 n) (I_163 n op sub t v args cols tl) (fx_79 op sub t v args cols tl) (f33.body.getD .skip) f33.results.toList [.agg (encX op sub t v (cellsL args)), .d (.sl (cols.map Ty.cs))] Q = ( ∃ (es : List (List D)), D.sl (cellsL args) = D.sl es ∧ ∃ (x0 : Nat), ({ tm := [(1, .d (.sl (List.map Ty.cs cols))), (2, .ref 2 0), (4, .d (.v (.bool false))), (5, .own 50005), (11, .d (.sl (cellsL args))), (12, .i (↑es.length : Int)), (13, .i 0)], hp := [(2, .box [.i op, .i sub, .i t.1, .i t.2, .i v.1.1, .i v.1.2, .d (.v (.bool v.2)), .i v.3, .d (.v (.string v.4)), .d (.sl (cellsL args))]), (50005, .lst 23 2 [])], kn := [], gd := [] : St } = { tm := [(1, .d (.sl (List.map Ty.cs cols))), (2, .ref 2 0), (4, .d (.v (.bool false))), (5, .own 50005), (11, .d (.sl (cellsL args))), (12, .i (↑(cellsL args).length : Int)), (13, .i (↑x0 : Int))], hp := [(2, .box [.i op, .i sub, .i t.1, .i t.2, .i v.1.1, .i v.1.2, .d (.v (.bool v.2)), .i v.3, .d (.v (.string v.4)), .d (.sl (cellsL args))]), (50005, .lst 23 2 (List.map Ty.cs (List.take x0 tl)))], kn := [], gd := [] : St } ∧ ∃ (n : Nat), inv_79 cols args n x0) ∧ ∀ (n_1 : Nat) (x : Nat), inv_79 cols args n_1 x → (decide ((↑x : Int) < (↑(cellsL args).length : Int)) = true → ∃ (es : List (List D)), D.sl (cellsL args) = D.sl es ∧ (0 ≤ (↑x : Int) ∧ (↑x : Int) < (↑es.length : Int)) ∧ ∃ (cells : List D), es[(↑x : Int).toNat]? = some cells ∧ cells.length = 10 ∧ ∃ (n_2 n_3 n_4 n_5 n_6 n_7 : Int), ∃ (b : Bool), ∃ (n_8 : Int), ∃ (b_1 : ByteArray), ∃ (es : List (List D)), cut 0 10 cells = some [D.i n_2, D.i n_3, D.i n_4, D.i n_5, D.i n_6, D.i n_7, D.v (.bool b), D.i n_8, D.v (.string b_1), D.sl es] ∧ ∃ (e : EX), ∃ (cols_1 : List Ty), [D.i n_2, D.i n_3, D.i n_4, D.i n_5, D.i n_6, D.i n_7, D.v (.bool b), D.i n_8, D.v (.string b_1), D.sl es] = Ex.cells e ∧ List.map Ty.cs cols = List.map Ty.cs cols_1 ∧ size e < n ∧ fits e ∧ mayE (↑cols_1.length : Int) e = true ∧ cols_1.length ≤ 4398046511104 ∧ (typedE cols_1 e).2 = true ∧ ((!safeE cols_1 e) = true → Q [.d (.v (.bool false))] []) ∧ ((!safeE cols_1 e) = false → ∃ (e : EX), ∃ (cols_2 : List Ty), [D.i n_2, D.i n_3, D.i n_4, D.i n_5, D.i n_6, D.i n_7, D.v (.bool b), D.i n_8, D.v (.string b_1), D.sl es] = Ex.cells e ∧ List.map Ty.cs cols = List.map Ty.cs cols_2 ∧ fits e ∧ mayE (↑cols_2.length : Int) e = true ∧ cols_2.length ≤ 4398046511104 ∧ ∀ (t_1 : Ty) (ok : Bool), typedE cols_2 e = (t_1, ok) → (∀ (c : List D), c ∈ [[D.i t_1.1, D.i t_1.2]] → c.length = 2) ∧ (23 : Nat) = (23 : Nat) ∧ (2 : Nat) = (2 : Nat) ∧ (↑(List.map Ty.cs (List.take x tl)).length.succ : Int) * (↑(16 : Nat) : Int) ≤ 140737488355328 ∧ ∃ (m x' : Nat), m < n_1 ∧ { tm := [(1, .d (.sl (List.map Ty.cs cols))), (2, .ref 2 0), (4, .d (.v (.bool false))), (5, .own 50005), (11, .d (.sl (cellsL args))), (12, .i (↑(cellsL args).length : Int)), (13, .i (IntKind.i64.wrap ((↑x : Int) + 1)))], hp := [(2, .box [.i op, .i sub, .i t.1, .i t.2, .i v.1.1, .i v.1.2, .d (.v (.bool v.2)), .i v.3, .d (.v (.string v.4)), .d (.sl (cellsL args))]), (50005, .lst 23 2 (List.map Ty.cs (List.take x tl) ++ [[.i t_1.1, .i t_1.2]]))], kn := [], gd := [] : St } = { tm := [(1, .d (.sl (List.map Ty.cs cols))), (2, .ref 2 0), (4, .d (.v (.bool false))), (5, .own 50005), (11, .d (.sl (cellsL args))), (12, .i (↑(cellsL args).length : Int)), (13, .i (↑x' : Int))], hp := [(2, .box [.i op, .i sub, .i t.1, .i t.2, .i v.1.1, .i v.1.2, .d (.v (.bool v.2)), .i v.3, .d (.v (.string v.4)), .d (.sl (cellsL args))]), (50005, .lst 23 2 (List.map Ty.cs (List.take x' tl)))], kn := [], gd := [] : St } ∧ inv_79 cols args m x')) ∧ (decide ((↑x : Int) < (↑(cellsL args).length : Int)) = false → ((op == 3) = true → Q [.d (.v (.bool false))] []) ∧ ((op == 3) = false → ((op == 4) = true → Q [.d (.v (.bool false))] []) ∧ ((op == 4) = false → ((op == 5) = true → Q [.d (.v (.bool false))] []) ∧ ((op == 5) = false → ((op == 6) = true → Q [.d (.v (.bool false))] []) ∧ ((op == 6) = false → ((op == 7) = true → Q [.d (.v (.bool false))] []) ∧ ((op == 7) = false → ((op == 8) = true → Q [.d (.v (.bool false))] []) ∧ ((op == 8) = false → ((op == 17) = true → Q [.d (.v (.bool false))] []) ∧ ((op == 17) = false → ((op == 16) = true → ((0 : Int) ≤ 0 ∧ 0 < (↑(List.map Ty.cs (List.take x tl)).length : Int)) ∧ (2 : Nat) = (2 : Nat) ∧ ∃ (cells : List D), (List.map Ty.cs (List.take x tl))[Int.toNat (0 : Int)]? = some cells ∧ ∃ (n n_2 : Int), cut 0 2 cells = some [D.i n, D.i n_2] ∧ ((t.1 == n && (t.2 == n_2 && true)) = false → Q [.d (.v (.bool (t.1 == 4)))] []) ∧ ((t.1 == n && (t.2 == n_2 && true)) = !false → Q [.d (.v (.bool true))] [])) ∧ ((op == 16) = false → ((op == 14) = true → ∃ (op_1 sub_1 : Int), ∃ (t_1 : Ty), ∃ (v_1 : AV), ∃ (args_1 : List EX), ∃ (l : List Ty), [D.i op, D.i sub, D.i t.1, D.i t.2, D.i v.1.1, D.i v.1.2, D.v (.bool v.2), D.i v.3, D.v (.string v.4), D.sl (cellsL args)] = [D.i op_1, D.i sub_1, D.i t_1.1, D.i t_1.2, D.i v_1.1.1, D.i v_1.1.2, D.v (.bool v_1.2), D.i v_1.3, D.v (.string v_1.4), D.sl (cellsL args_1)] ∧ List.map Ty.cs (List.take x tl) = List.map Ty.cs l ∧ l.length ≤ 1353245080300 ∧ l ≠ [] ∧ ∃ (l_1 : List Ty), List.map Ty.cs (resultsE op_1 l) = List.map Ty.cs l_1 ∧ l_1 ≠ [] ∧ l_1.length ≤ 1400000000000 ∧ (decide ((↑(List.map Ty.cs l_1).length : Int) < 2) = true → Q [.d (.v (.bool ((↑(List.map Ty.cs l_1).length : Int) == 1)))] []) ∧ (decide ((↑(List.map Ty.cs l_1).length : Int) < 2) = false → ∃ (x0 : CPX), ({ tm := [(0, .own 62), (2, .nil), (3, .i 1)], hp := [(2, .box [.i op, .i sub, .i t.1, .i t.2, .i v.1.1, .i v.1.2, .d (.v (.bool v.2)), .i v.3, .d (.v (.string v.4)), .d (.sl (cellsL args))]), (62, .lst 23 2 (List.map Ty.cs l_1)), (50005, .fro 2 (List.map Ty.cs (List.take x tl)))], kn := [], gd := [], rt := [[(1, .d (.sl (List.map Ty.cs cols))), (2, .ref 2 0), (4, .d (.v (.bool false))), (5, .own 50005), (11, .d (.sl (cellsL args))), (12, .i (↑(cellsL args).length : Int)), (13, .i (↑x : Int)), (14, .d (.v (.bool (decide ((↑x : Int) < (↑(cellsL args).length : Int)))))), (33, .i op), (34, .d (.v (.bool (op == 17)))), (42, .d (.v (.bool (op == 16)))), (56, .d (.v (.bool (op == 14)))), (59, .agg [.i op, .i sub, .i t.1, .i t.2, .i v.1.1, .i v.1.2, .d (.v (.bool v.2)), .i v.3, .d (.v (.string v.4)), .d (.sl (cellsL args))]), (60, .own 50005), (61, .d (.sl (List.map Ty.cs (resultsE op_1 l)))), (62, .own 62)]] : St } = { tm := [(0, .own 62), (2, .nil), (3, .i (↑x0.6 : Int))], hp := [(2, .box [.i op, .i sub, .i t.1, .i t.2, .i v.1.1, .i v.1.2, .d (.v (.bool v.2)), .i v.3, .d (.v (.string v.4)), .d (.sl (cellsL args))]), (62, .lst 23 2 (List.map Ty.cs x0.5)), (50005, .fro 2 (List.map Ty.cs (List.take x0.1 tl)))], kn := [], gd := [], rt := [[(1, .d (.sl (List.map Ty.cs cols))), (2, .ref 2 0), (4, .d (.v (.bool false))), (5, .own 50005), (11, .d (.sl (cellsL args))), (12, .i (↑(cellsL args).length : Int)), (13, .i (↑x0.1 : Int)), (14, .d (.v (.bool (decide ((↑x0.x : Int) < (↑(cellsL args).length : Int)))))), (33, .i op), (34, .d (.v (.bool (op == 17)))), (42, .d (.v (.bool (op == 16)))), (56, .d (.v (.bool x0.2))), (59, .agg [.i op, .i sub, .i t.1, .i t.2, .i v.1.1, .i v.1.2, .d (.v (.bool v.2)), .i v.3, .d (.v (.string v.4)), .d (.sl (cellsL args))]), (60, .own 50005), (61, .d (.sl x0.3)), (62, .own 62)]] : St } ∧ ∃ (n : Nat), inv_163a x0 n x0) ∧ ∀ (n : Nat) (x : CPX), inv_163a x0 n x → (decide ((↑x.6 : Int) < (↑(List.map Ty.cs x.5).length : Int)) = true → (0 ≤ (↑x.6 : Int) ∧ (↑x.6 : Int) < (↑(List.map Ty.cs x.5).length : Int)) ∧ (2 : Nat) = (2 : Nat) ∧ ∃ (cells : List D), (List.map Ty.cs x.5)[(↑x.6 : Int).toNat]? = some cells ∧ ∃ (n_2 n_3 : Int), cut 0 2 cells = some [D.i n_2, D.i n_3] ∧ ((0 : Int) ≤ IntKind.i64.wrap ((↑x.6 : Int) - 1) ∧ IntKind.i64.wrap ((↑x.6 : Int) - 1) < (↑(List.map Ty.cs x.5).length : Int)) ∧ (2 : Nat) = (2 : Nat) ∧ ∃ (cells : List D), (List.map Ty.cs x.5)[(IntKind.i64.wrap ((↑x.6 : Int) - 1)).toNat]? = some cells ∧ ∃ (n_4 n_5 : Int), cut 0 2 cells = some [D.i n_4, D.i n_5] ∧ ((n_2 == n_4 && (n_3 == n_5 && true)) = true → (0 : Nat) < (List.map Ty.cs x.5).length ∧ (2 : Nat) = (2 : Nat) ∧ ∃ (l h : Nat), V.i (↑x.6 : Int) = V.i (↑l : Int) ∧ h = (List.map Ty.cs x.5).length ∧ l ≤ h ∧ h ≤ (List.map Ty.cs x.5).length ∧ ∃ (x0 : CPY), ({ tm := [(0, .own 62), (2, .nil), (3, .i (↑x.6 : Int)), (4, .vw 62 (Nat.add (0 : Nat) l) (h - l)), (5, .i 1), (13, .d (.v (.bool (decide ((↑x.6 : Int) < (↑(List.map Ty.cs x.5).length : Int)))))), (25, .d (.v (.bool (n_2 == n_4 && (n_3 == n_5 && true)))))], hp := [(2, .box [.i op, .i sub, .i t.1, .i t.2, .i v.1.1, .i v.1.2, .d (.v (.bool v.2)), .i v.3, .d (.v (.string v.4)), .d (.sl (cellsL args))]), (62, .lst 23 2 (List.map Ty.cs x.5)), (50005, .fro 2 (List.map Ty.cs (List.take x.1 tl)))], kn := [], gd := [], rt := [[(1, .d (.sl (List.map Ty.cs cols))), (2, .ref 2 0), (4, .d (.v (.bool false))), (5, .own 50005), (11, .d (.sl (cellsL args))), (12, .i (↑(cellsL args).length : Int)), (13, .i (↑x.1 : Int)), (14, .d (.v (.bool (decide ((↑x.x : Int) < (↑(cellsL args).length : Int)))))), (33, .i op), (34, .d (.v (.bool (op == 17)))), (42, .d (.v (.bool (op == 16)))), (56, .d (.v (.bool x.2))), (59, .agg [.i op, .i sub, .i t.1, .i t.2, .i v.1.1, .i v.1.2, .d (.v (.bool v.2)), .i v.3, .d (.v (.string v.4)), .d (.sl (cellsL args))]), (60, .own 50005), (61, .d (.sl x.3)), (62, .own 62)]] : St } = { tm := [(0, .own 62), (2, .nil), (3, .i (↑x0.2 : Int)), (4, .vw 62 x0.1.7 x0.1.8), (5, .i (↑x0.3 : Int)), (13, .d (.v (.bool x0.4))), (25, .d (.v (.bool x0.5)))], hp := [(2, .box [.i op, .i sub, .i t.1, .i t.2, .i v.1.1, .i v.1.2, .d (.v (.bool v.2)), .i v.3, .d (.v (.string v.4)), .d (.sl (cellsL args))]), (62, .lst 23 2 (List.map Ty.cs x0.1.5)), (50005, .fro 2 (List.map Ty.cs (List.take x0.1.1 tl)))], kn := [], gd := [], rt := [[(1, .d (.sl (List.map Ty.cs cols))), (2, .ref 2 0), (4, .d (.v (.bool false))), (5, .own 50005), (11, .d (.sl (cellsL args))), (12, .i (↑(cellsL args).length : Int)), (13, .i (↑x0.1.1 : Int)), (14, .d (.v (.bool (decide ((↑x0.1.x : Int) < (↑(cellsL args).length : Int)))))), (33, .i op), (34, .d (.v (.bool (op == 17)))), (42, .d (.v (.bool (op == 16)))), (56, .d (.v (.bool x0.1.2))), (59, .agg [.i op, .i sub, .i t.1, .i t.2, .i v.1.1, .i v.1.2, .d (.v (.bool v.2)), .i v.3, .d (.v (.string v.4)), .d (.sl (cellsL args))]), (60, .own 50005), (61, .d (.sl x0.1.3)), (62, .own 62)]] : St } ∧ ∃ (n : Nat), inv_163b x0 n x0) ∧ ∀ (n : Nat) (x : CPY), inv_163b x0 n x → (decide ((↑x.3 : Int) < (↑(List.drop x.1.7 (List.take (x.1.7.add x.1.8) (List.map Ty.cs x.1.5))).length : Int)) = true → (0 ≤ (↑x.3 : Int) ∧ (↑x.3 : Int) < (↑x.1.8 : Int)) ∧ (2 : Nat) = (2 : Nat) ∧ ∃ (cells : List D), (List.map Ty.cs x.1.5)[x.1.7.add (↑x.3 : Int).toNat]? = some cells ∧ ∃ (n_6 n_7 : Int), cut 0 2 cells = some [D.i n_6, D.i n_7] ∧ ((0 : Int) ≤ IntKind.i64.wrap ((↑x.3 : Int) - 1) ∧ IntKind.i64.wrap ((↑x.3 : Int) - 1) < (↑x.1.8 : Int)) ∧ (2 : Nat) = (2 : Nat) ∧ ∃ (cells : List D), (List.map Ty.cs x.1.5)[x.1.7.add (IntKind.i64.wrap ((↑x.3 : Int) - 1)).toNat]? = some cells ∧ ∃ (n_8 n_9 : Int), cut 0 2 cells = some [D.i n_8, D.i n_9] ∧ ((!(n_6 == n_8 && (n_7 == n_9 && true))) = true → (0 ≤ (↑x.3 : Int) ∧ (↑x.3 : Int) < (↑x.1.8 : Int)) ∧ (2 : Nat) = (2 : Nat) ∧ ∃ (cells : List D), (List.map Ty.cs x.1.5)[x.1.7.add (↑x.3 : Int).toNat]? = some cells ∧ ∃ (n_10 n_11 : Int), cut 0 2 cells = some [D.i n_10, D.i n_11] ∧ (0 ≤ (↑x.2 : Int) ∧ (↑x.2 : Int) < (↑(List.map Ty.cs x.1.5).length : Int)) ∧ (2 : Nat) = (2 : Nat) ∧ ∃ (cells : List D), (List.map Ty.cs x.1.5)[(↑x.2 : Int).toNat]? = some cells ∧ ∃ (cells' : List D), over (0 : Nat) [D.i n_10, D.i n_11] cells = some cells' ∧ ∃ (m : Nat), ∃ (x' : CPY), m < n ∧ { tm := [(0, .own 62), (2, .nil), (3, .i (IntKind.i64.wrap ((↑x.2 : Int) + 1))), (4, .vw 62 x.1.7 x.1.8), (5, .i (IntKind.i64.wrap ((↑x.3 : Int) + 1))), (13, .d (.v (.bool x.4))), (25, .d (.v (.bool x.5)))], hp := [(2, .box [.i op, .i sub, .i t.1, .i t.2, .i v.1.1, .i v.1.2, .d (.v (.bool v.2)), .i v.3, .d (.v (.string v.4)), .d (.sl (cellsL args))]), (62, .lst 23 2 ((List.map Ty.cs x.1.5).set (↑x.2 : Int).toNat cells')), (50005, .fro 2 (List.map Ty.cs (List.take x.1.1 tl)))], kn := [], gd := [], rt := [[(1, .d (.sl (List.map Ty.cs cols))), (2, .ref 2 0), (4, .d (.v (.bool false))), (5, .own 50005), (11, .d (.sl (cellsL args))), (12, .i (↑(cellsL args).length : Int)), (13, .i (↑x.1.1 : Int)), (14, .d (.v (.bool (decide ((↑x.1.x : Int) < (↑(cellsL args).length : Int)))))), (33, .i op), (34, .d (.v (.bool (op == 17)))), (42, .d (.v (.bool (op == 16)))), (56, .d (.v (.bool x.1.2))), (59, .agg [.i op, .i sub, .i t.1, .i t.2, .i v.1.1, .i v.1.2, .d (.v (.bool v.2)), .i v.3, .d (.v (.string v.4)), .d (.sl (cellsL args))]), (60, .own 50005), (61, .d (.sl x.1.3)), (62, .own 62)]] : St } = { tm := [(0, .own 62), (2, .nil), (3, .i (↑x'.2 : Int)), (4, .vw 62 x'.1.7 x'.1.8), (5, .i (↑x'.3 : Int)), (13, .d (.v (.bool x'.4))), (25, .d (.v (.bool x'.5)))], hp := [(2, .box [.i op, .i sub, .i t.1, .i t.2, .i v.1.1, .i v.1.2, .d (.v (.bool v.2)), .i v.3, .d (.v (.string v.4)), .d (.sl (cellsL args))]), (62, .lst 23 2 (List.map Ty.cs x'.1.5)), (50005, .fro 2 (List.map Ty.cs (List.take x'.1.1 tl)))], kn := [], gd := [], rt := [[(1, .d (.sl (List.map Ty.cs cols))), (2, .ref 2 0), (4, .d (.v (.bool false))), (5, .own 50005), (11, .d (.sl (cellsL args))), (12, .i (↑(cellsL args).length : Int)), (13, .i (↑x'.1.1 : Int)), (14, .d (.v (.bool (decide ((↑x'.1.x : Int) < (↑(cellsL args).length : Int)))))), (33, .i op), (34, .d (.v (.bool (op == 17)))), (42, .d (.v (.bool (op == 16)))), (56, .d (.v (.bool x'.1.2))), (59, .agg [.i op, .i sub, .i t.1, .i t.2, .i v.1.1, .i v.1.2, .d (.v (.bool v.2)), .i v.3, .d (.v (.string v.4)), .d (.sl (cellsL args))]), (60, .own 50005), (61, .d (.sl x'.1.3)), (62, .own 62)]] : St } ∧ inv_163b x0 m x') ∧ ((!(n_6 == n_8 && (n_7 == n_9 && true))) = false → ∃ (m : Nat), ∃ (x' : CPY), m < n ∧ { tm := [(0, .own 62), (2, .nil), (3, .i (↑x.2 : Int)), (4, .vw 62 x.1.7 x.1.8), (5, .i (IntKind.i64.wrap ((↑x.3 : Int) + 1))), (13, .d (.v (.bool x.4))), (25, .d (.v (.bool x.5)))], hp := [(2, .box [.i op, .i sub, .i t.1, .i t.2, .i v.1.1, .i v.1.2, .d (.v (.bool v.2)), .i v.3, .d (.v (.string v.4)), .d (.sl (cellsL args))]), (62, .lst 23 2 (List.map Ty.cs x.1.5)), (50005, .fro 2 (List.map Ty.cs (List.take x.1.1 tl)))], kn := [], gd := [], rt := [[(1, .d (.sl (List.map Ty.cs cols))), (2, .ref 2 0), (4, .d (.v (.bool false))), (5, .own 50005), (11, .d (.sl (cellsL args))), (12, .i (↑(cellsL args).length : Int)), (13, .i (↑x.1.1 : Int)), (14, .d (.v (.bool (decide ((↑x.1.x : Int) < (↑(cellsL args).length : Int)))))), (33, .i op), (34, .d (.v (.bool (op == 17)))), (42, .d (.v (.bool (op == 16)))), (56, .d (.v (.bool x.1.2))), (59, .agg [.i op, .i sub, .i t.1, .i t.2, .i v.1.1, .i v.1.2, .d (.v (.bool v.2)), .i v.3, .d (.v (.string v.4)), .d (.sl (cellsL args))]), (60, .own 50005), (61, .d (.sl x.1.3)), (62, .own 62)]] : St } = { tm := [(0, .own 62), (2, .nil), (3, .i (↑x'.2 : Int)), (4, .vw 62 x'.1.7 x'.1.8), (5, .i (↑x'.3 : Int)), (13, .d (.v (.bool x'.4))), (25, .d (.v (.bool x'.5)))], hp := [(2, .box [.i op, .i sub, .i t.1, .i t.2, .i v.1.1, .i v.1.2, .d (.v (.bool v.2)), .i v.3, .d (.v (.string v.4)), .d (.sl (cellsL args))]), (62, .lst 23 2 (List.map Ty.cs x'.1.5)), (50005, .fro 2 (List.map Ty.cs (List.take x'.1.1 tl)))], kn := [], gd := [], rt := [[(1, .d (.sl (List.map Ty.cs cols))), (2, .ref 2 0), (4, .d (.v (.bool false))), (5, .own 50005), (11, .d (.sl (cellsL args))), (12, .i (↑(cellsL args).length : Int)), (13, .i (↑x'.1.1 : Int)), (14, .d (.v (.bool (decide ((↑x'.1.x : Int) < (↑(cellsL args).length : Int)))))), (33, .i op), (34, .d (.v (.bool (op == 17)))), (42, .d (.v (.bool (op == 16)))), (56, .d (.v (.bool x'.1.2))), (59, .agg [.i op, .i sub, .i t.1, .i t.2, .i v.1.1, .i v.1.2, .d (.v (.bool v.2)), .i v.3, .d (.v (.string v.4)), .d (.sl (cellsL args))]), (60, .own 50005), (61, .d (.sl x'.1.3)), (62, .own 62)]] : St } ∧ inv_163b x0 m x')) ∧ (decide ((↑x.3 : Int) < (↑(List.drop x.1.7 (List.take (x.1.7.add x.1.8) (List.map Ty.cs x.1.5))).length : Int)) = false → (0 : Nat) < (List.map Ty.cs x.1.5).length ∧ (2 : Nat) = (2 : Nat) ∧ ∃ (l h : Nat), V.i (↑x.2 : Int) = V.i (↑l : Int) ∧ h = (List.map Ty.cs x.1.5).length ∧ l ≤ h ∧ h ≤ (List.map Ty.cs x.1.5).length ∧ (2 : Nat) = (2 : Nat) ∧ (0 : Nat) < (List.take (Nat.add (0 : Nat) l) (List.map Ty.cs x.1.5) ++ List.replicate (h - l) [D.i 0, D.i 0] ++ List.drop ((Nat.add (0 : Nat) l).add (h - l)) (List.map Ty.cs x.1.5)).length ∧ (2 : Nat) = (2 : Nat) ∧ ∃ (l_2 h_1 : Nat), l_2 = (0 : Nat) ∧ V.i (↑x.2 : Int) = V.i (↑h_1 : Int) ∧ l_2 ≤ h_1 ∧ h_1 ≤ (List.take (Nat.add (0 : Nat) l) (List.map Ty.cs x.1.5) ++ List.replicate (h - l) [D.i 0, D.i 0] ++ List.drop ((Nat.add (0 : Nat) l).add (h - l)) (List.map Ty.cs x.1.5)).length ∧ Q [.d (.v (.bool ((↑(List.drop (Nat.add (0 : Nat) l_2) (List.take ((Nat.add (0 : Nat) l_2).add (h_1 - l_2)) (List.take (Nat.add (0 : Nat) l) (List.map Ty.cs x.1.5) ++ List.replicate (h - l) [.i 0, .i 0] ++ List.drop ((Nat.add (0 : Nat) l).add (h - l)) (List.map Ty.cs x.1.5)))).length : Int) == 1)))] [])) ∧ ((n_2 == n_4 && (n_3 == n_5 && true)) = false → ∃ (m : Nat), ∃ (x' : CPX), m < n ∧ { tm := [(0, .own 62), (2, .nil), (3, .i (IntKind.i64.wrap ((↑x.6 : Int) + 1)))], hp := [(2, .box [.i op, .i sub, .i t.1, .i t.2, .i v.1.1, .i v.1.2, .d (.v (.bool v.2)), .i v.3, .d (.v (.string v.4)), .d (.sl (cellsL args))]), (62, .lst 23 2 (List.map Ty.cs x.5)), (50005, .fro 2 (List.map Ty.cs (List.take x.1 tl)))], kn := [], gd := [], rt := [[(1, .d (.sl (List.map Ty.cs cols))), (2, .ref 2 0), (4, .d (.v (.bool false))), (5, .own 50005), (11, .d (.sl (cellsL args))), (12, .i (↑(cellsL args).length : Int)), (13, .i (↑x.1 : Int)), (14, .d (.v (.bool (decide ((↑x.x : Int) < (↑(cellsL args).length : Int)))))), (33, .i op), (34, .d (.v (.bool (op == 17)))), (42, .d (.v (.bool (op == 16)))), (56, .d (.v (.bool x.2))), (59, .agg [.i op, .i sub, .i t.1, .i t.2, .i v.1.1, .i v.1.2, .d (.v (.bool v.2)), .i v.3, .d (.v (.string v.4)), .d (.sl (cellsL args))]), (60, .own 50005), (61, .d (.sl x.3)), (62, .own 62)]] : St } = { tm := [(0, .own 62), (2, .nil), (3, .i (↑x'.6 : Int))], hp := [(2, .box [.i op, .i sub, .i t.1, .i t.2, .i v.1.1, .i v.1.2, .d (.v (.bool v.2)), .i v.3, .d (.v (.string v.4)), .d (.sl (cellsL args))]), (62, .lst 23 2 (List.map Ty.cs x'.5)), (50005, .fro 2 (List.map Ty.cs (List.take x'.1 tl)))], kn := [], gd := [], rt := [[(1, .d (.sl (List.map Ty.cs cols))), (2, .ref 2 0), (4, .d (.v (.bool false))), (5, .own 50005), (11, .d (.sl (cellsL args))), (12, .i (↑(cellsL args).length : Int)), (13, .i (↑x'.1 : Int)), (14, .d (.v (.bool (decide ((↑x'.x : Int) < (↑(cellsL args).length : Int)))))), (33, .i op), (34, .d (.v (.bool (op == 17)))), (42, .d (.v (.bool (op == 16)))), (56, .d (.v (.bool x'.2))), (59, .agg [.i op, .i sub, .i t.1, .i t.2, .i v.1.1, .i v.1.2, .d (.v (.bool v.2)), .i v.3, .d (.v (.string v.4)), .d (.sl (cellsL args))]), (60, .own 50005), (61, .d (.sl x'.3)), (62, .own 62)]] : St } ∧ inv_163a x0 m x')) ∧ (decide ((↑x.6 : Int) < (↑(List.map Ty.cs x.5).length : Int)) = false → Q [.d (.v (.bool ((↑(List.map Ty.cs x.5).length : Int) == 1)))] []))) ∧ ((op == 14) = false → ((op == 15) = true → ∃ (op_1 sub_1 : Int), ∃ (t_1 : Ty), ∃ (v_1 : AV), ∃ (args_1 : List EX), ∃ (l : List Ty), [D.i op, D.i sub, D.i t.1, D.i t.2, D.i v.1.1, D.i v.1.2, D.v (.bool v.2), D.i v.3, D.v (.string v.4), D.sl (cellsL args)] = [D.i op_1, D.i sub_1, D.i t_1.1, D.i t_1.2, D.i v_1.1.1, D.i v_1.1.2, D.v (.bool v_1.2), D.i v_1.3, D.v (.string v_1.4), D.sl (cellsL args_1)] ∧ List.map Ty.cs (List.take x tl) = List.map Ty.cs l ∧ l.length ≤ 1353245080300 ∧ l ≠ [] ∧ ∃ (l_1 : List Ty), List.map Ty.cs (resultsE op_1 l) = List.map Ty.cs l_1 ∧ l_1 ≠ [] ∧ l_1.length ≤ 1400000000000 ∧ (decide ((↑(List.map Ty.cs l_1).length : Int) < 2) = true → Q [.d (.v (.bool ((↑(List.map Ty.cs l_1).length : Int) == 1)))] []) ∧ (decide ((↑(List.map Ty.cs l_1).length : Int) < 2) = false → ∃ (x0 : CPX), ({ tm := [(0, .own 62), (2, .nil), (3, .i 1)], hp := [(2, .box [.i op, .i sub, .i t.1, .i t.2, .i v.1.1, .i v.1.2, .d (.v (.bool v.2)), .i v.3, .d (.v (.string v.4)), .d (.sl (cellsL args))]), (62, .lst 23 2 (List.map Ty.cs l_1)), (50005, .fro 2 (List.map Ty.cs (List.take x tl)))], kn := [], gd := [], rt := [[(1, .d (.sl (List.map Ty.cs cols))), (2, .ref 2 0), (4, .d (.v (.bool false))), (5, .own 50005), (11, .d (.sl (cellsL args))), (12, .i (↑(cellsL args).length : Int)), (13, .i (↑x : Int)), (14, .d (.v (.bool (decide ((↑x : Int) < (↑(cellsL args).length : Int)))))), (33, .i op), (34, .d (.v (.bool (op == 17)))), (42, .d (.v (.bool (op == 16)))), (56, .d (.v (.bool (op == 15)))), (59, .agg [.i op, .i sub, .i t.1, .i t.2, .i v.1.1, .i v.1.2, .d (.v (.bool v.2)), .i v.3, .d (.v (.string v.4)), .d (.sl (cellsL args))]), (60, .own 50005), (61, .d (.sl (List.map Ty.cs (resultsE op_1 l)))), (62, .own 62)]] : St } = { tm := [(0, .own 62), (2, .nil), (3, .i (↑x0.6 : Int))], hp := [(2, .box [.i op, .i sub, .i t.1, .i t.2, .i v.1.1, .i v.1.2, .d (.v (.bool v.2)), .i v.3, .d (.v (.string v.4)), .d (.sl (cellsL args))]), (62, .lst 23 2 (List.map Ty.cs x0.5)), (50005, .fro 2 (List.map Ty.cs (List.take x0.1 tl)))], kn := [], gd := [], rt := [[(1, .d (.sl (List.map Ty.cs cols))), (2, .ref 2 0), (4, .d (.v (.bool false))), (5, .own 50005), (11, .d (.sl (cellsL args))), (12, .i (↑(cellsL args).length : Int)), (13, .i (↑x0.1 : Int)), (14, .d (.v (.bool (decide ((↑x0.x : Int) < (↑(cellsL args).length : Int)))))), (33, .i op), (34, .d (.v (.bool (op == 17)))), (42, .d (.v (.bool (op == 16)))), (56, .d (.v (.bool x0.2))), (59, .agg [.i op, .i sub, .i t.1, .i t.2, .i v.1.1, .i v.1.2, .d (.v (.bool v.2)), .i v.3, .d (.v (.string v.4)), .d (.sl (cellsL args))]), (60, .own 50005), (61, .d (.sl x0.3)), (62, .own 62)]] : St } ∧ ∃ (n : Nat), inv_163a x0 n x0) ∧ ∀ (n : Nat) (x : CPX), inv_163a x0 n x → (decide ((↑x.6 : Int) < (↑(List.map Ty.cs x.5).length : Int)) = true → (0 ≤ (↑x.6 : Int) ∧ (↑x.6 : Int) < (↑(List.map Ty.cs x.5).length : Int)) ∧ (2 : Nat) = (2 : Nat) ∧ ∃ (cells : List D), (List.map Ty.cs x.5)[(↑x.6 : Int).toNat]? = some cells ∧ ∃ (n_2 n_3 : Int), cut 0 2 cells = some [D.i n_2, D.i n_3] ∧ ((0 : Int) ≤ IntKind.i64.wrap ((↑x.6 : Int) - 1) ∧ IntKind.i64.wrap ((↑x.6 : Int) - 1) < (↑(List.map Ty.cs x.5).length : Int)) ∧ (2 : Nat) = (2 : Nat) ∧ ∃ (cells : List D), (List.map Ty.cs x.5)[(IntKind.i64.wrap ((↑x.6 : Int) - 1)).toNat]? = some cells ∧ ∃ (n_4 n_5 : Int), cut 0 2 cells = some [D.i n_4, D.i n_5] ∧ ((n_2 == n_4 && (n_3 == n_5 && true)) = true → (0 : Nat) < (List.map Ty.cs x.5).length ∧ (2 : Nat) = (2 : Nat) ∧ ∃ (l h : Nat), V.i (↑x.6 : Int) = V.i (↑l : Int) ∧ h = (List.map Ty.cs x.5).length ∧ l ≤ h ∧ h ≤ (List.map Ty.cs x.5).length ∧ ∃ (x0 : CPY), ({ tm := [(0, .own 62), (2, .nil), (3, .i (↑x.6 : Int)), (4, .vw 62 (Nat.add (0 : Nat) l) (h - l)), (5, .i 1), (13, .d (.v (.bool (decide ((↑x.6 : Int) < (↑(List.map Ty.cs x.5).length : Int)))))), (25, .d (.v (.bool (n_2 == n_4 && (n_3 == n_5 && true)))))], hp := [(2, .box [.i op, .i sub, .i t.1, .i t.2, .i v.1.1, .i v.1.2, .d (.v (.bool v.2)), .i v.3, .d (.v (.string v.4)), .d (.sl (cellsL args))]), (62, .lst 23 2 (List.map Ty.cs x.5)), (50005, .fro 2 (List.map Ty.cs (List.take x.1 tl)))], kn := [], gd := [], rt := [[(1, .d (.sl (List.map Ty.cs cols))), (2, .ref 2 0), (4, .d (.v (.bool false))), (5, .own 50005), (11, .d (.sl (cellsL args))), (12, .i (↑(cellsL args).length : Int)), (13, .i (↑x.1 : Int)), (14, .d (.v (.bool (decide ((↑x.x : Int) < (↑(cellsL args).length : Int)))))), (33, .i op), (34, .d (.v (.bool (op == 17)))), (42, .d (.v (.bool (op == 16)))), (56, .d (.v (.bool x.2))), (59, .agg [.i op, .i sub, .i t.1, .i t.2, .i v.1.1, .i v.1.2, .d (.v (.bool v.2)), .i v.3, .d (.v (.string v.4)), .d (.sl (cellsL args))]), (60, .own 50005), (61, .d (.sl x.3)), (62, .own 62)]] : St } = { tm := [(0, .own 62), (2, .nil), (3, .i (↑x0.2 : Int)), (4, .vw 62 x0.1.7 x0.1.8), (5, .i (↑x0.3 : Int)), (13, .d (.v (.bool x0.4))), (25, .d (.v (.bool x0.5)))], hp := [(2, .box [.i op, .i sub, .i t.1, .i t.2, .i v.1.1, .i v.1.2, .d (.v (.bool v.2)), .i v.3, .d (.v (.string v.4)), .d (.sl (cellsL args))]), (62, .lst 23 2 (List.map Ty.cs x0.1.5)), (50005, .fro 2 (List.map Ty.cs (List.take x0.1.1 tl)))], kn := [], gd := [], rt := [[(1, .d (.sl (List.map Ty.cs cols))), (2, .ref 2 0), (4, .d (.v (.bool false))), (5, .own 50005), (11, .d (.sl (cellsL args))), (12, .i (↑(cellsL args).length : Int)), (13, .i (↑x0.1.1 : Int)), (14, .d (.v (.bool (decide ((↑x0.1.x : Int) < (↑(cellsL args).length : Int)))))), (33, .i op), (34, .d (.v (.bool (op == 17)))), (42, .d (.v (.bool (op == 16)))), (56, .d (.v (.bool x0.1.2))), (59, .agg [.i op, .i sub, .i t.1, .i t.2, .i v.1.1, .i v.1.2, .d (.v (.bool v.2)), .i v.3, .d (.v (.string v.4)), .d (.sl (cellsL args))]), (60, .own 50005), (61, .d (.sl x0.1.3)), (62, .own 62)]] : St } ∧ ∃ (n : Nat), inv_163b x0 n x0) ∧ ∀ (n : Nat) (x : CPY), inv_163b x0 n x → (decide ((↑x.3 : Int) < (↑(List.drop x.1.7 (List.take (x.1.7.add x.1.8) (List.map Ty.cs x.1.5))).length : Int)) = true → (0 ≤ (↑x.3 : Int) ∧ (↑x.3 : Int) < (↑x.1.8 : Int)) ∧ (2 : Nat) = (2 : Nat) ∧ ∃ (cells : List D), (List.map Ty.cs x.1.5)[x.1.7.add (↑x.3 : Int).toNat]? = some cells ∧ ∃ (n_6 n_7 : Int), cut 0 2 cells = some [D.i n_6, D.i n_7] ∧ ((0 : Int) ≤ IntKind.i64.wrap ((↑x.3 : Int) - 1) ∧ IntKind.i64.wrap ((↑x.3 : Int) - 1) < (↑x.1.8 : Int)) ∧ (2 : Nat) = (2 : Nat) ∧ ∃ (cells : List D), (List.map Ty.cs x.1.5)[x.1.7.add (IntKind.i64.wrap ((↑x.3 : Int) - 1)).toNat]? = some cells ∧ ∃ (n_8 n_9 : Int), cut 0 2 cells = some [D.i n_8, D.i n_9] ∧ ((!(n_6 == n_8 && (n_7 == n_9 && true))) = true → (0 ≤ (↑x.3 : Int) ∧ (↑x.3 : Int) < (↑x.1.8 : Int)) ∧ (2 : Nat) = (2 : Nat) ∧ ∃ (cells : List D), (List.map Ty.cs x.1.5)[x.1.7.add (↑x.3 : Int).toNat]? = some cells ∧ ∃ (n_10 n_11 : Int), cut 0 2 cells = some [D.i n_10, D.i n_11] ∧ (0 ≤ (↑x.2 : Int) ∧ (↑x.2 : Int) < (↑(List.map Ty.cs x.1.5).length : Int)) ∧ (2 : Nat) = (2 : Nat) ∧ ∃ (cells : List D), (List.map Ty.cs x.1.5)[(↑x.2 : Int).toNat]? = some cells ∧ ∃ (cells' : List D), over (0 : Nat) [D.i n_10, D.i n_11] cells = some cells' ∧ ∃ (m : Nat), ∃ (x' : CPY), m < n ∧ { tm := [(0, .own 62), (2, .nil), (3, .i (IntKind.i64.wrap ((↑x.2 : Int) + 1))), (4, .vw 62 x.1.7 x.1.8), (5, .i (IntKind.i64.wrap ((↑x.3 : Int) + 1))), (13, .d (.v (.bool x.4))), (25, .d (.v (.bool x.5)))], hp := [(2, .box [.i op, .i sub, .i t.1, .i t.2, .i v.1.1, .i v.1.2, .d (.v (.bool v.2)), .i v.3, .d (.v (.string v.4)), .d (.sl (cellsL args))]), (62, .lst 23 2 ((List.map Ty.cs x.1.5).set (↑x.2 : Int).toNat cells')), (50005, .fro 2 (List.map Ty.cs (List.take x.1.1 tl)))], kn := [], gd := [], rt := [[(1, .d (.sl (List.map Ty.cs cols))), (2, .ref 2 0), (4, .d (.v (.bool false))), (5, .own 50005), (11, .d (.sl (cellsL args))), (12, .i (↑(cellsL args).length : Int)), (13, .i (↑x.1.1 : Int)), (14, .d (.v (.bool (decide ((↑x.1.x : Int) < (↑(cellsL args).length : Int)))))), (33, .i op), (34, .d (.v (.bool (op == 17)))), (42, .d (.v (.bool (op == 16)))), (56, .d (.v (.bool x.1.2))), (59, .agg [.i op, .i sub, .i t.1, .i t.2, .i v.1.1, .i v.1.2, .d (.v (.bool v.2)), .i v.3, .d (.v (.string v.4)), .d (.sl (cellsL args))]), (60, .own 50005), (61, .d (.sl x.1.3)), (62, .own 62)]] : St } = { tm := [(0, .own 62), (2, .nil), (3, .i (↑x'.2 : Int)), (4, .vw 62 x'.1.7 x'.1.8), (5, .i (↑x'.3 : Int)), (13, .d (.v (.bool x'.4))), (25, .d (.v (.bool x'.5)))], hp := [(2, .box [.i op, .i sub, .i t.1, .i t.2, .i v.1.1, .i v.1.2, .d (.v (.bool v.2)), .i v.3, .d (.v (.string v.4)), .d (.sl (cellsL args))]), (62, .lst 23 2 (List.map Ty.cs x'.1.5)), (50005, .fro 2 (List.map Ty.cs (List.take x'.1.1 tl)))], kn := [], gd := [], rt := [[(1, .d (.sl (List.map Ty.cs cols))), (2, .ref 2 0), (4, .d (.v (.bool false))), (5, .own 50005), (11, .d (.sl (cellsL args))), (12, .i (↑(cellsL args).length : Int)), (13, .i (↑x'.1.1 : Int)), (14, .d (.v (.bool (decide ((↑x'.1.x : Int) < (↑(cellsL args).length : Int)))))), (33, .i op), (34, .d (.v (.bool (op == 17)))), (42, .d (.v (.bool (op == 16)))), (56, .d (.v (.bool x'.1.2))), (59, .agg [.i op, .i sub, .i t.1, .i t.2, .i v.1.1, .i v.1.2, .d (.v (.bool v.2)), .i v.3, .d (.v (.string v.4)), .d (.sl (cellsL args))]), (60, .own 50005), (61, .d (.sl x'.1.3)), (62, .own 62)]] : St } ∧ inv_163b x0 m x') ∧ ((!(n_6 == n_8 && (n_7 == n_9 && true))) = false → ∃ (m : Nat), ∃ (x' : CPY), m < n ∧ { tm := [(0, .own 62), (2, .nil), (3, .i (↑x.2 : Int)), (4, .vw 62 x.1.7 x.1.8), (5, .i (IntKind.i64.wrap ((↑x.3 : Int) + 1))), (13, .d (.v (.bool x.4))), (25, .d (.v (.bool x.5)))], hp := [(2, .box [.i op, .i sub, .i t.1, .i t.2, .i v.1.1, .i v.1.2, .d (.v (.bool v.2)), .i v.3, .d (.v (.string v.4)), .d (.sl (cellsL args))]), (62, .lst 23 2 (List.map Ty.cs x.1.5)), (50005, .fro 2 (List.map Ty.cs (List.take x.1.1 tl)))], kn := [], gd := [], rt := [[(1, .d (.sl (List.map Ty.cs cols))), (2, .ref 2 0), (4, .d (.v (.bool false))), (5, .own 50005), (11, .d (.sl (cellsL args))), (12, .i (↑(cellsL args).length : Int)), (13, .i (↑x.1.1 : Int)), (14, .d (.v (.bool (decide ((↑x.1.x : Int) < (↑(cellsL args).length : Int)))))), (33, .i op), (34, .d (.v (.bool (op == 17)))), (42, .d (.v (.bool (op == 16)))), (56, .d (.v (.bool x.1.2))), (59, .agg [.i op, .i sub, .i t.1, .i t.2, .i v.1.1, .i v.1.2, .d (.v (.bool v.2)), .i v.3, .d (.v (.string v.4)), .d (.sl (cellsL args))]), (60, .own 50005), (61, .d (.sl x.1.3)), (62, .own 62)]] : St } = { tm := [(0, .own 62), (2, .nil), (3, .i (↑x'.2 : Int)), (4, .vw 62 x'.1.7 x'.1.8), (5, .i (↑x'.3 : Int)), (13, .d (.v (.bool x'.4))), (25, .d (.v (.bool x'.5)))], hp := [(2, .box [.i op, .i sub, .i t.1, .i t.2, .i v.1.1, .i v.1.2, .d (.v (.bool v.2)), .i v.3, .d (.v (.string v.4)), .d (.sl (cellsL args))]), (62, .lst 23 2 (List.map Ty.cs x'.1.5)), (50005, .fro 2 (List.map Ty.cs (List.take x'.1.1 tl)))], kn := [], gd := [], rt := [[(1, .d (.sl (List.map Ty.cs cols))), (2, .ref 2 0), (4, .d (.v (.bool false))), (5, .own 50005), (11, .d (.sl (cellsL args))), (12, .i (↑(cellsL args).length : Int)), (13, .i (↑x'.1.1 : Int)), (14, .d (.v (.bool (decide ((↑x'.1.x : Int) < (↑(cellsL args).length : Int)))))), (33, .i op), (34, .d (.v (.bool (op == 17)))), (42, .d (.v (.bool (op == 16)))), (56, .d (.v (.bool x'.1.2))), (59, .agg [.i op, .i sub, .i t.1, .i t.2, .i v.1.1, .i v.1.2, .d (.v (.bool v.2)), .i v.3, .d (.v (.string v.4)), .d (.sl (cellsL args))]), (60, .own 50005), (61, .d (.sl x'.1.3)), (62, .own 62)]] : St } ∧ inv_163b x0 m x')) ∧ (decide ((↑x.3 : Int) < (↑(List.drop x.1.7 (List.take (x.1.7.add x.1.8) (List.map Ty.cs x.1.5))).length : Int)) = false → (0 : Nat) < (List.map Ty.cs x.1.5).length ∧ (2 : Nat) = (2 : Nat) ∧ ∃ (l h : Nat), V.i (↑x.2 : Int) = V.i (↑l : Int) ∧ h = (List.map Ty.cs x.1.5).length ∧ l ≤ h ∧ h ≤ (List.map Ty.cs x.1.5).length ∧ (2 : Nat) = (2 : Nat) ∧ (0 : Nat) < (List.take (Nat.add (0 : Nat) l) (List.map Ty.cs x.1.5) ++ List.replicate (h - l) [D.i 0, D.i 0] ++ List.drop ((Nat.add (0 : Nat) l).add (h - l)) (List.map Ty.cs x.1.5)).length ∧ (2 : Nat) = (2 : Nat) ∧ ∃ (l_2 h_1 : Nat), l_2 = (0 : Nat) ∧ V.i (↑x.2 : Int) = V.i (↑h_1 : Int) ∧ l_2 ≤ h_1 ∧ h_1 ≤ (List.take (Nat.add (0 : Nat) l) (List.map Ty.cs x.1.5) ++ List.replicate (h - l) [D.i 0, D.i 0] ++ List.drop ((Nat.add (0 : Nat) l).add (h - l)) (List.map Ty.cs x.1.5)).length ∧ Q [.d (.v (.bool ((↑(List.drop (Nat.add (0 : Nat) l_2) (List.take ((Nat.add (0 : Nat) l_2).add (h_1 - l_2)) (List.take (Nat.add (0 : Nat) l) (List.map Ty.cs x.1.5) ++ List.replicate (h - l) [.i 0, .i 0] ++ List.drop ((Nat.add (0 : Nat) l).add (h - l)) (List.map Ty.cs x.1.5)))).length : Int) == 1)))] [])) ∧ ((n_2 == n_4 && (n_3 == n_5 && true)) = false → ∃ (m : Nat), ∃ (x' : CPX), m < n ∧ { tm := [(0, .own 62), (2, .nil), (3, .i (IntKind.i64.wrap ((↑x.6 : Int) + 1)))], hp := [(2, .box [.i op, .i sub, .i t.1, .i t.2, .i v.1.1, .i v.1.2, .d (.v (.bool v.2)), .i v.3, .d (.v (.string v.4)), .d (.sl (cellsL args))]), (62, .lst 23 2 (List.map Ty.cs x.5)), (50005, .fro 2 (List.map Ty.cs (List.take x.1 tl)))], kn := [], gd := [], rt := [[(1, .d (.sl (List.map Ty.cs cols))), (2, .ref 2 0), (4, .d (.v (.bool false))), (5, .own 50005), (11, .d (.sl (cellsL args))), (12, .i (↑(cellsL args).length : Int)), (13, .i (↑x.1 : Int)), (14, .d (.v (.bool (decide ((↑x.x : Int) < (↑(cellsL args).length : Int)))))), (33, .i op), (34, .d (.v (.bool (op == 17)))), (42, .d (.v (.bool (op == 16)))), (56, .d (.v (.bool x.2))), (59, .agg [.i op, .i sub, .i t.1, .i t.2, .i v.1.1, .i v.1.2, .d (.v (.bool v.2)), .i v.3, .d (.v (.string v.4)), .d (.sl (cellsL args))]), (60, .own 50005), (61, .d (.sl x.3)), (62, .own 62)]] : St } = { tm := [(0, .own 62), (2, .nil), (3, .i (↑x'.6 : Int))], hp := [(2, .box [.i op, .i sub, .i t.1, .i t.2, .i v.1.1, .i v.1.2, .d (.v (.bool v.2)), .i v.3, .d (.v (.string v.4)), .d (.sl (cellsL args))]), (62, .lst 23 2 (List.map Ty.cs x'.5)), (50005, .fro 2 (List.map Ty.cs (List.take x'.1 tl)))], kn := [], gd := [], rt := [[(1, .d (.sl (List.map Ty.cs cols))), (2, .ref 2 0), (4, .d (.v (.bool false))), (5, .own 50005), (11, .d (.sl (cellsL args))), (12, .i (↑(cellsL args).length : Int)), (13, .i (↑x'.1 : Int)), (14, .d (.v (.bool (decide ((↑x'.x : Int) < (↑(cellsL args).length : Int)))))), (33, .i op), (34, .d (.v (.bool (op == 17)))), (42, .d (.v (.bool (op == 16)))), (56, .d (.v (.bool x'.2))), (59, .agg [.i op, .i sub, .i t.1, .i t.2, .i v.1.1, .i v.1.2, .d (.v (.bool v.2)), .i v.3, .d (.v (.string v.4)), .d (.sl (cellsL args))]), (60, .own 50005), (61, .d (.sl x'.3)), (62, .own 62)]] : St } ∧ inv_163a x0 m x')) ∧ (decide ((↑x.6 : Int) < (↑(List.map Ty.cs x.5).length : Int)) = false → Q [.d (.v (.bool ((↑(List.map Ty.cs x.5).length : Int) == 1)))] []))) ∧ ((op == 15) = false → Q [.d (.v (.bool true))] [])))))))))))) := by kernel_rfl
theorem safeL_all (cols : List Ty) : ∀ l : List EX, safeL cols l = l.all (safeE cols)
  | [] => rfl
  | e :: r => by simp only [safeL, List.all_cons, safeL_all cols r]
theorem typedL_get {cols : List Ty} : ∀ {l : List EX} {tl : List Ty}, typedL cols l = some tl → ∀ (i : Nat) (hi : i < l.length), tl[i]? = some (typedE cols l[i]).1
  | [], _, _, i, hi => by simp at hi
  | a :: l, tl, h, i, hi => by
    simp only [typedL] at h
    rcases hh : typedE cols a with ⟨u, _ | _⟩
    · rw [hh] at h; cases h
    · rcases hl : typedL cols l with _ | l2
      · rw [hh, hl] at h; cases h
      · rw [hh, hl] at h
        simp only [Option.some.injEq] at h
        subst h
        cases i with
        | zero => simp [hh]
        | succ i => simpa using typedL_get hl i (by simpa using hi)
theorem one_iff {l : List Ty} (h : l ≠ []) : oneT l = true ↔ ∀ j, j < l.length → l.getD j ⟨0, 0⟩ = l.getD 0 ⟨0, 0⟩ := by
  cases l with
  | nil => exact (h rfl).elim
  | cons a r =>
    constructor
    · intro ho j hj
      obtain ⟨b, r', e, hall⟩ := one_all ho
      obtain ⟨rfl, rfl⟩ := List.cons.inj e
      rw [List.getD_eq_getElem?_getD, List.getElem?_eq_getElem hj]
      exact hall _ (List.getElem_mem hj)
    · intro hj
      simp only [oneT, List.all_eq_true]
      intro b hb
      obtain ⟨i, hi, rfl⟩ := List.mem_iff_getElem.1 hb
      have := hj (i + 1) (by simpa using hi)
      rw [List.getD_eq_getElem?_getD, List.getElem?_eq_getElem (by simpa using hi)] at this
      have e : r[i] = a := by simpa using this
      rw [e]; simp
theorem getD_of {l : List Ty} {i : Nat} (h : i < l.length) : l.getD i ⟨0, 0⟩ = l[i] := by
  rw [List.getD_eq_getElem?_getD, List.getElem?_eq_getElem h]; rfl
theorem getI {l : List Ty} {i : Nat} (h : i < l.length) : (l.map Ty.cs)[((i : Nat) : Int).toNat]? = some (Ty.cs (l.getD i ⟨0, 0⟩)) := by
  rw [Int.toNat_natCast, ty_get h, getD_of h]
theorem tyeq (a b : Ty) : (a.k == b.k && (a.sc == b.sc && true)) = true ↔ a = b := by
  obtain ⟨k, s⟩ := a
  obtain ⟨k', s'⟩ := b
  simp
theorem I_163_ok (n : Nat) (op sub : Int) (t : Ty) (v : Go.Ex.AV) (args : List EX) (cols tl : List Ty) (hC : CallsOk prog gl (C_f79 n)) : IOk prog gl (I_163 n op sub t v args cols tl) :=
  ioK_inl E_k_ok hC ioK_no (fun _ _ _ h => h.elim) mixed (FisOk.cons fisOk_nil (fn := f59) (by kernel_rfl) (by kernel_rfl) (by kernel_rfl) (by kernel_rfl))
theorem getI2 {l : List Ty} {p i : Nat} (h : p + i < l.length) : (l.map Ty.cs)[p.add ((i : Nat) : Int).toNat]? = some (Ty.cs (l.getD (p + i) ⟨0, 0⟩)) := by
  rw [Int.toNat_natCast]
  show (l.map Ty.cs)[p + i]? = _
  rw [ty_get h, getD_of h]
theorem setI (o : List Ty) (k : Nat) (u : Ty) : (o.map Ty.cs).set ((k : Nat) : Int).toNat [.v (.int .i64 u.k), .v (.int .i64 u.sc)] = (o.set k u).map Ty.cs := by
  rw [Int.toNat_natCast, List.map_set]
theorem wrap_pred {k : Nat} (h1 : 1 ≤ k) (h2 : k < 9223372036854775807) : IntKind.i64.wrap ((k : Int) - 1) = ((k - 1 : Nat) : Int) := by
  rw [wrap_i64_of (by omega) (by omega)]; omega
theorem safeN_bad {op : Int} {t : Ty} {tl : List Ty} (h : (3 ≤ op ∧ op ≤ 8) ∨ op = 17) : safeN op t tl = false := by unfold safeN; rw [if_pos h]
theorem ct79 : ∀ (n : Nat) (e : EX) (cols : List Ty), size e < n → fits e → mayE cols.length e = true → cols.length ≤ 4398046511104 → (typedE cols e).2 = true →
    Ct prog gl 33 [.agg (cells e), .d (.sl (cols.map Ty.cs))] (gives [.d (.v (.bool (safeE cols e)))])
  | 0, _, _, h, _, _, _, _ => absurd h (Nat.not_lt_zero _)
  | n + 1, .mk op sub t v args, cols, hs, hf, hm, hcl, ht => by
    have hC : CallsOk prog gl (C_f79 n) := addC_ok (addC_ok (addC_ok C_g4_ok c_132_ok) c_164_ok) (fun a K hk => by
      unfold c_79n at hk
      split at hk
      · obtain ⟨e, cols, rfl, rfl, h1, h2, h3, h4, h5, h6⟩ := hk
        exact (ct79 n e cols h1 h2 h3 h4 h5).gives h6
      · exact hk.elim)
    obtain ⟨tl, htl⟩ := typedE_args ht
    have hlen := typedL_len htl
    obtain ⟨hh, hml⟩ := may_mk hm
    rw [mayL_all, List.all_eq_true] at hml
    rw [cells_mk]
    refine ct_of_vc E_k_ok hC (I_163_ok n op sub t v args cols tl hC) (fun _ _ _ h => h.elim) mixed (fn := f33) (body := f33.body.getD .skip) (by kernel_rfl) (by kernel_rfl) (by kernel_rfl) (fi := fx_79 op sub t v args cols tl) (by kernel_rfl) (by kernel_rfl) ⟨_, _, rfl, rfl⟩ ?_
    rw [vc79]
    obtain ⟨_, hl, hfl⟩ := fits_mk hf
    simp only [size] at hs
    refine ⟨cellsL args, rfl, (0 : Nat), ⟨rfl, args.length, Nat.zero_le _, rfl, rfl⟩, fun m (x : Nat) hx => ⟨fun hi => ?_, fun hi => ?_⟩⟩
    · obtain ⟨h1, h2, h3⟩ := hx
      have hi : x < args.length := by simpa [cellsL_len] using hi
      obtain ⟨op1, sub1, t1, v1, a1, e1, g1⟩ := arg_get hi
      have hsz := size_mem (List.getElem_mem hi)
      have hty := typedL_mem htl _ (List.getElem_mem hi)
      refine ⟨cellsL args, rfl, ⟨by omega, by rw [cellsL_len]; omega⟩, _, g1, rfl, op1, sub1, t1.k, t1.sc, v1.t.k, v1.t.sc, v1.nul, v1.n, v1.s, cellsL a1, rfl, args[x], cols, by rw [e1, cells_mk]; rfl, rfl, by omega, fitsL_mem hfl (List.getElem_mem hi), hml _ (List.getElem_mem hi), hcl, hty, fun ho => ?_, fun ho => ⟨args[x], cols, by rw [e1, cells_mk]; rfl, rfl, fitsL_mem hfl (List.getElem_mem hi), hml _ (List.getElem_mem hi), hcl, fun t2 ok he => ⟨by simp, rfl, rfl, ?_, args.length - (x + 1), x + 1, by omega, ?_, hi, rfl, ?_⟩⟩⟩
      · have : safeE cols (.mk op sub t v args) = false := by
          simp only [safeE, Bool.and_eq_false_iff]
          left
          rw [safeL_all, List.all_eq_false]
          exact ⟨_, List.getElem_mem hi, by simpa using ho⟩
        rw [this]; exact ⟨rfl, rfl⟩
      · show (((List.map Ty.cs (tl.take x)).length + 1 : Nat) : Int) * ((16 : Nat) : Int) ≤ _
        rw [List.length_map, List.length_take]; omega
      · rw [wrap_next (by omega)]
        have : tl.take (x + 1) = tl.take x ++ [t2] := by
          rw [List.take_add_one, typedL_get htl x hi, he]; rfl
        rw [this, List.map_append]
        rfl
      · rw [List.take_add_one, List.getElem?_eq_getElem hi, safeL_all, Option.toList_some, List.all_append, ← safeL_all, h3]
        simpa using ho
    · obtain ⟨h1, h2, h3⟩ := hx
      have hi : ¬ x < args.length := by simpa [cellsL_len] using hi
      have hxe : x = args.length := by omega
      subst hxe
      rw [List.take_of_length_le (Nat.le_refl _)] at h3
      have htk : tl.take args.length = tl := List.take_of_length_le (by omega)
      have hsf : safeE cols (.mk op sub t v args) = safeN op t tl := by
        simp only [safeE, h3, htl, Bool.true_and]; rfl
      rw [hsf]
      refine ⟨fun o3 => ?_, fun o3 => ⟨fun o4 => ?_, fun o4 => ⟨fun o5 => ?_, fun o5 => ⟨fun o6 => ?_, fun o6 => ⟨fun o7 => ?_, fun o7 => ⟨fun o8 => ?_, fun o8 => ⟨fun o17 => ?_, fun o17 => ⟨fun o16 => ?_, fun o16 => ⟨fun o14 => ?_, fun o14 => ⟨fun o15 => ?_, fun o15 => ?_⟩⟩⟩⟩⟩⟩⟩⟩⟩⟩
      · rw [safeN_bad (by left; have : op = 3 := by simpa using o3
                          omega)]; exact ⟨rfl, rfl⟩
      · rw [safeN_bad (by left; have : op = 4 := by simpa using o4
                          omega)]; exact ⟨rfl, rfl⟩
      · rw [safeN_bad (by left; have : op = 5 := by simpa using o5
                          omega)]; exact ⟨rfl, rfl⟩
      · rw [safeN_bad (by left; have : op = 6 := by simpa using o6
                          omega)]; exact ⟨rfl, rfl⟩
      · rw [safeN_bad (by left; have : op = 7 := by simpa using o7
                          omega)]; exact ⟨rfl, rfl⟩
      · rw [safeN_bad (by left; have : op = 8 := by simpa using o8
                          omega)]; exact ⟨rfl, rfl⟩
      · rw [safeN_bad (by right; simpa using o17)]; exact ⟨rfl, rfl⟩
      all_goals
        have n3 : op ≠ 3 := by simpa using o3
        have n4 : op ≠ 4 := by simpa using o4
        have n5 : op ≠ 5 := by simpa using o5
        have n6 : op ≠ 6 := by simpa using o6
        have n7 : op ≠ 7 := by simpa using o7
        have n8 : op ≠ 8 := by simpa using o8
        have n17 : op ≠ 17 := by simpa using o17
        have hnb : ¬ ((3 ≤ op ∧ op ≤ 8) ∨ op = 17) := by omega
      · have o16 : op = 16 := by simpa using o16
        subst o16
        have hm : (bif bif bif (((args.length : Nat) : Int)) == 1 then sub == 0 else false then s60_0 t.k t.sc == 0 else false then valZ v else false) = true := hh
        simp only [Bool.cond_false_right, Bool.and_eq_true, beq_iff_eq] at hm
        have h0 : 0 < tl.length := by omega
        rw [htk]
        refine ⟨⟨by decide, by rw [List.length_map]; omega⟩, rfl, Ty.cs (tl.getD 0 ⟨0, 0⟩), getI (i := 0) h0, _, _, rfl, fun hq => ?_, fun hq => ?_⟩
        all_goals
          unfold safeN
          rw [if_neg hnb, if_pos rfl]
        · have : (t.k == (tl.getD 0 ⟨0, 0⟩).k && t.sc == (tl.getD 0 ⟨0, 0⟩).sc) = false := by simpa using hq
          rw [this]; exact ⟨rfl, rfl⟩
        · have : (t.k == (tl.getD 0 ⟨0, 0⟩).k && t.sc == (tl.getD 0 ⟨0, 0⟩).sc) = true := by simpa using hq
          rw [this]; exact ⟨rfl, rfl⟩
      all_goals have n16 : op ≠ 16 := by simpa using o16
      rotate_right
      · have n14 : op ≠ 14 := by simpa using o14
        have n15 : op ≠ 15 := by simpa using o15
        unfold safeN
        rw [if_neg hnb, if_neg n16, if_neg (by omega)]
        exact ⟨rfl, rfl⟩
      all_goals
        have hop : op = 14 ∨ op = 15 := by first | (left; simpa using o14) | (right; simpa using o15)
        have hpos : 1 ≤ args.length := by have := may_pos hh (by omega) (by omega); omega
        have hne : tl ≠ [] := by intro h; rw [h] at hlen; simp at hlen; omega
        obtain ⟨a, r, hr, hrl⟩ := results_ne (op := op) hne
        have hres : safeN op t tl = oneT (resultsE op tl) := by
          unfold safeN; rw [if_neg hnb, if_neg n16, if_pos hop]
        rw [hres]
        have hrne : resultsE op tl ≠ [] := by rw [hr]; simp
        have hrlen : (resultsE op tl).length ≤ 1400000000000 := by rw [hr, List.length_cons]; omega
        clear hres hr hrl
        refine ⟨op, sub, t, v, args, tl, rfl, by rw [htk], by omega, hne, ?_⟩
        generalize resultsE op tl = L at hrne hrlen ⊢
        have hLp := List.length_pos_iff.2 hrne
        have fin : ∀ b : Bool, (b = true ↔ oneT L = true) → gives [.d (.v (.bool (oneT L)))] [R.d (D.v (Value.bool b))] [] := fun b hb => by
          have : b = oneT L := by
            cases hL : oneT L
            · cases b
              · rfl
              · rw [hL] at hb; exact absurd (hb.1 rfl) (by simp)
            · rw [hL] at hb; exact hb.2 rfl
          rw [this]; exact ⟨rfl, rfl⟩
        refine ⟨L, rfl, hrne, hrlen, fun hl2 => ?_, fun hl2 => ?_⟩
        · have hl2 := of_decide_eq_true hl2
          rw [List.length_map] at hl2
          have hl2 : L.length < 2 := by omega
          refine fin _ ?_
          rw [one_iff hrne]
          simp only [beq_iff_eq, List.length_map]
          refine ⟨fun _ j hj => ?_, fun _ => by omega⟩
          have : j = 0 := by omega
          rw [this]
        · have hl2 := of_decide_eq_false hl2
          rw [List.length_map] at hl2
          have hl2 : 2 ≤ L.length := by omega
          refine ⟨⟨args.length, _, _, L, L, 1, 0, 0⟩, ⟨rfl, L.length - 1, rfl, rfl, rfl, rfl, rfl, hl2, hrlen, Nat.le_refl _, by dsimp only; omega, rfl, fun h => absurd h (by dsimp only; omega)⟩, fun n2 y hy => ⟨fun hlt => ?_, fun hge => ?_⟩⟩
          · obtain ⟨x, b, r, l, o, k, p, q⟩ := y
            obtain ⟨e1, e2, e3, e4, e5, a1, a2, k1, k2, hn, hk⟩ := hy
            dsimp only at e1 e2 e3 e4 e5 a1 a2 k1 k2 hn hk hlt ⊢
            subst e1; subst e2; subst e3; subst e4; subst e5
            have hlt : k < o.length := by simpa using hlt
            have hw := wrap_pred k1 (by omega)
            refine ⟨⟨by omega, by rw [List.length_map]; omega⟩, rfl, _, getI hlt, _, _, rfl, ⟨by rw [hw]; omega, by rw [hw, List.length_map]; omega⟩, rfl, Ty.cs (o.getD (k - 1) ⟨0, 0⟩), by rw [hw]; exact getI (by omega), _, _, rfl, fun heq => ?_, fun hneq => ?_⟩
            · have heq := (tyeq _ _).1 heq
              refine ⟨by rw [List.length_map]; omega, rfl, k, (o.map Ty.cs).length, rfl, rfl, by rw [List.length_map]; omega, Nat.le_refl _, ⟨⟨args.length, _, _, o, o, k, _, _⟩, k, 1, _, _⟩, ⟨rfl, o.length - (k + 1), ⟨rfl, rfl, rfl, rfl, rfl, rfl, rfl⟩, ⟨rfl, rfl⟩, ⟨by dsimp only; exact Nat.zero_add k, by dsimp only; rw [List.length_map], rfl, k1, Nat.le_refl _, by dsimp only; omega, rfl, k1, by dsimp only; omega⟩, fun j _ => rfl, ?_⟩, fun n3 z hz => ⟨fun hlt2 => ?_, fun hge2 => ?_⟩⟩
              · dsimp only
                constructor
                · intro h1 j hj
                  subst h1
                  have : j = 0 ∨ j = 1 := by omega
                  rcases this with rfl | rfl
                  · rfl
                  · exact heq
                · intro hj
                  by_cases h1 : k = 1
                  · exact h1
                  · exact absurd (hj 1 (by omega)) (hk (by omega))
              · obtain ⟨⟨x2, b2, r2, l2, o2, k2', p2, q2⟩, kk, mm, e13, e25⟩ := z
                obtain ⟨⟨fe1, fe2, fe3, fe4, fe5, fe6, fe7⟩, ⟨fe8, fe9⟩, ⟨d1, d2, d3, d4, d5, d6, d7, d8, d9⟩, i1, i2⟩ := hz
                dsimp only at fe1 fe2 fe3 fe4 fe5 fe6 fe7 fe8 fe9 d1 d2 d3 d4 d5 d6 d7 d8 d9 i1 i2 hlt2 ⊢
                subst fe1; subst fe2; subst fe3; subst fe4; subst fe5; have g6 : k2' = p2 := (fe6.trans (Nat.zero_add _)).symm
                have g7 : q2 = l2.length - k2' := fe7.trans (by rw [List.length_map])
                clear fe6 fe7
                subst g6; subst g7; subst fe8; subst fe9
                have hq := of_decide_eq_true hlt2
                rw [List.length_drop, List.length_take, List.length_map, Nat.add_eq, d3] at hq
                have hm : k2' + mm < l2.length := by omega
                have hw := wrap_pred d5 (by omega)
                refine ⟨⟨by omega, by omega⟩, rfl, _, getI2 (by omega), _, _, rfl, ⟨by rw [hw]; omega, by rw [hw]; omega⟩, rfl, _, (by rw [hw]; exact getI2 (by omega)), _, _, rfl, fun hne2 => ?_, fun heq2 => ?_⟩
                · have hne2 : o2.getD (k2' + mm) ⟨0, 0⟩ ≠ o2.getD (k2' + (mm - 1)) ⟨0, 0⟩ := fun h => by
                    rw [(tyeq _ _).2 h] at hne2; cases hne2
                  rw [i1 _ (by omega), i1 _ (by omega)] at hne2
                  refine ⟨⟨by omega, by omega⟩, rfl, _, getI2 (by omega), _, _, rfl, ⟨by omega, by rw [List.length_map]; omega⟩, rfl, _, getI (by omega), _, rfl, l2.length - (k2' + (mm + 1)), ⟨⟨args.length, _, _, l2, o2.set kk (o2.getD (k2' + mm) ⟨0, 0⟩), k2', _, _⟩, kk + 1, mm + 1, _, _⟩, by omega, by rw [setI, wrap_next (by omega), wrap_next (by omega)], ⟨rfl, rfl, rfl, rfl, rfl, (Nat.zero_add _).symm, by dsimp only; rw [List.length_map]⟩, ⟨rfl, rfl⟩, ⟨rfl, rfl, by dsimp only; rw [List.length_set]; exact d3, d4, by dsimp only; omega, by dsimp only; omega, rfl, by dsimp only; omega, by dsimp only; omega⟩, fun j hj => ?_, ?_⟩
                  · dsimp only at hj ⊢
                    rw [List.getD_eq_getElem?_getD, List.getElem?_set_ne (by omega), ← List.getD_eq_getElem?_getD]
                    exact i1 j (by omega)
                  · dsimp only
                    refine ⟨fun h => by omega, fun h => absurd ?_ hne2⟩
                    rw [h (k2' + mm) (by omega), h (k2' + (mm - 1)) (by omega)]
                · have heq2 := (tyeq (o2.getD (k2' + mm) ⟨0, 0⟩) (o2.getD (k2' + (mm - 1)) ⟨0, 0⟩)).1 ((Bool.not_eq_false' _).mp heq2)
                  rw [i1 _ (by omega), i1 _ (by omega)] at heq2
                  refine ⟨l2.length - (k2' + (mm + 1)), ⟨⟨args.length, _, _, l2, o2, k2', _, _⟩, kk, mm + 1, _, _⟩, by omega, by rw [wrap_next (by omega)], ⟨rfl, rfl, rfl, rfl, rfl, (Nat.zero_add _).symm, by dsimp only; rw [List.length_map]⟩, ⟨rfl, rfl⟩, ⟨rfl, rfl, d3, d4, by dsimp only; omega, by dsimp only; omega, rfl, d8, by dsimp only; omega⟩, fun j hj => ?_, ?_⟩
                  · dsimp only at hj ⊢
                    exact i1 j (by omega)
                  · dsimp only
                    rw [i2]
                    refine ⟨fun h j hj => ?_, fun h j hj => h j (by omega)⟩
                    by_cases hj2 : j < k2' + mm
                    · exact h j hj2
                    · have : j = k2' + mm := by omega
                      rw [this, heq2]
                      exact h _ (by omega)
              · obtain ⟨⟨x2, b2, r2, l2, o2, k2', p2, q2⟩, kk, mm, e13, e25⟩ := z
                obtain ⟨⟨fe1, fe2, fe3, fe4, fe5, fe6, fe7⟩, ⟨fe8, fe9⟩, ⟨d1, d2, d3, d4, d5, d6, d7, d8, d9⟩, i1, i2⟩ := hz
                dsimp only at fe1 fe2 fe3 fe4 fe5 fe6 fe7 fe8 fe9 d1 d2 d3 d4 d5 d6 d7 d8 d9 i1 i2 hge2 ⊢
                subst fe1; subst fe2; subst fe3; subst fe4; subst fe5; have g6 : k2' = p2 := (fe6.trans (Nat.zero_add _)).symm
                have g7 : q2 = l2.length - k2' := fe7.trans (by rw [List.length_map])
                clear fe6 fe7
                subst g6; subst g7; subst fe8; subst fe9
                have hq := of_decide_eq_false hge2
                rw [List.length_drop, List.length_take, List.length_map, Nat.add_eq, d3] at hq
                have hm : k2' + mm = l2.length := by omega
                have hlen9 : (List.take (Nat.add 0 kk) (List.map Ty.cs o2) ++ List.replicate ((List.map Ty.cs o2).length - kk) [D.v (.int .i64 0), D.v (.int .i64 0)] ++ List.drop ((Nat.add 0 kk).add ((List.map Ty.cs o2).length - kk)) (List.map Ty.cs o2)).length = l2.length := by
                  simp only [List.length_append, List.length_take, List.length_replicate, List.length_drop, List.length_map, Nat.add_eq]; omega
                refine ⟨by rw [List.length_map]; omega, rfl, kk, (o2.map Ty.cs).length, rfl, rfl, by rw [List.length_map]; omega, Nat.le_refl _, rfl, by rw [hlen9]; omega, rfl, 0, kk, rfl, rfl, Nat.zero_le _, by rw [hlen9]; omega, fin _ ?_⟩
                rw [one_iff hrne, List.length_drop, List.length_take, hlen9, ← hm]
                rw [hm] at i2 ⊢
                rw [← i2]
                simp only [beq_iff_eq, Nat.add_eq]
                omega
            · refine ⟨o.length - (k + 1), ⟨args.length, _, _, o, o, k + 1, 0, 0⟩, by omega, by rw [wrap_next (by omega)], rfl, rfl, rfl, rfl, rfl, a1, a2, by dsimp only; omega, by dsimp only; omega, rfl, fun _ => ?_⟩
              dsimp only
              by_cases h1 : k = 1
              · subst h1
                intro h
                rw [Nat.sub_self] at hneq
                have := (tyeq (o.getD 1 ⟨0, 0⟩) (o.getD 0 ⟨0, 0⟩)).2 h
                rw [this] at hneq; cases hneq
              · exact hk (by omega)
          · obtain ⟨x, b, r, l, o, k, p, q⟩ := y
            obtain ⟨e1, e2, e3, e4, e5, a1, a2, k1, k2, hn, hk⟩ := hy
            dsimp only at e1 e2 e3 e4 e5 a1 a2 k1 k2 hn hk hge ⊢
            subst e1; subst e2; subst e3; subst e4; subst e5
            have hge : ¬ k < o.length := by simpa using hge
            refine fin _ ?_
            rw [one_iff hrne]
            simp only [beq_iff_eq, List.length_map]
            refine ⟨fun h => by omega, fun h => absurd (h 1 (by omega)) (hk (by omega))⟩
end Go.Proofs.Tryz
namespace Go.Proofs.Tryz
open Go Go.Dm Go.Ex
set_option maxRecDepth 100000
variable {gl : Nat → Option Obj}
theorem c_79_ok (a : List R) (K : List R → List (List D) → Prop) (h : c_79 a K) : Ct prog gl 33 a K := by
  unfold c_79 at h
  split at h
  · obtain ⟨e, cols, rfl, rfl, h1, h2, h3, h4⟩ := h
    obtain ⟨hm, ht⟩ := check_may h3
    exact (ct79 (size e + 1) e cols (Nat.lt_succ_self _) h1 hm h2 ht).gives h4
  · exact h.elim
theorem C_s28_ok : CallsOk prog gl C_s28 := addC_ok C_g5_ok c_79_ok
theorem c_28_ok (a : List R) (K : List R → List (List D) → Prop) (h : c_28 a K) : Ct prog gl 15 a K := by
  unfold c_28 at h
  split at h
  · obtain ⟨e, cols, rfl, rfl, h1, h2, h3⟩ := h
    exact (ct28 C_s28_ok e cols h1 h2).gives h3
  · exact h.elim
theorem C_s7_ok (G : GlOk gl) : CallsOk prog gl C_s7 := addC_ok (C_t17v_ok G) c_28_ok
end Go.Proofs.Tryz
