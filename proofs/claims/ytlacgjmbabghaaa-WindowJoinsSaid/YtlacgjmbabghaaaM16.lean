/- A part of the proof: contracts of functions, by a verified generator of conditions; no condition of its own. -/
import Derived.Test.YtlacgjmbabghaaaMt4
namespace Go.Proofs.Try
open Go Go.Dm
set_option maxRecDepth 100000
def iD (l : List Int) : List (List D) := l.map fun n => [.v (.int .i64 n)]
def wv (l : List Int) : List AV := l.map fun n => ofInt (n / 256)
def st_4 (kd a b c : Int) (m : List Int) (x : Nat) : St := { tm := [(0, .d (.v (.int .i64 kd))), (2, .d (.v (.int .u8 a))), (3, .d (.v (.int .u8 b))), (4, .d (.v (.int .u8 c))), (10, .d (.v (.bool false))), (11, .ref 11 0), (12, .own 50012), (28, .d (.sl (iD m))), (29, .d (.v (.int .i64 (m.length : Int)))), (30, .d (.v (.int .i64 (x : Int))))], hp := [(11, .box [.d (.v (.int .i64 2)), .d (.v (.int .i64 0))]), (50012, .lst 37 5 ((wv (m.take x)).map AV.cs))], kn := [], gd := [] }
def inv_4 (m : List Int) (k : Nat) (x : Nat) : Prop := x ≤ m.length ∧ k = m.length - x
def fx_4 (kd a b c : Int) (m : List Int) : Fi := { fi4 with cv := [(4, [⟨none, 12, 50012, 37, 5⟩])], lx := [(4, { X := Nat, sh := st_4 kd a b c m, P := fun _ => inv_4 m })] }
def E_4 : Env := { E_3 with inl := [14, 31, 43] }
def C_4g : CallT := addC C_b20 5 c_5g
theorem C_4g_ok : CallsOk prog C_4g := addC_ok C_b20_ok c_5g_ok
def C_4e : CallT := addC C_b20 5 c_5e
theorem C_4e_ok : CallsOk prog C_4e := addC_ok C_b20_ok c_5e_ok
structure JX where
  x : Nat
  L : Nat
  lv : List (List Sm)
  p : Int
  q : Int
  r : Int
  i : Int
  j : Int
def st_hp (kd : Int) (m : List Int) (y : JX) : List (Nat × B) := [(11, .box [.d (.v (.int .i64 2)), .d (.v (.int .i64 0))]), (45, .box [.d (.v (.int .i64 kd)), .d (.v (.int .i64 2)), .d (.v (.int .i64 0)), .d (.sl (lvD y.lv)), .d (.v (.int .i64 0))]), (75, .lst 3 1 [[.v (.int .i64 y.p)], [.v (.int .i64 y.q)], [.v (.int .i64 y.r)]]), (50012, .fro 5 ((wv (m.take y.x)).map AV.cs))]
def st_t4 (kd a b c : Int) (m : List Int) (x : Nat) : List (Nat × V) := [(0, .d (.v (.int .i64 kd))), (2, .d (.v (.int .u8 a))), (3, .d (.v (.int .u8 b))), (4, .d (.v (.int .u8 c))), (10, .d (.v (.bool false))), (11, .ref 11 0), (12, .own 50012), (15, .ref 45 0), (16, .d (.v (.int .i64 0))), (17, .own 75), (28, .d (.sl (iD m))), (29, .d (.v (.int .i64 (m.length : Int)))), (30, .d (.v (.int .i64 (x : Int)))), (31, .d (.v (.bool (decide ((x : Int) < (m.length : Int)))))), (58, .d (.v (.bool (bif bif !true then true else (0 : Int) != (0 : Int) then true else (((wv (m.take x)).map AV.cs).length : Int) == (0 : Int))))), (76, .own 75)]
def st_t14 (L : Nat) : List (Nat × V) := [(0, .own 75), (2, .d (.v (.int .i64 3))), (5, .own 75), (6, .d (.v (.int .i64 3))), (7, .d (.v (.int .i64 3))), (8, .d (.v (.int .u64 (IntKind.u64.wrap 3)))), (9, .d (.v (.int .i64 (L : Int))))]
def st_31 (kd a b c : Int) (m : List Int) (y : JX) : St := { tm := [(0, .own 75), (1, .d (.v (.int .i64 0))), (2, .d (.v (.int .i64 3))), (3, .d (.v (.int .i64 (y.L : Int)))), (8, .d (.v (.bool true))), (9, .d (.v (.bool true)))], hp := st_hp kd m y, kn := [], gd := [], rt := [st_t14 y.L, st_t4 kd a b c m y.x] }
def st_t31 (L : Nat) : List (Nat × V) := [(0, .own 75), (1, .d (.v (.int .i64 0))), (2, .d (.v (.int .i64 3))), (3, .d (.v (.int .i64 (L : Int)))), (8, .d (.v (.bool true))), (9, .d (.v (.bool true))), (10, .d (.v (.int .i64 (IntKind.i64.wrap (3 - 0))))), (23, .d (.v (.bool (decide (IntKind.i64.wrap (3 - 0) ≤ (12 : Int)))))), (24, .own 75), (25, .d (.v (.int .i64 0))), (26, .d (.v (.int .i64 3)))]
def st_43 (kd a b c : Int) (m : List Int) (y : JX) : St := { tm := [(0, .own 75), (1, .d (.v (.int .i64 0))), (2, .d (.v (.int .i64 3))), (6, .d (.v (.int .i64 y.i)))], hp := st_hp kd m y, kn := [], gd := [], rt := [st_t31 y.L, st_t14 y.L, st_t4 kd a b c m y.x] }
def st_43b (kd a b c : Int) (m : List Int) (y : JX) : St := { tm := [(0, .own 75), (1, .d (.v (.int .i64 0))), (2, .d (.v (.int .i64 3))), (6, .d (.v (.int .i64 y.i))), (7, .d (.v (.int .i64 y.j))), (12, .d (.v (.bool (decide (y.i < 3)))))], hp := st_hp kd m y, kn := [], gd := [], rt := [st_t31 y.L, st_t14 y.L, st_t4 kd a b c m y.x] }
def inB (B : Int) (y : JX) : Prop := 0 ≤ y.p ∧ y.p < B ∧ 0 ≤ y.q ∧ y.q < B ∧ 0 ≤ y.r ∧ y.r < B
def inv_43 (y0 : JX) (n : Nat) (y : JX) : Prop := y.x = y0.x ∧ y.L = y0.L ∧ y.lv = y0.lv ∧ (∀ B, inB B y0 → inB B y) ∧ 1 ≤ y.i ∧ y.i ≤ 3 ∧ (2 ≤ y.i → y.p ≤ y.q) ∧ (3 ≤ y.i → y.q ≤ y.r) ∧ (n : Int) = 3 - y.i
def inv_43b (y0 : JX) (n : Nat) (y : JX) : Prop := y.x = y0.x ∧ y.L = y0.L ∧ y.lv = y0.lv ∧ (∀ B, inB B y0 → inB B y) ∧ y.i = y0.i ∧ 0 ≤ y.j ∧ y.j ≤ y.i ∧ (n : Int) = y.j ∧
  ((y.i = 1 ∧ (y.j = 0 → y.p ≤ y.q)) ∨ (y.i = 2 ∧ (y.j = 2 → y.p ≤ y.q) ∧ (y.j = 1 → y.p ≤ y.r ∧ y.q ≤ y.r) ∧ (y.j = 0 → y.p ≤ y.q ∧ y.q ≤ y.r)))
def fx_31 (kd a b c : Int) (m : List Int) : Fi := { fi31 with lx := [(2, { X := JX, sh := st_31 kd a b c m, P := fun y0 _ y => y = y0 })] }
def fx_43 (kd a b c : Int) (m : List Int) : Fi := { fi43 with lx := [(1, { X := JX, sh := st_43 kd a b c m, P := inv_43 }), (4, { X := JX, sh := st_43b kd a b c m, P := inv_43b })] }
noncomputable def fis_43 (kd a b c : Int) (m : List Int) : Fis := [(43, (3000, f43.ntmps, f43.body.getD .skip, f43.results.toList, fx_43 kd a b c m))]
noncomputable def I_43 (kd a b c : Int) (m : List Int) : Nat → List V → List V → St → (V → St → Prop) → Prop := inl E_4 C_4g noI (fis_43 kd a b c m)
noncomputable def fis_31 (kd a b c : Int) (m : List Int) : Fis := [(31, (2000, f31.ntmps, f31.body.getD .skip, f31.results.toList, fx_31 kd a b c m))]
noncomputable def I_31 (kd a b c : Int) (m : List Int) : Nat → List V → List V → St → (V → St → Prop) → Prop := inl E_4 C_4g (I_43 kd a b c m) (fis_31 kd a b c m)
noncomputable def fis_14 : Fis := [(14, (1000, f14.ntmps, f14.body.getD .skip, f14.results.toList, fi14))]
noncomputable def I_14 (kd a b c : Int) (m : List Int) : Nat → List V → List V → St → (V → St → Prop) → Prop := inl E_4 C_4g (I_31 kd a b c m) fis_14
theorem vc4e (kd : Int) (l : List Int) (a b c : Int) (m : List Int) (Q : List R → List (List D) → Prop) : vc E_4 C_4e noI (fx_4 kd a b c m) (f4.body.getD .skip) f4.results.toList [.d (.v (.int .i64 kd)), .d (.sl (iD l)), .d (.v (.int .u8 a)), .d (.v (.int .u8 b)), .d (.v (.int .u8 c))] Q = (
  ∃ (es : List (List D)), D.sl (iD l) = D.sl es ∧ ∃ (es_1 : List (List D)), D.sl (iD l) = D.sl es_1 ∧ ∃ (l : Nat), ∃ (h : Nat), l = (0 : Nat) ∧ V.d (D.v
  (Value.int IntKind.i64 (if (200 : Int) < (↑es.length : Int) then (200 : Int) else (↑es.length : Int)))) = V.d (D.v (Value.int IntKind.i64 (↑h :
  Int))) ∧ l ≤ h ∧ h ≤ es_1.length ∧ (∀ (c : List D), c ∈ es_1 → c.length = (1 : Nat)) ∧ ∃ (es : List (List D)), D.sl (List.drop l (List.take h es_1))
  = D.sl es ∧ ∃ (x0 : { X := Nat, sh := st_4 kd a b c m, P := fun (x : Nat) => inv_4 m : LX }.X), ({ tm := [((0 : Nat), V.d (D.v (Value.int IntKind.i64 kd))), ((2 : Nat), V.d (D.v (Value.int IntKind.u8 a))), ((3 : Nat), V.d (D.v (Value.int IntKind.u8 b))), ((4 : Nat), V.d (D.v (Value.int IntKind.u8 c))), ((10 : Nat), V.d (D.v (Value.bool false))), ((11 : Nat), V.ref ((11 : Nat)) ((0 : Nat))), ((12 : Nat), V.own ((50012 : Nat))), ((28 : Nat), V.d (D.sl (List.drop l (List.take h es_1)))), ((29 : Nat), V.d (D.v (Value.int IntKind.i64 (↑es.length : Int)))), ((30 : Nat), V.d (D.v (Value.int IntKind.i64 (0 : Int))))], hp := [((11 : Nat), B.box [V.d (D.v (Value.int IntKind.i64 (2 : Int))), V.d (D.v (Value.int IntKind.i64 (0 : Int)))]), ((50012 : Nat), B.lst ((37 : Nat)) ((5 : Nat)) [])], kn := [], gd := [] : St }
  = { tm := [((0 : Nat), V.d (D.v (Value.int IntKind.i64 kd))), ((2 : Nat), V.d (D.v (Value.int IntKind.u8 a))), ((3 : Nat), V.d (D.v (Value.int IntKind.u8 b))), ((4 : Nat), V.d (D.v (Value.int IntKind.u8 c))), ((10 : Nat), V.d (D.v (Value.bool false))), ((11 : Nat), V.ref ((11 : Nat)) ((0 : Nat))), ((12 : Nat), V.own ((50012 : Nat))), ((28 : Nat), V.d (D.sl (iD m))), ((29 : Nat), V.d (D.v (Value.int IntKind.i64 (↑m.length : Int)))), ((30 : Nat), V.d (D.v (Value.int IntKind.i64 (↑x0 : Int))))], hp := [((11 : Nat), B.box [V.d (D.v (Value.int IntKind.i64 (2 : Int))), V.d (D.v (Value.int IntKind.i64 (0 : Int)))]), ((50012 : Nat), B.lst ((37 : Nat)) ((5 : Nat)) (List.map AV.cs (wv (List.take x0 m))))], kn := [], gd := [] : St }
  ∧ ∃ (n : Nat), inv_4 m n x0) ∧ ∀ (n : Nat) (x : { X := Nat, sh := st_4 kd a b c m, P := fun (x : Nat) => inv_4 m : LX }.X), inv_4 m n x → (decide
  ((↑x : Int) < (↑m.length : Int)) = true → ∃ (es : List (List D)), D.sl (iD m) = D.sl es ∧ ((0 : Int) ≤ (↑x : Int) ∧ (↑x : Int) < (↑es.length : Int))
  ∧ ∃ (cells : List D), es[(↑x : Int).toNat]? = some cells ∧ cells.length = (1 : Nat) ∧ ∃ (n_1 : Int), cut ((0 : Nat)) ((1 : Nat)) cells = some [D.v
  (Value.int IntKind.i64 n_1)] ∧ (0 : Int) ≤ (8 : Int) ∧ (∀ (c : List D), c ∈ [[D.v (Value.int IntKind.i64 (2 : Int)), D.v (Value.int IntKind.i64 (0 :
  Int)), D.v (Value.bool false), D.v (Value.int IntKind.i64 (aInt.shr IntKind.i64 n_1 (8 : Int))), D.v (Value.string { data := { toList := [] : Array UInt8 } : ByteArray })]]
  → c.length = (5 : Nat)) ∧ (37 : Nat) = (37 : Nat) ∧ (5 : Nat) = (5 : Nat) ∧ (↑(List.map AV.cs (wv (List.take x m))).length.succ : Int) * (↑((48 :
  Nat)) : Int) ≤ (140737488355328 : Int) ∧ ∃ (m_1 : Nat), ∃ (x' : { X := Nat, sh := st_4 kd a b c m, P := fun (x : Nat) => inv_4 m : LX }.X), m_1 < n ∧
  { tm := [((0 : Nat), V.d (D.v (Value.int IntKind.i64 kd))), ((2 : Nat), V.d (D.v (Value.int IntKind.u8 a))), ((3 : Nat), V.d (D.v (Value.int IntKind.u8 b))), ((4 : Nat), V.d (D.v (Value.int IntKind.u8 c))), ((10 : Nat), V.d (D.v (Value.bool false))), ((11 : Nat), V.ref ((11 : Nat)) ((0 : Nat))), ((12 : Nat), V.own ((50012 : Nat))), ((28 : Nat), V.d (D.sl (iD m))), ((29 : Nat), V.d (D.v (Value.int IntKind.i64 (↑m.length : Int)))), ((30 : Nat), V.d (D.v (Value.int IntKind.i64 (IntKind.i64.wrap ((↑x : Int) + (1 : Int))))))], hp := [((11 : Nat), B.box [V.d (D.v (Value.int IntKind.i64 (2 : Int))), V.d (D.v (Value.int IntKind.i64 (0 : Int)))]), ((50012 : Nat), B.lst ((37 : Nat)) ((5 : Nat)) (List.map AV.cs (wv (List.take x m)) ++ [[D.v (Value.int IntKind.i64 (2 : Int)), D.v (Value.int IntKind.i64 (0 : Int)), D.v (Value.bool false), D.v (Value.int IntKind.i64 (aInt.shr IntKind.i64 n_1 (8 : Int))), D.v (Value.string { data := { toList := [] : Array UInt8 } : ByteArray })]]))], kn := [], gd := [] : St }
  = { tm := [((0 : Nat), V.d (D.v (Value.int IntKind.i64 kd))), ((2 : Nat), V.d (D.v (Value.int IntKind.u8 a))), ((3 : Nat), V.d (D.v (Value.int IntKind.u8 b))), ((4 : Nat), V.d (D.v (Value.int IntKind.u8 c))), ((10 : Nat), V.d (D.v (Value.bool false))), ((11 : Nat), V.ref ((11 : Nat)) ((0 : Nat))), ((12 : Nat), V.own ((50012 : Nat))), ((28 : Nat), V.d (D.sl (iD m))), ((29 : Nat), V.d (D.v (Value.int IntKind.i64 (↑m.length : Int)))), ((30 : Nat), V.d (D.v (Value.int IntKind.i64 (↑x' : Int))))], hp := [((11 : Nat), B.box [V.d (D.v (Value.int IntKind.i64 (2 : Int))), V.d (D.v (Value.int IntKind.i64 (0 : Int)))]), ((50012 : Nat), B.lst ((37 : Nat)) ((5 : Nat)) (List.map AV.cs (wv (List.take x' m))))], kn := [], gd := [] : St }
  ∧ inv_4 m m_1 x') ∧ (decide ((↑x : Int) < (↑m.length : Int)) = false → ∃ (vs : List AV), List.map AV.cs (wv (List.take x m)) = List.map AV.cs vs ∧
  vs.length < (4611686018427387904 : Nat) ∧ (∀ (v : AV), v ∈ vs → in64 v.4) ∧ ntErr kd (2 : Int) (0 : Int) vs ≠ (0 : Int) ∧ ((bif bif !true then true
  else ntErr kd (2 : Int) (0 : Int) vs != (0 : Int) then true else (↑(List.map AV.cs (wv (List.take x m))).length : Int) == (0 : Int)) = true → Q [R.d
  (D.v (Value.bool true))] []) ∧ ((bif bif !true then true else ntErr kd (2 : Int) (0 : Int) vs != (0 : Int) then true else (↑(List.map AV.cs (wv
  (List.take x m))).length : Int) == (0 : Int)) = false → (↑(List.map AV.cs (wv (List.take x m))).length : Int) ≠ (0 : Int) ∧ (↑(List.map AV.cs (wv
  (List.take x m))).length : Int) ≠ (0 : Int) ∧ (↑(List.map AV.cs (wv (List.take x m))).length : Int) ≠ (0 : Int) ∧ False))) := by kernel_rfl
theorem vc4g (kd : Int) (l : List Int) (a b c : Int) (m : List Int) (Q : List R → List (List D) → Prop) : vc E_4 C_4g (I_14 kd a b c m) (fx_4 kd a b c m) (f4.body.getD .skip) f4.results.toList [.d (.v (.int .i64 kd)), .d (.sl (iD l)), .d (.v (.int .u8 a)), .d (.v (.int .u8 b)), .d (.v (.int .u8 c))] Q = (
  ∃ (es : List (List D)), D.sl (iD l) = D.sl es ∧ ∃ (es_1 : List (List D)), D.sl (iD l) = D.sl es_1 ∧ ∃ (l : Nat), ∃ (h : Nat), l = (0 : Nat) ∧ V.d (D.v
  (Value.int IntKind.i64 (if (200 : Int) < (↑es.length : Int) then (200 : Int) else (↑es.length : Int)))) = V.d (D.v (Value.int IntKind.i64 (↑h :
  Int))) ∧ l ≤ h ∧ h ≤ es_1.length ∧ (∀ (c : List D), c ∈ es_1 → c.length = (1 : Nat)) ∧ ∃ (es : List (List D)), D.sl (List.drop l (List.take h es_1))
  = D.sl es ∧ ∃ (x0 : { X := Nat, sh := st_4 kd a b c m, P := fun (x : Nat) => inv_4 m : LX }.X), ({ tm := [((0 : Nat), V.d (D.v (Value.int IntKind.i64 kd))), ((2 : Nat), V.d (D.v (Value.int IntKind.u8 a))), ((3 : Nat), V.d (D.v (Value.int IntKind.u8 b))), ((4 : Nat), V.d (D.v (Value.int IntKind.u8 c))), ((10 : Nat), V.d (D.v (Value.bool false))), ((11 : Nat), V.ref ((11 : Nat)) ((0 : Nat))), ((12 : Nat), V.own ((50012 : Nat))), ((28 : Nat), V.d (D.sl (List.drop l (List.take h es_1)))), ((29 : Nat), V.d (D.v (Value.int IntKind.i64 (↑es.length : Int)))), ((30 : Nat), V.d (D.v (Value.int IntKind.i64 (0 : Int))))], hp := [((11 : Nat), B.box [V.d (D.v (Value.int IntKind.i64 (2 : Int))), V.d (D.v (Value.int IntKind.i64 (0 : Int)))]), ((50012 : Nat), B.lst ((37 : Nat)) ((5 : Nat)) [])], kn := [], gd := [] : St }
  = { tm := [((0 : Nat), V.d (D.v (Value.int IntKind.i64 kd))), ((2 : Nat), V.d (D.v (Value.int IntKind.u8 a))), ((3 : Nat), V.d (D.v (Value.int IntKind.u8 b))), ((4 : Nat), V.d (D.v (Value.int IntKind.u8 c))), ((10 : Nat), V.d (D.v (Value.bool false))), ((11 : Nat), V.ref ((11 : Nat)) ((0 : Nat))), ((12 : Nat), V.own ((50012 : Nat))), ((28 : Nat), V.d (D.sl (iD m))), ((29 : Nat), V.d (D.v (Value.int IntKind.i64 (↑m.length : Int)))), ((30 : Nat), V.d (D.v (Value.int IntKind.i64 (↑x0 : Int))))], hp := [((11 : Nat), B.box [V.d (D.v (Value.int IntKind.i64 (2 : Int))), V.d (D.v (Value.int IntKind.i64 (0 : Int)))]), ((50012 : Nat), B.lst ((37 : Nat)) ((5 : Nat)) (List.map AV.cs (wv (List.take x0 m))))], kn := [], gd := [] : St }
  ∧ ∃ (n : Nat), inv_4 m n x0) ∧ ∀ (n : Nat) (x : { X := Nat, sh := st_4 kd a b c m, P := fun (x : Nat) => inv_4 m : LX }.X), inv_4 m n x → (decide
  ((↑x : Int) < (↑m.length : Int)) = true → ∃ (es : List (List D)), D.sl (iD m) = D.sl es ∧ ((0 : Int) ≤ (↑x : Int) ∧ (↑x : Int) < (↑es.length : Int))
  ∧ ∃ (cells : List D), es[(↑x : Int).toNat]? = some cells ∧ cells.length = (1 : Nat) ∧ ∃ (n_1 : Int), cut ((0 : Nat)) ((1 : Nat)) cells = some [D.v
  (Value.int IntKind.i64 n_1)] ∧ (0 : Int) ≤ (8 : Int) ∧ (∀ (c : List D), c ∈ [[D.v (Value.int IntKind.i64 (2 : Int)), D.v (Value.int IntKind.i64 (0 :
  Int)), D.v (Value.bool false), D.v (Value.int IntKind.i64 (aInt.shr IntKind.i64 n_1 (8 : Int))), D.v (Value.string { data := { toList := [] : Array UInt8 } : ByteArray })]]
  → c.length = (5 : Nat)) ∧ (37 : Nat) = (37 : Nat) ∧ (5 : Nat) = (5 : Nat) ∧ (↑(List.map AV.cs (wv (List.take x m))).length.succ : Int) * (↑((48 :
  Nat)) : Int) ≤ (140737488355328 : Int) ∧ ∃ (m_1 : Nat), ∃ (x' : { X := Nat, sh := st_4 kd a b c m, P := fun (x : Nat) => inv_4 m : LX }.X), m_1 < n ∧
  { tm := [((0 : Nat), V.d (D.v (Value.int IntKind.i64 kd))), ((2 : Nat), V.d (D.v (Value.int IntKind.u8 a))), ((3 : Nat), V.d (D.v (Value.int IntKind.u8 b))), ((4 : Nat), V.d (D.v (Value.int IntKind.u8 c))), ((10 : Nat), V.d (D.v (Value.bool false))), ((11 : Nat), V.ref ((11 : Nat)) ((0 : Nat))), ((12 : Nat), V.own ((50012 : Nat))), ((28 : Nat), V.d (D.sl (iD m))), ((29 : Nat), V.d (D.v (Value.int IntKind.i64 (↑m.length : Int)))), ((30 : Nat), V.d (D.v (Value.int IntKind.i64 (IntKind.i64.wrap ((↑x : Int) + (1 : Int))))))], hp := [((11 : Nat), B.box [V.d (D.v (Value.int IntKind.i64 (2 : Int))), V.d (D.v (Value.int IntKind.i64 (0 : Int)))]), ((50012 : Nat), B.lst ((37 : Nat)) ((5 : Nat)) (List.map AV.cs (wv (List.take x m)) ++ [[D.v (Value.int IntKind.i64 (2 : Int)), D.v (Value.int IntKind.i64 (0 : Int)), D.v (Value.bool false), D.v (Value.int IntKind.i64 (aInt.shr IntKind.i64 n_1 (8 : Int))), D.v (Value.string { data := { toList := [] : Array UInt8 } : ByteArray })]]))], kn := [], gd := [] : St }
  = { tm := [((0 : Nat), V.d (D.v (Value.int IntKind.i64 kd))), ((2 : Nat), V.d (D.v (Value.int IntKind.u8 a))), ((3 : Nat), V.d (D.v (Value.int IntKind.u8 b))), ((4 : Nat), V.d (D.v (Value.int IntKind.u8 c))), ((10 : Nat), V.d (D.v (Value.bool false))), ((11 : Nat), V.ref ((11 : Nat)) ((0 : Nat))), ((12 : Nat), V.own ((50012 : Nat))), ((28 : Nat), V.d (D.sl (iD m))), ((29 : Nat), V.d (D.v (Value.int IntKind.i64 (↑m.length : Int)))), ((30 : Nat), V.d (D.v (Value.int IntKind.i64 (↑x' : Int))))], hp := [((11 : Nat), B.box [V.d (D.v (Value.int IntKind.i64 (2 : Int))), V.d (D.v (Value.int IntKind.i64 (0 : Int)))]), ((50012 : Nat), B.lst ((37 : Nat)) ((5 : Nat)) (List.map AV.cs (wv (List.take x' m))))], kn := [], gd := [] : St }
  ∧ inv_4 m m_1 x') ∧ (decide ((↑x : Int) < (↑m.length : Int)) = false → ∃ (vs : List AV), List.map AV.cs (wv (List.take x m)) = List.map AV.cs vs ∧
  vs.length < (4611686018427387904 : Nat) ∧ (∀ (v : AV), v ∈ vs → in64 v.4) ∧ ntErr kd (2 : Int) (0 : Int) vs = (0 : Int) ∧ ∀ (lvls : List (List Sm)),
  TreeOk kd (2 : Int) (0 : Int) vs lvls → lvls.length ≤ (18 : Nat) → ((bif bif !true then true else (0 : Int) != (0 : Int) then true else (↑(List.map
  AV.cs (wv (List.take x m))).length : Int) == (0 : Int)) = true → Q [R.d (D.v (Value.bool true))] []) ∧ ((bif bif !true then true else (0 : Int) != (0
  : Int) then true else (↑(List.map AV.cs (wv (List.take x m))).length : Int) == (0 : Int)) = false → (↑(List.map AV.cs (wv (List.take x m))).length :
  Int) ≠ (0 : Int) ∧ (↑(List.map AV.cs (wv (List.take x m))).length : Int) ≠ (0 : Int) ∧ (↑(List.map AV.cs (wv (List.take x m))).length : Int) ≠ (0 :
  Int) ∧ ((0 : Int) ≤ IntKind.u64.wrap (↑((3 : Nat)) : Int) ∧ IntKind.u64.wrap (↑((3 : Nat)) : Int) ≤ (65536 : Int)) ∧ ∀ (L : Nat), L ≤ (64 : Nat) →
  (IntKind.u64.wrap (↑((3 : Nat)) : Int)).toNat < (2 : Nat) ^ L → ∃ (x0 : { X := JX, sh := st_31 kd a b c m, P := fun (y0 : JX) (x : Nat) (y : JX) => y = y0 : LX }.X),
  ({ tm := [((0 : Nat), V.own ((75 : Nat))), ((1 : Nat), V.d (D.v (Value.int IntKind.i64 (0 : Int)))), ((2 : Nat), V.d (D.v (Value.int IntKind.i64 (↑((3 : Nat)) : Int)))), ((3 : Nat), V.d (D.v (Value.int IntKind.i64 (↑L : Int)))), ((8 : Nat), V.d (D.v (Value.bool true))), ((9 : Nat), V.d (D.v (Value.bool true)))], hp := [((11 : Nat), B.box [V.d (D.v (Value.int IntKind.i64 (2 : Int))), V.d (D.v (Value.int IntKind.i64 (0 : Int)))]), ((45 : Nat), B.box [V.d (D.v (Value.int IntKind.i64 kd)), V.d (D.v (Value.int IntKind.i64 (2 : Int))), V.d (D.v (Value.int IntKind.i64 (0 : Int))), V.d (D.sl (lvD lvls)), V.d (D.v (Value.int IntKind.i64 (0 : Int)))]), ((75 : Nat), B.lst ((3 : Nat)) ((1 : Nat)) [[D.v (Value.int IntKind.i64 ((IntKind.i64.wrap a).tmod (↑(List.map AV.cs (wv (List.take x m))).length : Int)))], [D.v (Value.int IntKind.i64 ((IntKind.i64.wrap b).tmod (↑(List.map AV.cs (wv (List.take x m))).length : Int)))], [D.v (Value.int IntKind.i64 ((IntKind.i64.wrap c).tmod (↑(List.map AV.cs (wv (List.take x m))).length : Int)))]]), ((50012 : Nat), B.fro ((5 : Nat)) (List.map AV.cs (wv (List.take x m))))], kn := [], gd := [], rt := [[((0 : Nat), V.own ((75 : Nat))), ((2 : Nat), V.d (D.v (Value.int IntKind.i64 (↑((3 : Nat)) : Int)))), ((5 : Nat), V.own ((75 : Nat))), ((6 : Nat), V.d (D.v (Value.int IntKind.i64 (↑((3 : Nat)) : Int)))), ((7 : Nat), V.d (D.v (Value.int IntKind.i64 (↑((3 : Nat)) : Int)))), ((8 : Nat), V.d (D.v (Value.int IntKind.u64 (IntKind.u64.wrap (↑((3 : Nat)) : Int))))), ((9 : Nat), V.d (D.v (Value.int IntKind.i64 (↑L : Int))))], [((0 : Nat), V.d (D.v (Value.int IntKind.i64 kd))), ((2 : Nat), V.d (D.v (Value.int IntKind.u8 a))), ((3 : Nat), V.d (D.v (Value.int IntKind.u8 b))), ((4 : Nat), V.d (D.v (Value.int IntKind.u8 c))), ((10 : Nat), V.d (D.v (Value.bool false))), ((11 : Nat), V.ref ((11 : Nat)) ((0 : Nat))), ((12 : Nat), V.own ((50012 : Nat))), ((15 : Nat), V.ref ((45 : Nat)) ((0 : Nat))), ((16 : Nat), V.d (D.v (Value.int IntKind.i64 (0 : Int)))), ((17 : Nat), V.own ((75 : Nat))), ((28 : Nat), V.d (D.sl (iD m))), ((29 : Nat), V.d (D.v (Value.int IntKind.i64 (↑m.length : Int)))), ((30 : Nat), V.d (D.v (Value.int IntKind.i64 (↑x : Int)))), ((31 : Nat), V.d (D.v (Value.bool (decide ((↑x : Int) < (↑m.length : Int)))))), ((58 : Nat), V.d (D.v (Value.bool (bif bif !true then true else (0 : Int) != (0 : Int) then true else (↑(List.map AV.cs (wv (List.take x m))).length : Int) == (0 : Int))))), ((76 : Nat), V.own ((75 : Nat)))]] : St }
  = { tm := [((0 : Nat), V.own ((75 : Nat))), ((1 : Nat), V.d (D.v (Value.int IntKind.i64 (0 : Int)))), ((2 : Nat), V.d (D.v (Value.int IntKind.i64 (3 : Int)))), ((3 : Nat), V.d (D.v (Value.int IntKind.i64 (↑x0.2 : Int)))), ((8 : Nat), V.d (D.v (Value.bool true))), ((9 : Nat), V.d (D.v (Value.bool true)))], hp := [((11 : Nat), B.box [V.d (D.v (Value.int IntKind.i64 (2 : Int))), V.d (D.v (Value.int IntKind.i64 (0 : Int)))]), ((45 : Nat), B.box [V.d (D.v (Value.int IntKind.i64 kd)), V.d (D.v (Value.int IntKind.i64 (2 : Int))), V.d (D.v (Value.int IntKind.i64 (0 : Int))), V.d (D.sl (lvD x0.3)), V.d (D.v (Value.int IntKind.i64 (0 : Int)))]), ((75 : Nat), B.lst ((3 : Nat)) ((1 : Nat)) [[D.v (Value.int IntKind.i64 x0.4)], [D.v (Value.int IntKind.i64 x0.5)], [D.v (Value.int IntKind.i64 x0.6)]]), ((50012 : Nat), B.fro ((5 : Nat)) (List.map AV.cs (wv (List.take x0.1 m))))], kn := [], gd := [], rt := [[((0 : Nat), V.own ((75 : Nat))), ((2 : Nat), V.d (D.v (Value.int IntKind.i64 (3 : Int)))), ((5 : Nat), V.own ((75 : Nat))), ((6 : Nat), V.d (D.v (Value.int IntKind.i64 (3 : Int)))), ((7 : Nat), V.d (D.v (Value.int IntKind.i64 (3 : Int)))), ((8 : Nat), V.d (D.v (Value.int IntKind.u64 (IntKind.u64.wrap (3 : Int))))), ((9 : Nat), V.d (D.v (Value.int IntKind.i64 (↑x0.2 : Int))))], [((0 : Nat), V.d (D.v (Value.int IntKind.i64 kd))), ((2 : Nat), V.d (D.v (Value.int IntKind.u8 a))), ((3 : Nat), V.d (D.v (Value.int IntKind.u8 b))), ((4 : Nat), V.d (D.v (Value.int IntKind.u8 c))), ((10 : Nat), V.d (D.v (Value.bool false))), ((11 : Nat), V.ref ((11 : Nat)) ((0 : Nat))), ((12 : Nat), V.own ((50012 : Nat))), ((15 : Nat), V.ref ((45 : Nat)) ((0 : Nat))), ((16 : Nat), V.d (D.v (Value.int IntKind.i64 (0 : Int)))), ((17 : Nat), V.own ((75 : Nat))), ((28 : Nat), V.d (D.sl (iD m))), ((29 : Nat), V.d (D.v (Value.int IntKind.i64 (↑m.length : Int)))), ((30 : Nat), V.d (D.v (Value.int IntKind.i64 (↑x0.1 : Int)))), ((31 : Nat), V.d (D.v (Value.bool (decide ((↑x0.1 : Int) < (↑m.length : Int)))))), ((58 : Nat), V.d (D.v (Value.bool (bif bif !true then true else (0 : Int) != (0 : Int) then true else (↑(List.map AV.cs (wv (List.take x0.1 m))).length : Int) == (0 : Int))))), ((76 : Nat), V.own ((75 : Nat)))]] : St }
  ∧ ∃ (n : Nat), x0 = x0) ∧ ∀ (n : Nat) (x : { X := JX, sh := st_31 kd a b c m, P := fun (y0 : JX) (x : Nat) (y : JX) => y = y0 : LX }.X), x = x0 →
  (decide (IntKind.i64.wrap ((3 : Int) - (0 : Int)) ≤ (12 : Int)) = true → ∃ (x0 : { X := JX, sh := st_43 kd a b c m, P := inv_43 : LX }.X), ({ tm := [((0 : Nat), V.own ((75 : Nat))), ((1 : Nat), V.d (D.v (Value.int IntKind.i64 (0 : Int)))), ((2 : Nat), V.d (D.v (Value.int IntKind.i64 (3 : Int)))), ((6 : Nat), V.d (D.v (Value.int IntKind.i64 (IntKind.i64.wrap ((0 : Int) + (1 : Int))))))], hp := [((11 : Nat), B.box [V.d (D.v (Value.int IntKind.i64 (2 : Int))), V.d (D.v (Value.int IntKind.i64 (0 : Int)))]), ((45 : Nat), B.box [V.d (D.v (Value.int IntKind.i64 kd)), V.d (D.v (Value.int IntKind.i64 (2 : Int))), V.d (D.v (Value.int IntKind.i64 (0 : Int))), V.d (D.sl (lvD x.3)), V.d (D.v (Value.int IntKind.i64 (0 : Int)))]), ((75 : Nat), B.lst ((3 : Nat)) ((1 : Nat)) [[D.v (Value.int IntKind.i64 x.4)], [D.v (Value.int IntKind.i64 x.5)], [D.v (Value.int IntKind.i64 x.6)]]), ((50012 : Nat), B.fro ((5 : Nat)) (List.map AV.cs (wv (List.take x.1 m))))], kn := [], gd := [], rt := [[((0 : Nat), V.own ((75 : Nat))), ((1 : Nat), V.d (D.v (Value.int IntKind.i64 (0 : Int)))), ((2 : Nat), V.d (D.v (Value.int IntKind.i64 (3 : Int)))), ((3 : Nat), V.d (D.v (Value.int IntKind.i64 (↑x.2 : Int)))), ((8 : Nat), V.d (D.v (Value.bool true))), ((9 : Nat), V.d (D.v (Value.bool true))), ((10 : Nat), V.d (D.v (Value.int IntKind.i64 (IntKind.i64.wrap ((3 : Int) - (0 : Int)))))), ((23 : Nat), V.d (D.v (Value.bool (decide (IntKind.i64.wrap ((3 : Int) - (0 : Int)) ≤ (12 : Int)))))), ((24 : Nat), V.own ((75 : Nat))), ((25 : Nat), V.d (D.v (Value.int IntKind.i64 (0 : Int)))), ((26 : Nat), V.d (D.v (Value.int IntKind.i64 (3 : Int))))], [((0 : Nat), V.own ((75 : Nat))), ((2 : Nat), V.d (D.v (Value.int IntKind.i64 (3 : Int)))), ((5 : Nat), V.own ((75 : Nat))), ((6 : Nat), V.d (D.v (Value.int IntKind.i64 (3 : Int)))), ((7 : Nat), V.d (D.v (Value.int IntKind.i64 (3 : Int)))), ((8 : Nat), V.d (D.v (Value.int IntKind.u64 (IntKind.u64.wrap (3 : Int))))), ((9 : Nat), V.d (D.v (Value.int IntKind.i64 (↑x.2 : Int))))], [((0 : Nat), V.d (D.v (Value.int IntKind.i64 kd))), ((2 : Nat), V.d (D.v (Value.int IntKind.u8 a))), ((3 : Nat), V.d (D.v (Value.int IntKind.u8 b))), ((4 : Nat), V.d (D.v (Value.int IntKind.u8 c))), ((10 : Nat), V.d (D.v (Value.bool false))), ((11 : Nat), V.ref ((11 : Nat)) ((0 : Nat))), ((12 : Nat), V.own ((50012 : Nat))), ((15 : Nat), V.ref ((45 : Nat)) ((0 : Nat))), ((16 : Nat), V.d (D.v (Value.int IntKind.i64 (0 : Int)))), ((17 : Nat), V.own ((75 : Nat))), ((28 : Nat), V.d (D.sl (iD m))), ((29 : Nat), V.d (D.v (Value.int IntKind.i64 (↑m.length : Int)))), ((30 : Nat), V.d (D.v (Value.int IntKind.i64 (↑x.1 : Int)))), ((31 : Nat), V.d (D.v (Value.bool (decide ((↑x.1 : Int) < (↑m.length : Int)))))), ((58 : Nat), V.d (D.v (Value.bool (bif bif !true then true else (0 : Int) != (0 : Int) then true else (↑(List.map AV.cs (wv (List.take x.1 m))).length : Int) == (0 : Int))))), ((76 : Nat), V.own ((75 : Nat)))]] : St }
  = { tm := [((0 : Nat), V.own ((75 : Nat))), ((1 : Nat), V.d (D.v (Value.int IntKind.i64 (0 : Int)))), ((2 : Nat), V.d (D.v (Value.int IntKind.i64 (3 : Int)))), ((6 : Nat), V.d (D.v (Value.int IntKind.i64 x0.7)))], hp := [((11 : Nat), B.box [V.d (D.v (Value.int IntKind.i64 (2 : Int))), V.d (D.v (Value.int IntKind.i64 (0 : Int)))]), ((45 : Nat), B.box [V.d (D.v (Value.int IntKind.i64 kd)), V.d (D.v (Value.int IntKind.i64 (2 : Int))), V.d (D.v (Value.int IntKind.i64 (0 : Int))), V.d (D.sl (lvD x0.3)), V.d (D.v (Value.int IntKind.i64 (0 : Int)))]), ((75 : Nat), B.lst ((3 : Nat)) ((1 : Nat)) [[D.v (Value.int IntKind.i64 x0.4)], [D.v (Value.int IntKind.i64 x0.5)], [D.v (Value.int IntKind.i64 x0.6)]]), ((50012 : Nat), B.fro ((5 : Nat)) (List.map AV.cs (wv (List.take x0.1 m))))], kn := [], gd := [], rt := [[((0 : Nat), V.own ((75 : Nat))), ((1 : Nat), V.d (D.v (Value.int IntKind.i64 (0 : Int)))), ((2 : Nat), V.d (D.v (Value.int IntKind.i64 (3 : Int)))), ((3 : Nat), V.d (D.v (Value.int IntKind.i64 (↑x0.2 : Int)))), ((8 : Nat), V.d (D.v (Value.bool true))), ((9 : Nat), V.d (D.v (Value.bool true))), ((10 : Nat), V.d (D.v (Value.int IntKind.i64 (IntKind.i64.wrap ((3 : Int) - (0 : Int)))))), ((23 : Nat), V.d (D.v (Value.bool (decide (IntKind.i64.wrap ((3 : Int) - (0 : Int)) ≤ (12 : Int)))))), ((24 : Nat), V.own ((75 : Nat))), ((25 : Nat), V.d (D.v (Value.int IntKind.i64 (0 : Int)))), ((26 : Nat), V.d (D.v (Value.int IntKind.i64 (3 : Int))))], [((0 : Nat), V.own ((75 : Nat))), ((2 : Nat), V.d (D.v (Value.int IntKind.i64 (3 : Int)))), ((5 : Nat), V.own ((75 : Nat))), ((6 : Nat), V.d (D.v (Value.int IntKind.i64 (3 : Int)))), ((7 : Nat), V.d (D.v (Value.int IntKind.i64 (3 : Int)))), ((8 : Nat), V.d (D.v (Value.int IntKind.u64 (IntKind.u64.wrap (3 : Int))))), ((9 : Nat), V.d (D.v (Value.int IntKind.i64 (↑x0.2 : Int))))], [((0 : Nat), V.d (D.v (Value.int IntKind.i64 kd))), ((2 : Nat), V.d (D.v (Value.int IntKind.u8 a))), ((3 : Nat), V.d (D.v (Value.int IntKind.u8 b))), ((4 : Nat), V.d (D.v (Value.int IntKind.u8 c))), ((10 : Nat), V.d (D.v (Value.bool false))), ((11 : Nat), V.ref ((11 : Nat)) ((0 : Nat))), ((12 : Nat), V.own ((50012 : Nat))), ((15 : Nat), V.ref ((45 : Nat)) ((0 : Nat))), ((16 : Nat), V.d (D.v (Value.int IntKind.i64 (0 : Int)))), ((17 : Nat), V.own ((75 : Nat))), ((28 : Nat), V.d (D.sl (iD m))), ((29 : Nat), V.d (D.v (Value.int IntKind.i64 (↑m.length : Int)))), ((30 : Nat), V.d (D.v (Value.int IntKind.i64 (↑x0.1 : Int)))), ((31 : Nat), V.d (D.v (Value.bool (decide ((↑x0.1 : Int) < (↑m.length : Int)))))), ((58 : Nat), V.d (D.v (Value.bool (bif bif !true then true else (0 : Int) != (0 : Int) then true else (↑(List.map AV.cs (wv (List.take x0.1 m))).length : Int) == (0 : Int))))), ((76 : Nat), V.own ((75 : Nat)))]] : St }
  ∧ ∃ (n : Nat), inv_43 x0 n x0) ∧ ∀ (n : Nat) (x : { X := JX, sh := st_43 kd a b c m, P := inv_43 : LX }.X), inv_43 x0 n x → (decide (x.7 < (3 : Int))
  = true → ∃ (x0_1 : { X := JX, sh := st_43b kd a b c m, P := inv_43b : LX }.X), ({ tm := [((0 : Nat), V.own ((75 : Nat))), ((1 : Nat), V.d (D.v (Value.int IntKind.i64 (0 : Int)))), ((2 : Nat), V.d (D.v (Value.int IntKind.i64 (3 : Int)))), ((6 : Nat), V.d (D.v (Value.int IntKind.i64 x.7))), ((7 : Nat), V.d (D.v (Value.int IntKind.i64 x.7))), ((12 : Nat), V.d (D.v (Value.bool (decide (x.7 < (3 : Int))))))], hp := [((11 : Nat), B.box [V.d (D.v (Value.int IntKind.i64 (2 : Int))), V.d (D.v (Value.int IntKind.i64 (0 : Int)))]), ((45 : Nat), B.box [V.d (D.v (Value.int IntKind.i64 kd)), V.d (D.v (Value.int IntKind.i64 (2 : Int))), V.d (D.v (Value.int IntKind.i64 (0 : Int))), V.d (D.sl (lvD x.3)), V.d (D.v (Value.int IntKind.i64 (0 : Int)))]), ((75 : Nat), B.lst ((3 : Nat)) ((1 : Nat)) [[D.v (Value.int IntKind.i64 x.4)], [D.v (Value.int IntKind.i64 x.5)], [D.v (Value.int IntKind.i64 x.6)]]), ((50012 : Nat), B.fro ((5 : Nat)) (List.map AV.cs (wv (List.take x.1 m))))], kn := [], gd := [], rt := [[((0 : Nat), V.own ((75 : Nat))), ((1 : Nat), V.d (D.v (Value.int IntKind.i64 (0 : Int)))), ((2 : Nat), V.d (D.v (Value.int IntKind.i64 (3 : Int)))), ((3 : Nat), V.d (D.v (Value.int IntKind.i64 (↑x.2 : Int)))), ((8 : Nat), V.d (D.v (Value.bool true))), ((9 : Nat), V.d (D.v (Value.bool true))), ((10 : Nat), V.d (D.v (Value.int IntKind.i64 (IntKind.i64.wrap ((3 : Int) - (0 : Int)))))), ((23 : Nat), V.d (D.v (Value.bool (decide (IntKind.i64.wrap ((3 : Int) - (0 : Int)) ≤ (12 : Int)))))), ((24 : Nat), V.own ((75 : Nat))), ((25 : Nat), V.d (D.v (Value.int IntKind.i64 (0 : Int)))), ((26 : Nat), V.d (D.v (Value.int IntKind.i64 (3 : Int))))], [((0 : Nat), V.own ((75 : Nat))), ((2 : Nat), V.d (D.v (Value.int IntKind.i64 (3 : Int)))), ((5 : Nat), V.own ((75 : Nat))), ((6 : Nat), V.d (D.v (Value.int IntKind.i64 (3 : Int)))), ((7 : Nat), V.d (D.v (Value.int IntKind.i64 (3 : Int)))), ((8 : Nat), V.d (D.v (Value.int IntKind.u64 (IntKind.u64.wrap (3 : Int))))), ((9 : Nat), V.d (D.v (Value.int IntKind.i64 (↑x.2 : Int))))], [((0 : Nat), V.d (D.v (Value.int IntKind.i64 kd))), ((2 : Nat), V.d (D.v (Value.int IntKind.u8 a))), ((3 : Nat), V.d (D.v (Value.int IntKind.u8 b))), ((4 : Nat), V.d (D.v (Value.int IntKind.u8 c))), ((10 : Nat), V.d (D.v (Value.bool false))), ((11 : Nat), V.ref ((11 : Nat)) ((0 : Nat))), ((12 : Nat), V.own ((50012 : Nat))), ((15 : Nat), V.ref ((45 : Nat)) ((0 : Nat))), ((16 : Nat), V.d (D.v (Value.int IntKind.i64 (0 : Int)))), ((17 : Nat), V.own ((75 : Nat))), ((28 : Nat), V.d (D.sl (iD m))), ((29 : Nat), V.d (D.v (Value.int IntKind.i64 (↑m.length : Int)))), ((30 : Nat), V.d (D.v (Value.int IntKind.i64 (↑x.1 : Int)))), ((31 : Nat), V.d (D.v (Value.bool (decide ((↑x.1 : Int) < (↑m.length : Int)))))), ((58 : Nat), V.d (D.v (Value.bool (bif bif !true then true else (0 : Int) != (0 : Int) then true else (↑(List.map AV.cs (wv (List.take x.1 m))).length : Int) == (0 : Int))))), ((76 : Nat), V.own ((75 : Nat)))]] : St }
  = { tm := [((0 : Nat), V.own ((75 : Nat))), ((1 : Nat), V.d (D.v (Value.int IntKind.i64 (0 : Int)))), ((2 : Nat), V.d (D.v (Value.int IntKind.i64 (3 : Int)))), ((6 : Nat), V.d (D.v (Value.int IntKind.i64 x0_1.7))), ((7 : Nat), V.d (D.v (Value.int IntKind.i64 x0_1.8))), ((12 : Nat), V.d (D.v (Value.bool (decide (x0_1.i < (3 : Int))))))], hp := [((11 : Nat), B.box [V.d (D.v (Value.int IntKind.i64 (2 : Int))), V.d (D.v (Value.int IntKind.i64 (0 : Int)))]), ((45 : Nat), B.box [V.d (D.v (Value.int IntKind.i64 kd)), V.d (D.v (Value.int IntKind.i64 (2 : Int))), V.d (D.v (Value.int IntKind.i64 (0 : Int))), V.d (D.sl (lvD x0_1.3)), V.d (D.v (Value.int IntKind.i64 (0 : Int)))]), ((75 : Nat), B.lst ((3 : Nat)) ((1 : Nat)) [[D.v (Value.int IntKind.i64 x0_1.4)], [D.v (Value.int IntKind.i64 x0_1.5)], [D.v (Value.int IntKind.i64 x0_1.6)]]), ((50012 : Nat), B.fro ((5 : Nat)) (List.map AV.cs (wv (List.take x0_1.1 m))))], kn := [], gd := [], rt := [[((0 : Nat), V.own ((75 : Nat))), ((1 : Nat), V.d (D.v (Value.int IntKind.i64 (0 : Int)))), ((2 : Nat), V.d (D.v (Value.int IntKind.i64 (3 : Int)))), ((3 : Nat), V.d (D.v (Value.int IntKind.i64 (↑x0_1.2 : Int)))), ((8 : Nat), V.d (D.v (Value.bool true))), ((9 : Nat), V.d (D.v (Value.bool true))), ((10 : Nat), V.d (D.v (Value.int IntKind.i64 (IntKind.i64.wrap ((3 : Int) - (0 : Int)))))), ((23 : Nat), V.d (D.v (Value.bool (decide (IntKind.i64.wrap ((3 : Int) - (0 : Int)) ≤ (12 : Int)))))), ((24 : Nat), V.own ((75 : Nat))), ((25 : Nat), V.d (D.v (Value.int IntKind.i64 (0 : Int)))), ((26 : Nat), V.d (D.v (Value.int IntKind.i64 (3 : Int))))], [((0 : Nat), V.own ((75 : Nat))), ((2 : Nat), V.d (D.v (Value.int IntKind.i64 (3 : Int)))), ((5 : Nat), V.own ((75 : Nat))), ((6 : Nat), V.d (D.v (Value.int IntKind.i64 (3 : Int)))), ((7 : Nat), V.d (D.v (Value.int IntKind.i64 (3 : Int)))), ((8 : Nat), V.d (D.v (Value.int IntKind.u64 (IntKind.u64.wrap (3 : Int))))), ((9 : Nat), V.d (D.v (Value.int IntKind.i64 (↑x0_1.2 : Int))))], [((0 : Nat), V.d (D.v (Value.int IntKind.i64 kd))), ((2 : Nat), V.d (D.v (Value.int IntKind.u8 a))), ((3 : Nat), V.d (D.v (Value.int IntKind.u8 b))), ((4 : Nat), V.d (D.v (Value.int IntKind.u8 c))), ((10 : Nat), V.d (D.v (Value.bool false))), ((11 : Nat), V.ref ((11 : Nat)) ((0 : Nat))), ((12 : Nat), V.own ((50012 : Nat))), ((15 : Nat), V.ref ((45 : Nat)) ((0 : Nat))), ((16 : Nat), V.d (D.v (Value.int IntKind.i64 (0 : Int)))), ((17 : Nat), V.own ((75 : Nat))), ((28 : Nat), V.d (D.sl (iD m))), ((29 : Nat), V.d (D.v (Value.int IntKind.i64 (↑m.length : Int)))), ((30 : Nat), V.d (D.v (Value.int IntKind.i64 (↑x0_1.1 : Int)))), ((31 : Nat), V.d (D.v (Value.bool (decide ((↑x0_1.1 : Int) < (↑m.length : Int)))))), ((58 : Nat), V.d (D.v (Value.bool (bif bif !true then true else (0 : Int) != (0 : Int) then true else (↑(List.map AV.cs (wv (List.take x0_1.1 m))).length : Int) == (0 : Int))))), ((76 : Nat), V.own ((75 : Nat)))]] : St }
  ∧ ∃ (n : Nat), inv_43b x0_1 n x0_1) ∧ ∀ (n_1 : Nat) (x : { X := JX, sh := st_43b kd a b c m, P := inv_43b : LX }.X), inv_43b x0_1 n_1 x → (decide
  (x.8 > (0 : Int)) = true → ((0 : Int) ≤ x.8 ∧ x.8 < (↑((3 : Nat)) : Int)) ∧ (1 : Nat) = (1 : Nat) ∧ ∃ (cells : List D), [[D.v (Value.int IntKind.i64
  x.4)], [D.v (Value.int IntKind.i64 x.5)], [D.v (Value.int IntKind.i64 x.6)]][x.8.toNat]? = some cells ∧ ∃ (n_2 : Int), cut ((0 : Nat)) ((1 : Nat))
  cells = some [D.v (Value.int IntKind.i64 n_2)] ∧ ((0 : Int) ≤ IntKind.i64.wrap (x.8 - (1 : Int)) ∧ IntKind.i64.wrap (x.8 - (1 : Int)) < (↑((3 : Nat))
  : Int)) ∧ (1 : Nat) = (1 : Nat) ∧ ∃ (cells : List D), [[D.v (Value.int IntKind.i64 x.4)], [D.v (Value.int IntKind.i64 x.5)], [D.v (Value.int
  IntKind.i64 x.6)]][(IntKind.i64.wrap (x.8 - (1 : Int))).toNat]? = some cells ∧ ∃ (n_3 : Int), cut ((0 : Nat)) ((1 : Nat)) cells = some [D.v
  (Value.int IntKind.i64 n_3)] ∧ (s49_0 n_2 n_3 = true → ((0 : Int) ≤ IntKind.i64.wrap (x.8 - (1 : Int)) ∧ IntKind.i64.wrap (x.8 - (1 : Int)) < (↑((3 :
  Nat)) : Int)) ∧ (1 : Nat) = (1 : Nat) ∧ ∃ (cells : List D), [[D.v (Value.int IntKind.i64 x.4)], [D.v (Value.int IntKind.i64 x.5)], [D.v (Value.int
  IntKind.i64 x.6)]][(IntKind.i64.wrap (x.8 - (1 : Int))).toNat]? = some cells ∧ ∃ (n : Int), cut ((0 : Nat)) ((1 : Nat)) cells = some [D.v (Value.int
  IntKind.i64 n)] ∧ ((0 : Int) ≤ x.8 ∧ x.8 < (↑((3 : Nat)) : Int)) ∧ (1 : Nat) = (1 : Nat) ∧ ∃ (cells : List D), [[D.v (Value.int IntKind.i64 x.4)],
  [D.v (Value.int IntKind.i64 x.5)], [D.v (Value.int IntKind.i64 x.6)]][x.8.toNat]? = some cells ∧ ∃ (n_4 : Int), cut ((0 : Nat)) ((1 : Nat)) cells =
  some [D.v (Value.int IntKind.i64 n_4)] ∧ ((0 : Int) ≤ x.8 ∧ x.8 < (↑((3 : Nat)) : Int)) ∧ (1 : Nat) = (1 : Nat) ∧ ∃ (cells : List D), [[D.v
  (Value.int IntKind.i64 x.4)], [D.v (Value.int IntKind.i64 x.5)], [D.v (Value.int IntKind.i64 x.6)]][x.8.toNat]? = some cells ∧ ∃ (cells' : List D),
  over ((0 : Nat)) [D.v (Value.int IntKind.i64 n)] cells = some cells' ∧ ((0 : Int) ≤ IntKind.i64.wrap (x.8 - (1 : Int)) ∧ IntKind.i64.wrap (x.8 - (1 :
  Int)) < (↑([[D.v (Value.int IntKind.i64 x.4)], [D.v (Value.int IntKind.i64 x.5)], [D.v (Value.int IntKind.i64 x.6)]].set x.8.toNat cells').length :
  Int)) ∧ (1 : Nat) = (1 : Nat) ∧ ∃ (cells : List D), ([[D.v (Value.int IntKind.i64 x.4)], [D.v (Value.int IntKind.i64 x.5)], [D.v (Value.int
  IntKind.i64 x.6)]].set x.8.toNat cells')[(IntKind.i64.wrap (x.8 - (1 : Int))).toNat]? = some cells ∧ ∃ (cells'_1 : List D), over ((0 : Nat)) [D.v
  (Value.int IntKind.i64 n_4)] cells = some cells'_1 ∧ ∃ (m_1 : Nat), ∃ (x' : { X := JX, sh := st_43b kd a b c m, P := inv_43b : LX }.X), m_1 < n_1 ∧ { tm := [((0 : Nat), V.own ((75 : Nat))), ((1 : Nat), V.d (D.v (Value.int IntKind.i64 (0 : Int)))), ((2 : Nat), V.d (D.v (Value.int IntKind.i64 (3 : Int)))), ((6 : Nat), V.d (D.v (Value.int IntKind.i64 x.7))), ((7 : Nat), V.d (D.v (Value.int IntKind.i64 (IntKind.i64.wrap (x.8 - (1 : Int)))))), ((12 : Nat), V.d (D.v (Value.bool (decide (x.i < (3 : Int))))))], hp := [((11 : Nat), B.box [V.d (D.v (Value.int IntKind.i64 (2 : Int))), V.d (D.v (Value.int IntKind.i64 (0 : Int)))]), ((45 : Nat), B.box [V.d (D.v (Value.int IntKind.i64 kd)), V.d (D.v (Value.int IntKind.i64 (2 : Int))), V.d (D.v (Value.int IntKind.i64 (0 : Int))), V.d (D.sl (lvD x.3)), V.d (D.v (Value.int IntKind.i64 (0 : Int)))]), ((75 : Nat), B.lst ((3 : Nat)) ((1 : Nat)) (([[D.v (Value.int IntKind.i64 x.4)], [D.v (Value.int IntKind.i64 x.5)], [D.v (Value.int IntKind.i64 x.6)]].set x.8.toNat cells').set (IntKind.i64.wrap (x.8 - (1 : Int))).toNat cells'_1)), ((50012 : Nat), B.fro ((5 : Nat)) (List.map AV.cs (wv (List.take x.1 m))))], kn := [], gd := [], rt := [[((0 : Nat), V.own ((75 : Nat))), ((1 : Nat), V.d (D.v (Value.int IntKind.i64 (0 : Int)))), ((2 : Nat), V.d (D.v (Value.int IntKind.i64 (3 : Int)))), ((3 : Nat), V.d (D.v (Value.int IntKind.i64 (↑x.2 : Int)))), ((8 : Nat), V.d (D.v (Value.bool true))), ((9 : Nat), V.d (D.v (Value.bool true))), ((10 : Nat), V.d (D.v (Value.int IntKind.i64 (IntKind.i64.wrap ((3 : Int) - (0 : Int)))))), ((23 : Nat), V.d (D.v (Value.bool (decide (IntKind.i64.wrap ((3 : Int) - (0 : Int)) ≤ (12 : Int)))))), ((24 : Nat), V.own ((75 : Nat))), ((25 : Nat), V.d (D.v (Value.int IntKind.i64 (0 : Int)))), ((26 : Nat), V.d (D.v (Value.int IntKind.i64 (3 : Int))))], [((0 : Nat), V.own ((75 : Nat))), ((2 : Nat), V.d (D.v (Value.int IntKind.i64 (3 : Int)))), ((5 : Nat), V.own ((75 : Nat))), ((6 : Nat), V.d (D.v (Value.int IntKind.i64 (3 : Int)))), ((7 : Nat), V.d (D.v (Value.int IntKind.i64 (3 : Int)))), ((8 : Nat), V.d (D.v (Value.int IntKind.u64 (IntKind.u64.wrap (3 : Int))))), ((9 : Nat), V.d (D.v (Value.int IntKind.i64 (↑x.2 : Int))))], [((0 : Nat), V.d (D.v (Value.int IntKind.i64 kd))), ((2 : Nat), V.d (D.v (Value.int IntKind.u8 a))), ((3 : Nat), V.d (D.v (Value.int IntKind.u8 b))), ((4 : Nat), V.d (D.v (Value.int IntKind.u8 c))), ((10 : Nat), V.d (D.v (Value.bool false))), ((11 : Nat), V.ref ((11 : Nat)) ((0 : Nat))), ((12 : Nat), V.own ((50012 : Nat))), ((15 : Nat), V.ref ((45 : Nat)) ((0 : Nat))), ((16 : Nat), V.d (D.v (Value.int IntKind.i64 (0 : Int)))), ((17 : Nat), V.own ((75 : Nat))), ((28 : Nat), V.d (D.sl (iD m))), ((29 : Nat), V.d (D.v (Value.int IntKind.i64 (↑m.length : Int)))), ((30 : Nat), V.d (D.v (Value.int IntKind.i64 (↑x.1 : Int)))), ((31 : Nat), V.d (D.v (Value.bool (decide ((↑x.1 : Int) < (↑m.length : Int)))))), ((58 : Nat), V.d (D.v (Value.bool (bif bif !true then true else (0 : Int) != (0 : Int) then true else (↑(List.map AV.cs (wv (List.take x.1 m))).length : Int) == (0 : Int))))), ((76 : Nat), V.own ((75 : Nat)))]] : St }
  = { tm := [((0 : Nat), V.own ((75 : Nat))), ((1 : Nat), V.d (D.v (Value.int IntKind.i64 (0 : Int)))), ((2 : Nat), V.d (D.v (Value.int IntKind.i64 (3 : Int)))), ((6 : Nat), V.d (D.v (Value.int IntKind.i64 x'.7))), ((7 : Nat), V.d (D.v (Value.int IntKind.i64 x'.8))), ((12 : Nat), V.d (D.v (Value.bool (decide (x'.i < (3 : Int))))))], hp := [((11 : Nat), B.box [V.d (D.v (Value.int IntKind.i64 (2 : Int))), V.d (D.v (Value.int IntKind.i64 (0 : Int)))]), ((45 : Nat), B.box [V.d (D.v (Value.int IntKind.i64 kd)), V.d (D.v (Value.int IntKind.i64 (2 : Int))), V.d (D.v (Value.int IntKind.i64 (0 : Int))), V.d (D.sl (lvD x'.3)), V.d (D.v (Value.int IntKind.i64 (0 : Int)))]), ((75 : Nat), B.lst ((3 : Nat)) ((1 : Nat)) [[D.v (Value.int IntKind.i64 x'.4)], [D.v (Value.int IntKind.i64 x'.5)], [D.v (Value.int IntKind.i64 x'.6)]]), ((50012 : Nat), B.fro ((5 : Nat)) (List.map AV.cs (wv (List.take x'.1 m))))], kn := [], gd := [], rt := [[((0 : Nat), V.own ((75 : Nat))), ((1 : Nat), V.d (D.v (Value.int IntKind.i64 (0 : Int)))), ((2 : Nat), V.d (D.v (Value.int IntKind.i64 (3 : Int)))), ((3 : Nat), V.d (D.v (Value.int IntKind.i64 (↑x'.2 : Int)))), ((8 : Nat), V.d (D.v (Value.bool true))), ((9 : Nat), V.d (D.v (Value.bool true))), ((10 : Nat), V.d (D.v (Value.int IntKind.i64 (IntKind.i64.wrap ((3 : Int) - (0 : Int)))))), ((23 : Nat), V.d (D.v (Value.bool (decide (IntKind.i64.wrap ((3 : Int) - (0 : Int)) ≤ (12 : Int)))))), ((24 : Nat), V.own ((75 : Nat))), ((25 : Nat), V.d (D.v (Value.int IntKind.i64 (0 : Int)))), ((26 : Nat), V.d (D.v (Value.int IntKind.i64 (3 : Int))))], [((0 : Nat), V.own ((75 : Nat))), ((2 : Nat), V.d (D.v (Value.int IntKind.i64 (3 : Int)))), ((5 : Nat), V.own ((75 : Nat))), ((6 : Nat), V.d (D.v (Value.int IntKind.i64 (3 : Int)))), ((7 : Nat), V.d (D.v (Value.int IntKind.i64 (3 : Int)))), ((8 : Nat), V.d (D.v (Value.int IntKind.u64 (IntKind.u64.wrap (3 : Int))))), ((9 : Nat), V.d (D.v (Value.int IntKind.i64 (↑x'.2 : Int))))], [((0 : Nat), V.d (D.v (Value.int IntKind.i64 kd))), ((2 : Nat), V.d (D.v (Value.int IntKind.u8 a))), ((3 : Nat), V.d (D.v (Value.int IntKind.u8 b))), ((4 : Nat), V.d (D.v (Value.int IntKind.u8 c))), ((10 : Nat), V.d (D.v (Value.bool false))), ((11 : Nat), V.ref ((11 : Nat)) ((0 : Nat))), ((12 : Nat), V.own ((50012 : Nat))), ((15 : Nat), V.ref ((45 : Nat)) ((0 : Nat))), ((16 : Nat), V.d (D.v (Value.int IntKind.i64 (0 : Int)))), ((17 : Nat), V.own ((75 : Nat))), ((28 : Nat), V.d (D.sl (iD m))), ((29 : Nat), V.d (D.v (Value.int IntKind.i64 (↑m.length : Int)))), ((30 : Nat), V.d (D.v (Value.int IntKind.i64 (↑x'.1 : Int)))), ((31 : Nat), V.d (D.v (Value.bool (decide ((↑x'.1 : Int) < (↑m.length : Int)))))), ((58 : Nat), V.d (D.v (Value.bool (bif bif !true then true else (0 : Int) != (0 : Int) then true else (↑(List.map AV.cs (wv (List.take x'.1 m))).length : Int) == (0 : Int))))), ((76 : Nat), V.own ((75 : Nat)))]] : St }
  ∧ inv_43b x0_1 m_1 x') ∧ (s49_0 n_2 n_3 = false → ∃ (m_1 : Nat), ∃ (x' : { X := JX, sh := st_43 kd a b c m, P := inv_43 : LX }.X), m_1 < n ∧ { tm := [((0 : Nat), V.own ((75 : Nat))), ((1 : Nat), V.d (D.v (Value.int IntKind.i64 (0 : Int)))), ((2 : Nat), V.d (D.v (Value.int IntKind.i64 (3 : Int)))), ((6 : Nat), V.d (D.v (Value.int IntKind.i64 (IntKind.i64.wrap (x.7 + (1 : Int))))))], hp := [((11 : Nat), B.box [V.d (D.v (Value.int IntKind.i64 (2 : Int))), V.d (D.v (Value.int IntKind.i64 (0 : Int)))]), ((45 : Nat), B.box [V.d (D.v (Value.int IntKind.i64 kd)), V.d (D.v (Value.int IntKind.i64 (2 : Int))), V.d (D.v (Value.int IntKind.i64 (0 : Int))), V.d (D.sl (lvD x.3)), V.d (D.v (Value.int IntKind.i64 (0 : Int)))]), ((75 : Nat), B.lst ((3 : Nat)) ((1 : Nat)) [[D.v (Value.int IntKind.i64 x.4)], [D.v (Value.int IntKind.i64 x.5)], [D.v (Value.int IntKind.i64 x.6)]]), ((50012 : Nat), B.fro ((5 : Nat)) (List.map AV.cs (wv (List.take x.1 m))))], kn := [], gd := [], rt := [[((0 : Nat), V.own ((75 : Nat))), ((1 : Nat), V.d (D.v (Value.int IntKind.i64 (0 : Int)))), ((2 : Nat), V.d (D.v (Value.int IntKind.i64 (3 : Int)))), ((3 : Nat), V.d (D.v (Value.int IntKind.i64 (↑x.2 : Int)))), ((8 : Nat), V.d (D.v (Value.bool true))), ((9 : Nat), V.d (D.v (Value.bool true))), ((10 : Nat), V.d (D.v (Value.int IntKind.i64 (IntKind.i64.wrap ((3 : Int) - (0 : Int)))))), ((23 : Nat), V.d (D.v (Value.bool (decide (IntKind.i64.wrap ((3 : Int) - (0 : Int)) ≤ (12 : Int)))))), ((24 : Nat), V.own ((75 : Nat))), ((25 : Nat), V.d (D.v (Value.int IntKind.i64 (0 : Int)))), ((26 : Nat), V.d (D.v (Value.int IntKind.i64 (3 : Int))))], [((0 : Nat), V.own ((75 : Nat))), ((2 : Nat), V.d (D.v (Value.int IntKind.i64 (3 : Int)))), ((5 : Nat), V.own ((75 : Nat))), ((6 : Nat), V.d (D.v (Value.int IntKind.i64 (3 : Int)))), ((7 : Nat), V.d (D.v (Value.int IntKind.i64 (3 : Int)))), ((8 : Nat), V.d (D.v (Value.int IntKind.u64 (IntKind.u64.wrap (3 : Int))))), ((9 : Nat), V.d (D.v (Value.int IntKind.i64 (↑x.2 : Int))))], [((0 : Nat), V.d (D.v (Value.int IntKind.i64 kd))), ((2 : Nat), V.d (D.v (Value.int IntKind.u8 a))), ((3 : Nat), V.d (D.v (Value.int IntKind.u8 b))), ((4 : Nat), V.d (D.v (Value.int IntKind.u8 c))), ((10 : Nat), V.d (D.v (Value.bool false))), ((11 : Nat), V.ref ((11 : Nat)) ((0 : Nat))), ((12 : Nat), V.own ((50012 : Nat))), ((15 : Nat), V.ref ((45 : Nat)) ((0 : Nat))), ((16 : Nat), V.d (D.v (Value.int IntKind.i64 (0 : Int)))), ((17 : Nat), V.own ((75 : Nat))), ((28 : Nat), V.d (D.sl (iD m))), ((29 : Nat), V.d (D.v (Value.int IntKind.i64 (↑m.length : Int)))), ((30 : Nat), V.d (D.v (Value.int IntKind.i64 (↑x.1 : Int)))), ((31 : Nat), V.d (D.v (Value.bool (decide ((↑x.1 : Int) < (↑m.length : Int)))))), ((58 : Nat), V.d (D.v (Value.bool (bif bif !true then true else (0 : Int) != (0 : Int) then true else (↑(List.map AV.cs (wv (List.take x.1 m))).length : Int) == (0 : Int))))), ((76 : Nat), V.own ((75 : Nat)))]] : St }
  = { tm := [((0 : Nat), V.own ((75 : Nat))), ((1 : Nat), V.d (D.v (Value.int IntKind.i64 (0 : Int)))), ((2 : Nat), V.d (D.v (Value.int IntKind.i64 (3 : Int)))), ((6 : Nat), V.d (D.v (Value.int IntKind.i64 x'.7)))], hp := [((11 : Nat), B.box [V.d (D.v (Value.int IntKind.i64 (2 : Int))), V.d (D.v (Value.int IntKind.i64 (0 : Int)))]), ((45 : Nat), B.box [V.d (D.v (Value.int IntKind.i64 kd)), V.d (D.v (Value.int IntKind.i64 (2 : Int))), V.d (D.v (Value.int IntKind.i64 (0 : Int))), V.d (D.sl (lvD x'.3)), V.d (D.v (Value.int IntKind.i64 (0 : Int)))]), ((75 : Nat), B.lst ((3 : Nat)) ((1 : Nat)) [[D.v (Value.int IntKind.i64 x'.4)], [D.v (Value.int IntKind.i64 x'.5)], [D.v (Value.int IntKind.i64 x'.6)]]), ((50012 : Nat), B.fro ((5 : Nat)) (List.map AV.cs (wv (List.take x'.1 m))))], kn := [], gd := [], rt := [[((0 : Nat), V.own ((75 : Nat))), ((1 : Nat), V.d (D.v (Value.int IntKind.i64 (0 : Int)))), ((2 : Nat), V.d (D.v (Value.int IntKind.i64 (3 : Int)))), ((3 : Nat), V.d (D.v (Value.int IntKind.i64 (↑x'.2 : Int)))), ((8 : Nat), V.d (D.v (Value.bool true))), ((9 : Nat), V.d (D.v (Value.bool true))), ((10 : Nat), V.d (D.v (Value.int IntKind.i64 (IntKind.i64.wrap ((3 : Int) - (0 : Int)))))), ((23 : Nat), V.d (D.v (Value.bool (decide (IntKind.i64.wrap ((3 : Int) - (0 : Int)) ≤ (12 : Int)))))), ((24 : Nat), V.own ((75 : Nat))), ((25 : Nat), V.d (D.v (Value.int IntKind.i64 (0 : Int)))), ((26 : Nat), V.d (D.v (Value.int IntKind.i64 (3 : Int))))], [((0 : Nat), V.own ((75 : Nat))), ((2 : Nat), V.d (D.v (Value.int IntKind.i64 (3 : Int)))), ((5 : Nat), V.own ((75 : Nat))), ((6 : Nat), V.d (D.v (Value.int IntKind.i64 (3 : Int)))), ((7 : Nat), V.d (D.v (Value.int IntKind.i64 (3 : Int)))), ((8 : Nat), V.d (D.v (Value.int IntKind.u64 (IntKind.u64.wrap (3 : Int))))), ((9 : Nat), V.d (D.v (Value.int IntKind.i64 (↑x'.2 : Int))))], [((0 : Nat), V.d (D.v (Value.int IntKind.i64 kd))), ((2 : Nat), V.d (D.v (Value.int IntKind.u8 a))), ((3 : Nat), V.d (D.v (Value.int IntKind.u8 b))), ((4 : Nat), V.d (D.v (Value.int IntKind.u8 c))), ((10 : Nat), V.d (D.v (Value.bool false))), ((11 : Nat), V.ref ((11 : Nat)) ((0 : Nat))), ((12 : Nat), V.own ((50012 : Nat))), ((15 : Nat), V.ref ((45 : Nat)) ((0 : Nat))), ((16 : Nat), V.d (D.v (Value.int IntKind.i64 (0 : Int)))), ((17 : Nat), V.own ((75 : Nat))), ((28 : Nat), V.d (D.sl (iD m))), ((29 : Nat), V.d (D.v (Value.int IntKind.i64 (↑m.length : Int)))), ((30 : Nat), V.d (D.v (Value.int IntKind.i64 (↑x'.1 : Int)))), ((31 : Nat), V.d (D.v (Value.bool (decide ((↑x'.1 : Int) < (↑m.length : Int)))))), ((58 : Nat), V.d (D.v (Value.bool (bif bif !true then true else (0 : Int) != (0 : Int) then true else (↑(List.map AV.cs (wv (List.take x'.1 m))).length : Int) == (0 : Int))))), ((76 : Nat), V.own ((75 : Nat)))]] : St }
  ∧ inv_43 x0 m_1 x')) ∧ (decide (x.8 > (0 : Int)) = !true → (false = true → ((0 : Int) ≤ IntKind.i64.wrap (x.8 - (1 : Int)) ∧ IntKind.i64.wrap (x.8 -
  (1 : Int)) < (↑((3 : Nat)) : Int)) ∧ (1 : Nat) = (1 : Nat) ∧ ∃ (cells : List D), [[D.v (Value.int IntKind.i64 x.4)], [D.v (Value.int IntKind.i64
  x.5)], [D.v (Value.int IntKind.i64 x.6)]][(IntKind.i64.wrap (x.8 - (1 : Int))).toNat]? = some cells ∧ ∃ (n : Int), cut ((0 : Nat)) ((1 : Nat)) cells
  = some [D.v (Value.int IntKind.i64 n)] ∧ ((0 : Int) ≤ x.8 ∧ x.8 < (↑((3 : Nat)) : Int)) ∧ (1 : Nat) = (1 : Nat) ∧ ∃ (cells : List D), [[D.v
  (Value.int IntKind.i64 x.4)], [D.v (Value.int IntKind.i64 x.5)], [D.v (Value.int IntKind.i64 x.6)]][x.8.toNat]? = some cells ∧ ∃ (n_2 : Int), cut ((0
  : Nat)) ((1 : Nat)) cells = some [D.v (Value.int IntKind.i64 n_2)] ∧ ((0 : Int) ≤ x.8 ∧ x.8 < (↑((3 : Nat)) : Int)) ∧ (1 : Nat) = (1 : Nat) ∧ ∃
  (cells : List D), [[D.v (Value.int IntKind.i64 x.4)], [D.v (Value.int IntKind.i64 x.5)], [D.v (Value.int IntKind.i64 x.6)]][x.8.toNat]? = some cells
  ∧ ∃ (cells' : List D), over ((0 : Nat)) [D.v (Value.int IntKind.i64 n)] cells = some cells' ∧ ((0 : Int) ≤ IntKind.i64.wrap (x.8 - (1 : Int)) ∧
  IntKind.i64.wrap (x.8 - (1 : Int)) < (↑([[D.v (Value.int IntKind.i64 x.4)], [D.v (Value.int IntKind.i64 x.5)], [D.v (Value.int IntKind.i64 x.6)]].set
  x.8.toNat cells').length : Int)) ∧ (1 : Nat) = (1 : Nat) ∧ ∃ (cells : List D), ([[D.v (Value.int IntKind.i64 x.4)], [D.v (Value.int IntKind.i64
  x.5)], [D.v (Value.int IntKind.i64 x.6)]].set x.8.toNat cells')[(IntKind.i64.wrap (x.8 - (1 : Int))).toNat]? = some cells ∧ ∃ (cells'_1 : List D),
  over ((0 : Nat)) [D.v (Value.int IntKind.i64 n_2)] cells = some cells'_1 ∧ ∃ (m_1 : Nat), ∃ (x' : { X := JX, sh := st_43b kd a b c m, P := inv_43b : LX }.X),
  m_1 < n_1 ∧ { tm := [((0 : Nat), V.own ((75 : Nat))), ((1 : Nat), V.d (D.v (Value.int IntKind.i64 (0 : Int)))), ((2 : Nat), V.d (D.v (Value.int IntKind.i64 (3 : Int)))), ((6 : Nat), V.d (D.v (Value.int IntKind.i64 x.7))), ((7 : Nat), V.d (D.v (Value.int IntKind.i64 (IntKind.i64.wrap (x.8 - (1 : Int)))))), ((12 : Nat), V.d (D.v (Value.bool (decide (x.i < (3 : Int))))))], hp := [((11 : Nat), B.box [V.d (D.v (Value.int IntKind.i64 (2 : Int))), V.d (D.v (Value.int IntKind.i64 (0 : Int)))]), ((45 : Nat), B.box [V.d (D.v (Value.int IntKind.i64 kd)), V.d (D.v (Value.int IntKind.i64 (2 : Int))), V.d (D.v (Value.int IntKind.i64 (0 : Int))), V.d (D.sl (lvD x.3)), V.d (D.v (Value.int IntKind.i64 (0 : Int)))]), ((75 : Nat), B.lst ((3 : Nat)) ((1 : Nat)) (([[D.v (Value.int IntKind.i64 x.4)], [D.v (Value.int IntKind.i64 x.5)], [D.v (Value.int IntKind.i64 x.6)]].set x.8.toNat cells').set (IntKind.i64.wrap (x.8 - (1 : Int))).toNat cells'_1)), ((50012 : Nat), B.fro ((5 : Nat)) (List.map AV.cs (wv (List.take x.1 m))))], kn := [], gd := [], rt := [[((0 : Nat), V.own ((75 : Nat))), ((1 : Nat), V.d (D.v (Value.int IntKind.i64 (0 : Int)))), ((2 : Nat), V.d (D.v (Value.int IntKind.i64 (3 : Int)))), ((3 : Nat), V.d (D.v (Value.int IntKind.i64 (↑x.2 : Int)))), ((8 : Nat), V.d (D.v (Value.bool true))), ((9 : Nat), V.d (D.v (Value.bool true))), ((10 : Nat), V.d (D.v (Value.int IntKind.i64 (IntKind.i64.wrap ((3 : Int) - (0 : Int)))))), ((23 : Nat), V.d (D.v (Value.bool (decide (IntKind.i64.wrap ((3 : Int) - (0 : Int)) ≤ (12 : Int)))))), ((24 : Nat), V.own ((75 : Nat))), ((25 : Nat), V.d (D.v (Value.int IntKind.i64 (0 : Int)))), ((26 : Nat), V.d (D.v (Value.int IntKind.i64 (3 : Int))))], [((0 : Nat), V.own ((75 : Nat))), ((2 : Nat), V.d (D.v (Value.int IntKind.i64 (3 : Int)))), ((5 : Nat), V.own ((75 : Nat))), ((6 : Nat), V.d (D.v (Value.int IntKind.i64 (3 : Int)))), ((7 : Nat), V.d (D.v (Value.int IntKind.i64 (3 : Int)))), ((8 : Nat), V.d (D.v (Value.int IntKind.u64 (IntKind.u64.wrap (3 : Int))))), ((9 : Nat), V.d (D.v (Value.int IntKind.i64 (↑x.2 : Int))))], [((0 : Nat), V.d (D.v (Value.int IntKind.i64 kd))), ((2 : Nat), V.d (D.v (Value.int IntKind.u8 a))), ((3 : Nat), V.d (D.v (Value.int IntKind.u8 b))), ((4 : Nat), V.d (D.v (Value.int IntKind.u8 c))), ((10 : Nat), V.d (D.v (Value.bool false))), ((11 : Nat), V.ref ((11 : Nat)) ((0 : Nat))), ((12 : Nat), V.own ((50012 : Nat))), ((15 : Nat), V.ref ((45 : Nat)) ((0 : Nat))), ((16 : Nat), V.d (D.v (Value.int IntKind.i64 (0 : Int)))), ((17 : Nat), V.own ((75 : Nat))), ((28 : Nat), V.d (D.sl (iD m))), ((29 : Nat), V.d (D.v (Value.int IntKind.i64 (↑m.length : Int)))), ((30 : Nat), V.d (D.v (Value.int IntKind.i64 (↑x.1 : Int)))), ((31 : Nat), V.d (D.v (Value.bool (decide ((↑x.1 : Int) < (↑m.length : Int)))))), ((58 : Nat), V.d (D.v (Value.bool (bif bif !true then true else (0 : Int) != (0 : Int) then true else (↑(List.map AV.cs (wv (List.take x.1 m))).length : Int) == (0 : Int))))), ((76 : Nat), V.own ((75 : Nat)))]] : St }
  = { tm := [((0 : Nat), V.own ((75 : Nat))), ((1 : Nat), V.d (D.v (Value.int IntKind.i64 (0 : Int)))), ((2 : Nat), V.d (D.v (Value.int IntKind.i64 (3 : Int)))), ((6 : Nat), V.d (D.v (Value.int IntKind.i64 x'.7))), ((7 : Nat), V.d (D.v (Value.int IntKind.i64 x'.8))), ((12 : Nat), V.d (D.v (Value.bool (decide (x'.i < (3 : Int))))))], hp := [((11 : Nat), B.box [V.d (D.v (Value.int IntKind.i64 (2 : Int))), V.d (D.v (Value.int IntKind.i64 (0 : Int)))]), ((45 : Nat), B.box [V.d (D.v (Value.int IntKind.i64 kd)), V.d (D.v (Value.int IntKind.i64 (2 : Int))), V.d (D.v (Value.int IntKind.i64 (0 : Int))), V.d (D.sl (lvD x'.3)), V.d (D.v (Value.int IntKind.i64 (0 : Int)))]), ((75 : Nat), B.lst ((3 : Nat)) ((1 : Nat)) [[D.v (Value.int IntKind.i64 x'.4)], [D.v (Value.int IntKind.i64 x'.5)], [D.v (Value.int IntKind.i64 x'.6)]]), ((50012 : Nat), B.fro ((5 : Nat)) (List.map AV.cs (wv (List.take x'.1 m))))], kn := [], gd := [], rt := [[((0 : Nat), V.own ((75 : Nat))), ((1 : Nat), V.d (D.v (Value.int IntKind.i64 (0 : Int)))), ((2 : Nat), V.d (D.v (Value.int IntKind.i64 (3 : Int)))), ((3 : Nat), V.d (D.v (Value.int IntKind.i64 (↑x'.2 : Int)))), ((8 : Nat), V.d (D.v (Value.bool true))), ((9 : Nat), V.d (D.v (Value.bool true))), ((10 : Nat), V.d (D.v (Value.int IntKind.i64 (IntKind.i64.wrap ((3 : Int) - (0 : Int)))))), ((23 : Nat), V.d (D.v (Value.bool (decide (IntKind.i64.wrap ((3 : Int) - (0 : Int)) ≤ (12 : Int)))))), ((24 : Nat), V.own ((75 : Nat))), ((25 : Nat), V.d (D.v (Value.int IntKind.i64 (0 : Int)))), ((26 : Nat), V.d (D.v (Value.int IntKind.i64 (3 : Int))))], [((0 : Nat), V.own ((75 : Nat))), ((2 : Nat), V.d (D.v (Value.int IntKind.i64 (3 : Int)))), ((5 : Nat), V.own ((75 : Nat))), ((6 : Nat), V.d (D.v (Value.int IntKind.i64 (3 : Int)))), ((7 : Nat), V.d (D.v (Value.int IntKind.i64 (3 : Int)))), ((8 : Nat), V.d (D.v (Value.int IntKind.u64 (IntKind.u64.wrap (3 : Int))))), ((9 : Nat), V.d (D.v (Value.int IntKind.i64 (↑x'.2 : Int))))], [((0 : Nat), V.d (D.v (Value.int IntKind.i64 kd))), ((2 : Nat), V.d (D.v (Value.int IntKind.u8 a))), ((3 : Nat), V.d (D.v (Value.int IntKind.u8 b))), ((4 : Nat), V.d (D.v (Value.int IntKind.u8 c))), ((10 : Nat), V.d (D.v (Value.bool false))), ((11 : Nat), V.ref ((11 : Nat)) ((0 : Nat))), ((12 : Nat), V.own ((50012 : Nat))), ((15 : Nat), V.ref ((45 : Nat)) ((0 : Nat))), ((16 : Nat), V.d (D.v (Value.int IntKind.i64 (0 : Int)))), ((17 : Nat), V.own ((75 : Nat))), ((28 : Nat), V.d (D.sl (iD m))), ((29 : Nat), V.d (D.v (Value.int IntKind.i64 (↑m.length : Int)))), ((30 : Nat), V.d (D.v (Value.int IntKind.i64 (↑x'.1 : Int)))), ((31 : Nat), V.d (D.v (Value.bool (decide ((↑x'.1 : Int) < (↑m.length : Int)))))), ((58 : Nat), V.d (D.v (Value.bool (bif bif !true then true else (0 : Int) != (0 : Int) then true else (↑(List.map AV.cs (wv (List.take x'.1 m))).length : Int) == (0 : Int))))), ((76 : Nat), V.own ((75 : Nat)))]] : St }
  ∧ inv_43b x0_1 m_1 x') ∧ (false = false → ∃ (m_1 : Nat), ∃ (x' : { X := JX, sh := st_43 kd a b c m, P := inv_43 : LX }.X), m_1 < n ∧ { tm := [((0 : Nat), V.own ((75 : Nat))), ((1 : Nat), V.d (D.v (Value.int IntKind.i64 (0 : Int)))), ((2 : Nat), V.d (D.v (Value.int IntKind.i64 (3 : Int)))), ((6 : Nat), V.d (D.v (Value.int IntKind.i64 (IntKind.i64.wrap (x.7 + (1 : Int))))))], hp := [((11 : Nat), B.box [V.d (D.v (Value.int IntKind.i64 (2 : Int))), V.d (D.v (Value.int IntKind.i64 (0 : Int)))]), ((45 : Nat), B.box [V.d (D.v (Value.int IntKind.i64 kd)), V.d (D.v (Value.int IntKind.i64 (2 : Int))), V.d (D.v (Value.int IntKind.i64 (0 : Int))), V.d (D.sl (lvD x.3)), V.d (D.v (Value.int IntKind.i64 (0 : Int)))]), ((75 : Nat), B.lst ((3 : Nat)) ((1 : Nat)) [[D.v (Value.int IntKind.i64 x.4)], [D.v (Value.int IntKind.i64 x.5)], [D.v (Value.int IntKind.i64 x.6)]]), ((50012 : Nat), B.fro ((5 : Nat)) (List.map AV.cs (wv (List.take x.1 m))))], kn := [], gd := [], rt := [[((0 : Nat), V.own ((75 : Nat))), ((1 : Nat), V.d (D.v (Value.int IntKind.i64 (0 : Int)))), ((2 : Nat), V.d (D.v (Value.int IntKind.i64 (3 : Int)))), ((3 : Nat), V.d (D.v (Value.int IntKind.i64 (↑x.2 : Int)))), ((8 : Nat), V.d (D.v (Value.bool true))), ((9 : Nat), V.d (D.v (Value.bool true))), ((10 : Nat), V.d (D.v (Value.int IntKind.i64 (IntKind.i64.wrap ((3 : Int) - (0 : Int)))))), ((23 : Nat), V.d (D.v (Value.bool (decide (IntKind.i64.wrap ((3 : Int) - (0 : Int)) ≤ (12 : Int)))))), ((24 : Nat), V.own ((75 : Nat))), ((25 : Nat), V.d (D.v (Value.int IntKind.i64 (0 : Int)))), ((26 : Nat), V.d (D.v (Value.int IntKind.i64 (3 : Int))))], [((0 : Nat), V.own ((75 : Nat))), ((2 : Nat), V.d (D.v (Value.int IntKind.i64 (3 : Int)))), ((5 : Nat), V.own ((75 : Nat))), ((6 : Nat), V.d (D.v (Value.int IntKind.i64 (3 : Int)))), ((7 : Nat), V.d (D.v (Value.int IntKind.i64 (3 : Int)))), ((8 : Nat), V.d (D.v (Value.int IntKind.u64 (IntKind.u64.wrap (3 : Int))))), ((9 : Nat), V.d (D.v (Value.int IntKind.i64 (↑x.2 : Int))))], [((0 : Nat), V.d (D.v (Value.int IntKind.i64 kd))), ((2 : Nat), V.d (D.v (Value.int IntKind.u8 a))), ((3 : Nat), V.d (D.v (Value.int IntKind.u8 b))), ((4 : Nat), V.d (D.v (Value.int IntKind.u8 c))), ((10 : Nat), V.d (D.v (Value.bool false))), ((11 : Nat), V.ref ((11 : Nat)) ((0 : Nat))), ((12 : Nat), V.own ((50012 : Nat))), ((15 : Nat), V.ref ((45 : Nat)) ((0 : Nat))), ((16 : Nat), V.d (D.v (Value.int IntKind.i64 (0 : Int)))), ((17 : Nat), V.own ((75 : Nat))), ((28 : Nat), V.d (D.sl (iD m))), ((29 : Nat), V.d (D.v (Value.int IntKind.i64 (↑m.length : Int)))), ((30 : Nat), V.d (D.v (Value.int IntKind.i64 (↑x.1 : Int)))), ((31 : Nat), V.d (D.v (Value.bool (decide ((↑x.1 : Int) < (↑m.length : Int)))))), ((58 : Nat), V.d (D.v (Value.bool (bif bif !true then true else (0 : Int) != (0 : Int) then true else (↑(List.map AV.cs (wv (List.take x.1 m))).length : Int) == (0 : Int))))), ((76 : Nat), V.own ((75 : Nat)))]] : St }
  = { tm := [((0 : Nat), V.own ((75 : Nat))), ((1 : Nat), V.d (D.v (Value.int IntKind.i64 (0 : Int)))), ((2 : Nat), V.d (D.v (Value.int IntKind.i64 (3 : Int)))), ((6 : Nat), V.d (D.v (Value.int IntKind.i64 x'.7)))], hp := [((11 : Nat), B.box [V.d (D.v (Value.int IntKind.i64 (2 : Int))), V.d (D.v (Value.int IntKind.i64 (0 : Int)))]), ((45 : Nat), B.box [V.d (D.v (Value.int IntKind.i64 kd)), V.d (D.v (Value.int IntKind.i64 (2 : Int))), V.d (D.v (Value.int IntKind.i64 (0 : Int))), V.d (D.sl (lvD x'.3)), V.d (D.v (Value.int IntKind.i64 (0 : Int)))]), ((75 : Nat), B.lst ((3 : Nat)) ((1 : Nat)) [[D.v (Value.int IntKind.i64 x'.4)], [D.v (Value.int IntKind.i64 x'.5)], [D.v (Value.int IntKind.i64 x'.6)]]), ((50012 : Nat), B.fro ((5 : Nat)) (List.map AV.cs (wv (List.take x'.1 m))))], kn := [], gd := [], rt := [[((0 : Nat), V.own ((75 : Nat))), ((1 : Nat), V.d (D.v (Value.int IntKind.i64 (0 : Int)))), ((2 : Nat), V.d (D.v (Value.int IntKind.i64 (3 : Int)))), ((3 : Nat), V.d (D.v (Value.int IntKind.i64 (↑x'.2 : Int)))), ((8 : Nat), V.d (D.v (Value.bool true))), ((9 : Nat), V.d (D.v (Value.bool true))), ((10 : Nat), V.d (D.v (Value.int IntKind.i64 (IntKind.i64.wrap ((3 : Int) - (0 : Int)))))), ((23 : Nat), V.d (D.v (Value.bool (decide (IntKind.i64.wrap ((3 : Int) - (0 : Int)) ≤ (12 : Int)))))), ((24 : Nat), V.own ((75 : Nat))), ((25 : Nat), V.d (D.v (Value.int IntKind.i64 (0 : Int)))), ((26 : Nat), V.d (D.v (Value.int IntKind.i64 (3 : Int))))], [((0 : Nat), V.own ((75 : Nat))), ((2 : Nat), V.d (D.v (Value.int IntKind.i64 (3 : Int)))), ((5 : Nat), V.own ((75 : Nat))), ((6 : Nat), V.d (D.v (Value.int IntKind.i64 (3 : Int)))), ((7 : Nat), V.d (D.v (Value.int IntKind.i64 (3 : Int)))), ((8 : Nat), V.d (D.v (Value.int IntKind.u64 (IntKind.u64.wrap (3 : Int))))), ((9 : Nat), V.d (D.v (Value.int IntKind.i64 (↑x'.2 : Int))))], [((0 : Nat), V.d (D.v (Value.int IntKind.i64 kd))), ((2 : Nat), V.d (D.v (Value.int IntKind.u8 a))), ((3 : Nat), V.d (D.v (Value.int IntKind.u8 b))), ((4 : Nat), V.d (D.v (Value.int IntKind.u8 c))), ((10 : Nat), V.d (D.v (Value.bool false))), ((11 : Nat), V.ref ((11 : Nat)) ((0 : Nat))), ((12 : Nat), V.own ((50012 : Nat))), ((15 : Nat), V.ref ((45 : Nat)) ((0 : Nat))), ((16 : Nat), V.d (D.v (Value.int IntKind.i64 (0 : Int)))), ((17 : Nat), V.own ((75 : Nat))), ((28 : Nat), V.d (D.sl (iD m))), ((29 : Nat), V.d (D.v (Value.int IntKind.i64 (↑m.length : Int)))), ((30 : Nat), V.d (D.v (Value.int IntKind.i64 (↑x'.1 : Int)))), ((31 : Nat), V.d (D.v (Value.bool (decide ((↑x'.1 : Int) < (↑m.length : Int)))))), ((58 : Nat), V.d (D.v (Value.bool (bif bif !true then true else (0 : Int) != (0 : Int) then true else (↑(List.map AV.cs (wv (List.take x'.1 m))).length : Int) == (0 : Int))))), ((76 : Nat), V.own ((75 : Nat)))]] : St }
  ∧ inv_43 x0 m_1 x'))) ∧ (decide (x.7 < (3 : Int)) = false → ((0 : Int) ≤ (0 : Int) ∧ (0 : Int) < (↑((3 : Nat)) : Int)) ∧ (1 : Nat) = (1 : Nat) ∧ ∃
  (cells : List D), [[D.v (Value.int IntKind.i64 x.4)], [D.v (Value.int IntKind.i64 x.5)], [D.v (Value.int IntKind.i64 x.6)]][Int.toNat (0 : Int)]? =
  some cells ∧ ∃ (n : Int), cut ((0 : Nat)) ((1 : Nat)) cells = some [D.v (Value.int IntKind.i64 n)] ∧ ((0 : Int) ≤ (1 : Int) ∧ (1 : Int) < (↑((3 :
  Nat)) : Int)) ∧ (1 : Nat) = (1 : Nat) ∧ ∃ (cells : List D), [[D.v (Value.int IntKind.i64 x.4)], [D.v (Value.int IntKind.i64 x.5)], [D.v (Value.int
  IntKind.i64 x.6)]][Int.toNat (1 : Int)]? = some cells ∧ ∃ (n_1 : Int), cut ((0 : Nat)) ((1 : Nat)) cells = some [D.v (Value.int IntKind.i64 n_1)] ∧
  (∃ (vs : List AV), ∃ (lvls : List (List Sm)), lvD x.3 = lvD lvls ∧ TreeOk kd (2 : Int) (0 : Int) vs lvls ∧ kd ≠ (0 : Int) ∧ lvls.length ≤ (64 : Nat)
  ∧ ((0 : Int) ≤ (0 : Int) ∧ (0 : Int) ≤ (4611686018427387904 : Int)) ∧ in64 n ∧ in64 n_1 ∧ ∀ (v : AV) (e lk' : Int), ovL kd (2 : Int) (0 : Int) vs n
  n_1 v e → (0 : Int) ≤ lk' → lk' ≤ (0 : Int) + (2 : Int) * (↑lvls.length : Int) → ((0 : Int) ≤ (1 : Int) ∧ (1 : Int) < (↑((3 : Nat)) : Int)) ∧ (1 :
  Nat) = (1 : Nat) ∧ ∃ (cells : List D), [[D.v (Value.int IntKind.i64 x.4)], [D.v (Value.int IntKind.i64 x.5)], [D.v (Value.int IntKind.i64
  x.6)]][Int.toNat (1 : Int)]? = some cells ∧ ∃ (n : Int), cut ((0 : Nat)) ((1 : Nat)) cells = some [D.v (Value.int IntKind.i64 n)] ∧ ((0 : Int) ≤ (2 :
  Int) ∧ (2 : Int) < (↑((3 : Nat)) : Int)) ∧ (1 : Nat) = (1 : Nat) ∧ ∃ (cells : List D), [[D.v (Value.int IntKind.i64 x.4)], [D.v (Value.int
  IntKind.i64 x.5)], [D.v (Value.int IntKind.i64 x.6)]][Int.toNat (2 : Int)]? = some cells ∧ ∃ (n_2 : Int), cut ((0 : Nat)) ((1 : Nat)) cells = some
  [D.v (Value.int IntKind.i64 n_2)] ∧ (∃ (vs : List AV), ∃ (lvls_1 : List (List Sm)), lvD lvls = lvD lvls_1 ∧ TreeOk kd (2 : Int) (0 : Int) vs lvls_1 ∧
  kd ≠ (0 : Int) ∧ lvls_1.length ≤ (64 : Nat) ∧ ((0 : Int) ≤ lk' ∧ lk' ≤ (4611686018427387904 : Int)) ∧ in64 (IntKind.i64.wrap (n + (1 : Int))) ∧ in64
  n_2 ∧ ∀ (v_1 : AV) (e_1 lk'_1 : Int), ovL kd (2 : Int) (0 : Int) vs (IntKind.i64.wrap (n + (1 : Int))) n_2 v_1 e_1 → lk' ≤ lk'_1 → lk'_1 ≤ lk' + (2 :
  Int) * (↑lvls_1.length : Int) → ((0 : Int) ≤ (0 : Int) ∧ (0 : Int) < (↑((3 : Nat)) : Int)) ∧ (1 : Nat) = (1 : Nat) ∧ ∃ (cells : List D), [[D.v
  (Value.int IntKind.i64 x.4)], [D.v (Value.int IntKind.i64 x.5)], [D.v (Value.int IntKind.i64 x.6)]][Int.toNat (0 : Int)]? = some cells ∧ ∃ (n : Int),
  cut ((0 : Nat)) ((1 : Nat)) cells = some [D.v (Value.int IntKind.i64 n)] ∧ ((0 : Int) ≤ (2 : Int) ∧ (2 : Int) < (↑((3 : Nat)) : Int)) ∧ (1 : Nat) =
  (1 : Nat) ∧ ∃ (cells : List D), [[D.v (Value.int IntKind.i64 x.4)], [D.v (Value.int IntKind.i64 x.5)], [D.v (Value.int IntKind.i64 x.6)]][Int.toNat
  (2 : Int)]? = some cells ∧ ∃ (n_3 : Int), cut ((0 : Nat)) ((1 : Nat)) cells = some [D.v (Value.int IntKind.i64 n_3)] ∧ (∃ (vs : List AV), ∃ (lvls :
  List (List Sm)), lvD lvls_1 = lvD lvls ∧ TreeOk kd (2 : Int) (0 : Int) vs lvls ∧ kd ≠ (0 : Int) ∧ lvls.length ≤ (64 : Nat) ∧ ((0 : Int) ≤ lk'_1 ∧
  lk'_1 ≤ (4611686018427387904 : Int)) ∧ in64 n ∧ in64 n_3 ∧ ∀ (v_2 : AV) (e_2 lk' : Int), ovL kd (2 : Int) (0 : Int) vs n n_3 v_2 e_2 → lk'_1 ≤ lk' →
  lk' ≤ lk'_1 + (2 : Int) * (↑lvls.length : Int) → ((bif bif e != (0 : Int) then true else e_1 != (0 : Int) then true else e_2 != (0 : Int)) = true → Q
  [R.d (D.v (Value.bool false))] []) ∧ ((bif bif e != (0 : Int) then true else e_1 != (0 : Int) then true else e_2 != (0 : Int)) = false → (v_1.3 =
  true → Q [R.d (D.v (Value.bool (v_2.1 == v.1 && (v_2.2 == v.2 && (v_2.3 == v.3 && (v_2.4 == v.4 && (v_2.5 == v.5 && true)))))))] []) ∧ (v_1.3 = false
  → ((kd == (3 : Int)) = true → Q [R.d (D.v (Value.bool (v_2.4 == if v_1.4 < v.4 then v_1.4 else v.4)))] []) ∧ ((kd == (3 : Int)) = false → ((kd == (4
  : Int)) = true → Q [R.d (D.v (Value.bool (v_2.4 == if v_1.4 > v.4 then v_1.4 else v.4)))] []) ∧ ((kd == (4 : Int)) = false → Q [R.d (D.v (Value.bool
  (v_2.4 == IntKind.i64.wrap (v.4 + v_1.4))))] []))))) ∧ ∃ (vs : List AV), ∃ (lvls : List (List Sm)), lvD lvls_1 = lvD lvls ∧ TreeOk kd (2 : Int) (0 :
  Int) vs lvls ∧ kd ≠ (0 : Int) ∧ lvls.length ≤ (64 : Nat) ∧ ((0 : Int) ≤ lk'_1 ∧ lk'_1 ≤ (4611686018427387904 : Int)) ∧ in64 n ∧ in64 n_3 ∧ ∀ (v_2 :
  AV) (e_2 lk' : Int), ovL kd (2 : Int) (0 : Int) vs n n_3 v_2 e_2 → lk'_1 ≤ lk' → lk' ≤ lk'_1 + (2 : Int) * (↑lvls.length : Int) → ((bif bif e != (0 :
  Int) then true else e_1 != (0 : Int) then true else e_2 != (0 : Int)) = true → Q [R.d (D.v (Value.bool false))] []) ∧ ((bif bif e != (0 : Int) then
  true else e_1 != (0 : Int) then true else e_2 != (0 : Int)) = false → (v_1.3 = true → Q [R.d (D.v (Value.bool (v_2.1 == v.1 && (v_2.2 == v.2 &&
  (v_2.3 == v.3 && (v_2.4 == v.4 && (v_2.5 == v.5 && true)))))))] []) ∧ (v_1.3 = false → ((kd == (3 : Int)) = true → Q [R.d (D.v (Value.bool (v_2.4 ==
  if v_1.4 < v.4 then v_1.4 else v.4)))] []) ∧ ((kd == (3 : Int)) = false → ((kd == (4 : Int)) = true → Q [R.d (D.v (Value.bool (v_2.4 == if v_1.4 >
  v.4 then v_1.4 else v.4)))] []) ∧ ((kd == (4 : Int)) = false → Q [R.d (D.v (Value.bool (v_2.4 == IntKind.i64.wrap (v.4 + v_1.4))))] []))))) ∧ ∃ (vs :
  List AV), ∃ (lvls_1 : List (List Sm)), lvD lvls = lvD lvls_1 ∧ TreeOk kd (2 : Int) (0 : Int) vs lvls_1 ∧ kd ≠ (0 : Int) ∧ lvls_1.length ≤ (64 : Nat)
  ∧ ((0 : Int) ≤ lk' ∧ lk' ≤ (4611686018427387904 : Int)) ∧ in64 (IntKind.i64.wrap (n + (1 : Int))) ∧ in64 n_2 ∧ ∀ (v_1 : AV) (e_1 lk'_1 : Int), ovL kd
  (2 : Int) (0 : Int) vs (IntKind.i64.wrap (n + (1 : Int))) n_2 v_1 e_1 → lk' ≤ lk'_1 → lk'_1 ≤ lk' + (2 : Int) * (↑lvls_1.length : Int) → ((0 : Int) ≤
  (0 : Int) ∧ (0 : Int) < (↑((3 : Nat)) : Int)) ∧ (1 : Nat) = (1 : Nat) ∧ ∃ (cells : List D), [[D.v (Value.int IntKind.i64 x.4)], [D.v (Value.int
  IntKind.i64 x.5)], [D.v (Value.int IntKind.i64 x.6)]][Int.toNat (0 : Int)]? = some cells ∧ ∃ (n : Int), cut ((0 : Nat)) ((1 : Nat)) cells = some [D.v
  (Value.int IntKind.i64 n)] ∧ ((0 : Int) ≤ (2 : Int) ∧ (2 : Int) < (↑((3 : Nat)) : Int)) ∧ (1 : Nat) = (1 : Nat) ∧ ∃ (cells : List D), [[D.v
  (Value.int IntKind.i64 x.4)], [D.v (Value.int IntKind.i64 x.5)], [D.v (Value.int IntKind.i64 x.6)]][Int.toNat (2 : Int)]? = some cells ∧ ∃ (n_3 :
  Int), cut ((0 : Nat)) ((1 : Nat)) cells = some [D.v (Value.int IntKind.i64 n_3)] ∧ (∃ (vs : List AV), ∃ (lvls : List (List Sm)), lvD lvls_1 = lvD
  lvls ∧ TreeOk kd (2 : Int) (0 : Int) vs lvls ∧ kd ≠ (0 : Int) ∧ lvls.length ≤ (64 : Nat) ∧ ((0 : Int) ≤ lk'_1 ∧ lk'_1 ≤ (4611686018427387904 : Int))
  ∧ in64 n ∧ in64 n_3 ∧ ∀ (v_2 : AV) (e_2 lk' : Int), ovL kd (2 : Int) (0 : Int) vs n n_3 v_2 e_2 → lk'_1 ≤ lk' → lk' ≤ lk'_1 + (2 : Int) *
  (↑lvls.length : Int) → ((bif bif e != (0 : Int) then true else e_1 != (0 : Int) then true else e_2 != (0 : Int)) = true → Q [R.d (D.v (Value.bool
  false))] []) ∧ ((bif bif e != (0 : Int) then true else e_1 != (0 : Int) then true else e_2 != (0 : Int)) = false → (v_1.3 = true → Q [R.d (D.v
  (Value.bool (v_2.1 == v.1 && (v_2.2 == v.2 && (v_2.3 == v.3 && (v_2.4 == v.4 && (v_2.5 == v.5 && true)))))))] []) ∧ (v_1.3 = false → ((kd == (3 :
  Int)) = true → Q [R.d (D.v (Value.bool (v_2.4 == if v_1.4 < v.4 then v_1.4 else v.4)))] []) ∧ ((kd == (3 : Int)) = false → ((kd == (4 : Int)) = true
  → Q [R.d (D.v (Value.bool (v_2.4 == if v_1.4 > v.4 then v_1.4 else v.4)))] []) ∧ ((kd == (4 : Int)) = false → Q [R.d (D.v (Value.bool (v_2.4 ==
  IntKind.i64.wrap (v.4 + v_1.4))))] []))))) ∧ ∃ (vs : List AV), ∃ (lvls : List (List Sm)), lvD lvls_1 = lvD lvls ∧ TreeOk kd (2 : Int) (0 : Int) vs
  lvls ∧ kd ≠ (0 : Int) ∧ lvls.length ≤ (64 : Nat) ∧ ((0 : Int) ≤ lk'_1 ∧ lk'_1 ≤ (4611686018427387904 : Int)) ∧ in64 n ∧ in64 n_3 ∧ ∀ (v_2 : AV) (e_2
  lk' : Int), ovL kd (2 : Int) (0 : Int) vs n n_3 v_2 e_2 → lk'_1 ≤ lk' → lk' ≤ lk'_1 + (2 : Int) * (↑lvls.length : Int) → ((bif bif e != (0 : Int)
  then true else e_1 != (0 : Int) then true else e_2 != (0 : Int)) = true → Q [R.d (D.v (Value.bool false))] []) ∧ ((bif bif e != (0 : Int) then true
  else e_1 != (0 : Int) then true else e_2 != (0 : Int)) = false → (v_1.3 = true → Q [R.d (D.v (Value.bool (v_2.1 == v.1 && (v_2.2 == v.2 && (v_2.3 ==
  v.3 && (v_2.4 == v.4 && (v_2.5 == v.5 && true)))))))] []) ∧ (v_1.3 = false → ((kd == (3 : Int)) = true → Q [R.d (D.v (Value.bool (v_2.4 == if v_1.4 <
  v.4 then v_1.4 else v.4)))] []) ∧ ((kd == (3 : Int)) = false → ((kd == (4 : Int)) = true → Q [R.d (D.v (Value.bool (v_2.4 == if v_1.4 > v.4 then
  v_1.4 else v.4)))] []) ∧ ((kd == (4 : Int)) = false → Q [R.d (D.v (Value.bool (v_2.4 == IntKind.i64.wrap (v.4 + v_1.4))))] []))))) ∧ ∃ (vs : List
  AV), ∃ (lvls : List (List Sm)), lvD x.3 = lvD lvls ∧ TreeOk kd (2 : Int) (0 : Int) vs lvls ∧ kd ≠ (0 : Int) ∧ lvls.length ≤ (64 : Nat) ∧ ((0 : Int) ≤
  (0 : Int) ∧ (0 : Int) ≤ (4611686018427387904 : Int)) ∧ in64 n ∧ in64 n_1 ∧ ∀ (v : AV) (e lk' : Int), ovL kd (2 : Int) (0 : Int) vs n n_1 v e → (0 :
  Int) ≤ lk' → lk' ≤ (0 : Int) + (2 : Int) * (↑lvls.length : Int) → ((0 : Int) ≤ (1 : Int) ∧ (1 : Int) < (↑((3 : Nat)) : Int)) ∧ (1 : Nat) = (1 : Nat)
  ∧ ∃ (cells : List D), [[D.v (Value.int IntKind.i64 x.4)], [D.v (Value.int IntKind.i64 x.5)], [D.v (Value.int IntKind.i64 x.6)]][Int.toNat (1 : Int)]?
  = some cells ∧ ∃ (n : Int), cut ((0 : Nat)) ((1 : Nat)) cells = some [D.v (Value.int IntKind.i64 n)] ∧ ((0 : Int) ≤ (2 : Int) ∧ (2 : Int) < (↑((3 :
  Nat)) : Int)) ∧ (1 : Nat) = (1 : Nat) ∧ ∃ (cells : List D), [[D.v (Value.int IntKind.i64 x.4)], [D.v (Value.int IntKind.i64 x.5)], [D.v (Value.int
  IntKind.i64 x.6)]][Int.toNat (2 : Int)]? = some cells ∧ ∃ (n_2 : Int), cut ((0 : Nat)) ((1 : Nat)) cells = some [D.v (Value.int IntKind.i64 n_2)] ∧
  (∃ (vs : List AV), ∃ (lvls_1 : List (List Sm)), lvD lvls = lvD lvls_1 ∧ TreeOk kd (2 : Int) (0 : Int) vs lvls_1 ∧ kd ≠ (0 : Int) ∧ lvls_1.length ≤
  (64 : Nat) ∧ ((0 : Int) ≤ lk' ∧ lk' ≤ (4611686018427387904 : Int)) ∧ in64 (IntKind.i64.wrap (n + (1 : Int))) ∧ in64 n_2 ∧ ∀ (v_1 : AV) (e_1 lk'_1 :
  Int), ovL kd (2 : Int) (0 : Int) vs (IntKind.i64.wrap (n + (1 : Int))) n_2 v_1 e_1 → lk' ≤ lk'_1 → lk'_1 ≤ lk' + (2 : Int) * (↑lvls_1.length : Int) →
  ((0 : Int) ≤ (0 : Int) ∧ (0 : Int) < (↑((3 : Nat)) : Int)) ∧ (1 : Nat) = (1 : Nat) ∧ ∃ (cells : List D), [[D.v (Value.int IntKind.i64 x.4)], [D.v
  (Value.int IntKind.i64 x.5)], [D.v (Value.int IntKind.i64 x.6)]][Int.toNat (0 : Int)]? = some cells ∧ ∃ (n : Int), cut ((0 : Nat)) ((1 : Nat)) cells
  = some [D.v (Value.int IntKind.i64 n)] ∧ ((0 : Int) ≤ (2 : Int) ∧ (2 : Int) < (↑((3 : Nat)) : Int)) ∧ (1 : Nat) = (1 : Nat) ∧ ∃ (cells : List D),
  [[D.v (Value.int IntKind.i64 x.4)], [D.v (Value.int IntKind.i64 x.5)], [D.v (Value.int IntKind.i64 x.6)]][Int.toNat (2 : Int)]? = some cells ∧ ∃ (n_3
  : Int), cut ((0 : Nat)) ((1 : Nat)) cells = some [D.v (Value.int IntKind.i64 n_3)] ∧ (∃ (vs : List AV), ∃ (lvls : List (List Sm)), lvD lvls_1 = lvD
  lvls ∧ TreeOk kd (2 : Int) (0 : Int) vs lvls ∧ kd ≠ (0 : Int) ∧ lvls.length ≤ (64 : Nat) ∧ ((0 : Int) ≤ lk'_1 ∧ lk'_1 ≤ (4611686018427387904 : Int))
  ∧ in64 n ∧ in64 n_3 ∧ ∀ (v_2 : AV) (e_2 lk' : Int), ovL kd (2 : Int) (0 : Int) vs n n_3 v_2 e_2 → lk'_1 ≤ lk' → lk' ≤ lk'_1 + (2 : Int) *
  (↑lvls.length : Int) → ((bif bif e != (0 : Int) then true else e_1 != (0 : Int) then true else e_2 != (0 : Int)) = true → Q [R.d (D.v (Value.bool
  false))] []) ∧ ((bif bif e != (0 : Int) then true else e_1 != (0 : Int) then true else e_2 != (0 : Int)) = false → (v_1.3 = true → Q [R.d (D.v
  (Value.bool (v_2.1 == v.1 && (v_2.2 == v.2 && (v_2.3 == v.3 && (v_2.4 == v.4 && (v_2.5 == v.5 && true)))))))] []) ∧ (v_1.3 = false → ((kd == (3 :
  Int)) = true → Q [R.d (D.v (Value.bool (v_2.4 == if v_1.4 < v.4 then v_1.4 else v.4)))] []) ∧ ((kd == (3 : Int)) = false → ((kd == (4 : Int)) = true
  → Q [R.d (D.v (Value.bool (v_2.4 == if v_1.4 > v.4 then v_1.4 else v.4)))] []) ∧ ((kd == (4 : Int)) = false → Q [R.d (D.v (Value.bool (v_2.4 ==
  IntKind.i64.wrap (v.4 + v_1.4))))] []))))) ∧ ∃ (vs : List AV), ∃ (lvls : List (List Sm)), lvD lvls_1 = lvD lvls ∧ TreeOk kd (2 : Int) (0 : Int) vs
  lvls ∧ kd ≠ (0 : Int) ∧ lvls.length ≤ (64 : Nat) ∧ ((0 : Int) ≤ lk'_1 ∧ lk'_1 ≤ (4611686018427387904 : Int)) ∧ in64 n ∧ in64 n_3 ∧ ∀ (v_2 : AV) (e_2
  lk' : Int), ovL kd (2 : Int) (0 : Int) vs n n_3 v_2 e_2 → lk'_1 ≤ lk' → lk' ≤ lk'_1 + (2 : Int) * (↑lvls.length : Int) → ((bif bif e != (0 : Int)
  then true else e_1 != (0 : Int) then true else e_2 != (0 : Int)) = true → Q [R.d (D.v (Value.bool false))] []) ∧ ((bif bif e != (0 : Int) then true
  else e_1 != (0 : Int) then true else e_2 != (0 : Int)) = false → (v_1.3 = true → Q [R.d (D.v (Value.bool (v_2.1 == v.1 && (v_2.2 == v.2 && (v_2.3 ==
  v.3 && (v_2.4 == v.4 && (v_2.5 == v.5 && true)))))))] []) ∧ (v_1.3 = false → ((kd == (3 : Int)) = true → Q [R.d (D.v (Value.bool (v_2.4 == if v_1.4 <
  v.4 then v_1.4 else v.4)))] []) ∧ ((kd == (3 : Int)) = false → ((kd == (4 : Int)) = true → Q [R.d (D.v (Value.bool (v_2.4 == if v_1.4 > v.4 then
  v_1.4 else v.4)))] []) ∧ ((kd == (4 : Int)) = false → Q [R.d (D.v (Value.bool (v_2.4 == IntKind.i64.wrap (v.4 + v_1.4))))] []))))) ∧ ∃ (vs : List
  AV), ∃ (lvls_1 : List (List Sm)), lvD lvls = lvD lvls_1 ∧ TreeOk kd (2 : Int) (0 : Int) vs lvls_1 ∧ kd ≠ (0 : Int) ∧ lvls_1.length ≤ (64 : Nat) ∧ ((0
  : Int) ≤ lk' ∧ lk' ≤ (4611686018427387904 : Int)) ∧ in64 (IntKind.i64.wrap (n + (1 : Int))) ∧ in64 n_2 ∧ ∀ (v_1 : AV) (e_1 lk'_1 : Int), ovL kd (2 :
  Int) (0 : Int) vs (IntKind.i64.wrap (n + (1 : Int))) n_2 v_1 e_1 → lk' ≤ lk'_1 → lk'_1 ≤ lk' + (2 : Int) * (↑lvls_1.length : Int) → ((0 : Int) ≤ (0 :
  Int) ∧ (0 : Int) < (↑((3 : Nat)) : Int)) ∧ (1 : Nat) = (1 : Nat) ∧ ∃ (cells : List D), [[D.v (Value.int IntKind.i64 x.4)], [D.v (Value.int
  IntKind.i64 x.5)], [D.v (Value.int IntKind.i64 x.6)]][Int.toNat (0 : Int)]? = some cells ∧ ∃ (n : Int), cut ((0 : Nat)) ((1 : Nat)) cells = some [D.v
  (Value.int IntKind.i64 n)] ∧ ((0 : Int) ≤ (2 : Int) ∧ (2 : Int) < (↑((3 : Nat)) : Int)) ∧ (1 : Nat) = (1 : Nat) ∧ ∃ (cells : List D), [[D.v
  (Value.int IntKind.i64 x.4)], [D.v (Value.int IntKind.i64 x.5)], [D.v (Value.int IntKind.i64 x.6)]][Int.toNat (2 : Int)]? = some cells ∧ ∃ (n_3 :
  Int), cut ((0 : Nat)) ((1 : Nat)) cells = some [D.v (Value.int IntKind.i64 n_3)] ∧ (∃ (vs : List AV), ∃ (lvls : List (List Sm)), lvD lvls_1 = lvD
  lvls ∧ TreeOk kd (2 : Int) (0 : Int) vs lvls ∧ kd ≠ (0 : Int) ∧ lvls.length ≤ (64 : Nat) ∧ ((0 : Int) ≤ lk'_1 ∧ lk'_1 ≤ (4611686018427387904 : Int))
  ∧ in64 n ∧ in64 n_3 ∧ ∀ (v_2 : AV) (e_2 lk' : Int), ovL kd (2 : Int) (0 : Int) vs n n_3 v_2 e_2 → lk'_1 ≤ lk' → lk' ≤ lk'_1 + (2 : Int) *
  (↑lvls.length : Int) → ((bif bif e != (0 : Int) then true else e_1 != (0 : Int) then true else e_2 != (0 : Int)) = true → Q [R.d (D.v (Value.bool
  false))] []) ∧ ((bif bif e != (0 : Int) then true else e_1 != (0 : Int) then true else e_2 != (0 : Int)) = false → (v_1.3 = true → Q [R.d (D.v
  (Value.bool (v_2.1 == v.1 && (v_2.2 == v.2 && (v_2.3 == v.3 && (v_2.4 == v.4 && (v_2.5 == v.5 && true)))))))] []) ∧ (v_1.3 = false → ((kd == (3 :
  Int)) = true → Q [R.d (D.v (Value.bool (v_2.4 == if v_1.4 < v.4 then v_1.4 else v.4)))] []) ∧ ((kd == (3 : Int)) = false → ((kd == (4 : Int)) = true
  → Q [R.d (D.v (Value.bool (v_2.4 == if v_1.4 > v.4 then v_1.4 else v.4)))] []) ∧ ((kd == (4 : Int)) = false → Q [R.d (D.v (Value.bool (v_2.4 ==
  IntKind.i64.wrap (v.4 + v_1.4))))] []))))) ∧ ∃ (vs : List AV), ∃ (lvls : List (List Sm)), lvD lvls_1 = lvD lvls ∧ TreeOk kd (2 : Int) (0 : Int) vs
  lvls ∧ kd ≠ (0 : Int) ∧ lvls.length ≤ (64 : Nat) ∧ ((0 : Int) ≤ lk'_1 ∧ lk'_1 ≤ (4611686018427387904 : Int)) ∧ in64 n ∧ in64 n_3 ∧ ∀ (v_2 : AV) (e_2
  lk' : Int), ovL kd (2 : Int) (0 : Int) vs n n_3 v_2 e_2 → lk'_1 ≤ lk' → lk' ≤ lk'_1 + (2 : Int) * (↑lvls.length : Int) → ((bif bif e != (0 : Int)
  then true else e_1 != (0 : Int) then true else e_2 != (0 : Int)) = true → Q [R.d (D.v (Value.bool false))] []) ∧ ((bif bif e != (0 : Int) then true
  else e_1 != (0 : Int) then true else e_2 != (0 : Int)) = false → (v_1.3 = true → Q [R.d (D.v (Value.bool (v_2.1 == v.1 && (v_2.2 == v.2 && (v_2.3 ==
  v.3 && (v_2.4 == v.4 && (v_2.5 == v.5 && true)))))))] []) ∧ (v_1.3 = false → ((kd == (3 : Int)) = true → Q [R.d (D.v (Value.bool (v_2.4 == if v_1.4 <
  v.4 then v_1.4 else v.4)))] []) ∧ ((kd == (3 : Int)) = false → ((kd == (4 : Int)) = true → Q [R.d (D.v (Value.bool (v_2.4 == if v_1.4 > v.4 then
  v_1.4 else v.4)))] []) ∧ ((kd == (4 : Int)) = false → Q [R.d (D.v (Value.bool (v_2.4 == IntKind.i64.wrap (v.4 + v_1.4))))] [])))))) ∧ (decide
  (IntKind.i64.wrap ((3 : Int) - (0 : Int)) ≤ (12 : Int)) = false → (((↑x.2 : Int) == (0 : Int)) = true → False) ∧ (((↑x.2 : Int) == (0 : Int)) = false
  → ((!true) = true → False) ∧ ((!true) = false → False)))))) := by kernel_rfl
theorem E_4_ok : EnvOk prog E_4 := ⟨E_ok.te⟩
theorem it_4 : ItOk prog E_4 := fun _ _ _ h => h.elim
theorem I_43_ok (kd a b c : Int) (m : List Int) : IOk prog (I_43 kd a b c m) := ioK_inl E_4_ok C_4g_ok ioK_no it_4 mixed (FisOk.cons fisOk_nil (fn := f43) (by kernel_rfl) (by kernel_rfl) (by kernel_rfl) (by kernel_rfl))
theorem I_31_ok (kd a b c : Int) (m : List Int) : IOk prog (I_31 kd a b c m) := ioK_inl E_4_ok C_4g_ok (I_43_ok kd a b c m) it_4 mixed (FisOk.cons fisOk_nil (fn := f31) (by kernel_rfl) (by kernel_rfl) (by kernel_rfl) (by kernel_rfl))
theorem I_14_ok (kd a b c : Int) (m : List Int) : IOk prog (I_14 kd a b c m) := ioK_inl E_4_ok C_4g_ok (I_31_ok kd a b c m) it_4 mixed (FisOk.cons fisOk_nil (fn := f14) (by kernel_rfl) (by kernel_rfl) (by kernel_rfl) (by kernel_rfl))
theorem s49_lt (a b : Int) : s49_0 a b = decide (a < b) := by simp [s49_0, s64_0]
theorem wv_len (l : List Int) : (wv l).length = l.length := by simp [wv]
theorem take_iD (l : List Int) : List.drop 0 (List.take (min 200 l.length) (iD l)) = iD (l.take 200) := by
  unfold iD
  rw [List.drop_zero, ← List.map_take]
  congr 1
  rw [List.take_eq_take_iff]
  omega
theorem wv_next (m : List Int) (x : Nat) (hi : x < m.length) : List.map AV.cs (wv (List.take x m)) ++ [[.v (.int .i64 2), .v (.int .i64 0), .v (.bool false), .v (.int .i64 (aInt.shr .i64 m[x] 8)), .v (.string ⟨#[]⟩)]] = List.map AV.cs (wv (List.take (x + 1) m)) := by
  have e : aInt.shr .i64 m[x] 8 = m[x] / 256 := shr_eq .i64 m[x] 8 (by decide)
  rw [e, List.take_add_one, List.getElem?_eq_getElem hi]
  unfold wv
  rw [List.map_append, List.map_append]
  rfl
theorem wv_ints {m : List Int} (h : ∀ n ∈ m, in64 n) (hl : m.length ≤ 200) : Ints (wv m) := by
  refine ⟨fun v hv => ?_, by rw [wv_len]; exact hl⟩
  obtain ⟨n, hn, rfl⟩ := List.mem_map.1 hv
  have := h n hn
  unfold in64 at this
  refine ⟨rfl, ?_, ?_⟩
  · show -36028797018963968 ≤ n / 256
    omega
  · show n / 256 ≤ 36028797018963968
    omega
theorem first4 (kd a b c : Int) (l : List Int) (hl : ∀ n ∈ l, in64 n) (x n : Nat) (hx : inv_4 (l.take 200) n x) (hi : decide ((x : Int) < ((l.take 200).length : Int)) = true) : x < (l.take 200).length := by simpa using hi
theorem ct4 (kd : Int) (l : List Int) (a b c : Int) (hl : ∀ n ∈ l, in64 n) (ha : 0 ≤ a ∧ a ≤ 255) (hb : 0 ≤ b ∧ b ≤ 255) (hc : 0 ≤ c ∧ c ≤ 255) :
    Ct prog 4 [.d (.v (.int .i64 kd)), .d (.sl (iD l)), .d (.v (.int .u8 a)), .d (.v (.int .u8 b)), .d (.v (.int .u8 c))] (gives [.d (.v (.bool true))]) := by
  have hlen : (l.take 200).length ≤ 200 := by rw [List.length_take]; omega
  have hm64 : ∀ n ∈ l.take 200, in64 n := fun n hn => hl n (List.mem_of_mem_take hn)
  have hil : (iD l).length = l.length := by simp [iD]
  have hIm : ∀ x, List.take x (l.take 200) = l.take 200 → Ints (wv (List.take x (l.take 200))) := fun x hx => by rw [hx]; exact wv_ints hm64 hlen
  have hv64 : ∀ x, List.take x (l.take 200) = l.take 200 → ∀ v ∈ wv (List.take x (l.take 200)), in64 v.n := fun x hx v hv => by
    have := ((hIm x hx).all v hv).2
    exact ⟨by omega, by omega⟩
  have hmin : (if (200 : Int) < ((iD l).length : Int) then (200 : Int) else ((iD l).length : Int)) = ((min 200 l.length : Nat) : Int) := by
    rw [hil]; split <;> omega
  have hone : ∀ c ∈ iD l, c.length = 1 := by
    intro c hc
    obtain ⟨n, _, rfl⟩ := List.mem_map.1 hc
    rfl
  have hbody : ∀ (x n : Nat), inv_4 (l.take 200) n x → x < (l.take 200).length → (iD (l.take 200))[((x : Nat) : Int).toNat]? = some [.v (.int .i64 ((l.take 200).getD x 0))] := by
    intro x n _ hi
    simp only [Int.toNat_natCast]
    unfold iD
    rw [List.getElem?_map, List.getElem?_eq_getElem hi, List.getD_eq_getElem?_getD, List.getElem?_eq_getElem hi]
    rfl
  have hgd : ∀ (x : Nat) (hi : x < (l.take 200).length), (l.take 200).getD x 0 = (l.take 200)[x] := by
    intro x hi
    rw [List.getD_eq_getElem?_getD, List.getElem?_eq_getElem hi]; rfl
  have hend : ∀ x n : Nat, inv_4 (l.take 200) n x → decide ((x : Int) < ((l.take 200).length : Int)) = false → List.take x (l.take 200) = l.take 200 := by
    intro x n hx hi
    have hi : ¬ ((x : Int) < ((l.take 200).length : Int)) := by simpa using hi
    exact List.take_of_length_le (by omega)
  by_cases he : ntErr kd 2 0 (wv (l.take 200)) = 0
  · refine ct_of_vc E_4_ok C_4g_ok (I_14_ok kd a b c (l.take 200)) it_4 mixed (fn := f4) (body := f4.body.getD .skip) (by kernel_rfl) (by kernel_rfl) (by kernel_rfl) (fi := fx_4 kd a b c (l.take 200)) (by kernel_rfl) (by kernel_rfl) ⟨_, _, rfl, rfl⟩ ?_
    rw [vc4g]
    refine ⟨iD l, rfl, iD l, rfl, 0, min 200 l.length, rfl, by rw [hmin], Nat.zero_le _, by rw [hil]; omega, hone, iD (l.take 200), by rw [take_iD], (0 : Nat), ⟨?_, (l.take 200).length, Nat.zero_le _, rfl⟩, fun n (x : Nat) hx => ⟨fun hi => ?_, fun hi => ?_⟩⟩
    · rw [take_iD]
      simp [iD, wv]
    · have hi : x < (l.take 200).length := by simpa using hi
      have hw : IntKind.i64.wrap (((x : Nat) : Int) + 1) = ((x + 1 : Nat) : Int) := by rw [wrap_i64_of (by omega) (by omega)]; omega
      refine ⟨iD (l.take 200), rfl, ⟨by omega, by simp [iD]; simpa using hi⟩, _, hbody x n hx hi, rfl, _, rfl, by decide, by simp, rfl, rfl, ?_, (l.take 200).length - (x + 1), x + 1, ?_, ?_, ?_, ?_⟩
      · rw [List.length_map, wv_len, List.length_take]
        omega
      · have := hx.2; omega
      · rw [hgd x hi, hw, wv_next _ _ hi]
      · omega
      · rfl
    · have hx2 := hend x n hx hi
      have hN : ntErr kd 2 0 (wv (List.take x (l.take 200))) = 0 := by rw [hx2]; exact he
      have hI := hIm x hx2
      have hv := hv64 x hx2
      obtain ⟨hab, _, _⟩ := ntErr_ok hN
      have hkd : kd ≠ 0 := by rcases kd_of hab with h | h | h | h <;> omega
      have hI200 := hI.len
      refine ⟨(wv (List.take x (l.take 200))), rfl, by omega, hv, hN, fun lvls hT hll => ⟨fun _ => ⟨rfl, rfl⟩, fun hz => ?_⟩⟩
      have hnz : ((List.map AV.cs (wv (List.take x (l.take 200)))).length : Int) ≠ 0 := by simpa using hz
      have hnp : 0 < ((wv (List.take x (l.take 200))).length : Int) := by
        rw [List.length_map] at hnz
        omega
      have hu3 : IntKind.u64.wrap ((3 : Nat) : Int) = 3 := by kernel_rfl
      have qb : ∀ t : Int, 0 ≤ t ∧ t ≤ 255 → 0 ≤ (IntKind.i64.wrap t).tmod ((List.map AV.cs (wv (List.take x (l.take 200)))).length : Int) ∧ (IntKind.i64.wrap t).tmod ((List.map AV.cs (wv (List.take x (l.take 200)))).length : Int) < ((wv (List.take x (l.take 200))).length : Int) := by
        intro t ht
        rw [wrap_i64_of (by omega) (by omega), List.length_map]
        exact ⟨Int.tmod_nonneg _ ht.1, Int.tmod_lt_of_pos _ hnp⟩
      have hp0 := qb a ha
      have hq0 := qb b hb
      have hr0 := qb c hc
      generalize (IntKind.i64.wrap a).tmod ((List.map AV.cs (wv (List.take x (l.take 200)))).length : Int) = p0 at *
      generalize (IntKind.i64.wrap b).tmod ((List.map AV.cs (wv (List.take x (l.take 200)))).length : Int) = q0 at *
      generalize (IntKind.i64.wrap c).tmod ((List.map AV.cs (wv (List.take x (l.take 200)))).length : Int) = r0 at *
      have hB0 : inB ((wv (List.take x (l.take 200))).length : Int) ⟨x, 0, lvls, p0, q0, r0, 1, 0⟩ := ⟨hp0.1, hp0.2, hq0.1, hq0.2, hr0.1, hr0.2⟩
      refine ⟨hnz, hnz, hnz, ⟨by rw [hu3]; decide, by rw [hu3]; decide⟩, fun L hL hL2 => ⟨⟨x, L, lvls, p0, q0, r0, 0, 0⟩, ⟨rfl, 0, rfl⟩, fun n1 y hy => ?_⟩⟩
      subst hy
      refine ⟨fun _ => ⟨⟨x, L, lvls, p0, q0, r0, 1, 0⟩, ⟨rfl, 2, ⟨rfl, rfl, rfl, fun _ h => h, Int.le_refl (1 : Int), (by show (1 : Int) ≤ 3; decide), fun h => absurd (show (2 : Int) ≤ 1 from h) (by decide), fun h => absurd (show (3 : Int) ≤ 1 from h) (by decide), rfl⟩⟩, fun n2 y hy => ?_⟩, fun h => ?_⟩
      · obtain ⟨yx, yL, ylv, p, q, r, i, j⟩ := y
        obtain ⟨e1, e2, e3, hB, i1, i3, s1, s2, hn⟩ := hy
        dsimp only at e1 e2 e3 i1 i3 s1 s2 hn
        have e1 := e1.symm; have e2 := e2.symm; have e3 := e3.symm; subst e1; subst e2; subst e3
        have hBo := hB
        have hB := hB _ hB0
        obtain ⟨b1, b2, b3, b4, b5, b6⟩ := hB
        dsimp only at b1 b2 b3 b4 b5 b6
        refine ⟨fun hi3 => ?_, fun hi3 => ?_⟩
        · have hi3 : i < 3 := by simpa using hi3
          rcases (show i = 1 ∨ i = 2 by omega) with rfl | rfl
          · refine ⟨⟨x, L, lvls, p, q, r, 1, 1⟩, ⟨rfl, 1, rfl, rfl, rfl, fun _ h => h, rfl, (by show (0 : Int) ≤ 1; decide), Int.le_refl (1 : Int), rfl, .inl ⟨rfl, fun h => absurd (show (1 : Int) = 0 from h) (by decide)⟩⟩, fun n3 z hz => ?_⟩
            obtain ⟨zx, zL, zlv, p', q', r', zi, j⟩ := z
            obtain ⟨e1, e2, e3, hBi, e4, j0, j1, hn3, hcs⟩ := hz
            dsimp only at e1 e2 e3 e4 j0 j1 hn3 hcs
            have e1 := e1.symm; have e2 := e2.symm; have e3 := e3.symm; subst e1; subst e2; subst e3; subst e4
            refine ⟨fun hj => ?_, fun hj => ⟨fun h => (by cases h), fun _ => ?_⟩⟩
            · have hj : 0 < j := of_decide_eq_true hj
              obtain ⟨_, c1⟩ | ⟨h, _⟩ := hcs
              rotate_left
              · exact absurd h (by decide)
              have : j = 1 := by omega
              subst this
              dsimp only
              refine ⟨⟨by decide, by decide⟩, rfl, _, rfl, _, rfl, ⟨by decide, by decide⟩, rfl, _, rfl, _, rfl, fun hs => ?_, fun hs => ?_⟩
              · rw [s49_lt] at hs
                have hs := of_decide_eq_true hs
                refine ⟨⟨by decide, by decide⟩, rfl, _, rfl, _, rfl, ⟨by decide, by decide⟩, rfl, _, rfl, _, rfl, ⟨by decide, by decide⟩, rfl, _, rfl, _, rfl, ⟨by decide, by show _ < (3 : Int); decide⟩, rfl, _, rfl, _, rfl, 0, ⟨x, L, lvls, q', p', r', 1, 0⟩, by omega, rfl, rfl, rfl, rfl, fun B h => ?_, rfl, (by show (0 : Int) ≤ 0; decide), (by show (0 : Int) ≤ 1; decide), rfl, .inl ⟨rfl, fun _ => by dsimp only; omega⟩⟩
                obtain ⟨a1, a2, a3, a4, a5, a6⟩ := hBi B h
                exact ⟨a3, a4, a1, a2, a5, a6⟩
              · rw [s49_lt] at hs
                have hs := of_decide_eq_false hs
                exact ⟨1, ⟨x, L, lvls, p', q', r', 2, 0⟩, by omega, rfl, rfl, rfl, rfl, fun B h => hBi B (hBo B h), (by show (1 : Int) ≤ 2; decide), (by show (2 : Int) ≤ 3; decide), fun _ => by dsimp only; omega, fun h => absurd (show (3 : Int) ≤ 2 from h) (by decide), rfl⟩
            · have hj : ¬ 0 < j := by
                have h : decide (j > 0) = false := hj
                exact of_decide_eq_false h
              have : j = 0 := by omega
              subst this
              obtain ⟨_, c1⟩ | ⟨h, _⟩ := hcs
              rotate_left
              · exact absurd h (by decide)
              have c1 := c1 rfl
              exact ⟨1, ⟨x, L, lvls, p', q', r', 2, 0⟩, by omega, rfl, rfl, rfl, rfl, fun B h => hBi B (hBo B h), (by show (1 : Int) ≤ 2; decide), (by show (2 : Int) ≤ 3; decide), fun _ => c1, fun h => absurd (show (3 : Int) ≤ 2 from h) (by decide), rfl⟩
          · refine ⟨⟨x, L, lvls, p, q, r, 2, 2⟩, ⟨rfl, 2, rfl, rfl, rfl, fun _ h => h, rfl, (by show (0 : Int) ≤ 2; decide), Int.le_refl (2 : Int), rfl, .inr ⟨rfl, fun _ => s1 (by decide), fun h => absurd (show (2 : Int) = 1 from h) (by decide), fun h => absurd (show (2 : Int) = 0 from h) (by decide)⟩⟩, fun n3 z hz => ?_⟩
            obtain ⟨zx, zL, zlv, p', q', r', zi, j⟩ := z
            obtain ⟨e1, e2, e3, hBi, e4, j0, j1, hn3, hcs⟩ := hz
            dsimp only at e1 e2 e3 e4 j0 j1 hn3 hcs
            have e1 := e1.symm; have e2 := e2.symm; have e3 := e3.symm; subst e1; subst e2; subst e3; subst e4
            refine ⟨fun hj => ?_, fun hj => ⟨fun h => (by cases h), fun _ => ?_⟩⟩
            · have hj : 0 < j := of_decide_eq_true hj
              obtain ⟨h, _⟩ | ⟨_, c2, c1, c0⟩ := hcs
              · exact absurd h (by decide)
              rcases (show j = 1 ∨ j = 2 by omega) with rfl | rfl
              · have c1 := c1 rfl
                dsimp only
                refine ⟨⟨by decide, by decide⟩, rfl, _, rfl, _, rfl, ⟨by decide, by decide⟩, rfl, _, rfl, _, rfl, fun hs => ?_, fun hs => ?_⟩
                · rw [s49_lt] at hs
                  have hs := of_decide_eq_true hs
                  refine ⟨⟨by decide, by decide⟩, rfl, _, rfl, _, rfl, ⟨by decide, by decide⟩, rfl, _, rfl, _, rfl, ⟨by decide, by decide⟩, rfl, _, rfl, _, rfl, ⟨by decide, by show _ < (3 : Int); decide⟩, rfl, _, rfl, _, rfl, 0, ⟨x, L, lvls, q', p', r', 2, 0⟩, by omega, rfl, rfl, rfl, rfl, fun B h => ?_, rfl, (by show (0 : Int) ≤ 0; decide), (by show (0 : Int) ≤ 2; decide), rfl, .inr ⟨rfl, fun h => absurd (show (0 : Int) = 2 from h) (by decide), fun h => absurd (show (0 : Int) = 1 from h) (by decide), fun _ => ⟨by dsimp only; omega, by dsimp only; omega⟩⟩⟩
                  obtain ⟨a1, a2, a3, a4, a5, a6⟩ := hBi B h
                  exact ⟨a3, a4, a1, a2, a5, a6⟩
                · rw [s49_lt] at hs
                  have hs := of_decide_eq_false hs
                  exact ⟨0, ⟨x, L, lvls, p', q', r', 3, 0⟩, by omega, rfl, rfl, rfl, rfl, fun B h => hBi B (hBo B h), (by show (1 : Int) ≤ 3; decide), (by show (3 : Int) ≤ 3; decide), fun _ => by dsimp only; omega, fun h => by dsimp only; omega, rfl⟩
              · have c2 := c2 rfl
                dsimp only
                refine ⟨⟨by decide, by decide⟩, rfl, _, rfl, _, rfl, ⟨by decide, by decide⟩, rfl, _, rfl, _, rfl, fun hs => ?_, fun hs => ?_⟩
                · rw [s49_lt] at hs
                  have hs := of_decide_eq_true hs
                  refine ⟨⟨by decide, by decide⟩, rfl, _, rfl, _, rfl, ⟨by decide, by decide⟩, rfl, _, rfl, _, rfl, ⟨by decide, by decide⟩, rfl, _, rfl, _, rfl, ⟨by decide, by show _ < (3 : Int); decide⟩, rfl, _, rfl, _, rfl, 1, ⟨x, L, lvls, p', r', q', 2, 1⟩, by omega, rfl, rfl, rfl, rfl, fun B h => ?_, rfl, (by show (0 : Int) ≤ 1; decide), (by show (1 : Int) ≤ 2; decide), rfl, .inr ⟨rfl, fun h => absurd (show (1 : Int) = 2 from h) (by decide), fun _ => ⟨by dsimp only; omega, by dsimp only; omega⟩, fun h => absurd (show (1 : Int) = 0 from h) (by decide)⟩⟩
                  obtain ⟨a1, a2, a3, a4, a5, a6⟩ := hBi B h
                  exact ⟨a1, a2, a5, a6, a3, a4⟩
                · rw [s49_lt] at hs
                  have hs := of_decide_eq_false hs
                  exact ⟨0, ⟨x, L, lvls, p', q', r', 3, 0⟩, by omega, rfl, rfl, rfl, rfl, fun B h => hBi B (hBo B h), (by show (1 : Int) ≤ 3; decide), (by show (3 : Int) ≤ 3; decide), fun _ => by dsimp only; omega, fun h => by dsimp only; omega, rfl⟩
            · have hj : ¬ 0 < j := by
                have h : decide (j > 0) = false := hj
                exact of_decide_eq_false h
              have : j = 0 := by omega
              subst this
              obtain ⟨h, _⟩ | ⟨_, c2, c1, c0⟩ := hcs
              · exact absurd h (by decide)
              obtain ⟨c0, c0'⟩ := c0 rfl
              exact ⟨0, ⟨x, L, lvls, p', q', r', 3, 0⟩, by omega, rfl, rfl, rfl, rfl, fun B h => hBi B (hBo B h), (by show (1 : Int) ≤ 3; decide), (by show (3 : Int) ≤ 3; decide), fun _ => c0, fun _ => c0', rfl⟩
        · have hi3 : i = 3 := by
            have : ¬ i < 3 := by simpa using hi3
            omega
          subst hi3
          have s1 := s1 (by decide)
          have s2 := s2 (by decide)
          have hWl := hI.len
          have hwq : IntKind.i64.wrap (q + 1) = q + 1 := wrap_i64_of (by omega) (by omega)
          have i64 : ∀ t : Int, 0 ≤ t → t ≤ 200 → in64 t := fun t h1 h2 => ⟨by omega, by omega⟩
          have done : ∀ (v v1 v2 : AV) (e e1 e2 : Int), ovL kd 2 0 (wv (List.take x (l.take 200))) p q v e → ovL kd 2 0 (wv (List.take x (l.take 200))) (IntKind.i64.wrap (q + 1)) r v1 e1 → ovL kd 2 0 (wv (List.take x (l.take 200))) p r v2 e2 →
              ((bif bif e != 0 then true else e1 != 0 then true else e2 != 0) = true → gives [.d (.v (.bool true))] [R.d (D.v (Value.bool false))] []) ∧
              ((bif bif e != 0 then true else e1 != 0 then true else e2 != 0) = false →
                (v1.3 = true → gives [.d (.v (.bool true))] [R.d (D.v (Value.bool (v2.1 == v.1 && (v2.2 == v.2 && (v2.3 == v.3 && (v2.4 == v.4 && (v2.5 == v.5 && true)))))))] []) ∧
                (v1.3 = false → ((kd == 3) = true → gives [.d (.v (.bool true))] [R.d (D.v (Value.bool (v2.4 == if v1.4 < v.4 then v1.4 else v.4)))] []) ∧
                  ((kd == 3) = false → ((kd == 4) = true → gives [.d (.v (.bool true))] [R.d (D.v (Value.bool (v2.4 == if v1.4 > v.4 then v1.4 else v.4)))] []) ∧
                    ((kd == 4) = false → gives [.d (.v (.bool true))] [R.d (D.v (Value.bool (v2.4 == IntKind.i64.wrap (v.4 + v1.4))))] [])))) := by
            intro v v1 v2 e e1 e2 g g1 g2
            rw [hwq] at g1
            obtain ⟨⟨rfl, rfl, rfl⟩, j1, j2⟩ := joins hI hab b1 s1 s2 b6 g g1 g2
            refine ⟨fun h => (by cases h), fun _ => ⟨fun hn => ?_, fun hn => ⟨fun hk => ?_, fun hk => ⟨fun hk4 => ?_, fun hk4 => ?_⟩⟩⟩⟩
            · rw [j1 hn]
              refine ⟨?_, rfl⟩
              have : (v.1 == v.1 && (v.2 == v.2 && (v.3 == v.3 && (v.4 == v.4 && (v.5 == v.5 && true))))) = true := by simp [ba_beq]
              rw [this]
            · have h3 : v2.4 = _ := (j2 hn).1 (by simpa using hk)
              rw [h3]
              refine ⟨?_, rfl⟩
              simp
            · have h3 : v2.4 = _ := (j2 hn).2.1 (by simpa using hk4)
              rw [h3]
              refine ⟨?_, rfl⟩
              simp
            · have h3 : v2.4 = _ := (j2 hn).2.2 (by simpa using hk) (by simpa using hk4)
              rw [h3]
              refine ⟨?_, rfl⟩
              simp
          have hp64 := i64 p (by omega) (by omega)
          have hq64 := i64 q (by omega) (by omega)
          have hr64 := i64 r (by omega) (by omega)
          have hq1 : in64 (IntKind.i64.wrap (q + 1)) := by rw [hwq]; exact i64 _ (by omega) (by omega)
          refine ⟨⟨by decide, by decide⟩, rfl, _, rfl, _, rfl, ⟨by decide, by decide⟩, rfl, _, rfl, _, rfl, ?_, ?_⟩
          all_goals
            refine ⟨_, lvls, rfl, hT, hkd, by omega, ⟨by omega, by omega⟩, hp64, hq64, fun v e lk1 g m1 m2 => ⟨⟨by decide, by decide⟩, rfl, _, rfl, _, rfl, ⟨by decide, by decide⟩, rfl, _, rfl, _, rfl, ?_, ?_⟩⟩
            all_goals
              refine ⟨_, lvls, rfl, hT, hkd, by omega, ⟨by omega, by omega⟩, hq1, hr64, fun v1 e1 lk2 g1 m3 m4 => ⟨⟨by decide, by decide⟩, rfl, _, rfl, _, rfl, ⟨by decide, by decide⟩, rfl, _, rfl, _, rfl, ?_, ?_⟩⟩
              all_goals
                exact ⟨_, lvls, rfl, hT, hkd, by omega, ⟨by omega, by omega⟩, hp64, hr64, fun v2 e2 lk3 g2 _ _ => done v v1 v2 e e1 e2 g g1 g2⟩
      · have : decide (IntKind.i64.wrap (3 - 0) ≤ 12) = true := by kernel_rfl
        rw [this] at h; cases h
  · refine ct_of_vc E_4_ok C_4e_ok ioK_no it_4 mixed (fn := f4) (body := f4.body.getD .skip) (by kernel_rfl) (by kernel_rfl) (by kernel_rfl) (fi := fx_4 kd a b c (l.take 200)) (by kernel_rfl) (by kernel_rfl) ⟨_, _, rfl, rfl⟩ ?_
    rw [vc4e]
    refine ⟨iD l, rfl, iD l, rfl, 0, min 200 l.length, rfl, by rw [hmin], Nat.zero_le _, by rw [hil]; omega, hone, iD (l.take 200), by rw [take_iD], (0 : Nat), ⟨?_, (l.take 200).length, Nat.zero_le _, rfl⟩, fun n (x : Nat) hx => ⟨fun hi => ?_, fun hi => ?_⟩⟩
    · rw [take_iD]
      simp [iD, wv]
    · have hi : x < (l.take 200).length := by simpa using hi
      have hw : IntKind.i64.wrap (((x : Nat) : Int) + 1) = ((x + 1 : Nat) : Int) := by rw [wrap_i64_of (by omega) (by omega)]; omega
      refine ⟨iD (l.take 200), rfl, ⟨by omega, by simp [iD]; simpa using hi⟩, _, hbody x n hx hi, rfl, _, rfl, by decide, by simp, rfl, rfl, ?_, (l.take 200).length - (x + 1), x + 1, ?_, ?_, ?_, ?_⟩
      · rw [List.length_map, wv_len, List.length_take]
        omega
      · have := hx.2; omega
      · rw [hgd x hi, hw, wv_next _ _ hi]
      · omega
      · rfl
    · have hx2 := hend x n hx hi
      have hN : ntErr kd 2 0 (wv (List.take x (l.take 200))) ≠ 0 := by rw [hx2]; exact he
      have hI := hIm x hx2
      have hv := hv64 x hx2
      have hI200 := hI.len
      refine ⟨(wv (List.take x (l.take 200))), rfl, by omega, hv, hN, fun _ => ⟨rfl, rfl⟩, fun hz => ?_⟩
      exfalso
      have h3 : (ntErr kd 2 0 (wv (List.take x (l.take 200))) != 0) = true := by simpa using hN
      rw [h3] at hz
      cases hz
end Go.Proofs.Try