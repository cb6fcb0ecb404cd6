/- A part of the proof: contracts of functions, by a verified generator of conditions; no condition of its own. -/
import Derived.Test.YtlacgjmbabghaaaMt3
import Derived.Test.YtlacgjmbabghaaaCh
namespace Go.Proofs.Try
open Go Go.Dm
set_option maxRecDepth 100000
set_option maxHeartbeats 2000000
def c_it5 (f : Nat) (cps : List Cp) (K : List R → Prop) : Prop := match Nat.beq f 35, cps with
  | true, [.ptr [.sl es], .ptr [.v (.int .i64 n)]] => ∃ nn : Nat, n = Int.ofNat nn ∧ 1 ≤ nn ∧ es.length + nn ≤ 9223372036854775807 ∧ (∀ c ∈ es, c.length = 8) ∧ K (chunkL es nn)
  | _, _ => False
def E_5 : Env := { E_1 with inl := [20], it := c_it5 }
noncomputable def fis_5 : Fis := [(20, (2000, f20.ntmps, f20.body.getD .skip, f20.results.toList, fi20))]
noncomputable def I_5 : Nat → List V → List V → St → (V → St → Prop) → Prop := inl E_5 C_b12 noI fis_5
def st_5a (kd k sc : Int) (vs : List AV) (x : Int × List Sm) : St := {
  tm := [(6, .d (.v (.pointer none))), (7, .d (.v (.int .i64 0))), (8, .ref 8 0), (9, .own 50009), (51, .d (.sl (vs.map AV.cs))), (52, .d (.v (.int .i64 (vs.map AV.cs).length))), (53, .d (.v (.int .i64 x.1)))],
  hp := [(4, .box [.d (.v (.int .i64 k)), .d (.v (.int .i64 sc))]), (8, .box [.ref 50 0]), (50, .box [.d (.v (.int .i64 kd)), .d (.v (.int .i64 k)), .d (.v (.int .i64 sc)), .nil, .d (.v (.int .i64 0))]), (50009, .lst 61 8 (x.2.map Sm.cs))], kn := [], gd := [] }
def inv_5a (vs : List AV) (m : Nat) (x : Int × List Sm) : Prop := ∃ i : Nat, x.1 = i ∧ i ≤ vs.length ∧ x.2 = (vs.take i).map leaf ∧ m = vs.length - i
def st_5b (kd k sc : Int) (x : List Sm × List (List Sm)) : St := {
  tm := [(6, .d (.v (.pointer none))), (7, .d (.v (.int .i64 0))), (8, .ref 8 0), (9, .d (.sl (x.1.map Sm.cs)))],
  hp := [(4, .box [.d (.v (.int .i64 k)), .d (.v (.int .i64 sc))]), (8, .box [.ref 50 0]), (50, .box [.d (.v (.int .i64 kd)), .d (.v (.int .i64 k)), .d (.v (.int .i64 sc)), .own 72, .d (.v (.int .i64 0))]), (72, .lst 56 1 (lvD x.2))], kn := [], gd := [] }
def inv_5b (kd k sc : Int) (vs : List AV) (m : Nat) (x : List Sm × List (List Sm)) : Prop := TreeB kd k sc vs x.2 x.1 ∧ m = x.1.length
def st_5c (kd k sc : Int) (x : List Sm × List (List Sm) × List Sm) : St := {
  tm := [(6, .d (.v (.pointer none))), (7, .d (.v (.int .i64 0))), (8, .ref 8 0), (9, .d (.sl (x.1.map Sm.cs))), (13, .ref 13 0)],
  hp := [(4, .box [.d (.v (.int .i64 k)), .d (.v (.int .i64 sc))]), (8, .box [.ref 50 0]), (13, .box [.own 50013]), (50, .box [.d (.v (.int .i64 kd)), .d (.v (.int .i64 k)), .d (.v (.int .i64 sc)), .own 72, .d (.v (.int .i64 0))]), (72, .lst 56 1 (lvD x.2.1)), (50013, .lst 61 8 (x.2.2.map Sm.cs))], kn := [], gd := [] }
def inv_5c (kd : Int) (x0 : List Sm × List (List Sm) × List Sm) (i : Nat) (x : List Sm × List (List Sm) × List Sm) : Prop := x.1 = x0.1 ∧ x.2.1 = x0.2.1 ∧ x.2.2 = (List.range i).map (pr kd x0.1)
def fx_5 (kd k sc : Int) (vs : List AV) : Fi := { fi5 with
  lp := [(10, ([6, 7, 8, 9, 51, 52, 53], [11, 12, 62, 67, 68])), (18, ([6, 7, 8, 9], [13, 15, 79, 92, 95, 96, 103, 104])), (21, ([6, 7, 8, 9, 13], [15, 92, 95, 96]))],
  cv := [(10, [⟨none, 9, 50009, 61, 8⟩]), (18, [⟨none, 0, 50009, 0, 0⟩, ⟨none, 0, 50013, 0, 0⟩]), (21, [⟨some 13, 0, 50013, 61, 8⟩])],
  lx := [(10, { X := Int × List Sm, sh := st_5a kd k sc vs, P := fun _ => inv_5a vs }), (18, { X := List Sm × List (List Sm), sh := st_5b kd k sc, P := fun _ => inv_5b kd k sc vs }), (21, { X := List Sm × List (List Sm) × List Sm, sh := st_5c kd k sc, P := inv_5c kd, Y := List Sm, el := fun z => .d (.sl (z.map Sm.cs)) })] }
theorem vc5 (kd k sc : Int) (vs : List AV) (Q : List R → List (List D) → Prop) : vc E_5 C_b12 I_5 (fx_5 kd k sc vs) (f5.body.getD .skip) f5.results.toList [.d (.v (.int .i64 kd)), .agg [.v (.int .i64 k), .v (.int .i64 sc)], .d (.sl (vs.map AV.cs))] Q = (
  ((bif bif bif decide (kd < (1 : Int)) then true else decide (kd > (4 : Int)) then true else s15_0 k sc != (0 : Int) then true else bif bif kd == (2 :
  Int) then k != (2 : Int) else false then k != (3 : Int) else false) = true → Q [R.d (D.v (Value.pointer none)), R.d (D.v (Value.int IntKind.i64 (1 :
  Int)))] []) ∧ ((bif bif bif decide (kd < (1 : Int)) then true else decide (kd > (4 : Int)) then true else s15_0 k sc != (0 : Int) then true else bif
  bif kd == (2 : Int) then k != (2 : Int) else false then k != (3 : Int) else false) = false → ∃ vs_1, List.map AV.cs vs = List.map AV.cs vs_1 ∧
  vs_1.length < (4611686018427387904 : Nat) ∧ (vs_1.any (badV k sc) = true → Q [R.d (D.v (Value.pointer none)), R.d (D.v (Value.int IntKind.i64 (21 :
  Int)))] []) ∧ (vs_1.any (badV k sc) = false → ∃ es, D.sl (List.map AV.cs vs) = D.sl es ∧ (decide (↑es.length > (65536 : Int)) = true → Q [R.d (D.v
  (Value.pointer none)), R.d (D.v (Value.int IntKind.i64 (3 : Int)))] []) ∧ (decide (↑es.length > (65536 : Int)) = false → ∃ es, D.sl (List.map AV.cs
  vs) = D.sl es ∧ ∃ x0, ({ tm := [((6 : Nat), V.d (D.v (Value.pointer none))), ((7 : Nat), V.d (D.v (Value.int IntKind.i64 (0 : Int)))), ((8 : Nat), V.ref ((8 : Nat)) ((0 : Nat))), ((9 : Nat), V.own ((50009 : Nat))), ((51 : Nat), V.d (D.sl (List.map AV.cs vs))), ((52 : Nat), V.d (D.v (Value.int IntKind.i64 ↑es.length))), ((53 : Nat), V.d (D.v (Value.int IntKind.i64 (0 : Int))))], hp := [((4 : Nat), B.box [V.d (D.v (Value.int IntKind.i64 k)), V.d (D.v (Value.int IntKind.i64 sc))]), ((8 : Nat), B.box [V.ref ((50 : Nat)) ((0 : Nat))]), ((50 : Nat), B.box [V.d (D.v (Value.int IntKind.i64 kd)), V.d (D.v (Value.int IntKind.i64 k)), V.d (D.v (Value.int IntKind.i64 sc)), V.nil, V.d (D.v (Value.int IntKind.i64 (0 : Int)))]), ((50009 : Nat), B.lst ((61 : Nat)) ((8 : Nat)) [])], kn := [], gd := [] : St }
  = { tm := [((6 : Nat), V.d (D.v (Value.pointer none))), ((7 : Nat), V.d (D.v (Value.int IntKind.i64 (0 : Int)))), ((8 : Nat), V.ref ((8 : Nat)) ((0 : Nat))), ((9 : Nat), V.own ((50009 : Nat))), ((51 : Nat), V.d (D.sl (List.map AV.cs vs))), ((52 : Nat), V.d (D.v (Value.int IntKind.i64 ↑(List.map AV.cs vs).length))), ((53 : Nat), V.d (D.v (Value.int IntKind.i64 x0.1)))], hp := [((4 : Nat), B.box [V.d (D.v (Value.int IntKind.i64 k)), V.d (D.v (Value.int IntKind.i64 sc))]), ((8 : Nat), B.box [V.ref ((50 : Nat)) ((0 : Nat))]), ((50 : Nat), B.box [V.d (D.v (Value.int IntKind.i64 kd)), V.d (D.v (Value.int IntKind.i64 k)), V.d (D.v (Value.int IntKind.i64 sc)), V.nil, V.d (D.v (Value.int IntKind.i64 (0 : Int)))]), ((50009 : Nat), B.lst ((61 : Nat)) ((8 : Nat)) (List.map Sm.cs x0.2))], kn := [], gd := [] : St }
  ∧ ∃ n, inv_5a vs n x0) ∧ ∀ (n : Nat) (x : { X := Int × List Sm, sh := st_5a kd k sc vs, P := fun x => inv_5a vs : LX }.X), inv_5a vs n x → (decide
  (x.1 < ↑(List.map AV.cs vs).length) = true → ∃ es, D.sl (List.map AV.cs vs) = D.sl es ∧ ((0 : Int) ≤ x.1 ∧ x.1 < ↑es.length) ∧ ∃ cells,
  es[x.1.toNat]? = some cells ∧ cells.length = (5 : Nat) ∧ ∃ n_1 n_2 b n_3 b_1, cut ((0 : Nat)) ((5 : Nat)) cells = some [D.v (Value.int IntKind.i64
  n_1), D.v (Value.int IntKind.i64 n_2), D.v (Value.bool b), D.v (Value.int IntKind.i64 n_3), D.v (Value.string b_1)] ∧ ((!b) = true → in64 n_3 ∧ (∀ (c
  : List D), c ∈ [[D.v (Value.int IntKind.i64 (1 : Int)), D.v (Value.int IntKind.i64 (hiW n_3)), D.v (Value.int IntKind.u64 (loW n_3)), D.v (Value.int
  IntKind.i64 n_1), D.v (Value.int IntKind.i64 n_2), D.v (Value.bool b), D.v (Value.int IntKind.i64 n_3), D.v (Value.string b_1)]] → c.length = (8 :
  Nat)) ∧ (61 : Nat) = (61 : Nat) ∧ (8 : Nat) = (8 : Nat) ∧ ↑(List.map Sm.cs x.2).length.succ * ↑((72 : Nat)) ≤ (140737488355328 : Int) ∧ ∃ m x', m < n
  ∧ { tm := [((6 : Nat), V.d (D.v (Value.pointer none))), ((7 : Nat), V.d (D.v (Value.int IntKind.i64 (0 : Int)))), ((8 : Nat), V.ref ((8 : Nat)) ((0 : Nat))), ((9 : Nat), V.own ((50009 : Nat))), ((51 : Nat), V.d (D.sl (List.map AV.cs vs))), ((52 : Nat), V.d (D.v (Value.int IntKind.i64 ↑(List.map AV.cs vs).length))), ((53 : Nat), V.d (D.v (Value.int IntKind.i64 (IntKind.i64.wrap (x.1 + (1 : Int))))))], hp := [((4 : Nat), B.box [V.d (D.v (Value.int IntKind.i64 k)), V.d (D.v (Value.int IntKind.i64 sc))]), ((8 : Nat), B.box [V.ref ((50 : Nat)) ((0 : Nat))]), ((50 : Nat), B.box [V.d (D.v (Value.int IntKind.i64 kd)), V.d (D.v (Value.int IntKind.i64 k)), V.d (D.v (Value.int IntKind.i64 sc)), V.nil, V.d (D.v (Value.int IntKind.i64 (0 : Int)))]), ((50009 : Nat), B.lst ((61 : Nat)) ((8 : Nat)) (List.map Sm.cs x.2 ++ [[D.v (Value.int IntKind.i64 (1 : Int)), D.v (Value.int IntKind.i64 (hiW n_3)), D.v (Value.int IntKind.u64 (loW n_3)), D.v (Value.int IntKind.i64 n_1), D.v (Value.int IntKind.i64 n_2), D.v (Value.bool b), D.v (Value.int IntKind.i64 n_3), D.v (Value.string b_1)]]))], kn := [], gd := [] : St }
  = { tm := [((6 : Nat), V.d (D.v (Value.pointer none))), ((7 : Nat), V.d (D.v (Value.int IntKind.i64 (0 : Int)))), ((8 : Nat), V.ref ((8 : Nat)) ((0 : Nat))), ((9 : Nat), V.own ((50009 : Nat))), ((51 : Nat), V.d (D.sl (List.map AV.cs vs))), ((52 : Nat), V.d (D.v (Value.int IntKind.i64 ↑(List.map AV.cs vs).length))), ((53 : Nat), V.d (D.v (Value.int IntKind.i64 x'.1)))], hp := [((4 : Nat), B.box [V.d (D.v (Value.int IntKind.i64 k)), V.d (D.v (Value.int IntKind.i64 sc))]), ((8 : Nat), B.box [V.ref ((50 : Nat)) ((0 : Nat))]), ((50 : Nat), B.box [V.d (D.v (Value.int IntKind.i64 kd)), V.d (D.v (Value.int IntKind.i64 k)), V.d (D.v (Value.int IntKind.i64 sc)), V.nil, V.d (D.v (Value.int IntKind.i64 (0 : Int)))]), ((50009 : Nat), B.lst ((61 : Nat)) ((8 : Nat)) (List.map Sm.cs x'.2))], kn := [], gd := [] : St }
  ∧ inv_5a vs m x') ∧ ((!b) = false → (∀ (c : List D), c ∈ [[D.v (Value.int IntKind.i64 (0 : Int)), D.v (Value.int IntKind.i64 (0 : Int)), D.v
  (Value.int IntKind.u64 (0 : Int)), D.v (Value.int IntKind.i64 (0 : Int)), D.v (Value.int IntKind.i64 (0 : Int)), D.v (Value.bool false), D.v
  (Value.int IntKind.i64 (0 : Int)), D.v (Value.string { data := { toList := [] : Array UInt8 } : ByteArray })]] → c.length = (8 : Nat)) ∧ (61 : Nat) =
  (61 : Nat) ∧ (8 : Nat) = (8 : Nat) ∧ ↑(List.map Sm.cs x.2).length.succ * ↑((72 : Nat)) ≤ (140737488355328 : Int) ∧ ∃ m x', m < n ∧ { tm := [((6 : Nat), V.d (D.v (Value.pointer none))), ((7 : Nat), V.d (D.v (Value.int IntKind.i64 (0 : Int)))), ((8 : Nat), V.ref ((8 : Nat)) ((0 : Nat))), ((9 : Nat), V.own ((50009 : Nat))), ((51 : Nat), V.d (D.sl (List.map AV.cs vs))), ((52 : Nat), V.d (D.v (Value.int IntKind.i64 ↑(List.map AV.cs vs).length))), ((53 : Nat), V.d (D.v (Value.int IntKind.i64 (IntKind.i64.wrap (x.1 + (1 : Int))))))], hp := [((4 : Nat), B.box [V.d (D.v (Value.int IntKind.i64 k)), V.d (D.v (Value.int IntKind.i64 sc))]), ((8 : Nat), B.box [V.ref ((50 : Nat)) ((0 : Nat))]), ((50 : Nat), B.box [V.d (D.v (Value.int IntKind.i64 kd)), V.d (D.v (Value.int IntKind.i64 k)), V.d (D.v (Value.int IntKind.i64 sc)), V.nil, V.d (D.v (Value.int IntKind.i64 (0 : Int)))]), ((50009 : Nat), B.lst ((61 : Nat)) ((8 : Nat)) (List.map Sm.cs x.2 ++ [[D.v (Value.int IntKind.i64 (0 : Int)), D.v (Value.int IntKind.i64 (0 : Int)), D.v (Value.int IntKind.u64 (0 : Int)), D.v (Value.int IntKind.i64 (0 : Int)), D.v (Value.int IntKind.i64 (0 : Int)), D.v (Value.bool false), D.v (Value.int IntKind.i64 (0 : Int)), D.v (Value.string { data := { toList := [] : Array UInt8 } : ByteArray })]]))], kn := [], gd := [] : St }
  = { tm := [((6 : Nat), V.d (D.v (Value.pointer none))), ((7 : Nat), V.d (D.v (Value.int IntKind.i64 (0 : Int)))), ((8 : Nat), V.ref ((8 : Nat)) ((0 : Nat))), ((9 : Nat), V.own ((50009 : Nat))), ((51 : Nat), V.d (D.sl (List.map AV.cs vs))), ((52 : Nat), V.d (D.v (Value.int IntKind.i64 ↑(List.map AV.cs vs).length))), ((53 : Nat), V.d (D.v (Value.int IntKind.i64 x'.1)))], hp := [((4 : Nat), B.box [V.d (D.v (Value.int IntKind.i64 k)), V.d (D.v (Value.int IntKind.i64 sc))]), ((8 : Nat), B.box [V.ref ((50 : Nat)) ((0 : Nat))]), ((50 : Nat), B.box [V.d (D.v (Value.int IntKind.i64 kd)), V.d (D.v (Value.int IntKind.i64 k)), V.d (D.v (Value.int IntKind.i64 sc)), V.nil, V.d (D.v (Value.int IntKind.i64 (0 : Int)))]), ((50009 : Nat), B.lst ((61 : Nat)) ((8 : Nat)) (List.map Sm.cs x'.2))], kn := [], gd := [] : St }
  ∧ inv_5a vs m x')) ∧ (decide (x.1 < ↑(List.map AV.cs vs).length) = false → ∃ x0, ({ tm := [((6 : Nat), V.d (D.v (Value.pointer none))), ((7 : Nat), V.d (D.v (Value.int IntKind.i64 (0 : Int)))), ((8 : Nat), V.ref ((8 : Nat)) ((0 : Nat))), ((9 : Nat), V.d (D.sl (List.map Sm.cs x.2)))], hp := [((4 : Nat), B.box [V.d (D.v (Value.int IntKind.i64 k)), V.d (D.v (Value.int IntKind.i64 sc))]), ((8 : Nat), B.box [V.ref ((50 : Nat)) ((0 : Nat))]), ((50 : Nat), B.box [V.d (D.v (Value.int IntKind.i64 kd)), V.d (D.v (Value.int IntKind.i64 k)), V.d (D.v (Value.int IntKind.i64 sc)), V.own ((72 : Nat)), V.d (D.v (Value.int IntKind.i64 (0 : Int)))]), ((72 : Nat), B.lst ((56 : Nat)) ((1 : Nat)) [[D.sl (List.map Sm.cs x.2)]])], kn := [], gd := [] : St }
  = { tm := [((6 : Nat), V.d (D.v (Value.pointer none))), ((7 : Nat), V.d (D.v (Value.int IntKind.i64 (0 : Int)))), ((8 : Nat), V.ref ((8 : Nat)) ((0 : Nat))), ((9 : Nat), V.d (D.sl (List.map Sm.cs x0.1)))], hp := [((4 : Nat), B.box [V.d (D.v (Value.int IntKind.i64 k)), V.d (D.v (Value.int IntKind.i64 sc))]), ((8 : Nat), B.box [V.ref ((50 : Nat)) ((0 : Nat))]), ((50 : Nat), B.box [V.d (D.v (Value.int IntKind.i64 kd)), V.d (D.v (Value.int IntKind.i64 k)), V.d (D.v (Value.int IntKind.i64 sc)), V.own ((72 : Nat)), V.d (D.v (Value.int IntKind.i64 (0 : Int)))]), ((72 : Nat), B.lst ((56 : Nat)) ((1 : Nat)) (lvD x0.2))], kn := [], gd := [] : St }
  ∧ ∃ n, inv_5b kd k sc vs n x0) ∧ ∀ (n : Nat) (x : { X := List Sm × List (List Sm), sh := st_5b kd k sc, P := fun x => inv_5b kd k sc vs : LX }.X),
  inv_5b kd k sc vs n x → ∃ es, D.sl (List.map Sm.cs x.1) = D.sl es ∧ (decide (↑es.length > (1 : Int)) = true → (decide ((2 : Int) < (1 : Int)) = true
  → False) ∧ (decide ((2 : Int) < (1 : Int)) = false → ∃ nn, (2 : Int) = Int.ofNat nn ∧ (1 : Nat) ≤ nn ∧ (List.map Sm.cs x.1).length.add nn ≤
  (9223372036854775807 : Nat) ∧ (∀ (c : List D), c ∈ List.map Sm.cs x.1 → c.length = (8 : Nat)) ∧ ∃ x0, ({ tm := [((6 : Nat), V.d (D.v (Value.pointer none))), ((7 : Nat), V.d (D.v (Value.int IntKind.i64 (0 : Int)))), ((8 : Nat), V.ref ((8 : Nat)) ((0 : Nat))), ((9 : Nat), V.d (D.sl (List.map Sm.cs x.1))), ((13 : Nat), V.ref ((13 : Nat)) ((0 : Nat)))], hp := [((4 : Nat), B.box [V.d (D.v (Value.int IntKind.i64 k)), V.d (D.v (Value.int IntKind.i64 sc))]), ((8 : Nat), B.box [V.ref ((50 : Nat)) ((0 : Nat))]), ((13 : Nat), B.box [V.own ((50013 : Nat))]), ((50 : Nat), B.box [V.d (D.v (Value.int IntKind.i64 kd)), V.d (D.v (Value.int IntKind.i64 k)), V.d (D.v (Value.int IntKind.i64 sc)), V.own ((72 : Nat)), V.d (D.v (Value.int IntKind.i64 (0 : Int)))]), ((72 : Nat), B.lst ((56 : Nat)) ((1 : Nat)) (lvD x.2)), ((50013 : Nat), B.lst ((61 : Nat)) ((8 : Nat)) [])], kn := [], gd := [] : St }
  = { tm := [((6 : Nat), V.d (D.v (Value.pointer none))), ((7 : Nat), V.d (D.v (Value.int IntKind.i64 (0 : Int)))), ((8 : Nat), V.ref ((8 : Nat)) ((0 : Nat))), ((9 : Nat), V.d (D.sl (List.map Sm.cs x0.1))), ((13 : Nat), V.ref ((13 : Nat)) ((0 : Nat)))], hp := [((4 : Nat), B.box [V.d (D.v (Value.int IntKind.i64 k)), V.d (D.v (Value.int IntKind.i64 sc))]), ((8 : Nat), B.box [V.ref ((50 : Nat)) ((0 : Nat))]), ((13 : Nat), B.box [V.own ((50013 : Nat))]), ((50 : Nat), B.box [V.d (D.v (Value.int IntKind.i64 kd)), V.d (D.v (Value.int IntKind.i64 k)), V.d (D.v (Value.int IntKind.i64 sc)), V.own ((72 : Nat)), V.d (D.v (Value.int IntKind.i64 (0 : Int)))]), ((72 : Nat), B.lst ((56 : Nat)) ((1 : Nat)) (lvD x0.2.1)), ((50013 : Nat), B.lst ((61 : Nat)) ((8 : Nat)) (List.map Sm.cs x0.2.2))], kn := [], gd := [] : St }
  ∧ inv_5c kd x0 ((0 : Nat)) x0) ∧ (∀ (i : Nat) (y : R), (chunkL (List.map Sm.cs x.1) nn)[i]? = some y → ∃ z, y = R.d (D.sl (List.map Sm.cs z))) ∧ (∀
  (i : Nat) (z : { X := List Sm × List (List Sm) × List Sm, sh := st_5c kd k sc, P := inv_5c kd, Y := List Sm, el := fun z => R.d (D.sl (List.map Sm.cs z)) : LX }.Y)
  (x_1 : { X := List Sm × List (List Sm) × List Sm, sh := st_5c kd k sc, P := inv_5c kd, Y := List Sm, el := fun z => R.d (D.sl (List.map Sm.cs z)) : LX }.X),
  (chunkL (List.map Sm.cs x.1) nn)[i]? = some (R.d (D.sl (List.map Sm.cs z))) → inv_5c kd x0 i x_1 → ∃ es, D.sl (List.map Sm.cs z) = D.sl es ∧ ((0 :
  Int) ≤ (0 : Int) ∧ (0 : Int) < ↑es.length) ∧ ∃ cells, es[Int.toNat (0 : Int)]? = some cells ∧ cells.length = (8 : Nat) ∧ ∃ n n_1 n_2 n_3 n_4 b n_5
  b_1, cut ((0 : Nat)) ((8 : Nat)) cells = some [D.v (Value.int IntKind.i64 n), D.v (Value.int IntKind.i64 n_1), D.v (Value.int IntKind.u64 n_2), D.v
  (Value.int IntKind.i64 n_3), D.v (Value.int IntKind.i64 n_4), D.v (Value.bool b), D.v (Value.int IntKind.i64 n_5), D.v (Value.string b_1)] ∧ ∃ es,
  D.sl (List.map Sm.cs z) = D.sl es ∧ (decide (↑es.length > (1 : Int)) = true → ∃ es, D.sl (List.map Sm.cs z) = D.sl es ∧ ((0 : Int) ≤ (1 : Int) ∧ (1 :
  Int) < ↑es.length) ∧ ∃ cells, es[Int.toNat (1 : Int)]? = some cells ∧ cells.length = nat_lit 8 ∧ ∃ n_6 n_7 n_8 n_9 n_10 b_2 n_11 b_3, cut (nat_lit 0)
  (nat_lit 8) cells = some [D.v (Value.int IntKind.i64 n_6), D.v (Value.int IntKind.i64 n_7), D.v (Value.int IntKind.u64 n_8), D.v (Value.int
  IntKind.i64 n_9), D.v (Value.int IntKind.i64 n_10), D.v (Value.bool b_2), D.v (Value.int IntKind.i64 n_11), D.v (Value.string b_3)] ∧ ∃ a b_4, [D.v
  (Value.int IntKind.i64 n), D.v (Value.int IntKind.i64 n_1), D.v (Value.int IntKind.u64 n_2), D.v (Value.int IntKind.i64 n_3), D.v (Value.int
  IntKind.i64 n_4), D.v (Value.bool b), D.v (Value.int IntKind.i64 n_5), D.v (Value.string b_1)] = a.cs ∧ [D.v (Value.int IntKind.i64 n_6), D.v
  (Value.int IntKind.i64 n_7), D.v (Value.int IntKind.u64 n_8), D.v (Value.int IntKind.i64 n_9), D.v (Value.int IntKind.i64 n_10), D.v (Value.bool
  b_2), D.v (Value.int IntKind.i64 n_11), D.v (Value.string b_3)] = b_4.cs ∧ JOk a b_4 ∧ (∀ (c : List D), c ∈ [[D.v (Value.int IntKind.i64 (joinS kd a
  b_4).1), D.v (Value.int IntKind.i64 (hiW (joinS kd a b_4).2)), D.v (Value.int IntKind.u64 (loW (joinS kd a b_4).2)), D.v (Value.int IntKind.i64
  (joinS kd a b_4).3.1), D.v (Value.int IntKind.i64 (joinS kd a b_4).3.2), D.v (Value.bool (joinS kd a b_4).3.3), D.v (Value.int IntKind.i64 (joinS kd
  a b_4).3.4), D.v (Value.string (joinS kd a b_4).3.5)]] → c.length = nat_lit 8) ∧ nat_lit 61 = nat_lit 61 ∧ nat_lit 8 = nat_lit 8 ∧ ↑(List.map Sm.cs
  x_1.2.2).length.succ * ↑(nat_lit 72) ≤ (140737488355328 : Int) ∧ ∃ x', { tm := [(nat_lit 6, V.d (D.v (Value.pointer none))), (nat_lit 7, V.d (D.v (Value.int IntKind.i64 (0 : Int)))), (nat_lit 8, V.ref (nat_lit 8) (nat_lit 0)), (nat_lit 9, V.d (D.sl (List.map Sm.cs x_1.1))), (nat_lit 13, V.ref (nat_lit 13) (nat_lit 0))], hp := [(nat_lit 4, B.box [V.d (D.v (Value.int IntKind.i64 k)), V.d (D.v (Value.int IntKind.i64 sc))]), (nat_lit 8, B.box [V.ref (nat_lit 50) (nat_lit 0)]), (nat_lit 13, B.box [V.own (nat_lit 50013)]), (nat_lit 50, B.box [V.d (D.v (Value.int IntKind.i64 kd)), V.d (D.v (Value.int IntKind.i64 k)), V.d (D.v (Value.int IntKind.i64 sc)), V.own (nat_lit 72), V.d (D.v (Value.int IntKind.i64 (0 : Int)))]), (nat_lit 72, B.lst (nat_lit 56) (nat_lit 1) (lvD x_1.2.1)), (nat_lit 50013, B.lst (nat_lit 61) (nat_lit 8) (List.map Sm.cs x_1.2.2 ++ [[D.v (Value.int IntKind.i64 (joinS kd a b_4).1), D.v (Value.int IntKind.i64 (hiW (joinS kd a b_4).2)), D.v (Value.int IntKind.u64 (loW (joinS kd a b_4).2)), D.v (Value.int IntKind.i64 (joinS kd a b_4).3.1), D.v (Value.int IntKind.i64 (joinS kd a b_4).3.2), D.v (Value.bool (joinS kd a b_4).3.3), D.v (Value.int IntKind.i64 (joinS kd a b_4).3.4), D.v (Value.string (joinS kd a b_4).3.5)]]))], kn := [], gd := [] : St }
  = { tm := [(nat_lit 6, V.d (D.v (Value.pointer none))), (nat_lit 7, V.d (D.v (Value.int IntKind.i64 (0 : Int)))), (nat_lit 8, V.ref (nat_lit 8) (nat_lit 0)), (nat_lit 9, V.d (D.sl (List.map Sm.cs x'.1))), (nat_lit 13, V.ref (nat_lit 13) (nat_lit 0))], hp := [(nat_lit 4, B.box [V.d (D.v (Value.int IntKind.i64 k)), V.d (D.v (Value.int IntKind.i64 sc))]), (nat_lit 8, B.box [V.ref (nat_lit 50) (nat_lit 0)]), (nat_lit 13, B.box [V.own (nat_lit 50013)]), (nat_lit 50, B.box [V.d (D.v (Value.int IntKind.i64 kd)), V.d (D.v (Value.int IntKind.i64 k)), V.d (D.v (Value.int IntKind.i64 sc)), V.own (nat_lit 72), V.d (D.v (Value.int IntKind.i64 (0 : Int)))]), (nat_lit 72, B.lst (nat_lit 56) (nat_lit 1) (lvD x'.2.1)), (nat_lit 50013, B.lst (nat_lit 61) (nat_lit 8) (List.map Sm.cs x'.2.2))], kn := [], gd := [] : St }
  ∧ inv_5c kd x0 i.succ x') ∧ (decide (↑es.length > (1 : Int)) = false → (∀ (c : List D), c ∈ [[D.v (Value.int IntKind.i64 n), D.v (Value.int
  IntKind.i64 n_1), D.v (Value.int IntKind.u64 n_2), D.v (Value.int IntKind.i64 n_3), D.v (Value.int IntKind.i64 n_4), D.v (Value.bool b), D.v
  (Value.int IntKind.i64 n_5), D.v (Value.string b_1)]] → c.length = nat_lit 8) ∧ (61 : Nat) = nat_lit 61 ∧ nat_lit 8 = nat_lit 8 ∧ ↑(List.map Sm.cs
  x_1.2.2).length.succ * ↑(nat_lit 72) ≤ (140737488355328 : Int) ∧ ∃ x', { tm := [(nat_lit 6, V.d (D.v (Value.pointer none))), (nat_lit 7, V.d (D.v (Value.int IntKind.i64 (0 : Int)))), (nat_lit 8, V.ref (nat_lit 8) (nat_lit 0)), (nat_lit 9, V.d (D.sl (List.map Sm.cs x_1.1))), (nat_lit 13, V.ref (nat_lit 13) (nat_lit 0))], hp := [(nat_lit 4, B.box [V.d (D.v (Value.int IntKind.i64 k)), V.d (D.v (Value.int IntKind.i64 sc))]), (nat_lit 8, B.box [V.ref (nat_lit 50) (nat_lit 0)]), (nat_lit 13, B.box [V.own (nat_lit 50013)]), (nat_lit 50, B.box [V.d (D.v (Value.int IntKind.i64 kd)), V.d (D.v (Value.int IntKind.i64 k)), V.d (D.v (Value.int IntKind.i64 sc)), V.own (nat_lit 72), V.d (D.v (Value.int IntKind.i64 (0 : Int)))]), (nat_lit 72, B.lst (nat_lit 56) (nat_lit 1) (lvD x_1.2.1)), (nat_lit 50013, B.lst (nat_lit 61) (nat_lit 8) (List.map Sm.cs x_1.2.2 ++ [[D.v (Value.int IntKind.i64 n), D.v (Value.int IntKind.i64 n_1), D.v (Value.int IntKind.u64 n_2), D.v (Value.int IntKind.i64 n_3), D.v (Value.int IntKind.i64 n_4), D.v (Value.bool b), D.v (Value.int IntKind.i64 n_5), D.v (Value.string b_1)]]))], kn := [], gd := [] : St }
  = { tm := [(nat_lit 6, V.d (D.v (Value.pointer none))), (nat_lit 7, V.d (D.v (Value.int IntKind.i64 (0 : Int)))), (nat_lit 8, V.ref (nat_lit 8) (nat_lit 0)), (nat_lit 9, V.d (D.sl (List.map Sm.cs x'.1))), (nat_lit 13, V.ref (nat_lit 13) (nat_lit 0))], hp := [(nat_lit 4, B.box [V.d (D.v (Value.int IntKind.i64 k)), V.d (D.v (Value.int IntKind.i64 sc))]), (nat_lit 8, B.box [V.ref (nat_lit 50) (nat_lit 0)]), (nat_lit 13, B.box [V.own (nat_lit 50013)]), (nat_lit 50, B.box [V.d (D.v (Value.int IntKind.i64 kd)), V.d (D.v (Value.int IntKind.i64 k)), V.d (D.v (Value.int IntKind.i64 sc)), V.own (nat_lit 72), V.d (D.v (Value.int IntKind.i64 (0 : Int)))]), (nat_lit 72, B.lst (nat_lit 56) (nat_lit 1) (lvD x'.2.1)), (nat_lit 50013, B.lst (nat_lit 61) (nat_lit 8) (List.map Sm.cs x'.2.2))], kn := [], gd := [] : St }
  ∧ inv_5c kd x0 i.succ x')) ∧ ∀ (x_1 : { X := List Sm × List (List Sm) × List Sm, sh := st_5c kd k sc, P := inv_5c kd, Y := List Sm, el := fun z => R.d (D.sl (List.map Sm.cs z)) : LX }.X),
  inv_5c kd x0 (chunkL (List.map Sm.cs x.1) nn).length x_1 → (∀ (c : List D), c ∈ [[D.sl (List.map Sm.cs x_1.2.2)]] → c.length = (1 : Nat)) ∧ (56 :
  Nat) = (56 : Nat) ∧ (1 : Nat) = (1 : Nat) ∧ ↑(lvD x_1.2.1).length.succ * ↑((24 : Nat)) ≤ (140737488355328 : Int) ∧ ∃ m x', m < n ∧ { tm := [((6 : Nat), V.d (D.v (Value.pointer none))), ((7 : Nat), V.d (D.v (Value.int IntKind.i64 (0 : Int)))), ((8 : Nat), V.ref ((8 : Nat)) ((0 : Nat))), ((9 : Nat), V.d (D.sl (List.map Sm.cs x_1.2.2)))], hp := [((4 : Nat), B.box [V.d (D.v (Value.int IntKind.i64 k)), V.d (D.v (Value.int IntKind.i64 sc))]), ((8 : Nat), B.box [V.ref (nat_lit 50) (nat_lit 0)]), ((50 : Nat), B.box [V.d (D.v (Value.int IntKind.i64 kd)), V.d (D.v (Value.int IntKind.i64 k)), V.d (D.v (Value.int IntKind.i64 sc)), V.own (nat_lit 72), V.d (D.v (Value.int IntKind.i64 (0 : Int)))]), ((72 : Nat), B.lst ((56 : Nat)) ((1 : Nat)) (lvD x_1.2.1 ++ [[D.sl (List.map Sm.cs x_1.2.2)]]))], kn := [], gd := [] : St }
  = { tm := [((6 : Nat), V.d (D.v (Value.pointer none))), ((7 : Nat), V.d (D.v (Value.int IntKind.i64 (0 : Int)))), ((8 : Nat), V.ref ((8 : Nat)) ((0 : Nat))), ((9 : Nat), V.d (D.sl (List.map Sm.cs x'.1)))], hp := [((4 : Nat), B.box [V.d (D.v (Value.int IntKind.i64 k)), V.d (D.v (Value.int IntKind.i64 sc))]), ((8 : Nat), B.box [V.ref (nat_lit 50) (nat_lit 0)]), ((50 : Nat), B.box [V.d (D.v (Value.int IntKind.i64 kd)), V.d (D.v (Value.int IntKind.i64 k)), V.d (D.v (Value.int IntKind.i64 sc)), V.own (nat_lit 72), V.d (D.v (Value.int IntKind.i64 (0 : Int)))]), ((72 : Nat), B.lst ((56 : Nat)) ((1 : Nat)) (lvD x'.2))], kn := [], gd := [] : St }
  ∧ inv_5b kd k sc vs m x')) ∧ (decide (↑es.length > (1 : Int)) = false → Q [R.box [D.v (Value.int IntKind.i64 kd), D.v (Value.int IntKind.i64 k), D.v
  (Value.int IntKind.i64 sc), D.sl (lvD x.2), D.v (Value.int IntKind.i64 (0 : Int))], R.d (D.v (Value.int IntKind.i64 (0 : Int)))] [])))))) := by kernel_rfl
theorem E_5_ok : EnvOk prog E_5 := ⟨E_ok.te⟩
theorem c_it5_ok (f : Nat) (cps : List Cp) (K : List R → Prop) (h : c_it5 f cps K) : ∃ xs, Its prog f cps xs ∧ K xs := by
  unfold c_it5 at h
  split at h
  · rename_i es n hf
    obtain ⟨nn, rfl, h1, h2, h3, h4⟩ := h
    have := Nat.eq_of_beq_eq_true hf
    subst this
    exact ⟨_, its35 es nn h1 h2 h3, h4⟩
  · exact h.elim
theorem it_5 : ItOk prog E_5 := fun f cps K h => c_it5_ok f cps K h
theorem fis_5_ok : FisOk prog fis_5 := FisOk.cons fisOk_nil (fn := f20) (by kernel_rfl) (by kernel_rfl) (by kernel_rfl) (by kernel_rfl)
theorem I_5_ok : IOk prog I_5 := ioK_inl E_5_ok C_b12_ok ioK_no it_5 mixed fis_5_ok
/-- Arguments of which no tree is made. -/
def argBad (kd k sc : Int) : Bool := bif bif bif decide (kd < 1) then true else decide (kd > 4) then true else s15_0 k sc != 0 then true else bif bif kd == 2 then k != 2 else false then k != 3 else false
/-- What NewTree tells. -/
def ntQ (kd k sc : Int) (vs : List AV) (res : List R) (fin : List (List D)) : Prop := fin = [] ∧
  ((argBad kd k sc = true ∧ res = [.d (.v (.pointer none)), .d (.v (.int .i64 1))]) ∨
   (argBad kd k sc = false ∧ vs.any (badV k sc) = true ∧ res = [.d (.v (.pointer none)), .d (.v (.int .i64 21))]) ∨
   (argBad kd k sc = false ∧ vs.any (badV k sc) = false ∧ 65536 < vs.length ∧ res = [.d (.v (.pointer none)), .d (.v (.int .i64 3))]) ∨
   (argBad kd k sc = false ∧ vs.any (badV k sc) = false ∧ vs.length ≤ 65536 ∧ ∃ lvls, TreeOk kd k sc vs lvls ∧ lvls.length ≤ 18 ∧ res = [.box [.v (.int .i64 kd), .v (.int .i64 k), .v (.int .i64 sc), .sl (lvD lvls), .v (.int .i64 0)], .d (.v (.int .i64 0))]))
theorem vq5 (kd k sc : Int) (vs : List AV) (hl : vs.length < 4611686018427387904) (hin : ∀ v ∈ vs, in64 v.n) :
    Pf (vc E_5 C_b12 I_5 (fx_5 kd k sc vs) (f5.body.getD .skip) f5.results.toList [.d (.v (.int .i64 kd)), .agg [.v (.int .i64 k), .v (.int .i64 sc)], .d (.sl (vs.map AV.cs))] (ntQ kd k sc vs)) := by
    refine ⟨?_⟩
    rw [vc5]
    refine ⟨fun h => ⟨rfl, .inl ⟨h, rfl⟩⟩, fun hb => ⟨vs, rfl, hl, fun h => ⟨rfl, .inr (.inl ⟨hb, h, rfl⟩)⟩, fun ha => ⟨_, rfl, fun h => ?_, fun h => ⟨_, rfl, (0, []), ⟨rfl, vs.length, 0, rfl, by omega, by simp, rfl⟩, ?_⟩⟩⟩⟩
    · have h : 65536 < vs.length := by
        have h : (65536 : Int) < (vs.length : Int) := by simpa using h
        omega
      exact ⟨rfl, .inr (.inr (.inl ⟨hb, ha, h, rfl⟩))⟩
    have hn : vs.length ≤ 65536 := by
      have h : (vs.length : Int) ≤ (65536 : Int) := by simpa using h
      omega
    have hg := any_good hin ha
    rintro m ⟨i', ls⟩ ⟨i, a1, a2, a3, a4⟩
    dsimp only at a1 a3 ⊢
    subst a1; subst a3
    refine ⟨fun hi => ?_, fun hi => ?_⟩
    · have hi : i < vs.length := by simpa using hi
      have hgt : (vs.map AV.cs)[(i : Int).toNat]? = some (vs[i]).cs := by simp [hi]
      have hle : (((vs.take i).map leaf).map Sm.cs).length = i := by simp; omega
      refine ⟨_, rfl, ⟨by omega, by simpa using hi⟩, _, hgt, rfl, _, _, _, _, _, rfl, fun hz => ?_, fun hz => ?_⟩
      · have hz : (vs[i]).nul = false := by simpa using hz
        refine ⟨hin _ (List.getElem_mem hi), by simp, rfl, rfl, by rw [hle]; push_cast; omega, vs.length - (i + 1), (((i + 1 : Nat) : Int), (vs.take (i + 1)).map leaf), by omega, ?_, i + 1, rfl, hi, rfl, rfl⟩
        have e1 : (vs.take (i + 1)).map leaf = (vs.take i).map leaf ++ [leaf vs[i]] := by rw [List.take_add_one, List.getElem?_eq_getElem hi, Option.toList_some, List.map_append]; rfl
        have e2 : leaf vs[i] = ⟨1, (vs[i]).n, vs[i]⟩ := by simp [leaf, hz]
        rw [wrap_i64_of (n := (i : Int) + 1) (by omega) (by omega), e1, e2]
        simp only [st_5a, List.map_append, List.map_cons, List.map_nil]
        rfl
      · have hz : (vs[i]).nul = true := by simpa using hz
        refine ⟨by simp, rfl, rfl, by rw [hle]; push_cast; omega, vs.length - (i + 1), (((i + 1 : Nat) : Int), (vs.take (i + 1)).map leaf), by omega, ?_, i + 1, rfl, hi, rfl, rfl⟩
        have e1 : (vs.take (i + 1)).map leaf = (vs.take i).map leaf ++ [leaf vs[i]] := by rw [List.take_add_one, List.getElem?_eq_getElem hi, Option.toList_some, List.map_append]; rfl
        have e2 : leaf vs[i] = ⟨0, 0, zeroV⟩ := by simp [leaf, hz]
        rw [wrap_i64_of (n := (i : Int) + 1) (by omega) (by omega), e1, e2]
        simp only [st_5a, List.map_append, List.map_cons, List.map_nil]
        rfl
    · have hi : ¬ i < vs.length := by simpa using hi
      rw [List.take_of_length_le (by omega)]
      refine ⟨(vs.map leaf, [vs.map leaf]), ⟨rfl, _, treeB_zero hn hg, rfl⟩, ?_⟩
      rintro n ⟨lv, lvls⟩ ⟨hT, hm⟩
      dsimp only at hT hm ⊢
      have hlvn : lv.length ≤ 65536 := by
        rcases hT.pow _ _ hT.last with h | h
        · have : lv.length - 1 ≤ (lv.length - 1) * 2 ^ (lvls.length - 1) := Nat.le_mul_of_pos_right _ (Nat.two_pow_pos _)
          omega
        · omega
      refine ⟨_, rfl, fun h1 => ⟨fun h => absurd h (by decide), fun _ => ⟨2, rfl, by decide, ?_, ?_, (lv, lvls, []), ⟨rfl, rfl, rfl, rfl⟩, ?_, ?_, ?_⟩⟩, fun h1 => ?_⟩
      · simp only [List.length_map]; show lv.length + 2 ≤ _; omega
      · intro c hc; simp at hc; obtain ⟨a, _, rfl⟩ := hc; rfl
      · intro i y hy
        simp only [chunkL, List.getElem?_map] at hy
        cases hr : (List.range (((lv.map Sm.cs).length + 2 - 1) / 2))[i]? with
        | none => rw [hr] at hy; cases hy
        | some p =>
          rw [hr] at hy
          simp only [Option.map_some, Option.some.injEq] at hy
          exact ⟨(lv.drop (p * 2)).take 2, by rw [← hy, List.map_take, List.map_drop]⟩
      · rintro i z ⟨l1, lv1, ups⟩ hz ⟨b1, b2, b3⟩
        dsimp only at b1 b2 b3 hz ⊢
        subst b1; subst b2; subst b3
        obtain ⟨hi, hzz⟩ : i < (l1.length + 1) / 2 ∧ z.map Sm.cs = ((l1.drop (i * 2)).take 2).map Sm.cs := by
          simp only [chunkL, List.getElem?_map] at hz
          cases hr : (List.range (((l1.map Sm.cs).length + 2 - 1) / 2))[i]? with
          | none => rw [hr] at hz; cases hz
          | some p =>
            rw [hr] at hz
            obtain ⟨e1, e2⟩ := List.getElem?_eq_some_iff.1 hr
            simp only [List.getElem_range] at e2
            subst e2
            simp only [Option.map_some, Option.some.injEq, R.d.injEq, D.sl.injEq] at hz
            simp only [List.length_range, List.length_map] at e1
            exact ⟨e1, by rw [← hz, List.map_take, List.map_drop]⟩
        rw [hzz]
        have hul : (((List.range i).map (pr kd l1)).map Sm.cs).length = i := by simp
        have ha : l1[i * 2]? = some l1[i * 2] := List.getElem?_eq_getElem (by omega)
        have hup : (List.range (i + 1)).map (pr kd l1) = (List.range i).map (pr kd l1) ++ [pr kd l1 i] := by rw [List.range_succ, List.map_append]; rfl
        by_cases hb2 : i * 2 + 1 < l1.length
        · have hb' : l1[i * 2 + 1]? = some l1[i * 2 + 1] := List.getElem?_eq_getElem hb2
          have e : (l1.drop (i * 2)).take 2 = [l1[i * 2], l1[i * 2 + 1]] := by
            rw [List.drop_eq_getElem_cons (by omega), List.drop_eq_getElem_cons (by omega)]; rfl
          rw [e]
          have hpr : pr kd l1 i = joinS kd l1[i * 2] l1[i * 2 + 1] := by simp only [pr, ha, hb']
          refine ⟨_, rfl, ⟨by decide, by simp⟩, (l1[i * 2]).cs, rfl, rfl, _, _, _, _, _, _, _, _, rfl, _, rfl, fun _ => ⟨_, rfl, ⟨by decide, by simp⟩, (l1[i * 2 + 1]).cs, rfl, rfl, _, _, _, _, _, _, _, _, rfl, l1[i * 2], l1[i * 2 + 1], rfl, rfl, hT.pr_jok ha hb', by simp, rfl, rfl, by rw [hul]; push_cast; omega, (l1, lv1, (List.range i).map (pr kd l1) ++ [joinS kd l1[i * 2] l1[i * 2 + 1]]), ?_, rfl, rfl, ?_⟩, fun h => absurd h (by simp)⟩
          · simp only [st_5c, List.map_append, List.map_cons, List.map_nil]
          · show _ = (List.range (i + 1)).map (pr kd l1)
            rw [hup, hpr]
        · have hb' : l1[i * 2 + 1]? = none := List.getElem?_eq_none (by omega)
          have e : (l1.drop (i * 2)).take 2 = [l1[i * 2]] := by
            rw [List.drop_eq_getElem_cons (by omega), List.drop_eq_nil_of_le (by omega)]; rfl
          rw [e]
          have hpr : pr kd l1 i = l1[i * 2] := by simp only [pr, ha, hb']
          refine ⟨_, rfl, ⟨by decide, by simp⟩, (l1[i * 2]).cs, rfl, rfl, _, _, _, _, _, _, _, _, rfl, _, rfl, fun h => absurd h (by simp), fun _ => ⟨by simp, rfl, rfl, by rw [hul]; push_cast; omega, (l1, lv1, (List.range i).map (pr kd l1) ++ [l1[i * 2]]), ?_, rfl, rfl, ?_⟩⟩
          · simp only [st_5c, List.map_append, List.map_cons, List.map_nil]
          · show _ = (List.range (i + 1)).map (pr kd l1)
            rw [hup, hpr]
      · rintro ⟨l1, lv1, ups⟩ ⟨b1, b2, b3⟩
        dsimp only at b1 b2 b3 ⊢
        subst b1; subst b2; subst b3
        have hlen : (chunkL (l1.map Sm.cs) 2).length = (l1.length + 1) / 2 := by simp [chunkL]
        have h2 : 2 ≤ l1.length := by
          have h1 : (1 : Int) < (l1.length : Int) := by simpa using h1
          omega
        have hlv : (lvD lv1).length ≤ 18 := by simpa [lvD] using hT.small
        rw [hlen]
        refine ⟨by simp, rfl, rfl, by push_cast; omega, (l1.length + 1) / 2, ((List.range ((l1.length + 1) / 2)).map (pr kd l1), lv1 ++ [(List.range ((l1.length + 1) / 2)).map (pr kd l1)]), by omega, ?_, hT.push h2, by simp⟩
        simp only [st_5b, lvD, List.map_append, List.map_cons, List.map_nil]
      · have h1 : lv.length ≤ 1 := by
          have h1 : (lv.length : Int) ≤ (1 : Int) := by simpa using h1
          omega
        exact ⟨rfl, .inr (.inr (.inr ⟨hb, ha, hn, lvls, hT.done h1, hT.small, rfl⟩))⟩
end Go.Proofs.Try
