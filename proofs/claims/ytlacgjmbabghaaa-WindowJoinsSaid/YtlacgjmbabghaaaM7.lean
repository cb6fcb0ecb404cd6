/- A part of the proof: contracts of functions, by a verified generator of conditions; no condition of its own. -/
import Derived.Test.YtlacgjmbabghaaaMt2
namespace Go.Proofs.Try
open Go Go.Dm
set_option maxRecDepth 100000
def lvD (l : List (List Sm)) : List (List D) := l.map fun x => [.sl (x.map Sm.cs)]
def E_2 : Env := { E_1 with inl := [26] }
noncomputable def fis_2 : Fis := [(26, (1000, f26.ntmps, f26.body.getD .skip, f26.results.toList, fi26))]
noncomputable def I_2 : Nat → List V → List V → St → (V → St → Prop) → Prop := inl E_2 C_b8 noI fis_2
def st_9 (kd k sc : Int) (lv : List (List D)) (x : OX) : St := {
  tm := [(1, .d (.v (.int .i64 x.fr))), (2, .d (.v (.int .i64 x.to))), (3, .ref 3 0), (6, .ref 6 0), (7, .d (.v (.int .i64 0))), (8, .ref 8 0), (9, .fn 26 [.ref 3 0, .ref 8 0]), (10, .d (.v (.int .i64 x.lev)))],
  hp := [(3, .box [.ref 100000 0]), (6, .box [.d (.v (.int .i64 0)), .d (.v (.int .i64 0)), .d (.v (.bool false)), .d (.v (.int .i64 0)), .d (.v (.string ⟨#[]⟩))]),
    (8, .box [.d (.v (.int .i64 x.s.c)), .d (.v (.int .i64 (hiW x.s.t))), .d (.v (.int .u64 (loW x.s.t))), .d (.v (.int .i64 x.s.b.k)), .d (.v (.int .i64 x.s.b.sc)), .d (.v (.bool x.s.b.nul)), .d (.v (.int .i64 x.s.b.n)), .d (.v (.string x.s.b.s))]),
    (100000, .box [.d (.v (.int .i64 kd)), .d (.v (.int .i64 k)), .d (.v (.int .i64 sc)), .d (.sl lv), .d (.v (.int .i64 x.lk))])], kn := [], gd := [] }
def inv_9 (kd k sc : Int) (vs : List AV) (lvls : List (List Sm)) (fr to lk : Int) (m : Nat) (x : OX) : Prop := InvO kd k sc vs lvls fr.toNat (to + 1).toNat lk 0 x ∧ m = (x.to - x.fr + 1).toNat
def fx_9 (kd k sc : Int) (vs : List AV) (lvls : List (List Sm)) (fr to lk : Int) : Fi := { fi9 with lx := [(8, { X := OX, sh := st_9 kd k sc (lvD lvls), P := fun _ => inv_9 kd k sc vs lvls fr to lk })] }
theorem vc9 (kd k sc : Int) (vs : List AV) (lvls : List (List Sm)) (lk fr to : Int) (Q : List R → List (List D) → Prop) : vc E_2 C_b8 I_2 (fx_9 kd k sc vs lvls fr to lk) (f9.body.getD .skip) f9.results.toList [.box [.v (.int .i64 kd), .v (.int .i64 k), .v (.int .i64 sc), .sl (lvD lvls), .v (.int .i64 lk)], .d (.v (.int .i64 fr)), .d (.v (.int .i64 to))] Q = (
  ((kd == (0 : Int)) = true → Q [R.agg [D.v (Value.int IntKind.i64 (0 : Int)), D.v (Value.int IntKind.i64 (0 : Int)), D.v (Value.bool false), D.v
  (Value.int IntKind.i64 (0 : Int)), D.v (Value.string { data := { toList := [] : Array UInt8 } : ByteArray })], R.d (D.v (Value.int IntKind.i64 (2 :
  Int)))] [[D.v (Value.int IntKind.i64 kd), D.v (Value.int IntKind.i64 k), D.v (Value.int IntKind.i64 sc), D.sl (lvD lvls), D.v (Value.int IntKind.i64
  lk)]]) ∧ ((kd == (0 : Int)) = false → ∃ l0, kd ≠ (0 : Int) ∧ (lvD lvls)[(0 : Nat)]? = some [D.sl l0] ∧ ((bif bif decide (fr < (0 : Int)) then true
  else decide (to ≥ ↑l0.length) then true else bif decide (fr > to) then IntKind.i64.wrap (fr - (1 : Int)) != to else false) = true → Q [R.agg [D.v
  (Value.int IntKind.i64 (0 : Int)), D.v (Value.int IntKind.i64 (0 : Int)), D.v (Value.bool false), D.v (Value.int IntKind.i64 (0 : Int)), D.v
  (Value.string { data := { toList := [] : Array UInt8 } : ByteArray })], R.d (D.v (Value.int IntKind.i64 (240 : Int)))] [[D.v (Value.int IntKind.i64
  kd), D.v (Value.int IntKind.i64 k), D.v (Value.int IntKind.i64 sc), D.sl (lvD lvls), D.v (Value.int IntKind.i64 lk)]]) ∧ ((bif bif decide (fr < (0 :
  Int)) then true else decide (to ≥ ↑l0.length) then true else bif decide (fr > to) then IntKind.i64.wrap (fr - (1 : Int)) != to else false) = false →
  ∃ x0, ({ tm := [((1 : Nat), V.d (D.v (Value.int IntKind.i64 fr))), ((2 : Nat), V.d (D.v (Value.int IntKind.i64 to))), ((3 : Nat), V.ref ((3 : Nat)) ((0 : Nat))), ((6 : Nat), V.ref ((6 : Nat)) ((0 : Nat))), ((7 : Nat), V.d (D.v (Value.int IntKind.i64 (0 : Int)))), ((8 : Nat), V.ref ((8 : Nat)) ((0 : Nat))), ((9 : Nat), V.fn ((26 : Nat)) [V.ref ((3 : Nat)) ((0 : Nat)), V.ref ((8 : Nat)) ((0 : Nat))]), ((10 : Nat), V.d (D.v (Value.int IntKind.i64 (0 : Int))))], hp := [((3 : Nat), B.box [V.ref ((100000 : Nat)) ((0 : Nat))]), ((6 : Nat), B.box [V.d (D.v (Value.int IntKind.i64 (0 : Int))), V.d (D.v (Value.int IntKind.i64 (0 : Int))), V.d (D.v (Value.bool false)), V.d (D.v (Value.int IntKind.i64 (0 : Int))), V.d (D.v (Value.string { data := { toList := [] : Array UInt8 } : ByteArray }))]), ((8 : Nat), B.box [V.d (D.v (Value.int IntKind.i64 (0 : Int))), V.d (D.v (Value.int IntKind.i64 (0 : Int))), V.d (D.v (Value.int IntKind.u64 (0 : Int))), V.d (D.v (Value.int IntKind.i64 (0 : Int))), V.d (D.v (Value.int IntKind.i64 (0 : Int))), V.d (D.v (Value.bool false)), V.d (D.v (Value.int IntKind.i64 (0 : Int))), V.d (D.v (Value.string { data := { toList := [] : Array UInt8 } : ByteArray }))]), ((100000 : Nat), B.box [V.d (D.v (Value.int IntKind.i64 kd)), V.d (D.v (Value.int IntKind.i64 k)), V.d (D.v (Value.int IntKind.i64 sc)), V.d (D.sl (lvD lvls)), V.d (D.v (Value.int IntKind.i64 lk))])], kn := [], gd := [] : St }
  = { tm := [((1 : Nat), V.d (D.v (Value.int IntKind.i64 x0.1))), ((2 : Nat), V.d (D.v (Value.int IntKind.i64 x0.2))), ((3 : Nat), V.ref ((3 : Nat)) ((0 : Nat))), ((6 : Nat), V.ref ((6 : Nat)) ((0 : Nat))), ((7 : Nat), V.d (D.v (Value.int IntKind.i64 (0 : Int)))), ((8 : Nat), V.ref ((8 : Nat)) ((0 : Nat))), ((9 : Nat), V.fn ((26 : Nat)) [V.ref ((3 : Nat)) ((0 : Nat)), V.ref ((8 : Nat)) ((0 : Nat))]), ((10 : Nat), V.d (D.v (Value.int IntKind.i64 x0.4)))], hp := [((3 : Nat), B.box [V.ref ((100000 : Nat)) ((0 : Nat))]), ((6 : Nat), B.box [V.d (D.v (Value.int IntKind.i64 (0 : Int))), V.d (D.v (Value.int IntKind.i64 (0 : Int))), V.d (D.v (Value.bool false)), V.d (D.v (Value.int IntKind.i64 (0 : Int))), V.d (D.v (Value.string { data := { toList := [] : Array UInt8 } : ByteArray }))]), ((8 : Nat), B.box [V.d (D.v (Value.int IntKind.i64 x0.3.1)), V.d (D.v (Value.int IntKind.i64 (hiW x0.3.2))), V.d (D.v (Value.int IntKind.u64 (loW x0.3.2))), V.d (D.v (Value.int IntKind.i64 x0.3.3.1)), V.d (D.v (Value.int IntKind.i64 x0.3.3.2)), V.d (D.v (Value.bool x0.3.3.3)), V.d (D.v (Value.int IntKind.i64 x0.3.3.4)), V.d (D.v (Value.string x0.3.3.5))]), ((100000 : Nat), B.box [V.d (D.v (Value.int IntKind.i64 kd)), V.d (D.v (Value.int IntKind.i64 k)), V.d (D.v (Value.int IntKind.i64 sc)), V.d (D.sl (lvD lvls)), V.d (D.v (Value.int IntKind.i64 x0.5))])], kn := [], gd := [] : St }
  ∧ ∃ n, inv_9 kd k sc vs lvls fr to lk n x0) ∧ ∀ (n : Nat) (x : { X := OX, sh := st_9 kd k sc (lvD lvls), P := fun x => inv_9 kd k sc vs lvls fr to lk : LX }.X),
  inv_9 kd k sc vs lvls fr to lk n x → (decide (x.1 ≤ x.2) = true → (2 : Int) ≠ (0 : Int) ∧ ((x.1.tmod (2 : Int) == (1 : Int)) = true → ∃ es, D.sl (lvD
  lvls) = D.sl es ∧ ((0 : Int) ≤ x.4 ∧ x.4 < ↑es.length) ∧ ∃ cells, es[x.4.toNat]? = some cells ∧ cells.length = (1 : Nat) ∧ ∃ es, cut ((0 : Nat)) ((1
  : Nat)) cells = some [D.sl es] ∧ ∃ es_1, D.sl es = D.sl es_1 ∧ ((0 : Int) ≤ x.1 ∧ x.1 < ↑es_1.length) ∧ ∃ cells, es_1[x.1.toNat]? = some cells ∧
  cells.length = (8 : Nat) ∧ ∃ n_1 n_2 n_3 n_4 n_5 b n_6 b_1, cut ((0 : Nat)) ((8 : Nat)) cells = some [D.v (Value.int IntKind.i64 n_1), D.v (Value.int
  IntKind.i64 n_2), D.v (Value.int IntKind.u64 n_3), D.v (Value.int IntKind.i64 n_4), D.v (Value.int IntKind.i64 n_5), D.v (Value.bool b), D.v
  (Value.int IntKind.i64 n_6), D.v (Value.string b_1)] ∧ ∃ a b_2, [D.v (Value.int IntKind.i64 x.3.1), D.v (Value.int IntKind.i64 (hiW x.3.2)), D.v
  (Value.int IntKind.u64 (loW x.3.2)), D.v (Value.int IntKind.i64 x.3.3.1), D.v (Value.int IntKind.i64 x.3.3.2), D.v (Value.bool x.3.3.3), D.v
  (Value.int IntKind.i64 x.3.3.4), D.v (Value.string x.3.3.5)] = a.cs ∧ [D.v (Value.int IntKind.i64 n_1), D.v (Value.int IntKind.i64 n_2), D.v
  (Value.int IntKind.u64 n_3), D.v (Value.int IntKind.i64 n_4), D.v (Value.int IntKind.i64 n_5), D.v (Value.bool b), D.v (Value.int IntKind.i64 n_6),
  D.v (Value.string b_1)] = b_2.cs ∧ JOk a b_2 ∧ (2 : Int) ≠ (0 : Int) ∧ ((bif x.2.tmod (2 : Int) == (0 : Int) then decide (IntKind.i64.wrap (x.1 + (1
  : Int)) ≤ x.2) else false) = true → ∃ es, D.sl (lvD lvls) = D.sl es ∧ ((0 : Int) ≤ x.4 ∧ x.4 < ↑es.length) ∧ ∃ cells, es[x.4.toNat]? = some cells ∧
  cells.length = (1 : Nat) ∧ ∃ es, cut ((0 : Nat)) ((1 : Nat)) cells = some [D.sl es] ∧ ∃ es_2, D.sl es = D.sl es_2 ∧ ((0 : Int) ≤ x.2 ∧ x.2 <
  ↑es_2.length) ∧ ∃ cells, es_2[x.2.toNat]? = some cells ∧ cells.length = (8 : Nat) ∧ ∃ n_7 n_8 n_9 n_10 n_11 b n_12 b_3, cut (nat_lit 0) (nat_lit 8)
  cells = some [D.v (Value.int IntKind.i64 n_7), D.v (Value.int IntKind.i64 n_8), D.v (Value.int IntKind.u64 n_9), D.v (Value.int IntKind.i64 n_10),
  D.v (Value.int IntKind.i64 n_11), D.v (Value.bool b), D.v (Value.int IntKind.i64 n_12), D.v (Value.string b_3)] ∧ ∃ a_2 b_4, [D.v (Value.int
  IntKind.i64 (joinS kd a b_2).1), D.v (Value.int IntKind.i64 (hiW (joinS kd a b_2).2)), D.v (Value.int IntKind.u64 (loW (joinS kd a b_2).2)), D.v
  (Value.int IntKind.i64 (joinS kd a b_2).3.1), D.v (Value.int IntKind.i64 (joinS kd a b_2).3.2), D.v (Value.bool (joinS kd a b_2).3.3), D.v (Value.int
  IntKind.i64 (joinS kd a b_2).3.4), D.v (Value.string (joinS kd a b_2).3.5)] = a_2.cs ∧ [D.v (Value.int IntKind.i64 n_7), D.v (Value.int IntKind.i64
  n_8), D.v (Value.int IntKind.u64 n_9), D.v (Value.int IntKind.i64 n_10), D.v (Value.int IntKind.i64 n_11), D.v (Value.bool b), D.v (Value.int
  IntKind.i64 n_12), D.v (Value.string b_3)] = b_4.cs ∧ JOk a_2 b_4 ∧ (2 : Int) ≠ (0 : Int) ∧ (2 : Int) ≠ (0 : Int) ∧ ∃ m x', m < n ∧ { tm := [(nat_lit 1, V.d (D.v (Value.int IntKind.i64 (IntKind.i64.wrap ((IntKind.i64.wrap (x.1 + (1 : Int))).tdiv (2 : Int)))))), (nat_lit 2, V.d (D.v (Value.int IntKind.i64 (IntKind.i64.wrap (IntKind.i64.wrap ((IntKind.i64.wrap (IntKind.i64.wrap (x.2 - (1 : Int)) + (1 : Int))).tdiv (2 : Int)) - (1 : Int)))))), (nat_lit 3, V.ref (nat_lit 3) (nat_lit 0)), (nat_lit 6, V.ref (nat_lit 6) (nat_lit 0)), (nat_lit 7, V.d (D.v (Value.int IntKind.i64 (0 : Int)))), (nat_lit 8, V.ref (nat_lit 8) (nat_lit 0)), (nat_lit 9, V.fn (nat_lit 26) [V.ref (nat_lit 3) (nat_lit 0), V.ref (nat_lit 8) (nat_lit 0)]), (nat_lit 10, V.d (D.v (Value.int IntKind.i64 (IntKind.i64.wrap (x.4 + (1 : Int))))))], hp := [(nat_lit 3, B.box [V.ref (nat_lit 100000) (nat_lit 0)]), (nat_lit 6, B.box [V.d (D.v (Value.int IntKind.i64 (0 : Int))), V.d (D.v (Value.int IntKind.i64 (0 : Int))), V.d (D.v (Value.bool false)), V.d (D.v (Value.int IntKind.i64 (0 : Int))), V.d (D.v (Value.string { data := { toList := [] : Array UInt8 } : ByteArray }))]), (nat_lit 8, B.box [V.d (D.v (Value.int IntKind.i64 (joinS kd a_2 b_4).1)), V.d (D.v (Value.int IntKind.i64 (hiW (joinS kd a_2 b_4).2))), V.d (D.v (Value.int IntKind.u64 (loW (joinS kd a_2 b_4).2))), V.d (D.v (Value.int IntKind.i64 (joinS kd a_2 b_4).3.1)), V.d (D.v (Value.int IntKind.i64 (joinS kd a_2 b_4).3.2)), V.d (D.v (Value.bool (joinS kd a_2 b_4).3.3)), V.d (D.v (Value.int IntKind.i64 (joinS kd a_2 b_4).3.4)), V.d (D.v (Value.string (joinS kd a_2 b_4).3.5))]), (nat_lit 100000, B.box [V.d (D.v (Value.int IntKind.i64 kd)), V.d (D.v (Value.int IntKind.i64 k)), V.d (D.v (Value.int IntKind.i64 sc)), V.d (D.sl (lvD lvls)), V.d (D.v (Value.int IntKind.i64 (IntKind.i64.wrap (IntKind.i64.wrap (x.5 + (1 : Int)) + (1 : Int)))))])], kn := [], gd := [] : St }
  = { tm := [(nat_lit 1, V.d (D.v (Value.int IntKind.i64 x'.1))), (nat_lit 2, V.d (D.v (Value.int IntKind.i64 x'.2))), (nat_lit 3, V.ref (nat_lit 3) (nat_lit 0)), (nat_lit 6, V.ref (nat_lit 6) (nat_lit 0)), (nat_lit 7, V.d (D.v (Value.int IntKind.i64 (0 : Int)))), (nat_lit 8, V.ref (nat_lit 8) (nat_lit 0)), (nat_lit 9, V.fn (nat_lit 26) [V.ref (nat_lit 3) (nat_lit 0), V.ref (nat_lit 8) (nat_lit 0)]), (nat_lit 10, V.d (D.v (Value.int IntKind.i64 x'.4)))], hp := [(nat_lit 3, B.box [V.ref (nat_lit 100000) (nat_lit 0)]), (nat_lit 6, B.box [V.d (D.v (Value.int IntKind.i64 (0 : Int))), V.d (D.v (Value.int IntKind.i64 (0 : Int))), V.d (D.v (Value.bool false)), V.d (D.v (Value.int IntKind.i64 (0 : Int))), V.d (D.v (Value.string { data := { toList := [] : Array UInt8 } : ByteArray }))]), (nat_lit 8, B.box [V.d (D.v (Value.int IntKind.i64 x'.3.1)), V.d (D.v (Value.int IntKind.i64 (hiW x'.3.2))), V.d (D.v (Value.int IntKind.u64 (loW x'.3.2))), V.d (D.v (Value.int IntKind.i64 x'.3.3.1)), V.d (D.v (Value.int IntKind.i64 x'.3.3.2)), V.d (D.v (Value.bool x'.3.3.3)), V.d (D.v (Value.int IntKind.i64 x'.3.3.4)), V.d (D.v (Value.string x'.3.3.5))]), (nat_lit 100000, B.box [V.d (D.v (Value.int IntKind.i64 kd)), V.d (D.v (Value.int IntKind.i64 k)), V.d (D.v (Value.int IntKind.i64 sc)), V.d (D.sl (lvD lvls)), V.d (D.v (Value.int IntKind.i64 x'.5))])], kn := [], gd := [] : St }
  ∧ inv_9 kd k sc vs lvls fr to lk m x') ∧ ((bif x.2.tmod (2 : Int) == (0 : Int) then decide (IntKind.i64.wrap (x.1 + (1 : Int)) ≤ x.2) else false) =
  false → (2 : Int) ≠ (0 : Int) ∧ (2 : Int) ≠ (0 : Int) ∧ ∃ m x', m < n ∧ { tm := [((1 : Nat), V.d (D.v (Value.int IntKind.i64 (IntKind.i64.wrap ((IntKind.i64.wrap (x.1 + (1 : Int))).tdiv (2 : Int)))))), ((2 : Nat), V.d (D.v (Value.int IntKind.i64 (IntKind.i64.wrap (IntKind.i64.wrap ((IntKind.i64.wrap (x.2 + (1 : Int))).tdiv (2 : Int)) - (1 : Int)))))), ((3 : Nat), V.ref ((3 : Nat)) ((0 : Nat))), ((6 : Nat), V.ref ((6 : Nat)) ((0 : Nat))), ((7 : Nat), V.d (D.v (Value.int IntKind.i64 (0 : Int)))), ((8 : Nat), V.ref ((8 : Nat)) ((0 : Nat))), ((9 : Nat), V.fn ((26 : Nat)) [V.ref ((3 : Nat)) ((0 : Nat)), V.ref ((8 : Nat)) ((0 : Nat))]), ((10 : Nat), V.d (D.v (Value.int IntKind.i64 (IntKind.i64.wrap (x.4 + (1 : Int))))))], hp := [((3 : Nat), B.box [V.ref ((100000 : Nat)) ((0 : Nat))]), ((6 : Nat), B.box [V.d (D.v (Value.int IntKind.i64 (0 : Int))), V.d (D.v (Value.int IntKind.i64 (0 : Int))), V.d (D.v (Value.bool false)), V.d (D.v (Value.int IntKind.i64 (0 : Int))), V.d (D.v (Value.string { data := { toList := [] : Array UInt8 } : ByteArray }))]), ((8 : Nat), B.box [V.d (D.v (Value.int IntKind.i64 (joinS kd a b_2).1)), V.d (D.v (Value.int IntKind.i64 (hiW (joinS kd a b_2).2))), V.d (D.v (Value.int IntKind.u64 (loW (joinS kd a b_2).2))), V.d (D.v (Value.int IntKind.i64 (joinS kd a b_2).3.1)), V.d (D.v (Value.int IntKind.i64 (joinS kd a b_2).3.2)), V.d (D.v (Value.bool (joinS kd a b_2).3.3)), V.d (D.v (Value.int IntKind.i64 (joinS kd a b_2).3.4)), V.d (D.v (Value.string (joinS kd a b_2).3.5))]), ((100000 : Nat), B.box [V.d (D.v (Value.int IntKind.i64 kd)), V.d (D.v (Value.int IntKind.i64 k)), V.d (D.v (Value.int IntKind.i64 sc)), V.d (D.sl (lvD lvls)), V.d (D.v (Value.int IntKind.i64 (IntKind.i64.wrap (x.5 + (1 : Int)))))])], kn := [], gd := [] : St }
  = { tm := [((1 : Nat), V.d (D.v (Value.int IntKind.i64 x'.1))), ((2 : Nat), V.d (D.v (Value.int IntKind.i64 x'.2))), ((3 : Nat), V.ref ((3 : Nat)) ((0 : Nat))), ((6 : Nat), V.ref ((6 : Nat)) ((0 : Nat))), ((7 : Nat), V.d (D.v (Value.int IntKind.i64 (0 : Int)))), ((8 : Nat), V.ref ((8 : Nat)) ((0 : Nat))), ((9 : Nat), V.fn ((26 : Nat)) [V.ref ((3 : Nat)) ((0 : Nat)), V.ref ((8 : Nat)) ((0 : Nat))]), ((10 : Nat), V.d (D.v (Value.int IntKind.i64 x'.4)))], hp := [((3 : Nat), B.box [V.ref ((100000 : Nat)) ((0 : Nat))]), ((6 : Nat), B.box [V.d (D.v (Value.int IntKind.i64 (0 : Int))), V.d (D.v (Value.int IntKind.i64 (0 : Int))), V.d (D.v (Value.bool false)), V.d (D.v (Value.int IntKind.i64 (0 : Int))), V.d (D.v (Value.string { data := { toList := [] : Array UInt8 } : ByteArray }))]), ((8 : Nat), B.box [V.d (D.v (Value.int IntKind.i64 x'.3.1)), V.d (D.v (Value.int IntKind.i64 (hiW x'.3.2))), V.d (D.v (Value.int IntKind.u64 (loW x'.3.2))), V.d (D.v (Value.int IntKind.i64 x'.3.3.1)), V.d (D.v (Value.int IntKind.i64 x'.3.3.2)), V.d (D.v (Value.bool x'.3.3.3)), V.d (D.v (Value.int IntKind.i64 x'.3.3.4)), V.d (D.v (Value.string x'.3.3.5))]), ((100000 : Nat), B.box [V.d (D.v (Value.int IntKind.i64 kd)), V.d (D.v (Value.int IntKind.i64 k)), V.d (D.v (Value.int IntKind.i64 sc)), V.d (D.sl (lvD lvls)), V.d (D.v (Value.int IntKind.i64 x'.5))])], kn := [], gd := [] : St }
  ∧ inv_9 kd k sc vs lvls fr to lk m x')) ∧ ((x.1.tmod (2 : Int) == (1 : Int)) = false → (2 : Int) ≠ (0 : Int) ∧ ((bif x.2.tmod (2 : Int) == (0 : Int)
  then decide (x.1 ≤ x.2) else false) = true → ∃ es, D.sl (lvD lvls) = D.sl es ∧ ((0 : Int) ≤ x.4 ∧ x.4 < ↑es.length) ∧ ∃ cells, es[x.4.toNat]? = some
  cells ∧ cells.length = (1 : Nat) ∧ ∃ es, cut ((0 : Nat)) ((1 : Nat)) cells = some [D.sl es] ∧ ∃ es_1, D.sl es = D.sl es_1 ∧ ((0 : Int) ≤ x.2 ∧ x.2 <
  ↑es_1.length) ∧ ∃ cells, es_1[x.2.toNat]? = some cells ∧ cells.length = (8 : Nat) ∧ ∃ n_1 n_2 n_3 n_4 n_5 b n_6 b_1, cut ((0 : Nat)) ((8 : Nat))
  cells = some [D.v (Value.int IntKind.i64 n_1), D.v (Value.int IntKind.i64 n_2), D.v (Value.int IntKind.u64 n_3), D.v (Value.int IntKind.i64 n_4), D.v
  (Value.int IntKind.i64 n_5), D.v (Value.bool b), D.v (Value.int IntKind.i64 n_6), D.v (Value.string b_1)] ∧ ∃ a b_2, [D.v (Value.int IntKind.i64
  x.3.1), D.v (Value.int IntKind.i64 (hiW x.3.2)), D.v (Value.int IntKind.u64 (loW x.3.2)), D.v (Value.int IntKind.i64 x.3.3.1), D.v (Value.int
  IntKind.i64 x.3.3.2), D.v (Value.bool x.3.3.3), D.v (Value.int IntKind.i64 x.3.3.4), D.v (Value.string x.3.3.5)] = a.cs ∧ [D.v (Value.int IntKind.i64
  n_1), D.v (Value.int IntKind.i64 n_2), D.v (Value.int IntKind.u64 n_3), D.v (Value.int IntKind.i64 n_4), D.v (Value.int IntKind.i64 n_5), D.v
  (Value.bool b), D.v (Value.int IntKind.i64 n_6), D.v (Value.string b_1)] = b_2.cs ∧ JOk a b_2 ∧ (2 : Int) ≠ (0 : Int) ∧ (2 : Int) ≠ (0 : Int) ∧ ∃ m
  x', m < n ∧ { tm := [((1 : Nat), V.d (D.v (Value.int IntKind.i64 (IntKind.i64.wrap (x.1.tdiv (2 : Int)))))), ((2 : Nat), V.d (D.v (Value.int IntKind.i64 (IntKind.i64.wrap (IntKind.i64.wrap ((IntKind.i64.wrap (IntKind.i64.wrap (x.2 - (1 : Int)) + (1 : Int))).tdiv (2 : Int)) - (1 : Int)))))), ((3 : Nat), V.ref ((3 : Nat)) ((0 : Nat))), ((6 : Nat), V.ref ((6 : Nat)) ((0 : Nat))), ((7 : Nat), V.d (D.v (Value.int IntKind.i64 (0 : Int)))), ((8 : Nat), V.ref ((8 : Nat)) ((0 : Nat))), ((9 : Nat), V.fn ((26 : Nat)) [V.ref ((3 : Nat)) ((0 : Nat)), V.ref ((8 : Nat)) ((0 : Nat))]), ((10 : Nat), V.d (D.v (Value.int IntKind.i64 (IntKind.i64.wrap (x.4 + (1 : Int))))))], hp := [((3 : Nat), B.box [V.ref ((100000 : Nat)) ((0 : Nat))]), ((6 : Nat), B.box [V.d (D.v (Value.int IntKind.i64 (0 : Int))), V.d (D.v (Value.int IntKind.i64 (0 : Int))), V.d (D.v (Value.bool false)), V.d (D.v (Value.int IntKind.i64 (0 : Int))), V.d (D.v (Value.string { data := { toList := [] : Array UInt8 } : ByteArray }))]), ((8 : Nat), B.box [V.d (D.v (Value.int IntKind.i64 (joinS kd a b_2).1)), V.d (D.v (Value.int IntKind.i64 (hiW (joinS kd a b_2).2))), V.d (D.v (Value.int IntKind.u64 (loW (joinS kd a b_2).2))), V.d (D.v (Value.int IntKind.i64 (joinS kd a b_2).3.1)), V.d (D.v (Value.int IntKind.i64 (joinS kd a b_2).3.2)), V.d (D.v (Value.bool (joinS kd a b_2).3.3)), V.d (D.v (Value.int IntKind.i64 (joinS kd a b_2).3.4)), V.d (D.v (Value.string (joinS kd a b_2).3.5))]), ((100000 : Nat), B.box [V.d (D.v (Value.int IntKind.i64 kd)), V.d (D.v (Value.int IntKind.i64 k)), V.d (D.v (Value.int IntKind.i64 sc)), V.d (D.sl (lvD lvls)), V.d (D.v (Value.int IntKind.i64 (IntKind.i64.wrap (x.5 + (1 : Int)))))])], kn := [], gd := [] : St }
  = { tm := [((1 : Nat), V.d (D.v (Value.int IntKind.i64 x'.1))), ((2 : Nat), V.d (D.v (Value.int IntKind.i64 x'.2))), ((3 : Nat), V.ref ((3 : Nat)) ((0 : Nat))), ((6 : Nat), V.ref ((6 : Nat)) ((0 : Nat))), ((7 : Nat), V.d (D.v (Value.int IntKind.i64 (0 : Int)))), ((8 : Nat), V.ref ((8 : Nat)) ((0 : Nat))), ((9 : Nat), V.fn ((26 : Nat)) [V.ref ((3 : Nat)) ((0 : Nat)), V.ref ((8 : Nat)) ((0 : Nat))]), ((10 : Nat), V.d (D.v (Value.int IntKind.i64 x'.4)))], hp := [((3 : Nat), B.box [V.ref ((100000 : Nat)) ((0 : Nat))]), ((6 : Nat), B.box [V.d (D.v (Value.int IntKind.i64 (0 : Int))), V.d (D.v (Value.int IntKind.i64 (0 : Int))), V.d (D.v (Value.bool false)), V.d (D.v (Value.int IntKind.i64 (0 : Int))), V.d (D.v (Value.string { data := { toList := [] : Array UInt8 } : ByteArray }))]), ((8 : Nat), B.box [V.d (D.v (Value.int IntKind.i64 x'.3.1)), V.d (D.v (Value.int IntKind.i64 (hiW x'.3.2))), V.d (D.v (Value.int IntKind.u64 (loW x'.3.2))), V.d (D.v (Value.int IntKind.i64 x'.3.3.1)), V.d (D.v (Value.int IntKind.i64 x'.3.3.2)), V.d (D.v (Value.bool x'.3.3.3)), V.d (D.v (Value.int IntKind.i64 x'.3.3.4)), V.d (D.v (Value.string x'.3.3.5))]), ((100000 : Nat), B.box [V.d (D.v (Value.int IntKind.i64 kd)), V.d (D.v (Value.int IntKind.i64 k)), V.d (D.v (Value.int IntKind.i64 sc)), V.d (D.sl (lvD lvls)), V.d (D.v (Value.int IntKind.i64 x'.5))])], kn := [], gd := [] : St }
  ∧ inv_9 kd k sc vs lvls fr to lk m x') ∧ ((bif x.2.tmod (2 : Int) == (0 : Int) then decide (x.1 ≤ x.2) else false) = false → (2 : Int) ≠ (0 : Int) ∧
  (2 : Int) ≠ (0 : Int) ∧ ∃ m x', m < n ∧ { tm := [((1 : Nat), V.d (D.v (Value.int IntKind.i64 (IntKind.i64.wrap (x.1.tdiv (2 : Int)))))), ((2 : Nat), V.d (D.v (Value.int IntKind.i64 (IntKind.i64.wrap (IntKind.i64.wrap ((IntKind.i64.wrap (x.2 + (1 : Int))).tdiv (2 : Int)) - (1 : Int)))))), ((3 : Nat), V.ref ((3 : Nat)) ((0 : Nat))), ((6 : Nat), V.ref ((6 : Nat)) ((0 : Nat))), ((7 : Nat), V.d (D.v (Value.int IntKind.i64 (0 : Int)))), ((8 : Nat), V.ref ((8 : Nat)) ((0 : Nat))), ((9 : Nat), V.fn ((26 : Nat)) [V.ref ((3 : Nat)) ((0 : Nat)), V.ref ((8 : Nat)) ((0 : Nat))]), ((10 : Nat), V.d (D.v (Value.int IntKind.i64 (IntKind.i64.wrap (x.4 + (1 : Int))))))], hp := [((3 : Nat), B.box [V.ref ((100000 : Nat)) ((0 : Nat))]), ((6 : Nat), B.box [V.d (D.v (Value.int IntKind.i64 (0 : Int))), V.d (D.v (Value.int IntKind.i64 (0 : Int))), V.d (D.v (Value.bool false)), V.d (D.v (Value.int IntKind.i64 (0 : Int))), V.d (D.v (Value.string { data := { toList := [] : Array UInt8 } : ByteArray }))]), ((8 : Nat), B.box [V.d (D.v (Value.int IntKind.i64 x.3.1)), V.d (D.v (Value.int IntKind.i64 (hiW x.3.2))), V.d (D.v (Value.int IntKind.u64 (loW x.3.2))), V.d (D.v (Value.int IntKind.i64 x.3.3.1)), V.d (D.v (Value.int IntKind.i64 x.3.3.2)), V.d (D.v (Value.bool x.3.3.3)), V.d (D.v (Value.int IntKind.i64 x.3.3.4)), V.d (D.v (Value.string x.3.3.5))]), ((100000 : Nat), B.box [V.d (D.v (Value.int IntKind.i64 kd)), V.d (D.v (Value.int IntKind.i64 k)), V.d (D.v (Value.int IntKind.i64 sc)), V.d (D.sl (lvD lvls)), V.d (D.v (Value.int IntKind.i64 x.5))])], kn := [], gd := [] : St }
  = { tm := [((1 : Nat), V.d (D.v (Value.int IntKind.i64 x'.1))), ((2 : Nat), V.d (D.v (Value.int IntKind.i64 x'.2))), ((3 : Nat), V.ref ((3 : Nat)) ((0 : Nat))), ((6 : Nat), V.ref ((6 : Nat)) ((0 : Nat))), ((7 : Nat), V.d (D.v (Value.int IntKind.i64 (0 : Int)))), ((8 : Nat), V.ref ((8 : Nat)) ((0 : Nat))), ((9 : Nat), V.fn ((26 : Nat)) [V.ref ((3 : Nat)) ((0 : Nat)), V.ref ((8 : Nat)) ((0 : Nat))]), ((10 : Nat), V.d (D.v (Value.int IntKind.i64 x'.4)))], hp := [((3 : Nat), B.box [V.ref ((100000 : Nat)) ((0 : Nat))]), ((6 : Nat), B.box [V.d (D.v (Value.int IntKind.i64 (0 : Int))), V.d (D.v (Value.int IntKind.i64 (0 : Int))), V.d (D.v (Value.bool false)), V.d (D.v (Value.int IntKind.i64 (0 : Int))), V.d (D.v (Value.string { data := { toList := [] : Array UInt8 } : ByteArray }))]), ((8 : Nat), B.box [V.d (D.v (Value.int IntKind.i64 x'.3.1)), V.d (D.v (Value.int IntKind.i64 (hiW x'.3.2))), V.d (D.v (Value.int IntKind.u64 (loW x'.3.2))), V.d (D.v (Value.int IntKind.i64 x'.3.3.1)), V.d (D.v (Value.int IntKind.i64 x'.3.3.2)), V.d (D.v (Value.bool x'.3.3.3)), V.d (D.v (Value.int IntKind.i64 x'.3.3.4)), V.d (D.v (Value.string x'.3.3.5))]), ((100000 : Nat), B.box [V.d (D.v (Value.int IntKind.i64 kd)), V.d (D.v (Value.int IntKind.i64 k)), V.d (D.v (Value.int IntKind.i64 sc)), V.d (D.sl (lvD lvls)), V.d (D.v (Value.int IntKind.i64 x'.5))])], kn := [], gd := [] : St }
  ∧ inv_9 kd k sc vs lvls fr to lk m x'))) ∧ (decide (x.1 ≤ x.2) = false → ∃ s, [D.v (Value.int IntKind.i64 x.3.1), D.v (Value.int IntKind.i64 (hiW
  x.3.2)), D.v (Value.int IntKind.u64 (loW x.3.2)), D.v (Value.int IntKind.i64 x.3.3.1), D.v (Value.int IntKind.i64 x.3.3.2), D.v (Value.bool x.3.3.3),
  D.v (Value.int IntKind.i64 x.3.3.4), D.v (Value.string x.3.3.5)] = s.cs ∧ Q [R.agg [D.v (Value.int IntKind.i64 (outV kd k sc s).1), D.v (Value.int
  IntKind.i64 (outV kd k sc s).2), D.v (Value.bool (outV kd k sc s).3), D.v (Value.int IntKind.i64 (outV kd k sc s).4), D.v (Value.string (outV kd k sc
  s).5)], R.d (D.v (Value.int IntKind.i64 (outE kd k sc s)))] [[D.v (Value.int IntKind.i64 kd), D.v (Value.int IntKind.i64 k), D.v (Value.int
  IntKind.i64 sc), D.sl (lvD lvls), D.v (Value.int IntKind.i64 x.5)]])))) := by kernel_rfl
theorem E_2_ok : EnvOk prog E_2 := ⟨E_ok.te⟩
theorem it_2 : ItOk prog E_2 := fun _ _ _ h => h.elim
theorem fis_2_ok : FisOk prog fis_2 := FisOk.cons fisOk_nil (fn := f26) (by kernel_rfl) (by kernel_rfl) (by kernel_rfl) (by kernel_rfl)
theorem I_2_ok : IOk prog I_2 := ioK_inl E_2_ok C_b8_ok ioK_no it_2 mixed fis_2_ok
theorem lvD_get {lvls : List (List Sm)} {j : Nat} {l : List Sm} (h : lvls[j]? = some l) : (lvD lvls)[j]? = some [.sl (l.map Sm.cs)] := by simp [lvD, h]
theorem cs_get {l : List Sm} {i : Nat} {s : Sm} (h : l[i]? = some s) : (l.map Sm.cs)[i]? = some s.cs := by simp [h]
/-- What Over tells. -/
def ovQ (kd k sc : Int) (vs : List AV) (lvls : List (List Sm)) (lk fr to : Int) (res : List R) (fin : List (List D)) : Prop :=
  (¬ (0 ≤ fr ∧ to < vs.length ∧ fr ≤ to + 1) ∧ res = [.agg zeroV.cs, .d (.v (.int .i64 240))] ∧ fin = [[.v (.int .i64 kd), .v (.int .i64 k), .v (.int .i64 sc), .sl (lvD lvls), .v (.int .i64 lk)]]) ∨
  ((0 ≤ fr ∧ to < vs.length ∧ fr ≤ to + 1) ∧ ∃ s lk', Rep kd k sc s (seg vs fr.toNat (to + 1).toNat) ∧ lk ≤ lk' ∧ lk' ≤ lk + 2 * lvls.length ∧ res = [.agg (outV kd k sc s).cs, .d (.v (.int .i64 (outE kd k sc s)))] ∧ fin = [[.v (.int .i64 kd), .v (.int .i64 k), .v (.int .i64 sc), .sl (lvD lvls), .v (.int .i64 lk')]])
theorem ct9 (kd k sc : Int) (vs : List AV) (lvls : List (List Sm)) (lk fr to : Int) (hT : TreeOk kd k sc vs lvls) (hkd : kd ≠ 0) (hll : lvls.length ≤ 64) (h1 : 0 ≤ lk) (h2 : lk ≤ 4611686018427387904) (hf : in64 fr) (ht : in64 to) :
    Ct prog 9 [.box [.v (.int .i64 kd), .v (.int .i64 k), .v (.int .i64 sc), .sl (lvD lvls), .v (.int .i64 lk)], .d (.v (.int .i64 fr)), .d (.v (.int .i64 to))] (ovQ kd k sc vs lvls lk fr to) :=
  ct_of_vc E_2_ok C_b8_ok I_2_ok it_2 mixed (fn := f9) (body := f9.body.getD .skip) (by kernel_rfl) (by kernel_rfl) (by kernel_rfl) (fi := fx_9 kd k sc vs lvls fr to lk) (by kernel_rfl) (by kernel_rfl) (by
    by_cases hv : 0 ≤ fr ∧ to < vs.length ∧ fr ≤ to + 1
    · obtain ⟨s, hs⟩ := rep_ex kd k sc (seg vs fr.toNat (to + 1).toNat) (seg_good hT.gv _ _)
      exact ⟨_, _, .inr ⟨hv, s, lk, hs, by omega, by omega, rfl, rfl⟩⟩
    · exact ⟨_, _, .inl ⟨hv, rfl, rfl⟩⟩) (by
    rw [vc9]
    obtain ⟨l0, hl0, hlen0⟩ := hT.l0
    have hn := hT.n
    unfold in64 at hf ht
    refine ⟨fun h => (hkd (by simpa using h)).elim, fun _ => ⟨l0.map Sm.cs, hkd, lvD_get hl0, fun h => ?_, fun h => ?_⟩⟩
    · refine .inl ⟨?_, rfl, rfl⟩
      rintro ⟨a1, a2, a3⟩
      rw [wrap_i64_of (by omega) (by omega), List.length_map, hlen0] at h
      simp only [decide_eq_false (show ¬ fr < 0 by omega), decide_eq_false (show ¬ to ≥ (vs.length : Int) by omega), cond_false] at h
      by_cases hgt : fr > to
      · rw [decide_eq_true hgt, cond_true] at h
        have h : fr - 1 ≠ to := by simpa using h
        omega
      · rw [decide_eq_false hgt, cond_false] at h; cases h
    · have hv : 0 ≤ fr ∧ to < vs.length ∧ fr ≤ to + 1 := by
        have g1 : ¬ fr < 0 := fun hh => by rw [decide_eq_true hh] at h; simp at h
        have g2 : ¬ to ≥ ((l0.map Sm.cs).length : Int) := fun hh => by rw [decide_eq_true hh] at h; cases decide (fr < 0) <;> simp at h
        rw [decide_eq_false g1, decide_eq_false g2] at h
        rw [List.length_map, hlen0] at g2
        refine ⟨by omega, by omega, ?_⟩
        by_cases hgt : fr > to
        · rw [decide_eq_true hgt, wrap_i64_of (by omega) (by omega)] at h
          have h : fr - 1 = to := by simpa using h
          omega
        · omega
      obtain ⟨v1, v2, v3⟩ := hv
      refine ⟨⟨fr, to, ⟨0, 0, zeroV⟩, 0, lk⟩, ⟨rfl, (to - fr + 1).toNat, ⟨v1, v3, by dsimp only; omega, by dsimp only; omega, by dsimp only; omega, fun _ => ⟨l0, hl0, by rw [hlen0]; exact v2⟩, ⟨[], zero_rep _ _ _, ?_⟩, by dsimp only; omega, by dsimp only; omega⟩, rfl⟩, ?_⟩
      · dsimp only
        have e : ((0 : Int).toNat) = 0 := rfl
        rw [e, Nat.pow_zero, Nat.mul_one, Nat.mul_one, List.nil_append]
      · rintro m x ⟨hx, hm⟩
        have b1 := hx.f0; have b2 := hx.ft; have b3 := hx.tb; have b4 := hx.l0; have b5 := hx.ll; have b6 := hx.lk1; have b7 := hx.lk2
        have el : IntKind.i64.wrap (x.lev + 1) = x.lev + 1 := wrap_i64_of (by omega) (by omega)
        have ek1 : IntKind.i64.wrap (x.lk + 1) = x.lk + 1 := wrap_i64_of (by omega) (by omega)
        have ek2 : IntKind.i64.wrap (x.lk + 1 + 1) = x.lk + 1 + 1 := wrap_i64_of (by omega) (by omega)
        have hw : ∀ n : Int, -1 ≤ n → n ≤ 70000 → IntKind.i64.wrap n = n := fun n a b => wrap_i64_of (by omega) (by omega)
        have hd : ∀ n : Int, 0 ≤ n → n ≤ 70000 → IntKind.i64.wrap (n.tdiv 2) = n / 2 := fun n a b => by rw [Int.tdiv_eq_ediv_of_nonneg a]; exact hw _ (by omega) (by omega)
        have hmod : ∀ n : Int, 0 ≤ n → n.tmod 2 = n % 2 := fun n a => Int.tmod_eq_emod_of_nonneg a
        have hlv : ((lvD lvls).length : Int) = lvls.length := by simp [lvD]
        refine ⟨fun hle => ⟨by decide, fun hodd => ?_, fun hodd => ?_⟩, fun hgt => ?_⟩
        · have hle : x.fr ≤ x.to := by simpa using hle
          have hodd : x.fr % 2 = 1 := by rw [hmod _ b1] at hodd; simpa using hodd
          obtain ⟨l, sm, hl, hsm, hj, hlev, hfl, hx1⟩ := hx.left hT hle
          have ef1 : IntKind.i64.wrap (x.fr + 1) = x.fr + 1 := hw _ (by omega) (by omega)
          refine ⟨lvD lvls, rfl, ⟨b4, by rw [hlv]; exact hlev⟩, _, lvD_get hl, rfl, _, rfl, _, rfl, ⟨b1, by simpa using hfl⟩, _, cs_get hsm, rfl, _, _, _, _, _, _, _, _, rfl, x.s, sm, rfl, rfl, hj, by decide, fun h2 => ?_, fun h2 => ?_⟩
          · rw [ef1, hmod _ (by omega)] at h2
            have h2 : x.to % 2 = 0 ∧ x.fr + 1 ≤ x.to := by
              by_cases he : x.to % 2 = 0
              · rw [he] at h2; exact ⟨he, by simpa using h2⟩
              · rw [show (x.to % 2 == 0) = false by simpa using he] at h2; cases h2
            obtain ⟨l', sm', hl', hsm', hj', hlev', hfl', hx2⟩ := hx1.right hT h2.2
            dsimp only at hl' hsm' hj' hfl' hx2
            have hup := hx2.up hT (by omega) hlev ⟨l', hl', by dsimp only; omega⟩ (by dsimp only; omega) (.inl (by dsimp only; omega))
            refine ⟨lvD lvls, rfl, ⟨b4, by rw [hlv]; exact hlev⟩, _, lvD_get hl', rfl, _, rfl, _, rfl, ⟨by omega, by simpa using hfl'⟩, _, cs_get hsm', rfl, _, _, _, _, _, _, _, _, rfl, joinS kd x.s sm, sm', rfl, rfl, hj', by decide, by decide, ((x.to - 1 + 1) / 2 - 1 - (x.fr + 1) / 2 + 1).toNat, ⟨(x.fr + 1) / 2, (x.to - 1 + 1) / 2 - 1, joinS kd (joinS kd x.s sm) sm', x.lev + 1, x.lk + 1 + 1⟩, by omega, ?_, hup, rfl⟩
            rw [ef1, hw (x.to - 1) (by omega) (by omega), hw (x.to - 1 + 1) (by omega) (by omega), hd (x.fr + 1) (by omega) (by omega), hd (x.to - 1 + 1) (by omega) (by omega), hw ((x.to - 1 + 1) / 2 - 1) (by omega) (by omega), el, ek1, ek2]
          · rw [ef1, hmod _ (by omega)] at h2
            have h2 : x.to % 2 = 1 ∨ x.to < x.fr + 1 := by
              by_cases he : x.to % 2 = 0
              · rw [he] at h2; right; simpa using h2
              · left; omega
            have hup := hx1.up hT (by omega) hlev ⟨l, hl, by obtain ⟨l2, e1, e2⟩ := hx.nl hle; rw [hl] at e1; cases e1; exact e2⟩ (by dsimp only; omega) h2
            refine ⟨by decide, by decide, ((x.to + 1) / 2 - 1 - (x.fr + 1) / 2 + 1).toNat, ⟨(x.fr + 1) / 2, (x.to + 1) / 2 - 1, joinS kd x.s sm, x.lev + 1, x.lk + 1⟩, by omega, ?_, hup, rfl⟩
            rw [ef1, hw (x.to + 1) (by omega) (by omega), hd (x.fr + 1) (by omega) (by omega), hd (x.to + 1) (by omega) (by omega), hw ((x.to + 1) / 2 - 1) (by omega) (by omega), el, ek1]
        · have hle : x.fr ≤ x.to := by simpa using hle
          have hodd : x.fr % 2 = 0 := by rw [hmod _ b1] at hodd; have : x.fr % 2 ≠ 1 := by simpa using hodd
                                         omega
          refine ⟨by decide, fun h2 => ?_, fun h2 => ?_⟩
          · rw [hmod _ (by omega)] at h2
            have h2 : x.to % 2 = 0 := by
              by_cases he : x.to % 2 = 0
              · exact he
              · rw [show (x.to % 2 == 0) = false by simpa using he] at h2; cases h2
            obtain ⟨l', sm', hl', hsm', hj', hlev', hfl', hx2⟩ := hx.right hT hle
            have hup := hx2.up hT (by omega) hlev' ⟨l', hl', by dsimp only; omega⟩ (by dsimp only; omega) (by dsimp only; omega)
            refine ⟨lvD lvls, rfl, ⟨b4, by rw [hlv]; exact hlev'⟩, _, lvD_get hl', rfl, _, rfl, _, rfl, ⟨by omega, by simpa using hfl'⟩, _, cs_get hsm', rfl, _, _, _, _, _, _, _, _, rfl, x.s, sm', rfl, rfl, hj', by decide, by decide, ((x.to - 1 + 1) / 2 - 1 - x.fr / 2 + 1).toNat, ⟨x.fr / 2, (x.to - 1 + 1) / 2 - 1, joinS kd x.s sm', x.lev + 1, x.lk + 1⟩, by omega, ?_, hup, rfl⟩
            rw [hw (x.to - 1) (by omega) (by omega), hw (x.to - 1 + 1) (by omega) (by omega), hd x.fr (by omega) (by omega), hd (x.to - 1 + 1) (by omega) (by omega), hw ((x.to - 1 + 1) / 2 - 1) (by omega) (by omega), el, ek1]
          · rw [hmod _ (by omega)] at h2
            have h2 : x.to % 2 = 1 := by
              by_cases he : x.to % 2 = 0
              · rw [he] at h2
                have : ¬ x.fr ≤ x.to := by simpa using h2
                omega
              · omega
            obtain ⟨l, hl, hlt⟩ := hx.nl hle
            have hlev := (List.getElem?_eq_some_iff.1 hl).1
            have hup := hx.up hT (by omega) (by omega) ⟨l, hl, hlt⟩ hodd (.inl h2)
            refine ⟨by decide, by decide, ((x.to + 1) / 2 - 1 - x.fr / 2 + 1).toNat, ⟨x.fr / 2, (x.to + 1) / 2 - 1, x.s, x.lev + 1, x.lk⟩, by omega, ?_, hup, rfl⟩
            rw [hw (x.to + 1) (by omega) (by omega), hd x.fr (by omega) (by omega), hd (x.to + 1) (by omega) (by omega), hw ((x.to + 1) / 2 - 1) (by omega) (by omega), el]
        · have hgt : ¬ x.fr ≤ x.to := by simpa using hgt
          obtain ⟨r, hr, hp⟩ := hx.rep
          have e : x.fr.toNat = (x.to + 1).toNat := by omega
          rw [e, seg_self, List.append_nil] at hp
          exact ⟨x.s, rfl, .inr ⟨⟨v1, v2, v3⟩, x.s, x.lk, hr.perm hp, b6, by omega, rfl, rfl⟩⟩)
def c_9 (a : List R) (K : List R → List (List D) → Prop) : Prop := match a with
  | [.box [.v (.int .i64 kd), .v (.int .i64 k), .v (.int .i64 sc), .sl lv, .v (.int .i64 lk)], .d (.v (.int .i64 fr)), .d (.v (.int .i64 to))] =>
    ∃ vs lvls, lv = lvD lvls ∧ TreeOk kd k sc vs lvls ∧ kd ≠ 0 ∧ lvls.length ≤ 64 ∧ (0 ≤ lk ∧ lk ≤ 4611686018427387904) ∧ in64 fr ∧ in64 to ∧ ∀ res fin, ovQ kd k sc vs lvls lk fr to res fin → K res fin
  | _ => False
theorem c_9_ok (a : List R) (K : List R → List (List D) → Prop) (h : c_9 a K) : Ct prog 9 a K := by
  unfold c_9 at h
  split at h
  · obtain ⟨vs, lvls, rfl, h1, h2, h3, h4, h5, h6, h7⟩ := h
    exact (ct9 _ _ _ vs lvls _ _ _ h1 h2 h3 h4.1 h4.2 h5 h6).mono h7
  · exact h.elim
def C_b9 : CallT := addC C_b8 9 c_9
theorem C_b9_ok : CallsOk prog C_b9 := addC_ok C_b8_ok c_9_ok
end Go.Proofs.Try
