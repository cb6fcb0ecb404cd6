/- A part of the proof: contracts of functions, by a verified generator of conditions; no condition of its own. -/
import Derived.Test.YtfohenhmlfiijaaGreatDoorB8
namespace Go.Proofs.Tryz
open Go Go.Dm Go.Ex
set_option maxRecDepth 100000
variable {gl : Nat → Option Obj}
/-- A quotient. -/
def divP (a b : Int) : Int × Int := bif b == 0 then (0, 11) else bif b == -1 then (s207_0 a, s207_1 a) else (IntKind.i64.wrap (a.tdiv b), 0)
theorem vc205 (a b : Int) (Q : List R → List (List D) → Prop) : vc E_0 C_g5 noI fi72 (f72.body.getD .skip) f72.results.toList [.d (.v (.int .i64 a)), .d (.v (.int .i64 b))] Q = (
  ((b == (0 : Int)) = true → Q [R.d (D.v (Value.int IntKind.i64 (0 : Int))), R.d (D.v (Value.int IntKind.i64 (11 : Int)))] []) ∧ ((b == (0 : Int)) =
  false → ((b == (-1 : Int)) = true → Q [R.d (D.v (Value.int IntKind.i64 (s207_0 a))), R.d (D.v (Value.int IntKind.i64 (s207_1 a)))] []) ∧ ((b == (-1 :
  Int)) = false → b ≠ (0 : Int) ∧ Q [R.d (D.v (Value.int IntKind.i64 (IntKind.i64.wrap (a.tdiv b)))), R.d (D.v (Value.int IntKind.i64 (0 : Int)))] []))) := by kernel_rfl
theorem ct205 (a b : Int) : Ct prog gl 72 [.d (.v (.int .i64 a)), .d (.v (.int .i64 b))] (gives [.d (.v (.int .i64 (divP a b).1)), .d (.v (.int .i64 (divP a b).2))]) :=
  ct_of_vc E_ok C_g5_ok ioK_no it_ok mixed (fn := f72) (body := f72.body.getD .skip) (by kernel_rfl) (by kernel_rfl) (by kernel_rfl) (fi := fi72) (by kernel_rfl) (by kernel_rfl) ⟨_, _, rfl, rfl⟩ (by
    rw [vc205]
    refine ⟨fun h => ?_, fun h => ⟨fun h2 => ?_, fun h2 => ⟨by simpa using h, ?_⟩⟩⟩ <;> (simp only [divP, *, cond_true, cond_false]; exact ⟨rfl, rfl⟩))
def c_205 (a : List R) (K : List R → List (List D) → Prop) : Prop := match a with
  | [.d (.v (.int .i64 a)), .d (.v (.int .i64 b))] => K [.d (.v (.int .i64 (divP a b).1)), .d (.v (.int .i64 (divP a b).2))] []
  | _ => False
theorem c_205_ok (a : List R) (K : List R → List (List D) → Prop) (h : c_205 a K) : Ct prog gl 72 a K := by
  unfold c_205 at h
  split at h
  · exact (ct205 _ _).gives h
  · exact h.elim
def C_g6 : CallT := addC C_g5 72 c_205
theorem C_g6_ok : CallsOk prog gl C_g6 := addC_ok C_g5_ok c_205_ok
def ofI (n : Int) : Go.Ex.AV := ⟨⟨2, 0⟩, false, n, { data := { toList := [] : Array UInt8 } : ByteArray }⟩
def zeroV : Go.Ex.AV := ⟨⟨0, 0⟩, false, 0, { data := { toList := [] : Array UInt8 } : ByteArray }⟩
def opP (op a b : Int) : Int × Bool := if op = 3 then (s202_0 a b, s202_1 a b == 0) else ((divP a b).1, (divP a b).2 == 0)
theorem vc122 (op sub : Int) (t : Ty) (v : Go.Ex.AV) (args : List EX) (a b : Int) (Q : List R → List (List D) → Prop) : vc E_0 C_g6 noI fi43 (f43.body.getD .skip) f43.results.toList [.agg (encX op sub t v (cellsL args)), .agg (Ty.cs ⟨2, 0⟩), .d (.sl [(ofI a).cs, (ofI b).cs])] Q = (
  ∃ (es : List (List D)), D.sl [(ofI a).cs, (ofI b).cs] = D.sl es ∧ ((0 : Int) ≤ (0 : Int) ∧ (0 : Int) < (↑es.length : Int)) ∧ ∃ (cells : List D),
  es[Int.toNat (0 : Int)]? = some cells ∧ cells.length = (5 : Nat) ∧ ∃ (n : Int), ∃ (n_1 : Int), ∃ (b_1 : Bool), ∃ (n_2 : Int), ∃ (b_2 : ByteArray),
  cut ((0 : Nat)) ((5 : Nat)) cells = some [D.v (Value.int IntKind.i64 n), D.v (Value.int IntKind.i64 n_1), D.v (Value.bool b_1), D.v (Value.int
  IntKind.i64 n_2), D.v (Value.string b_2)] ∧ ∃ (es : List (List D)), D.sl [(ofI a).cs, (ofI b).cs] = D.sl es ∧ ∃ (es_1 : List (List D)), D.sl [(ofI
  a).cs, (ofI b).cs] = D.sl es_1 ∧ ((0 : Int) ≤ IntKind.i64.wrap ((↑es.length : Int) - (1 : Int)) ∧ IntKind.i64.wrap ((↑es.length : Int) - (1 : Int)) <
  (↑es_1.length : Int)) ∧ ∃ (cells : List D), es_1[(IntKind.i64.wrap ((↑es.length : Int) - (1 : Int))).toNat]? = some cells ∧ cells.length = (5 : Nat)
  ∧ ∃ (n : Int), ∃ (n_3 : Int), ∃ (b : Bool), ∃ (n_4 : Int), ∃ (b_3 : ByteArray), cut ((0 : Nat)) ((5 : Nat)) cells = some [D.v (Value.int IntKind.i64
  n), D.v (Value.int IntKind.i64 n_3), D.v (Value.bool b), D.v (Value.int IntKind.i64 n_4), D.v (Value.string b_3)] ∧ (((op == (9 : Int)) = true →
  False) ∧ ((op == (9 : Int)) = false → ((op == (17 : Int)) = true → b_2.size.add b_3.size ≤ (9223372036854775807 : Nat) ∧ False) ∧ ((op == (17 : Int))
  = false → ((op == (18 : Int)) = true → False) ∧ ((op == (18 : Int)) = false → ((bif (2 : Int) == (3 : Int) then op != (5 : Int) else false) = true →
  False) ∧ ((bif (2 : Int) == (3 : Int) then op != (5 : Int) else false) = false → ((op == (3 : Int)) = true → Q [R.agg [D.v (Value.int IntKind.i64 (2
  : Int)), D.v (Value.int IntKind.i64 (0 : Int)), D.v (Value.bool false), D.v (Value.int IntKind.i64 (s202_0 n_2 n_4)), D.v (Value.string { data := { toList := [] : Array UInt8 } : ByteArray })],
  R.d (D.v (Value.bool (bif s202_1 n_2 n_4 == (0 : Int) then s56_0 (2 : Int) (0 : Int) false (s202_0 n_2 n_4) { data := { toList := [] : Array UInt8 } : ByteArray }
  == (0 : Int) else false)))] []) ∧ ((op == (3 : Int)) = false → ((op == (4 : Int)) = true → Q [R.agg [D.v (Value.int IntKind.i64 (2 : Int)), D.v
  (Value.int IntKind.i64 (0 : Int)), D.v (Value.bool false), D.v (Value.int IntKind.i64 (s203_0 n_2 n_4)), D.v (Value.string { data := { toList := [] : Array UInt8 } : ByteArray })],
  R.d (D.v (Value.bool (bif s203_1 n_2 n_4 == (0 : Int) then s56_0 (2 : Int) (0 : Int) false (s203_0 n_2 n_4) { data := { toList := [] : Array UInt8 } : ByteArray }
  == (0 : Int) else false)))] []) ∧ ((op == (4 : Int)) = false → ((op == (5 : Int)) = true → False) ∧ ((op == (5 : Int)) = false → ((op == (6 : Int)) =
  true → Q [R.agg [D.v (Value.int IntKind.i64 (2 : Int)), D.v (Value.int IntKind.i64 (0 : Int)), D.v (Value.bool false), D.v (Value.int IntKind.i64
  (divP n_2 n_4).1), D.v (Value.string { data := { toList := [] : Array UInt8 } : ByteArray })], R.d (D.v (Value.bool (bif (divP n_2 n_4).2 == (0 :
  Int) then s56_0 (2 : Int) (0 : Int) false (divP n_2 n_4).1 { data := { toList := [] : Array UInt8 } : ByteArray } == (0 : Int) else false)))] []) ∧
  ((op == (6 : Int)) = false → ((op == (7 : Int)) = true → False) ∧ ((op == (7 : Int)) = false → ((op == (8 : Int)) = true → Q [R.agg [D.v (Value.int
  IntKind.i64 (2 : Int)), D.v (Value.int IntKind.i64 (0 : Int)), D.v (Value.bool false), D.v (Value.int IntKind.i64 (s207_0 n_2)), D.v (Value.string { data := { toList := [] : Array UInt8 } : ByteArray })],
  R.d (D.v (Value.bool (bif s207_1 n_2 == (0 : Int) then s56_0 (2 : Int) (0 : Int) false (s207_0 n_2) { data := { toList := [] : Array UInt8 } : ByteArray }
  == (0 : Int) else false)))] []) ∧ ((op == (8 : Int)) = false → Q [R.agg [D.v (Value.int IntKind.i64 (2 : Int)), D.v (Value.int IntKind.i64 (0 :
  Int)), D.v (Value.bool false), D.v (Value.int IntKind.i64 (0 : Int)), D.v (Value.string { data := { toList := [] : Array UInt8 } : ByteArray })], R.d
  (D.v (Value.bool (bif (0 : Int) == (0 : Int) then s56_0 (2 : Int) (0 : Int) false (0 : Int) { data := { toList := [] : Array UInt8 } : ByteArray } ==
  (0 : Int) else false)))] []))))))))))) ∧ ((op == (9 : Int)) = true → False) ∧ ((op == (9 : Int)) = false → ((op == (17 : Int)) = true → b_2.size.add
  b_3.size ≤ (9223372036854775807 : Nat) ∧ False) ∧ ((op == (17 : Int)) = false → ((op == (18 : Int)) = true → False) ∧ ((op == (18 : Int)) = false →
  ((bif (2 : Int) == (3 : Int) then op != (5 : Int) else false) = true → False) ∧ ((bif (2 : Int) == (3 : Int) then op != (5 : Int) else false) = false
  → ((op == (3 : Int)) = true → Q [R.agg [D.v (Value.int IntKind.i64 (2 : Int)), D.v (Value.int IntKind.i64 (0 : Int)), D.v (Value.bool false), D.v
  (Value.int IntKind.i64 (s202_0 n_2 n_4)), D.v (Value.string { data := { toList := [] : Array UInt8 } : ByteArray })], R.d (D.v (Value.bool (bif
  s202_1 n_2 n_4 == (0 : Int) then s56_0 (2 : Int) (0 : Int) false (s202_0 n_2 n_4) { data := { toList := [] : Array UInt8 } : ByteArray } == (0 : Int)
  else false)))] []) ∧ ((op == (3 : Int)) = false → ((op == (4 : Int)) = true → Q [R.agg [D.v (Value.int IntKind.i64 (2 : Int)), D.v (Value.int
  IntKind.i64 (0 : Int)), D.v (Value.bool false), D.v (Value.int IntKind.i64 (s203_0 n_2 n_4)), D.v (Value.string { data := { toList := [] : Array UInt8 } : ByteArray })],
  R.d (D.v (Value.bool (bif s203_1 n_2 n_4 == (0 : Int) then s56_0 (2 : Int) (0 : Int) false (s203_0 n_2 n_4) { data := { toList := [] : Array UInt8 } : ByteArray }
  == (0 : Int) else false)))] []) ∧ ((op == (4 : Int)) = false → ((op == (5 : Int)) = true → False) ∧ ((op == (5 : Int)) = false → ((op == (6 : Int)) =
  true → Q [R.agg [D.v (Value.int IntKind.i64 (2 : Int)), D.v (Value.int IntKind.i64 (0 : Int)), D.v (Value.bool false), D.v (Value.int IntKind.i64
  (divP n_2 n_4).1), D.v (Value.string { data := { toList := [] : Array UInt8 } : ByteArray })], R.d (D.v (Value.bool (bif (divP n_2 n_4).2 == (0 :
  Int) then s56_0 (2 : Int) (0 : Int) false (divP n_2 n_4).1 { data := { toList := [] : Array UInt8 } : ByteArray } == (0 : Int) else false)))] []) ∧
  ((op == (6 : Int)) = false → ((op == (7 : Int)) = true → False) ∧ ((op == (7 : Int)) = false → ((op == (8 : Int)) = true → Q [R.agg [D.v (Value.int
  IntKind.i64 (2 : Int)), D.v (Value.int IntKind.i64 (0 : Int)), D.v (Value.bool false), D.v (Value.int IntKind.i64 (s207_0 n_2)), D.v (Value.string { data := { toList := [] : Array UInt8 } : ByteArray })],
  R.d (D.v (Value.bool (bif s207_1 n_2 == (0 : Int) then s56_0 (2 : Int) (0 : Int) false (s207_0 n_2) { data := { toList := [] : Array UInt8 } : ByteArray }
  == (0 : Int) else false)))] []) ∧ ((op == (8 : Int)) = false → Q [R.agg [D.v (Value.int IntKind.i64 (2 : Int)), D.v (Value.int IntKind.i64 (0 :
  Int)), D.v (Value.bool false), D.v (Value.int IntKind.i64 (0 : Int)), D.v (Value.string { data := { toList := [] : Array UInt8 } : ByteArray })], R.d
  (D.v (Value.bool (bif (0 : Int) == (0 : Int) then s56_0 (2 : Int) (0 : Int) false (0 : Int) { data := { toList := [] : Array UInt8 } : ByteArray } ==
  (0 : Int) else false)))] []))))))))))) := by kernel_rfl
theorem ct122 (op sub : Int) (t : Ty) (v : Go.Ex.AV) (args : List EX) (a b : Int) (ho : op = 3 ∨ op = 6) : Ct prog gl 43 [.agg (encX op sub t v (cellsL args)), .agg (Ty.cs ⟨2, 0⟩), .d (.sl [(ofI a).cs, (ofI b).cs])] (gives [.agg (ofI (opP op a b).1).cs, .d (.v (.bool (opP op a b).2))]) :=
  ct_of_vc E_ok C_g6_ok ioK_no it_ok mixed (fn := f43) (body := f43.body.getD .skip) (by kernel_rfl) (by kernel_rfl) (by kernel_rfl) (fi := fi43) (by kernel_rfl) (by kernel_rfl) ⟨_, _, rfl, rfl⟩ (by
    rw [vc122]
    have hc : (s56_0 2 0 false (opP op a b).1 { data := { toList := [] : Array UInt8 } : ByteArray } == 0) = true := rfl
    refine ⟨_, rfl, ⟨by decide, by simp⟩, _, rfl, rfl, _, _, _, _, _, rfl, _, rfl, _, rfl, ⟨by simp; decide, by simp; decide⟩, _, rfl, rfl, _, _, _, _, _, rfl, ?_⟩
    rcases ho with rfl | rfl
    · constructor <;> repeat' (first | (refine And.intro ?_ ?_) | (intro h; first | (exact absurd h (by decide)) | skip))
      all_goals first | rfl | (simp only [opP, if_pos, show ∀ n, (ofI n).n = n from fun _ => rfl]; cases s202_1 a b == 0 <;> rfl)
    · constructor <;> repeat' (first | (refine And.intro ?_ ?_) | (intro h; first | (exact absurd h (by decide)) | skip))
      all_goals first | rfl | (simp only [opP, show ∀ n, (ofI n).n = n from fun _ => rfl, if_neg (show ¬ (6 : Int) = 3 by decide)]; cases (divP a b).2 == 0 <;> rfl))
mutual
/-- Sums and quotients of columns. -/
def plainE (m : Nat) : EX → Bool
  | .mk op sub _ _ args => (op == 1 && args.length == 0 && decide (0 ≤ sub) && decide (sub < m)) || ((op == 3 || op == 6) && args.length == 2 && plainL m args)
def plainL (m : Nat) : List EX → Bool
  | [] => true
  | e :: r => plainE m e && plainL m r
end
mutual
def evP (row : List Go.Ex.AV) : EX → Int × Bool
  | .mk op sub _ _ args => if op = 1 then ((row.getD sub.toNat zeroV).n, true) else match evPL row args with
    | some [a, b] => opP op a b
    | _ => (0, false)
def evPL (row : List Go.Ex.AV) : List EX → Option (List Int)
  | [] => some []
  | e :: r => match evP row e, evPL row r with
    | (a, true), some l => some (a :: l)
    | _, _ => none
end
def intRow (row : List Go.Ex.AV) : Prop := ∀ v ∈ row, v = ofI v.n
def c_122p (a : List R) (K : List R → List (List D) → Prop) : Prop := match a with
  | [.agg x, .agg y, .d (.sl z)] => ∃ (op sub : Int) (t : Ty) (v : Go.Ex.AV) (args : List EX) (a b : Int), x = encX op sub t v (cellsL args) ∧ y = Ty.cs ⟨2, 0⟩ ∧ z = [(ofI a).cs, (ofI b).cs] ∧ (op = 3 ∨ op = 6) ∧ K [.agg (ofI (opP op a b).1).cs, .d (.v (.bool (opP op a b).2))] []
  | _ => False
theorem c_122p_ok (a : List R) (K : List R → List (List D) → Prop) (h : c_122p a K) : Ct prog gl 43 a K := by
  unfold c_122p at h
  split at h
  · obtain ⟨op, sub, t, v, args, a, b, rfl, rfl, rfl, h1, h2⟩ := h
    exact (ct122 op sub t v args a b h1).gives h2
  · exact h.elim
def c_57p (n : Nat) (a : List R) (K : List R → List (List D) → Prop) : Prop := match a with
  | [.ptr [.sl r, .sl y], .agg x] => ∃ (e : EX) (row : List Go.Ex.AV), r = row.map Go.Ex.AV.cs ∧ y = (typesV row).map Ty.cs ∧ x = cells e ∧ size e < n ∧ fits e ∧ mayE row.length e = true ∧ plainE row.length e = true ∧ intRow row ∧ row.length ≤ 1353245080300 ∧ (∀ (w : Go.Ex.AV) (ok : Bool), ok = (evP row e).2 → (ok = true → w = ofI (evP row e).1) → K [.agg w.cs, .d (.v (.bool ok))] [])
  | _ => False
def C_f57p (n : Nat) : CallT := addC (addC C_g6 43 c_122p) 20 (c_57p n)
def E_9 : Env := { E_0 with bw := [20, 36, 37, 40] }
structure VX where
  i : Nat
  l : List Go.Ex.AV
def st_57 (op sub : Int) (t : Ty) (v : Go.Ex.AV) (args : List EX) (row : List Go.Ex.AV) (cols : List Ty) (x : VX) : St := { tm := [(0, .dptr [.sl (row.map Go.Ex.AV.cs), .sl (cols.map Ty.cs)]), (3, .ref 3 0), (4, .ref 4 0), (5, .d (.v (.bool false))), (6, .ref 6 0), (17, .own 163), (18, .d (.v (.bool (x.l.any (fun v => v.nul))))), (165, .d (.sl (cellsL args))), (166, .d (.v (.int .i64 ((cellsL args).length : Int)))), (167, .d (.v (.int .i64 (x.i : Int))))], hp := [(3, .box [.d (.v (.int .i64 op)), .d (.v (.int .i64 sub)), .d (.v (.int .i64 t.k)), .d (.v (.int .i64 t.sc)), .d (.v (.int .i64 v.t.k)), .d (.v (.int .i64 v.t.sc)), .d (.v (.bool v.nul)), .d (.v (.int .i64 v.n)), .d (.v (.string v.s)), .d (.sl (cellsL args))]), (4, .box [.d (.v (.int .i64 0)), .d (.v (.int .i64 0)), .d (.v (.bool false)), .d (.v (.int .i64 0)), .d (.v (.string { data := { toList := [] : Array UInt8 } : ByteArray }))]), (6, .box [.d (.v (.int .i64 (typedE cols (.mk op sub t v args)).1.k)), .d (.v (.int .i64 (typedE cols (.mk op sub t v args)).1.sc))]), (163, .lst 25 5 (x.l.map Go.Ex.AV.cs ++ List.replicate (args.length - x.i) zeroV.cs))], kn := [], gd := [] }
def inv_57 (row : List Go.Ex.AV) (args : List EX) (m : Nat) (x : VX) : Prop := x.i ≤ args.length ∧ m = args.length - x.i ∧ x.l.length = x.i ∧ ∃ l, evPL row (args.take x.i) = some l ∧ x.l = l.map ofI
def fx_57p (op sub : Int) (t : Ty) (v : Go.Ex.AV) (args : List EX) (row : List Go.Ex.AV) : Fi := { fi20 with lp := [(37, ([0, 3, 4, 5, 6, 17, 18, 165, 166, 167], [20, 21, 175]))], lx := [(37, { X := VX, sh := st_57 op sub t v args row (typesV row), P := fun _ => inv_57 row args })] }
theorem vc57 (n : Nat) (op sub : Int) (t : Ty) (v : Go.Ex.AV) (args : List EX) (row : List Go.Ex.AV) (Q : List R → List (List D) → Prop) : vc E_9 (C_f57p n) noI (fx_57p op sub t v args row) (f20.body.getD .skip) f20.results.toList [.ptr [.sl (row.map Go.Ex.AV.cs), .sl ((typesV row).map Ty.cs)], .agg (encX op sub t v (cellsL args))] Q = (
  ∃ (es : List (List D)), some [D.sl (List.map Ty.cs (typesV row))] = some [D.sl es] ∧ (∃ (e : EX), ∃ (cols : List Ty), [D.v (Value.int IntKind.i64 op),
  D.v (Value.int IntKind.i64 sub), D.v (Value.int IntKind.i64 t.1), D.v (Value.int IntKind.i64 t.2), D.v (Value.int IntKind.i64 v.1.1), D.v (Value.int
  IntKind.i64 v.1.2), D.v (Value.bool v.2), D.v (Value.int IntKind.i64 v.3), D.v (Value.string v.4), D.sl (cellsL args)] = cells e ∧ es = List.map
  Ty.cs cols ∧ fits e ∧ mayE (↑cols.length : Int) e = true ∧ cols.length ≤ (1353245080300 : Nat) ∧ ∀ (t_1 : Ty) (ok : Bool), typedE cols e = (t_1, ok)
  → ((op == (1 : Int)) = true → ∃ (es : List (List D)), some [D.sl (List.map AV.cs row)] = some [D.sl es] ∧ ∃ (es_1 : List (List D)), D.sl es = D.sl
  es_1 ∧ ((0 : Int) ≤ sub ∧ sub < (↑es_1.length : Int)) ∧ ∃ (cells : List D), es_1[sub.toNat]? = some cells ∧ cells.length = (5 : Nat) ∧ ∃ (n : Int), ∃
  (n_1 : Int), ∃ (b : Bool), ∃ (n_2 : Int), ∃ (b_1 : ByteArray), cut ((0 : Nat)) ((5 : Nat)) cells = some [D.v (Value.int IntKind.i64 n), D.v
  (Value.int IntKind.i64 n_1), D.v (Value.bool b), D.v (Value.int IntKind.i64 n_2), D.v (Value.string b_1)] ∧ Q [R.agg [D.v (Value.int IntKind.i64 n),
  D.v (Value.int IntKind.i64 n_1), D.v (Value.bool b), D.v (Value.int IntKind.i64 n_2), D.v (Value.string b_1)], R.d (D.v (Value.bool true))] []) ∧
  ((op == (1 : Int)) = false → ((op == (2 : Int)) = true → Q [R.agg [D.v (Value.int IntKind.i64 v.1.1), D.v (Value.int IntKind.i64 v.1.2), D.v
  (Value.bool v.2), D.v (Value.int IntKind.i64 v.3), D.v (Value.string v.4)], R.d (D.v (Value.bool true))] []) ∧ ((op == (2 : Int)) = false → ((op ==
  (10 : Int)) = true → False) ∧ ((op == (10 : Int)) = false → ((op == (11 : Int)) = true → False) ∧ ((op == (11 : Int)) = false → ((op == (12 : Int)) =
  true → ∃ (es : List (List D)), D.sl (cellsL args) = D.sl es ∧ ((0 : Int) ≤ (0 : Int) ∧ (0 : Int) < (↑es.length : Int)) ∧ ∃ (cells : List D),
  es[Int.toNat (0 : Int)]? = some cells ∧ cells.length = (10 : Nat) ∧ ∃ (n : Int), ∃ (n_1 : Int), ∃ (n_2 : Int), ∃ (n_3 : Int), ∃ (n_4 : Int), ∃ (n_5 :
  Int), ∃ (b : Bool), ∃ (n_6 : Int), ∃ (b_1 : ByteArray), ∃ (es : List (List D)), cut ((0 : Nat)) ((10 : Nat)) cells = some [D.v (Value.int IntKind.i64
  n), D.v (Value.int IntKind.i64 n_1), D.v (Value.int IntKind.i64 n_2), D.v (Value.int IntKind.i64 n_3), D.v (Value.int IntKind.i64 n_4), D.v
  (Value.int IntKind.i64 n_5), D.v (Value.bool b), D.v (Value.int IntKind.i64 n_6), D.v (Value.string b_1), D.sl es] ∧ False) ∧ ((op == (12 : Int)) =
  false → ((op == (16 : Int)) = true → ∃ (es : List (List D)), D.sl (cellsL args) = D.sl es ∧ ((0 : Int) ≤ (0 : Int) ∧ (0 : Int) < (↑es.length : Int))
  ∧ ∃ (cells : List D), es[Int.toNat (0 : Int)]? = some cells ∧ cells.length = (10 : Nat) ∧ ∃ (n : Int), ∃ (n_1 : Int), ∃ (n_2 : Int), ∃ (n_3 : Int), ∃
  (n_4 : Int), ∃ (n_5 : Int), ∃ (b : Bool), ∃ (n_6 : Int), ∃ (b_1 : ByteArray), ∃ (es : List (List D)), cut ((0 : Nat)) ((10 : Nat)) cells = some [D.v
  (Value.int IntKind.i64 n), D.v (Value.int IntKind.i64 n_1), D.v (Value.int IntKind.i64 n_2), D.v (Value.int IntKind.i64 n_3), D.v (Value.int
  IntKind.i64 n_4), D.v (Value.int IntKind.i64 n_5), D.v (Value.bool b), D.v (Value.int IntKind.i64 n_6), D.v (Value.string b_1), D.sl es] ∧ False) ∧
  ((op == (16 : Int)) = false → ((op == (14 : Int)) = true → False) ∧ ((op == (14 : Int)) = false → ((op == (15 : Int)) = true → ∃ (es : List (List
  D)), D.sl (cellsL args) = D.sl es ∧ False) ∧ ((op == (15 : Int)) = false → ∃ (es : List (List D)), D.sl (cellsL args) = D.sl es ∧ (0 : Int) ≤
  (↑es.length : Int) ∧ (↑es.length : Int) ≤ (↑es.length : Int) ∧ (↑es.length : Int) * (↑((48 : Nat)) : Int) ≤ (140737488355328 : Int) ∧ (↑es.length :
  Int) ≤ (140737488355328 : Int) ∧ ∃ (es_1 : List (List D)), D.sl (cellsL args) = D.sl es_1 ∧ ∃ (x0 : { X := VX, sh := st_57 op sub t v args row (typesV row), P := fun (x : VX) => inv_57 row args : LX }.X),
  ({ tm := [((0 : Nat), V.dptr [D.sl (List.map AV.cs row), D.sl (List.map Ty.cs (typesV row))]), ((3 : Nat), V.ref ((3 : Nat)) ((0 : Nat))), ((4 : Nat), V.ref ((4 : Nat)) ((0 : Nat))), ((5 : Nat), V.d (D.v (Value.bool false))), ((6 : Nat), V.ref ((6 : Nat)) ((0 : Nat))), ((17 : Nat), V.own ((163 : Nat))), ((18 : Nat), V.d (D.v (Value.bool false))), ((165 : Nat), V.d (D.sl (cellsL args))), ((166 : Nat), V.d (D.v (Value.int IntKind.i64 (↑es_1.length : Int)))), ((167 : Nat), V.d (D.v (Value.int IntKind.i64 (0 : Int))))], hp := [((3 : Nat), B.box [V.d (D.v (Value.int IntKind.i64 op)), V.d (D.v (Value.int IntKind.i64 sub)), V.d (D.v (Value.int IntKind.i64 t.1)), V.d (D.v (Value.int IntKind.i64 t.2)), V.d (D.v (Value.int IntKind.i64 v.1.1)), V.d (D.v (Value.int IntKind.i64 v.1.2)), V.d (D.v (Value.bool v.2)), V.d (D.v (Value.int IntKind.i64 v.3)), V.d (D.v (Value.string v.4)), V.d (D.sl (cellsL args))]), ((4 : Nat), B.box [V.d (D.v (Value.int IntKind.i64 (0 : Int))), V.d (D.v (Value.int IntKind.i64 (0 : Int))), V.d (D.v (Value.bool false)), V.d (D.v (Value.int IntKind.i64 (0 : Int))), V.d (D.v (Value.string { data := { toList := [] : Array UInt8 } : ByteArray }))]), ((6 : Nat), B.box [V.d (D.v (Value.int IntKind.i64 t_1.1)), V.d (D.v (Value.int IntKind.i64 t_1.2))]), ((163 : Nat), B.lst ((25 : Nat)) ((5 : Nat)) (List.replicate (↑es.length : Int).toNat [D.v (Value.int IntKind.i64 (0 : Int)), D.v (Value.int IntKind.i64 (0 : Int)), D.v (Value.bool false), D.v (Value.int IntKind.i64 (0 : Int)), D.v (Value.string { data := { toList := [] : Array UInt8 } : ByteArray })]))], kn := [], gd := [] : St }
  = { tm := [((0 : Nat), V.dptr [D.sl (List.map AV.cs row), D.sl (List.map Ty.cs (typesV row))]), ((3 : Nat), V.ref ((3 : Nat)) ((0 : Nat))), ((4 : Nat), V.ref ((4 : Nat)) ((0 : Nat))), ((5 : Nat), V.d (D.v (Value.bool false))), ((6 : Nat), V.ref ((6 : Nat)) ((0 : Nat))), ((17 : Nat), V.own ((163 : Nat))), ((18 : Nat), V.d (D.v (Value.bool (x0.2.any fun (v : AV) => v.nul)))), ((165 : Nat), V.d (D.sl (cellsL args))), ((166 : Nat), V.d (D.v (Value.int IntKind.i64 (↑(cellsL args).length : Int)))), ((167 : Nat), V.d (D.v (Value.int IntKind.i64 (↑x0.1 : Int))))], hp := [((3 : Nat), B.box [V.d (D.v (Value.int IntKind.i64 op)), V.d (D.v (Value.int IntKind.i64 sub)), V.d (D.v (Value.int IntKind.i64 t.1)), V.d (D.v (Value.int IntKind.i64 t.2)), V.d (D.v (Value.int IntKind.i64 v.1.1)), V.d (D.v (Value.int IntKind.i64 v.1.2)), V.d (D.v (Value.bool v.2)), V.d (D.v (Value.int IntKind.i64 v.3)), V.d (D.v (Value.string v.4)), V.d (D.sl (cellsL args))]), ((4 : Nat), B.box [V.d (D.v (Value.int IntKind.i64 (0 : Int))), V.d (D.v (Value.int IntKind.i64 (0 : Int))), V.d (D.v (Value.bool false)), V.d (D.v (Value.int IntKind.i64 (0 : Int))), V.d (D.v (Value.string { data := { toList := [] : Array UInt8 } : ByteArray }))]), ((6 : Nat), B.box [V.d (D.v (Value.int IntKind.i64 (typedE (typesV row) (EX.mk op sub t v args)).1.1)), V.d (D.v (Value.int IntKind.i64 (typedE (typesV row) (EX.mk op sub t v args)).1.2))]), ((163 : Nat), B.lst ((25 : Nat)) ((5 : Nat)) (List.map AV.cs x0.2 ++ List.replicate (args.length - x0.1) zeroV.cs))], kn := [], gd := [] : St }
  ∧ ∃ (n : Nat), inv_57 row args n x0) ∧ ∀ (n_1 : Nat) (x : { X := VX, sh := st_57 op sub t v args row (typesV row), P := fun (x : VX) => inv_57 row args : LX }.X),
  inv_57 row args n_1 x → (decide ((↑x.1 : Int) < (↑(cellsL args).length : Int)) = true → ∃ (es : List (List D)), D.sl (cellsL args) = D.sl es ∧ ((0 :
  Int) ≤ (↑x.1 : Int) ∧ (↑x.1 : Int) < (↑es.length : Int)) ∧ ∃ (cells : List D), es[(↑x.1 : Int).toNat]? = some cells ∧ cells.length = (10 : Nat) ∧ ∃
  (n_2 : Int), ∃ (n_3 : Int), ∃ (n_4 : Int), ∃ (n_5 : Int), ∃ (n_6 : Int), ∃ (n_7 : Int), ∃ (b : Bool), ∃ (n_8 : Int), ∃ (b_1 : ByteArray), ∃ (es :
  List (List D)), cut ((0 : Nat)) ((10 : Nat)) cells = some [D.v (Value.int IntKind.i64 n_2), D.v (Value.int IntKind.i64 n_3), D.v (Value.int
  IntKind.i64 n_4), D.v (Value.int IntKind.i64 n_5), D.v (Value.int IntKind.i64 n_6), D.v (Value.int IntKind.i64 n_7), D.v (Value.bool b), D.v
  (Value.int IntKind.i64 n_8), D.v (Value.string b_1), D.sl es] ∧ ∃ (e : EX), ∃ (row_1 : List AV), List.map AV.cs row = List.map AV.cs row_1 ∧ List.map
  Ty.cs (typesV row) = List.map Ty.cs (typesV row_1) ∧ [D.v (Value.int IntKind.i64 n_2), D.v (Value.int IntKind.i64 n_3), D.v (Value.int IntKind.i64
  n_4), D.v (Value.int IntKind.i64 n_5), D.v (Value.int IntKind.i64 n_6), D.v (Value.int IntKind.i64 n_7), D.v (Value.bool b), D.v (Value.int
  IntKind.i64 n_8), D.v (Value.string b_1), D.sl es] = Ex.cells e ∧ size e < n ∧ fits e ∧ mayE (↑row_1.length : Int) e = true ∧ plainE row_1.length e =
  true ∧ intRow row_1 ∧ row_1.length ≤ (1353245080300 : Nat) ∧ ∀ (w : AV) (ok : Bool), ok = (evP row_1 e).2 → (ok = true → w = ofI (evP row_1 e).1) →
  ((!ok) = true → Q [R.agg [D.v (Value.int IntKind.i64 (0 : Int)), D.v (Value.int IntKind.i64 (0 : Int)), D.v (Value.bool false), D.v (Value.int
  IntKind.i64 (0 : Int)), D.v (Value.string { data := { toList := [] : Array UInt8 } : ByteArray })], R.d (D.v (Value.bool false))] []) ∧ ((!ok) =
  false → ((0 : Int) ≤ (↑x.1 : Int) ∧ (↑x.1 : Int) < (↑(List.map AV.cs x.2 ++ List.replicate (args.length - x.1) zeroV.cs).length : Int)) ∧ (5 : Nat) =
  (5 : Nat) ∧ ∃ (cells : List D), (List.map AV.cs x.2 ++ List.replicate (args.length - x.1) zeroV.cs)[(↑x.1 : Int).toNat]? = some cells ∧ ∃ (cells' :
  List D), over ((0 : Nat)) [D.v (Value.int IntKind.i64 w.1.1), D.v (Value.int IntKind.i64 w.1.2), D.v (Value.bool w.2), D.v (Value.int IntKind.i64
  w.3), D.v (Value.string w.4)] cells = some cells' ∧ ∃ (m : Nat), ∃ (x' : { X := VX, sh := st_57 op sub t v args row (typesV row), P := fun (x : VX) => inv_57 row args : LX }.X),
  m < n_1 ∧ { tm := [((0 : Nat), V.dptr [D.sl (List.map AV.cs row), D.sl (List.map Ty.cs (typesV row))]), ((3 : Nat), V.ref ((3 : Nat)) ((0 : Nat))), ((4 : Nat), V.ref ((4 : Nat)) ((0 : Nat))), ((5 : Nat), V.d (D.v (Value.bool false))), ((6 : Nat), V.ref ((6 : Nat)) ((0 : Nat))), ((17 : Nat), V.own ((163 : Nat))), ((18 : Nat), V.d (D.v (Value.bool (bif x.2.any fun (v : AV) => v.nul then true else w.2)))), ((165 : Nat), V.d (D.sl (cellsL args))), ((166 : Nat), V.d (D.v (Value.int IntKind.i64 (↑(cellsL args).length : Int)))), ((167 : Nat), V.d (D.v (Value.int IntKind.i64 (IntKind.i64.wrap ((↑x.1 : Int) + (1 : Int))))))], hp := [((3 : Nat), B.box [V.d (D.v (Value.int IntKind.i64 op)), V.d (D.v (Value.int IntKind.i64 sub)), V.d (D.v (Value.int IntKind.i64 t.1)), V.d (D.v (Value.int IntKind.i64 t.2)), V.d (D.v (Value.int IntKind.i64 v.1.1)), V.d (D.v (Value.int IntKind.i64 v.1.2)), V.d (D.v (Value.bool v.2)), V.d (D.v (Value.int IntKind.i64 v.3)), V.d (D.v (Value.string v.4)), V.d (D.sl (cellsL args))]), ((4 : Nat), B.box [V.d (D.v (Value.int IntKind.i64 (0 : Int))), V.d (D.v (Value.int IntKind.i64 (0 : Int))), V.d (D.v (Value.bool false)), V.d (D.v (Value.int IntKind.i64 (0 : Int))), V.d (D.v (Value.string { data := { toList := [] : Array UInt8 } : ByteArray }))]), ((6 : Nat), B.box [V.d (D.v (Value.int IntKind.i64 (typedE (typesV row) (EX.mk op sub t v args)).1.1)), V.d (D.v (Value.int IntKind.i64 (typedE (typesV row) (EX.mk op sub t v args)).1.2))]), ((163 : Nat), B.lst ((25 : Nat)) ((5 : Nat)) ((List.map AV.cs x.2 ++ List.replicate (args.length - x.1) zeroV.cs).set (↑x.1 : Int).toNat cells'))], kn := [], gd := [] : St }
  = { tm := [((0 : Nat), V.dptr [D.sl (List.map AV.cs row), D.sl (List.map Ty.cs (typesV row))]), ((3 : Nat), V.ref ((3 : Nat)) ((0 : Nat))), ((4 : Nat), V.ref ((4 : Nat)) ((0 : Nat))), ((5 : Nat), V.d (D.v (Value.bool false))), ((6 : Nat), V.ref ((6 : Nat)) ((0 : Nat))), ((17 : Nat), V.own ((163 : Nat))), ((18 : Nat), V.d (D.v (Value.bool (x'.2.any fun (v : AV) => v.nul)))), ((165 : Nat), V.d (D.sl (cellsL args))), ((166 : Nat), V.d (D.v (Value.int IntKind.i64 (↑(cellsL args).length : Int)))), ((167 : Nat), V.d (D.v (Value.int IntKind.i64 (↑x'.1 : Int))))], hp := [((3 : Nat), B.box [V.d (D.v (Value.int IntKind.i64 op)), V.d (D.v (Value.int IntKind.i64 sub)), V.d (D.v (Value.int IntKind.i64 t.1)), V.d (D.v (Value.int IntKind.i64 t.2)), V.d (D.v (Value.int IntKind.i64 v.1.1)), V.d (D.v (Value.int IntKind.i64 v.1.2)), V.d (D.v (Value.bool v.2)), V.d (D.v (Value.int IntKind.i64 v.3)), V.d (D.v (Value.string v.4)), V.d (D.sl (cellsL args))]), ((4 : Nat), B.box [V.d (D.v (Value.int IntKind.i64 (0 : Int))), V.d (D.v (Value.int IntKind.i64 (0 : Int))), V.d (D.v (Value.bool false)), V.d (D.v (Value.int IntKind.i64 (0 : Int))), V.d (D.v (Value.string { data := { toList := [] : Array UInt8 } : ByteArray }))]), ((6 : Nat), B.box [V.d (D.v (Value.int IntKind.i64 (typedE (typesV row) (EX.mk op sub t v args)).1.1)), V.d (D.v (Value.int IntKind.i64 (typedE (typesV row) (EX.mk op sub t v args)).1.2))]), ((163 : Nat), B.lst ((25 : Nat)) ((5 : Nat)) (List.map AV.cs x'.2 ++ List.replicate (args.length - x'.1) zeroV.cs))], kn := [], gd := [] : St }
  ∧ inv_57 row args m x')) ∧ (decide ((↑x.1 : Int) < (↑(cellsL args).length : Int)) = false → ((op == (13 : Int)) = true → False) ∧ ((op == (13 : Int))
  = false → ((x.2.any fun (v : AV) => v.nul) = true → Q [R.agg [D.v (Value.int IntKind.i64 (typedE (typesV row) (EX.mk op sub t v args)).1.1), D.v
  (Value.int IntKind.i64 (typedE (typesV row) (EX.mk op sub t v args)).1.2), D.v (Value.bool true), D.v (Value.int IntKind.i64 (0 : Int)), D.v
  (Value.string { data := { toList := [] : Array UInt8 } : ByteArray })], R.d (D.v (Value.bool true))] []) ∧ ((x.2.any fun (v : AV) => v.nul) = false →
  ∃ (op_1 : Int), ∃ (sub_1 : Int), ∃ (t_2 : Ty), ∃ (v_1 : AV), ∃ (args_1 : List EX), ∃ (a : Int), ∃ (b : Int), [D.v (Value.int IntKind.i64 op), D.v
  (Value.int IntKind.i64 sub), D.v (Value.int IntKind.i64 t.1), D.v (Value.int IntKind.i64 t.2), D.v (Value.int IntKind.i64 v.1.1), D.v (Value.int
  IntKind.i64 v.1.2), D.v (Value.bool v.2), D.v (Value.int IntKind.i64 v.3), D.v (Value.string v.4), D.sl (cellsL args)] = [D.v (Value.int IntKind.i64
  op_1), D.v (Value.int IntKind.i64 sub_1), D.v (Value.int IntKind.i64 t_2.1), D.v (Value.int IntKind.i64 t_2.2), D.v (Value.int IntKind.i64 v_1.1.1),
  D.v (Value.int IntKind.i64 v_1.1.2), D.v (Value.bool v_1.2), D.v (Value.int IntKind.i64 v_1.3), D.v (Value.string v_1.4), D.sl (cellsL args_1)] ∧
  [D.v (Value.int IntKind.i64 (typedE (typesV row) (EX.mk op sub t v args)).1.1), D.v (Value.int IntKind.i64 (typedE (typesV row) (EX.mk op sub t v
  args)).1.2)] = { k := (2 : Int), sc := (0 : Int) : Ty }.cs ∧ List.map AV.cs x.2 ++ List.replicate (args.length - x.1) zeroV.cs = [(ofI a).cs, (ofI
  b).cs] ∧ (op_1 = (3 : Int) ∨ op_1 = (6 : Int)) ∧ Q [R.agg [D.v (Value.int IntKind.i64 (2 : Int)), D.v (Value.int IntKind.i64 (0 : Int)), D.v
  (Value.bool false), D.v (Value.int IntKind.i64 (opP op_1 a b).1), D.v (Value.string { data := { toList := [] : Array UInt8 } : ByteArray })], R.d
  (D.v (Value.bool (opP op_1 a b).2))] [])))))))))))) ∧ ∃ (e : EX), ∃ (cols : List Ty), [D.v (Value.int IntKind.i64 op), D.v (Value.int IntKind.i64
  sub), D.v (Value.int IntKind.i64 t.1), D.v (Value.int IntKind.i64 t.2), D.v (Value.int IntKind.i64 v.1.1), D.v (Value.int IntKind.i64 v.1.2), D.v
  (Value.bool v.2), D.v (Value.int IntKind.i64 v.3), D.v (Value.string v.4), D.sl (cellsL args)] = cells e ∧ es = List.map Ty.cs cols ∧ fits e ∧ mayE
  (↑cols.length : Int) e = true ∧ cols.length ≤ (1353245080300 : Nat) ∧ ∀ (t_1 : Ty) (ok : Bool), typedE cols e = (t_1, ok) → ((op == (1 : Int)) = true
  → ∃ (es : List (List D)), some [D.sl (List.map AV.cs row)] = some [D.sl es] ∧ ∃ (es_1 : List (List D)), D.sl es = D.sl es_1 ∧ ((0 : Int) ≤ sub ∧ sub
  < (↑es_1.length : Int)) ∧ ∃ (cells : List D), es_1[sub.toNat]? = some cells ∧ cells.length = (5 : Nat) ∧ ∃ (n : Int), ∃ (n_1 : Int), ∃ (b : Bool), ∃
  (n_2 : Int), ∃ (b_1 : ByteArray), cut ((0 : Nat)) ((5 : Nat)) cells = some [D.v (Value.int IntKind.i64 n), D.v (Value.int IntKind.i64 n_1), D.v
  (Value.bool b), D.v (Value.int IntKind.i64 n_2), D.v (Value.string b_1)] ∧ Q [R.agg [D.v (Value.int IntKind.i64 n), D.v (Value.int IntKind.i64 n_1),
  D.v (Value.bool b), D.v (Value.int IntKind.i64 n_2), D.v (Value.string b_1)], R.d (D.v (Value.bool true))] []) ∧ ((op == (1 : Int)) = false → ((op ==
  (2 : Int)) = true → Q [R.agg [D.v (Value.int IntKind.i64 v.1.1), D.v (Value.int IntKind.i64 v.1.2), D.v (Value.bool v.2), D.v (Value.int IntKind.i64
  v.3), D.v (Value.string v.4)], R.d (D.v (Value.bool true))] []) ∧ ((op == (2 : Int)) = false → ((op == (10 : Int)) = true → False) ∧ ((op == (10 :
  Int)) = false → ((op == (11 : Int)) = true → False) ∧ ((op == (11 : Int)) = false → ((op == (12 : Int)) = true → ∃ (es : List (List D)), D.sl (cellsL
  args) = D.sl es ∧ ((0 : Int) ≤ (0 : Int) ∧ (0 : Int) < (↑es.length : Int)) ∧ ∃ (cells : List D), es[Int.toNat (0 : Int)]? = some cells ∧ cells.length
  = (10 : Nat) ∧ ∃ (n : Int), ∃ (n_1 : Int), ∃ (n_2 : Int), ∃ (n_3 : Int), ∃ (n_4 : Int), ∃ (n_5 : Int), ∃ (b : Bool), ∃ (n_6 : Int), ∃ (b_1 :
  ByteArray), ∃ (es : List (List D)), cut ((0 : Nat)) ((10 : Nat)) cells = some [D.v (Value.int IntKind.i64 n), D.v (Value.int IntKind.i64 n_1), D.v
  (Value.int IntKind.i64 n_2), D.v (Value.int IntKind.i64 n_3), D.v (Value.int IntKind.i64 n_4), D.v (Value.int IntKind.i64 n_5), D.v (Value.bool b),
  D.v (Value.int IntKind.i64 n_6), D.v (Value.string b_1), D.sl es] ∧ False) ∧ ((op == (12 : Int)) = false → ((op == (16 : Int)) = true → ∃ (es : List
  (List D)), D.sl (cellsL args) = D.sl es ∧ ((0 : Int) ≤ (0 : Int) ∧ (0 : Int) < (↑es.length : Int)) ∧ ∃ (cells : List D), es[Int.toNat (0 : Int)]? =
  some cells ∧ cells.length = (10 : Nat) ∧ ∃ (n : Int), ∃ (n_1 : Int), ∃ (n_2 : Int), ∃ (n_3 : Int), ∃ (n_4 : Int), ∃ (n_5 : Int), ∃ (b : Bool), ∃ (n_6
  : Int), ∃ (b_1 : ByteArray), ∃ (es : List (List D)), cut ((0 : Nat)) ((10 : Nat)) cells = some [D.v (Value.int IntKind.i64 n), D.v (Value.int
  IntKind.i64 n_1), D.v (Value.int IntKind.i64 n_2), D.v (Value.int IntKind.i64 n_3), D.v (Value.int IntKind.i64 n_4), D.v (Value.int IntKind.i64 n_5),
  D.v (Value.bool b), D.v (Value.int IntKind.i64 n_6), D.v (Value.string b_1), D.sl es] ∧ False) ∧ ((op == (16 : Int)) = false → ((op == (14 : Int)) =
  true → False) ∧ ((op == (14 : Int)) = false → ((op == (15 : Int)) = true → ∃ (es : List (List D)), D.sl (cellsL args) = D.sl es ∧ False) ∧ ((op ==
  (15 : Int)) = false → ∃ (es : List (List D)), D.sl (cellsL args) = D.sl es ∧ (0 : Int) ≤ (↑es.length : Int) ∧ (↑es.length : Int) ≤ (↑es.length : Int)
  ∧ (↑es.length : Int) * (↑((48 : Nat)) : Int) ≤ (140737488355328 : Int) ∧ (↑es.length : Int) ≤ (140737488355328 : Int) ∧ ∃ (es_1 : List (List D)),
  D.sl (cellsL args) = D.sl es_1 ∧ ∃ (x0 : { X := VX, sh := st_57 op sub t v args row (typesV row), P := fun (x : VX) => inv_57 row args : LX }.X), ({ tm := [((0 : Nat), V.dptr [D.sl (List.map AV.cs row), D.sl (List.map Ty.cs (typesV row))]), ((3 : Nat), V.ref ((3 : Nat)) ((0 : Nat))), ((4 : Nat), V.ref ((4 : Nat)) ((0 : Nat))), ((5 : Nat), V.d (D.v (Value.bool false))), ((6 : Nat), V.ref ((6 : Nat)) ((0 : Nat))), ((17 : Nat), V.own ((163 : Nat))), ((18 : Nat), V.d (D.v (Value.bool false))), ((165 : Nat), V.d (D.sl (cellsL args))), ((166 : Nat), V.d (D.v (Value.int IntKind.i64 (↑es_1.length : Int)))), ((167 : Nat), V.d (D.v (Value.int IntKind.i64 (0 : Int))))], hp := [((3 : Nat), B.box [V.d (D.v (Value.int IntKind.i64 op)), V.d (D.v (Value.int IntKind.i64 sub)), V.d (D.v (Value.int IntKind.i64 t.1)), V.d (D.v (Value.int IntKind.i64 t.2)), V.d (D.v (Value.int IntKind.i64 v.1.1)), V.d (D.v (Value.int IntKind.i64 v.1.2)), V.d (D.v (Value.bool v.2)), V.d (D.v (Value.int IntKind.i64 v.3)), V.d (D.v (Value.string v.4)), V.d (D.sl (cellsL args))]), ((4 : Nat), B.box [V.d (D.v (Value.int IntKind.i64 (0 : Int))), V.d (D.v (Value.int IntKind.i64 (0 : Int))), V.d (D.v (Value.bool false)), V.d (D.v (Value.int IntKind.i64 (0 : Int))), V.d (D.v (Value.string { data := { toList := [] : Array UInt8 } : ByteArray }))]), ((6 : Nat), B.box [V.d (D.v (Value.int IntKind.i64 t_1.1)), V.d (D.v (Value.int IntKind.i64 t_1.2))]), ((163 : Nat), B.lst ((25 : Nat)) ((5 : Nat)) (List.replicate (↑es.length : Int).toNat [D.v (Value.int IntKind.i64 (0 : Int)), D.v (Value.int IntKind.i64 (0 : Int)), D.v (Value.bool false), D.v (Value.int IntKind.i64 (0 : Int)), D.v (Value.string { data := { toList := [] : Array UInt8 } : ByteArray })]))], kn := [], gd := [] : St }
  = { tm := [((0 : Nat), V.dptr [D.sl (List.map AV.cs row), D.sl (List.map Ty.cs (typesV row))]), ((3 : Nat), V.ref ((3 : Nat)) ((0 : Nat))), ((4 : Nat), V.ref ((4 : Nat)) ((0 : Nat))), ((5 : Nat), V.d (D.v (Value.bool false))), ((6 : Nat), V.ref ((6 : Nat)) ((0 : Nat))), ((17 : Nat), V.own ((163 : Nat))), ((18 : Nat), V.d (D.v (Value.bool (x0.2.any fun (v : AV) => v.nul)))), ((165 : Nat), V.d (D.sl (cellsL args))), ((166 : Nat), V.d (D.v (Value.int IntKind.i64 (↑(cellsL args).length : Int)))), ((167 : Nat), V.d (D.v (Value.int IntKind.i64 (↑x0.1 : Int))))], hp := [((3 : Nat), B.box [V.d (D.v (Value.int IntKind.i64 op)), V.d (D.v (Value.int IntKind.i64 sub)), V.d (D.v (Value.int IntKind.i64 t.1)), V.d (D.v (Value.int IntKind.i64 t.2)), V.d (D.v (Value.int IntKind.i64 v.1.1)), V.d (D.v (Value.int IntKind.i64 v.1.2)), V.d (D.v (Value.bool v.2)), V.d (D.v (Value.int IntKind.i64 v.3)), V.d (D.v (Value.string v.4)), V.d (D.sl (cellsL args))]), ((4 : Nat), B.box [V.d (D.v (Value.int IntKind.i64 (0 : Int))), V.d (D.v (Value.int IntKind.i64 (0 : Int))), V.d (D.v (Value.bool false)), V.d (D.v (Value.int IntKind.i64 (0 : Int))), V.d (D.v (Value.string { data := { toList := [] : Array UInt8 } : ByteArray }))]), ((6 : Nat), B.box [V.d (D.v (Value.int IntKind.i64 (typedE (typesV row) (EX.mk op sub t v args)).1.1)), V.d (D.v (Value.int IntKind.i64 (typedE (typesV row) (EX.mk op sub t v args)).1.2))]), ((163 : Nat), B.lst ((25 : Nat)) ((5 : Nat)) (List.map AV.cs x0.2 ++ List.replicate (args.length - x0.1) zeroV.cs))], kn := [], gd := [] : St }
  ∧ ∃ (n : Nat), inv_57 row args n x0) ∧ ∀ (n_1 : Nat) (x : { X := VX, sh := st_57 op sub t v args row (typesV row), P := fun (x : VX) => inv_57 row args : LX }.X),
  inv_57 row args n_1 x → (decide ((↑x.1 : Int) < (↑(cellsL args).length : Int)) = true → ∃ (es : List (List D)), D.sl (cellsL args) = D.sl es ∧ ((0 :
  Int) ≤ (↑x.1 : Int) ∧ (↑x.1 : Int) < (↑es.length : Int)) ∧ ∃ (cells : List D), es[(↑x.1 : Int).toNat]? = some cells ∧ cells.length = (10 : Nat) ∧ ∃
  (n_2 : Int), ∃ (n_3 : Int), ∃ (n_4 : Int), ∃ (n_5 : Int), ∃ (n_6 : Int), ∃ (n_7 : Int), ∃ (b : Bool), ∃ (n_8 : Int), ∃ (b_1 : ByteArray), ∃ (es :
  List (List D)), cut ((0 : Nat)) ((10 : Nat)) cells = some [D.v (Value.int IntKind.i64 n_2), D.v (Value.int IntKind.i64 n_3), D.v (Value.int
  IntKind.i64 n_4), D.v (Value.int IntKind.i64 n_5), D.v (Value.int IntKind.i64 n_6), D.v (Value.int IntKind.i64 n_7), D.v (Value.bool b), D.v
  (Value.int IntKind.i64 n_8), D.v (Value.string b_1), D.sl es] ∧ ∃ (e : EX), ∃ (row_1 : List AV), List.map AV.cs row = List.map AV.cs row_1 ∧ List.map
  Ty.cs (typesV row) = List.map Ty.cs (typesV row_1) ∧ [D.v (Value.int IntKind.i64 n_2), D.v (Value.int IntKind.i64 n_3), D.v (Value.int IntKind.i64
  n_4), D.v (Value.int IntKind.i64 n_5), D.v (Value.int IntKind.i64 n_6), D.v (Value.int IntKind.i64 n_7), D.v (Value.bool b), D.v (Value.int
  IntKind.i64 n_8), D.v (Value.string b_1), D.sl es] = Ex.cells e ∧ size e < n ∧ fits e ∧ mayE (↑row_1.length : Int) e = true ∧ plainE row_1.length e =
  true ∧ intRow row_1 ∧ row_1.length ≤ (1353245080300 : Nat) ∧ ∀ (w : AV) (ok : Bool), ok = (evP row_1 e).2 → (ok = true → w = ofI (evP row_1 e).1) →
  ((!ok) = true → Q [R.agg [D.v (Value.int IntKind.i64 (0 : Int)), D.v (Value.int IntKind.i64 (0 : Int)), D.v (Value.bool false), D.v (Value.int
  IntKind.i64 (0 : Int)), D.v (Value.string { data := { toList := [] : Array UInt8 } : ByteArray })], R.d (D.v (Value.bool false))] []) ∧ ((!ok) =
  false → ((0 : Int) ≤ (↑x.1 : Int) ∧ (↑x.1 : Int) < (↑(List.map AV.cs x.2 ++ List.replicate (args.length - x.1) zeroV.cs).length : Int)) ∧ (5 : Nat) =
  (5 : Nat) ∧ ∃ (cells : List D), (List.map AV.cs x.2 ++ List.replicate (args.length - x.1) zeroV.cs)[(↑x.1 : Int).toNat]? = some cells ∧ ∃ (cells' :
  List D), over ((0 : Nat)) [D.v (Value.int IntKind.i64 w.1.1), D.v (Value.int IntKind.i64 w.1.2), D.v (Value.bool w.2), D.v (Value.int IntKind.i64
  w.3), D.v (Value.string w.4)] cells = some cells' ∧ ∃ (m : Nat), ∃ (x' : { X := VX, sh := st_57 op sub t v args row (typesV row), P := fun (x : VX) => inv_57 row args : LX }.X),
  m < n_1 ∧ { tm := [((0 : Nat), V.dptr [D.sl (List.map AV.cs row), D.sl (List.map Ty.cs (typesV row))]), ((3 : Nat), V.ref ((3 : Nat)) ((0 : Nat))), ((4 : Nat), V.ref ((4 : Nat)) ((0 : Nat))), ((5 : Nat), V.d (D.v (Value.bool false))), ((6 : Nat), V.ref ((6 : Nat)) ((0 : Nat))), ((17 : Nat), V.own ((163 : Nat))), ((18 : Nat), V.d (D.v (Value.bool (bif x.2.any fun (v : AV) => v.nul then true else w.2)))), ((165 : Nat), V.d (D.sl (cellsL args))), ((166 : Nat), V.d (D.v (Value.int IntKind.i64 (↑(cellsL args).length : Int)))), ((167 : Nat), V.d (D.v (Value.int IntKind.i64 (IntKind.i64.wrap ((↑x.1 : Int) + (1 : Int))))))], hp := [((3 : Nat), B.box [V.d (D.v (Value.int IntKind.i64 op)), V.d (D.v (Value.int IntKind.i64 sub)), V.d (D.v (Value.int IntKind.i64 t.1)), V.d (D.v (Value.int IntKind.i64 t.2)), V.d (D.v (Value.int IntKind.i64 v.1.1)), V.d (D.v (Value.int IntKind.i64 v.1.2)), V.d (D.v (Value.bool v.2)), V.d (D.v (Value.int IntKind.i64 v.3)), V.d (D.v (Value.string v.4)), V.d (D.sl (cellsL args))]), ((4 : Nat), B.box [V.d (D.v (Value.int IntKind.i64 (0 : Int))), V.d (D.v (Value.int IntKind.i64 (0 : Int))), V.d (D.v (Value.bool false)), V.d (D.v (Value.int IntKind.i64 (0 : Int))), V.d (D.v (Value.string { data := { toList := [] : Array UInt8 } : ByteArray }))]), ((6 : Nat), B.box [V.d (D.v (Value.int IntKind.i64 (typedE (typesV row) (EX.mk op sub t v args)).1.1)), V.d (D.v (Value.int IntKind.i64 (typedE (typesV row) (EX.mk op sub t v args)).1.2))]), ((163 : Nat), B.lst ((25 : Nat)) ((5 : Nat)) ((List.map AV.cs x.2 ++ List.replicate (args.length - x.1) zeroV.cs).set (↑x.1 : Int).toNat cells'))], kn := [], gd := [] : St }
  = { tm := [((0 : Nat), V.dptr [D.sl (List.map AV.cs row), D.sl (List.map Ty.cs (typesV row))]), ((3 : Nat), V.ref ((3 : Nat)) ((0 : Nat))), ((4 : Nat), V.ref ((4 : Nat)) ((0 : Nat))), ((5 : Nat), V.d (D.v (Value.bool false))), ((6 : Nat), V.ref ((6 : Nat)) ((0 : Nat))), ((17 : Nat), V.own ((163 : Nat))), ((18 : Nat), V.d (D.v (Value.bool (x'.2.any fun (v : AV) => v.nul)))), ((165 : Nat), V.d (D.sl (cellsL args))), ((166 : Nat), V.d (D.v (Value.int IntKind.i64 (↑(cellsL args).length : Int)))), ((167 : Nat), V.d (D.v (Value.int IntKind.i64 (↑x'.1 : Int))))], hp := [((3 : Nat), B.box [V.d (D.v (Value.int IntKind.i64 op)), V.d (D.v (Value.int IntKind.i64 sub)), V.d (D.v (Value.int IntKind.i64 t.1)), V.d (D.v (Value.int IntKind.i64 t.2)), V.d (D.v (Value.int IntKind.i64 v.1.1)), V.d (D.v (Value.int IntKind.i64 v.1.2)), V.d (D.v (Value.bool v.2)), V.d (D.v (Value.int IntKind.i64 v.3)), V.d (D.v (Value.string v.4)), V.d (D.sl (cellsL args))]), ((4 : Nat), B.box [V.d (D.v (Value.int IntKind.i64 (0 : Int))), V.d (D.v (Value.int IntKind.i64 (0 : Int))), V.d (D.v (Value.bool false)), V.d (D.v (Value.int IntKind.i64 (0 : Int))), V.d (D.v (Value.string { data := { toList := [] : Array UInt8 } : ByteArray }))]), ((6 : Nat), B.box [V.d (D.v (Value.int IntKind.i64 (typedE (typesV row) (EX.mk op sub t v args)).1.1)), V.d (D.v (Value.int IntKind.i64 (typedE (typesV row) (EX.mk op sub t v args)).1.2))]), ((163 : Nat), B.lst ((25 : Nat)) ((5 : Nat)) (List.map AV.cs x'.2 ++ List.replicate (args.length - x'.1) zeroV.cs))], kn := [], gd := [] : St }
  ∧ inv_57 row args m x')) ∧ (decide ((↑x.1 : Int) < (↑(cellsL args).length : Int)) = false → ((op == (13 : Int)) = true → False) ∧ ((op == (13 : Int))
  = false → ((x.2.any fun (v : AV) => v.nul) = true → Q [R.agg [D.v (Value.int IntKind.i64 (typedE (typesV row) (EX.mk op sub t v args)).1.1), D.v
  (Value.int IntKind.i64 (typedE (typesV row) (EX.mk op sub t v args)).1.2), D.v (Value.bool true), D.v (Value.int IntKind.i64 (0 : Int)), D.v
  (Value.string { data := { toList := [] : Array UInt8 } : ByteArray })], R.d (D.v (Value.bool true))] []) ∧ ((x.2.any fun (v : AV) => v.nul) = false →
  ∃ (op_1 : Int), ∃ (sub_1 : Int), ∃ (t_2 : Ty), ∃ (v_1 : AV), ∃ (args_1 : List EX), ∃ (a : Int), ∃ (b : Int), [D.v (Value.int IntKind.i64 op), D.v
  (Value.int IntKind.i64 sub), D.v (Value.int IntKind.i64 t.1), D.v (Value.int IntKind.i64 t.2), D.v (Value.int IntKind.i64 v.1.1), D.v (Value.int
  IntKind.i64 v.1.2), D.v (Value.bool v.2), D.v (Value.int IntKind.i64 v.3), D.v (Value.string v.4), D.sl (cellsL args)] = [D.v (Value.int IntKind.i64
  op_1), D.v (Value.int IntKind.i64 sub_1), D.v (Value.int IntKind.i64 t_2.1), D.v (Value.int IntKind.i64 t_2.2), D.v (Value.int IntKind.i64 v_1.1.1),
  D.v (Value.int IntKind.i64 v_1.1.2), D.v (Value.bool v_1.2), D.v (Value.int IntKind.i64 v_1.3), D.v (Value.string v_1.4), D.sl (cellsL args_1)] ∧
  [D.v (Value.int IntKind.i64 (typedE (typesV row) (EX.mk op sub t v args)).1.1), D.v (Value.int IntKind.i64 (typedE (typesV row) (EX.mk op sub t v
  args)).1.2)] = { k := (2 : Int), sc := (0 : Int) : Ty }.cs ∧ List.map AV.cs x.2 ++ List.replicate (args.length - x.1) zeroV.cs = [(ofI a).cs, (ofI
  b).cs] ∧ (op_1 = (3 : Int) ∨ op_1 = (6 : Int)) ∧ Q [R.agg [D.v (Value.int IntKind.i64 (2 : Int)), D.v (Value.int IntKind.i64 (0 : Int)), D.v
  (Value.bool false), D.v (Value.int IntKind.i64 (opP op_1 a b).1), D.v (Value.string { data := { toList := [] : Array UInt8 } : ByteArray })], R.d
  (D.v (Value.bool (opP op_1 a b).2))] [])))))))))))) := by kernel_rfl
theorem plain_mk {m : Nat} {op sub : Int} {t : Ty} {v : Go.Ex.AV} {args : List EX} (h : plainE m (.mk op sub t v args) = true) : (op = 1 ∧ args.length = 0 ∧ 0 ≤ sub ∧ sub < m) ∨ ((op = 3 ∨ op = 6) ∧ args.length = 2 ∧ plainL m args = true) := by
  simp only [plainE, Bool.or_eq_true, Bool.and_eq_true, beq_iff_eq, decide_eq_true_eq] at h
  rcases h with ⟨⟨⟨a, b⟩, c⟩, d⟩ | ⟨⟨a, b⟩, c⟩
  · exact .inl ⟨a, b, c, d⟩
  · exact .inr ⟨a, b, c⟩
theorem plainL_all {m : Nat} : ∀ {l : List EX}, plainL m l = true → ∀ e ∈ l, plainE m e = true
  | a :: l, h, e, he => by
    simp only [plainL, Bool.and_eq_true] at h
    cases he with
    | head => exact h.1
    | tail _ he => exact plainL_all h.2 e he
theorem evPL_snoc {row : List Go.Ex.AV} {e : EX} {x : Int} (he : evP row e = (x, true)) : ∀ {l : List EX} {r : List Int}, evPL row l = some r → evPL row (l ++ [e]) = some (r ++ [x])
  | [], r, h => by
    simp only [evPL, Option.some.injEq] at h
    subst h
    simp only [List.nil_append, evPL, he]
  | a :: l, r, h => by
    simp only [evPL] at h
    rcases ha : evP row a with ⟨y, _ | _⟩
    · rw [ha] at h; cases h
    · rw [ha] at h
      rcases hl : evPL row l with _ | q
      · rw [hl] at h; cases h
      · rw [hl] at h
        simp only [Option.some.injEq] at h
        subst h
        simp only [List.cons_append, evPL, ha, evPL_snoc he hl]
theorem evPL_none {row : List Go.Ex.AV} : ∀ {l : List EX} {e : EX}, e ∈ l → (evP row e).2 = false → evPL row l = none
  | a :: l, e, h, hn => by
    simp only [evPL]
    cases h with
    | head =>
      rcases hh : evP row a with ⟨t, ok⟩
      rw [hh] at hn
      have : ok = false := hn
      subst this
      rfl
    | tail _ h =>
      rw [evPL_none h hn]
      rcases evP row a with ⟨t, _ | _⟩ <;> rfl
theorem evPL_len {row : List Go.Ex.AV} : ∀ {l : List EX} {r : List Int}, evPL row l = some r → r.length = l.length
  | [], r, h => by simp only [evPL, Option.some.injEq] at h; subst h; rfl
  | a :: l, r, h => by
    simp only [evPL] at h
    rcases ha : evP row a with ⟨y, _ | _⟩
    · rw [ha] at h; cases h
    · rw [ha] at h
      rcases hl : evPL row l with _ | q
      · rw [hl] at h; cases h
      · rw [hl] at h
        simp only [Option.some.injEq] at h
        subst h
        simp only [List.length_cons, evPL_len hl]
theorem int_types {row : List Go.Ex.AV} (h : intRow row) : ∀ t ∈ typesV row, t = ⟨2, 0⟩ := by
  intro t ht
  obtain ⟨v, hv, rfl⟩ := List.mem_map.1 ht
  rw [h v hv]; rfl
mutual
theorem plain_typed {cols : List Ty} (hc : ∀ t ∈ cols, t = ⟨2, 0⟩) : ∀ {e : EX}, plainE cols.length e = true → typedE cols e = (⟨2, 0⟩, true)
  | .mk op sub t v args, h => by
    rcases plain_mk h with ⟨rfl, h0, h1, h2⟩ | ⟨ho, ha, hl⟩
    · rcases args with _ | ⟨a, r⟩
      · have hlt : sub.toNat < cols.length := by omega
        rw [typedE_some (l := []) (by simp only [typedL])]
        unfold typedN
        rw [if_pos rfl, List.getD_eq_getElem?_getD, List.getElem?_eq_getElem hlt]
        have := hc _ (List.getElem_mem hlt)
        simp only [Option.getD_some, this]
      · simp at h0
    · rw [typedE_some (plainL_typed hc hl), ha]
      rcases ho with rfl | rfl <;> rfl
theorem plainL_typed {cols : List Ty} (hc : ∀ t ∈ cols, t = ⟨2, 0⟩) : ∀ {l : List EX}, plainL cols.length l = true → typedL cols l = some (List.replicate l.length ⟨2, 0⟩)
  | [], h => rfl
  | a :: l, h => by
    simp only [plainL, Bool.and_eq_true] at h
    simp only [typedL, plain_typed hc h.1, plainL_typed hc h.2]
    rfl
end
theorem set_next {l : List Go.Ex.AV} {n : Nat} {z : List D} {w : Go.Ex.AV} (h : l.length < n) : (l.map Go.Ex.AV.cs ++ List.replicate (n - l.length) z).set l.length w.cs = (l ++ [w]).map Go.Ex.AV.cs ++ List.replicate (n - (l.length + 1)) z := by
  rw [List.set_append_right _ _ (by simp), List.length_map, Nat.sub_self, show n - l.length = (n - (l.length + 1)) + 1 by omega, List.replicate_succ, List.set_cons_zero, List.map_append, List.append_assoc]
  rfl
theorem ct57p : ∀ (n : Nat) (e : EX) (row : List Go.Ex.AV), size e < n → fits e → mayE row.length e = true → plainE row.length e = true → intRow row → row.length ≤ 1353245080300 →
    Ct prog gl 20 [.ptr [.sl (row.map Go.Ex.AV.cs), .sl ((typesV row).map Ty.cs)], .agg (cells e)] (fun res fin => fin = [] ∧ ∃ w : Go.Ex.AV, ((evP row e).2 = true → w = ofI (evP row e).1) ∧ res = [.agg w.cs, .d (.v (.bool (evP row e).2))])
  | 0, _, _, h, _, _, _, _, _ => absurd h (Nat.not_lt_zero _)
  | n + 1, .mk op sub t v args, row, hs, hf, hm, hp, hr, hrl => by
    have hC : CallsOk prog gl (C_f57p n) := addC_ok (addC_ok C_g6_ok c_122p_ok) (fun a K hk => by
      unfold c_57p at hk
      split at hk
      · obtain ⟨e, row, rfl, rfl, rfl, h1, h2, h3, h4, h5, h6, h7⟩ := hk
        exact (ct57p n e row h1 h2 h3 h4 h5 h6).mono fun res fin ⟨e1, w, e2, e3⟩ => by subst e1; subst e3; exact h7 w _ rfl e2
      · exact hk.elim)
    have hc : encX op sub t v (cellsL args) = cells (.mk op sub t v args) := (cells_mk _ _ _ _ _).symm
    rw [cells_mk]
    refine ct_of_vc (E := E_9) ⟨E_ok.te⟩ hC ioK_no (fun _ _ _ h => h.elim) mixed (fn := f20) (body := f20.body.getD .skip) (by kernel_rfl) (by kernel_rfl) (by kernel_rfl) (fi := fx_57p op sub t v args row) (by kernel_rfl) (by kernel_rfl) ⟨_, _, rfl, ofI _, fun _ => rfl, rfl⟩ ?_
    rw [vc57]
    obtain ⟨_, hl, hfl⟩ := fits_mk hf
    simp only [size] at hs
    have htl : (typesV row).length = row.length := by simp [typesV]
    have hty : typedE (typesV row) (.mk op sub t v args) = (⟨2, 0⟩, true) := plain_typed (int_types hr) (by rw [htl]; exact hp)
    have hmm : mayHd op sub t v ((cellsL args).length : Int) row.length = true ∧ mayL row.length args = true := by
      have : (mayHd op sub t v ((cellsL args).length : Int) row.length && mayL row.length args) = true := by simpa only [mayE] using hm
      simpa using this
    obtain ⟨hh, hml⟩ := hmm
    rw [mayL_all, List.all_eq_true] at hml
    have hop : op = 1 ∨ op = 3 ∨ op = 6 := by rcases plain_mk hp with h | h <;> omega
    refine ⟨_, rfl, ?_⟩
    refine (and_self_iff).2 ?_
    refine ⟨.mk op sub t v args, typesV row, hc, rfl, hf, by rw [htl]; exact hm, by omega, fun t1 ok ht => ?_⟩
    obtain rfl : t1 = (typedE (typesV row) (.mk op sub t v args)).1 := by rw [ht]
    refine ⟨fun o1 => ?_, fun o1 => ⟨fun o2 => ?_, fun o2 => ⟨fun o10 => ?_, fun o10 => ⟨fun o11 => ?_, fun o11 => ⟨fun o12 => ?_, fun o12 => ⟨fun o16 => ?_, fun o16 => ⟨fun o14 => ?_, fun o14 => ⟨fun o15 => ?_, fun o15 => ?_⟩⟩⟩⟩⟩⟩⟩⟩
    · have o1 : op = 1 := by simpa using o1
      rcases plain_mk hp with ⟨_, _, h1, h2⟩ | ⟨h1, _⟩
      · have hlt : sub.toNat < row.length := by omega
        refine ⟨_, rfl, _, rfl, ⟨h1, by rw [List.length_map]; exact h2⟩, (row[sub.toNat]).cs, by rw [List.getElem?_map, List.getElem?_eq_getElem hlt]; rfl, rfl, _, _, _, _, _, rfl, rfl, row[sub.toNat], fun _ => ?_, ?_⟩
        · rw [hr _ (List.getElem_mem hlt)]
          simp only [evP, if_pos o1, List.getD_eq_getElem?_getD, List.getElem?_eq_getElem hlt]
          rfl
        · simp only [evP, if_pos o1]
      · omega
    · exact absurd (show op = 2 by simpa using o2) (by omega)
    · exact absurd (show op = 10 by simpa using o10) (by omega)
    · exact absurd (show op = 11 by simpa using o11) (by omega)
    · exact absurd (show op = 12 by simpa using o12) (by omega)
    · exact absurd (show op = 16 by simpa using o16) (by omega)
    · exact absurd (show op = 14 by simpa using o14) (by omega)
    · exact absurd (show op = 15 by simpa using o15) (by omega)
    · have o1 : op ≠ 1 := by simpa using o1
      rcases plain_mk hp with ⟨h1, _⟩ | ⟨ho, ha, hpl⟩
      · exact absurd h1 o1
      have hal : (cellsL args).length = args.length := cellsL_len _
      refine ⟨_, rfl, by omega, by omega, by rw [hal]; omega, by rw [hal]; omega, _, rfl, (⟨0, []⟩ : VX), ⟨by simp only [List.map_nil, List.nil_append, List.any_nil, Nat.sub_zero, Int.toNat_natCast, hal]; rfl, args.length, Nat.zero_le _, rfl, rfl, [], by simp only [List.take_zero, evPL], rfl⟩, fun m (x : VX) hx => ⟨fun hi => ?_, fun hi => ?_⟩⟩
      · obtain ⟨i, l⟩ := x
        obtain ⟨h1, h2, h3, r, h4, h5⟩ := hx
        dsimp only at h1 h2 h3 h4 h5 hi ⊢
        have hi : i < args.length := by simpa [hal] using hi
        obtain ⟨op1, sub1, t1, v1, a1, e1, g1⟩ := arg_get hi
        have hsz := size_mem (List.getElem_mem hi)
        refine ⟨cellsL args, rfl, ⟨by omega, by rw [hal]; omega⟩, _, g1, rfl, op1, sub1, t1.k, t1.sc, v1.t.k, v1.t.sc, v1.nul, v1.n, v1.s, cellsL a1, rfl, args[i], row, rfl, rfl, by rw [e1, cells_mk]; rfl, by omega, fitsL_mem hfl (List.getElem_mem hi), hml _ (List.getElem_mem hi), plainL_all hpl _ (List.getElem_mem hi), hr, hrl, fun w ok hok hw => ⟨fun h => ?_, fun h => ?_⟩⟩
        · have : ok = false := by simpa using h
          subst this
          have hn := evPL_none (List.getElem_mem hi) hok.symm
          have hev : evP row (.mk op sub t v args) = (0, false) := by simp only [evP, if_neg o1, hn]
          rw [hev]
          exact ⟨rfl, zeroV, ⟨fun h => absurd h (by decide), rfl⟩⟩
        · have : ok = true := by simpa using h
          subst this
          have hw := hw rfl
          have hil : l.length = i := h3
          refine ⟨⟨by omega, by simp; omega⟩, rfl, zeroV.cs, ?_, w.cs, rfl, args.length - (i + 1), ⟨i + 1, l ++ [w]⟩, by omega, ?_, hi, rfl, by simp [h3], r ++ [(evP row args[i]).1], ?_, by rw [h5, hw]; simp⟩
          · rw [Int.toNat_natCast, List.getElem?_append_right (by simp; omega), List.getElem?_replicate]
            rw [if_pos (by simp; omega)]
          · dsimp only
            rw [wrap_next (by omega), Int.toNat_natCast]
            have := set_next (z := zeroV.cs) (w := w) (show l.length < args.length by omega)
            rw [h3] at this
            rw [this, List.any_append]
            simp only [List.any_cons, List.any_nil, Bool.or_false]
            cases l.any (fun v => v.nul) <;> cases w.nul <;> rfl
          · rw [List.take_add_one, List.getElem?_eq_getElem hi]
            exact evPL_snoc (Prod.ext rfl hok.symm) h4
      · obtain ⟨i, l⟩ := x
        obtain ⟨h1, h2, h3, r, h4, h5⟩ := hx
        dsimp only at h1 h2 h3 h4 h5 hi ⊢
        have hi : ¬ i < args.length := by simpa [hal] using hi
        rw [List.take_of_length_le (by omega)] at h4
        have hrl2 := evPL_len h4
        obtain ⟨a, b, rfl⟩ : ∃ a b, r = [a, b] := by
          match r, hrl2.trans ha with
          | [a, b], _ => exact ⟨a, b, rfl⟩
        subst h5
        have hev : evP row (.mk op sub t v args) = opP op a b := by simp only [evP, if_neg o1, h4]
        refine ⟨fun o13 => ?_, fun o13 => ⟨fun hn => ?_, fun hn => ?_⟩⟩
        · exact absurd (show op = 13 by simpa using o13) (by omega)
        · simp [ofI] at hn
        · rw [hty, hev]
          refine ⟨op, sub, t, v, args, a, b, rfl, rfl, ?_, ho, rfl, ofI (opP op a b).1, fun _ => rfl, rfl⟩
          rw [show args.length - i = 0 by omega]
          rfl
end Go.Proofs.Tryz
