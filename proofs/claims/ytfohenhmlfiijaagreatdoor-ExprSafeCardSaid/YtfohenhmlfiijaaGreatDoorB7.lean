/- A part of the proof: contracts of functions, by a verified generator of conditions; no condition of its own. -/
import Derived.Test.YtfohenhmlfiijaaGreatDoorB4
namespace Go.Proofs.Tryz
open Go Go.Dm Go.Ex
set_option maxRecDepth 100000
variable {gl : Nat → Option Obj}
def tyZ (t : Ty) : Bool := t.1 == (0 : Int) && (t.2 == (0 : Int) && true)
def valZ (v : Go.Ex.AV) : Bool := v.1.1 == (0 : Int) && (v.1.2 == (0 : Int) && (v.2 == false && (v.3 == (0 : Int) && (v.4 == ({ data := { toList := [] } } : ByteArray) && true))))
/-- May a node be, but for its types and its parts? -/
def mayHd (op sub : Int) (t : Ty) (v : Go.Ex.AV) (m c : Int) : Bool :=
  bif op == 1 then (bif bif bif m == 0 then (bif decide (sub ≥ 0) then decide (sub < c) else false) else false then tyZ t else false then valZ v else false)
  else bif op == 2 then (bif bif bif m == 0 then sub == 0 else false then tyZ t else false then s56_0 v.1.1 v.1.2 v.2 v.3 v.4 == 0 else false)
  else bif op == 9 then (bif bif bif m == 2 then (bif decide (sub ≥ 1) then decide (sub ≤ 6) else false) else false then tyZ t else false then valZ v else false)
  else bif op == 16 then (bif bif bif m == 1 then sub == 0 else false then s60_0 t.1 t.2 == 0 else false then valZ v else false)
  else bif (op == 8 || op == 12 || op == 13 || op == 18) then (bif bif bif m == 1 then sub == 0 else false then tyZ t else false then valZ v else false)
  else bif op == 14 then (bif bif bif (bif decide (m ≥ 3) then m.tmod 2 != 0 else false) then sub == 0 else false then tyZ t else false then valZ v else false)
  else bif op == 15 then (bif bif bif decide (m ≥ 1) then sub == 0 else false then tyZ t else false then valZ v else false)
  else bif (op == 3 || op == 4 || op == 5 || op == 6 || op == 7 || op == 10 || op == 11 || op == 17) then (bif bif bif m == 2 then sub == 0 else false then tyZ t else false then valZ v else false)
  else false
mutual
/-- May it be, but for its types? -/
def mayE (c : Int) : EX → Bool
  | .mk op sub t v args => mayHd op sub t v ((cellsL args).length : Int) c && mayL c args
def mayL (c : Int) : List EX → Bool
  | [] => true
  | e :: r => mayE c e && mayL c r
end
theorem mayL_all (c : Int) : ∀ l : List EX, mayL c l = l.all (mayE c)
  | [] => by simp [mayL]
  | e :: r => by simp [mayL, mayL_all c r]
theorem mayL_any (c : Int) (l : List EX) : (!mayL c l) = l.any (fun e => !mayE c e) := by
  rw [mayL_all, List.not_all_eq_any_not]
def c_63 (n : Nat) (a : List R) (K : List R → List (List D) → Prop) : Prop := match a with
  | [.agg x, .d (.v (.int .i64 c))] => ∃ e : EX, x = cells e ∧ size e < n ∧ fits e ∧ K [.d (.v (.bool (mayE c e)))] []
  | _ => False
def C_f126 (n : Nat) : CallT := addC C_4e 26 (c_63 n)
theorem vc126 (n : Nat) (op sub : Int) (t : Ty) (v : Go.Ex.AV) (args : List EX) (c : Int) (Q : List R → List (List D) → Prop) : vc E_0 (C_f126 n) noI fi47 (f47.body.getD .skip) f47.results.toList [.agg (encX op sub t v (cellsL args)), .ptr [.v (.int .i64 c)]] Q = ( ∃ (n_1 : Int), some [D.i c] = some [D.i n_1] ∧ ∃ (e : EX), [D.i op, D.i sub, D.i t.1, D.i t.2, D.i v.1.1, D.i v.1.2, D.v (.bool v.2), D.i v.3, D.v (.string v.4), D.sl (cellsL args)] = cells e ∧ size e < n ∧ fits e ∧ Q [.d (.v (.bool !mayE n_1 e))] []) := by kernel_rfl
def c_126 (n : Nat) (a : List R) (K : List R → List (List D) → Prop) : Prop := match a with
  | [.agg x, .ptr [.v (.int .i64 c)]] => ∃ e : EX, x = cells e ∧ size e < n ∧ fits e ∧ K [.d (.v (.bool (!mayE c e)))] []
  | _ => False
def C_f208 (n : Nat) : CallT := addC C_4e 47 (c_126 n)
def st_208 (k : Int) (l : List EX) (x : Nat) : St := { tm := [(0, .d (.sl (cellsL l))), (1, .fn 47 [.dptr [.v (.int .i64 k)]]), (4, .d (.v (.int .i64 0))), (7, .d (.v (.int .i64 ((cellsL l).length : Int)))), (8, .d (.v (.int .i64 (x : Int))))], hp := [], kn := [], gd := [] }
def inv_208 (k : Int) (l : List EX) (m : Nat) (x : Nat) : Prop := (x ≤ l.length ∧ m = l.length - x) ∧ ∀ e ∈ l.take x, (!mayE k e) = false
def fx_208 (k : Int) (l : List EX) : Fi := { fi75 with lx := [(2, { X := Nat, sh := st_208 k l, P := fun _ => inv_208 k l })] }
theorem vc208 (n : Nat) (k : Int) (l : List EX) (Q : List R → List (List D) → Prop) : vc E_0 (C_f208 n) noI (fx_208 k l) (f75.body.getD .skip) f75.results.toList [.d (.sl (cellsL l)), .fn 47 [.ptr [.v (.int .i64 k)]]] Q = ( ∃ (es : List (List D)), D.sl (cellsL l) = D.sl es ∧ ∃ (x0 : Nat), ({ tm := [(0, .d (.sl (cellsL l))), (1, .fn (47 : Nat) [.dptr [.i k]]), (4, .i 0), (7, .i (↑es.length : Int)), (8, .i 0)], hp := [], kn := [], gd := [] : St } = { tm := [(0, .d (.sl (cellsL l))), (1, .fn (47 : Nat) [.dptr [.i k]]), (4, .i 0), (7, .i (↑(cellsL l).length : Int)), (8, .i (↑x0 : Int))], hp := [], kn := [], gd := [] : St } ∧ ∃ (n : Nat), inv_208 k l n x0) ∧ ∀ (n_1 : Nat) (x : Nat), inv_208 k l n_1 x → (decide ((↑x : Int) < (↑(cellsL l).length : Int)) = true → ∃ (es : List (List D)), D.sl (cellsL l) = D.sl es ∧ (0 ≤ (↑x : Int) ∧ (↑x : Int) < (↑es.length : Int)) ∧ ∃ (cells : List D), es[(↑x : Int).toNat]? = some cells ∧ cells.length = 10 ∧ ∃ (n_2 n_3 n_4 n_5 n_6 n_7 : Int), ∃ (b : Bool), ∃ (n_8 : Int), ∃ (b_1 : ByteArray), ∃ (es : List (List D)), cut 0 10 cells = some [D.i n_2, D.i n_3, D.i n_4, D.i n_5, D.i n_6, D.i n_7, D.v (.bool b), D.i n_8, D.v (.string b_1), D.sl es] ∧ ∃ (e : EX), [D.i n_2, D.i n_3, D.i n_4, D.i n_5, D.i n_6, D.i n_7, D.v (.bool b), D.i n_8, D.v (.string b_1), D.sl es] = Ex.cells e ∧ size e < n ∧ fits e ∧ ((!mayE k e) = true → Q [.d (.i (↑x : Int))] []) ∧ ((!mayE k e) = false → ∃ (m x' : Nat), m < n_1 ∧ { tm := [(0, .d (.sl (cellsL l))), (1, .fn (47 : Nat) [.dptr [.i k]]), (4, .i 0), (7, .i (↑(cellsL l).length : Int)), (8, .i (IntKind.i64.wrap ((↑x : Int) + 1)))], hp := [], kn := [], gd := [] : St } = { tm := [(0, .d (.sl (cellsL l))), (1, .fn (47 : Nat) [.dptr [.i k]]), (4, .i 0), (7, .i (↑(cellsL l).length : Int)), (8, .i (↑x' : Int))], hp := [], kn := [], gd := [] : St } ∧ inv_208 k l m x')) ∧ (decide ((↑x : Int) < (↑(cellsL l).length : Int)) = false → Q [.d (.i (-1))] [])) := by kernel_rfl
def c_208 (n : Nat) (a : List R) (K : List R → List (List D) → Prop) : Prop := match a with
  | [.d (.sl x), .fn 47 [.ptr [.v (.int .i64 c)]]] => ∃ l : List EX, x = cellsL l ∧ sizeL l < n ∧ l.length ≤ 1353245080300 ∧ fitsL l ∧ ∀ r : Int, decide (r ≥ 0) = (!mayL c l) → K [.d (.v (.int .i64 r))] []
  | _ => False
def C_f125 (n : Nat) : CallT := addC C_4e 75 (c_208 n)
theorem vc125 (n : Nat) (x : List (List D)) (c : Int) (Q : List R → List (List D) → Prop) : vc E_0 (C_f125 n) noI fi46 (f46.body.getD .skip) f46.results.toList [.d (.sl x), .fn 47 [.ptr [.v (.int .i64 c)]]] Q = ( ∃ (l : List EX), x = cellsL l ∧ sizeL l < n ∧ l.length ≤ 1353245080300 ∧ fitsL l ∧ ∀ (r : Int), decide (r ≥ 0) = !mayL c l → Q [.d (.v (.bool (decide (r ≥ 0))))] []) := by kernel_rfl
def c_125 (n : Nat) (a : List R) (K : List R → List (List D) → Prop) : Prop := match a with
  | [.d (.sl x), .fn 47 [.ptr [.v (.int .i64 c)]]] => ∃ l : List EX, x = cellsL l ∧ sizeL l < n ∧ l.length ≤ 1353245080300 ∧ fitsL l ∧ K [.d (.v (.bool (!mayL c l)))] []
  | _ => False
def C_f63 (n : Nat) : CallT := addC C_4e 46 (c_125 n)
def E_b : Env := { E_0 with bw := [46] }
theorem E_b_ok : EnvOk prog E_b := ⟨E_ok.te⟩
theorem it_b : ItOk prog E_b := fun _ _ _ h => h.elim
theorem vc63 (n : Nat) (op sub : Int) (t : Ty) (v : Go.Ex.AV) (args : List EX) (c : Int) (Q : List R → List (List D) → Prop) : vc E_b (C_f63 n) noI fi26 (f26.body.getD .skip) f26.results.toList [.agg (encX op sub t v (cellsL args)), .d (.v (.int .i64 c))] Q = ( ∃ (es : List (List D)), D.sl (cellsL args) = D.sl es ∧ ((op == 1) = true → ((bif bif bif (↑es.length : Int) == 0 then bif decide (sub ≥ 0) then decide (sub < c) else false else false then t.1 == 0 && (t.2 == 0 && true) else false then v.1.1 == 0 && (v.1.2 == 0 && (v.2 == false && (v.3 == 0 && (v.4 == { data := { toList := [] : Array UInt8 } : ByteArray } && true)))) else false) = true → ∃ (l : List EX), cellsL args = cellsL l ∧ sizeL l < n ∧ l.length ≤ 1353245080300 ∧ fitsL l ∧ Q [.d (.v (.bool !!mayL c l))] []) ∧ ((bif bif bif (↑es.length : Int) == 0 then bif decide (sub ≥ 0) then decide (sub < c) else false else false then t.1 == 0 && (t.2 == 0 && true) else false then v.1.1 == 0 && (v.1.2 == 0 && (v.2 == false && (v.3 == 0 && (v.4 == { data := { toList := [] : Array UInt8 } : ByteArray } && true)))) else false) = !true → Q [.d (.v (.bool false))] [])) ∧ ((op == 1) = false → ((op == 2) = true → ((bif bif bif (↑es.length : Int) == 0 then sub == 0 else false then t.1 == 0 && (t.2 == 0 && true) else false then s56_0 v.1.1 v.1.2 v.2 v.3 v.4 == 0 else false) = true → ∃ (l : List EX), cellsL args = cellsL l ∧ sizeL l < n ∧ l.length ≤ 1353245080300 ∧ fitsL l ∧ Q [.d (.v (.bool !!mayL c l))] []) ∧ ((bif bif bif (↑es.length : Int) == 0 then sub == 0 else false then t.1 == 0 && (t.2 == 0 && true) else false then s56_0 v.1.1 v.1.2 v.2 v.3 v.4 == 0 else false) = !true → Q [.d (.v (.bool false))] [])) ∧ ((op == 2) = false → ((op == 9) = true → ((bif bif bif (↑es.length : Int) == 2 then bif decide (sub ≥ 1) then decide (sub ≤ 6) else false else false then t.1 == 0 && (t.2 == 0 && true) else false then v.1.1 == 0 && (v.1.2 == 0 && (v.2 == false && (v.3 == 0 && (v.4 == { data := { toList := [] : Array UInt8 } : ByteArray } && true)))) else false) = true → ∃ (l : List EX), cellsL args = cellsL l ∧ sizeL l < n ∧ l.length ≤ 1353245080300 ∧ fitsL l ∧ Q [.d (.v (.bool !!mayL c l))] []) ∧ ((bif bif bif (↑es.length : Int) == 2 then bif decide (sub ≥ 1) then decide (sub ≤ 6) else false else false then t.1 == 0 && (t.2 == 0 && true) else false then v.1.1 == 0 && (v.1.2 == 0 && (v.2 == false && (v.3 == 0 && (v.4 == { data := { toList := [] : Array UInt8 } : ByteArray } && true)))) else false) = !true → Q [.d (.v (.bool false))] [])) ∧ ((op == 9) = false → ((op == 16) = true → ((bif bif bif (↑es.length : Int) == 1 then sub == 0 else false then s60_0 t.1 t.2 == 0 else false then v.1.1 == 0 && (v.1.2 == 0 && (v.2 == false && (v.3 == 0 && (v.4 == { data := { toList := [] : Array UInt8 } : ByteArray } && true)))) else false) = true → ∃ (l : List EX), cellsL args = cellsL l ∧ sizeL l < n ∧ l.length ≤ 1353245080300 ∧ fitsL l ∧ Q [.d (.v (.bool !!mayL c l))] []) ∧ ((bif bif bif (↑es.length : Int) == 1 then sub == 0 else false then s60_0 t.1 t.2 == 0 else false then v.1.1 == 0 && (v.1.2 == 0 && (v.2 == false && (v.3 == 0 && (v.4 == { data := { toList := [] : Array UInt8 } : ByteArray } && true)))) else false) = !true → Q [.d (.v (.bool false))] [])) ∧ ((fun (P_3 : Prop) => ((fun (P_4 : Prop) => ((op == 16) = false → ((op == 8) = true → P_3 ∧ P_4) ∧ ((op == 8) = false → ((op == 12) = true → P_3 ∧ P_4) ∧ ((op == 12) = false → ((op == 13) = true → P_3 ∧ P_4) ∧ ((op == 13) = false → ((op == 18) = true → P_3 ∧ P_4) ∧ ((op == 18) = false → ((op == 14) = true → (2 : Int) ≠ (0 : Int) ∧ ((bif bif bif bif decide ((↑es.length : Int) ≥ 3) then (↑es.length : Int).tmod (2 : Int) != (0 : Int) else false then sub == 0 else false then t.1 == 0 && (t.2 == 0 && true) else false then v.1.1 == 0 && (v.1.2 == 0 && (v.2 == false && (v.3 == 0 && (v.4 == { data := { toList := [] : Array UInt8 } : ByteArray } && true)))) else false) = true → ∃ (l : List EX), cellsL args = cellsL l ∧ sizeL l < n ∧ l.length ≤ 1353245080300 ∧ fitsL l ∧ Q [.d (.v (.bool !!mayL c l))] []) ∧ ((bif bif bif bif decide ((↑es.length : Int) ≥ 3) then (↑es.length : Int).tmod (2 : Int) != (0 : Int) else false then sub == 0 else false then t.1 == 0 && (t.2 == 0 && true) else false then v.1.1 == 0 && (v.1.2 == 0 && (v.2 == false && (v.3 == 0 && (v.4 == { data := { toList := [] : Array UInt8 } : ByteArray } && true)))) else false) = !true → Q [.d (.v (.bool false))] [])) ∧ ((op == 14) = false → ((op == 15) = true → ((bif bif bif decide ((↑es.length : Int) ≥ 1) then sub == 0 else false then t.1 == 0 && (t.2 == 0 && true) else false then v.1.1 == 0 && (v.1.2 == 0 && (v.2 == false && (v.3 == 0 && (v.4 == { data := { toList := [] : Array UInt8 } : ByteArray } && true)))) else false) = true → ∃ (l : List EX), cellsL args = cellsL l ∧ sizeL l < n ∧ l.length ≤ 1353245080300 ∧ fitsL l ∧ Q [.d (.v (.bool !!mayL c l))] []) ∧ ((bif bif bif decide ((↑es.length : Int) ≥ 1) then sub == 0 else false then t.1 == 0 && (t.2 == 0 && true) else false then v.1.1 == 0 && (v.1.2 == 0 && (v.2 == false && (v.3 == 0 && (v.4 == { data := { toList := [] : Array UInt8 } : ByteArray } && true)))) else false) = !true → Q [.d (.v (.bool false))] [])) ∧ ((fun (P_1 : Prop) => ((fun (P_2 : Prop) => ((op == 15) = false → ((op == 3) = true → P_1 ∧ P_2) ∧ ((op == 3) = false → ((op == 4) = true → P_1 ∧ P_2) ∧ ((op == 4) = false → ((op == 5) = true → P_1 ∧ P_2) ∧ ((op == 5) = false → ((op == 6) = true → P_1 ∧ P_2) ∧ ((op == 6) = false → ((op == 7) = true → P_1 ∧ P_2) ∧ ((op == 7) = false → ((op == 10) = true → P_1 ∧ P_2) ∧ ((op == 10) = false → ((op == 11) = true → P_1 ∧ P_2) ∧ ((op == 11) = false → ((op == 17) = true → P_1 ∧ P_2) ∧ ((op == 17) = false → ((bif bif bif false then sub == 0 else false then t.1 == 0 && (t.2 == 0 && true) else false then v.1.1 == 0 && (v.1.2 == 0 && (v.2 == false && (v.3 == 0 && (v.4 == { data := { toList := [] : Array UInt8 } : ByteArray } && true)))) else false) = true → ∃ (l : List EX), cellsL args = cellsL l ∧ sizeL l < n ∧ l.length ≤ 1353245080300 ∧ fitsL l ∧ Q [.d (.v (.bool !!mayL c l))] []) ∧ ((bif bif bif false then sub == 0 else false then t.1 == 0 && (t.2 == 0 && true) else false then v.1.1 == 0 && (v.1.2 == 0 && (v.2 == false && (v.3 == 0 && (v.4 == { data := { toList := [] : Array UInt8 } : ByteArray } && true)))) else false) = !true → Q [.d (.v (.bool false))] []))))))))))) ((bif bif bif (↑es.length : Int) == 2 then sub == 0 else false then t.1 == 0 && (t.2 == 0 && true) else false then v.1.1 == 0 && (v.1.2 == 0 && (v.2 == false && (v.3 == 0 && (v.4 == { data := { toList := [] : Array UInt8 } : ByteArray } && true)))) else false) = !true → Q [.d (.v (.bool false))] []))) ((bif bif bif (↑es.length : Int) == 2 then sub == 0 else false then t.1 == 0 && (t.2 == 0 && true) else false then v.1.1 == 0 && (v.1.2 == 0 && (v.2 == false && (v.3 == 0 && (v.4 == { data := { toList := [] : Array UInt8 } : ByteArray } && true)))) else false) = true → ∃ (l : List EX), cellsL args = cellsL l ∧ sizeL l < n ∧ l.length ≤ 1353245080300 ∧ fitsL l ∧ Q [.d (.v (.bool !!mayL c l))] []))))))))) ((bif bif bif (↑es.length : Int) == 1 then sub == 0 else false then t.1 == 0 && (t.2 == 0 && true) else false then v.1.1 == 0 && (v.1.2 == 0 && (v.2 == false && (v.3 == 0 && (v.4 == { data := { toList := [] : Array UInt8 } : ByteArray } && true)))) else false) = !true → Q [.d (.v (.bool false))] []))) ((bif bif bif (↑es.length : Int) == 1 then sub == 0 else false then t.1 == 0 && (t.2 == 0 && true) else false then v.1.1 == 0 && (v.1.2 == 0 && (v.2 == false && (v.3 == 0 && (v.4 == { data := { toList := [] : Array UInt8 } : ByteArray } && true)))) else false) = true → ∃ (l : List EX), cellsL args = cellsL l ∧ sizeL l < n ∧ l.length ≤ 1353245080300 ∧ fitsL l ∧ Q [.d (.v (.bool !!mayL c l))] [])))))) := by kernel_rfl
/-- The contract of may, for what is less than n. -/
def P63 (gl : Nat → Option Obj) (n : Nat) : Prop := ∀ (e : EX) (c : Int), size e < n → fits e → Ct prog gl 26 [.agg (cells e), .d (.v (.int .i64 c))] (gives [.d (.v (.bool (mayE c e)))])
theorem ct126_of {n : Nat} (h63 : P63 gl n) : ∀ (e : EX) (c : Int), size e < n → fits e → Ct prog gl 47 [.agg (cells e), .ptr [.v (.int .i64 c)]] (gives [.d (.v (.bool (!mayE c e)))])
  | .mk op sub t v args, c, hs, hf => by
    have hC : CallsOk prog gl (C_f126 n) := addC_ok C_4e_ok (fun a K hk => by
      unfold c_63 at hk
      split at hk
      · obtain ⟨e, rfl, h1, h2, h3⟩ := hk
        exact (h63 e _ h1 h2).gives h3
      · exact hk.elim)
    rw [cells_mk]
    refine ct_of_vc E_ok hC ioK_no it_ok mixed (fn := f47) (body := f47.body.getD .skip) (by kernel_rfl) (by kernel_rfl) (by kernel_rfl) (fi := fi47) (by kernel_rfl) (by kernel_rfl) ⟨_, _, rfl, rfl⟩ ?_
    rw [vc126]
    exact ⟨c, rfl, .mk op sub t v args, by rw [cells_mk]; rfl, hs, hf, rfl, rfl⟩
theorem ct208_of {n : Nat} (h63 : P63 gl n) (l : List EX) (c : Int) (hs : sizeL l < n) (hl : l.length ≤ 1353245080300) (hf : fitsL l) :
    Ct prog gl 75 [.d (.sl (cellsL l)), .fn 47 [.ptr [.v (.int .i64 c)]]] (fun res fin => fin = [] ∧ ∃ r : Int, res = [.d (.v (.int .i64 r))] ∧ decide (r ≥ 0) = (!mayL c l)) := by
  have hC : CallsOk prog gl (C_f208 n) := addC_ok C_4e_ok (fun a K hk => by
    unfold c_126 at hk
    split at hk
    · obtain ⟨e, rfl, h1, h2, h3⟩ := hk
      exact (ct126_of h63 e _ h1 h2).gives h3
    · exact hk.elim)
  refine ct_of_vc E_ok hC ioK_no it_ok mixed (fn := f75) (body := f75.body.getD .skip) (by kernel_rfl) (by kernel_rfl) (by kernel_rfl) (fi := fx_208 c l) (by kernel_rfl) (by kernel_rfl) (by
    cases h : mayL c l
    · exact ⟨_, _, rfl, 0, rfl, rfl⟩
    · exact ⟨_, _, rfl, -1, rfl, rfl⟩) ?_
  rw [vc208]
  refine ⟨_, rfl, (0 : Nat), ⟨rfl, l.length, ⟨Nat.zero_le _, rfl⟩, by simp⟩, fun m (x : Nat) hx => ⟨fun hi => ?_, fun hi => ?_⟩⟩
  · have hi : x < l.length := by simpa [cellsL_len] using hi
    obtain ⟨op1, sub1, t1, v1, a1, e1, g1⟩ := arg_get hi
    have hm := hx.1.2
    have hsz := size_mem (List.getElem_mem hi)
    refine ⟨cellsL l, rfl, ⟨by omega, by rw [cellsL_len]; omega⟩, _, g1, rfl, op1, sub1, t1.k, t1.sc, v1.t.k, v1.t.sc, v1.nul, v1.n, v1.s, cellsL a1, rfl, l[x], by rw [e1, cells_mk]; rfl, by omega, fitsL_mem hf (List.getElem_mem hi), fun hb => ?_, fun hb => ?_⟩
    · refine ⟨rfl, (x : Int), rfl, ?_⟩
      rw [decide_eq_true (by omega), mayL_any]
      exact (List.any_eq_true.2 ⟨l[x], List.getElem_mem hi, hb⟩).symm
    · exact ⟨l.length - (x + 1), x + 1, by omega, by rw [wrap_next (by omega)], ⟨hi, rfl⟩, any_take (p := fun e => !mayE c e) hi hx.2 hb⟩
  · have hi : ¬ x < l.length := by simpa [cellsL_len] using hi
    have h := hx.2
    rw [List.take_of_length_le (by omega)] at h
    refine ⟨rfl, -1, rfl, ?_⟩
    rw [mayL_any, any_none h]; rfl
theorem ct125_of {n : Nat} (h63 : P63 gl n) (l : List EX) (c : Int) (hs : sizeL l < n) (hl : l.length ≤ 1353245080300) (hf : fitsL l) :
    Ct prog gl 46 [.d (.sl (cellsL l)), .fn 47 [.ptr [.v (.int .i64 c)]]] (gives [.d (.v (.bool (!mayL c l)))]) := by
  have hC : CallsOk prog gl (C_f125 n) := addC_ok C_4e_ok (fun a K hk => by
    unfold c_208 at hk
    split at hk
    · obtain ⟨l, rfl, h1, h2, h3, h4⟩ := hk
      exact (ct208_of h63 l _ h1 h2 h3).mono fun res fin ⟨e1, r, e2, e3⟩ => by subst e1; subst e2; exact h4 r e3
    · exact hk.elim)
  refine ct_of_vc E_ok hC ioK_no it_ok mixed (fn := f46) (body := f46.body.getD .skip) (by kernel_rfl) (by kernel_rfl) (by kernel_rfl) (fi := fi46) (by kernel_rfl) (by kernel_rfl) ⟨_, _, rfl, rfl⟩ ?_
  rw [vc125]
  exact ⟨l, rfl, hs, hl, hf, fun r hr => ⟨by rw [hr], rfl⟩⟩
theorem ct63_of {n : Nat} (h63 : P63 gl n) : ∀ (e : EX) (c : Int), size e < n + 1 → fits e → Ct prog gl 26 [.agg (cells e), .d (.v (.int .i64 c))] (gives [.d (.v (.bool (mayE c e)))])
  | .mk op sub t v args, c, hs, hf => by
    have hC : CallsOk prog gl (C_f63 n) := addC_ok C_4e_ok (fun a K hk => by
      unfold c_125 at hk
      split at hk
      · obtain ⟨l, rfl, h1, h2, h3, h4⟩ := hk
        exact (ct125_of h63 l _ h1 h2 h3).gives h4
      · exact hk.elim)
    rw [cells_mk]
    refine ct_of_vc E_b_ok hC ioK_no it_b mixed (fn := f26) (body := f26.body.getD .skip) (by kernel_rfl) (by kernel_rfl) (by kernel_rfl) (fi := fi26) (by kernel_rfl) (by kernel_rfl) ⟨_, _, rfl, rfl⟩ ?_
    rw [vc63]
    obtain ⟨_, hl, hfl⟩ := fits_mk hf
    simp only [size] at hs
    have hs' : sizeL args < n := by omega
    refine ⟨cellsL args, rfl, ?_⟩
    have two : (2 : Int) ≠ 0 := by decide
    have leaf : ∀ b : Bool, mayE c (.mk op sub t v args) = b → gives [.d (.v (.bool (mayE c (.mk op sub t v args))))] [R.d (D.v (Value.bool b))] [] := fun b h => by rw [h]; exact ⟨rfl, rfl⟩
    repeat' first | (refine And.intro (fun h => ?_) (fun h => ?_)) | (refine And.intro two ?_) | fail
    all_goals first
      | (exfalso; rename_i h; simp only [cond_false] at h; cases h; done)
      | (refine ⟨args, rfl, hs', hl, hfl, leaf _ ?_⟩; simp only [mayE, mayHd, tyZ, valZ, *, cond_true, cond_false, Bool.not_not, Bool.true_and, Bool.or_true, Bool.true_or, Bool.or_false, Bool.false_or])
      | (refine leaf _ ?_; simp only [mayE, mayHd, tyZ, valZ, *, cond_true, cond_false, Bool.not_true, Bool.false_and, Bool.or_true, Bool.true_or, Bool.or_false, Bool.false_or])
theorem ct63 : ∀ n : Nat, P63 gl n
  | 0 => fun e c h => absurd h (Nat.not_lt_zero _)
  | n + 1 => fun e c h hf => ct63_of (ct63 n) e c h hf
end Go.Proofs.Tryz
namespace Go.Proofs.Tryz
open Go Go.Dm Go.Ex
set_option maxRecDepth 100000
variable {gl : Nat → Option Obj}
/-- The common type of some, one after another. -/
def cstep (a : Ty × Bool) (u : Ty) : Ty × Bool :=
  bif u.k == a.1.k && (u.sc == a.1.sc && true) then a
  else bif (bif s130_0 u.k u.sc then s130_0 a.1.k a.1.sc else false) then (⟨3, if u.sc > a.1.sc then u.sc else a.1.sc⟩, a.2)
  else (a.1, false)
def cfold (a : Ty) (r : List Ty) : Ty × Bool := r.foldl cstep (a, true)
def st_131 (a : Ty) (r : List Ty) (x : Nat) : St := { tm := [(2, .ref 2 0), (3, .d (.v (.bool false))), (4, .ref 4 0), (5, .d (.v (.bool (cfold a (r.take x)).2))), (12, .d (.sl (r.map Ty.cs))), (13, .d (.v (.int .i64 ((r.map Ty.cs).length : Int)))), (14, .d (.v (.int .i64 (x : Int))))], hp := [(2, .box [.d (.v (.int .i64 0)), .d (.v (.int .i64 0))]), (4, .box [.d (.v (.int .i64 (cfold a (r.take x)).1.k)), .d (.v (.int .i64 (cfold a (r.take x)).1.sc))])], kn := [], gd := [] }
def inv_m {α : Type} (l : List α) (m : Nat) (x : Nat) : Prop := x ≤ l.length ∧ m = l.length - x
def fx_131 (a : Ty) (r : List Ty) : Fi := { fi52 with lx := [(4, { X := Nat, sh := st_131 a r, P := fun _ => inv_m r })] }
theorem vc131 (a : Ty) (r : List Ty) (Q : List R → List (List D) → Prop) : vc E_0 C_4e noI (fx_131 a r) (f52.body.getD .skip) f52.results.toList [.d (.sl ((a :: r).map Ty.cs))] Q = ( ∃ (es : List (List D)), D.sl (a.cs :: List.map Ty.cs r) = D.sl es ∧ ((0 : Int) ≤ 0 ∧ 0 < (↑es.length : Int)) ∧ ∃ (cells : List D), es[Int.toNat (0 : Int)]? = some cells ∧ cells.length = 2 ∧ ∃ (n n_1 : Int), cut 0 2 cells = some [D.i n, D.i n_1] ∧ ∃ (es : List (List D)), D.sl (a.cs :: List.map Ty.cs r) = D.sl es ∧ ∃ (l h : Nat), V.i 1 = V.i (↑l : Int) ∧ h = es.length ∧ l ≤ h ∧ h ≤ es.length ∧ (∀ (c : List D), c ∈ es → c.length = 2) ∧ ∃ (es_1 : List (List D)), D.sl (List.drop l (List.take h es)) = D.sl es_1 ∧ ∃ (x0 : Nat), ({ tm := [(2, .ref 2 0), (3, .d (.v (.bool false))), (4, .ref 4 0), (5, .d (.v (.bool true))), (12, .d (.sl (List.drop l (List.take h es)))), (13, .i (↑es_1.length : Int)), (14, .i 0)], hp := [(2, .box [.i 0, .i 0]), (4, .box [.i n, .i n_1])], kn := [], gd := [] : St } = { tm := [(2, .ref 2 0), (3, .d (.v (.bool false))), (4, .ref 4 0), (5, .d (.v (.bool (cfold a (List.take x0 r)).2))), (12, .d (.sl (List.map Ty.cs r))), (13, .i (↑(List.map Ty.cs r).length : Int)), (14, .i (↑x0 : Int))], hp := [(2, .box [.i 0, .i 0]), (4, .box [.d (.v (.int .i64 (cfold a (List.take x0 r)).1.1)), .d (.v (.int .i64 (cfold a (List.take x0 r)).1.2))])], kn := [], gd := [] : St } ∧ ∃ (n : Nat), inv_m r n x0) ∧ ∀ (n : Nat) (x : Nat), inv_m r n x → (decide ((↑x : Int) < (↑(List.map Ty.cs r).length : Int)) = true → ∃ (es : List (List D)), D.sl (List.map Ty.cs r) = D.sl es ∧ (0 ≤ (↑x : Int) ∧ (↑x : Int) < (↑es.length : Int)) ∧ ∃ (cells : List D), es[(↑x : Int).toNat]? = some cells ∧ cells.length = 2 ∧ ∃ (n_2 n_3 : Int), cut 0 2 cells = some [D.i n_2, D.i n_3] ∧ ((n_2 == (cfold a (List.take x r)).1.1 && (n_3 == (cfold a (List.take x r)).1.2 && true)) = true → ∃ (m x' : Nat), m < n ∧ { tm := [(2, .ref 2 0), (3, .d (.v (.bool false))), (4, .ref 4 0), (5, .d (.v (.bool (cfold a (List.take x r)).2))), (12, .d (.sl (List.map Ty.cs r))), (13, .i (↑(List.map Ty.cs r).length : Int)), (14, .i (IntKind.i64.wrap ((↑x : Int) + 1)))], hp := [(2, .box [.i 0, .i 0]), (4, .box [.d (.v (.int .i64 (cfold a (List.take x r)).1.1)), .d (.v (.int .i64 (cfold a (List.take x r)).1.2))])], kn := [], gd := [] : St } = { tm := [(2, .ref 2 0), (3, .d (.v (.bool false))), (4, .ref 4 0), (5, .d (.v (.bool (cfold a (List.take x' r)).2))), (12, .d (.sl (List.map Ty.cs r))), (13, .i (↑(List.map Ty.cs r).length : Int)), (14, .i (↑x' : Int))], hp := [(2, .box [.i 0, .i 0]), (4, .box [.d (.v (.int .i64 (cfold a (List.take x' r)).1.1)), .d (.v (.int .i64 (cfold a (List.take x' r)).1.2))])], kn := [], gd := [] : St } ∧ inv_m r m x') ∧ ((n_2 == (cfold a (List.take x r)).1.1 && (n_3 == (cfold a (List.take x r)).1.2 && true)) = false → ((bif s130_0 n_2 n_3 then s130_0 (cfold a (List.take x r)).1.1 (cfold a (List.take x r)).1.2 else false) = true → ∃ (m x' : Nat), m < n ∧ { tm := [(2, .ref 2 0), (3, .d (.v (.bool false))), (4, .ref 4 0), (5, .d (.v (.bool (cfold a (List.take x r)).2))), (12, .d (.sl (List.map Ty.cs r))), (13, .i (↑(List.map Ty.cs r).length : Int)), (14, .i (IntKind.i64.wrap ((↑x : Int) + 1)))], hp := [(2, .box [.i 0, .i 0]), (4, .box [.i 3, .i (if n_3 > (cfold a (List.take x r)).1.2 then n_3 else (cfold a (List.take x r)).1.2)])], kn := [], gd := [] : St } = { tm := [(2, .ref 2 0), (3, .d (.v (.bool false))), (4, .ref 4 0), (5, .d (.v (.bool (cfold a (List.take x' r)).2))), (12, .d (.sl (List.map Ty.cs r))), (13, .i (↑(List.map Ty.cs r).length : Int)), (14, .i (↑x' : Int))], hp := [(2, .box [.i 0, .i 0]), (4, .box [.d (.v (.int .i64 (cfold a (List.take x' r)).1.1)), .d (.v (.int .i64 (cfold a (List.take x' r)).1.2))])], kn := [], gd := [] : St } ∧ inv_m r m x') ∧ ((bif s130_0 n_2 n_3 then s130_0 (cfold a (List.take x r)).1.1 (cfold a (List.take x r)).1.2 else false) = false → ∃ (m x' : Nat), m < n ∧ { tm := [(2, .ref 2 0), (3, .d (.v (.bool false))), (4, .ref 4 0), (5, .d (.v (.bool false))), (12, .d (.sl (List.map Ty.cs r))), (13, .i (↑(List.map Ty.cs r).length : Int)), (14, .i (IntKind.i64.wrap ((↑x : Int) + 1)))], hp := [(2, .box [.i 0, .i 0]), (4, .box [.d (.v (.int .i64 (cfold a (List.take x r)).1.1)), .d (.v (.int .i64 (cfold a (List.take x r)).1.2))])], kn := [], gd := [] : St } = { tm := [(2, .ref 2 0), (3, .d (.v (.bool false))), (4, .ref 4 0), (5, .d (.v (.bool (cfold a (List.take x' r)).2))), (12, .d (.sl (List.map Ty.cs r))), (13, .i (↑(List.map Ty.cs r).length : Int)), (14, .i (↑x' : Int))], hp := [(2, .box [.i 0, .i 0]), (4, .box [.d (.v (.int .i64 (cfold a (List.take x' r)).1.1)), .d (.v (.int .i64 (cfold a (List.take x' r)).1.2))])], kn := [], gd := [] : St } ∧ inv_m r m x'))) ∧ (decide ((↑x : Int) < (↑(List.map Ty.cs r).length : Int)) = false → Q [.agg [.v (.int .i64 (cfold a (List.take x r)).1.1), .v (.int .i64 (cfold a (List.take x r)).1.2)], .d (.v (.bool (cfold a (List.take x r)).2))] [])) := by kernel_rfl
def oddsT (l : List Ty) (j : Nat) : List Ty := (List.range j).map fun k => l.getD (2 * k + 1) ⟨0, 0⟩
def resultsE (op : Int) (l : List Ty) : List Ty := if op = 15 then l else oddsT l (l.length / 2) ++ [l.getD (l.length - 1) ⟨0, 0⟩]
def st_132 (op sub : Int) (t : Ty) (v : Go.Ex.AV) (args : List EX) (l : List Ty) (x : Nat) : St := { tm := [(1, .d (.sl (l.map Ty.cs))), (4, .nil), (5, .own 50005), (6, .d (.v (.int .i64 (2 * (x : Int) + 1))))], hp := [(2, .box [.d (.v (.int .i64 op)), .d (.v (.int .i64 sub)), .d (.v (.int .i64 t.k)), .d (.v (.int .i64 t.sc)), .d (.v (.int .i64 v.t.k)), .d (.v (.int .i64 v.t.sc)), .d (.v (.bool v.nul)), .d (.v (.int .i64 v.n)), .d (.v (.string v.s)), .d (.sl (cellsL args))]), (50005, .lst 23 2 ((oddsT l x).map Ty.cs))], kn := [], gd := [] }
def inv_132 (l : List Ty) (m : Nat) (x : Nat) : Prop := x ≤ l.length / 2 ∧ m = l.length - x
def fx_132 (op sub : Int) (t : Ty) (v : Go.Ex.AV) (args : List EX) (l : List Ty) : Fi := { fi53 with cv := [(5, [⟨none, 5, 50005, 23, 2⟩])], lx := [(5, { X := Nat, sh := st_132 op sub t v args l, P := fun _ => inv_132 l })] }
theorem vc132 (op sub : Int) (t : Ty) (v : Go.Ex.AV) (args : List EX) (l : List Ty) (Q : List R → List (List D) → Prop) : vc E_0 C_4e noI (fx_132 op sub t v args l) (f53.body.getD .skip) f53.results.toList [.agg (encX op sub t v (cellsL args)), .d (.sl (l.map Ty.cs))] Q = ( ((op == 15) = true → Q [.d (.sl (List.map Ty.cs l))] []) ∧ ((op == 15) = false → ∃ (x0 : Nat), ({ tm := [(1, .d (.sl (List.map Ty.cs l))), (4, .nil), (5, .own 50005), (6, .i 1)], hp := [(2, .box [.i op, .i sub, .i t.1, .i t.2, .i v.1.1, .i v.1.2, .d (.v (.bool v.2)), .i v.3, .d (.v (.string v.4)), .d (.sl (cellsL args))]), (50005, .lst 23 2 [])], kn := [], gd := [] : St } = { tm := [(1, .d (.sl (List.map Ty.cs l))), (4, .nil), (5, .own 50005), (6, .i ((2 : Int) * (↑x0 : Int) + 1))], hp := [(2, .box [.i op, .i sub, .i t.1, .i t.2, .i v.1.1, .i v.1.2, .d (.v (.bool v.2)), .i v.3, .d (.v (.string v.4)), .d (.sl (cellsL args))]), (50005, .lst 23 2 (List.map Ty.cs (oddsT l x0)))], kn := [], gd := [] : St } ∧ ∃ (n : Nat), inv_132 l n x0) ∧ ∀ (n : Nat) (x : Nat), inv_132 l n x → ∃ (es : List (List D)), D.sl (List.map Ty.cs l) = D.sl es ∧ (decide ((2 : Int) * (↑x : Int) + 1 < (↑es.length : Int)) = true → ∃ (es : List (List D)), D.sl (List.map Ty.cs l) = D.sl es ∧ ((0 : Int) ≤ 2 * (↑x : Int) + 1 ∧ (2 : Int) * (↑x : Int) + 1 < (↑es.length : Int)) ∧ ∃ (cells : List D), es[((2 : Int) * (↑x : Int) + 1).toNat]? = some cells ∧ cells.length = 2 ∧ ∃ (n_1 n_2 : Int), cut 0 2 cells = some [D.i n_1, D.i n_2] ∧ (∀ (c : List D), c ∈ [[D.i n_1, D.i n_2]] → c.length = 2) ∧ (23 : Nat) = (23 : Nat) ∧ (2 : Nat) = (2 : Nat) ∧ (↑(List.map Ty.cs (oddsT l x)).length.succ : Int) * (↑(16 : Nat) : Int) ≤ 140737488355328 ∧ ∃ (m x' : Nat), m < n ∧ { tm := [(1, .d (.sl (List.map Ty.cs l))), (4, .nil), (5, .own 50005), (6, .i (IntKind.i64.wrap ((2 : Int) * (↑x : Int) + 1 + (2 : Int))))], hp := [(2, .box [.i op, .i sub, .i t.1, .i t.2, .i v.1.1, .i v.1.2, .d (.v (.bool v.2)), .i v.3, .d (.v (.string v.4)), .d (.sl (cellsL args))]), (50005, .lst 23 2 (List.map Ty.cs (oddsT l x) ++ [[.i n_1, .i n_2]]))], kn := [], gd := [] : St } = { tm := [(1, .d (.sl (List.map Ty.cs l))), (4, .nil), (5, .own 50005), (6, .i ((2 : Int) * (↑x' : Int) + 1))], hp := [(2, .box [.i op, .i sub, .i t.1, .i t.2, .i v.1.1, .i v.1.2, .d (.v (.bool v.2)), .i v.3, .d (.v (.string v.4)), .d (.sl (cellsL args))]), (50005, .lst 23 2 (List.map Ty.cs (oddsT l x')))], kn := [], gd := [] : St } ∧ inv_132 l m x') ∧ (decide ((2 : Int) * (↑x : Int) + 1 < (↑es.length : Int)) = false → ∃ (es : List (List D)), D.sl (List.map Ty.cs l) = D.sl es ∧ ∃ (es_1 : List (List D)), D.sl (List.map Ty.cs l) = D.sl es_1 ∧ ((0 : Int) ≤ IntKind.i64.wrap ((↑es.length : Int) - 1) ∧ IntKind.i64.wrap ((↑es.length : Int) - 1) < (↑es_1.length : Int)) ∧ ∃ (cells : List D), es_1[(IntKind.i64.wrap ((↑es.length : Int) - 1)).toNat]? = some cells ∧ cells.length = 2 ∧ ∃ (n n_1 : Int), cut 0 2 cells = some [D.i n, D.i n_1] ∧ (∀ (c : List D), c ∈ [[D.i n, D.i n_1]] → c.length = 2) ∧ (23 : Nat) = (23 : Nat) ∧ (2 : Nat) = (2 : Nat) ∧ (↑(List.map Ty.cs (oddsT l x)).length.succ : Int) * (↑(16 : Nat) : Int) ≤ 140737488355328 ∧ Q [.d (.sl (List.map Ty.cs (oddsT l x) ++ [[.i n, .i n_1]]))] []))) := by kernel_rfl
/-- The type of arithmetic. -/
def arithE (op : Int) (a b : Ty) (ints : Bool) : Ty × Bool :=
  bif ints then (⟨2, 0⟩, true)
  else bif (bif op == 6 then true else op == 7) then (⟨0, 0⟩, false)
  else bif op == 8 then (a, s130_0 a.k a.sc)
  else bif (bif (bif s130_0 a.k a.sc then s130_0 b.k b.sc else false) then op == 5 else false) then (⟨3, IntKind.i64.wrap (a.sc + b.sc)⟩, decide (IntKind.i64.wrap (a.sc + b.sc) ≤ 18))
  else bif (bif s130_0 a.k a.sc then s130_0 b.k b.sc else false) then (⟨3, if b.sc > a.sc then b.sc else a.sc⟩, true)
  else bif op == 5 then (⟨0, 0⟩, false)
  else bif (bif (bif op == 4 then a.k == 5 && (a.sc == 0 && true) else false) then b.k == 5 && (b.sc == 0 && true) else false) then (⟨2, 0⟩, true)
  else (⟨5, 0⟩, bif (bif a.k == 5 && (a.sc == 0 && true) then b.k == 2 && (b.sc == 0 && true) else false) then true else bif (bif op == 3 then a.k == 2 && (a.sc == 0 && true) else false) then b.k == 5 && (b.sc == 0 && true) else false)
theorem vc133 (op : Int) (l : List Ty) (b : Bool) (Q : List R → List (List D) → Prop) : vc E_0 C_4e noI fi54 (f54.body.getD .skip) f54.results.toList [.d (.v (.int .i64 op)), .d (.sl (l.map Ty.cs)), .d (.v (.bool b))] Q = ( ∃ (es : List (List D)), D.sl (List.map Ty.cs l) = D.sl es ∧ ((0 : Int) ≤ 0 ∧ 0 < (↑es.length : Int)) ∧ ∃ (cells : List D), es[Int.toNat (0 : Int)]? = some cells ∧ cells.length = 2 ∧ ∃ (n n_1 : Int), cut 0 2 cells = some [D.i n, D.i n_1] ∧ ∃ (es : List (List D)), D.sl (List.map Ty.cs l) = D.sl es ∧ ∃ (es_1 : List (List D)), D.sl (List.map Ty.cs l) = D.sl es_1 ∧ ((0 : Int) ≤ IntKind.i64.wrap ((↑es.length : Int) - 1) ∧ IntKind.i64.wrap ((↑es.length : Int) - 1) < (↑es_1.length : Int)) ∧ ∃ (cells : List D), es_1[(IntKind.i64.wrap ((↑es.length : Int) - 1)).toNat]? = some cells ∧ cells.length = 2 ∧ ∃ (n_2 n_3 : Int), cut 0 2 cells = some [D.i n_2, D.i n_3] ∧ ((b = true → Q [.agg [.i 2, .i 0], .d (.v (.bool true))] []) ∧ (b = false → ((bif op == 6 then true else op == 7) = true → Q [.agg [.i 0, .i 0], .d (.v (.bool false))] []) ∧ ((bif op == 6 then true else op == 7) = false → ((op == 8) = true → Q [.agg [.i n, .i n_1], .d (.v (.bool (s130_0 n n_1)))] []) ∧ ((op == 8) = false → ((bif bif s130_0 n n_1 then s130_0 n_2 n_3 else false then op == 5 else false) = true → Q [.agg [.i 3, .i (IntKind.i64.wrap (n_1 + n_3))], .d (.v (.bool (decide (IntKind.i64.wrap (n_1 + n_3) ≤ (18 : Int)))))] []) ∧ ((bif bif s130_0 n n_1 then s130_0 n_2 n_3 else false then op == 5 else false) = false → ((bif s130_0 n n_1 then s130_0 n_2 n_3 else false) = true → Q [.agg [.i 3, .i (if n_3 > n_1 then n_3 else n_1)], .d (.v (.bool true))] []) ∧ ((bif s130_0 n n_1 then s130_0 n_2 n_3 else false) = false → ((op == 5) = true → Q [.agg [.i 0, .i 0], .d (.v (.bool false))] []) ∧ ((op == 5) = false → ((bif bif op == 4 then n == 5 && (n_1 == 0 && true) else false then n_2 == 5 && (n_3 == 0 && true) else false) = true → Q [.agg [.i 2, .i 0], .d (.v (.bool true))] []) ∧ ((bif bif op == 4 then n == 5 && (n_1 == 0 && true) else false then n_2 == 5 && (n_3 == 0 && true) else false) = false → Q [.agg [.i 5, .i 0], .d (.v (.bool (bif bif n == 5 && (n_1 == 0 && true) then n_2 == 2 && (n_3 == 0 && true) else false then true else bif bif op == 3 then n == 2 && (n_1 == 0 && true) else false then n_2 == 5 && (n_3 == 0 && true) else false)))] [])))))))) ∧ (b = true → Q [.agg [.i 2, .i 0], .d (.v (.bool true))] []) ∧ (b = false → ((bif op == 6 then true else op == 7) = true → Q [.agg [.i 0, .i 0], .d (.v (.bool false))] []) ∧ ((bif op == 6 then true else op == 7) = false → ((op == 8) = true → Q [.agg [.i n, .i n_1], .d (.v (.bool (s130_0 n n_1)))] []) ∧ ((op == 8) = false → ((bif bif s130_0 n n_1 then s130_0 n_2 n_3 else false then op == 5 else false) = true → Q [.agg [.i 3, .i (IntKind.i64.wrap (n_1 + n_3))], .d (.v (.bool (decide (IntKind.i64.wrap (n_1 + n_3) ≤ (18 : Int)))))] []) ∧ ((bif bif s130_0 n n_1 then s130_0 n_2 n_3 else false then op == 5 else false) = false → ((bif s130_0 n n_1 then s130_0 n_2 n_3 else false) = true → Q [.agg [.i 3, .i (if n_3 > n_1 then n_3 else n_1)], .d (.v (.bool true))] []) ∧ ((bif s130_0 n n_1 then s130_0 n_2 n_3 else false) = false → ((op == 5) = true → Q [.agg [.i 0, .i 0], .d (.v (.bool false))] []) ∧ ((op == 5) = false → ((bif bif op == 4 then n == 5 && (n_1 == 0 && true) else false then n_2 == 5 && (n_3 == 0 && true) else false) = true → Q [.agg [.i 2, .i 0], .d (.v (.bool true))] []) ∧ ((bif bif op == 4 then n == 5 && (n_1 == 0 && true) else false then n_2 == 5 && (n_3 == 0 && true) else false) = false → Q [.agg [.i 5, .i 0], .d (.v (.bool (bif bif n == 5 && (n_1 == 0 && true) then n_2 == 2 && (n_3 == 0 && true) else false then true else bif bif op == 3 then n == 2 && (n_1 == 0 && true) else false then n_2 == 5 && (n_3 == 0 && true) else false)))] [])))))))) := by kernel_rfl
def E_7 : Env := { E_0 with bw := [21] }
theorem vc127 (l : List (List D)) (k : Int) (Q : List R → List (List D) → Prop) : vc E_7 C_4e noI fi48 (f48.body.getD .skip) f48.results.toList [.d (.v (.int .i64 k)), .ptr [.sl l]] Q = ( ∃ (es : List (List D)), some [D.sl l] = some [D.sl es] ∧ ∃ (l : List Ty), es = List.map Ty.cs l ∧ l.length < 4611686018427387904 ∧ Q [.d (.v (.bool !l.any (offK k)))] []) := by kernel_rfl
theorem ty_get {l : List Ty} {i : Nat} (hi : i < l.length) : (l.map Ty.cs)[i]? = some (Ty.cs l[i]) := by simp [hi]
theorem ty_all (l : List Ty) : ∀ c ∈ l.map Ty.cs, c.length = 2 := by
  intro c hc
  obtain ⟨t, _, rfl⟩ := List.mem_map.1 hc; rfl
theorem cfold_next {a : Ty} {r : List Ty} {x : Nat} (hi : x < r.length) : cfold a (r.take (x + 1)) = cstep (cfold a (r.take x)) r[x] := by
  unfold cfold
  rw [List.take_add_one, List.getElem?_eq_getElem hi, List.foldl_append]
  rfl
theorem ct131 (a : Ty) (r : List Ty) (hl : r.length < 4611686018427387904) : Ct prog gl 52 [.d (.sl ((a :: r).map Ty.cs))] (gives [.agg (cfold a r).1.cs, .d (.v (.bool (cfold a r).2))]) := by
  refine ct_of_vc E_ok C_4e_ok ioK_no it_ok mixed (fn := f52) (body := f52.body.getD .skip) (by kernel_rfl) (by kernel_rfl) (by kernel_rfl) (fi := fx_131 a r) (by kernel_rfl) (by kernel_rfl) ⟨_, _, rfl, rfl⟩ ?_
  rw [vc131]
  have hd : List.drop 1 (List.take (Ty.cs a :: List.map Ty.cs r).length (Ty.cs a :: List.map Ty.cs r)) = r.map Ty.cs := by rw [List.take_length]; rfl
  refine ⟨_, rfl, ⟨by decide, by rw [List.length_cons]; omega⟩, Ty.cs a, rfl, rfl, a.k, a.sc, rfl, _, rfl, 1, _, rfl, rfl, by simp, Nat.le_refl _, ty_all (a :: r), r.map Ty.cs, by rw [hd], (0 : Nat), ⟨by rw [hd]; rfl, r.length, Nat.zero_le _, rfl⟩, fun m (x : Nat) hx => ⟨fun hi => ?_, fun hi => ?_⟩⟩
  · have hi : x < r.length := by simpa using hi
    have hg := ty_get hi
    have hm := hx.2
    have e0 := cfold_next (a := a) hi
    unfold cstep at e0
    refine ⟨_, rfl, ⟨by omega, by simpa using hi⟩, _, hg, rfl, r[x].k, r[x].sc, rfl, fun h => ?_, fun h => ⟨fun h2 => ?_, fun h2 => ?_⟩⟩
    · have h' : (r[x].k == (cfold a (r.take x)).1.k && (r[x].sc == (cfold a (r.take x)).1.sc && true)) = true := h
      rw [h', cond_true] at e0
      exact ⟨r.length - (x + 1), x + 1, by omega, by rw [e0, wrap_next (by omega)], hi, rfl⟩
    · have h' : (r[x].k == (cfold a (r.take x)).1.k && (r[x].sc == (cfold a (r.take x)).1.sc && true)) = false := h
      have h2' : (bif s130_0 r[x].k r[x].sc then s130_0 (cfold a (r.take x)).1.k (cfold a (r.take x)).1.sc else false) = true := h2
      rw [h', cond_false, h2', cond_true] at e0
      exact ⟨r.length - (x + 1), x + 1, by omega, by rw [e0, wrap_next (by omega)], hi, rfl⟩
    · have h' : (r[x].k == (cfold a (r.take x)).1.k && (r[x].sc == (cfold a (r.take x)).1.sc && true)) = false := h
      have h2' : (bif s130_0 r[x].k r[x].sc then s130_0 (cfold a (r.take x)).1.k (cfold a (r.take x)).1.sc else false) = false := h2
      rw [h', cond_false, h2', cond_false] at e0
      exact ⟨r.length - (x + 1), x + 1, by omega, by rw [e0, wrap_next (by omega)], hi, rfl⟩
  · have hi : ¬ x < r.length := by simpa using hi
    rw [List.take_of_length_le (by omega)]
    exact ⟨rfl, rfl⟩
theorem odds_next {l : List Ty} {x : Nat} (hi : 2 * x + 1 < l.length) : (oddsT l x).map Ty.cs ++ [Ty.cs l[2 * x + 1]] = (oddsT l (x + 1)).map Ty.cs := by
  unfold oddsT
  rw [List.range_succ, List.map_append, List.map_append]
  simp only [List.map_cons, List.map_nil, List.getD_eq_getElem?_getD, List.getElem?_eq_getElem hi, Option.getD_some]
theorem ct132 (op sub : Int) (t : Ty) (v : Go.Ex.AV) (args : List EX) (l : List Ty) (hl : l.length ≤ 1353245080300) (hn : l ≠ []) : Ct prog gl 53 [.agg (encX op sub t v (cellsL args)), .d (.sl (l.map Ty.cs))] (gives [.d (.sl ((resultsE op l).map Ty.cs))]) := by
  refine ct_of_vc E_ok C_4e_ok ioK_no it_ok mixed (fn := f53) (body := f53.body.getD .skip) (by kernel_rfl) (by kernel_rfl) (by kernel_rfl) (fi := fx_132 op sub t v args l) (by kernel_rfl) (by kernel_rfl) ⟨_, _, rfl, rfl⟩ ?_
  rw [vc132]
  have hpos : 0 < l.length := List.length_pos_iff.2 hn
  refine ⟨fun ho => ?_, fun ho => ⟨(0 : Nat), ⟨rfl, l.length, Nat.zero_le _, rfl⟩, fun m (x : Nat) hx => ⟨_, rfl, fun hi => ?_, fun hi => ?_⟩⟩⟩
  · have ho : op = 15 := by simpa using ho
    unfold resultsE
    rw [if_pos ho]
    exact ⟨rfl, rfl⟩
  · have hi : 2 * x + 1 < l.length := by
      have := of_decide_eq_true hi
      rw [List.length_map] at this
      omega
    have hg := ty_get hi
    have hi' : (2 * (x : Int) + 1).toNat = 2 * x + 1 := by omega
    have hm := hx.2
    refine ⟨_, rfl, ⟨by omega, by rw [List.length_map]; omega⟩, _, (by rw [hi']; exact hg), rfl, l[2 * x + 1].k, l[2 * x + 1].sc, rfl, by simp, rfl, rfl, ?_, l.length - (x + 1), x + 1, by omega, ?_, by show x + 1 ≤ l.length / 2; omega, rfl⟩
    · rw [List.length_map]; simp only [oddsT, List.length_map, List.length_range]; omega
    · have w : IntKind.i64.wrap (2 * ((x : Nat) : Int) + 1 + 2) = 2 * ((x + 1 : Nat) : Int) + 1 := by rw [wrap_i64_of (by omega) (by omega)]; omega
      rw [w, ← odds_next hi]
  · have hi : ¬ 2 * x + 1 < l.length := by
      have := of_decide_eq_false hi
      rw [List.length_map] at this
      omega
    have ho : op ≠ 15 := by simpa using ho
    have hx1 : x = l.length / 2 := by have := hx.1; omega
    have hlt : l.length - 1 < l.length := by omega
    have hg := ty_get hlt
    have w : IntKind.i64.wrap (((List.map Ty.cs l).length : Int) - 1) = ((l.length - 1 : Nat) : Int) := by rw [List.length_map, wrap_i64_of (by omega) (by omega)]; omega
    refine ⟨_, rfl, _, rfl, ⟨by rw [w]; omega, by rw [w, List.length_map]; omega⟩, _, (by rw [w, Int.toNat_natCast]; exact hg), rfl, l[l.length - 1].k, l[l.length - 1].sc, rfl, by simp, rfl, rfl, ?_, ?_, rfl⟩
    · rw [List.length_map]; simp only [oddsT, List.length_map, List.length_range]; omega
    · unfold resultsE
      rw [if_neg ho, ← hx1, List.map_append]
      simp only [List.map_cons, List.map_nil, List.getD_eq_getElem?_getD, List.getElem?_eq_getElem hlt, Option.getD_some]
theorem ct133 (op : Int) (l : List Ty) (b : Bool) (x y : Ty) (hx : l[0]? = some x) (hy : l[l.length - 1]? = some y) (hl : l.length ≤ 1353245080300) : Ct prog gl 54 [.d (.v (.int .i64 op)), .d (.sl (l.map Ty.cs)), .d (.v (.bool b))] (gives [.agg (arithE op x y b).1.cs, .d (.v (.bool (arithE op x y b).2))]) := by
  refine ct_of_vc E_ok C_4e_ok ioK_no it_ok mixed (fn := f54) (body := f54.body.getD .skip) (by kernel_rfl) (by kernel_rfl) (by kernel_rfl) (fi := fi54) (by kernel_rfl) (by kernel_rfl) ⟨_, _, rfl, rfl⟩ ?_
  rw [vc133]
  have h0 := (List.getElem?_eq_some_iff.1 hx).1
  have w : IntKind.i64.wrap (((List.map Ty.cs l).length : Int) - 1) = ((l.length - 1 : Nat) : Int) := by rw [List.length_map, wrap_i64_of (by omega) (by omega)]; omega
  have g0 : (l.map Ty.cs)[Int.toNat 0]? = some (Ty.cs x) := by
    show (l.map Ty.cs)[0]? = _
    rw [List.getElem?_map, hx]; rfl
  have g1 : (l.map Ty.cs)[(IntKind.i64.wrap (((List.map Ty.cs l).length : Int) - 1)).toNat]? = some (Ty.cs y) := by
    rw [w, Int.toNat_natCast, List.getElem?_map, hy]; rfl
  have fin : ∀ (a a' : Int) (c : Bool), arithE op x y b = (⟨a, a'⟩, c) → gives [.agg (arithE op x y b).1.cs, .d (.v (.bool (arithE op x y b).2))] [R.agg [D.v (Value.int IntKind.i64 a), D.v (Value.int IntKind.i64 a')], R.d (D.v (Value.bool c))] [] := fun a a' c h => by rw [h]; exact ⟨rfl, rfl⟩
  refine ⟨_, rfl, ⟨by decide, by rw [List.length_map]; omega⟩, _, g0, rfl, x.k, x.sc, rfl, _, rfl, _, rfl, ⟨by rw [w]; omega, by rw [w, List.length_map]; omega⟩, _, g1, rfl, y.k, y.sc, rfl, ?_⟩
  repeat' first | (refine And.intro (fun h => ?_) (fun h => ?_)) | (refine And.intro ?_ (And.intro (fun h => ?_) (fun h => ?_))) | fail
  all_goals (refine fin _ _ _ ?_; clear fin; first | (simp only [arithE, *, cond_true, cond_false]; done) | (simp_all only [arithE, cond_true, cond_false]; done))
theorem ct127 (l : List Ty) (k : Int) (hl : l.length < 4611686018427387904) : Ct prog gl 48 [.d (.v (.int .i64 k)), .ptr [.sl (l.map Ty.cs)]] (gives [.d (.v (.bool (!l.any (offK k))))]) := by
  refine ct_of_vc (E := E_7) ⟨E_ok.te⟩ C_4e_ok ioK_no (fun _ _ _ h => h.elim) mixed (fn := f48) (body := f48.body.getD .skip) (by kernel_rfl) (by kernel_rfl) (by kernel_rfl) (fi := fi48) (by kernel_rfl) (by kernel_rfl) ⟨_, _, rfl, rfl⟩ ?_
  rw [vc127]
  exact ⟨_, rfl, l, rfl, hl, rfl, rfl⟩
end Go.Proofs.Tryz
namespace Go.Proofs.Tryz
open Go Go.Dm Go.Ex
set_option maxRecDepth 100000
variable {gl : Nat → Option Obj}
def c_127 (a : List R) (K : List R → List (List D) → Prop) : Prop := match a with
  | [.d (.v (.int .i64 k)), .ptr [.sl x]] => ∃ l : List Ty, x = l.map Ty.cs ∧ l.length < 4611686018427387904 ∧ K [.d (.v (.bool (!l.any (offK k))))] []
  | _ => False
theorem c_127_ok (a : List R) (K : List R → List (List D) → Prop) (h : c_127 a K) : Ct prog gl 48 a K := by
  unfold c_127 at h
  split at h
  · obtain ⟨l, rfl, h1, h2⟩ := h
    exact (ct127 l _ h1).gives h2
  · exact h.elim
def c_131 (a : List R) (K : List R → List (List D) → Prop) : Prop := match a with
  | [.d (.sl x)] => ∃ (a : Ty) (r : List Ty), x = (a :: r).map Ty.cs ∧ r.length < 4611686018427387904 ∧ K [.agg (cfold a r).1.cs, .d (.v (.bool (cfold a r).2))] []
  | _ => False
theorem c_131_ok (a : List R) (K : List R → List (List D) → Prop) (h : c_131 a K) : Ct prog gl 52 a K := by
  unfold c_131 at h
  split at h
  · obtain ⟨a, r, rfl, h1, h2⟩ := h
    exact (ct131 a r h1).gives h2
  · exact h.elim
def c_132 (a : List R) (K : List R → List (List D) → Prop) : Prop := match a with
  | [.agg x, .d (.sl y)] => ∃ (op sub : Int) (t : Ty) (v : Go.Ex.AV) (args : List EX) (l : List Ty), x = encX op sub t v (cellsL args) ∧ y = l.map Ty.cs ∧ l.length ≤ 1353245080300 ∧ l ≠ [] ∧ K [.d (.sl ((resultsE op l).map Ty.cs))] []
  | _ => False
theorem c_132_ok (a : List R) (K : List R → List (List D) → Prop) (h : c_132 a K) : Ct prog gl 53 a K := by
  unfold c_132 at h
  split at h
  · obtain ⟨op, sub, t, v, args, l, rfl, rfl, h1, h2, h3⟩ := h
    exact (ct132 op sub t v args l h1 h2).gives h3
  · exact h.elim
def c_133 (a : List R) (K : List R → List (List D) → Prop) : Prop := match a with
  | [.d (.v (.int .i64 op)), .d (.sl y), .d (.v (.bool b))] => ∃ (l : List Ty) (u w : Ty), y = l.map Ty.cs ∧ l[0]? = some u ∧ l[l.length - 1]? = some w ∧ l.length ≤ 1353245080300 ∧ K [.agg (arithE op u w b).1.cs, .d (.v (.bool (arithE op u w b).2))] []
  | _ => False
theorem c_133_ok (a : List R) (K : List R → List (List D) → Prop) (h : c_133 a K) : Ct prog gl 54 a K := by
  unfold c_133 at h
  split at h
  · obtain ⟨l, u, w, rfl, h1, h2, h3, h4⟩ := h
    exact (ct133 _ l _ u w h1 h2 h3).gives h4
  · exact h.elim
def C_f7 : CallT := addC (addC (addC (addC C_4e 48 c_127) 52 c_131) 53 c_132) 54 c_133
def truthT (t : Ty) : Bool := t.k == (1 : Int) && (t.sc == (0 : Int) && true)
/-- Are the conditions truths? -/
def okJ (l : List Ty) (j : Nat) : Bool := (List.range j).all fun k => truthT (l.getD (2 * k) ⟨0, 0⟩)
/-- The type of a node of given parts. -/
def typedN (cols : List Ty) (op sub : Int) (t : Ty) (v : Go.Ex.AV) (l : List Ty) : Ty × Bool :=
  if op = 1 then (cols.getD sub.toNat ⟨0, 0⟩, true)
  else if op = 2 then (v.t, true)
  else if op = 9 then (⟨1, 0⟩, s129_0 (l.getD 0 ⟨0, 0⟩).k (l.getD 0 ⟨0, 0⟩).sc (l.getD 1 ⟨0, 0⟩).k (l.getD 1 ⟨0, 0⟩).sc)
  else if op = 10 ∨ op = 11 ∨ op = 12 then (⟨1, 0⟩, !l.any (offK 1))
  else if op = 13 then (⟨1, 0⟩, true)
  else if op = 17 then (⟨4, 0⟩, !l.any (offK 4))
  else if op = 18 then (⟨2, 0⟩, !l.any (offK 4))
  else if op = 16 then (t, bif (bif (bif t.k == (l.getD 0 ⟨0, 0⟩).k then true else t.k == 4) then true else (l.getD 0 ⟨0, 0⟩).k == 4) then true else bif s130_0 (l.getD 0 ⟨0, 0⟩).k (l.getD 0 ⟨0, 0⟩).sc then s130_0 t.k t.sc else false)
  else if op = 14 ∨ op = 15 then
    match resultsE op l with
    | [] => (⟨0, 0⟩, false)
    | a :: r => ((cfold a r).1, (cfold a r).2 && (decide (op = 15) || okJ l (l.length / 2)))
  else arithE op (l.getD 0 ⟨0, 0⟩) (l.getD (l.length - 1) ⟨0, 0⟩) (!l.any (offK 2))
mutual
/-- The type of an expression over columns. -/
def typedE (cols : List Ty) : EX → Ty × Bool
  | .mk op sub t v args => match typedL cols args with
    | none => (⟨0, 0⟩, false)
    | some l => typedN cols op sub t v l
def typedL (cols : List Ty) : List EX → Option (List Ty)
  | [] => some []
  | e :: r => match typedE cols e, typedL cols r with
    | (t, true), some l => some (t :: l)
    | _, _ => none
end
def c_64 (n : Nat) (a : List R) (K : List R → List (List D) → Prop) : Prop := match a with
  | [.agg x, .d (.sl y)] => ∃ (e : EX) (cols : List Ty), x = cells e ∧ y = cols.map Ty.cs ∧ size e < n ∧ fits e ∧ mayE cols.length e = true ∧ cols.length ≤ 4398046511104 ∧
      (∀ (t : Ty) (ok : Bool), typedE cols e = (t, ok) → K [.agg t.cs, .d (.v (.bool ok))] [])
  | _ => False
def C_f64 (n : Nat) : CallT := addC C_f7 27 (c_64 n)
def E_8 : Env := { E_0 with bw := [48] }
structure TX where
  i : Nat
  l : List Ty
def st_64 (op sub : Int) (t : Ty) (v : Go.Ex.AV) (args : List EX) (cols : List Ty) (x : TX) : St := { tm := [(1, .d (.sl (cols.map Ty.cs))), (2, .ref 2 0), (4, .ref 4 0), (5, .d (.v (.bool false))), (6, .ref 6 0), (20, .d (.sl (cellsL args))), (21, .d (.v (.int .i64 ((cellsL args).length : Int)))), (22, .d (.v (.int .i64 (x.i : Int))))], hp := [(2, .box [.d (.v (.int .i64 op)), .d (.v (.int .i64 sub)), .d (.v (.int .i64 t.k)), .d (.v (.int .i64 t.sc)), .d (.v (.int .i64 v.t.k)), .d (.v (.int .i64 v.t.sc)), .d (.v (.bool v.nul)), .d (.v (.int .i64 v.n)), .d (.v (.string v.s)), .d (.sl (cellsL args))]), (4, .box [.d (.v (.int .i64 0)), .d (.v (.int .i64 0))]), (6, .box [.own 50006]), (50006, .lst 23 2 (x.l.map Ty.cs))], kn := [], gd := [] }
def inv_64 (cols : List Ty) (args : List EX) (m : Nat) (x : TX) : Prop := (x.i ≤ args.length ∧ m = args.length - x.i) ∧ typedL cols (args.take x.i) = some x.l ∧ x.l.length = x.i
structure TY where
  l : List Ty
  t : Ty
  ok : Bool
  j : Nat
def st_64b (op sub : Int) (t : Ty) (v : Go.Ex.AV) (args : List EX) (y : TY) : St := { tm := [(2, .ref 2 0), (4, .ref 4 0), (5, .d (.v (.bool false))), (6, .ref 6 0), (11, .ref 11 0), (13, .fn 48 [.ref 6 0]), (16, .ref 16 0), (17, .d (.v (.bool (bif y.ok then okJ y.l y.j else false)))), (18, .d (.v (.int .i64 (2 * (y.j : Int)))))], hp := [(2, .box [.d (.v (.int .i64 op)), .d (.v (.int .i64 sub)), .d (.v (.int .i64 t.k)), .d (.v (.int .i64 t.sc)), .d (.v (.int .i64 v.t.k)), .d (.v (.int .i64 v.t.sc)), .d (.v (.bool v.nul)), .d (.v (.int .i64 v.n)), .d (.v (.string v.s)), .d (.sl (cellsL args))]), (4, .box [.d (.v (.int .i64 0)), .d (.v (.int .i64 0))]), (6, .box [.own 50006]), (11, .box [.d (.v (.int .i64 1)), .d (.v (.int .i64 0))]), (12, .box [.d (.v (.int .i64 2)), .d (.v (.int .i64 0))]), (16, .box [.d (.v (.int .i64 y.t.k)), .d (.v (.int .i64 y.t.sc))]), (50006, .fro 2 (y.l.map Ty.cs))], kn := [], gd := [] }
def inv_64b (op : Int) (y0 : TY) (m : Nat) (y : TY) : Prop := y.l = y0.l ∧ y.t = y0.t ∧ y.ok = y0.ok ∧ y.j ≤ y.l.length / 2 ∧ m = y.l.length - y.j ∧ (op = 14 ∨ y.j = 0)
def fx_64 (op sub : Int) (t : Ty) (v : Go.Ex.AV) (args : List EX) (cols : List Ty) : Fi := { fi27 with cv := [(3, [⟨some 6, 0, 50006, 23, 2⟩])], lx := [(3, { X := TX, sh := st_64 op sub t v args cols, P := fun _ => inv_64 cols args }), (36, { X := TY, sh := st_64b op sub t v args, P := inv_64b op })] }
theorem vc64 (n : Nat) (op sub : Int) (t : Ty) (v : Go.Ex.AV) (args : List EX) (cols : List Ty) (Q : List R → List (List D) → Prop) : vc E_8 (C_f64 n) noI (fx_64 op sub t v args cols) (f27.body.getD .skip) f27.results.toList [.agg (encX op sub t v (cellsL args)), .d (.sl (cols.map Ty.cs))] Q = ( ∃ (es : List (List D)), D.sl (cellsL args) = D.sl es ∧ ∃ (x0 : TX), ({ tm := [(1, .d (.sl (List.map Ty.cs cols))), (2, .ref 2 0), (4, .ref 4 0), (5, .d (.v (.bool false))), (6, .ref 6 0), (20, .d (.sl (cellsL args))), (21, .i (↑es.length : Int)), (22, .i 0)], hp := [(2, .box [.i op, .i sub, .i t.1, .i t.2, .i v.1.1, .i v.1.2, .d (.v (.bool v.2)), .i v.3, .d (.v (.string v.4)), .d (.sl (cellsL args))]), (4, .box [.i 0, .i 0]), (6, .box [.own 50006]), (50006, .lst 23 2 [])], kn := [], gd := [] : St } = { tm := [(1, .d (.sl (List.map Ty.cs cols))), (2, .ref 2 0), (4, .ref 4 0), (5, .d (.v (.bool false))), (6, .ref 6 0), (20, .d (.sl (cellsL args))), (21, .i (↑(cellsL args).length : Int)), (22, .i (↑x0.1 : Int))], hp := [(2, .box [.i op, .i sub, .i t.1, .i t.2, .i v.1.1, .i v.1.2, .d (.v (.bool v.2)), .i v.3, .d (.v (.string v.4)), .d (.sl (cellsL args))]), (4, .box [.i 0, .i 0]), (6, .box [.own 50006]), (50006, .lst 23 2 (List.map Ty.cs x0.2))], kn := [], gd := [] : St } ∧ ∃ (n : Nat), inv_64 cols args n x0) ∧ ∀ (n_1 : Nat) (x : TX), inv_64 cols args n_1 x → (decide ((↑x.1 : Int) < (↑(cellsL args).length : Int)) = true → ∃ (es : List (List D)), D.sl (cellsL args) = D.sl es ∧ (0 ≤ (↑x.1 : Int) ∧ (↑x.1 : Int) < (↑es.length : Int)) ∧ ∃ (cells : List D), es[(↑x.1 : Int).toNat]? = some cells ∧ cells.length = 10 ∧ ∃ (n_2 n_3 n_4 n_5 n_6 n_7 : Int), ∃ (b : Bool), ∃ (n_8 : Int), ∃ (b_1 : ByteArray), ∃ (es : List (List D)), cut 0 10 cells = some [D.i n_2, D.i n_3, D.i n_4, D.i n_5, D.i n_6, D.i n_7, D.v (.bool b), D.i n_8, D.v (.string b_1), D.sl es] ∧ ∃ (e : EX), ∃ (cols_1 : List Ty), [D.i n_2, D.i n_3, D.i n_4, D.i n_5, D.i n_6, D.i n_7, D.v (.bool b), D.i n_8, D.v (.string b_1), D.sl es] = Ex.cells e ∧ List.map Ty.cs cols = List.map Ty.cs cols_1 ∧ size e < n ∧ fits e ∧ mayE (↑cols_1.length : Int) e = true ∧ cols_1.length ≤ 4398046511104 ∧ ∀ (t_1 : Ty) (ok : Bool), typedE cols_1 e = (t_1, ok) → ((!ok) = true → Q [.agg [.i 0, .i 0], .d (.v (.bool false))] []) ∧ ((!ok) = false → (∀ (c : List D), c ∈ [[D.i t_1.1, D.i t_1.2]] → c.length = 2) ∧ (23 : Nat) = (23 : Nat) ∧ (2 : Nat) = (2 : Nat) ∧ (↑(List.map Ty.cs x.2).length.succ : Int) * (↑(16 : Nat) : Int) ≤ 140737488355328 ∧ ∃ (m : Nat), ∃ (x' : TX), m < n_1 ∧ { tm := [(1, .d (.sl (List.map Ty.cs cols))), (2, .ref 2 0), (4, .ref 4 0), (5, .d (.v (.bool false))), (6, .ref 6 0), (20, .d (.sl (cellsL args))), (21, .i (↑(cellsL args).length : Int)), (22, .i (IntKind.i64.wrap ((↑x.1 : Int) + 1)))], hp := [(2, .box [.i op, .i sub, .i t.1, .i t.2, .i v.1.1, .i v.1.2, .d (.v (.bool v.2)), .i v.3, .d (.v (.string v.4)), .d (.sl (cellsL args))]), (4, .box [.i 0, .i 0]), (6, .box [.own 50006]), (50006, .lst 23 2 (List.map Ty.cs x.2 ++ [[.i t_1.1, .i t_1.2]]))], kn := [], gd := [] : St } = { tm := [(1, .d (.sl (List.map Ty.cs cols))), (2, .ref 2 0), (4, .ref 4 0), (5, .d (.v (.bool false))), (6, .ref 6 0), (20, .d (.sl (cellsL args))), (21, .i (↑(cellsL args).length : Int)), (22, .i (↑x'.1 : Int))], hp := [(2, .box [.i op, .i sub, .i t.1, .i t.2, .i v.1.1, .i v.1.2, .d (.v (.bool v.2)), .i v.3, .d (.v (.string v.4)), .d (.sl (cellsL args))]), (4, .box [.i 0, .i 0]), (6, .box [.own 50006]), (50006, .lst 23 2 (List.map Ty.cs x'.2))], kn := [], gd := [] : St } ∧ inv_64 cols args m x')) ∧ (decide ((↑x.1 : Int) < (↑(cellsL args).length : Int)) = false → ((op == 1) = true → ∃ (es : List (List D)), D.sl (List.map Ty.cs cols) = D.sl es ∧ (0 ≤ sub ∧ sub < (↑es.length : Int)) ∧ ∃ (cells : List D), es[sub.toNat]? = some cells ∧ cells.length = 2 ∧ ∃ (n n_2 : Int), cut 0 2 cells = some [D.i n, D.i n_2] ∧ Q [.agg [.i n, .i n_2], .d (.v (.bool true))] []) ∧ ((op == 1) = false → ((op == 2) = true → Q [.agg [.i v.1.1, .i v.1.2], .d (.v (.bool true))] []) ∧ ((op == 2) = false → ((op == 9) = true → ((0 : Int) ≤ 0 ∧ 0 < (↑(List.map Ty.cs x.2).length : Int)) ∧ (2 : Nat) = (2 : Nat) ∧ ∃ (cells : List D), (List.map Ty.cs x.2)[Int.toNat (0 : Int)]? = some cells ∧ ∃ (n n_2 : Int), cut 0 2 cells = some [D.i n, D.i n_2] ∧ ((0 : Int) ≤ 1 ∧ 1 < (↑(List.map Ty.cs x.2).length : Int)) ∧ (2 : Nat) = (2 : Nat) ∧ ∃ (cells : List D), (List.map Ty.cs x.2)[Int.toNat (1 : Int)]? = some cells ∧ ∃ (n_3 n_4 : Int), cut 0 2 cells = some [D.i n_3, D.i n_4] ∧ Q [.agg [.i 1, .i 0], .d (.v (.bool (s129_0 n n_2 n_3 n_4)))] []) ∧ ((op == 9) = false → ((op == 10) = true → ∃ (l : List Ty), List.map Ty.cs x.2 = List.map Ty.cs l ∧ l.length < 4611686018427387904 ∧ Q [.agg [.i 1, .i 0], .d (.v (.bool !l.any (offK (1 : Int))))] []) ∧ ((op == 10) = false → ((op == 11) = true → ∃ (l : List Ty), List.map Ty.cs x.2 = List.map Ty.cs l ∧ l.length < 4611686018427387904 ∧ Q [.agg [.i 1, .i 0], .d (.v (.bool !l.any (offK (1 : Int))))] []) ∧ ((op == 11) = false → ((op == 12) = true → ∃ (l : List Ty), List.map Ty.cs x.2 = List.map Ty.cs l ∧ l.length < 4611686018427387904 ∧ Q [.agg [.i 1, .i 0], .d (.v (.bool !l.any (offK (1 : Int))))] []) ∧ ((op == 12) = false → ((op == 13) = true → Q [.agg [.i 1, .i 0], .d (.v (.bool true))] []) ∧ ((op == 13) = false → ((op == 17) = true → ∃ (l : List Ty), List.map Ty.cs x.2 = List.map Ty.cs l ∧ l.length < 4611686018427387904 ∧ Q [.agg [.i 4, .i 0], .d (.v (.bool !l.any (offK (4 : Int))))] []) ∧ ((op == 17) = false → ((op == 18) = true → ∃ (l : List Ty), List.map Ty.cs x.2 = List.map Ty.cs l ∧ l.length < 4611686018427387904 ∧ Q [.agg [.i 2, .i 0], .d (.v (.bool !l.any (offK (4 : Int))))] []) ∧ ((op == 18) = false → ((op == 16) = true → ((0 : Int) ≤ 0 ∧ 0 < (↑(List.map Ty.cs x.2).length : Int)) ∧ (2 : Nat) = (2 : Nat) ∧ ∃ (cells : List D), (List.map Ty.cs x.2)[Int.toNat (0 : Int)]? = some cells ∧ ∃ (n n_2 : Int), cut 0 2 cells = some [D.i n, D.i n_2] ∧ Q [.agg [.i t.1, .i t.2], .d (.v (.bool (bif bif bif t.1 == n then true else t.1 == 4 then true else n == 4 then true else bif s130_0 n n_2 then s130_0 t.1 t.2 else false)))] []) ∧ ((op == 16) = false → ((op == 14) = true → ∃ (op_1 sub_1 : Int), ∃ (t_1 : Ty), ∃ (v_1 : AV), ∃ (args_1 : List EX), ∃ (l : List Ty), [D.i op, D.i sub, D.i t.1, D.i t.2, D.i v.1.1, D.i v.1.2, D.v (.bool v.2), D.i v.3, D.v (.string v.4), D.sl (cellsL args)] = [D.i op_1, D.i sub_1, D.i t_1.1, D.i t_1.2, D.i v_1.1.1, D.i v_1.1.2, D.v (.bool v_1.2), D.i v_1.3, D.v (.string v_1.4), D.sl (cellsL args_1)] ∧ List.map Ty.cs x.2 = List.map Ty.cs l ∧ l.length ≤ 1353245080300 ∧ l ≠ [] ∧ ∃ (a : Ty), ∃ (r : List Ty), List.map Ty.cs (resultsE op_1 l) = a.cs :: List.map Ty.cs r ∧ r.length < 4611686018427387904 ∧ ∃ (x0 : TY), ({ tm := [(2, .ref 2 0), (4, .ref 4 0), (5, .d (.v (.bool false))), (6, .ref 6 0), (11, .ref 11 0), (13, .fn (48 : Nat) [.ref 6 0]), (16, .ref 16 0), (17, .d (.v (.bool (cfold a r).2))), (18, .i 0)], hp := [(2, .box [.i op, .i sub, .i t.1, .i t.2, .i v.1.1, .i v.1.2, .d (.v (.bool v.2)), .i v.3, .d (.v (.string v.4)), .d (.sl (cellsL args))]), (4, .box [.i 0, .i 0]), (6, .box [.own 50006]), (11, .box [.i 1, .i 0]), (12, .box [.i 2, .i 0]), (16, .box [.d (.v (.int .i64 (cfold a r).1.1)), .d (.v (.int .i64 (cfold a r).1.2))]), (50006, .fro 2 (List.map Ty.cs x.2))], kn := [], gd := [] : St } = { tm := [(2, .ref 2 0), (4, .ref 4 0), (5, .d (.v (.bool false))), (6, .ref 6 0), (11, .ref 11 0), (13, .fn (48 : Nat) [.ref 6 0]), (16, .ref 16 0), (17, .d (.v (.bool (bif x0.3 then okJ x0.1 x0.4 else false)))), (18, .i ((2 : Int) * (↑x0.4 : Int)))], hp := [(2, .box [.i op, .i sub, .i t.1, .i t.2, .i v.1.1, .i v.1.2, .d (.v (.bool v.2)), .i v.3, .d (.v (.string v.4)), .d (.sl (cellsL args))]), (4, .box [.i 0, .i 0]), (6, .box [.own 50006]), (11, .box [.i 1, .i 0]), (12, .box [.i 2, .i 0]), (16, .box [.i x0.2.1, .i x0.2.2]), (50006, .fro 2 (List.map Ty.cs x0.1))], kn := [], gd := [] : St } ∧ ∃ (n : Nat), inv_64b op x0 n x0) ∧ ∀ (n : Nat) (x : TY), inv_64b op x0 n x → ((bif op == 14 then decide (IntKind.i64.wrap ((2 : Int) * (↑x.4 : Int) + 1) < (↑(List.map Ty.cs x.1).length : Int)) else false) = true → ((bif x.3 then okJ x.1 x.4 else false) = true → ((0 : Int) ≤ 2 * (↑x.4 : Int) ∧ (2 : Int) * (↑x.4 : Int) < (↑(List.map Ty.cs x.1).length : Int)) ∧ (2 : Nat) = (2 : Nat) ∧ ∃ (cells : List D), (List.map Ty.cs x.1)[((2 : Int) * (↑x.4 : Int)).toNat]? = some cells ∧ ∃ (n_2 n_3 : Int), cut 0 2 cells = some [D.i n_2, D.i n_3] ∧ ∃ (m : Nat), ∃ (x' : TY), m < n ∧ { tm := [(2, .ref 2 0), (4, .ref 4 0), (5, .d (.v (.bool false))), (6, .ref 6 0), (11, .ref 11 0), (13, .fn (48 : Nat) [.ref 6 0]), (16, .ref 16 0), (17, .d (.v (.bool (n_2 == 1 && (n_3 == 0 && true))))), (18, .i (IntKind.i64.wrap ((2 : Int) * (↑x.4 : Int) + 2)))], hp := [(2, .box [.i op, .i sub, .i t.1, .i t.2, .i v.1.1, .i v.1.2, .d (.v (.bool v.2)), .i v.3, .d (.v (.string v.4)), .d (.sl (cellsL args))]), (4, .box [.i 0, .i 0]), (6, .box [.own 50006]), (11, .box [.i 1, .i 0]), (12, .box [.i 2, .i 0]), (16, .box [.i x.2.1, .i x.2.2]), (50006, .fro 2 (List.map Ty.cs x.1))], kn := [], gd := [] : St } = { tm := [(2, .ref 2 0), (4, .ref 4 0), (5, .d (.v (.bool false))), (6, .ref 6 0), (11, .ref 11 0), (13, .fn (48 : Nat) [.ref 6 0]), (16, .ref 16 0), (17, .d (.v (.bool (bif x'.3 then okJ x'.1 x'.4 else false)))), (18, .i ((2 : Int) * (↑x'.4 : Int)))], hp := [(2, .box [.i op, .i sub, .i t.1, .i t.2, .i v.1.1, .i v.1.2, .d (.v (.bool v.2)), .i v.3, .d (.v (.string v.4)), .d (.sl (cellsL args))]), (4, .box [.i 0, .i 0]), (6, .box [.own 50006]), (11, .box [.i 1, .i 0]), (12, .box [.i 2, .i 0]), (16, .box [.i x'.2.1, .i x'.2.2]), (50006, .fro 2 (List.map Ty.cs x'.1))], kn := [], gd := [] : St } ∧ inv_64b op x0 m x') ∧ ((bif x.3 then okJ x.1 x.4 else false) = !true → ∃ (m : Nat), ∃ (x' : TY), m < n ∧ { tm := [(2, .ref 2 0), (4, .ref 4 0), (5, .d (.v (.bool false))), (6, .ref 6 0), (11, .ref 11 0), (13, .fn (48 : Nat) [.ref 6 0]), (16, .ref 16 0), (17, .d (.v (.bool false))), (18, .i (IntKind.i64.wrap ((2 : Int) * (↑x.4 : Int) + 2)))], hp := [(2, .box [.i op, .i sub, .i t.1, .i t.2, .i v.1.1, .i v.1.2, .d (.v (.bool v.2)), .i v.3, .d (.v (.string v.4)), .d (.sl (cellsL args))]), (4, .box [.i 0, .i 0]), (6, .box [.own 50006]), (11, .box [.i 1, .i 0]), (12, .box [.i 2, .i 0]), (16, .box [.i x.2.1, .i x.2.2]), (50006, .fro 2 (List.map Ty.cs x.1))], kn := [], gd := [] : St } = { tm := [(2, .ref 2 0), (4, .ref 4 0), (5, .d (.v (.bool false))), (6, .ref 6 0), (11, .ref 11 0), (13, .fn (48 : Nat) [.ref 6 0]), (16, .ref 16 0), (17, .d (.v (.bool (bif x'.3 then okJ x'.1 x'.4 else false)))), (18, .i ((2 : Int) * (↑x'.4 : Int)))], hp := [(2, .box [.i op, .i sub, .i t.1, .i t.2, .i v.1.1, .i v.1.2, .d (.v (.bool v.2)), .i v.3, .d (.v (.string v.4)), .d (.sl (cellsL args))]), (4, .box [.i 0, .i 0]), (6, .box [.own 50006]), (11, .box [.i 1, .i 0]), (12, .box [.i 2, .i 0]), (16, .box [.i x'.2.1, .i x'.2.2]), (50006, .fro 2 (List.map Ty.cs x'.1))], kn := [], gd := [] : St } ∧ inv_64b op x0 m x')) ∧ ((bif op == 14 then decide (IntKind.i64.wrap ((2 : Int) * (↑x.4 : Int) + 1) < (↑(List.map Ty.cs x.1).length : Int)) else false) = false → Q [.agg [.i x.2.1, .i x.2.2], .d (.v (.bool (bif x.3 then okJ x.1 x.4 else false)))] [])) ∧ ((op == 14) = false → ((op == 15) = true → ∃ (op_1 sub_1 : Int), ∃ (t_1 : Ty), ∃ (v_1 : AV), ∃ (args_1 : List EX), ∃ (l : List Ty), [D.i op, D.i sub, D.i t.1, D.i t.2, D.i v.1.1, D.i v.1.2, D.v (.bool v.2), D.i v.3, D.v (.string v.4), D.sl (cellsL args)] = [D.i op_1, D.i sub_1, D.i t_1.1, D.i t_1.2, D.i v_1.1.1, D.i v_1.1.2, D.v (.bool v_1.2), D.i v_1.3, D.v (.string v_1.4), D.sl (cellsL args_1)] ∧ List.map Ty.cs x.2 = List.map Ty.cs l ∧ l.length ≤ 1353245080300 ∧ l ≠ [] ∧ ∃ (a : Ty), ∃ (r : List Ty), List.map Ty.cs (resultsE op_1 l) = a.cs :: List.map Ty.cs r ∧ r.length < 4611686018427387904 ∧ ∃ (x0 : TY), ({ tm := [(2, .ref 2 0), (4, .ref 4 0), (5, .d (.v (.bool false))), (6, .ref 6 0), (11, .ref 11 0), (13, .fn (48 : Nat) [.ref 6 0]), (16, .ref 16 0), (17, .d (.v (.bool (cfold a r).2))), (18, .i 0)], hp := [(2, .box [.i op, .i sub, .i t.1, .i t.2, .i v.1.1, .i v.1.2, .d (.v (.bool v.2)), .i v.3, .d (.v (.string v.4)), .d (.sl (cellsL args))]), (4, .box [.i 0, .i 0]), (6, .box [.own 50006]), (11, .box [.i 1, .i 0]), (12, .box [.i 2, .i 0]), (16, .box [.d (.v (.int .i64 (cfold a r).1.1)), .d (.v (.int .i64 (cfold a r).1.2))]), (50006, .fro 2 (List.map Ty.cs x.2))], kn := [], gd := [] : St } = { tm := [(2, .ref 2 0), (4, .ref 4 0), (5, .d (.v (.bool false))), (6, .ref 6 0), (11, .ref 11 0), (13, .fn (48 : Nat) [.ref 6 0]), (16, .ref 16 0), (17, .d (.v (.bool (bif x0.3 then okJ x0.1 x0.4 else false)))), (18, .i ((2 : Int) * (↑x0.4 : Int)))], hp := [(2, .box [.i op, .i sub, .i t.1, .i t.2, .i v.1.1, .i v.1.2, .d (.v (.bool v.2)), .i v.3, .d (.v (.string v.4)), .d (.sl (cellsL args))]), (4, .box [.i 0, .i 0]), (6, .box [.own 50006]), (11, .box [.i 1, .i 0]), (12, .box [.i 2, .i 0]), (16, .box [.i x0.2.1, .i x0.2.2]), (50006, .fro 2 (List.map Ty.cs x0.1))], kn := [], gd := [] : St } ∧ ∃ (n : Nat), inv_64b op x0 n x0) ∧ ∀ (n : Nat) (x : TY), inv_64b op x0 n x → ((bif op == 14 then decide (IntKind.i64.wrap ((2 : Int) * (↑x.4 : Int) + 1) < (↑(List.map Ty.cs x.1).length : Int)) else false) = true → ((bif x.3 then okJ x.1 x.4 else false) = true → ((0 : Int) ≤ 2 * (↑x.4 : Int) ∧ (2 : Int) * (↑x.4 : Int) < (↑(List.map Ty.cs x.1).length : Int)) ∧ (2 : Nat) = (2 : Nat) ∧ ∃ (cells : List D), (List.map Ty.cs x.1)[((2 : Int) * (↑x.4 : Int)).toNat]? = some cells ∧ ∃ (n_2 n_3 : Int), cut 0 2 cells = some [D.i n_2, D.i n_3] ∧ ∃ (m : Nat), ∃ (x' : TY), m < n ∧ { tm := [(2, .ref 2 0), (4, .ref 4 0), (5, .d (.v (.bool false))), (6, .ref 6 0), (11, .ref 11 0), (13, .fn (48 : Nat) [.ref 6 0]), (16, .ref 16 0), (17, .d (.v (.bool (n_2 == 1 && (n_3 == 0 && true))))), (18, .i (IntKind.i64.wrap ((2 : Int) * (↑x.4 : Int) + 2)))], hp := [(2, .box [.i op, .i sub, .i t.1, .i t.2, .i v.1.1, .i v.1.2, .d (.v (.bool v.2)), .i v.3, .d (.v (.string v.4)), .d (.sl (cellsL args))]), (4, .box [.i 0, .i 0]), (6, .box [.own 50006]), (11, .box [.i 1, .i 0]), (12, .box [.i 2, .i 0]), (16, .box [.i x.2.1, .i x.2.2]), (50006, .fro 2 (List.map Ty.cs x.1))], kn := [], gd := [] : St } = { tm := [(2, .ref 2 0), (4, .ref 4 0), (5, .d (.v (.bool false))), (6, .ref 6 0), (11, .ref 11 0), (13, .fn (48 : Nat) [.ref 6 0]), (16, .ref 16 0), (17, .d (.v (.bool (bif x'.3 then okJ x'.1 x'.4 else false)))), (18, .i ((2 : Int) * (↑x'.4 : Int)))], hp := [(2, .box [.i op, .i sub, .i t.1, .i t.2, .i v.1.1, .i v.1.2, .d (.v (.bool v.2)), .i v.3, .d (.v (.string v.4)), .d (.sl (cellsL args))]), (4, .box [.i 0, .i 0]), (6, .box [.own 50006]), (11, .box [.i 1, .i 0]), (12, .box [.i 2, .i 0]), (16, .box [.i x'.2.1, .i x'.2.2]), (50006, .fro 2 (List.map Ty.cs x'.1))], kn := [], gd := [] : St } ∧ inv_64b op x0 m x') ∧ ((bif x.3 then okJ x.1 x.4 else false) = !true → ∃ (m : Nat), ∃ (x' : TY), m < n ∧ { tm := [(2, .ref 2 0), (4, .ref 4 0), (5, .d (.v (.bool false))), (6, .ref 6 0), (11, .ref 11 0), (13, .fn (48 : Nat) [.ref 6 0]), (16, .ref 16 0), (17, .d (.v (.bool false))), (18, .i (IntKind.i64.wrap ((2 : Int) * (↑x.4 : Int) + 2)))], hp := [(2, .box [.i op, .i sub, .i t.1, .i t.2, .i v.1.1, .i v.1.2, .d (.v (.bool v.2)), .i v.3, .d (.v (.string v.4)), .d (.sl (cellsL args))]), (4, .box [.i 0, .i 0]), (6, .box [.own 50006]), (11, .box [.i 1, .i 0]), (12, .box [.i 2, .i 0]), (16, .box [.i x.2.1, .i x.2.2]), (50006, .fro 2 (List.map Ty.cs x.1))], kn := [], gd := [] : St } = { tm := [(2, .ref 2 0), (4, .ref 4 0), (5, .d (.v (.bool false))), (6, .ref 6 0), (11, .ref 11 0), (13, .fn (48 : Nat) [.ref 6 0]), (16, .ref 16 0), (17, .d (.v (.bool (bif x'.3 then okJ x'.1 x'.4 else false)))), (18, .i ((2 : Int) * (↑x'.4 : Int)))], hp := [(2, .box [.i op, .i sub, .i t.1, .i t.2, .i v.1.1, .i v.1.2, .d (.v (.bool v.2)), .i v.3, .d (.v (.string v.4)), .d (.sl (cellsL args))]), (4, .box [.i 0, .i 0]), (6, .box [.own 50006]), (11, .box [.i 1, .i 0]), (12, .box [.i 2, .i 0]), (16, .box [.i x'.2.1, .i x'.2.2]), (50006, .fro 2 (List.map Ty.cs x'.1))], kn := [], gd := [] : St } ∧ inv_64b op x0 m x')) ∧ ((bif op == 14 then decide (IntKind.i64.wrap ((2 : Int) * (↑x.4 : Int) + 1) < (↑(List.map Ty.cs x.1).length : Int)) else false) = false → Q [.agg [.i x.2.1, .i x.2.2], .d (.v (.bool (bif x.3 then okJ x.1 x.4 else false)))] [])) ∧ ((op == 15) = false → ∃ (l : List Ty), List.map Ty.cs x.2 = List.map Ty.cs l ∧ l.length < 4611686018427387904 ∧ ∃ (l_1 : List Ty), ∃ (u w : Ty), List.map Ty.cs x.2 = List.map Ty.cs l_1 ∧ l_1[(0 : Nat)]? = some u ∧ l_1[l_1.length - (1 : Nat)]? = some w ∧ l_1.length ≤ 1353245080300 ∧ Q [.agg [.v (.int .i64 (arithE op u w !l.any (offK (2 : Int))).1.1), .v (.int .i64 (arithE op u w !l.any (offK (2 : Int))).1.2)], .d (.v (.bool (arithE op u w !l.any (offK (2 : Int))).2))] [])))))))))))))) := by kernel_rfl
theorem typedL_none {cols : List Ty} : ∀ {l : List EX} {e : EX}, e ∈ l → (typedE cols e).2 = false → typedL cols l = none
  | a :: l, e, h, hn => by
    simp only [typedL]
    cases h with
    | head =>
      rcases hh : typedE cols a with ⟨t, ok⟩
      rw [hh] at hn
      have : ok = false := hn
      subst this
      rfl
    | tail _ h =>
      rw [typedL_none h hn]
      rcases typedE cols a with ⟨t, _ | _⟩ <;> rfl
theorem typedL_snoc {cols : List Ty} : ∀ {l : List EX} {tl : List Ty} {e : EX} {t : Ty}, typedL cols l = some tl → typedE cols e = (t, true) → typedL cols (l ++ [e]) = some (tl ++ [t])
  | [], tl, e, t, h, he => by
    simp only [typedL, Option.some.injEq] at h
    subst h
    simp only [List.nil_append, typedL, he]
  | a :: l, tl, e, t, h, he => by
    simp only [typedL] at h
    rcases hh : typedE cols a with ⟨u, _ | _⟩
    · rw [hh] at h; cases h
    · rw [hh] at h
      rcases hl : typedL cols l with _ | r
      · rw [hl] at h; cases h
      · rw [hl] at h
        simp only [Option.some.injEq] at h
        subst h
        simp only [List.cons_append, typedL, hh, typedL_snoc hl he]
theorem typedE_some {cols : List Ty} {op sub : Int} {t : Ty} {v : Go.Ex.AV} {args : List EX} {l : List Ty} (h : typedL cols args = some l) : typedE cols (.mk op sub t v args) = typedN cols op sub t v l := by
  simp only [typedE, h]
theorem typedE_none {cols : List Ty} {op sub : Int} {t : Ty} {v : Go.Ex.AV} {args : List EX} (h : typedL cols args = none) : typedE cols (.mk op sub t v args) = (⟨0, 0⟩, false) := by
  simp only [typedE, h]
theorem may_col {sub : Int} {t : Ty} {v : Go.Ex.AV} {m c : Int} (h : mayHd 1 sub t v m c = true) : 0 ≤ sub ∧ sub < c := by
  simp only [mayHd] at h
  by_cases h1 : m = 0 <;> by_cases h2 : 0 ≤ sub <;> by_cases h3 : sub < c <;> simp_all
theorem may_two {sub : Int} {t : Ty} {v : Go.Ex.AV} {m c : Int} (h : mayHd 9 sub t v m c = true) : m = 2 := by
  simp only [mayHd] at h
  by_cases h1 : m = 2
  · exact h1
  · simp_all
theorem may_pos {op sub : Int} {t : Ty} {v : Go.Ex.AV} {m c : Int} (h : mayHd op sub t v m c = true) (h1 : op ≠ 1) (h2 : op ≠ 2) : 1 ≤ m := by
  have b1 : (op == 1) = false := by simpa using h1
  have b2 : (op == 2) = false := by simpa using h2
  unfold mayHd at h
  rw [b1, b2, cond_false, cond_false] at h
  by_cases hm : 1 ≤ m
  · exact hm
  · exfalso
    have e1 : (m == 1) = false := by simp; omega
    have e2 : (m == 2) = false := by simp; omega
    have e3 : decide (m ≥ 3) = false := by simp; omega
    have e4 : decide (m ≥ 1) = false := by simp; omega
    rw [e1, e2, e3, e4] at h
    revert h
    cases op == 9 <;> cases op == 16 <;> cases (op == 8 || op == 12 || op == 13 || op == 18) <;> cases op == 14 <;> cases op == 15 <;> cases (op == 3 || op == 4 || op == 5 || op == 6 || op == 7 || op == 10 || op == 11 || op == 17) <;> simp
theorem okJ_next {l : List Ty} {j : Nat} (hj : 2 * j < l.length) : okJ l (j + 1) = (okJ l j && truthT l[2 * j]) := by
  unfold okJ
  rw [List.range_succ, List.all_append]
  simp [List.getD_eq_getElem?_getD, hj]
theorem results_ne {op : Int} {l : List Ty} (h : l ≠ []) : ∃ a r, resultsE op l = a :: r ∧ r.length ≤ l.length := by
  have hp := List.length_pos_iff.2 h
  rcases hr : resultsE op l with _ | ⟨a, r⟩
  · exfalso
    unfold resultsE at hr
    split at hr
    · exact h hr
    · simp at hr
  · refine ⟨a, r, rfl, ?_⟩
    have : (resultsE op l).length ≤ l.length + 1 := by
      unfold resultsE
      split
      · omega
      · simp only [List.length_append, oddsT, List.length_map, List.length_range, List.length_singleton]; omega
    rw [hr] at this
    simpa using this
theorem C_f7_ok : CallsOk prog gl C_f7 := addC_ok (addC_ok (addC_ok (addC_ok C_4e_ok c_127_ok) c_131_ok) c_132_ok) c_133_ok
theorem ct64 : ∀ (n : Nat) (e : EX) (cols : List Ty), size e < n → fits e → mayE cols.length e = true → cols.length ≤ 4398046511104 → Ct prog gl 27 [.agg (cells e), .d (.sl (cols.map Ty.cs))] (gives [.agg (typedE cols e).1.cs, .d (.v (.bool (typedE cols e).2))])
  | 0, _, _, h, _, _, _ => absurd h (Nat.not_lt_zero _)
  | n + 1, .mk op sub t v args, cols, hs, hf, hm, hcl => by
    have hC : CallsOk prog gl (C_f64 n) := addC_ok C_f7_ok (fun a K hk => by
      unfold c_64 at hk
      split at hk
      · obtain ⟨e, cols, rfl, rfl, h1, h2, h3, h4, h5⟩ := hk
        exact (ct64 n e cols h1 h2 h3 h4).gives (h5 _ _ rfl)
      · exact hk.elim)
    rw [cells_mk]
    refine ct_of_vc (E := E_8) ⟨E_ok.te⟩ hC ioK_no (fun _ _ _ h => h.elim) mixed (fn := f27) (body := f27.body.getD .skip) (by kernel_rfl) (by kernel_rfl) (by kernel_rfl) (fi := fx_64 op sub t v args cols) (by kernel_rfl) (by kernel_rfl) ⟨_, _, rfl, rfl⟩ ?_
    rw [vc64]
    obtain ⟨_, hl, hfl⟩ := fits_mk hf
    simp only [size] at hs
    have hmm : mayHd op sub t v ((cellsL args).length : Int) cols.length = true ∧ mayL cols.length args = true := by
      have : (mayHd op sub t v ((cellsL args).length : Int) cols.length && mayL cols.length args) = true := by simpa only [mayE] using hm
      simpa using this
    obtain ⟨hh, hml⟩ := hmm
    rw [mayL_all, List.all_eq_true] at hml
    refine ⟨cellsL args, rfl, ⟨0, []⟩, ⟨rfl, args.length, ⟨Nat.zero_le _, rfl⟩, by simp only [List.take_zero, typedL], rfl⟩, fun m (x : TX) hx => ⟨fun hi => ?_, fun hi => ?_⟩⟩
    · obtain ⟨i, tl⟩ := x
      obtain ⟨⟨h1, h2⟩, h4, h5⟩ := hx
      dsimp only at h1 h2 h4 h5 hi ⊢
      have hi : i < args.length := by simpa [cellsL_len] using hi
      obtain ⟨op1, sub1, t1, v1, a1, e1, g1⟩ := arg_get hi
      have hsz := size_mem (List.getElem_mem hi)
      refine ⟨cellsL args, rfl, ⟨by omega, by rw [cellsL_len]; omega⟩, _, g1, rfl, op1, sub1, t1.k, t1.sc, v1.t.k, v1.t.sc, v1.nul, v1.n, v1.s, cellsL a1, rfl, args[i], cols, by rw [e1, cells_mk]; rfl, rfl, by omega, fitsL_mem hfl (List.getElem_mem hi), hml _ (List.getElem_mem hi), hcl, fun t2 ok he => ⟨fun ho => ?_, fun ho => ⟨by simp, rfl, rfl, ?_, args.length - (i + 1), ⟨i + 1, tl ++ [t2]⟩, by omega, ?_, ⟨hi, rfl⟩, ?_, by simp [h5]⟩⟩⟩
      · have : ok = false := by simpa using ho
        subst this
        rw [typedE_none (typedL_none (List.getElem_mem hi) (by rw [he]))]
        exact ⟨rfl, rfl⟩
      · rw [List.length_map, h5]; omega
      · dsimp only
        rw [wrap_next (by omega), List.map_append]
        rfl
      · have : ok = true := by simpa using ho
        subst this
        rw [List.take_add_one, List.getElem?_eq_getElem hi]
        exact typedL_snoc h4 he
    · obtain ⟨i, tl⟩ := x
      obtain ⟨⟨h1, h2⟩, h4, h5⟩ := hx
      dsimp only at h1 h2 h4 h5 hi ⊢
      have hi : ¬ i < args.length := by simpa [cellsL_len] using hi
      rw [List.take_of_length_le (by omega)] at h4
      have htl : tl.length = args.length := by omega
      rw [cellsL_len] at hh
      have fin : ∀ (a a' : Int) (c : Bool), typedN cols op sub t v tl = (⟨a, a'⟩, c) → gives [.agg (typedE cols (.mk op sub t v args)).1.cs, .d (.v (.bool (typedE cols (.mk op sub t v args)).2))] [R.agg [D.v (Value.int IntKind.i64 a), D.v (Value.int IntKind.i64 a')], R.d (D.v (Value.bool c))] [] := fun a a' c h => by rw [typedE_some h4, h]; exact ⟨rfl, rfl⟩
      have g0 : ∀ (h : 0 < tl.length), (tl.map Ty.cs)[Int.toNat 0]? = some (Ty.cs tl[0]) := fun h => ty_get h
      have g1 : ∀ (h : 1 < tl.length), (tl.map Ty.cs)[Int.toNat 1]? = some (Ty.cs tl[1]) := fun h => ty_get h
      have d0 : ∀ (h : 0 < tl.length), tl.getD 0 ⟨0, 0⟩ = tl[0] := fun h => by rw [List.getD_eq_getElem?_getD, List.getElem?_eq_getElem h]; rfl
      have d1 : ∀ (h : 1 < tl.length), tl.getD 1 ⟨0, 0⟩ = tl[1] := fun h => by rw [List.getD_eq_getElem?_getD, List.getElem?_eq_getElem h]; rfl
      refine ⟨fun o1 => ?_, fun o1 => ⟨fun o2 => ?_, fun o2 => ⟨fun o9 => ?_, fun o9 => ⟨fun o10 => ?_, fun o10 => ⟨fun o11 => ?_, fun o11 => ⟨fun o12 => ?_, fun o12 => ⟨fun o13 => ?_, fun o13 => ⟨fun o17 => ?_, fun o17 => ⟨fun o18 => ?_, fun o18 => ⟨fun o16 => ?_, fun o16 => ?_⟩⟩⟩⟩⟩⟩⟩⟩⟩⟩
      · have o1 : op = 1 := by simpa using o1
        subst o1
        obtain ⟨c1, c2⟩ := may_col hh
        have hlt : sub.toNat < cols.length := by omega
        refine ⟨_, rfl, ⟨c1, by rw [List.length_map]; exact c2⟩, _, ty_get hlt, rfl, _, _, rfl, fin _ _ _ ?_⟩
        unfold typedN
        rw [if_pos rfl, List.getD_eq_getElem?_getD, List.getElem?_eq_getElem hlt]
        rfl
      all_goals have n1 : op ≠ 1 := by simpa using o1
      · have o2 : op = 2 := by simpa using o2
        refine fin _ _ _ ?_
        unfold typedN
        rw [if_neg n1, if_pos o2]
      all_goals have n2 : op ≠ 2 := by simpa using o2
      all_goals have hpos : 1 ≤ args.length := by have := may_pos hh n1 n2; omega
      all_goals have hne : tl ≠ [] := by intro h; rw [h] at htl; simp at htl; omega
      · have o9 : op = 9 := by simpa using o9
        subst o9
        have h2 := may_two hh
        refine ⟨⟨by decide, by rw [List.length_map]; omega⟩, rfl, _, g0 (by omega), _, _, rfl, ⟨by decide, by rw [List.length_map]; omega⟩, rfl, _, g1 (by omega), _, _, rfl, fin _ _ _ ?_⟩
        unfold typedN
        rw [if_neg n1, if_neg n2, if_pos rfl, d0 (by omega), d1 (by omega)]
      all_goals have n9 : op ≠ 9 := by simpa using o9
      · have o10 : op = 10 := by simpa using o10
        refine ⟨tl, rfl, by omega, fin _ _ _ ?_⟩
        unfold typedN
        rw [if_neg n1, if_neg n2, if_neg n9, if_pos (.inl o10)]
      all_goals have n10 : op ≠ 10 := by simpa using o10
      · have o11 : op = 11 := by simpa using o11
        refine ⟨tl, rfl, by omega, fin _ _ _ ?_⟩
        unfold typedN
        rw [if_neg n1, if_neg n2, if_neg n9, if_pos (.inr (.inl o11))]
      all_goals have n11 : op ≠ 11 := by simpa using o11
      · have o12 : op = 12 := by simpa using o12
        refine ⟨tl, rfl, by omega, fin _ _ _ ?_⟩
        unfold typedN
        rw [if_neg n1, if_neg n2, if_neg n9, if_pos (.inr (.inr o12))]
      all_goals have n12 : op ≠ 12 := by simpa using o12
      all_goals have nn : ¬ (op = 10 ∨ op = 11 ∨ op = 12) := by omega
      · have o13 : op = 13 := by simpa using o13
        refine fin _ _ _ ?_
        unfold typedN
        rw [if_neg n1, if_neg n2, if_neg n9, if_neg nn, if_pos o13]
      all_goals have n13 : op ≠ 13 := by simpa using o13
      · have o17 : op = 17 := by simpa using o17
        refine ⟨tl, rfl, by omega, fin _ _ _ ?_⟩
        unfold typedN
        rw [if_neg n1, if_neg n2, if_neg n9, if_neg nn, if_neg n13, if_pos o17]
      all_goals have n17 : op ≠ 17 := by simpa using o17
      · have o18 : op = 18 := by simpa using o18
        refine ⟨tl, rfl, by omega, fin _ _ _ ?_⟩
        unfold typedN
        rw [if_neg n1, if_neg n2, if_neg n9, if_neg nn, if_neg n13, if_neg n17, if_pos o18]
      all_goals have n18 : op ≠ 18 := by simpa using o18
      · have o16 : op = 16 := by simpa using o16
        refine ⟨⟨by decide, by rw [List.length_map]; omega⟩, rfl, _, g0 (by omega), _, _, rfl, fin _ _ _ ?_⟩
        unfold typedN
        rw [if_neg n1, if_neg n2, if_neg n9, if_neg nn, if_neg n13, if_neg n17, if_neg n18, if_pos o16, d0 (by omega)]
      have n16 : op ≠ 16 := by simpa using o16
      refine ⟨fun o14 => ?_, fun o14 => ⟨fun o15 => ?_, fun o15 => ?_⟩⟩
      · have o14 : op = 14 := by simpa using o14
        obtain ⟨a, r, hr, hrl⟩ := results_ne (op := op) hne
        refine ⟨op, sub, t, v, args, tl, rfl, rfl, by omega, hne, a, r, by rw [hr]; rfl, by omega, ⟨tl, (cfold a r).1, (cfold a r).2, 0⟩, ⟨by
          have : (bif (cfold a r).2 then okJ tl 0 else false) = (cfold a r).2 := by cases (cfold a r).2 <;> rfl
          dsimp only
          rw [this]
          rfl, tl.length, rfl, rfl, rfl, Nat.zero_le _, rfl, .inr rfl⟩, fun m2 y hy => ?_⟩
        obtain ⟨yl, yt, yok, yj⟩ := y
        obtain ⟨e1, e2, e3, hj, hm2, hz⟩ := hy
        dsimp only at e1 e2 e3 hj hm2 hz ⊢
        have e1' := e1.symm
        subst e1'; subst e2; subst e3
        refine ⟨fun hc => ?_, fun hc => ?_⟩
        · have hc2 : op = 14 ∧ 2 * yj + 1 < tl.length := by
            by_cases h14 : op = 14
            · rw [show (op == 14) = true by simpa using h14, cond_true] at hc
              have := of_decide_eq_true hc
              rw [List.length_map, wrap_i64_of (by omega) (by omega)] at this
              exact ⟨h14, by omega⟩
            · rw [show (op == 14) = false by simpa using h14, cond_false] at hc; cases hc
          have h2j : 2 * yj < tl.length := by omega
          have w : IntKind.i64.wrap (2 * ((yj : Nat) : Int) + 2) = 2 * ((yj + 1 : Nat) : Int) := by rw [wrap_i64_of (by omega) (by omega)]; omega
          have hg := ty_get h2j
          refine ⟨fun hk => ⟨⟨by omega, by rw [List.length_map]; omega⟩, rfl, _, (by rw [show (2 * ((yj : Nat) : Int)).toNat = 2 * yj by omega]; exact hg), tl[2 * yj].k, tl[2 * yj].sc, rfl, tl.length - (yj + 1), ⟨tl, (cfold a r).1, (cfold a r).2, yj + 1⟩, by omega, ?_, rfl, rfl, rfl, by show yj + 1 ≤ tl.length / 2; omega, rfl, .inl hc2.1⟩, fun hk => ⟨tl.length - (yj + 1), ⟨tl, (cfold a r).1, (cfold a r).2, yj + 1⟩, by omega, ?_, rfl, rfl, rfl, by show yj + 1 ≤ tl.length / 2; omega, rfl, .inl hc2.1⟩⟩
          · have e : (bif (cfold a r).2 then okJ tl (yj + 1) else false) = (bif (bif (cfold a r).2 then okJ tl yj else false) then truthT tl[2 * yj] else false) := by
              rw [okJ_next h2j]; cases (cfold a r).2 <;> cases okJ tl yj <;> rfl
            rw [hk, cond_true] at e
            dsimp only
            rw [e, w]
            rfl
          · have e : (bif (cfold a r).2 then okJ tl (yj + 1) else false) = (bif (bif (cfold a r).2 then okJ tl yj else false) then truthT tl[2 * yj] else false) := by
              rw [okJ_next h2j]; cases (cfold a r).2 <;> cases okJ tl yj <;> rfl
            have hk' : (bif (cfold a r).2 then okJ tl yj else false) = false := hk
            rw [hk', cond_false] at e
            dsimp only
            rw [e, w]
            try rw [hk']
            try rfl
        · refine fin _ _ _ ?_
          have hjj : yj = tl.length / 2 := by
            rw [show (op == 14) = true by simpa using o14, cond_true] at hc
            have := of_decide_eq_false hc
            rw [List.length_map, wrap_i64_of (by omega) (by omega)] at this
            omega
          unfold typedN
          rw [if_neg n1, if_neg n2, if_neg n9, if_neg nn, if_neg n13, if_neg n17, if_neg n18, if_neg n16, if_pos (.inl o14), hr, hjj]
          have n15 : decide (op = 15) = false := decide_eq_false (by omega)
          simp only [n15]
          cases (cfold a r).2 <;> simp
      · have o15 : op = 15 := by simpa using o15
        obtain ⟨a, r, hr, hrl⟩ := results_ne (op := op) hne
        refine ⟨op, sub, t, v, args, tl, rfl, rfl, by omega, hne, a, r, by rw [hr]; rfl, by omega, ⟨tl, (cfold a r).1, (cfold a r).2, 0⟩, ⟨by
          have : (bif (cfold a r).2 then okJ tl 0 else false) = (cfold a r).2 := by cases (cfold a r).2 <;> rfl
          dsimp only
          rw [this]
          rfl, tl.length, rfl, rfl, rfl, Nat.zero_le _, rfl, .inr rfl⟩, fun m2 y hy => ?_⟩
        obtain ⟨yl, yt, yok, yj⟩ := y
        obtain ⟨e1, e2, e3, hj, hm2, hz⟩ := hy
        dsimp only at e1 e2 e3 hj hm2 hz ⊢
        have e1' := e1.symm
        subst e1'; subst e2; subst e3
        refine ⟨fun hc => ?_, fun hc => ?_⟩
        · have hc2 : op = 14 ∧ 2 * yj + 1 < tl.length := by
            by_cases h14 : op = 14
            · rw [show (op == 14) = true by simpa using h14, cond_true] at hc
              have := of_decide_eq_true hc
              rw [List.length_map, wrap_i64_of (by omega) (by omega)] at this
              exact ⟨h14, by omega⟩
            · rw [show (op == 14) = false by simpa using h14, cond_false] at hc; cases hc
          have h2j : 2 * yj < tl.length := by omega
          have w : IntKind.i64.wrap (2 * ((yj : Nat) : Int) + 2) = 2 * ((yj + 1 : Nat) : Int) := by rw [wrap_i64_of (by omega) (by omega)]; omega
          have hg := ty_get h2j
          refine ⟨fun hk => ⟨⟨by omega, by rw [List.length_map]; omega⟩, rfl, _, (by rw [show (2 * ((yj : Nat) : Int)).toNat = 2 * yj by omega]; exact hg), tl[2 * yj].k, tl[2 * yj].sc, rfl, tl.length - (yj + 1), ⟨tl, (cfold a r).1, (cfold a r).2, yj + 1⟩, by omega, ?_, rfl, rfl, rfl, by show yj + 1 ≤ tl.length / 2; omega, rfl, .inl hc2.1⟩, fun hk => ⟨tl.length - (yj + 1), ⟨tl, (cfold a r).1, (cfold a r).2, yj + 1⟩, by omega, ?_, rfl, rfl, rfl, by show yj + 1 ≤ tl.length / 2; omega, rfl, .inl hc2.1⟩⟩
          · have e : (bif (cfold a r).2 then okJ tl (yj + 1) else false) = (bif (bif (cfold a r).2 then okJ tl yj else false) then truthT tl[2 * yj] else false) := by
              rw [okJ_next h2j]; cases (cfold a r).2 <;> cases okJ tl yj <;> rfl
            rw [hk, cond_true] at e
            dsimp only
            rw [e, w]
            rfl
          · have e : (bif (cfold a r).2 then okJ tl (yj + 1) else false) = (bif (bif (cfold a r).2 then okJ tl yj else false) then truthT tl[2 * yj] else false) := by
              rw [okJ_next h2j]; cases (cfold a r).2 <;> cases okJ tl yj <;> rfl
            have hk' : (bif (cfold a r).2 then okJ tl yj else false) = false := hk
            rw [hk', cond_false] at e
            dsimp only
            rw [e, w]
            try rw [hk']
            try rfl
        · refine fin _ _ _ ?_
          unfold typedN
          rw [if_neg n1, if_neg n2, if_neg n9, if_neg nn, if_neg n13, if_neg n17, if_neg n18, if_neg n16, if_pos (.inr o15), hr]
          have e15 : decide (op = 15) = true := decide_eq_true o15
          have hj0 : okJ tl yj = true := by
            rw [show yj = 0 by omega]; rfl
          simp only [e15, hj0]
          cases (cfold a r).2 <;> simp
      · have n14 : op ≠ 14 := by simpa using o14
        have n15 : op ≠ 15 := by simpa using o15
        have hlast : tl.length - 1 < tl.length := by omega
        refine ⟨tl, rfl, by omega, tl, tl[0], tl[tl.length - 1], rfl, List.getElem?_eq_getElem _, List.getElem?_eq_getElem _, by omega, fin _ _ _ ?_⟩
        unfold typedN
        rw [if_neg n1, if_neg n2, if_neg n9, if_neg nn, if_neg n13, if_neg n17, if_neg n18, if_neg n16, if_neg (by omega), d0 (by omega), List.getD_eq_getElem?_getD, List.getElem?_eq_getElem hlast]
        rfl
end Go.Proofs.Tryz
