/- A part of the proof: contracts of functions, by a verified generator of conditions; no condition of its own. -/
import Derived.Test.YtfohenhmlfiijaaGreatDoorTf
import Derived.Test.YtfohenhmlfiijaaGreatDoorEx
namespace Go.Proofs.Tryz
open Go Go.Dm Go.Ex
set_option maxRecDepth 100000
variable {gl : Nat → Option Obj}
theorem wrap_i64_of {n : Int} (h1 : -9223372036854775808 ≤ n) (h2 : n < 9223372036854775808) : IntKind.i64.wrap n = n := by
  simp [IntKind.wrap, IntKind.signed, IntKind.bits]; split <;> omega
theorem wrap_next {i : Nat} (h : i < 9223372036854775807) : IntKind.i64.wrap ((i : Int) + 1) = ((i + 1 : Nat) : Int) := by
  rw [wrap_i64_of (by omega) (by omega)]; omega
def C_n : CallT := fun _ _ _ => False
theorem C_n_ok : CallsOk prog gl C_n := fun _ _ _ h => h.elim
def encX (op sub : Int) (t : Ty) (v : Go.Ex.AV) (es : List (List D)) : List D := [.v (.int .i64 op), .v (.int .i64 sub), .v (.int .i64 t.k), .v (.int .i64 t.sc), .v (.int .i64 v.t.k), .v (.int .i64 v.t.sc), .v (.bool v.nul), .v (.int .i64 v.n), .v (.string v.s), .sl es]
theorem cells_mk (op sub : Int) (t : Ty) (v : Go.Ex.AV) (args : List EX) : cells (.mk op sub t v args) = encX op sub t v (cellsL args) := by simp [cells, encX]
theorem fits_mk {op sub : Int} {t : Ty} {v : Go.Ex.AV} {args : List EX} (h : fits (.mk op sub t v args)) : (in64 op ∧ in64 sub ∧ in64 t.k ∧ in64 t.sc ∧ in64 v.t.k ∧ in64 v.t.sc ∧ in64 v.n) ∧ args.length ≤ 1353245080300 ∧ fitsL args := by
  simpa [fits] using h
/-- The next argument. -/
theorem arg_get {l : List EX} {i : Nat} (hi : i < l.length) : ∃ op sub t v a, l[i] = .mk op sub t v a ∧ (cellsL l)[((i : Nat) : Int).toNat]? = some (encX op sub t v (cellsL a)) := by
  rcases h : l[i] with ⟨op, sub, t, v, a⟩
  refine ⟨op, sub, t, v, a, rfl, ?_⟩
  rw [Int.toNat_natCast, ← cells_mk, ← h]
  exact cellsL_get (List.getElem?_eq_getElem hi)
/-- Nodes. -/
def c_61 (n : Nat) (a : List R) (K : List R → List (List D) → Prop) : Prop := match a with
  | [.agg x] => ∃ e : EX, x = cells e ∧ size e < n ∧ fits e ∧ K [.d (.v (.int .i64 (nodes e)))] []
  | _ => False
def C_f61 (n : Nat) : CallT := addC C_n 24 (c_61 n)
def st_61 (op sub : Int) (t : Ty) (v : Go.Ex.AV) (args : List EX) (x : Nat) : St := { tm := [(2, .d (.v (.int .i64 0))), (3, .d (.v (.int .i64 (nodesL 1 (args.take x))))), (7, .d (.sl (cellsL args))), (8, .d (.v (.int .i64 ((cellsL args).length : Int)))), (9, .d (.v (.int .i64 (x : Int))))], hp := [(1, .box [.d (.v (.int .i64 op)), .d (.v (.int .i64 sub)), .d (.v (.int .i64 t.k)), .d (.v (.int .i64 t.sc)), .d (.v (.int .i64 v.t.k)), .d (.v (.int .i64 v.t.sc)), .d (.v (.bool v.nul)), .d (.v (.int .i64 v.n)), .d (.v (.string v.s)), .d (.sl (cellsL args))])], kn := [], gd := [] }
def inv_n (l : List EX) (m : Nat) (x : Nat) : Prop := x ≤ l.length ∧ m = l.length - x
def fx_61 (op sub : Int) (t : Ty) (v : Go.Ex.AV) (args : List EX) : Fi := { fi24 with lx := [(3, { X := Nat, sh := st_61 op sub t v args, P := fun _ => inv_n args })] }
theorem vc61 (n : Nat) (op sub : Int) (t : Ty) (v : Go.Ex.AV) (args : List EX) (Q : List R → List (List D) → Prop) : vc E_0 (C_f61 n) noI (fx_61 op sub t v args) (f24.body.getD .skip) f24.results.toList [.agg (encX op sub t v (cellsL args))] Q = (
  ∃ (es : List (List D)), D.sl (cellsL args) = D.sl es ∧ ∃ (x0 : { X := Nat, sh := st_61 op sub t v args, P := fun (x : Nat) => inv_n args : LX }.X), ({ tm := [((2 : Nat), V.d (D.v (Value.int IntKind.i64 (0 : Int)))), ((3 : Nat), V.d (D.v (Value.int IntKind.i64 (1 : Int)))), ((7 : Nat), V.d (D.sl (cellsL args))), ((8 : Nat), V.d (D.v (Value.int IntKind.i64 (↑es.length : Int)))), ((9 : Nat), V.d (D.v (Value.int IntKind.i64 (0 : Int))))], hp := [((1 : Nat), B.box [V.d (D.v (Value.int IntKind.i64 op)), V.d (D.v (Value.int IntKind.i64 sub)), V.d (D.v (Value.int IntKind.i64 t.1)), V.d (D.v (Value.int IntKind.i64 t.2)), V.d (D.v (Value.int IntKind.i64 v.1.1)), V.d (D.v (Value.int IntKind.i64 v.1.2)), V.d (D.v (Value.bool v.2)), V.d (D.v (Value.int IntKind.i64 v.3)), V.d (D.v (Value.string v.4)), V.d (D.sl (cellsL args))])], kn := [], gd := [] : St }
  = { tm := [((2 : Nat), V.d (D.v (Value.int IntKind.i64 (0 : Int)))), ((3 : Nat), V.d (D.v (Value.int IntKind.i64 (nodesL (1 : Int) (List.take x0 args))))), ((7 : Nat), V.d (D.sl (cellsL args))), ((8 : Nat), V.d (D.v (Value.int IntKind.i64 (↑(cellsL args).length : Int)))), ((9 : Nat), V.d (D.v (Value.int IntKind.i64 (↑x0 : Int))))], hp := [((1 : Nat), B.box [V.d (D.v (Value.int IntKind.i64 op)), V.d (D.v (Value.int IntKind.i64 sub)), V.d (D.v (Value.int IntKind.i64 t.1)), V.d (D.v (Value.int IntKind.i64 t.2)), V.d (D.v (Value.int IntKind.i64 v.1.1)), V.d (D.v (Value.int IntKind.i64 v.1.2)), V.d (D.v (Value.bool v.2)), V.d (D.v (Value.int IntKind.i64 v.3)), V.d (D.v (Value.string v.4)), V.d (D.sl (cellsL args))])], kn := [], gd := [] : St }
  ∧ ∃ (n : Nat), inv_n args n x0) ∧ ∀ (n_1 : Nat) (x : { X := Nat, sh := st_61 op sub t v args, P := fun (x : Nat) => inv_n args : LX }.X), inv_n args
  n_1 x → (decide ((↑x : Int) < (↑(cellsL args).length : Int)) = true → ∃ (es : List (List D)), D.sl (cellsL args) = D.sl es ∧ ((0 : Int) ≤ (↑x : Int)
  ∧ (↑x : Int) < (↑es.length : Int)) ∧ ∃ (cells : List D), es[(↑x : Int).toNat]? = some cells ∧ cells.length = (10 : Nat) ∧ ∃ (n_2 : Int), ∃ (n_3 :
  Int), ∃ (n_4 : Int), ∃ (n_5 : Int), ∃ (n_6 : Int), ∃ (n_7 : Int), ∃ (b : Bool), ∃ (n_8 : Int), ∃ (b_1 : ByteArray), ∃ (es : List (List D)), cut ((0 :
  Nat)) ((10 : Nat)) cells = some [D.v (Value.int IntKind.i64 n_2), D.v (Value.int IntKind.i64 n_3), D.v (Value.int IntKind.i64 n_4), D.v (Value.int
  IntKind.i64 n_5), D.v (Value.int IntKind.i64 n_6), D.v (Value.int IntKind.i64 n_7), D.v (Value.bool b), D.v (Value.int IntKind.i64 n_8), D.v
  (Value.string b_1), D.sl es] ∧ ∃ (e : EX), [D.v (Value.int IntKind.i64 n_2), D.v (Value.int IntKind.i64 n_3), D.v (Value.int IntKind.i64 n_4), D.v
  (Value.int IntKind.i64 n_5), D.v (Value.int IntKind.i64 n_6), D.v (Value.int IntKind.i64 n_7), D.v (Value.bool b), D.v (Value.int IntKind.i64 n_8),
  D.v (Value.string b_1), D.sl es] = Ex.cells e ∧ size e < n ∧ fits e ∧ ∃ (m : Nat), ∃ (x' : { X := Nat, sh := st_61 op sub t v args, P := fun (x : Nat) => inv_n args : LX }.X),
  m < n_1 ∧ { tm := [((2 : Nat), V.d (D.v (Value.int IntKind.i64 (0 : Int)))), ((3 : Nat), V.d (D.v (Value.int IntKind.i64 (IntKind.i64.wrap (nodesL (1 : Int) (List.take x args) + nodes e))))), ((7 : Nat), V.d (D.sl (cellsL args))), ((8 : Nat), V.d (D.v (Value.int IntKind.i64 (↑(cellsL args).length : Int)))), ((9 : Nat), V.d (D.v (Value.int IntKind.i64 (IntKind.i64.wrap ((↑x : Int) + (1 : Int))))))], hp := [((1 : Nat), B.box [V.d (D.v (Value.int IntKind.i64 op)), V.d (D.v (Value.int IntKind.i64 sub)), V.d (D.v (Value.int IntKind.i64 t.1)), V.d (D.v (Value.int IntKind.i64 t.2)), V.d (D.v (Value.int IntKind.i64 v.1.1)), V.d (D.v (Value.int IntKind.i64 v.1.2)), V.d (D.v (Value.bool v.2)), V.d (D.v (Value.int IntKind.i64 v.3)), V.d (D.v (Value.string v.4)), V.d (D.sl (cellsL args))])], kn := [], gd := [] : St }
  = { tm := [((2 : Nat), V.d (D.v (Value.int IntKind.i64 (0 : Int)))), ((3 : Nat), V.d (D.v (Value.int IntKind.i64 (nodesL (1 : Int) (List.take x' args))))), ((7 : Nat), V.d (D.sl (cellsL args))), ((8 : Nat), V.d (D.v (Value.int IntKind.i64 (↑(cellsL args).length : Int)))), ((9 : Nat), V.d (D.v (Value.int IntKind.i64 (↑x' : Int))))], hp := [((1 : Nat), B.box [V.d (D.v (Value.int IntKind.i64 op)), V.d (D.v (Value.int IntKind.i64 sub)), V.d (D.v (Value.int IntKind.i64 t.1)), V.d (D.v (Value.int IntKind.i64 t.2)), V.d (D.v (Value.int IntKind.i64 v.1.1)), V.d (D.v (Value.int IntKind.i64 v.1.2)), V.d (D.v (Value.bool v.2)), V.d (D.v (Value.int IntKind.i64 v.3)), V.d (D.v (Value.string v.4)), V.d (D.sl (cellsL args))])], kn := [], gd := [] : St }
  ∧ inv_n args m x') ∧ (decide ((↑x : Int) < (↑(cellsL args).length : Int)) = false → Q [R.d (D.v (Value.int IntKind.i64 (nodesL (1 : Int) (List.take x
  args))))] [])) := by kernel_rfl
theorem ct61 : ∀ (n : Nat) (e : EX), size e < n → fits e → Ct prog gl 24 [.agg (cells e)] (gives [.d (.v (.int .i64 (nodes e)))])
  | 0, e, h, _ => absurd h (Nat.not_lt_zero _)
  | n + 1, .mk op sub t v args, h, hf => by
    have hC : CallsOk prog gl (C_f61 n) := addC_ok C_n_ok (fun a K hk => by
      unfold c_61 at hk
      split at hk
      · obtain ⟨e, rfl, h1, h2, h3⟩ := hk
        exact (ct61 n e h1 h2).gives h3
      · exact hk.elim)
    rw [cells_mk]
    refine ct_of_vc E_ok hC ioK_no it_ok mixed (fn := f24) (body := f24.body.getD .skip) (by kernel_rfl) (by kernel_rfl) (by kernel_rfl) (fi := fx_61 op sub t v args) (by kernel_rfl) (by kernel_rfl) ⟨_, _, rfl, rfl⟩ ?_
    rw [vc61]
    obtain ⟨_, hl, hfl⟩ := fits_mk hf
    have hsz : ∀ e ∈ args, size e < n := fun e he => by have := size_arg (op := op) (sub := sub) (ty := t) (v := v) he; omega
    refine ⟨cellsL args, rfl, (0 : Nat), ⟨by simp only [List.take_zero, nodesL]; rfl, args.length, Nat.zero_le _, rfl⟩, fun m (x : Nat) hx => ⟨fun hi => ?_, fun hi => ?_⟩⟩
    · have hi : x < args.length := by simpa [cellsL_len] using hi
      obtain ⟨op', sub', t', v', a', he, hget⟩ := arg_get hi
      have hm := hx.2
      refine ⟨cellsL args, rfl, ⟨by omega, by rw [cellsL_len]; omega⟩, _, hget, rfl, op', sub', t'.k, t'.sc, v'.t.k, v'.t.sc, v'.nul, v'.n, v'.s, cellsL a', rfl, args[x], by rw [he, cells_mk]; rfl, hsz _ (List.getElem_mem hi), fitsL_mem hfl (List.getElem_mem hi), args.length - (x + 1), x + 1, by omega, ?_, hi, rfl⟩
      rw [wrap_next (by omega), List.take_add_one, List.getElem?_eq_getElem hi, Option.toList_some, nodesL_snoc]
    · have hi : ¬ x < args.length := by simpa [cellsL_len] using hi
      rw [List.take_of_length_le (by omega)]
      refine ⟨?_, rfl⟩
      simp only [nodes]
def c_62 (n : Nat) (a : List R) (K : List R → List (List D) → Prop) : Prop := match a with
  | [.agg x] => ∃ e : EX, x = cells e ∧ size e < n ∧ fits e ∧ K [.d (.v (.int .i64 (deep e)))] []
  | _ => False
def C_f62 (n : Nat) : CallT := addC C_n 25 (c_62 n)
def st_62 (op sub : Int) (t : Ty) (v : Go.Ex.AV) (args : List EX) (x : Nat) : St := { tm := [(2, .d (.v (.int .i64 0))), (3, .d (.v (.int .i64 (deepL 0 (args.take x))))), (7, .d (.sl (cellsL args))), (8, .d (.v (.int .i64 ((cellsL args).length : Int)))), (9, .d (.v (.int .i64 (x : Int))))], hp := [(1, .box [.d (.v (.int .i64 op)), .d (.v (.int .i64 sub)), .d (.v (.int .i64 t.k)), .d (.v (.int .i64 t.sc)), .d (.v (.int .i64 v.t.k)), .d (.v (.int .i64 v.t.sc)), .d (.v (.bool v.nul)), .d (.v (.int .i64 v.n)), .d (.v (.string v.s)), .d (.sl (cellsL args))])], kn := [], gd := [] }
def fx_62 (op sub : Int) (t : Ty) (v : Go.Ex.AV) (args : List EX) : Fi := { fi25 with lx := [(3, { X := Nat, sh := st_62 op sub t v args, P := fun _ => inv_n args })] }
theorem vc62 (n : Nat) (op sub : Int) (t : Ty) (v : Go.Ex.AV) (args : List EX) (Q : List R → List (List D) → Prop) : vc E_0 (C_f62 n) noI (fx_62 op sub t v args) (f25.body.getD .skip) f25.results.toList [.agg (encX op sub t v (cellsL args))] Q = (
  ∃ (es : List (List D)), D.sl (cellsL args) = D.sl es ∧ ∃ (x0 : { X := Nat, sh := st_62 op sub t v args, P := fun (x : Nat) => inv_n args : LX }.X), ({ tm := [((2 : Nat), V.d (D.v (Value.int IntKind.i64 (0 : Int)))), ((3 : Nat), V.d (D.v (Value.int IntKind.i64 (0 : Int)))), ((7 : Nat), V.d (D.sl (cellsL args))), ((8 : Nat), V.d (D.v (Value.int IntKind.i64 (↑es.length : Int)))), ((9 : Nat), V.d (D.v (Value.int IntKind.i64 (0 : Int))))], hp := [((1 : Nat), B.box [V.d (D.v (Value.int IntKind.i64 op)), V.d (D.v (Value.int IntKind.i64 sub)), V.d (D.v (Value.int IntKind.i64 t.1)), V.d (D.v (Value.int IntKind.i64 t.2)), V.d (D.v (Value.int IntKind.i64 v.1.1)), V.d (D.v (Value.int IntKind.i64 v.1.2)), V.d (D.v (Value.bool v.2)), V.d (D.v (Value.int IntKind.i64 v.3)), V.d (D.v (Value.string v.4)), V.d (D.sl (cellsL args))])], kn := [], gd := [] : St }
  = { tm := [((2 : Nat), V.d (D.v (Value.int IntKind.i64 (0 : Int)))), ((3 : Nat), V.d (D.v (Value.int IntKind.i64 (deepL (0 : Int) (List.take x0 args))))), ((7 : Nat), V.d (D.sl (cellsL args))), ((8 : Nat), V.d (D.v (Value.int IntKind.i64 (↑(cellsL args).length : Int)))), ((9 : Nat), V.d (D.v (Value.int IntKind.i64 (↑x0 : Int))))], hp := [((1 : Nat), B.box [V.d (D.v (Value.int IntKind.i64 op)), V.d (D.v (Value.int IntKind.i64 sub)), V.d (D.v (Value.int IntKind.i64 t.1)), V.d (D.v (Value.int IntKind.i64 t.2)), V.d (D.v (Value.int IntKind.i64 v.1.1)), V.d (D.v (Value.int IntKind.i64 v.1.2)), V.d (D.v (Value.bool v.2)), V.d (D.v (Value.int IntKind.i64 v.3)), V.d (D.v (Value.string v.4)), V.d (D.sl (cellsL args))])], kn := [], gd := [] : St }
  ∧ ∃ (n : Nat), inv_n args n x0) ∧ ∀ (n_1 : Nat) (x : { X := Nat, sh := st_62 op sub t v args, P := fun (x : Nat) => inv_n args : LX }.X), inv_n args
  n_1 x → (decide ((↑x : Int) < (↑(cellsL args).length : Int)) = true → ∃ (es : List (List D)), D.sl (cellsL args) = D.sl es ∧ ((0 : Int) ≤ (↑x : Int)
  ∧ (↑x : Int) < (↑es.length : Int)) ∧ ∃ (cells : List D), es[(↑x : Int).toNat]? = some cells ∧ cells.length = (10 : Nat) ∧ ∃ (n_2 : Int), ∃ (n_3 :
  Int), ∃ (n_4 : Int), ∃ (n_5 : Int), ∃ (n_6 : Int), ∃ (n_7 : Int), ∃ (b : Bool), ∃ (n_8 : Int), ∃ (b_1 : ByteArray), ∃ (es : List (List D)), cut ((0 :
  Nat)) ((10 : Nat)) cells = some [D.v (Value.int IntKind.i64 n_2), D.v (Value.int IntKind.i64 n_3), D.v (Value.int IntKind.i64 n_4), D.v (Value.int
  IntKind.i64 n_5), D.v (Value.int IntKind.i64 n_6), D.v (Value.int IntKind.i64 n_7), D.v (Value.bool b), D.v (Value.int IntKind.i64 n_8), D.v
  (Value.string b_1), D.sl es] ∧ ∃ (e : EX), [D.v (Value.int IntKind.i64 n_2), D.v (Value.int IntKind.i64 n_3), D.v (Value.int IntKind.i64 n_4), D.v
  (Value.int IntKind.i64 n_5), D.v (Value.int IntKind.i64 n_6), D.v (Value.int IntKind.i64 n_7), D.v (Value.bool b), D.v (Value.int IntKind.i64 n_8),
  D.v (Value.string b_1), D.sl es] = Ex.cells e ∧ size e < n ∧ fits e ∧ ∃ (m : Nat), ∃ (x' : { X := Nat, sh := st_62 op sub t v args, P := fun (x : Nat) => inv_n args : LX }.X),
  m < n_1 ∧ { tm := [((2 : Nat), V.d (D.v (Value.int IntKind.i64 (0 : Int)))), ((3 : Nat), V.d (D.v (Value.int IntKind.i64 (if deep e > deepL (0 : Int) (List.take x args) then deep e else deepL (0 : Int) (List.take x args))))), ((7 : Nat), V.d (D.sl (cellsL args))), ((8 : Nat), V.d (D.v (Value.int IntKind.i64 (↑(cellsL args).length : Int)))), ((9 : Nat), V.d (D.v (Value.int IntKind.i64 (IntKind.i64.wrap ((↑x : Int) + (1 : Int))))))], hp := [((1 : Nat), B.box [V.d (D.v (Value.int IntKind.i64 op)), V.d (D.v (Value.int IntKind.i64 sub)), V.d (D.v (Value.int IntKind.i64 t.1)), V.d (D.v (Value.int IntKind.i64 t.2)), V.d (D.v (Value.int IntKind.i64 v.1.1)), V.d (D.v (Value.int IntKind.i64 v.1.2)), V.d (D.v (Value.bool v.2)), V.d (D.v (Value.int IntKind.i64 v.3)), V.d (D.v (Value.string v.4)), V.d (D.sl (cellsL args))])], kn := [], gd := [] : St }
  = { tm := [((2 : Nat), V.d (D.v (Value.int IntKind.i64 (0 : Int)))), ((3 : Nat), V.d (D.v (Value.int IntKind.i64 (deepL (0 : Int) (List.take x' args))))), ((7 : Nat), V.d (D.sl (cellsL args))), ((8 : Nat), V.d (D.v (Value.int IntKind.i64 (↑(cellsL args).length : Int)))), ((9 : Nat), V.d (D.v (Value.int IntKind.i64 (↑x' : Int))))], hp := [((1 : Nat), B.box [V.d (D.v (Value.int IntKind.i64 op)), V.d (D.v (Value.int IntKind.i64 sub)), V.d (D.v (Value.int IntKind.i64 t.1)), V.d (D.v (Value.int IntKind.i64 t.2)), V.d (D.v (Value.int IntKind.i64 v.1.1)), V.d (D.v (Value.int IntKind.i64 v.1.2)), V.d (D.v (Value.bool v.2)), V.d (D.v (Value.int IntKind.i64 v.3)), V.d (D.v (Value.string v.4)), V.d (D.sl (cellsL args))])], kn := [], gd := [] : St }
  ∧ inv_n args m x') ∧ (decide ((↑x : Int) < (↑(cellsL args).length : Int)) = false → Q [R.d (D.v (Value.int IntKind.i64 (IntKind.i64.wrap (deepL (0 :
  Int) (List.take x args) + (1 : Int)))))] [])) := by kernel_rfl

end Go.Proofs.Tryz
