/- A part of the proof: contracts of functions, by a verified generator of conditions; no condition of its own. -/
import Derived.Test.YtgjghnooiaaeiaaGreatDoorB2
namespace Go.Proofs.Tryz
open Go Go.Dm Go.Ex
set_option maxRecDepth 100000
variable {gl : Nat → Option Obj}
def encO (o : Option EX) : List R := match o with
 | some x => [.agg (cells x), .d (.v (.int .i64 0))]
 | none => [.agg [.v (.int .i64 0), .v (.int .i64 0), .v (.int .i64 0), .v (.int .i64 0), .v (.int .i64 0), .v (.int .i64 0), .v (.bool false), .v (.int .i64 0), .v (.string ⟨#[]⟩), .sl []], .d (.v (.int .i64 140))]
def c_25 (n : Nat) (a : List R) (K : KT) : Prop := match a with
 | [.agg x, .d (.sl y)] => ∃ (e : EX) (to : List Int), x = cells e ∧ y = encI to ∧ size e < n ∧ fits e ∧ to.length ≤ 17592186043904 ∧
     (shiftE to e = none → K [.agg [.v (.int .i64 0), .v (.int .i64 0), .v (.int .i64 0), .v (.int .i64 0), .v (.int .i64 0), .v (.int .i64 0), .v (.bool false), .v (.int .i64 0), .v (.string ⟨#[]⟩), .sl []], .d (.v (.int .i64 140))] []) ∧
     (∀ (op sub : Int) (t : Ty) (v : Go.Ex.AV) (l : List EX), shiftE to e = some (.mk op sub t v l) → K [.agg (encX op sub t v (cellsL l)), .d (.v (.int .i64 0))] [])
 | _ => False
def C_f25 (n : Nat) : CallT := addC C_66 20 (c_25 n)
structure SX where
 i : Nat
 s : Int
 acc : List EX
def st_25 (op sub : Int) (t : Ty) (v : Go.Ex.AV) (args : List EX) (to : List Int) (x : SX) : St := { tm := [(1, .d (.sl (encI to))), (2, .ref 2 0), (4, .ref 4 0), (5, .d (.v (.int .i64 0))), (6, .own 50006), (40, .d (.sl (cellsL args))), (41, .d (.v (.int .i64 ((cellsL args).length : Int)))), (42, .d (.v (.int .i64 (x.i : Int))))], hp := [(2, .box [.d (.v (.int .i64 op)), .d (.v (.int .i64 x.s)), .d (.v (.int .i64 t.k)), .d (.v (.int .i64 t.sc)), .d (.v (.int .i64 v.t.k)), .d (.v (.int .i64 v.t.sc)), .d (.v (.bool v.nul)), .d (.v (.int .i64 v.n)), .d (.v (.string v.s)), .d (.sl (cellsL args))]), (4, .box [.d (.v (.int .i64 0)), .d (.v (.int .i64 0)), .d (.v (.int .i64 0)), .d (.v (.int .i64 0)), .d (.v (.int .i64 0)), .d (.v (.int .i64 0)), .d (.v (.bool false)), .d (.v (.int .i64 0)), .d (.v (.string ⟨#[]⟩)), .nil]), (50006, .lst 28 10 (cellsL x.acc))], kn := [], gd := [] }
def inv_25 (args : List EX) (to : List Int) (x0 : SX) (m : Nat) (x : SX) : Prop := (x.i ≤ args.length ∧ m = args.length - x.i) ∧ x.s = x0.s ∧ shiftL to (args.take x.i) = some x.acc ∧ x.acc.length = x.i
def fx_25 (op sub : Int) (t : Ty) (v : Go.Ex.AV) (args : List EX) (to : List Int) : Fi := { fi20 with cv := [(7, [⟨none, 6, 50006, 28, 10⟩])], lx := [(7, { X := SX, sh := st_25 op sub t v args to, P := inv_25 args to })] }
def Zfx (a0 : List Int) (k : (List (List D)) → Prop) : Prop := Zbt fun es => D.sl (List.map (fun (n : Int) => [D.i n]) a0) = D.sl es ∧ k es
def Zds (a0 : List D) (k : Int → Prop) : Prop := ∃ (n_1 : Int), cut 0 1 a0 = some [D.i n_1] ∧ k n_1
def Zf0 (a0 : List D) (a1 : Nat) (k : Int → Prop) : Prop := a0.length = a1 ∧ Zds a0 fun n_1 => k n_1
def Zcb (a0 : List Int) (a1 : Int) (k : Int → Prop) : Prop := Zfx a0 fun es => (0 ≤ a1 ∧ a1 < (↑es.length : Int)) ∧ ∃ (cells : List D), es[a1.toNat]? = some cells ∧ Zf0 cells (1 : Nat) fun n_1 => k n_1
def Z6 : List D := [.i 0, .i 0, .i 0, .i 0, .i 0, .i 0, .v (.bool false), .i 0, .v (.string ⟨⟨[]⟩⟩), .sl []]
def Zbj (a0 : Int) : List R := [.agg Z6, .d (.i a0)]
def Zbk (a0 : KT) (a1 : Int) : Prop := a0 (Zbj a1) []
def Zcx (a0 : Int) (a1 : List (List D)) (a2 : List Int) (a3 : KT) (k : Int → Prop) : Prop := (bif decide (a0 < 0) then true else decide (a0 ≥ (↑a1.length : Int))) = false → Zcb a2 a0 fun n_1 => (decide (n_1 < 0) = true → Zbk a3 (140 : Int)) ∧ k n_1
def Zbo (a0 : List D) (k : Int → Int → Int → Int → Int → Int → Bool → Int → ByteArray → (List (List D)) → EX → Prop) : Prop := Zk a0 fun n_4 n_5 n_6 n_7 n_8 n_9 b n_10 b_1 es => ∃ (e : EX), k n_4 n_5 n_6 n_7 n_8 n_9 b n_10 b_1 es e
def Zb1 (a0 : List EX) (a1 : SX) (a2 : List Int) (a3 : Nat) (k : EX → (List Int) → Prop) : Prop := Zby a0 fun es => (0 ≤ (↑a1.1 : Int) ∧ (↑a1.1 : Int) < (↑es.length : Int)) ∧ ∃ (cells : List D), es[(↑a1.1 : Int).toNat]? = some cells ∧ Zbo cells fun n_4 n_5 n_6 n_7 n_8 n_9 b n_10 b_1 es e => ∃ (to_1 : List Int), Z4 n_4 n_5 n_6 n_7 n_8 n_9 b n_10 b_1 es e (List.map (fun (n : Int) => [D.i n]) a2 = List.map (fun (n : Int) => [D.i n]) to_1 ∧ size e < a3 ∧ fits e ∧ to_1.length ≤ 17592186043904 ∧ k e to_1)
def Zcj (a0 : Int) (a1 : KT) : Prop := (a0 != (0 : Int)) = true → Zbk a1 a0
def Zco (a0 : Int) (a1 : KT) (k : Prop) : Prop := (Zcj a0 a1) ∧ k
def Ze6 (a0 : List Int) (a1 : EX) (a2 : KT) (k : Prop) : Prop := shiftE a0 a1 = none → Zco (140 : Int) a2 (k)
def Zdt (a0 : SX) (k : Prop) : Prop := ((140 : Int) != (0 : Int)) = false → (∀ (c : List D), c ∈ [Z6] → c.length = 10) ∧ (28 : Nat) = (28 : Nat) ∧ (10 : Nat) = (10 : Nat) ∧ (↑(cellsL a0.3).length.succ : Int) * (↑(104 : Nat) : Int) ≤ 140737488355328 ∧ k
def Zdu (a0 : SX) (k : Nat → Prop) : Prop := Zdt a0 (∃ (m : Nat), k m)
def Zdv (a0 : SX) (k : Nat → SX → Prop) : Prop := Zdu a0 fun m => ∃ (x' : SX), k m x'
def Zd1 (a0 : SX) (a1 : Nat) (k : Nat → SX → Prop) : Prop := Zdv a0 fun m x' => m < a1 ∧ k m x'
def Zew (a0 : List Int) (a1 : EX) (a2 : KT) (k : Int → Int → Ty → AV → (List EX) → Prop) : Prop := ∀ (op_1 sub_1 : Int) (t_1 : Ty) (v_1 : AV) (l : List EX), shiftE a0 a1 = some (EX.mk op_1 sub_1 t_1 v_1 l) → Zco (0 : Int) a2 (k op_1 sub_1 t_1 v_1 l)
def Zbb (a0 a1 : Int) (a2 : Ty) (a3 : AV) (a4 : List EX) : List D := [.i a0, .i a1, .i a2.1, .i a2.2, .i a3.1.1, .i a3.1.2, .v (.bool a3.2), .i a3.3, .v (.string a3.4), .sl (cellsL a4)]
def Zcs (a0 a1 : Int) (a2 : Ty) (a3 : AV) (a4 : List EX) (k : Prop) : Prop := (∀ (c : List D), c ∈ [(Zbb a0 a1 a2 a3 a4)] → c.length = 10) ∧ (28 : Nat) = (28 : Nat) ∧ (10 : Nat) = (10 : Nat) ∧ k
def Zek (a0 a1 : Int) (a2 : Ty) (a3 : AV) (a4 : List EX) (a5 : SX) (k : Prop) : Prop := ((0 : Int) != (0 : Int)) = false → Zcs a0 a1 a2 a3 a4 ((↑(cellsL a5.3).length.succ : Int) * (↑(104 : Nat) : Int) ≤ 140737488355328 ∧ k)
def Zem (a0 a1 : Int) (a2 : Ty) (a3 : AV) (a4 : List EX) (a5 : SX) (k : Nat → Prop) : Prop := Zek a0 a1 a2 a3 a4 a5 (∃ (m : Nat), k m)
def Zen (a0 a1 : Int) (a2 : Ty) (a3 : AV) (a4 : List EX) (a5 : SX) (k : Nat → SX → Prop) : Prop := Zem a0 a1 a2 a3 a4 a5 fun m => ∃ (x' : SX), k m x'
def Zes (a0 a1 : Int) (a2 : Ty) (a3 : AV) (a4 : List EX) (a5 : SX) (a6 : Nat) (k : Nat → SX → Prop) : Prop := Zen a0 a1 a2 a3 a4 a5 fun m x' => m < a6 ∧ k m x'
def Zfd (a0 : Int) (a1 : SX) (a2 : Ty) (a3 : Go.Ex.AV) : List R := [.agg [.i a0, .i a1.2, .i a2.1, .i a2.2, .i a3.1.1, .i a3.1.2, .v (.bool a3.2), .i a3.3, .v (.string a3.4), .sl (cellsL a1.3)], .d (.i 0)]
def Zf6 (a0 : KT) (a1 : Int) (a2 : SX) (a3 : Ty) (a4 : Go.Ex.AV) : Prop := a0 (Zfd a1 a2 a3 a4) []
def Zi (a0 : List EX) (a1 : List Int) (a2 a3 : Int) (a4 : Ty) (a5 : Go.Ex.AV) (a6 : Nat) (a7 : KT) : Prop := Zby a0 fun es => ∃ (x0 : SX), ({ tm := [(1, .d (.sl (List.map (fun (n : Int) => [.i n]) a1))), (2, .ref 2 0), (4, .ref 4 0), (5, .i 0), (6, .own 50006), (40, .d (.sl (cellsL a0))), (41, .i (↑es.length : Int)), (42, .i 0)], hp := [(2, .box [.i a2, .i a3, .i a4.1, .i a4.2, .i a5.1.1, .i a5.1.2, .d (.v (.bool a5.2)), .i a5.3, .d (.v (.string a5.4)), .d (.sl (cellsL a0))]), (4, .box [.i 0, .i 0, .i 0, .i 0, .i 0, .i 0, .d (.v (.bool false)), .i 0, .d (.v (.string ⟨⟨[]⟩⟩)), .nil]), (50006, .lst 28 10 [])], kn := [], gd := [] : St } = { tm := [(1, .d (.sl (List.map (fun (n : Int) => [.i n]) a1))), (2, .ref 2 0), (4, .ref 4 0), (5, .i 0), (6, .own 50006), (40, .d (.sl (cellsL a0))), (41, .i (↑(cellsL a0).length : Int)), (42, .i (↑x0.1 : Int))], hp := [(2, .box [.i a2, .i x0.2, .i a4.1, .i a4.2, .i a5.1.1, .i a5.1.2, .d (.v (.bool a5.2)), .i a5.3, .d (.v (.string a5.4)), .d (.sl (cellsL a0))]), (4, .box [.i 0, .i 0, .i 0, .i 0, .i 0, .i 0, .d (.v (.bool false)), .i 0, .d (.v (.string ⟨⟨[]⟩⟩)), .nil]), (50006, .lst 28 10 (cellsL x0.3))], kn := [], gd := [] : St } ∧ ∃ (n : Nat), inv_25 a0 a1 x0 n x0) ∧ ∀ (n_3 : Nat) (x : SX), inv_25 a0 a1 x0 n_3 x → (decide ((↑x.1 : Int) < (↑(cellsL a0).length : Int)) = true → Zb1 a0 x a1 a6 fun e to_1 => (Ze6 to_1 e a7 ((Zd1 x n_3 fun m x' => { tm := [(1, .d (.sl (List.map (fun (n : Int) => [.i n]) a1))), (2, .ref 2 0), (4, .ref 4 0), (5, .i 0), (6, .own 50006), (40, .d (.sl (cellsL a0))), (41, .i (↑(cellsL a0).length : Int)), (42, .i (IntKind.i64.wrap ((↑x.1 : Int) + 1)))], hp := [(2, .box [.i a2, .i x.2, .i a4.1, .i a4.2, .i a5.1.1, .i a5.1.2, .d (.v (.bool a5.2)), .i a5.3, .d (.v (.string a5.4)), .d (.sl (cellsL a0))]), (4, .box [.i 0, .i 0, .i 0, .i 0, .i 0, .i 0, .d (.v (.bool false)), .i 0, .d (.v (.string ⟨⟨[]⟩⟩)), .nil]), (50006, .lst 28 10 (cellsL x.3 ++ [Z6]))], kn := [], gd := [] : St } = { tm := [(1, .d (.sl (List.map (fun (n : Int) => [.i n]) a1))), (2, .ref 2 0), (4, .ref 4 0), (5, .i 0), (6, .own 50006), (40, .d (.sl (cellsL a0))), (41, .i (↑(cellsL a0).length : Int)), (42, .i (↑x'.1 : Int))], hp := [(2, .box [.i a2, .i x'.2, .i a4.1, .i a4.2, .i a5.1.1, .i a5.1.2, .d (.v (.bool a5.2)), .i a5.3, .d (.v (.string a5.4)), .d (.sl (cellsL a0))]), (4, .box [.i 0, .i 0, .i 0, .i 0, .i 0, .i 0, .d (.v (.bool false)), .i 0, .d (.v (.string ⟨⟨[]⟩⟩)), .nil]), (50006, .lst 28 10 (cellsL x'.3))], kn := [], gd := [] : St } ∧ inv_25 a0 a1 x0 m x'))) ∧ Zew to_1 e a7 fun op_1 sub_1 t_1 v_1 l => (Zes op_1 sub_1 t_1 v_1 l x n_3 fun m x' => { tm := [(1, .d (.sl (List.map (fun (n : Int) => [.i n]) a1))), (2, .ref 2 0), (4, .ref 4 0), (5, .i 0), (6, .own 50006), (40, .d (.sl (cellsL a0))), (41, .i (↑(cellsL a0).length : Int)), (42, .i (IntKind.i64.wrap ((↑x.1 : Int) + 1)))], hp := [(2, .box [.i a2, .i x.2, .i a4.1, .i a4.2, .i a5.1.1, .i a5.1.2, .d (.v (.bool a5.2)), .i a5.3, .d (.v (.string a5.4)), .d (.sl (cellsL a0))]), (4, .box [.i 0, .i 0, .i 0, .i 0, .i 0, .i 0, .d (.v (.bool false)), .i 0, .d (.v (.string ⟨⟨[]⟩⟩)), .nil]), (50006, .lst 28 10 (cellsL x.3 ++ [(Zbb op_1 sub_1 t_1 v_1 l)]))], kn := [], gd := [] : St } = { tm := [(1, .d (.sl (List.map (fun (n : Int) => [.i n]) a1))), (2, .ref 2 0), (4, .ref 4 0), (5, .i 0), (6, .own 50006), (40, .d (.sl (cellsL a0))), (41, .i (↑(cellsL a0).length : Int)), (42, .i (↑x'.1 : Int))], hp := [(2, .box [.i a2, .i x'.2, .i a4.1, .i a4.2, .i a5.1.1, .i a5.1.2, .d (.v (.bool a5.2)), .i a5.3, .d (.v (.string a5.4)), .d (.sl (cellsL a0))]), (4, .box [.i 0, .i 0, .i 0, .i 0, .i 0, .i 0, .d (.v (.bool false)), .i 0, .d (.v (.string ⟨⟨[]⟩⟩)), .nil]), (50006, .lst 28 10 (cellsL x'.3))], kn := [], gd := [] : St } ∧ inv_25 a0 a1 x0 m x')) ∧ (decide ((↑x.1 : Int) < (↑(cellsL a0).length : Int)) = false → Zf6 a7 a2 x a4 a5)
def Zo (a0 : List Int) (a1 : Int) (a2 : List EX) (a3 : Int) (a4 : Ty) (a5 : Go.Ex.AV) (a6 : Nat) (a7 : KT) : Prop := Zcb a0 a1 fun n_2 => Zi a2 a0 a3 n_2 a4 a5 a6 a7
def Zeg (a0 : Int) (a1 : List (List D)) (a2 : KT) (k : Prop) : Prop := (bif decide (a0 < 0) then true else decide (a0 ≥ (↑a1.length : Int))) = !false → (true = true → Zbk a2 (140 : Int)) ∧ k
theorem vc25 (n : Nat) (op sub : Int) (t : Ty) (v : Go.Ex.AV) (args : List EX) (to : List Int) (Q : KT) : vc E_0 (C_f25 n) noI (fx_25 op sub t v args to) (f20.body.getD .skip) f20.results.toList [.agg (encX op sub t v (cellsL args)), .d (.sl (encI to))] Q = ( ((op == 1) = true → Zfx to fun es => (Zcx sub es to Q fun n_1 => (decide (n_1 < 0) = false → Zo to sub args op t v n Q)) ∧ (Zeg sub es Q ((true = false → Zo to sub args op t v n Q)))) ∧ ((op == 1) = false → Zi args to op sub t v n Q)) := by kernel_rfl
def C_f26 (n : Nat) : CallT := addC C_66 25 (c_25 n)
def st_26 (op sub : Int) (t : Ty) (v : Go.Ex.AV) (args : List EX) (to : List Int) (x : SX) : St := { tm := [(1, .d (.sl (encI to))), (2, .ref 2 0), (4, .ref 4 0), (5, .d (.v (.int .i64 0))), (6, .ref 6 0), (7, .d (.v (.int .i64 (x.i : Int))))], hp := [(2, .box [.d (.v (.int .i64 op)), .d (.v (.int .i64 sub)), .d (.v (.int .i64 t.k)), .d (.v (.int .i64 t.sc)), .d (.v (.int .i64 v.t.k)), .d (.v (.int .i64 v.t.sc)), .d (.v (.bool v.nul)), .d (.v (.int .i64 v.n)), .d (.v (.string v.s)), .d (.sl (cellsL args))]), (4, .box [.d (.v (.int .i64 0)), .d (.v (.int .i64 0)), .d (.v (.int .i64 0)), .d (.v (.int .i64 0)), .d (.v (.int .i64 0)), .d (.v (.int .i64 0)), .d (.v (.bool false)), .d (.v (.int .i64 0)), .d (.v (.string ⟨#[]⟩)), .nil]), (6, .box [.d (.v (.int .i64 op)), .d (.v (.int .i64 x.s)), .d (.v (.int .i64 t.k)), .d (.v (.int .i64 t.sc)), .d (.v (.int .i64 v.t.k)), .d (.v (.int .i64 v.t.sc)), .d (.v (.bool v.nul)), .d (.v (.int .i64 v.n)), .d (.v (.string v.s)), .own 50006]), (50006, .lst 28 10 (cellsL x.acc))], kn := [], gd := [] }
def fx_26 (op sub : Int) (t : Ty) (v : Go.Ex.AV) (args : List EX) (to : List Int) : Fi := { fi25 with cv := [(7, [⟨some 6, 9, 50006, 28, 10⟩])], lx := [(7, { X := SX, sh := st_26 op sub t v args to, P := inv_25 args to })] }
def Zj (a0 : List EX) (a1 : List Int) (a2 : SX) (a3 : Nat) (a4 : KT) (a5 a6 : Int) (a7 : Ty) (a8 : Go.Ex.AV) : Prop := ∀ (n_3 : Nat) (x : SX), inv_25 a0 a1 a2 n_3 x → Zby a0 fun es => (decide ((↑x.1 : Int) < (↑es.length : Int)) = true → Zb1 a0 x a1 a3 fun e to_1 => (Ze6 to_1 e a4 ((Zd1 x n_3 fun m x' => { tm := [(1, .d (.sl (List.map (fun (n : Int) => [.i n]) a1))), (2, .ref 2 0), (4, .ref 4 0), (5, .i 0), (6, .ref 6 0), (7, .i (IntKind.i64.wrap ((↑x.1 : Int) + 1)))], hp := [(2, .box [.i a5, .i a6, .i a7.1, .i a7.2, .i a8.1.1, .i a8.1.2, .d (.v (.bool a8.2)), .i a8.3, .d (.v (.string a8.4)), .d (.sl (cellsL a0))]), (4, .box [.i 0, .i 0, .i 0, .i 0, .i 0, .i 0, .d (.v (.bool false)), .i 0, .d (.v (.string ⟨⟨[]⟩⟩)), .nil]), (6, .box [.i a5, .i x.2, .i a7.1, .i a7.2, .i a8.1.1, .i a8.1.2, .d (.v (.bool a8.2)), .i a8.3, .d (.v (.string a8.4)), .own 50006]), (50006, .lst 28 10 (cellsL x.3 ++ [Z6]))], kn := [], gd := [] : St } = { tm := [(1, .d (.sl (List.map (fun (n : Int) => [.i n]) a1))), (2, .ref 2 0), (4, .ref 4 0), (5, .i 0), (6, .ref 6 0), (7, .i (↑x'.1 : Int))], hp := [(2, .box [.i a5, .i a6, .i a7.1, .i a7.2, .i a8.1.1, .i a8.1.2, .d (.v (.bool a8.2)), .i a8.3, .d (.v (.string a8.4)), .d (.sl (cellsL a0))]), (4, .box [.i 0, .i 0, .i 0, .i 0, .i 0, .i 0, .d (.v (.bool false)), .i 0, .d (.v (.string ⟨⟨[]⟩⟩)), .nil]), (6, .box [.i a5, .i x'.2, .i a7.1, .i a7.2, .i a8.1.1, .i a8.1.2, .d (.v (.bool a8.2)), .i a8.3, .d (.v (.string a8.4)), .own 50006]), (50006, .lst 28 10 (cellsL x'.3))], kn := [], gd := [] : St } ∧ inv_25 a0 a1 a2 m x'))) ∧ Zew to_1 e a4 fun op_1 sub_1 t_1 v_1 l => (Zes op_1 sub_1 t_1 v_1 l x n_3 fun m x' => { tm := [(1, .d (.sl (List.map (fun (n : Int) => [.i n]) a1))), (2, .ref 2 0), (4, .ref 4 0), (5, .i 0), (6, .ref 6 0), (7, .i (IntKind.i64.wrap ((↑x.1 : Int) + 1)))], hp := [(2, .box [.i a5, .i a6, .i a7.1, .i a7.2, .i a8.1.1, .i a8.1.2, .d (.v (.bool a8.2)), .i a8.3, .d (.v (.string a8.4)), .d (.sl (cellsL a0))]), (4, .box [.i 0, .i 0, .i 0, .i 0, .i 0, .i 0, .d (.v (.bool false)), .i 0, .d (.v (.string ⟨⟨[]⟩⟩)), .nil]), (6, .box [.i a5, .i x.2, .i a7.1, .i a7.2, .i a8.1.1, .i a8.1.2, .d (.v (.bool a8.2)), .i a8.3, .d (.v (.string a8.4)), .own 50006]), (50006, .lst 28 10 (cellsL x.3 ++ [(Zbb op_1 sub_1 t_1 v_1 l)]))], kn := [], gd := [] : St } = { tm := [(1, .d (.sl (List.map (fun (n : Int) => [.i n]) a1))), (2, .ref 2 0), (4, .ref 4 0), (5, .i 0), (6, .ref 6 0), (7, .i (↑x'.1 : Int))], hp := [(2, .box [.i a5, .i a6, .i a7.1, .i a7.2, .i a8.1.1, .i a8.1.2, .d (.v (.bool a8.2)), .i a8.3, .d (.v (.string a8.4)), .d (.sl (cellsL a0))]), (4, .box [.i 0, .i 0, .i 0, .i 0, .i 0, .i 0, .d (.v (.bool false)), .i 0, .d (.v (.string ⟨⟨[]⟩⟩)), .nil]), (6, .box [.i a5, .i x'.2, .i a7.1, .i a7.2, .i a8.1.1, .i a8.1.2, .d (.v (.bool a8.2)), .i a8.3, .d (.v (.string a8.4)), .own 50006]), (50006, .lst 28 10 (cellsL x'.3))], kn := [], gd := [] : St } ∧ inv_25 a0 a1 a2 m x')) ∧ (decide ((↑x.1 : Int) < (↑es.length : Int)) = false → Zf6 a4 a5 x a7 a8)
def Zn (a0 : List Int) (a1 a2 : Int) (a3 : Ty) (a4 : Go.Ex.AV) (a5 : List EX) (a6 : Nat) (a7 : KT) : Prop := Zcb a0 a1 fun n_2 => ∃ (x0 : SX), ({ tm := [(1, .d (.sl (List.map (fun (n : Int) => [.i n]) a0))), (2, .ref 2 0), (4, .ref 4 0), (5, .i 0), (6, .ref 6 0), (7, .i 0)], hp := [(2, .box [.i a2, .i a1, .i a3.1, .i a3.2, .i a4.1.1, .i a4.1.2, .d (.v (.bool a4.2)), .i a4.3, .d (.v (.string a4.4)), .d (.sl (cellsL a5))]), (4, .box [.i 0, .i 0, .i 0, .i 0, .i 0, .i 0, .d (.v (.bool false)), .i 0, .d (.v (.string ⟨⟨[]⟩⟩)), .nil]), (6, .box [.i a2, .i n_2, .i a3.1, .i a3.2, .i a4.1.1, .i a4.1.2, .d (.v (.bool a4.2)), .i a4.3, .d (.v (.string a4.4)), .own 50006]), (50006, .lst 28 10 [])], kn := [], gd := [] : St } = { tm := [(1, .d (.sl (List.map (fun (n : Int) => [.i n]) a0))), (2, .ref 2 0), (4, .ref 4 0), (5, .i 0), (6, .ref 6 0), (7, .i (↑x0.1 : Int))], hp := [(2, .box [.i a2, .i a1, .i a3.1, .i a3.2, .i a4.1.1, .i a4.1.2, .d (.v (.bool a4.2)), .i a4.3, .d (.v (.string a4.4)), .d (.sl (cellsL a5))]), (4, .box [.i 0, .i 0, .i 0, .i 0, .i 0, .i 0, .d (.v (.bool false)), .i 0, .d (.v (.string ⟨⟨[]⟩⟩)), .nil]), (6, .box [.i a2, .i x0.2, .i a3.1, .i a3.2, .i a4.1.1, .i a4.1.2, .d (.v (.bool a4.2)), .i a4.3, .d (.v (.string a4.4)), .own 50006]), (50006, .lst 28 10 (cellsL x0.3))], kn := [], gd := [] : St } ∧ ∃ (n : Nat), inv_25 a5 a0 x0 n x0) ∧ Zj a5 a0 x0 a6 a7 a2 a1 a3 a4
theorem vc26 (n : Nat) (op sub : Int) (t : Ty) (v : Go.Ex.AV) (args : List EX) (to : List Int) (Q : KT) : vc E_0 (C_f26 n) noI (fx_26 op sub t v args to) (f25.body.getD .skip) f25.results.toList [.agg (encX op sub t v (cellsL args)), .d (.sl (encI to))] Q = ( ((op == 1) = true → Zfx to fun es => (Zcx sub es to Q fun n_1 => (decide (n_1 < 0) = false → Zn to sub op t v args n Q)) ∧ (Zeg sub es Q ((true = false → Zn to sub op t v args n Q)))) ∧ ((op == 1) = false → ∃ (x0 : SX), ({ tm := [(1, .d (.sl (List.map (fun (n : Int) => [.i n]) to))), (2, .ref 2 0), (4, .ref 4 0), (5, .i 0), (6, .ref 6 0), (7, .i 0)], hp := [(2, .box [.i op, .i sub, .i t.1, .i t.2, .i v.1.1, .i v.1.2, .d (.v (.bool v.2)), .i v.3, .d (.v (.string v.4)), .d (.sl (cellsL args))]), (4, .box [.i 0, .i 0, .i 0, .i 0, .i 0, .i 0, .d (.v (.bool false)), .i 0, .d (.v (.string ⟨⟨[]⟩⟩)), .nil]), (6, .box [.i op, .i sub, .i t.1, .i t.2, .i v.1.1, .i v.1.2, .d (.v (.bool v.2)), .i v.3, .d (.v (.string v.4)), .own 50006]), (50006, .lst 28 10 [])], kn := [], gd := [] : St } = { tm := [(1, .d (.sl (List.map (fun (n : Int) => [.i n]) to))), (2, .ref 2 0), (4, .ref 4 0), (5, .i 0), (6, .ref 6 0), (7, .i (↑x0.1 : Int))], hp := [(2, .box [.i op, .i sub, .i t.1, .i t.2, .i v.1.1, .i v.1.2, .d (.v (.bool v.2)), .i v.3, .d (.v (.string v.4)), .d (.sl (cellsL args))]), (4, .box [.i 0, .i 0, .i 0, .i 0, .i 0, .i 0, .d (.v (.bool false)), .i 0, .d (.v (.string ⟨⟨[]⟩⟩)), .nil]), (6, .box [.i op, .i x0.2, .i t.1, .i t.2, .i v.1.1, .i v.1.2, .d (.v (.bool v.2)), .i v.3, .d (.v (.string v.4)), .own 50006]), (50006, .lst 28 10 (cellsL x0.3))], kn := [], gd := [] : St } ∧ ∃ (n : Nat), inv_25 args to x0 n x0) ∧ Zj args to x0 n Q op sub t v)) := by kernel_rfl
theorem shiftL_none {to : List Int} : ∀ {l : List EX} {e : EX}, e ∈ l → shiftE to e = none → shiftL to l = none
 | a :: l, e, h, hn => by
   simp only [shiftL]
   cases h with
   | head => rw [hn]
   | tail _ h => rw [shiftL_none h hn]; cases shiftE to a <;> rfl
theorem shiftE_none {to : List Int} {op sub : Int} {t : Ty} {v : Go.Ex.AV} {args : List EX} (h : shiftL to args = none) : shiftE to (.mk op sub t v args) = none := by
 simp only [shiftE, h]
 split
 · rename_i h2; cases h2
 · rfl
theorem shiftE_other {to : List Int} {op sub : Int} {t : Ty} {v : Go.Ex.AV} {args acc : List EX} (ho : op ≠ 1) (h : shiftL to args = some acc) : shiftE to (.mk op sub t v args) = some (.mk op sub t v acc) := by
 have : newSub to op sub = some sub := by unfold newSub; rw [if_neg ho]
 simp only [shiftE, h, this]
theorem shiftE_col {to : List Int} {op sub s : Int} {t : Ty} {v : Go.Ex.AV} {args acc : List EX} (ho : op = 1) (h0 : 0 ≤ sub) (hg : to[sub.toNat]? = some s) (hs : 0 ≤ s) (h : shiftL to args = some acc) : shiftE to (.mk op sub t v args) = some (.mk op s t v acc) := by
 have : newSub to op sub = some s := by unfold newSub; rw [if_pos ho, if_neg (by omega), hg]; simp only [if_neg (show ¬ s < 0 by omega)]
 simp only [shiftE, h, this]
theorem shiftE_bad {to : List Int} {op sub : Int} {t : Ty} {v : Go.Ex.AV} {args : List EX} (ho : op = 1) (h0 : sub < 0 ∨ (to.length : Int) ≤ sub ∨ ∃ s, to[sub.toNat]? = some s ∧ s < 0) : shiftE to (.mk op sub t v args) = none := by
 have : newSub to op sub = none := by
   unfold newSub
   rw [if_pos ho]
   by_cases h1 : sub < 0
   · rw [if_pos h1]
   · rw [if_neg h1]
     rcases h0 with h | h | ⟨s, h, hs⟩
     · omega
     · rw [List.getElem?_eq_none (by omega)]
     · rw [h]; simp only [if_pos hs]
 simp only [shiftE, this]
theorem encI_get {to : List Int} {sub : Int} (h0 : 0 ≤ sub) (h1 : sub < to.length) : ∃ s, to[sub.toNat]? = some s ∧ (encI to)[sub.toNat]? = some [.v (.int .i64 s)] := by
 have hlt : sub.toNat < to.length := by omega
 refine ⟨to[sub.toNat], List.getElem?_eq_getElem hlt, ?_⟩
 unfold encI
 rw [List.getElem?_map, List.getElem?_eq_getElem hlt]; rfl
theorem encI_len (to : List Int) : (encI to).length = to.length := by simp [encI]
theorem snoc_cells (acc : List EX) (op sub : Int) (t : Ty) (v : Go.Ex.AV) (l : List EX) : cellsL acc ++ [encX op sub t v (cellsL l)] = cellsL (acc ++ [.mk op sub t v l]) := by
 rw [cellsL_append]; simp only [cellsL, cells_mk]
theorem ct25 : ∀ (n : Nat) (e : EX) (to : List Int), size e < n → fits e → to.length ≤ 17592186043904 → Ct prog gl 20 [.agg (cells e), .d (.sl (encI to))] (gives (encO (shiftE to e)))
 | 0, _, _, h, _, _ => absurd h (Nat.not_lt_zero _)
 | n + 1, .mk op sub t v args, to, hs, hf, hto => by
   have hC : CallsOk prog gl (C_f25 n) := addC_ok C_66_ok (fun a K hk => by
     unfold c_25 at hk
     split at hk
     · obtain ⟨e, to, rfl, rfl, h1, h2, h3, h4, h5⟩ := hk
       refine (ct25 n e to h1 h2 h3).gives ?_
       rcases h : shiftE to e with _ | ⟨op, sub, t, v, l⟩
       · exact h4 h
       · simp only [encO, cells_mk]; exact h5 _ _ _ _ _ h
     · exact hk.elim)
   rw [cells_mk]
   refine ct_of_vc E_ok hC ioK_no it_ok mixed (fn := f20) (body := f20.body.getD .skip) (by kernel_rfl) (by kernel_rfl) (by kernel_rfl) (fi := fx_25 op sub t v args to) (by kernel_rfl) (by kernel_rfl) ⟨_, _, rfl, rfl⟩ ?_
   rw [vc25]; dsimp -eta -iota -proj only [Zfx, Zbt, Zcx, Zcb, Zf0, Zds, Zbk, Zbj, Z6, Zo, Zi, Zby, Zb1, Zbo, Zk, Z1, Z4, Ze6, Zco, Zcj, Zd1, Zdv, Zdu, Zdt, Zew, Zes, Zen, Zem, Zek, Zcs, Zbb, Zf6, Zfd, Zeg]
   obtain ⟨_, hl, hfl⟩ := fits_mk hf
   simp only [size] at hs
   refine ⟨fun ho => ⟨encI to, rfl, fun hc => ?_, fun hc => ⟨fun _ => ?_, fun h => (by cases h)⟩⟩, fun ho => ?_⟩
   · have ho : op = 1 := by simpa using ho
     have hc : 0 ≤ sub ∧ sub < to.length := by
       rw [encI_len] at hc
       by_cases h1 : sub < 0
       · rw [decide_eq_true h1] at hc; cases hc
       · rw [decide_eq_false h1] at hc
         have := of_decide_eq_false hc
         omega
     obtain ⟨s0, g0, g1⟩ := encI_get hc.1 hc.2
     refine ⟨encI to, rfl, ⟨hc.1, by rw [encI_len]; exact hc.2⟩, _, g1, rfl, s0, rfl, fun hn => ?_, fun hn => ⟨encI to, rfl, ⟨hc.1, by rw [encI_len]; exact hc.2⟩, _, g1, rfl, s0, rfl, ?_⟩⟩
     · rw [shiftE_bad ho (.inr (.inr ⟨s0, g0, of_decide_eq_true hn⟩))]
       exact ⟨rfl, rfl⟩
     · have hn := of_decide_eq_false hn
       refine ⟨cellsL args, rfl, ⟨0, s0, []⟩, ⟨rfl, args.length, ⟨Nat.zero_le _, rfl⟩, rfl, by simp only [List.take_zero, shiftL], rfl⟩, fun m (x : SX) hx => ⟨fun hi => ?_, fun hi => ?_⟩⟩
       · obtain ⟨i, s, acc⟩ := x
         obtain ⟨⟨h1, h2⟩, h3, h4, h5⟩ := hx
         dsimp only at h1 h2 h3 h4 h5 hi ⊢
         have hi : i < args.length := by simpa [cellsL_len] using hi
         obtain ⟨op1, sub1, t1, v1, a1, e1, g1⟩ := arg_get hi
         have hsz := size_mem (List.getElem_mem hi)
         refine ⟨cellsL args, rfl, ⟨by omega, by rw [cellsL_len]; omega⟩, _, g1, rfl, op1, sub1, t1.k, t1.sc, v1.t.k, v1.t.sc, v1.nul, v1.n, v1.s, cellsL a1, rfl, args[i], to, by rw [e1, cells_mk]; rfl, rfl, by omega, fitsL_mem hfl (List.getElem_mem hi), hto, fun hn => ⟨fun _ => ?_, fun h => absurd h (by decide)⟩, fun op2 sub2 t2 v2 l2 hs => ⟨fun h => absurd h (by decide), fun _ => ⟨by simp, rfl, rfl, ?_, args.length - (i + 1), ⟨i + 1, s, acc ++ [.mk op2 sub2 t2 v2 l2]⟩, by omega, ?_, ⟨hi, rfl⟩, h3, ?_, by simp [h5]⟩⟩⟩
         · rw [shiftE_none (shiftL_none (List.getElem_mem hi) hn)]
           exact ⟨rfl, rfl⟩
         · rw [cellsL_len, h5]; omega
         · dsimp only
           rw [wrap_next (by omega), ← snoc_cells]
           rfl
         · rw [List.take_add_one, List.getElem?_eq_getElem hi, shiftL_append, h4]
           simp only [Option.toList_some, shiftL, hs]
       · obtain ⟨i, s, acc⟩ := x
         obtain ⟨⟨h1, h2⟩, h3, h4, h5⟩ := hx
         dsimp only at h1 h2 h3 h4 h5 hi ⊢
         have hi : ¬ i < args.length := by simpa [cellsL_len] using hi
         rw [List.take_of_length_le (by omega)] at h4
         subst h3
         rw [shiftE_col ho hc.1 g0 (by omega) h4]
         refine ⟨?_, rfl⟩
         simp only [encO, cells_mk]
         rfl
   · have ho : op = 1 := by simpa using ho
     have hc : sub < 0 ∨ (to.length : Int) ≤ sub := by
       rw [encI_len] at hc
       by_cases h1 : sub < 0
       · exact .inl h1
       · rw [decide_eq_false h1] at hc
         exact .inr (of_decide_eq_true hc)
     rw [shiftE_bad ho (hc.imp (fun h => h) (fun h => .inl h))]
     exact ⟨rfl, rfl⟩
   · have ho : op ≠ 1 := by simpa using ho
     refine ⟨cellsL args, rfl, ⟨0, sub, []⟩, ⟨rfl, args.length, ⟨Nat.zero_le _, rfl⟩, rfl, by simp only [List.take_zero, shiftL], rfl⟩, fun m (x : SX) hx => ⟨fun hi => ?_, fun hi => ?_⟩⟩
     · obtain ⟨i, s, acc⟩ := x
       obtain ⟨⟨h1, h2⟩, h3, h4, h5⟩ := hx
       dsimp only at h1 h2 h3 h4 h5 hi ⊢
       have hi : i < args.length := by simpa [cellsL_len] using hi
       obtain ⟨op1, sub1, t1, v1, a1, e1, g1⟩ := arg_get hi
       have hsz := size_mem (List.getElem_mem hi)
       refine ⟨cellsL args, rfl, ⟨by omega, by rw [cellsL_len]; omega⟩, _, g1, rfl, op1, sub1, t1.k, t1.sc, v1.t.k, v1.t.sc, v1.nul, v1.n, v1.s, cellsL a1, rfl, args[i], to, by rw [e1, cells_mk]; rfl, rfl, by omega, fitsL_mem hfl (List.getElem_mem hi), hto, fun hn => ⟨fun _ => ?_, fun h => absurd h (by decide)⟩, fun op2 sub2 t2 v2 l2 hs => ⟨fun h => absurd h (by decide), fun _ => ⟨by simp, rfl, rfl, ?_, args.length - (i + 1), ⟨i + 1, s, acc ++ [.mk op2 sub2 t2 v2 l2]⟩, by omega, ?_, ⟨hi, rfl⟩, h3, ?_, by simp [h5]⟩⟩⟩
       · rw [shiftE_none (shiftL_none (List.getElem_mem hi) hn)]
         exact ⟨rfl, rfl⟩
       · rw [cellsL_len, h5]; omega
       · dsimp only
         rw [wrap_next (by omega), ← snoc_cells]
         rfl
       · rw [List.take_add_one, List.getElem?_eq_getElem hi, shiftL_append, h4]
         simp only [Option.toList_some, shiftL, hs]
     · obtain ⟨i, s, acc⟩ := x
       obtain ⟨⟨h1, h2⟩, h3, h4, h5⟩ := hx
       dsimp only at h1 h2 h3 h4 h5 hi ⊢
       have hi : ¬ i < args.length := by simpa [cellsL_len] using hi
       rw [List.take_of_length_le (by omega)] at h4
       subst h3
       rw [shiftE_other ho h4]
       refine ⟨?_, rfl⟩
       simp only [encO, cells_mk]
       rfl
theorem ct26 : ∀ (n : Nat) (e : EX) (to : List Int), size e < n → fits e → to.length ≤ 17592186043904 → Ct prog gl 25 [.agg (cells e), .d (.sl (encI to))] (gives (encO (shiftE to e)))
 | 0, _, _, h, _, _ => absurd h (Nat.not_lt_zero _)
 | n + 1, .mk op sub t v args, to, hs, hf, hto => by
   have hC : CallsOk prog gl (C_f26 n) := addC_ok C_66_ok (fun a K hk => by
     unfold c_25 at hk
     split at hk
     · obtain ⟨e, to, rfl, rfl, h1, h2, h3, h4, h5⟩ := hk
       refine (ct26 n e to h1 h2 h3).gives ?_
       rcases h : shiftE to e with _ | ⟨op, sub, t, v, l⟩
       · exact h4 h
       · simp only [encO, cells_mk]; exact h5 _ _ _ _ _ h
     · exact hk.elim)
   rw [cells_mk]
   refine ct_of_vc E_ok hC ioK_no it_ok mixed (fn := f25) (body := f25.body.getD .skip) (by kernel_rfl) (by kernel_rfl) (by kernel_rfl) (fi := fx_26 op sub t v args to) (by kernel_rfl) (by kernel_rfl) ⟨_, _, rfl, rfl⟩ ?_
   rw [vc26]; dsimp -eta -iota -proj only [Zfx, Zbt, Zcx, Zcb, Zf0, Zds, Zbk, Zbj, Z6, Zn, Zj, Zby, Zb1, Zbo, Zk, Z1, Z4, Ze6, Zco, Zcj, Zd1, Zdv, Zdu, Zdt, Zew, Zes, Zen, Zem, Zek, Zcs, Zbb, Zf6, Zfd, Zeg]
   obtain ⟨_, hl, hfl⟩ := fits_mk hf
   simp only [size] at hs
   refine ⟨fun ho => ⟨encI to, rfl, fun hc => ?_, fun hc => ⟨fun _ => ?_, fun h => (by cases h)⟩⟩, fun ho => ?_⟩
   · have ho : op = 1 := by simpa using ho
     have hc : 0 ≤ sub ∧ sub < to.length := by
       rw [encI_len] at hc
       by_cases h1 : sub < 0
       · rw [decide_eq_true h1] at hc; cases hc
       · rw [decide_eq_false h1] at hc
         have := of_decide_eq_false hc
         omega
     obtain ⟨s0, g0, g1⟩ := encI_get hc.1 hc.2
     refine ⟨encI to, rfl, ⟨hc.1, by rw [encI_len]; exact hc.2⟩, _, g1, rfl, s0, rfl, fun hn => ?_, fun hn => ⟨encI to, rfl, ⟨hc.1, by rw [encI_len]; exact hc.2⟩, _, g1, rfl, s0, rfl, ?_⟩⟩
     · rw [shiftE_bad ho (.inr (.inr ⟨s0, g0, of_decide_eq_true hn⟩))]
       exact ⟨rfl, rfl⟩
     · have hn := of_decide_eq_false hn
       refine ⟨⟨0, s0, []⟩, ⟨rfl, args.length, ⟨Nat.zero_le _, rfl⟩, rfl, by simp only [List.take_zero, shiftL], rfl⟩, fun m (x : SX) hx => ⟨cellsL args, rfl, fun hi => ?_, fun hi => ?_⟩⟩
       · obtain ⟨i, s, acc⟩ := x
         obtain ⟨⟨h1, h2⟩, h3, h4, h5⟩ := hx
         dsimp only at h1 h2 h3 h4 h5 hi ⊢
         have hi : i < args.length := by simpa [cellsL_len] using hi
         obtain ⟨op1, sub1, t1, v1, a1, e1, g1⟩ := arg_get hi
         have hsz := size_mem (List.getElem_mem hi)
         refine ⟨cellsL args, rfl, ⟨by omega, by rw [cellsL_len]; omega⟩, _, g1, rfl, op1, sub1, t1.k, t1.sc, v1.t.k, v1.t.sc, v1.nul, v1.n, v1.s, cellsL a1, rfl, args[i], to, by rw [e1, cells_mk]; rfl, rfl, by omega, fitsL_mem hfl (List.getElem_mem hi), hto, fun hn => ⟨fun _ => ?_, fun h => absurd h (by decide)⟩, fun op2 sub2 t2 v2 l2 hs => ⟨fun h => absurd h (by decide), fun _ => ⟨by simp, rfl, rfl, ?_, args.length - (i + 1), ⟨i + 1, s, acc ++ [.mk op2 sub2 t2 v2 l2]⟩, by omega, ?_, ⟨hi, rfl⟩, h3, ?_, by simp [h5]⟩⟩⟩
         · rw [shiftE_none (shiftL_none (List.getElem_mem hi) hn)]
           exact ⟨rfl, rfl⟩
         · rw [cellsL_len, h5]; omega
         · dsimp only
           rw [wrap_next (by omega), ← snoc_cells]
           rfl
         · rw [List.take_add_one, List.getElem?_eq_getElem hi, shiftL_append, h4]
           simp only [Option.toList_some, shiftL, hs]
       · obtain ⟨i, s, acc⟩ := x
         obtain ⟨⟨h1, h2⟩, h3, h4, h5⟩ := hx
         dsimp only at h1 h2 h3 h4 h5 hi ⊢
         have hi : ¬ i < args.length := by simpa [cellsL_len] using hi
         rw [List.take_of_length_le (by omega)] at h4
         subst h3
         rw [shiftE_col ho hc.1 g0 (by omega) h4]
         refine ⟨?_, rfl⟩
         simp only [encO, cells_mk]
         rfl
   · have ho : op = 1 := by simpa using ho
     have hc : sub < 0 ∨ (to.length : Int) ≤ sub := by
       rw [encI_len] at hc
       by_cases h1 : sub < 0
       · exact .inl h1
       · rw [decide_eq_false h1] at hc
         exact .inr (of_decide_eq_true hc)
     rw [shiftE_bad ho (hc.imp (fun h => h) (fun h => .inl h))]
     exact ⟨rfl, rfl⟩
   · have ho : op ≠ 1 := by simpa using ho
     refine ⟨⟨0, sub, []⟩, ⟨rfl, args.length, ⟨Nat.zero_le _, rfl⟩, rfl, by simp only [List.take_zero, shiftL], rfl⟩, fun m (x : SX) hx => ⟨cellsL args, rfl, fun hi => ?_, fun hi => ?_⟩⟩
     · obtain ⟨i, s, acc⟩ := x
       obtain ⟨⟨h1, h2⟩, h3, h4, h5⟩ := hx
       dsimp only at h1 h2 h3 h4 h5 hi ⊢
       have hi : i < args.length := by simpa [cellsL_len] using hi
       obtain ⟨op1, sub1, t1, v1, a1, e1, g1⟩ := arg_get hi
       have hsz := size_mem (List.getElem_mem hi)
       refine ⟨cellsL args, rfl, ⟨by omega, by rw [cellsL_len]; omega⟩, _, g1, rfl, op1, sub1, t1.k, t1.sc, v1.t.k, v1.t.sc, v1.nul, v1.n, v1.s, cellsL a1, rfl, args[i], to, by rw [e1, cells_mk]; rfl, rfl, by omega, fitsL_mem hfl (List.getElem_mem hi), hto, fun hn => ⟨fun _ => ?_, fun h => absurd h (by decide)⟩, fun op2 sub2 t2 v2 l2 hs => ⟨fun h => absurd h (by decide), fun _ => ⟨by simp, rfl, rfl, ?_, args.length - (i + 1), ⟨i + 1, s, acc ++ [.mk op2 sub2 t2 v2 l2]⟩, by omega, ?_, ⟨hi, rfl⟩, h3, ?_, by simp [h5]⟩⟩⟩
       · rw [shiftE_none (shiftL_none (List.getElem_mem hi) hn)]
         exact ⟨rfl, rfl⟩
       · rw [cellsL_len, h5]; omega
       · dsimp only
         rw [wrap_next (by omega), ← snoc_cells]
         rfl
       · rw [List.take_add_one, List.getElem?_eq_getElem hi, shiftL_append, h4]
         simp only [Option.toList_some, shiftL, hs]
     · obtain ⟨i, s, acc⟩ := x
       obtain ⟨⟨h1, h2⟩, h3, h4, h5⟩ := hx
       dsimp only at h1 h2 h3 h4 h5 hi ⊢
       have hi : ¬ i < args.length := by simpa [cellsL_len] using hi
       rw [List.take_of_length_le (by omega)] at h4
       subst h3
       rw [shiftE_other ho h4]
       refine ⟨?_, rfl⟩
       simp only [encO, cells_mk]
       rfl
end Go.Proofs.Tryz
namespace Go.Proofs.Tryz
open Go Go.Dm Go.Ex
set_option maxRecDepth 100000
variable {gl : Nat → Option Obj}
theorem vc128 (a b k : Int) (Q : KT) : vc E_0 C_66 noI fi94 (f94.body.getD .skip) f94.results.toList [.agg [.v (.int .i64 a), .v (.int .i64 b)], .ptr [.v (.int .i64 k)]] Q = ( ∃ (n : Int), some [D.i k] = some [D.i n] ∧ Q [.d (.v (.bool (a != n)))] []) := by kernel_rfl
def c_128 (a : List R) (K : KT) : Prop := match a with
 | [.agg [.v (.int .i64 a), .v (.int .i64 b)], .ptr [.v (.int .i64 k)]] => K [.d (.v (.bool (a != k)))] []
 | _ => False
theorem c_128_ok (a : List R) (K : KT) (h : c_128 a K) : Ct prog gl 94 a K := by
 unfold c_128 at h
 split at h
 · rename_i a b k
   refine Ct.gives (r := [.d (.v (.bool (a != k)))]) (ctv C_66_ok f94 fi94 ⟨_, _, rfl, rfl⟩ ?_) h
   rw [vc128]
   exact ⟨k, rfl, rfl, rfl⟩
 · exact h.elim
def C_4a : CallT := addC C_66 94 c_128
theorem C_4a_ok : CallsOk prog gl C_4a := addC_ok C_66_ok c_128_ok
theorem any_take {α : Type} {p : α → Bool} {l : List α} {i : Nat} (hi : i < l.length) (h : ∀ v ∈ l.take i, p v = false) (hb : p l[i] = false) : ∀ v ∈ l.take (i + 1), p v = false := by
 intro v hv
 rw [List.take_add_one, List.getElem?_eq_getElem hi] at hv
 rcases List.mem_append.1 hv with hv | hv
 · exact h v hv
 · simp at hv; subst hv; exact hb
theorem any_none {α : Type} {p : α → Bool} {l : List α} (h : ∀ v ∈ l, p v = false) : l.any p = false := by
 rw [List.any_eq_false]; intro v hv; rw [h v hv]; simp
def badT (t : Ty) : Bool := s59_0 t.k t.sc
def offK (k : Int) (t : Ty) : Bool := t.k != k
def st_123a (l : List Ty) (x : Nat) : St := { tm := [(0, .d (.sl (l.map Ty.cs))), (1, .fn 44 []), (4, .d (.v (.int .i64 0))), (7, .d (.v (.int .i64 ((l.map Ty.cs).length : Int)))), (8, .d (.v (.int .i64 (x : Int))))], hp := [], kn := [], gd := [] }
def inv_123a (l : List Ty) (m : Nat) (x : Nat) : Prop := (x ≤ l.length ∧ m = l.length - x) ∧ ∀ v ∈ l.take x, badT v = false
def fx_123a (l : List Ty) : Fi := { fi88 with lx := [(2, { X := Nat, sh := st_123a l, P := fun _ => inv_123a l })] }
def Zbh (a0 : List Ty) (k : (List (List D)) → Prop) : Prop := Zbt fun es => D.sl (List.map Ty.cs a0) = D.sl es ∧ k es
def Zel (a0 : List Ty) (a1 : Nat) : St := { tm := [(0, .d (.sl (List.map Ty.cs a0))), (1, .fn (44 : Nat) []), (4, .i 0), (7, .i (↑(List.map Ty.cs a0).length : Int)), (8, .i (↑a1 : Int))], hp := [], kn := [], gd := [] : St }
def Zba (a0 : Nat) (a1 : List (List D)) (a2 : Nat) (k : (List D) → Prop) : Prop := (0 ≤ (↑a0 : Int) ∧ (↑a0 : Int) < (↑a1.length : Int)) ∧ ∃ (cells : List D), a1[(↑a0 : Int).toNat]? = some cells ∧ cells.length = a2 ∧ k cells
def Ze0 (a0 a1 : Int) : List D := [.i a0, .i a1]
def Zbc (a0 : List D) (k : Int → Int → Prop) : Prop := ∃ (n_1 n_2 : Int), cut 0 2 a0 = some (Ze0 n_1 n_2) ∧ k n_1 n_2
def Zbp (a0 : Nat) (a1 : List (List D)) (k : Int → Int → Prop) : Prop := Zba a0 a1 (2 : Nat) fun cells => Zbc cells fun n_1 n_2 => k n_1 n_2
def Zb5 (a0 : List Ty) (a1 : Nat) (k : Int → Int → Prop) : Prop := Zbh a0 fun es => Zbp a1 es fun n_1 n_2 => k n_1 n_2
def Zcl (a0 : Nat) (a1 : List Ty) (k : Int → Int → Prop) : Prop := decide ((↑a0 : Int) < (↑(List.map Ty.cs a1).length : Int)) = true → Zb5 a1 a0 fun n_1 n_2 => k n_1 n_2
theorem vc123a (l : List Ty) (Q : KT) : vc E_0 C_4a noI (fx_123a l) (f88.body.getD .skip) f88.results.toList [.d (.sl (l.map Ty.cs)), .fn 44 []] Q = ( Zbh l fun es => ∃ (x0 : Nat), ({ tm := [(0, .d (.sl (List.map Ty.cs l))), (1, .fn (44 : Nat) []), (4, .i 0), (7, .i (↑es.length : Int)), (8, .i 0)], hp := [], kn := [], gd := [] : St } = (Zel l x0) ∧ ∃ (n : Nat), inv_123a l n x0) ∧ ∀ (n : Nat) (x : Nat), inv_123a l n x → (Zcl x l fun n_1 n_2 => (s59_0 n_1 n_2 = true → Q [.d (.i (↑x : Int))] []) ∧ (s59_0 n_1 n_2 = false → Zdq n fun m x' => { tm := [(0, .d (.sl (List.map Ty.cs l))), (1, .fn (44 : Nat) []), (4, .i 0), (7, .i (↑(List.map Ty.cs l).length : Int)), (8, .i (IntKind.i64.wrap ((↑x : Int) + 1)))], hp := [], kn := [], gd := [] : St } = (Zel l x') ∧ inv_123a l m x')) ∧ (decide ((↑x : Int) < (↑(List.map Ty.cs l).length : Int)) = false → Q Zfq [])) := by kernel_rfl
theorem ct123a (l : List Ty) (hl : l.length < 4611686018427387904) : Ct prog gl 88 [.d (.sl (l.map Ty.cs)), .fn 44 []] (fun res fin => fin = [] ∧ ∃ r : Int, res = [.d (.v (.int .i64 r))] ∧ decide (r ≥ 0) = l.any (badT)) :=
 ct_of_vc E_ok C_4a_ok ioK_no it_ok mixed (fn := f88) (body := f88.body.getD .skip) (by kernel_rfl) (by kernel_rfl) (by kernel_rfl) (fi := fx_123a l) (by kernel_rfl) (by kernel_rfl) (by
   cases h : l.any (badT)
   · exact ⟨_, _, rfl, -1, rfl, rfl⟩
   · exact ⟨_, _, rfl, 0, rfl, rfl⟩) (by
   rw [vc123a]; dsimp -eta -iota -proj only [Zbh, Zbt, Zel, Zcl, Zb5, Zbp, Zba, Zbc, Ze0, Zdq, Zfq]
   refine ⟨_, rfl, (0 : Nat), ⟨rfl, l.length, ⟨Nat.zero_le _, rfl⟩, by simp⟩, fun m (x : Nat) hx => ⟨fun hi => ?_, fun hi => ?_⟩⟩
   · have hi : x < l.length := by simpa using hi
     have hg : (l.map Ty.cs)[((x : Nat) : Int).toNat]? = some (Ty.cs l[x]) := by simp [hi]
     have hm := hx.1.2
     refine ⟨_, rfl, ⟨by omega, by simpa using hi⟩, _, hg, rfl, _, _, rfl, fun hb => ?_, fun hb => ?_⟩
     · refine ⟨rfl, (x : Int), rfl, ?_⟩
       rw [decide_eq_true (by omega)]
       exact (List.any_eq_true.2 ⟨l[x], List.getElem_mem hi, hb⟩).symm
     · exact ⟨l.length - (x + 1), x + 1, by omega, by rw [wrap_next (by omega)], ⟨hi, rfl⟩, any_take hi hx.2 hb⟩
   · have hi : ¬ x < l.length := by simpa using hi
     have h := hx.2
     rw [List.take_of_length_le (by omega)] at h
     refine ⟨rfl, -1, rfl, ?_⟩
     rw [any_none h]; rfl)
def st_123b (k : Int) (l : List Ty) (x : Nat) : St := { tm := [(0, .d (.sl (l.map Ty.cs))), (1, .fn 94 [.dptr [.v (.int .i64 k)]]), (4, .d (.v (.int .i64 0))), (7, .d (.v (.int .i64 ((l.map Ty.cs).length : Int)))), (8, .d (.v (.int .i64 (x : Int))))], hp := [], kn := [], gd := [] }
def inv_123b (k : Int) (l : List Ty) (m : Nat) (x : Nat) : Prop := (x ≤ l.length ∧ m = l.length - x) ∧ ∀ v ∈ l.take x, offK k v = false
def fx_123b (k : Int) (l : List Ty) : Fi := { fi88 with lx := [(2, { X := Nat, sh := st_123b k l, P := fun _ => inv_123b k l })] }
def Zei (a0 : List Ty) (a1 : Int) (a2 : Nat) : St := { tm := [(0, .d (.sl (List.map Ty.cs a0))), (1, .fn (94 : Nat) [.dptr [.i a1]]), (4, .i 0), (7, .i (↑(List.map Ty.cs a0).length : Int)), (8, .i (↑a2 : Int))], hp := [], kn := [], gd := [] : St }
theorem vc123b (k : Int) (l : List Ty) (Q : KT) : vc E_0 C_4a noI (fx_123b k l) (f88.body.getD .skip) f88.results.toList [.d (.sl (l.map Ty.cs)), .fn 94 [.ptr [.v (.int .i64 k)]]] Q = ( Zbh l fun es => ∃ (x0 : Nat), ({ tm := [(0, .d (.sl (List.map Ty.cs l))), (1, .fn (94 : Nat) [.dptr [.i k]]), (4, .i 0), (7, .i (↑es.length : Int)), (8, .i 0)], hp := [], kn := [], gd := [] : St } = (Zei l k x0) ∧ ∃ (n : Nat), inv_123b k l n x0) ∧ ∀ (n : Nat) (x : Nat), inv_123b k l n x → (Zcl x l fun n_1 _ => ((n_1 != k) = true → Q [.d (.i (↑x : Int))] []) ∧ ((n_1 != k) = false → Zdq n fun m x' => { tm := [(0, .d (.sl (List.map Ty.cs l))), (1, .fn (94 : Nat) [.dptr [.i k]]), (4, .i 0), (7, .i (↑(List.map Ty.cs l).length : Int)), (8, .i (IntKind.i64.wrap ((↑x : Int) + 1)))], hp := [], kn := [], gd := [] : St } = (Zei l k x') ∧ inv_123b k l m x')) ∧ (decide ((↑x : Int) < (↑(List.map Ty.cs l).length : Int)) = false → Q Zfq [])) := by kernel_rfl
theorem ct123b (k : Int) (l : List Ty) (hl : l.length < 4611686018427387904) : Ct prog gl 88 [.d (.sl (l.map Ty.cs)), .fn 94 [.ptr [.v (.int .i64 k)]]] (fun res fin => fin = [] ∧ ∃ r : Int, res = [.d (.v (.int .i64 r))] ∧ decide (r ≥ 0) = l.any (offK k)) :=
 ct_of_vc E_ok C_4a_ok ioK_no it_ok mixed (fn := f88) (body := f88.body.getD .skip) (by kernel_rfl) (by kernel_rfl) (by kernel_rfl) (fi := fx_123b k l) (by kernel_rfl) (by kernel_rfl) (by
   cases h : l.any (offK k)
   · exact ⟨_, _, rfl, -1, rfl, rfl⟩
   · exact ⟨_, _, rfl, 0, rfl, rfl⟩) (by
   rw [vc123b]; dsimp -eta -iota -proj only [Zbh, Zbt, Zei, Zcl, Zb5, Zbp, Zba, Zbc, Ze0, Zdq, Zfq]
   refine ⟨_, rfl, (0 : Nat), ⟨rfl, l.length, ⟨Nat.zero_le _, rfl⟩, by simp⟩, fun m (x : Nat) hx => ⟨fun hi => ?_, fun hi => ?_⟩⟩
   · have hi : x < l.length := by simpa using hi
     have hg : (l.map Ty.cs)[((x : Nat) : Int).toNat]? = some (Ty.cs l[x]) := by simp [hi]
     have hm := hx.1.2
     refine ⟨_, rfl, ⟨by omega, by simpa using hi⟩, _, hg, rfl, _, _, rfl, fun hb => ?_, fun hb => ?_⟩
     · refine ⟨rfl, (x : Int), rfl, ?_⟩
       rw [decide_eq_true (by omega)]
       exact (List.any_eq_true.2 ⟨l[x], List.getElem_mem hi, hb⟩).symm
     · exact ⟨l.length - (x + 1), x + 1, by omega, by rw [wrap_next (by omega)], ⟨hi, rfl⟩, any_take hi hx.2 hb⟩
   · have hi : ¬ x < l.length := by simpa using hi
     have h := hx.2
     rw [List.take_of_length_le (by omega)] at h
     refine ⟨rfl, -1, rfl, ?_⟩
     rw [any_none h]; rfl)
def c_123 (a : List R) (K : KT) : Prop := match a with
 | [.d (.sl x), .fn 44 []] => ∃ l : List Ty, x = l.map Ty.cs ∧ l.length < 4611686018427387904 ∧ ∀ r : Int, decide (r ≥ 0) = l.any (badT) → K [.d (.v (.int .i64 r))] []
 | [.d (.sl x), .fn 94 [.ptr [.v (.int .i64 k)]]] => ∃ l : List Ty, x = l.map Ty.cs ∧ l.length < 4611686018427387904 ∧ ∀ r : Int, decide (r ≥ 0) = l.any (offK k) → K [.d (.v (.int .i64 r))] []
 | _ => False
theorem c_123_ok (a : List R) (K : KT) (h : c_123 a K) : Ct prog gl 88 a K := by
 unfold c_123 at h
 split at h
 · obtain ⟨l, rfl, h1, h2⟩ := h
   exact (ct123a l h1).mono fun res fin ⟨e1, r, e2, e3⟩ => by subst e1; subst e2; exact h2 r e3
 · obtain ⟨l, rfl, h1, h2⟩ := h
   exact (ct123b _ l h1).mono fun res fin ⟨e1, r, e2, e3⟩ => by subst e1; subst e2; exact h2 r e3
 · exact h.elim
def C_4b : CallT := addC C_4a 88 c_123
theorem C_4b_ok : CallsOk prog gl C_4b := addC_ok C_4a_ok c_123_ok
def Zfe (a0 : List (List D)) (k : (List Ty) → Prop) : Prop := ∃ (l : List Ty), a0 = List.map Ty.cs l ∧ l.length < 4611686018427387904 ∧ k l
theorem vc58a (x : List (List D)) (Q : KT) : vc E_0 C_4b noI fi43 (f43.body.getD .skip) f43.results.toList [.d (.sl x), .fn 44 []] Q = ( Zfe x fun l => ∀ (r : Int), decide (r ≥ 0) = l.any badT → Q [.d (.v (.bool (decide (r ≥ 0))))] []) := by kernel_rfl
theorem vc58b (k : Int) (x : List (List D)) (Q : KT) : vc E_0 C_4b noI fi43 (f43.body.getD .skip) f43.results.toList [.d (.sl x), .fn 94 [.ptr [.v (.int .i64 k)]]] Q = ( Zfe x fun l => ∀ (r : Int), decide (r ≥ 0) = l.any (offK k) → Q [.d (.v (.bool (decide (r ≥ 0))))] []) := by kernel_rfl
def c_58 (a : List R) (K : KT) : Prop := match a with
 | [.d (.sl x), .fn 44 []] => ∃ l : List Ty, x = l.map Ty.cs ∧ l.length < 4611686018427387904 ∧ K [.d (.v (.bool (l.any (badT))))] []
 | [.d (.sl x), .fn 94 [.ptr [.v (.int .i64 k)]]] => ∃ l : List Ty, x = l.map Ty.cs ∧ l.length < 4611686018427387904 ∧ K [.d (.v (.bool (l.any (offK k))))] []
 | _ => False
theorem c_58_ok (a : List R) (K : KT) (h : c_58 a K) : Ct prog gl 43 a K := by
 unfold c_58 at h
 split at h
 · obtain ⟨l, rfl, h1, h2⟩ := h
   refine Ct.gives (r := [.d (.v (.bool (l.any (badT))))]) (ctv C_4b_ok f43 fi43 ⟨_, _, rfl, rfl⟩ ?_) h2
   rw [vc58a]; dsimp -eta -iota -proj only [Zfe]
   exact ⟨l, rfl, h1, fun r hr => ⟨by rw [hr], rfl⟩⟩
 · rename_i x k
   obtain ⟨l, rfl, h1, h2⟩ := h
   refine Ct.gives (r := [.d (.v (.bool (l.any (offK k))))]) (ctv C_4b_ok f43 fi43 ⟨_, _, rfl, rfl⟩ ?_) h2
   rw [vc58b]; dsimp -eta -iota -proj only [Zfe]
   exact ⟨l, rfl, h1, fun r hr => ⟨by rw [hr], rfl⟩⟩
 · exact h.elim
def C_4c : CallT := addC C_4b 43 c_58
theorem C_4c_ok : CallsOk prog gl C_4c := addC_ok C_4b_ok c_58_ok
def C_4e : CallT := C_4c
theorem C_4e_ok : CallsOk prog gl C_4e := C_4c_ok
end Go.Proofs.Tryz
namespace Go.Proofs.Tryz
open Go Go.Dm Go.Ex
set_option maxRecDepth 100000
variable {gl : Nat → Option Obj}
def tyZ (t : Ty) : Bool := t.1 == (0 : Int) && (t.2 == (0 : Int) && true)
def valZ (v : Go.Ex.AV) : Bool := v.1.1 == (0 : Int) && (v.1.2 == (0 : Int) && (v.2 == false && (v.3 == (0 : Int) && (v.4 == ({ data := { toList := [] } } : ByteArray) && true))))
def mayHd (op sub : Int) (t : Ty) (v : Go.Ex.AV) (m c : Int) : Bool :=
 bif op == 1 then (bif bif bif m == 0 then (bif decide (sub ≥ 0) then decide (sub < c) else false) else false then tyZ t else false then valZ v else false)
 else bif op == 2 then (bif bif bif m == 0 then sub == 0 else false then tyZ t else false then s56_0 v.1.1 v.1.2 v.2 v.3 v.4 == 0 else false)
 else bif op == 9 then (bif bif bif m == 2 then (bif decide (sub ≥ 1) then decide (sub ≤ 6) else false) else false then tyZ t else false then valZ v else false)
 else bif op == 16 then (bif bif bif m == 1 then sub == 0 else false then s60_0 t.1 t.2 == 0 else false then valZ v else false)
 else bif (op == 8 || op == 12 || op == 13 || op == 18) then (bif bif bif m == 1 then sub == 0 else false then tyZ t else false then valZ v else false)
 else bif op == 14 then (bif bif bif (bif decide (m ≥ 3) then m.tmod 2 != 0 else false) then sub == 0 else false then tyZ t else false then valZ v else false)
 else bif op == 15 then (bif bif bif decide (m ≥ 1) then sub == 0 else false then tyZ t else false then valZ v else false)
 else bif (op == 3 || op == 4 || op == 5 || op == 6 || op == 7 || op == 10 || op == 11 || op == 17) then (bif bif bif m == 2 then sub == 0 else false then tyZ t else false then valZ v else false)
 else false
mutual
def mayE (c : Int) : EX → Bool
 | .mk op sub t v args => mayHd op sub t v ((cellsL args).length : Int) c && mayL c args
def mayL (c : Int) : List EX → Bool
 | [] => true
 | e :: r => mayE c e && mayL c r
end
theorem mayL_all (c : Int) : ∀ l : List EX, mayL c l = l.all (mayE c)
 | [] => by simp [mayL]
 | e :: r => by simp [mayL, mayL_all c r]
theorem mayL_any (c : Int) (l : List EX) : (!mayL c l) = l.any (fun e => !mayE c e) := by
 rw [mayL_all, List.not_all_eq_any_not]
def c_63 (n : Nat) (a : List R) (K : KT) : Prop := match a with
 | [.agg x, .d (.v (.int .i64 c))] => ∃ e : EX, x = cells e ∧ size e < n ∧ fits e ∧ K [.d (.v (.bool (mayE c e)))] []
 | _ => False
def C_f126 (n : Nat) : CallT := addC C_4e 48 (c_63 n)
def Zz (a0 a1 : Int) (a2 : Ty) (a3 : Go.Ex.AV) (a4 : List EX) : List D := [.i a0, .i a1, .i a2.1, .i a2.2, .i a3.1.1, .i a3.1.2, .v (.bool a3.2), .i a3.3, .v (.string a3.4), .sl (cellsL a4)]
def Z2 (a0 a1 : Int) (a2 : Ty) (a3 : Go.Ex.AV) (a4 : List EX) (a5 : EX) (k : Prop) : Prop := (Zz a0 a1 a2 a3 a4) = cells a5 ∧ k
theorem vc126 (n : Nat) (op sub : Int) (t : Ty) (v : Go.Ex.AV) (args : List EX) (c : Int) (Q : KT) : vc E_0 (C_f126 n) noI fi92 (f92.body.getD .skip) f92.results.toList [.agg (encX op sub t v (cellsL args)), .ptr [.v (.int .i64 c)]] Q = ( ∃ (n_1 : Int), some [D.i c] = some [D.i n_1] ∧ ∃ (e : EX), Z2 op sub t v args e (size e < n ∧ fits e ∧ Q [.d (.v (.bool !mayE n_1 e))] [])) := by kernel_rfl
def c_126 (n : Nat) (a : List R) (K : KT) : Prop := match a with
 | [.agg x, .ptr [.v (.int .i64 c)]] => ∃ e : EX, x = cells e ∧ size e < n ∧ fits e ∧ K [.d (.v (.bool (!mayE c e)))] []
 | _ => False
def C_f208 (n : Nat) : CallT := addC C_4e 92 (c_126 n)
def st_208 (k : Int) (l : List EX) (x : Nat) : St := { tm := [(0, .d (.sl (cellsL l))), (1, .fn 92 [.dptr [.v (.int .i64 k)]]), (4, .d (.v (.int .i64 0))), (7, .d (.v (.int .i64 ((cellsL l).length : Int)))), (8, .d (.v (.int .i64 (x : Int))))], hp := [], kn := [], gd := [] }
def inv_208 (k : Int) (l : List EX) (m : Nat) (x : Nat) : Prop := (x ≤ l.length ∧ m = l.length - x) ∧ ∀ e ∈ l.take x, (!mayE k e) = false
def fx_208 (k : Int) (l : List EX) : Fi := { fi139 with lx := [(2, { X := Nat, sh := st_208 k l, P := fun _ => inv_208 k l })] }
def Zet (a0 : List EX) (a1 : Int) (a2 : Nat) : St := { tm := [(0, .d (.sl (cellsL a0))), (1, .fn (92 : Nat) [.dptr [.i a1]]), (4, .i 0), (7, .i (↑(cellsL a0).length : Int)), (8, .i (↑a2 : Int))], hp := [], kn := [], gd := [] : St }
theorem vc208 (n : Nat) (k : Int) (l : List EX) (Q : KT) : vc E_0 (C_f208 n) noI (fx_208 k l) (f139.body.getD .skip) f139.results.toList [.d (.sl (cellsL l)), .fn 92 [.ptr [.v (.int .i64 k)]]] Q = ( Zby l fun es => ∃ (x0 : Nat), ({ tm := [(0, .d (.sl (cellsL l))), (1, .fn (92 : Nat) [.dptr [.i k]]), (4, .i 0), (7, .i (↑es.length : Int)), (8, .i 0)], hp := [], kn := [], gd := [] : St } = (Zet l k x0) ∧ ∃ (n : Nat), inv_208 k l n x0) ∧ ∀ (n_1 : Nat) (x : Nat), inv_208 k l n_1 x → (decide ((↑x : Int) < (↑(cellsL l).length : Int)) = true → Zx l x n fun e => ((!mayE k e) = true → Q [.d (.i (↑x : Int))] []) ∧ ((!mayE k e) = false → Zdq n_1 fun m x' => { tm := [(0, .d (.sl (cellsL l))), (1, .fn (92 : Nat) [.dptr [.i k]]), (4, .i 0), (7, .i (↑(cellsL l).length : Int)), (8, .i (IntKind.i64.wrap ((↑x : Int) + 1)))], hp := [], kn := [], gd := [] : St } = (Zet l k x') ∧ inv_208 k l m x')) ∧ (decide ((↑x : Int) < (↑(cellsL l).length : Int)) = false → Q Zfq [])) := by kernel_rfl
def c_208 (n : Nat) (a : List R) (K : KT) : Prop := match a with
 | [.d (.sl x), .fn 92 [.ptr [.v (.int .i64 c)]]] => ∃ l : List EX, x = cellsL l ∧ sizeL l < n ∧ l.length ≤ 1353245080300 ∧ fitsL l ∧ ∀ r : Int, decide (r ≥ 0) = (!mayL c l) → K [.d (.v (.int .i64 r))] []
 | _ => False
def C_f125 (n : Nat) : CallT := addC C_4e 139 (c_208 n)
theorem vc125 (n : Nat) (x : List (List D)) (c : Int) (Q : KT) : vc E_0 (C_f125 n) noI fi91 (f91.body.getD .skip) f91.results.toList [.d (.sl x), .fn 92 [.ptr [.v (.int .i64 c)]]] Q = ( ∃ (l : List EX), x = cellsL l ∧ sizeL l < n ∧ l.length ≤ 1353245080300 ∧ fitsL l ∧ ∀ (r : Int), decide (r ≥ 0) = !mayL c l → Q [.d (.v (.bool (decide (r ≥ 0))))] []) := by kernel_rfl
def c_125 (n : Nat) (a : List R) (K : KT) : Prop := match a with
 | [.d (.sl x), .fn 92 [.ptr [.v (.int .i64 c)]]] => ∃ l : List EX, x = cellsL l ∧ sizeL l < n ∧ l.length ≤ 1353245080300 ∧ fitsL l ∧ K [.d (.v (.bool (!mayL c l)))] []
 | _ => False
def C_f63 (n : Nat) : CallT := addC C_4e 91 (c_125 n)
def E_b : Env := { E_0 with bw := [91] }
theorem E_b_ok : EnvOk prog E_b := ⟨E_ok.te⟩
theorem it_b : ItOk prog E_b := fun _ _ _ h => h.elim
def Zb3 (a0 : List EX) (a1 : Nat) (a2 : KT) (a3 : Int) : Prop := ∃ (l : List EX), cellsL a0 = cellsL l ∧ sizeL l < a1 ∧ l.length ≤ 1353245080300 ∧ fitsL l ∧ a2 [.d (.v (.bool !!mayL a3 l))] []
def Zp (a0 a1 a2 : Int) (a3 : List (List D)) (a4 a5 : Int) (a6 : Ty) (a7 : Go.Ex.AV) (a8 : List EX) (a9 : Nat) (a10 : KT) (a11 : Int) (k : Prop) : Prop := (a0 == a1) = false → ((a0 == a2) = true → ((bif bif bif (↑a3.length : Int) == a4 then a5 == 0 else false then a6.1 == 0 && (a6.2 == 0 && true) else false then a7.1.1 == 0 && (a7.1.2 == 0 && (a7.2 == false && (a7.3 == 0 && (a7.4 == { data := { toList := [] : Array UInt8 } : ByteArray } && true)))) else false) = true → Zb3 a8 a9 a10 a11) ∧ ((bif bif bif (↑a3.length : Int) == a4 then a5 == 0 else false then a6.1 == 0 && (a6.2 == 0 && true) else false then a7.1.1 == 0 && (a7.1.2 == 0 && (a7.2 == false && (a7.3 == 0 && (a7.4 == { data := { toList := [] : Array UInt8 } : ByteArray } && true)))) else false) = !true → Zcr a10)) ∧ k
theorem vc63 (n : Nat) (op sub : Int) (t : Ty) (v : Go.Ex.AV) (args : List EX) (c : Int) (Q : KT) : vc E_b (C_f63 n) noI fi48 (f48.body.getD .skip) f48.results.toList [.agg (encX op sub t v (cellsL args)), .d (.v (.int .i64 c))] Q = ( Zby args fun es => ((op == 1) = true → ((bif bif bif (↑es.length : Int) == 0 then bif decide (sub ≥ 0) then decide (sub < c) else false else false then t.1 == 0 && (t.2 == 0 && true) else false then v.1.1 == 0 && (v.1.2 == 0 && (v.2 == false && (v.3 == 0 && (v.4 == { data := { toList := [] : Array UInt8 } : ByteArray } && true)))) else false) = true → Zb3 args n Q c) ∧ ((bif bif bif (↑es.length : Int) == 0 then bif decide (sub ≥ 0) then decide (sub < c) else false else false then t.1 == 0 && (t.2 == 0 && true) else false then v.1.1 == 0 && (v.1.2 == 0 && (v.2 == false && (v.3 == 0 && (v.4 == { data := { toList := [] : Array UInt8 } : ByteArray } && true)))) else false) = !true → Zcr Q)) ∧ ((op == 1) = false → ((op == 2) = true → ((bif bif bif (↑es.length : Int) == 0 then sub == 0 else false then t.1 == 0 && (t.2 == 0 && true) else false then s56_0 v.1.1 v.1.2 v.2 v.3 v.4 == 0 else false) = true → Zb3 args n Q c) ∧ ((bif bif bif (↑es.length : Int) == 0 then sub == 0 else false then t.1 == 0 && (t.2 == 0 && true) else false then s56_0 v.1.1 v.1.2 v.2 v.3 v.4 == 0 else false) = !true → Zcr Q)) ∧ ((op == 2) = false → ((op == 9) = true → ((bif bif bif (↑es.length : Int) == 2 then bif decide (sub ≥ 1) then decide (sub ≤ 6) else false else false then t.1 == 0 && (t.2 == 0 && true) else false then v.1.1 == 0 && (v.1.2 == 0 && (v.2 == false && (v.3 == 0 && (v.4 == { data := { toList := [] : Array UInt8 } : ByteArray } && true)))) else false) = true → Zb3 args n Q c) ∧ ((bif bif bif (↑es.length : Int) == 2 then bif decide (sub ≥ 1) then decide (sub ≤ 6) else false else false then t.1 == 0 && (t.2 == 0 && true) else false then v.1.1 == 0 && (v.1.2 == 0 && (v.2 == false && (v.3 == 0 && (v.4 == { data := { toList := [] : Array UInt8 } : ByteArray } && true)))) else false) = !true → Zcr Q)) ∧ ((op == 9) = false → ((op == 16) = true → ((bif bif bif (↑es.length : Int) == 1 then sub == 0 else false then s60_0 t.1 t.2 == 0 else false then v.1.1 == 0 && (v.1.2 == 0 && (v.2 == false && (v.3 == 0 && (v.4 == { data := { toList := [] : Array UInt8 } : ByteArray } && true)))) else false) = true → Zb3 args n Q c) ∧ ((bif bif bif (↑es.length : Int) == 1 then sub == 0 else false then s60_0 t.1 t.2 == 0 else false then v.1.1 == 0 && (v.1.2 == 0 && (v.2 == false && (v.3 == 0 && (v.4 == { data := { toList := [] : Array UInt8 } : ByteArray } && true)))) else false) = !true → Zcr Q)) ∧ (Zp op (16 : Int) (8 : Int) es (1 : Int) sub t v args n Q c ((Zp op (8 : Int) (12 : Int) es (1 : Int) sub t v args n Q c ((Zp op (12 : Int) (13 : Int) es (1 : Int) sub t v args n Q c ((Zp op (13 : Int) (18 : Int) es (1 : Int) sub t v args n Q c (((op == 18) = false → ((op == 14) = true → (2 : Int) ≠ (0 : Int) ∧ ((bif bif bif bif decide ((↑es.length : Int) ≥ 3) then (↑es.length : Int).tmod (2 : Int) != (0 : Int) else false then sub == 0 else false then t.1 == 0 && (t.2 == 0 && true) else false then v.1.1 == 0 && (v.1.2 == 0 && (v.2 == false && (v.3 == 0 && (v.4 == { data := { toList := [] : Array UInt8 } : ByteArray } && true)))) else false) = true → Zb3 args n Q c) ∧ ((bif bif bif bif decide ((↑es.length : Int) ≥ 3) then (↑es.length : Int).tmod (2 : Int) != (0 : Int) else false then sub == 0 else false then t.1 == 0 && (t.2 == 0 && true) else false then v.1.1 == 0 && (v.1.2 == 0 && (v.2 == false && (v.3 == 0 && (v.4 == { data := { toList := [] : Array UInt8 } : ByteArray } && true)))) else false) = !true → Zcr Q)) ∧ ((op == 14) = false → ((op == 15) = true → ((bif bif bif decide ((↑es.length : Int) ≥ 1) then sub == 0 else false then t.1 == 0 && (t.2 == 0 && true) else false then v.1.1 == 0 && (v.1.2 == 0 && (v.2 == false && (v.3 == 0 && (v.4 == { data := { toList := [] : Array UInt8 } : ByteArray } && true)))) else false) = true → Zb3 args n Q c) ∧ ((bif bif bif decide ((↑es.length : Int) ≥ 1) then sub == 0 else false then t.1 == 0 && (t.2 == 0 && true) else false then v.1.1 == 0 && (v.1.2 == 0 && (v.2 == false && (v.3 == 0 && (v.4 == { data := { toList := [] : Array UInt8 } : ByteArray } && true)))) else false) = !true → Zcr Q)) ∧ (Zp op (15 : Int) (3 : Int) es (2 : Int) sub t v args n Q c ((Zp op (3 : Int) (4 : Int) es (2 : Int) sub t v args n Q c ((Zp op (4 : Int) (5 : Int) es (2 : Int) sub t v args n Q c ((Zp op (5 : Int) (6 : Int) es (2 : Int) sub t v args n Q c ((Zp op (6 : Int) (7 : Int) es (2 : Int) sub t v args n Q c ((Zp op (7 : Int) (10 : Int) es (2 : Int) sub t v args n Q c ((Zp op (10 : Int) (11 : Int) es (2 : Int) sub t v args n Q c ((Zp op (11 : Int) (17 : Int) es (2 : Int) sub t v args n Q c (((op == 17) = false → ((bif bif bif false then sub == 0 else false then t.1 == 0 && (t.2 == 0 && true) else false then v.1.1 == 0 && (v.1.2 == 0 && (v.2 == false && (v.3 == 0 && (v.4 == { data := { toList := [] : Array UInt8 } : ByteArray } && true)))) else false) = true → Zb3 args n Q c) ∧ ((bif bif bif false then sub == 0 else false then t.1 == 0 && (t.2 == 0 && true) else false then v.1.1 == 0 && (v.1.2 == 0 && (v.2 == false && (v.3 == 0 && (v.4 == { data := { toList := [] : Array UInt8 } : ByteArray } && true)))) else false) = !true → Zcr Q)))))))))))))))))))))))))))))))) := by kernel_rfl
def P63 (gl : Nat → Option Obj) (n : Nat) : Prop := ∀ (e : EX) (c : Int), size e < n → fits e → Ct prog gl 48 [.agg (cells e), .d (.v (.int .i64 c))] (gives [.d (.v (.bool (mayE c e)))])
theorem ct126_of {n : Nat} (h63 : P63 gl n) : ∀ (e : EX) (c : Int), size e < n → fits e → Ct prog gl 92 [.agg (cells e), .ptr [.v (.int .i64 c)]] (gives [.d (.v (.bool (!mayE c e)))])
 | .mk op sub t v args, c, hs, hf => by
   have hC : CallsOk prog gl (C_f126 n) := addC_ok C_4e_ok (fun a K hk => by
     unfold c_63 at hk
     split at hk
     · obtain ⟨e, rfl, h1, h2, h3⟩ := hk
       exact (h63 e _ h1 h2).gives h3
     · exact hk.elim)
   rw [cells_mk]
   refine ctv hC f92 fi92 ⟨_, _, rfl, rfl⟩ ?_
   rw [vc126]; dsimp -eta -iota -proj only [Z2, Zz]
   exact ⟨c, rfl, .mk op sub t v args, by rw [cells_mk]; rfl, hs, hf, rfl, rfl⟩
theorem ct208_of {n : Nat} (h63 : P63 gl n) (l : List EX) (c : Int) (hs : sizeL l < n) (hl : l.length ≤ 1353245080300) (hf : fitsL l) :
   Ct prog gl 139 [.d (.sl (cellsL l)), .fn 92 [.ptr [.v (.int .i64 c)]]] (fun res fin => fin = [] ∧ ∃ r : Int, res = [.d (.v (.int .i64 r))] ∧ decide (r ≥ 0) = (!mayL c l)) := by
 have hC : CallsOk prog gl (C_f208 n) := addC_ok C_4e_ok (fun a K hk => by
   unfold c_126 at hk
   split at hk
   · obtain ⟨e, rfl, h1, h2, h3⟩ := hk
     exact (ct126_of h63 e _ h1 h2).gives h3
   · exact hk.elim)
 refine ct_of_vc E_ok hC ioK_no it_ok mixed (fn := f139) (body := f139.body.getD .skip) (by kernel_rfl) (by kernel_rfl) (by kernel_rfl) (fi := fx_208 c l) (by kernel_rfl) (by kernel_rfl) (by
   cases h : mayL c l
   · exact ⟨_, _, rfl, 0, rfl, rfl⟩
   · exact ⟨_, _, rfl, -1, rfl, rfl⟩) ?_
 rw [vc208]; dsimp -eta -iota -proj only [Zby, Zbt, Zet, Zx, Zbz, Zv, Zk, Z1, Zep, Z4, Zdq, Zfq]
 refine ⟨_, rfl, (0 : Nat), ⟨rfl, l.length, ⟨Nat.zero_le _, rfl⟩, by simp⟩, fun m (x : Nat) hx => ⟨fun hi => ?_, fun hi => ?_⟩⟩
 · have hi : x < l.length := by simpa [cellsL_len] using hi
   obtain ⟨op1, sub1, t1, v1, a1, e1, g1⟩ := arg_get hi
   have hm := hx.1.2
   have hsz := size_mem (List.getElem_mem hi)
   refine ⟨cellsL l, rfl, ⟨by omega, by rw [cellsL_len]; omega⟩, _, g1, rfl, op1, sub1, t1.k, t1.sc, v1.t.k, v1.t.sc, v1.nul, v1.n, v1.s, cellsL a1, rfl, l[x], by rw [e1, cells_mk]; rfl, by omega, fitsL_mem hf (List.getElem_mem hi), fun hb => ?_, fun hb => ?_⟩
   · refine ⟨rfl, (x : Int), rfl, ?_⟩
     rw [decide_eq_true (by omega), mayL_any]
     exact (List.any_eq_true.2 ⟨l[x], List.getElem_mem hi, hb⟩).symm
   · exact ⟨l.length - (x + 1), x + 1, by omega, by rw [wrap_next (by omega)], ⟨hi, rfl⟩, any_take (p := fun e => !mayE c e) hi hx.2 hb⟩
 · have hi : ¬ x < l.length := by simpa [cellsL_len] using hi
   have h := hx.2
   rw [List.take_of_length_le (by omega)] at h
   refine ⟨rfl, -1, rfl, ?_⟩
   rw [mayL_any, any_none h]; rfl
theorem ct125_of {n : Nat} (h63 : P63 gl n) (l : List EX) (c : Int) (hs : sizeL l < n) (hl : l.length ≤ 1353245080300) (hf : fitsL l) :
   Ct prog gl 91 [.d (.sl (cellsL l)), .fn 92 [.ptr [.v (.int .i64 c)]]] (gives [.d (.v (.bool (!mayL c l)))]) := by
 have hC : CallsOk prog gl (C_f125 n) := addC_ok C_4e_ok (fun a K hk => by
   unfold c_208 at hk
   split at hk
   · obtain ⟨l, rfl, h1, h2, h3, h4⟩ := hk
     exact (ct208_of h63 l _ h1 h2 h3).mono fun res fin ⟨e1, r, e2, e3⟩ => by subst e1; subst e2; exact h4 r e3
   · exact hk.elim)
 refine ctv hC f91 fi91 ⟨_, _, rfl, rfl⟩ ?_
 rw [vc125]
 exact ⟨l, rfl, hs, hl, hf, fun r hr => ⟨by rw [hr], rfl⟩⟩
theorem ct63_of {n : Nat} (h63 : P63 gl n) : ∀ (e : EX) (c : Int), size e < n + 1 → fits e → Ct prog gl 48 [.agg (cells e), .d (.v (.int .i64 c))] (gives [.d (.v (.bool (mayE c e)))])
 | .mk op sub t v args, c, hs, hf => by
   have hC : CallsOk prog gl (C_f63 n) := addC_ok C_4e_ok (fun a K hk => by
     unfold c_125 at hk
     split at hk
     · obtain ⟨l, rfl, h1, h2, h3, h4⟩ := hk
       exact (ct125_of h63 l _ h1 h2 h3).gives h4
     · exact hk.elim)
   rw [cells_mk]
   refine ct_of_vc E_b_ok hC ioK_no it_b mixed (fn := f48) (body := f48.body.getD .skip) (by kernel_rfl) (by kernel_rfl) (by kernel_rfl) (fi := fi48) (by kernel_rfl) (by kernel_rfl) ⟨_, _, rfl, rfl⟩ ?_
   rw [vc63]; dsimp -eta -iota -proj only [Zby, Zbt, Zb3, Zcr, Zp]
   obtain ⟨_, hl, hfl⟩ := fits_mk hf
   simp only [size] at hs
   have hs' : sizeL args < n := by omega
   refine ⟨cellsL args, rfl, ?_⟩
   have two : (2 : Int) ≠ 0 := by decide
   have leaf : ∀ b : Bool, mayE c (.mk op sub t v args) = b → gives [.d (.v (.bool (mayE c (.mk op sub t v args))))] [R.d (D.v (Value.bool b))] [] := fun b h => by rw [h]; exact ⟨rfl, rfl⟩
   repeat' first | (refine And.intro (fun h => ?_) (fun h => ?_)) | (refine And.intro two ?_) | fail
   all_goals first
     | (exfalso; rename_i h; simp only [cond_false] at h; cases h; done)
     | (refine ⟨args, rfl, hs', hl, hfl, leaf _ ?_⟩; simp only [mayE, mayHd, tyZ, valZ, *, cond_true, cond_false, Bool.not_not, Bool.true_and, Bool.or_true, Bool.true_or, Bool.or_false, Bool.false_or])
     | (refine leaf _ ?_; simp only [mayE, mayHd, tyZ, valZ, *, cond_true, cond_false, Bool.not_true, Bool.false_and, Bool.or_true, Bool.true_or, Bool.or_false, Bool.false_or])
theorem ct63 : ∀ n : Nat, P63 gl n
 | 0 => fun e c h => absurd h (Nat.not_lt_zero _)
 | n + 1 => fun e c h hf => ct63_of (ct63 n) e c h hf
end Go.Proofs.Tryz
namespace Go.Proofs.Tryz
open Go Go.Dm Go.Ex
set_option maxRecDepth 100000
variable {gl : Nat → Option Obj}
def cstep (a : Ty × Bool) (u : Ty) : Ty × Bool :=
 bif u.k == a.1.k && (u.sc == a.1.sc && true) then a
 else bif (bif s130_0 u.k u.sc then s130_0 a.1.k a.1.sc else false) then (⟨3, if u.sc > a.1.sc then u.sc else a.1.sc⟩, a.2)
 else (a.1, false)
def cfold (a : Ty) (r : List Ty) : Ty × Bool := r.foldl cstep (a, true)
def st_131 (a : Ty) (r : List Ty) (x : Nat) : St := { tm := [(2, .ref 2 0), (3, .d (.v (.bool false))), (4, .ref 4 0), (5, .d (.v (.bool (cfold a (r.take x)).2))), (12, .d (.sl (r.map Ty.cs))), (13, .d (.v (.int .i64 ((r.map Ty.cs).length : Int)))), (14, .d (.v (.int .i64 (x : Int))))], hp := [(2, .box [.d (.v (.int .i64 0)), .d (.v (.int .i64 0))]), (4, .box [.d (.v (.int .i64 (cfold a (r.take x)).1.k)), .d (.v (.int .i64 (cfold a (r.take x)).1.sc))])], kn := [], gd := [] }
def inv_m {α : Type} (l : List α) (m : Nat) (x : Nat) : Prop := x ≤ l.length ∧ m = l.length - x
def fx_131 (a : Ty) (r : List Ty) : Fi := { fi97 with lx := [(4, { X := Nat, sh := st_131 a r, P := fun _ => inv_m r })] }
def Zeh (a0 : Ty) (a1 : List Ty) (k : (List (List D)) → Prop) : Prop := Zbt fun es => D.sl (a0.cs :: List.map Ty.cs a1) = D.sl es ∧ k es
def Zey (a0 : Int) (a1 : List (List D)) (k : (List D) → Prop) : Prop := (0 ≤ a0 ∧ a0 < (↑a1.length : Int)) ∧ ∃ (cells : List D), a1[Int.toNat a0]? = some cells ∧ k cells
def Zft (a0 : List D) (k : Int → Int → Prop) : Prop := a0.length = 2 ∧ Zbc a0 fun n n_1 => k n n_1
def Zce (a0 : List (List D)) (k : Int → Int → Prop) : Prop := Zey (0 : Int) a0 fun cells => Zft cells fun n n_1 => k n n_1
def Zcy (a0 : Ty) (a1 : List Ty) (k : Int → Int → Prop) : Prop := Zeh a0 a1 fun es => Zce es fun n n_1 => k n n_1
def Zee (a0 : List (List D)) (a1 : Nat) : Prop := ∀ (c : List D), c ∈ a0 → c.length = a1
def Ze7 (a0 : List (List D)) (a1 : Nat) (k : Prop) : Prop := (Zee a0 a1) ∧ k
def Zbl (a0 : Ty) (a1 : Nat) (a2 : List Ty) : St := { tm := [(2, .ref 2 0), (3, .d (.v (.bool false))), (4, .ref 4 0), (5, .d (.v (.bool (cfold a0 (List.take a1 a2)).2))), (12, .d (.sl (List.map Ty.cs a2))), (13, .i (↑(List.map Ty.cs a2).length : Int)), (14, .i (↑a1 : Int))], hp := [(2, .box [.i 0, .i 0]), (4, .box [.d (.v (.int .i64 (cfold a0 (List.take a1 a2)).1.1)), .d (.v (.int .i64 (cfold a0 (List.take a1 a2)).1.2))])], kn := [], gd := [] : St }
theorem vc131 (a : Ty) (r : List Ty) (Q : KT) : vc E_0 C_4e noI (fx_131 a r) (f97.body.getD .skip) f97.results.toList [.d (.sl ((a :: r).map Ty.cs))] Q = ( Zcy a r fun n n_1 => Zeh a r fun es => ∃ (l h : Nat), V.i 1 = V.i (↑l : Int) ∧ h = es.length ∧ l ≤ h ∧ h ≤ es.length ∧ Ze7 es (2 : Nat) (Zbt fun es_1 => D.sl (List.drop l (List.take h es)) = D.sl es_1 ∧ ∃ (x0 : Nat), ({ tm := [(2, .ref 2 0), (3, .d (.v (.bool false))), (4, .ref 4 0), (5, .d (.v (.bool true))), (12, .d (.sl (List.drop l (List.take h es)))), (13, .i (↑es_1.length : Int)), (14, .i 0)], hp := [(2, .box [.i 0, .i 0]), (4, .box [.i n, .i n_1])], kn := [], gd := [] : St } = (Zbl a x0 r) ∧ ∃ (n : Nat), inv_m r n x0) ∧ ∀ (n : Nat) (x : Nat), inv_m r n x → (Zcl x r fun n_2 n_3 => ((n_2 == (cfold a (List.take x r)).1.1 && (n_3 == (cfold a (List.take x r)).1.2 && true)) = true → Zdq n fun m x' => { tm := [(2, .ref 2 0), (3, .d (.v (.bool false))), (4, .ref 4 0), (5, .d (.v (.bool (cfold a (List.take x r)).2))), (12, .d (.sl (List.map Ty.cs r))), (13, .i (↑(List.map Ty.cs r).length : Int)), (14, .i (IntKind.i64.wrap ((↑x : Int) + 1)))], hp := [(2, .box [.i 0, .i 0]), (4, .box [.d (.v (.int .i64 (cfold a (List.take x r)).1.1)), .d (.v (.int .i64 (cfold a (List.take x r)).1.2))])], kn := [], gd := [] : St } = (Zbl a x' r) ∧ inv_m r m x') ∧ ((n_2 == (cfold a (List.take x r)).1.1 && (n_3 == (cfold a (List.take x r)).1.2 && true)) = false → ((bif s130_0 n_2 n_3 then s130_0 (cfold a (List.take x r)).1.1 (cfold a (List.take x r)).1.2 else false) = true → Zdq n fun m x' => { tm := [(2, .ref 2 0), (3, .d (.v (.bool false))), (4, .ref 4 0), (5, .d (.v (.bool (cfold a (List.take x r)).2))), (12, .d (.sl (List.map Ty.cs r))), (13, .i (↑(List.map Ty.cs r).length : Int)), (14, .i (IntKind.i64.wrap ((↑x : Int) + 1)))], hp := [(2, .box [.i 0, .i 0]), (4, .box [.i 3, .i (if n_3 > (cfold a (List.take x r)).1.2 then n_3 else (cfold a (List.take x r)).1.2)])], kn := [], gd := [] : St } = (Zbl a x' r) ∧ inv_m r m x') ∧ ((bif s130_0 n_2 n_3 then s130_0 (cfold a (List.take x r)).1.1 (cfold a (List.take x r)).1.2 else false) = false → Zdq n fun m x' => { tm := [(2, .ref 2 0), (3, .d (.v (.bool false))), (4, .ref 4 0), (5, .d (.v (.bool false))), (12, .d (.sl (List.map Ty.cs r))), (13, .i (↑(List.map Ty.cs r).length : Int)), (14, .i (IntKind.i64.wrap ((↑x : Int) + 1)))], hp := [(2, .box [.i 0, .i 0]), (4, .box [.d (.v (.int .i64 (cfold a (List.take x r)).1.1)), .d (.v (.int .i64 (cfold a (List.take x r)).1.2))])], kn := [], gd := [] : St } = (Zbl a x' r) ∧ inv_m r m x'))) ∧ (decide ((↑x : Int) < (↑(List.map Ty.cs r).length : Int)) = false → Q [.agg [.v (.int .i64 (cfold a (List.take x r)).1.1), .v (.int .i64 (cfold a (List.take x r)).1.2)], .d (.v (.bool (cfold a (List.take x r)).2))] []))) := by kernel_rfl
def oddsT (l : List Ty) (j : Nat) : List Ty := (List.range j).map fun k => l.getD (2 * k + 1) ⟨0, 0⟩
def resultsE (op : Int) (l : List Ty) : List Ty := if op = 15 then l else oddsT l (l.length / 2) ++ [l.getD (l.length - 1) ⟨0, 0⟩]
def st_132 (op sub : Int) (t : Ty) (v : Go.Ex.AV) (args : List EX) (l : List Ty) (x : Nat) : St := { tm := [(1, .d (.sl (l.map Ty.cs))), (4, .nil), (5, .own 50005), (6, .d (.v (.int .i64 (2 * (x : Int) + 1))))], hp := [(2, .box [.d (.v (.int .i64 op)), .d (.v (.int .i64 sub)), .d (.v (.int .i64 t.k)), .d (.v (.int .i64 t.sc)), .d (.v (.int .i64 v.t.k)), .d (.v (.int .i64 v.t.sc)), .d (.v (.bool v.nul)), .d (.v (.int .i64 v.n)), .d (.v (.string v.s)), .d (.sl (cellsL args))]), (50005, .lst 23 2 ((oddsT l x).map Ty.cs))], kn := [], gd := [] }
def inv_132 (l : List Ty) (m : Nat) (x : Nat) : Prop := x ≤ l.length / 2 ∧ m = l.length - x
def fx_132 (op sub : Int) (t : Ty) (v : Go.Ex.AV) (args : List EX) (l : List Ty) : Fi := { fi98 with cv := [(5, [⟨none, 5, 50005, 23, 2⟩])], lx := [(5, { X := Nat, sh := st_132 op sub t v args l, P := fun _ => inv_132 l })] }
def Zdo (a0 : List Ty) (a1 : Nat) (a2 a3 : Int) (a4 : Ty) (a5 : Go.Ex.AV) (a6 : List EX) : St := { tm := [(1, .d (.sl (List.map Ty.cs a0))), (4, .nil), (5, .own 50005), (6, .i ((2 : Int) * (↑a1 : Int) + 1))], hp := [(2, .box [.i a2, .i a3, .i a4.1, .i a4.2, .i a5.1.1, .i a5.1.2, .d (.v (.bool a5.2)), .i a5.3, .d (.v (.string a5.4)), .d (.sl (cellsL a6))]), (50005, .lst 23 2 (List.map Ty.cs (oddsT a0 a1)))], kn := [], gd := [] : St }
def Zf4 (a0 a1 : Int) : Prop := ∀ (c : List D), c ∈ [(Ze0 a0 a1)] → c.length = 2
def Zbv (a0 a1 : List (List D)) (a2 : Nat) (k : (List D) → Prop) : Prop := ((0 : Int) ≤ IntKind.i64.wrap ((↑a0.length : Int) - 1) ∧ IntKind.i64.wrap ((↑a0.length : Int) - 1) < (↑a1.length : Int)) ∧ ∃ (cells : List D), a1[(IntKind.i64.wrap ((↑a0.length : Int) - 1)).toNat]? = some cells ∧ cells.length = a2 ∧ k cells
def Zb0 (a0 : List Ty) (k : Int → Int → Prop) : Prop := Zbh a0 fun es => Zbh a0 fun es_1 => Zbv es es_1 (2 : Nat) fun cells => Zbc cells fun n n_1 => k n n_1
theorem vc132 (op sub : Int) (t : Ty) (v : Go.Ex.AV) (args : List EX) (l : List Ty) (Q : KT) : vc E_0 C_4e noI (fx_132 op sub t v args l) (f98.body.getD .skip) f98.results.toList [.agg (encX op sub t v (cellsL args)), .d (.sl (l.map Ty.cs))] Q = ( ((op == 15) = true → Q [.d (.sl (List.map Ty.cs l))] []) ∧ ((op == 15) = false → ∃ (x0 : Nat), ({ tm := [(1, .d (.sl (List.map Ty.cs l))), (4, .nil), (5, .own 50005), (6, .i 1)], hp := [(2, .box [.i op, .i sub, .i t.1, .i t.2, .i v.1.1, .i v.1.2, .d (.v (.bool v.2)), .i v.3, .d (.v (.string v.4)), .d (.sl (cellsL args))]), (50005, .lst 23 2 [])], kn := [], gd := [] : St } = (Zdo l x0 op sub t v args) ∧ ∃ (n : Nat), inv_132 l n x0) ∧ ∀ (n : Nat) (x : Nat), inv_132 l n x → Zbh l fun es => (decide ((2 : Int) * (↑x : Int) + 1 < (↑es.length : Int)) = true → Zbh l fun es => ((0 : Int) ≤ 2 * (↑x : Int) + 1 ∧ (2 : Int) * (↑x : Int) + 1 < (↑es.length : Int)) ∧ ∃ (cells : List D), es[((2 : Int) * (↑x : Int) + 1).toNat]? = some cells ∧ Zft cells fun n_1 n_2 => (Zf4 n_1 n_2) ∧ (23 : Nat) = (23 : Nat) ∧ (2 : Nat) = (2 : Nat) ∧ (↑(List.map Ty.cs (oddsT l x)).length.succ : Int) * (↑(16 : Nat) : Int) ≤ 140737488355328 ∧ Zdq n fun m x' => { tm := [(1, .d (.sl (List.map Ty.cs l))), (4, .nil), (5, .own 50005), (6, .i (IntKind.i64.wrap ((2 : Int) * (↑x : Int) + 1 + (2 : Int))))], hp := [(2, .box [.i op, .i sub, .i t.1, .i t.2, .i v.1.1, .i v.1.2, .d (.v (.bool v.2)), .i v.3, .d (.v (.string v.4)), .d (.sl (cellsL args))]), (50005, .lst 23 2 (List.map Ty.cs (oddsT l x) ++ [(Ze0 n_1 n_2)]))], kn := [], gd := [] : St } = (Zdo l x' op sub t v args) ∧ inv_132 l m x') ∧ (decide ((2 : Int) * (↑x : Int) + 1 < (↑es.length : Int)) = false → Zb0 l fun n n_1 => (Zf4 n n_1) ∧ (23 : Nat) = (23 : Nat) ∧ (2 : Nat) = (2 : Nat) ∧ (↑(List.map Ty.cs (oddsT l x)).length.succ : Int) * (↑(16 : Nat) : Int) ≤ 140737488355328 ∧ Q [.d (.sl (List.map Ty.cs (oddsT l x) ++ [(Ze0 n n_1)]))] []))) := by kernel_rfl
def arithE (op : Int) (a b : Ty) (ints : Bool) : Ty × Bool :=
 bif ints then (⟨2, 0⟩, true)
 else bif (bif op == 6 then true else op == 7) then (⟨0, 0⟩, false)
 else bif op == 8 then (a, s130_0 a.k a.sc)
 else bif (bif (bif s130_0 a.k a.sc then s130_0 b.k b.sc else false) then op == 5 else false) then (⟨3, IntKind.i64.wrap (a.sc + b.sc)⟩, decide (IntKind.i64.wrap (a.sc + b.sc) ≤ 18))
 else bif (bif s130_0 a.k a.sc then s130_0 b.k b.sc else false) then (⟨3, if b.sc > a.sc then b.sc else a.sc⟩, true)
 else bif op == 5 then (⟨0, 0⟩, false)
 else bif (bif (bif op == 4 then a.k == 5 && (a.sc == 0 && true) else false) then b.k == 5 && (b.sc == 0 && true) else false) then (⟨2, 0⟩, true)
 else (⟨5, 0⟩, bif (bif a.k == 5 && (a.sc == 0 && true) then b.k == 2 && (b.sc == 0 && true) else false) then true else bif (bif op == 3 then a.k == 2 && (a.sc == 0 && true) else false) then b.k == 5 && (b.sc == 0 && true) else false)
def Zck (a0 : List Ty) (k : Int → Int → Int → Int → Prop) : Prop := Zbh a0 fun es => Zce es fun n n_1 => Zb0 a0 fun n_2 n_3 => k n n_1 n_2 n_3
def Zd2 (a0 : Int) : List R := [.agg (Zda a0), .d (.v (.bool true))]
def Zd6 (a0 : KT) (a1 : Int) : Prop := a0 (Zd2 a1) []
def Zev : List R := [.agg (Zda (0 : Int)), .d (.v (.bool false))]
def Ze8 (a0 : KT) : Prop := a0 Zev []
def Zbg (a0 : Bool) (a1 : KT) (a2 a3 a4 a5 a6 : Int) : Prop := (a0 = true → Zd6 a1 (2 : Int)) ∧ (a0 = false → ((bif a2 == 6 then true else a2 == 7) = true → Ze8 a1) ∧ ((bif a2 == 6 then true else a2 == 7) = false → ((a2 == 8) = true → a1 [.agg (Ze0 a3 a4), .d (.v (.bool (s130_0 a3 a4)))] []) ∧ ((a2 == 8) = false → ((bif bif s130_0 a3 a4 then s130_0 a5 a6 else false then a2 == 5 else false) = true → a1 [.agg [.i 3, .i (IntKind.i64.wrap (a4 + a6))], .d (.v (.bool (decide (IntKind.i64.wrap (a4 + a6) ≤ (18 : Int)))))] []) ∧ ((bif bif s130_0 a3 a4 then s130_0 a5 a6 else false then a2 == 5 else false) = false → ((bif s130_0 a3 a4 then s130_0 a5 a6 else false) = true → a1 [.agg [.i 3, .i (if a6 > a4 then a6 else a4)], .d (.v (.bool true))] []) ∧ ((bif s130_0 a3 a4 then s130_0 a5 a6 else false) = false → ((a2 == 5) = true → Ze8 a1) ∧ ((a2 == 5) = false → ((bif bif a2 == 4 then a3 == 5 && (a4 == 0 && true) else false then a5 == 5 && (a6 == 0 && true) else false) = true → Zd6 a1 (2 : Int)) ∧ ((bif bif a2 == 4 then a3 == 5 && (a4 == 0 && true) else false then a5 == 5 && (a6 == 0 && true) else false) = false → a1 [.agg (Zda (5 : Int)), .d (.v (.bool (bif bif a3 == 5 && (a4 == 0 && true) then a5 == 2 && (a6 == 0 && true) else false then true else bif bif a2 == 3 then a3 == 2 && (a4 == 0 && true) else false then a5 == 5 && (a6 == 0 && true) else false)))] [])))))))
theorem vc133 (op : Int) (l : List Ty) (b : Bool) (Q : KT) : vc E_0 C_4e noI fi99 (f99.body.getD .skip) f99.results.toList [.d (.v (.int .i64 op)), .d (.sl (l.map Ty.cs)), .d (.v (.bool b))] Q = ( Zck l fun n n_1 n_2 n_3 => (Zbg b Q op n n_1 n_2 n_3) ∧ Zbg b Q op n n_1 n_2 n_3) := by kernel_rfl
def E_7 : Env := { E_0 with bw := [43] }
theorem vc127 (l : List (List D)) (k : Int) (Q : KT) : vc E_7 C_4e noI fi93 (f93.body.getD .skip) f93.results.toList [.d (.v (.int .i64 k)), .ptr [.sl l]] Q = ( Zbt fun es => some [D.sl l] = some [D.sl es] ∧ Zfe es fun l => Q [.d (.v (.bool !l.any (offK k)))] []) := by kernel_rfl
theorem ty_get {l : List Ty} {i : Nat} (hi : i < l.length) : (l.map Ty.cs)[i]? = some (Ty.cs l[i]) := by simp [hi]
theorem ty_all (l : List Ty) : ∀ c ∈ l.map Ty.cs, c.length = 2 := by
 intro c hc
 obtain ⟨t, _, rfl⟩ := List.mem_map.1 hc; rfl
theorem cfold_next {a : Ty} {r : List Ty} {x : Nat} (hi : x < r.length) : cfold a (r.take (x + 1)) = cstep (cfold a (r.take x)) r[x] := by
 unfold cfold
 rw [List.take_add_one, List.getElem?_eq_getElem hi, List.foldl_append]
 rfl
theorem ct131 (a : Ty) (r : List Ty) (hl : r.length < 4611686018427387904) : Ct prog gl 97 [.d (.sl ((a :: r).map Ty.cs))] (gives [.agg (cfold a r).1.cs, .d (.v (.bool (cfold a r).2))]) := by
 refine ct_of_vc E_ok C_4e_ok ioK_no it_ok mixed (fn := f97) (body := f97.body.getD .skip) (by kernel_rfl) (by kernel_rfl) (by kernel_rfl) (fi := fx_131 a r) (by kernel_rfl) (by kernel_rfl) ⟨_, _, rfl, rfl⟩ ?_
 rw [vc131]; dsimp -eta -iota -proj only [Zcy, Zeh, Zbt, Zce, Zey, Zft, Zbc, Ze0, Ze7, Zee, Zbl, Zcl, Zb5, Zbh, Zbp, Zba, Zdq]
 have hd : List.drop 1 (List.take (Ty.cs a :: List.map Ty.cs r).length (Ty.cs a :: List.map Ty.cs r)) = r.map Ty.cs := by rw [List.take_length]; rfl
 refine ⟨_, rfl, ⟨by decide, by rw [List.length_cons]; omega⟩, Ty.cs a, rfl, rfl, a.k, a.sc, rfl, _, rfl, 1, _, rfl, rfl, by simp, Nat.le_refl _, ty_all (a :: r), r.map Ty.cs, by rw [hd], (0 : Nat), ⟨by rw [hd]; rfl, r.length, Nat.zero_le _, rfl⟩, fun m (x : Nat) hx => ⟨fun hi => ?_, fun hi => ?_⟩⟩
 · have hi : x < r.length := by simpa using hi
   have hg := ty_get hi
   have hm := hx.2
   have e0 := cfold_next (a := a) hi
   unfold cstep at e0
   refine ⟨_, rfl, ⟨by omega, by simpa using hi⟩, _, hg, rfl, r[x].k, r[x].sc, rfl, fun h => ?_, fun h => ⟨fun h2 => ?_, fun h2 => ?_⟩⟩
   · have h' : (r[x].k == (cfold a (r.take x)).1.k && (r[x].sc == (cfold a (r.take x)).1.sc && true)) = true := h
     rw [h', cond_true] at e0
     exact ⟨r.length - (x + 1), x + 1, by omega, by rw [e0, wrap_next (by omega)], hi, rfl⟩
   · have h' : (r[x].k == (cfold a (r.take x)).1.k && (r[x].sc == (cfold a (r.take x)).1.sc && true)) = false := h
     have h2' : (bif s130_0 r[x].k r[x].sc then s130_0 (cfold a (r.take x)).1.k (cfold a (r.take x)).1.sc else false) = true := h2
     rw [h', cond_false, h2', cond_true] at e0
     exact ⟨r.length - (x + 1), x + 1, by omega, by rw [e0, wrap_next (by omega)], hi, rfl⟩
   · have h' : (r[x].k == (cfold a (r.take x)).1.k && (r[x].sc == (cfold a (r.take x)).1.sc && true)) = false := h
     have h2' : (bif s130_0 r[x].k r[x].sc then s130_0 (cfold a (r.take x)).1.k (cfold a (r.take x)).1.sc else false) = false := h2
     rw [h', cond_false, h2', cond_false] at e0
     exact ⟨r.length - (x + 1), x + 1, by omega, by rw [e0, wrap_next (by omega)], hi, rfl⟩
 · have hi : ¬ x < r.length := by simpa using hi
   rw [List.take_of_length_le (by omega)]
   exact ⟨rfl, rfl⟩
theorem odds_next {l : List Ty} {x : Nat} (hi : 2 * x + 1 < l.length) : (oddsT l x).map Ty.cs ++ [Ty.cs l[2 * x + 1]] = (oddsT l (x + 1)).map Ty.cs := by
 unfold oddsT
 rw [List.range_succ, List.map_append, List.map_append]
 simp only [List.map_cons, List.map_nil, List.getD_eq_getElem?_getD, List.getElem?_eq_getElem hi, Option.getD_some]
theorem ct132 (op sub : Int) (t : Ty) (v : Go.Ex.AV) (args : List EX) (l : List Ty) (hl : l.length ≤ 1353245080300) (hn : l ≠ []) : Ct prog gl 98 [.agg (encX op sub t v (cellsL args)), .d (.sl (l.map Ty.cs))] (gives [.d (.sl ((resultsE op l).map Ty.cs))]) := by
 refine ct_of_vc E_ok C_4e_ok ioK_no it_ok mixed (fn := f98) (body := f98.body.getD .skip) (by kernel_rfl) (by kernel_rfl) (by kernel_rfl) (fi := fx_132 op sub t v args l) (by kernel_rfl) (by kernel_rfl) ⟨_, _, rfl, rfl⟩ ?_
 rw [vc132]; dsimp -eta -iota -proj only [Zdo, Zbh, Zbt, Zft, Zbc, Ze0, Zf4, Zdq, Zb0, Zbv]
 have hpos : 0 < l.length := List.length_pos_iff.2 hn
 refine ⟨fun ho => ?_, fun ho => ⟨(0 : Nat), ⟨rfl, l.length, Nat.zero_le _, rfl⟩, fun m (x : Nat) hx => ⟨_, rfl, fun hi => ?_, fun hi => ?_⟩⟩⟩
 · have ho : op = 15 := by simpa using ho
   unfold resultsE
   rw [if_pos ho]
   exact ⟨rfl, rfl⟩
 · have hi : 2 * x + 1 < l.length := by
     have := of_decide_eq_true hi
     rw [List.length_map] at this
     omega
   have hg := ty_get hi
   have hi' : (2 * (x : Int) + 1).toNat = 2 * x + 1 := by omega
   have hm := hx.2
   refine ⟨_, rfl, ⟨by omega, by rw [List.length_map]; omega⟩, _, (by rw [hi']; exact hg), rfl, l[2 * x + 1].k, l[2 * x + 1].sc, rfl, by simp, rfl, rfl, ?_, l.length - (x + 1), x + 1, by omega, ?_, by show x + 1 ≤ l.length / 2; omega, rfl⟩
   · rw [List.length_map]; simp only [oddsT, List.length_map, List.length_range]; omega
   · have w : IntKind.i64.wrap (2 * ((x : Nat) : Int) + 1 + 2) = 2 * ((x + 1 : Nat) : Int) + 1 := by rw [wrap_i64_of (by omega) (by omega)]; omega
     rw [w, ← odds_next hi]
 · have hi : ¬ 2 * x + 1 < l.length := by
     have := of_decide_eq_false hi
     rw [List.length_map] at this
     omega
   have ho : op ≠ 15 := by simpa using ho
   have hx1 : x = l.length / 2 := by have := hx.1; omega
   have hlt : l.length - 1 < l.length := by omega
   have hg := ty_get hlt
   have w : IntKind.i64.wrap (((List.map Ty.cs l).length : Int) - 1) = ((l.length - 1 : Nat) : Int) := by rw [List.length_map, wrap_i64_of (by omega) (by omega)]; omega
   refine ⟨_, rfl, _, rfl, ⟨by rw [w]; omega, by rw [w, List.length_map]; omega⟩, _, (by rw [w, Int.toNat_natCast]; exact hg), rfl, l[l.length - 1].k, l[l.length - 1].sc, rfl, by simp, rfl, rfl, ?_, ?_, rfl⟩
   · rw [List.length_map]; simp only [oddsT, List.length_map, List.length_range]; omega
   · unfold resultsE
     rw [if_neg ho, ← hx1, List.map_append]
     simp only [List.map_cons, List.map_nil, List.getD_eq_getElem?_getD, List.getElem?_eq_getElem hlt, Option.getD_some]
theorem ct133 (op : Int) (l : List Ty) (b : Bool) (x y : Ty) (hx : l[0]? = some x) (hy : l[l.length - 1]? = some y) (hl : l.length ≤ 1353245080300) : Ct prog gl 99 [.d (.v (.int .i64 op)), .d (.sl (l.map Ty.cs)), .d (.v (.bool b))] (gives [.agg (arithE op x y b).1.cs, .d (.v (.bool (arithE op x y b).2))]) := by
 refine ctv C_4e_ok f99 fi99 ⟨_, _, rfl, rfl⟩ ?_
 rw [vc133]; dsimp -eta -iota -proj only [Zck, Zbh, Zbt, Zce, Zey, Zft, Zbc, Ze0, Zb0, Zbv, Zbg, Zd6, Zd2, Zda, Ze8, Zev]
 have h0 := (List.getElem?_eq_some_iff.1 hx).1
 have w : IntKind.i64.wrap (((List.map Ty.cs l).length : Int) - 1) = ((l.length - 1 : Nat) : Int) := by rw [List.length_map, wrap_i64_of (by omega) (by omega)]; omega
 have g0 : (l.map Ty.cs)[Int.toNat 0]? = some (Ty.cs x) := by
   show (l.map Ty.cs)[0]? = _
   rw [List.getElem?_map, hx]; rfl
 have g1 : (l.map Ty.cs)[(IntKind.i64.wrap (((List.map Ty.cs l).length : Int) - 1)).toNat]? = some (Ty.cs y) := by
   rw [w, Int.toNat_natCast, List.getElem?_map, hy]; rfl
 have fin : ∀ (a a' : Int) (c : Bool), arithE op x y b = (⟨a, a'⟩, c) → gives [.agg (arithE op x y b).1.cs, .d (.v (.bool (arithE op x y b).2))] [R.agg [D.v (Value.int IntKind.i64 a), D.v (Value.int IntKind.i64 a')], R.d (D.v (Value.bool c))] [] := fun a a' c h => by rw [h]; exact ⟨rfl, rfl⟩
 refine ⟨_, rfl, ⟨by decide, by rw [List.length_map]; omega⟩, _, g0, rfl, x.k, x.sc, rfl, _, rfl, _, rfl, ⟨by rw [w]; omega, by rw [w, List.length_map]; omega⟩, _, g1, rfl, y.k, y.sc, rfl, ?_⟩
 repeat' first | (refine And.intro (fun h => ?_) (fun h => ?_)) | (refine And.intro ?_ (And.intro (fun h => ?_) (fun h => ?_))) | fail
 all_goals (refine fin _ _ _ ?_; clear fin; first | (simp only [arithE, *, cond_true, cond_false]; done) | (simp_all only [arithE, cond_true, cond_false]; done))
theorem ct127 (l : List Ty) (k : Int) (hl : l.length < 4611686018427387904) : Ct prog gl 93 [.d (.v (.int .i64 k)), .ptr [.sl (l.map Ty.cs)]] (gives [.d (.v (.bool (!l.any (offK k))))]) := by
 refine ct_of_vc (E := E_7) ⟨E_ok.te⟩ C_4e_ok ioK_no (fun _ _ _ h => h.elim) mixed (fn := f93) (body := f93.body.getD .skip) (by kernel_rfl) (by kernel_rfl) (by kernel_rfl) (fi := fi93) (by kernel_rfl) (by kernel_rfl) ⟨_, _, rfl, rfl⟩ ?_
 rw [vc127]; dsimp -eta -iota -proj only [Zbt, Zfe]
 exact ⟨_, rfl, l, rfl, hl, rfl, rfl⟩
end Go.Proofs.Tryz
