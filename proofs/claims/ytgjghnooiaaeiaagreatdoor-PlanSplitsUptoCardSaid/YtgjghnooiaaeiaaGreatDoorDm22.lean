/- A part of the proof: contracts of functions, by a verified generator of conditions; no condition of its own. -/
import Derived.Test.YtgjghnooiaaeiaaGreatDoorB6
import Derived.Test.YtgjghnooiaaeiaaGreatDoorDm21
namespace Go.Proofs.Tryz
open Go Go.Dm Go.Ex
set_option maxRecDepth 100000
variable {gl : Nat → Option Obj}
def c_127 (a : List R) (K : KT) : Prop := match a with
 | [.d (.v (.int .i64 k)), .ptr [.sl x]] => ∃ l : List Ty, x = l.map Ty.cs ∧ l.length < 4611686018427387904 ∧ K [.d (.v (.bool (!l.any (offK k))))] []
 | _ => False
theorem c_127_ok (a : List R) (K : KT) (h : c_127 a K) : Ct prog gl 93 a K := by
 unfold c_127 at h
 split at h
 · obtain ⟨l, rfl, h1, h2⟩ := h
   exact (ct127 l _ h1).gives h2
 · exact h.elim
def c_131 (a : List R) (K : KT) : Prop := match a with
 | [.d (.sl x)] => ∃ (a : Ty) (r : List Ty), x = (a :: r).map Ty.cs ∧ r.length < 4611686018427387904 ∧ K [.agg (cfold a r).1.cs, .d (.v (.bool (cfold a r).2))] []
 | _ => False
theorem c_131_ok (a : List R) (K : KT) (h : c_131 a K) : Ct prog gl 97 a K := by
 unfold c_131 at h
 split at h
 · obtain ⟨a, r, rfl, h1, h2⟩ := h
   exact (ct131 a r h1).gives h2
 · exact h.elim
def c_132 (a : List R) (K : KT) : Prop := match a with
 | [.agg x, .d (.sl y)] => ∃ (op sub : Int) (t : Ty) (v : Go.Ex.AV) (args : List EX) (l : List Ty), x = encX op sub t v (cellsL args) ∧ y = l.map Ty.cs ∧ l.length ≤ 1353245080300 ∧ l ≠ [] ∧ K [.d (.sl ((resultsE op l).map Ty.cs))] []
 | _ => False
theorem c_132_ok (a : List R) (K : KT) (h : c_132 a K) : Ct prog gl 98 a K := by
 unfold c_132 at h
 split at h
 · obtain ⟨op, sub, t, v, args, l, rfl, rfl, h1, h2, h3⟩ := h
   exact (ct132 op sub t v args l h1 h2).gives h3
 · exact h.elim
def c_133 (a : List R) (K : KT) : Prop := match a with
 | [.d (.v (.int .i64 op)), .d (.sl y), .d (.v (.bool b))] => ∃ (l : List Ty) (u w : Ty), y = l.map Ty.cs ∧ l[0]? = some u ∧ l[l.length - 1]? = some w ∧ l.length ≤ 1353245080300 ∧ K [.agg (arithE op u w b).1.cs, .d (.v (.bool (arithE op u w b).2))] []
 | _ => False
theorem c_133_ok (a : List R) (K : KT) (h : c_133 a K) : Ct prog gl 99 a K := by
 unfold c_133 at h
 split at h
 · obtain ⟨l, u, w, rfl, h1, h2, h3, h4⟩ := h
   exact (ct133 _ l _ u w h1 h2 h3).gives h4
 · exact h.elim
def C_f7 : CallT := addC (addC (addC (addC C_4e 93 c_127) 97 c_131) 98 c_132) 99 c_133
def truthT (t : Ty) : Bool := t.k == (1 : Int) && (t.sc == (0 : Int) && true)
def okJ (l : List Ty) (j : Nat) : Bool := (List.range j).all fun k => truthT (l.getD (2 * k) ⟨0, 0⟩)
def typedN (cols : List Ty) (op sub : Int) (t : Ty) (v : Go.Ex.AV) (l : List Ty) : Ty × Bool :=
 if op = 1 then (cols.getD sub.toNat ⟨0, 0⟩, true)
 else if op = 2 then (v.t, true)
 else if op = 9 then (⟨1, 0⟩, s129_0 (l.getD 0 ⟨0, 0⟩).k (l.getD 0 ⟨0, 0⟩).sc (l.getD 1 ⟨0, 0⟩).k (l.getD 1 ⟨0, 0⟩).sc)
 else if op = 10 ∨ op = 11 ∨ op = 12 then (⟨1, 0⟩, !l.any (offK 1))
 else if op = 13 then (⟨1, 0⟩, true)
 else if op = 17 then (⟨4, 0⟩, !l.any (offK 4))
 else if op = 18 then (⟨2, 0⟩, !l.any (offK 4))
 else if op = 16 then (t, bif (bif (bif t.k == (l.getD 0 ⟨0, 0⟩).k then true else t.k == 4) then true else (l.getD 0 ⟨0, 0⟩).k == 4) then true else bif s130_0 (l.getD 0 ⟨0, 0⟩).k (l.getD 0 ⟨0, 0⟩).sc then s130_0 t.k t.sc else false)
 else if op = 14 ∨ op = 15 then
   match resultsE op l with
   | [] => (⟨0, 0⟩, false)
   | a :: r => ((cfold a r).1, (cfold a r).2 && (decide (op = 15) || okJ l (l.length / 2)))
 else arithE op (l.getD 0 ⟨0, 0⟩) (l.getD (l.length - 1) ⟨0, 0⟩) (!l.any (offK 2))
mutual
def typedE (cols : List Ty) : EX → Ty × Bool
 | .mk op sub t v args => match typedL cols args with
   | none => (⟨0, 0⟩, false)
   | some l => typedN cols op sub t v l
def typedL (cols : List Ty) : List EX → Option (List Ty)
 | [] => some []
 | e :: r => match typedE cols e, typedL cols r with
   | (t, true), some l => some (t :: l)
   | _, _ => none
end
def c_64 (n : Nat) (a : List R) (K : KT) : Prop := match a with
 | [.agg x, .d (.sl y)] => ∃ (e : EX) (cols : List Ty), x = cells e ∧ y = cols.map Ty.cs ∧ size e < n ∧ fits e ∧ mayE cols.length e = true ∧ cols.length ≤ 8796093022208 ∧
     (∀ (t : Ty) (ok : Bool), typedE cols e = (t, ok) → K [.agg t.cs, .d (.v (.bool ok))] [])
 | _ => False
def C_f64 (n : Nat) : CallT := addC C_f7 49 (c_64 n)
def E_8 : Env := { E_0 with bw := [93] }
structure TX where
 i : Nat
 l : List Ty
def st_64 (op sub : Int) (t : Ty) (v : Go.Ex.AV) (args : List EX) (cols : List Ty) (x : TX) : St := { tm := [(1, .d (.sl (cols.map Ty.cs))), (2, .ref 2 0), (4, .ref 4 0), (5, .d (.v (.bool false))), (6, .ref 6 0), (20, .d (.sl (cellsL args))), (21, .d (.v (.int .i64 ((cellsL args).length : Int)))), (22, .d (.v (.int .i64 (x.i : Int))))], hp := [(2, .box [.d (.v (.int .i64 op)), .d (.v (.int .i64 sub)), .d (.v (.int .i64 t.k)), .d (.v (.int .i64 t.sc)), .d (.v (.int .i64 v.t.k)), .d (.v (.int .i64 v.t.sc)), .d (.v (.bool v.nul)), .d (.v (.int .i64 v.n)), .d (.v (.string v.s)), .d (.sl (cellsL args))]), (4, .box [.d (.v (.int .i64 0)), .d (.v (.int .i64 0))]), (6, .box [.own 50006]), (50006, .lst 23 2 (x.l.map Ty.cs))], kn := [], gd := [] }
def inv_64 (cols : List Ty) (args : List EX) (m : Nat) (x : TX) : Prop := (x.i ≤ args.length ∧ m = args.length - x.i) ∧ typedL cols (args.take x.i) = some x.l ∧ x.l.length = x.i
structure TY where
 l : List Ty
 t : Ty
 ok : Bool
 j : Nat
def st_64b (op sub : Int) (t : Ty) (v : Go.Ex.AV) (args : List EX) (y : TY) : St := { tm := [(2, .ref 2 0), (4, .ref 4 0), (5, .d (.v (.bool false))), (6, .ref 6 0), (11, .ref 11 0), (13, .fn 93 [.ref 6 0]), (16, .ref 16 0), (17, .d (.v (.bool (bif y.ok then okJ y.l y.j else false)))), (18, .d (.v (.int .i64 (2 * (y.j : Int)))))], hp := [(2, .box [.d (.v (.int .i64 op)), .d (.v (.int .i64 sub)), .d (.v (.int .i64 t.k)), .d (.v (.int .i64 t.sc)), .d (.v (.int .i64 v.t.k)), .d (.v (.int .i64 v.t.sc)), .d (.v (.bool v.nul)), .d (.v (.int .i64 v.n)), .d (.v (.string v.s)), .d (.sl (cellsL args))]), (4, .box [.d (.v (.int .i64 0)), .d (.v (.int .i64 0))]), (6, .box [.own 50006]), (11, .box [.d (.v (.int .i64 1)), .d (.v (.int .i64 0))]), (12, .box [.d (.v (.int .i64 2)), .d (.v (.int .i64 0))]), (16, .box [.d (.v (.int .i64 y.t.k)), .d (.v (.int .i64 y.t.sc))]), (50006, .fro 2 (y.l.map Ty.cs))], kn := [], gd := [] }
def inv_64b (op : Int) (y0 : TY) (m : Nat) (y : TY) : Prop := y.l = y0.l ∧ y.t = y0.t ∧ y.ok = y0.ok ∧ y.j ≤ y.l.length / 2 ∧ m = y.l.length - y.j ∧ (op = 14 ∨ y.j = 0)
def fx_64 (op sub : Int) (t : Ty) (v : Go.Ex.AV) (args : List EX) (cols : List Ty) : Fi := { fi49 with cv := [(3, [⟨some 6, 0, 50006, 23, 2⟩])], lx := [(3, { X := TX, sh := st_64 op sub t v args cols, P := fun _ => inv_64 cols args }), (36, { X := TY, sh := st_64b op sub t v args, P := inv_64b op })] }
def Zct (a0 : List Ty) (a1 : List EX) (a2 : TX) (a3 a4 : Int) (a5 : Ty) (a6 : Go.Ex.AV) : St := { tm := [(1, .d (.sl (List.map Ty.cs a0))), (2, .ref 2 0), (4, .ref 4 0), (5, .d (.v (.bool false))), (6, .ref 6 0), (20, .d (.sl (cellsL a1))), (21, .i (↑(cellsL a1).length : Int)), (22, .i (↑a2.1 : Int))], hp := [(2, .box [.i a3, .i a4, .i a5.1, .i a5.2, .i a6.1.1, .i a6.1.2, .d (.v (.bool a6.2)), .i a6.3, .d (.v (.string a6.4)), .d (.sl (cellsL a1))]), (4, .box [.i 0, .i 0]), (6, .box [.own 50006]), (50006, .lst 23 2 (List.map Ty.cs a2.2))], kn := [], gd := [] : St }
def Zb7 (a0 : List EX) (a1 : TX) (a2 : List Ty) (a3 : Nat) (k : EX → (List Ty) → Prop) : Prop := Zby a0 fun es => (0 ≤ (↑a1.1 : Int) ∧ (↑a1.1 : Int) < (↑es.length : Int)) ∧ ∃ (cells : List D), es[(↑a1.1 : Int).toNat]? = some cells ∧ Zbo cells fun n_2 n_3 n_4 n_5 n_6 n_7 b n_8 b_1 es e => ∃ (cols_1 : List Ty), Z4 n_2 n_3 n_4 n_5 n_6 n_7 b n_8 b_1 es e (List.map Ty.cs a2 = List.map Ty.cs cols_1 ∧ size e < a3 ∧ fits e ∧ mayE (↑cols_1.length : Int) e = true ∧ k e cols_1)
def Zde (a0 : Ty) : List D := [.i a0.1, .i a0.2]
def Zfm (a0 : Ty) (a1 : TX) (k : Prop) : Prop := (∀ (c : List D), c ∈ [(Zde a0)] → c.length = 2) ∧ (23 : Nat) = (23 : Nat) ∧ (2 : Nat) = (2 : Nat) ∧ (↑(List.map Ty.cs a1.2).length.succ : Int) * (↑(16 : Nat) : Int) ≤ 140737488355328 ∧ k
def Zfn (a0 : Ty) (a1 : TX) (k : Nat → Prop) : Prop := Zfm a0 a1 (∃ (m : Nat), k m)
def Zfo (a0 : Ty) (a1 : TX) (k : Nat → TX → Prop) : Prop := Zfn a0 a1 fun m => ∃ (x' : TX), k m x'
def Zfp (a0 : Bool) (a1 : Ty) (a2 : TX) (k : Nat → TX → Prop) : Prop := (!a0) = false → Zfo a1 a2 fun m x' => k m x'
def Zfw (a0 : Bool) (a1 : Ty) (a2 : TX) (a3 : Nat) (k : Nat → TX → Prop) : Prop := Zfp a0 a1 a2 fun m x' => m < a3 ∧ k m x'
def Zc0 (a0 : List Ty) (a1 : Int) (k : Int → Int → Prop) : Prop := Zbh a0 fun es => (0 ≤ a1 ∧ a1 < (↑es.length : Int)) ∧ ∃ (cells : List D), es[a1.toNat]? = some cells ∧ Zft cells fun n n_2 => k n n_2
def Zd5 (a0 : Int) (a1 : List Ty) (a2 : Int) (a3 : KT) : Prop := (a0 == 1) = true → Zc0 a1 a2 fun n n_2 => a3 [.agg (Ze0 n n_2), .d (.v (.bool true))] []
def Zed (a0 : Int) (a1 : List Ty) (a2 : Int) (a3 : KT) (k : Prop) : Prop := (Zd5 a0 a1 a2 a3) ∧ k
def Zbw (a0 : Int) (a1 : TX) (k : Int → Int → Prop) : Prop := (0 ≤ a0 ∧ a0 < (↑(List.map Ty.cs a1.2).length : Int)) ∧ (2 : Nat) = (2 : Nat) ∧ ∃ (cells : List D), (List.map Ty.cs a1.2)[Int.toNat a0]? = some cells ∧ Zbc cells fun n n_2 => k n n_2
def Zcq (a0 a1 : Int) (a2 : TX) (k : Int → Int → Prop) : Prop := (a0 == a1) = true → Zbw (0 : Int) a2 fun n n_2 => k n n_2
def Zdj (a0 : Int) (a1 : TX) (k : Int → Int → Int → Int → Prop) : Prop := Zcq a0 (9 : Int) a1 fun n n_2 => Zbw (1 : Int) a1 fun n_3 n_4 => k n n_2 n_3 n_4
def Zbi (a0 a1 a2 : Int) (a3 : TX) (a4 : KT) (a5 a6 : Int) (k : Prop) : Prop := (a0 == a1) = false → ((a0 == a2) = true → ∃ (l : List Ty), List.map Ty.cs a3.2 = List.map Ty.cs l ∧ l.length < 4611686018427387904 ∧ a4 [.agg (Zda a5), .d (.v (.bool !l.any (offK a6)))] []) ∧ k
def Ze3 (a0 a1 : Int) (a2 : Ty) (a3 : Go.Ex.AV) (a4 : List EX) (a5 a6 : Int) (a7 : Ty) (a8 : AV) (a9 : List EX) (a10 : TX) (a11 : List Ty) (k : Prop) : Prop := (Zz a0 a1 a2 a3 a4) = (Zbb a5 a6 a7 a8 a9) ∧ List.map Ty.cs a10.2 = List.map Ty.cs a11 ∧ a11.length ≤ 1353245080300 ∧ k
def Zbd (a0 : TY) (a1 a2 : Int) (a3 : Ty) (a4 : Go.Ex.AV) (a5 : List EX) : St := { tm := [(2, .ref 2 0), (4, .ref 4 0), (5, .d (.v (.bool false))), (6, .ref 6 0), (11, .ref 11 0), (13, .fn (93 : Nat) [.ref 6 0]), (16, .ref 16 0), (17, .d (.v (.bool (bif a0.3 then okJ a0.1 a0.4 else false)))), (18, .i ((2 : Int) * (↑a0.4 : Int)))], hp := [(2, .box [.i a1, .i a2, .i a3.1, .i a3.2, .i a4.1.1, .i a4.1.2, .d (.v (.bool a4.2)), .i a4.3, .d (.v (.string a4.4)), .d (.sl (cellsL a5))]), (4, .box [.i 0, .i 0]), (6, .box [.own 50006]), (11, .box [.i 1, .i 0]), (12, .box [.i 2, .i 0]), (16, .box [.i a0.2.1, .i a0.2.2]), (50006, .fro 2 (List.map Ty.cs a0.1))], kn := [], gd := [] : St }
def Zs (a0 a1 : Int) (a2 : Ty) (a3 : Go.Ex.AV) (a4 : List EX) (a5 : TX) (a6 : KT) : Prop := ∃ (op_1 sub_1 : Int), ∃ (t_1 : Ty), ∃ (v_1 : AV), ∃ (args_1 : List EX), ∃ (l : List Ty), Ze3 a0 a1 a2 a3 a4 op_1 sub_1 t_1 v_1 args_1 a5 l (l ≠ [] ∧ ∃ (a : Ty), ∃ (r : List Ty), List.map Ty.cs (resultsE op_1 l) = a.cs :: List.map Ty.cs r ∧ r.length < 4611686018427387904 ∧ ∃ (x0 : TY), ({ tm := [(2, .ref 2 0), (4, .ref 4 0), (5, .d (.v (.bool false))), (6, .ref 6 0), (11, .ref 11 0), (13, .fn (93 : Nat) [.ref 6 0]), (16, .ref 16 0), (17, .d (.v (.bool (cfold a r).2))), (18, .i 0)], hp := [(2, .box [.i a0, .i a1, .i a2.1, .i a2.2, .i a3.1.1, .i a3.1.2, .d (.v (.bool a3.2)), .i a3.3, .d (.v (.string a3.4)), .d (.sl (cellsL a4))]), (4, .box [.i 0, .i 0]), (6, .box [.own 50006]), (11, .box [.i 1, .i 0]), (12, .box [.i 2, .i 0]), (16, .box [.d (.v (.int .i64 (cfold a r).1.1)), .d (.v (.int .i64 (cfold a r).1.2))]), (50006, .fro 2 (List.map Ty.cs a5.2))], kn := [], gd := [] : St } = (Zbd x0 a0 a1 a2 a3 a4) ∧ ∃ (n : Nat), inv_64b a0 x0 n x0) ∧ ∀ (n : Nat) (x : TY), inv_64b a0 x0 n x → ((bif a0 == 14 then decide (IntKind.i64.wrap ((2 : Int) * (↑x.4 : Int) + 1) < (↑(List.map Ty.cs x.1).length : Int)) else false) = true → ((bif x.3 then okJ x.1 x.4 else false) = true → ((0 : Int) ≤ 2 * (↑x.4 : Int) ∧ (2 : Int) * (↑x.4 : Int) < (↑(List.map Ty.cs x.1).length : Int)) ∧ (2 : Nat) = (2 : Nat) ∧ ∃ (cells : List D), (List.map Ty.cs x.1)[((2 : Int) * (↑x.4 : Int)).toNat]? = some cells ∧ Zbc cells fun n_2 n_3 => ∃ (m : Nat), ∃ (x' : TY), m < n ∧ { tm := [(2, .ref 2 0), (4, .ref 4 0), (5, .d (.v (.bool false))), (6, .ref 6 0), (11, .ref 11 0), (13, .fn (93 : Nat) [.ref 6 0]), (16, .ref 16 0), (17, .d (.v (.bool (n_2 == 1 && (n_3 == 0 && true))))), (18, .i (IntKind.i64.wrap ((2 : Int) * (↑x.4 : Int) + 2)))], hp := [(2, .box [.i a0, .i a1, .i a2.1, .i a2.2, .i a3.1.1, .i a3.1.2, .d (.v (.bool a3.2)), .i a3.3, .d (.v (.string a3.4)), .d (.sl (cellsL a4))]), (4, .box [.i 0, .i 0]), (6, .box [.own 50006]), (11, .box [.i 1, .i 0]), (12, .box [.i 2, .i 0]), (16, .box [.i x.2.1, .i x.2.2]), (50006, .fro 2 (List.map Ty.cs x.1))], kn := [], gd := [] : St } = (Zbd x' a0 a1 a2 a3 a4) ∧ inv_64b a0 x0 m x') ∧ ((bif x.3 then okJ x.1 x.4 else false) = !true → ∃ (m : Nat), ∃ (x' : TY), m < n ∧ { tm := [(2, .ref 2 0), (4, .ref 4 0), (5, .d (.v (.bool false))), (6, .ref 6 0), (11, .ref 11 0), (13, .fn (93 : Nat) [.ref 6 0]), (16, .ref 16 0), (17, .d (.v (.bool false))), (18, .i (IntKind.i64.wrap ((2 : Int) * (↑x.4 : Int) + 2)))], hp := [(2, .box [.i a0, .i a1, .i a2.1, .i a2.2, .i a3.1.1, .i a3.1.2, .d (.v (.bool a3.2)), .i a3.3, .d (.v (.string a3.4)), .d (.sl (cellsL a4))]), (4, .box [.i 0, .i 0]), (6, .box [.own 50006]), (11, .box [.i 1, .i 0]), (12, .box [.i 2, .i 0]), (16, .box [.i x.2.1, .i x.2.2]), (50006, .fro 2 (List.map Ty.cs x.1))], kn := [], gd := [] : St } = (Zbd x' a0 a1 a2 a3 a4) ∧ inv_64b a0 x0 m x')) ∧ ((bif a0 == 14 then decide (IntKind.i64.wrap ((2 : Int) * (↑x.4 : Int) + 1) < (↑(List.map Ty.cs x.1).length : Int)) else false) = false → a6 [.agg [.i x.2.1, .i x.2.2], .d (.v (.bool (bif x.3 then okJ x.1 x.4 else false)))] []))
def Zt (a0 a1 a2 : Int) (a3 : Ty) (a4 : Go.Ex.AV) (a5 : List EX) (a6 : TX) (a7 : KT) : Prop := (a0 == a1) = true → Zs a0 a2 a3 a4 a5 a6 a7
theorem vc64 (n : Nat) (op sub : Int) (t : Ty) (v : Go.Ex.AV) (args : List EX) (cols : List Ty) (Q : KT) : vc E_8 (C_f64 n) noI (fx_64 op sub t v args cols) (f49.body.getD .skip) f49.results.toList [.agg (encX op sub t v (cellsL args)), .d (.sl (cols.map Ty.cs))] Q = ( Zby args fun es => ∃ (x0 : TX), ({ tm := [(1, .d (.sl (List.map Ty.cs cols))), (2, .ref 2 0), (4, .ref 4 0), (5, .d (.v (.bool false))), (6, .ref 6 0), (20, .d (.sl (cellsL args))), (21, .i (↑es.length : Int)), (22, .i 0)], hp := [(2, .box [.i op, .i sub, .i t.1, .i t.2, .i v.1.1, .i v.1.2, .d (.v (.bool v.2)), .i v.3, .d (.v (.string v.4)), .d (.sl (cellsL args))]), (4, .box [.i 0, .i 0]), (6, .box [.own 50006]), (50006, .lst 23 2 [])], kn := [], gd := [] : St } = (Zct cols args x0 op sub t v) ∧ ∃ (n : Nat), inv_64 cols args n x0) ∧ ∀ (n_1 : Nat) (x : TX), inv_64 cols args n_1 x → (decide ((↑x.1 : Int) < (↑(cellsL args).length : Int)) = true → Zb7 args x cols n fun e cols_1 => cols_1.length ≤ 8796093022208 ∧ ∀ (t_1 : Ty) (ok : Bool), typedE cols_1 e = (t_1, ok) → ((!ok) = true → Ze8 Q) ∧ (Zfw ok t_1 x n_1 fun m x' => { tm := [(1, .d (.sl (List.map Ty.cs cols))), (2, .ref 2 0), (4, .ref 4 0), (5, .d (.v (.bool false))), (6, .ref 6 0), (20, .d (.sl (cellsL args))), (21, .i (↑(cellsL args).length : Int)), (22, .i (IntKind.i64.wrap ((↑x.1 : Int) + 1)))], hp := [(2, .box [.i op, .i sub, .i t.1, .i t.2, .i v.1.1, .i v.1.2, .d (.v (.bool v.2)), .i v.3, .d (.v (.string v.4)), .d (.sl (cellsL args))]), (4, .box [.i 0, .i 0]), (6, .box [.own 50006]), (50006, .lst 23 2 (List.map Ty.cs x.2 ++ [(Zde t_1)]))], kn := [], gd := [] : St } = (Zct cols args x' op sub t v) ∧ inv_64 cols args m x')) ∧ (decide ((↑x.1 : Int) < (↑(cellsL args).length : Int)) = false → Zed op cols sub Q (((op == 1) = false → ((op == 2) = true → Q [.agg [.i v.1.1, .i v.1.2], .d (.v (.bool true))] []) ∧ ((op == 2) = false → (Zdj op x fun n n_2 n_3 n_4 => Q [.agg (Zda (1 : Int)), .d (.v (.bool (s129_0 n n_2 n_3 n_4)))] []) ∧ (Zbi op (9 : Int) (10 : Int) x Q (1 : Int) (1 : Int) ((Zbi op (10 : Int) (11 : Int) x Q (1 : Int) (1 : Int) ((Zbi op (11 : Int) (12 : Int) x Q (1 : Int) (1 : Int) (((op == 12) = false → ((op == 13) = true → Zd6 Q (1 : Int)) ∧ (Zbi op (13 : Int) (17 : Int) x Q (4 : Int) (4 : Int) ((Zbi op (17 : Int) (18 : Int) x Q (2 : Int) (4 : Int) (((op == 18) = false → (Zcq op (16 : Int) x fun n n_2 => Q [.agg (Zde t), .d (.v (.bool (bif bif bif t.1 == n then true else t.1 == 4 then true else n == 4 then true else bif s130_0 n n_2 then s130_0 t.1 t.2 else false)))] []) ∧ ((op == 16) = false → (Zt op (14 : Int) sub t v args x Q) ∧ ((op == 14) = false → (Zt op (15 : Int) sub t v args x Q) ∧ ((op == 15) = false → ∃ (l : List Ty), List.map Ty.cs x.2 = List.map Ty.cs l ∧ l.length < 4611686018427387904 ∧ ∃ (l_1 : List Ty), ∃ (u w : Ty), List.map Ty.cs x.2 = List.map Ty.cs l_1 ∧ l_1[(0 : Nat)]? = some u ∧ l_1[l_1.length - (1 : Nat)]? = some w ∧ l_1.length ≤ 1353245080300 ∧ Q [.agg [.v (.int .i64 (arithE op u w !l.any (offK (2 : Int))).1.1), .v (.int .i64 (arithE op u w !l.any (offK (2 : Int))).1.2)], .d (.v (.bool (arithE op u w !l.any (offK (2 : Int))).2))] [])))))))))))))))))))) := by kernel_rfl
theorem typedL_none {cols : List Ty} : ∀ {l : List EX} {e : EX}, e ∈ l → (typedE cols e).2 = false → typedL cols l = none
 | a :: l, e, h, hn => by
   simp only [typedL]
   cases h with
   | head =>
     rcases hh : typedE cols a with ⟨t, ok⟩
     rw [hh] at hn
     have : ok = false := hn
     subst this
     rfl
   | tail _ h =>
     rw [typedL_none h hn]
     rcases typedE cols a with ⟨t, _ | _⟩ <;> rfl
theorem typedL_snoc {cols : List Ty} : ∀ {l : List EX} {tl : List Ty} {e : EX} {t : Ty}, typedL cols l = some tl → typedE cols e = (t, true) → typedL cols (l ++ [e]) = some (tl ++ [t])
 | [], tl, e, t, h, he => by
   simp only [typedL, Option.some.injEq] at h
   subst h
   simp only [List.nil_append, typedL, he]
 | a :: l, tl, e, t, h, he => by
   simp only [typedL] at h
   rcases hh : typedE cols a with ⟨u, _ | _⟩
   · rw [hh] at h; cases h
   · rw [hh] at h
     rcases hl : typedL cols l with _ | r
     · rw [hl] at h; cases h
     · rw [hl] at h
       simp only [Option.some.injEq] at h
       subst h
       simp only [List.cons_append, typedL, hh, typedL_snoc hl he]
theorem typedE_some {cols : List Ty} {op sub : Int} {t : Ty} {v : Go.Ex.AV} {args : List EX} {l : List Ty} (h : typedL cols args = some l) : typedE cols (.mk op sub t v args) = typedN cols op sub t v l := by
 simp only [typedE, h]
theorem typedE_none {cols : List Ty} {op sub : Int} {t : Ty} {v : Go.Ex.AV} {args : List EX} (h : typedL cols args = none) : typedE cols (.mk op sub t v args) = (⟨0, 0⟩, false) := by
 simp only [typedE, h]
theorem may_col {sub : Int} {t : Ty} {v : Go.Ex.AV} {m c : Int} (h : mayHd 1 sub t v m c = true) : 0 ≤ sub ∧ sub < c := by
 simp only [mayHd] at h
 by_cases h1 : m = 0 <;> by_cases h2 : 0 ≤ sub <;> by_cases h3 : sub < c <;> simp_all
theorem may_two {sub : Int} {t : Ty} {v : Go.Ex.AV} {m c : Int} (h : mayHd 9 sub t v m c = true) : m = 2 := by
 simp only [mayHd] at h
 by_cases h1 : m = 2
 · exact h1
 · simp_all
theorem may_pos {op sub : Int} {t : Ty} {v : Go.Ex.AV} {m c : Int} (h : mayHd op sub t v m c = true) (h1 : op ≠ 1) (h2 : op ≠ 2) : 1 ≤ m := by
 have b1 : (op == 1) = false := by simpa using h1
 have b2 : (op == 2) = false := by simpa using h2
 unfold mayHd at h
 rw [b1, b2, cond_false, cond_false] at h
 by_cases hm : 1 ≤ m
 · exact hm
 · exfalso
   have e1 : (m == 1) = false := by simp; omega
   have e2 : (m == 2) = false := by simp; omega
   have e3 : decide (m ≥ 3) = false := by simp; omega
   have e4 : decide (m ≥ 1) = false := by simp; omega
   rw [e1, e2, e3, e4] at h
   revert h
   cases op == 9 <;> cases op == 16 <;> cases (op == 8 || op == 12 || op == 13 || op == 18) <;> cases op == 14 <;> cases op == 15 <;> cases (op == 3 || op == 4 || op == 5 || op == 6 || op == 7 || op == 10 || op == 11 || op == 17) <;> simp
theorem okJ_next {l : List Ty} {j : Nat} (hj : 2 * j < l.length) : okJ l (j + 1) = (okJ l j && truthT l[2 * j]) := by
 unfold okJ
 rw [List.range_succ, List.all_append]
 simp [List.getD_eq_getElem?_getD, hj]
theorem results_ne {op : Int} {l : List Ty} (h : l ≠ []) : ∃ a r, resultsE op l = a :: r ∧ r.length ≤ l.length := by
 have hp := List.length_pos_iff.2 h
 rcases hr : resultsE op l with _ | ⟨a, r⟩
 · exfalso
   unfold resultsE at hr
   split at hr
   · exact h hr
   · simp at hr
 · refine ⟨a, r, rfl, ?_⟩
   have : (resultsE op l).length ≤ l.length + 1 := by
     unfold resultsE
     split
     · omega
     · simp only [List.length_append, oddsT, List.length_map, List.length_range, List.length_singleton]; omega
   rw [hr] at this
   simpa using this
theorem C_f7_ok : CallsOk prog gl C_f7 := addC_ok (addC_ok (addC_ok (addC_ok C_4e_ok c_127_ok) c_131_ok) c_132_ok) c_133_ok
theorem ct64 : ∀ (n : Nat) (e : EX) (cols : List Ty), size e < n → fits e → mayE cols.length e = true → cols.length ≤ 8796093022208 → Ct prog gl 49 [.agg (cells e), .d (.sl (cols.map Ty.cs))] (gives [.agg (typedE cols e).1.cs, .d (.v (.bool (typedE cols e).2))])
 | 0, _, _, h, _, _, _ => absurd h (Nat.not_lt_zero _)
 | n + 1, .mk op sub t v args, cols, hs, hf, hm, hcl => by
   have hC : CallsOk prog gl (C_f64 n) := addC_ok C_f7_ok (fun a K hk => by
     unfold c_64 at hk
     split at hk
     · obtain ⟨e, cols, rfl, rfl, h1, h2, h3, h4, h5⟩ := hk
       exact (ct64 n e cols h1 h2 h3 h4).gives (h5 _ _ rfl)
     · exact hk.elim)
   rw [cells_mk]
   refine ct_of_vc (E := E_8) ⟨E_ok.te⟩ hC ioK_no (fun _ _ _ h => h.elim) mixed (fn := f49) (body := f49.body.getD .skip) (by kernel_rfl) (by kernel_rfl) (by kernel_rfl) (fi := fx_64 op sub t v args cols) (by kernel_rfl) (by kernel_rfl) ⟨_, _, rfl, rfl⟩ ?_
   rw [vc64]; dsimp -eta -iota -proj only [Zby, Zbt, Zct, Zb7, Zbo, Zk, Z1, Z4, Ze8, Zev, Zda, Zfw, Zfp, Zfo, Zfn, Zfm, Zde, Zed, Zd5, Zc0, Zbh, Zft, Zbc, Ze0, Zdj, Zcq, Zbw, Zbi, Zd6, Zd2, Zt, Zs, Ze3, Zz, Zbb, Zbd]
   obtain ⟨_, hl, hfl⟩ := fits_mk hf
   simp only [size] at hs
   have hmm : mayHd op sub t v ((cellsL args).length : Int) cols.length = true ∧ mayL cols.length args = true := by
     have : (mayHd op sub t v ((cellsL args).length : Int) cols.length && mayL cols.length args) = true := by simpa only [mayE] using hm
     simpa using this
   obtain ⟨hh, hml⟩ := hmm
   rw [mayL_all, List.all_eq_true] at hml
   refine ⟨cellsL args, rfl, ⟨0, []⟩, ⟨rfl, args.length, ⟨Nat.zero_le _, rfl⟩, by simp only [List.take_zero, typedL], rfl⟩, fun m (x : TX) hx => ⟨fun hi => ?_, fun hi => ?_⟩⟩
   · obtain ⟨i, tl⟩ := x
     obtain ⟨⟨h1, h2⟩, h4, h5⟩ := hx
     dsimp only at h1 h2 h4 h5 hi ⊢
     have hi : i < args.length := by simpa [cellsL_len] using hi
     obtain ⟨op1, sub1, t1, v1, a1, e1, g1⟩ := arg_get hi
     have hsz := size_mem (List.getElem_mem hi)
     refine ⟨cellsL args, rfl, ⟨by omega, by rw [cellsL_len]; omega⟩, _, g1, rfl, op1, sub1, t1.k, t1.sc, v1.t.k, v1.t.sc, v1.nul, v1.n, v1.s, cellsL a1, rfl, args[i], cols, by rw [e1, cells_mk]; rfl, rfl, by omega, fitsL_mem hfl (List.getElem_mem hi), hml _ (List.getElem_mem hi), hcl, fun t2 ok he => ⟨fun ho => ?_, fun ho => ⟨by simp, rfl, rfl, ?_, args.length - (i + 1), ⟨i + 1, tl ++ [t2]⟩, by omega, ?_, ⟨hi, rfl⟩, ?_, by simp [h5]⟩⟩⟩
     · have : ok = false := by simpa using ho
       subst this
       rw [typedE_none (typedL_none (List.getElem_mem hi) (by rw [he]))]
       exact ⟨rfl, rfl⟩
     · rw [List.length_map, h5]; omega
     · dsimp only
       rw [wrap_next (by omega), List.map_append]
       rfl
     · have : ok = true := by simpa using ho
       subst this
       rw [List.take_add_one, List.getElem?_eq_getElem hi]
       exact typedL_snoc h4 he
   · obtain ⟨i, tl⟩ := x
     obtain ⟨⟨h1, h2⟩, h4, h5⟩ := hx
     dsimp only at h1 h2 h4 h5 hi ⊢
     have hi : ¬ i < args.length := by simpa [cellsL_len] using hi
     rw [List.take_of_length_le (by omega)] at h4
     have htl : tl.length = args.length := by omega
     rw [cellsL_len] at hh
     have fin : ∀ (a a' : Int) (c : Bool), typedN cols op sub t v tl = (⟨a, a'⟩, c) → gives [.agg (typedE cols (.mk op sub t v args)).1.cs, .d (.v (.bool (typedE cols (.mk op sub t v args)).2))] [R.agg [D.v (Value.int IntKind.i64 a), D.v (Value.int IntKind.i64 a')], R.d (D.v (Value.bool c))] [] := fun a a' c h => by rw [typedE_some h4, h]; exact ⟨rfl, rfl⟩
     have g0 : ∀ (h : 0 < tl.length), (tl.map Ty.cs)[Int.toNat 0]? = some (Ty.cs tl[0]) := fun h => ty_get h
     have g1 : ∀ (h : 1 < tl.length), (tl.map Ty.cs)[Int.toNat 1]? = some (Ty.cs tl[1]) := fun h => ty_get h
     have d0 : ∀ (h : 0 < tl.length), tl.getD 0 ⟨0, 0⟩ = tl[0] := fun h => by rw [List.getD_eq_getElem?_getD, List.getElem?_eq_getElem h]; rfl
     have d1 : ∀ (h : 1 < tl.length), tl.getD 1 ⟨0, 0⟩ = tl[1] := fun h => by rw [List.getD_eq_getElem?_getD, List.getElem?_eq_getElem h]; rfl
     refine ⟨fun o1 => ?_, fun o1 => ⟨fun o2 => ?_, fun o2 => ⟨fun o9 => ?_, fun o9 => ⟨fun o10 => ?_, fun o10 => ⟨fun o11 => ?_, fun o11 => ⟨fun o12 => ?_, fun o12 => ⟨fun o13 => ?_, fun o13 => ⟨fun o17 => ?_, fun o17 => ⟨fun o18 => ?_, fun o18 => ⟨fun o16 => ?_, fun o16 => ?_⟩⟩⟩⟩⟩⟩⟩⟩⟩⟩
     · have o1 : op = 1 := by simpa using o1
       subst o1
       obtain ⟨c1, c2⟩ := may_col hh
       have hlt : sub.toNat < cols.length := by omega
       refine ⟨_, rfl, ⟨c1, by rw [List.length_map]; exact c2⟩, _, ty_get hlt, rfl, _, _, rfl, fin _ _ _ ?_⟩
       unfold typedN
       rw [if_pos rfl, List.getD_eq_getElem?_getD, List.getElem?_eq_getElem hlt]
       rfl
     all_goals have n1 : op ≠ 1 := by simpa using o1
     · have o2 : op = 2 := by simpa using o2
       refine fin _ _ _ ?_
       unfold typedN
       rw [if_neg n1, if_pos o2]
     all_goals have n2 : op ≠ 2 := by simpa using o2
     all_goals have hpos : 1 ≤ args.length := by have := may_pos hh n1 n2; omega
     all_goals have hne : tl ≠ [] := by intro h; rw [h] at htl; simp at htl; omega
     · have o9 : op = 9 := by simpa using o9
       subst o9
       have h2 := may_two hh
       refine ⟨⟨by decide, by rw [List.length_map]; omega⟩, rfl, _, g0 (by omega), _, _, rfl, ⟨by decide, by rw [List.length_map]; omega⟩, rfl, _, g1 (by omega), _, _, rfl, fin _ _ _ ?_⟩
       unfold typedN
       rw [if_neg n1, if_neg n2, if_pos rfl, d0 (by omega), d1 (by omega)]
     all_goals have n9 : op ≠ 9 := by simpa using o9
     · have o10 : op = 10 := by simpa using o10
       refine ⟨tl, rfl, by omega, fin _ _ _ ?_⟩
       unfold typedN
       rw [if_neg n1, if_neg n2, if_neg n9, if_pos (.inl o10)]
     all_goals have n10 : op ≠ 10 := by simpa using o10
     · have o11 : op = 11 := by simpa using o11
       refine ⟨tl, rfl, by omega, fin _ _ _ ?_⟩
       unfold typedN
       rw [if_neg n1, if_neg n2, if_neg n9, if_pos (.inr (.inl o11))]
     all_goals have n11 : op ≠ 11 := by simpa using o11
     · have o12 : op = 12 := by simpa using o12
       refine ⟨tl, rfl, by omega, fin _ _ _ ?_⟩
       unfold typedN
       rw [if_neg n1, if_neg n2, if_neg n9, if_pos (.inr (.inr o12))]
     all_goals have n12 : op ≠ 12 := by simpa using o12
     all_goals have nn : ¬ (op = 10 ∨ op = 11 ∨ op = 12) := by omega
     · have o13 : op = 13 := by simpa using o13
       refine fin _ _ _ ?_
       unfold typedN
       rw [if_neg n1, if_neg n2, if_neg n9, if_neg nn, if_pos o13]
     all_goals have n13 : op ≠ 13 := by simpa using o13
     · have o17 : op = 17 := by simpa using o17
       refine ⟨tl, rfl, by omega, fin _ _ _ ?_⟩
       unfold typedN
       rw [if_neg n1, if_neg n2, if_neg n9, if_neg nn, if_neg n13, if_pos o17]
     all_goals have n17 : op ≠ 17 := by simpa using o17
     · have o18 : op = 18 := by simpa using o18
       refine ⟨tl, rfl, by omega, fin _ _ _ ?_⟩
       unfold typedN
       rw [if_neg n1, if_neg n2, if_neg n9, if_neg nn, if_neg n13, if_neg n17, if_pos o18]
     all_goals have n18 : op ≠ 18 := by simpa using o18
     · have o16 : op = 16 := by simpa using o16
       refine ⟨⟨by decide, by rw [List.length_map]; omega⟩, rfl, _, g0 (by omega), _, _, rfl, fin _ _ _ ?_⟩
       unfold typedN
       rw [if_neg n1, if_neg n2, if_neg n9, if_neg nn, if_neg n13, if_neg n17, if_neg n18, if_pos o16, d0 (by omega)]
     have n16 : op ≠ 16 := by simpa using o16
     refine ⟨fun o14 => ?_, fun o14 => ⟨fun o15 => ?_, fun o15 => ?_⟩⟩
     · have o14 : op = 14 := by simpa using o14
       obtain ⟨a, r, hr, hrl⟩ := results_ne (op := op) hne
       refine ⟨op, sub, t, v, args, tl, rfl, rfl, by omega, hne, a, r, by rw [hr]; rfl, by omega, ⟨tl, (cfold a r).1, (cfold a r).2, 0⟩, ⟨by
         have : (bif (cfold a r).2 then okJ tl 0 else false) = (cfold a r).2 := by cases (cfold a r).2 <;> rfl
         dsimp only
         rw [this]
         rfl, tl.length, rfl, rfl, rfl, Nat.zero_le _, rfl, .inr rfl⟩, fun m2 y hy => ?_⟩
       obtain ⟨yl, yt, yok, yj⟩ := y
       obtain ⟨e1, e2, e3, hj, hm2, hz⟩ := hy
       dsimp only at e1 e2 e3 hj hm2 hz ⊢
       have e1' := e1.symm
       subst e1'; subst e2; subst e3
       refine ⟨fun hc => ?_, fun hc => ?_⟩
       · have hc2 : op = 14 ∧ 2 * yj + 1 < tl.length := by
           by_cases h14 : op = 14
           · rw [show (op == 14) = true by simpa using h14, cond_true] at hc
             have := of_decide_eq_true hc
             rw [List.length_map, wrap_i64_of (by omega) (by omega)] at this
             exact ⟨h14, by omega⟩
           · rw [show (op == 14) = false by simpa using h14, cond_false] at hc; cases hc
         have h2j : 2 * yj < tl.length := by omega
         have w : IntKind.i64.wrap (2 * ((yj : Nat) : Int) + 2) = 2 * ((yj + 1 : Nat) : Int) := by rw [wrap_i64_of (by omega) (by omega)]; omega
         have hg := ty_get h2j
         refine ⟨fun hk => ⟨⟨by omega, by rw [List.length_map]; omega⟩, rfl, _, (by rw [show (2 * ((yj : Nat) : Int)).toNat = 2 * yj by omega]; exact hg), tl[2 * yj].k, tl[2 * yj].sc, rfl, tl.length - (yj + 1), ⟨tl, (cfold a r).1, (cfold a r).2, yj + 1⟩, by omega, ?_, rfl, rfl, rfl, by show yj + 1 ≤ tl.length / 2; omega, rfl, .inl hc2.1⟩, fun hk => ⟨tl.length - (yj + 1), ⟨tl, (cfold a r).1, (cfold a r).2, yj + 1⟩, by omega, ?_, rfl, rfl, rfl, by show yj + 1 ≤ tl.length / 2; omega, rfl, .inl hc2.1⟩⟩
         · have e : (bif (cfold a r).2 then okJ tl (yj + 1) else false) = (bif (bif (cfold a r).2 then okJ tl yj else false) then truthT tl[2 * yj] else false) := by
             rw [okJ_next h2j]; cases (cfold a r).2 <;> cases okJ tl yj <;> rfl
           rw [hk, cond_true] at e
           dsimp only
           rw [e, w]
           rfl
         · have e : (bif (cfold a r).2 then okJ tl (yj + 1) else false) = (bif (bif (cfold a r).2 then okJ tl yj else false) then truthT tl[2 * yj] else false) := by
             rw [okJ_next h2j]; cases (cfold a r).2 <;> cases okJ tl yj <;> rfl
           have hk' : (bif (cfold a r).2 then okJ tl yj else false) = false := hk
           rw [hk', cond_false] at e
           dsimp only
           rw [e, w]
           try rw [hk']
           try rfl
       · refine fin _ _ _ ?_
         have hjj : yj = tl.length / 2 := by
           rw [show (op == 14) = true by simpa using o14, cond_true] at hc
           have := of_decide_eq_false hc
           rw [List.length_map, wrap_i64_of (by omega) (by omega)] at this
           omega
         unfold typedN
         rw [if_neg n1, if_neg n2, if_neg n9, if_neg nn, if_neg n13, if_neg n17, if_neg n18, if_neg n16, if_pos (.inl o14), hr, hjj]
         have n15 : decide (op = 15) = false := decide_eq_false (by omega)
         simp only [n15]
         cases (cfold a r).2 <;> simp
     · have o15 : op = 15 := by simpa using o15
       obtain ⟨a, r, hr, hrl⟩ := results_ne (op := op) hne
       refine ⟨op, sub, t, v, args, tl, rfl, rfl, by omega, hne, a, r, by rw [hr]; rfl, by omega, ⟨tl, (cfold a r).1, (cfold a r).2, 0⟩, ⟨by
         have : (bif (cfold a r).2 then okJ tl 0 else false) = (cfold a r).2 := by cases (cfold a r).2 <;> rfl
         dsimp only
         rw [this]
         rfl, tl.length, rfl, rfl, rfl, Nat.zero_le _, rfl, .inr rfl⟩, fun m2 y hy => ?_⟩
       obtain ⟨yl, yt, yok, yj⟩ := y
       obtain ⟨e1, e2, e3, hj, hm2, hz⟩ := hy
       dsimp only at e1 e2 e3 hj hm2 hz ⊢
       have e1' := e1.symm
       subst e1'; subst e2; subst e3
       refine ⟨fun hc => ?_, fun hc => ?_⟩
       · have hc2 : op = 14 ∧ 2 * yj + 1 < tl.length := by
           by_cases h14 : op = 14
           · rw [show (op == 14) = true by simpa using h14, cond_true] at hc
             have := of_decide_eq_true hc
             rw [List.length_map, wrap_i64_of (by omega) (by omega)] at this
             exact ⟨h14, by omega⟩
           · rw [show (op == 14) = false by simpa using h14, cond_false] at hc; cases hc
         have h2j : 2 * yj < tl.length := by omega
         have w : IntKind.i64.wrap (2 * ((yj : Nat) : Int) + 2) = 2 * ((yj + 1 : Nat) : Int) := by rw [wrap_i64_of (by omega) (by omega)]; omega
         have hg := ty_get h2j
         refine ⟨fun hk => ⟨⟨by omega, by rw [List.length_map]; omega⟩, rfl, _, (by rw [show (2 * ((yj : Nat) : Int)).toNat = 2 * yj by omega]; exact hg), tl[2 * yj].k, tl[2 * yj].sc, rfl, tl.length - (yj + 1), ⟨tl, (cfold a r).1, (cfold a r).2, yj + 1⟩, by omega, ?_, rfl, rfl, rfl, by show yj + 1 ≤ tl.length / 2; omega, rfl, .inl hc2.1⟩, fun hk => ⟨tl.length - (yj + 1), ⟨tl, (cfold a r).1, (cfold a r).2, yj + 1⟩, by omega, ?_, rfl, rfl, rfl, by show yj + 1 ≤ tl.length / 2; omega, rfl, .inl hc2.1⟩⟩
         · have e : (bif (cfold a r).2 then okJ tl (yj + 1) else false) = (bif (bif (cfold a r).2 then okJ tl yj else false) then truthT tl[2 * yj] else false) := by
             rw [okJ_next h2j]; cases (cfold a r).2 <;> cases okJ tl yj <;> rfl
           rw [hk, cond_true] at e
           dsimp only
           rw [e, w]
           rfl
         · have e : (bif (cfold a r).2 then okJ tl (yj + 1) else false) = (bif (bif (cfold a r).2 then okJ tl yj else false) then truthT tl[2 * yj] else false) := by
             rw [okJ_next h2j]; cases (cfold a r).2 <;> cases okJ tl yj <;> rfl
           have hk' : (bif (cfold a r).2 then okJ tl yj else false) = false := hk
           rw [hk', cond_false] at e
           dsimp only
           rw [e, w]
           try rw [hk']
           try rfl
       · refine fin _ _ _ ?_
         unfold typedN
         rw [if_neg n1, if_neg n2, if_neg n9, if_neg nn, if_neg n13, if_neg n17, if_neg n18, if_neg n16, if_pos (.inr o15), hr]
         have e15 : decide (op = 15) = true := decide_eq_true o15
         have hj0 : okJ tl yj = true := by
           rw [show yj = 0 by omega]; rfl
         simp only [e15, hj0]
         cases (cfold a r).2 <;> simp
     · have n14 : op ≠ 14 := by simpa using o14
       have n15 : op ≠ 15 := by simpa using o15
       have hlast : tl.length - 1 < tl.length := by omega
       refine ⟨tl, rfl, by omega, tl, tl[0], tl[tl.length - 1], rfl, List.getElem?_eq_getElem _, List.getElem?_eq_getElem _, by omega, fin _ _ _ ?_⟩
       unfold typedN
       rw [if_neg n1, if_neg n2, if_neg n9, if_neg nn, if_neg n13, if_neg n17, if_neg n18, if_neg n16, if_neg (by omega), d0 (by omega), List.getD_eq_getElem?_getD, List.getElem?_eq_getElem hlast]
       rfl
end Go.Proofs.Tryz
namespace Go.Proofs.Tryz
open Go Go.Dm Go.Ex
set_option maxRecDepth 100000
variable {gl : Nat → Option Obj}
theorem ct62 : ∀ (n : Nat) (e : EX), size e < n → fits e → Ct prog gl 47 [.agg (cells e)] (gives [.d (.v (.int .i64 (deep e)))])
 | 0, e, h, _ => absurd h (Nat.not_lt_zero _)
 | n + 1, .mk op sub t v args, h, hf => by
   have hC : CallsOk prog gl (C_f62 n) := addC_ok C_n_ok (fun a K hk => by
     unfold c_62 at hk
     split at hk
     · obtain ⟨e, rfl, h1, h2, h3⟩ := hk
       exact (ct62 n e h1 h2).gives h3
     · exact hk.elim)
   rw [cells_mk]
   refine ct_of_vc E_ok hC ioK_no it_ok mixed (fn := f47) (body := f47.body.getD .skip) (by kernel_rfl) (by kernel_rfl) (by kernel_rfl) (fi := fx_62 op sub t v args) (by kernel_rfl) (by kernel_rfl) ⟨_, _, rfl, rfl⟩ ?_
   rw [vc62]; dsimp -eta -iota -proj only [Zby, Zbt, Zd3, Zdk, Zb9, Z3, Zx, Zbz, Zv, Zk, Z1, Zep, Z4, Zdq]
   obtain ⟨_, hl, hfl⟩ := fits_mk hf
   have hsz : ∀ e ∈ args, size e < n := fun e he => by have := size_arg (op := op) (sub := sub) (ty := t) (v := v) he; omega
   refine ⟨cellsL args, rfl, (0 : Nat), ⟨by simp only [List.take_zero, deepL]; rfl, args.length, Nat.zero_le _, rfl⟩, fun m (x : Nat) hx => ⟨fun hi => ?_, fun hi => ?_⟩⟩
   · have hi : x < args.length := by simpa [cellsL_len] using hi
     obtain ⟨op', sub', t', v', a', he, hget⟩ := arg_get hi
     have hm := hx.2
     refine ⟨cellsL args, rfl, ⟨by omega, by rw [cellsL_len]; omega⟩, _, hget, rfl, op', sub', t'.k, t'.sc, v'.t.k, v'.t.sc, v'.nul, v'.n, v'.s, cellsL a', rfl, args[x], by rw [he, cells_mk]; rfl, hsz _ (List.getElem_mem hi), fitsL_mem hfl (List.getElem_mem hi), args.length - (x + 1), x + 1, by omega, ?_, hi, rfl⟩
     rw [wrap_next (by omega), List.take_add_one, List.getElem?_eq_getElem hi, Option.toList_some, deepL_snoc]
   · have hi : ¬ x < args.length := by simpa [cellsL_len] using hi
     rw [List.take_of_length_le (by omega)]
     refine ⟨?_, rfl⟩
     simp only [deep]
def c_61g (a : List R) (K : KT) : Prop := match a with
 | [.agg x] => ∃ e : EX, x = cells e ∧ fits e ∧ K [.d (.v (.int .i64 (nodes e)))] []
 | _ => False
theorem c_61g_ok (a : List R) (K : KT) (h : c_61g a K) : Ct prog gl 46 a K := by
 unfold c_61g at h
 split at h
 · obtain ⟨e, rfl, h1, h2⟩ := h
   exact (ct61 (size e + 1) e (Nat.lt_succ_self _) h1).gives h2
 · exact h.elim
def c_62g (a : List R) (K : KT) : Prop := match a with
 | [.agg x] => ∃ e : EX, x = cells e ∧ fits e ∧ K [.d (.v (.int .i64 (deep e)))] []
 | _ => False
theorem c_62g_ok (a : List R) (K : KT) (h : c_62g a K) : Ct prog gl 47 a K := by
 unfold c_62g at h
 split at h
 · obtain ⟨e, rfl, h1, h2⟩ := h
   exact (ct62 (size e + 1) e (Nat.lt_succ_self _) h1).gives h2
 · exact h.elim
def c_63g (a : List R) (K : KT) : Prop := match a with
 | [.agg x, .d (.v (.int .i64 c))] => ∃ e : EX, x = cells e ∧ fits e ∧ K [.d (.v (.bool (mayE c e)))] []
 | _ => False
theorem c_63g_ok (a : List R) (K : KT) (h : c_63g a K) : Ct prog gl 48 a K := by
 unfold c_63g at h
 split at h
 · obtain ⟨e, rfl, h1, h2⟩ := h
   exact (ct63 (size e + 1) e _ (Nat.lt_succ_self _) h1).gives h2
 · exact h.elim
def c_64g (a : List R) (K : KT) : Prop := match a with
 | [.agg x, .d (.sl y)] => ∃ (e : EX) (cols : List Ty), x = cells e ∧ y = cols.map Ty.cs ∧ fits e ∧ mayE cols.length e = true ∧ cols.length ≤ 8796093022208 ∧ (∀ (t : Ty) (ok : Bool), typedE cols e = (t, ok) → K [.agg t.cs, .d (.v (.bool ok))] [])
 | _ => False
theorem c_64g_ok (a : List R) (K : KT) (h : c_64g a K) : Ct prog gl 49 a K := by
 unfold c_64g at h
 split at h
 · obtain ⟨e, cols, rfl, rfl, h1, h2, h3, h4⟩ := h
   exact (ct64 (size e + 1) e cols (Nat.lt_succ_self _) h1 h2 h3).gives (h4 _ _ rfl)
 · exact h.elim
def C_g4 : CallT := addC (addC (addC (addC C_f7 46 c_61g) 47 c_62g) 48 c_63g) 49 c_64g
theorem C_g4_ok : CallsOk prog gl C_g4 := addC_ok (addC_ok (addC_ok (addC_ok C_f7_ok c_61g_ok) c_62g_ok) c_63g_ok) c_64g_ok
def Zbm (a0 a1 : Int) (a2 : Ty) (a3 : Go.Ex.AV) (a4 : List EX) (a5 : EX) (k : Prop) : Prop := Z2 a0 a1 a2 a3 a4 a5 (fits a5 ∧ k)
def Zbx (a0 a1 : Int) (a2 : Ty) (a3 : Go.Ex.AV) (a4 : List EX) (k : EX → Prop) : Prop := ∃ (e : EX), Zbm a0 a1 a2 a3 a4 e (k e)
def Zd8 (a0 a1 : Int) (a2 : Ty) (a3 : Go.Ex.AV) (a4 : List EX) (k : EX → EX → Prop) : Prop := Zbx a0 a1 a2 a3 a4 fun e => Zbx a0 a1 a2 a3 a4 fun e_1 => k e e_1
def Ze1 (a0 : Int) : List R := [.agg (Zda (0 : Int)), .d (.i a0)]
def Zfc (a0 : KT) (a1 : Int) : Prop := a0 (Ze1 a1) []
def Zca (a0 a1 : Int) (a2 : Ty) (a3 : Go.Ex.AV) (a4 : List EX) (a5 : EX) (k : (List Ty) → Prop) : Prop := ∃ (cols : List Ty), Z2 a0 a1 a2 a3 a4 a5 (k cols)
def Zc1 (a0 a1 : Int) (a2 : Ty) (a3 : Go.Ex.AV) (a4 : List EX) (k : EX → (List Ty) → Prop) : Prop := ∃ (e : EX), Zca a0 a1 a2 a3 a4 e fun cols => k e cols
theorem vc15 (op sub : Int) (t : Ty) (v : Go.Ex.AV) (args : List EX) (x : List (List D)) (Q : KT) : vc E_0 C_g4 noI fi16 (f16.body.getD .skip) f16.results.toList [.agg (encX op sub t v (cellsL args)), .d (.sl x)] Q = ( Zfe x fun l => Zd8 op sub t v args fun e e_1 => Zbt fun es => D.sl x = D.sl es ∧ Zbx op sub t v args fun e_2 => ((bif bif bif l.any badT then true else decide (nodes e > 256) then true else decide (deep e_1 > 24) then true else !mayE (↑es.length : Int) e_2) = true → Zfc Q (140 : Int)) ∧ ((bif bif bif l.any badT then true else decide (nodes e > 256) then true else decide (deep e_1 > 24) then true else !mayE (↑es.length : Int) e_2) = false → Zc1 op sub t v args fun e cols => x = List.map Ty.cs cols ∧ fits e ∧ mayE (↑cols.length : Int) e = true ∧ cols.length ≤ 8796093022208 ∧ ∀ (t : Ty) (ok : Bool), typedE cols e = (t, ok) → ((!ok) = true → Zfc Q (21 : Int)) ∧ ((!ok) = false → Q [.agg (Zde t), .d (.i 0)] []))) := by kernel_rfl
def checkE (cols : List Ty) (e : EX) : Ty × Int :=
 bif (bif bif bif cols.any badT then true else decide (nodes e > 256) then true else decide (deep e > 24) then true else !mayE cols.length e) then (⟨0, 0⟩, 140) else (bif !(typedE cols e).2 then (⟨0, 0⟩, 21) else ((typedE cols e).1, 0))
theorem ct15 : ∀ (e : EX) (cols : List Ty), fits e → cols.length ≤ 8796093022208 → Ct prog gl 16 [.agg (cells e), .d (.sl (cols.map Ty.cs))] (gives [.agg (checkE cols e).1.cs, .d (.v (.int .i64 (checkE cols e).2))])
 | .mk op sub t v args, cols, hf, hcl => by
   rw [cells_mk]
   refine ctv C_g4_ok f16 fi16 ⟨_, _, rfl, rfl⟩ ?_
   rw [vc15]; dsimp -eta -iota -proj only [Zfe, Zd8, Zbx, Zbm, Z2, Zz, Zbt, Zfc, Ze1, Zda, Zc1, Zca, Zde]
   have hc : encX op sub t v (cellsL args) = cells (.mk op sub t v args) := (cells_mk _ _ _ _ _).symm
   refine ⟨cols, rfl, by omega, .mk op sub t v args, hc, hf, .mk op sub t v args, hc, hf, _, rfl, .mk op sub t v args, hc, hf, fun h => ?_, fun h => ?_⟩
   · rw [List.length_map] at h
     unfold checkE
     rw [h]; exact ⟨rfl, rfl⟩
   · rw [List.length_map] at h
     refine ⟨.mk op sub t v args, cols, hc, rfl, hf, ?_, hcl, fun t' ok ht => ⟨fun h2 => ?_, fun h2 => ?_⟩⟩
     · revert h
       cases mayE (cols.length : Int) (.mk op sub t v args) <;> cases cols.any badT <;> cases decide (nodes (EX.mk op sub t v args) > 256) <;> cases decide (deep (EX.mk op sub t v args) > 24) <;> simp
     · unfold checkE
       rw [h, ht]
       simp only [h2, cond_true, cond_false]
       exact ⟨rfl, rfl⟩
     · unfold checkE
       rw [h, ht]
       simp only [h2, cond_true, cond_false]
       exact ⟨rfl, rfl⟩
def c_15 (a : List R) (K : KT) : Prop := match a with
 | [.agg x, .d (.sl y)] => ∃ (e : EX) (cols : List Ty), x = cells e ∧ y = cols.map Ty.cs ∧ fits e ∧ cols.length ≤ 8796093022208 ∧ (∀ (t : Ty) (f : Int), checkE cols e = (t, f) → K [.agg t.cs, .d (.v (.int .i64 f))] [])
 | _ => False
theorem c_15_ok (a : List R) (K : KT) (h : c_15 a K) : Ct prog gl 16 a K := by
 unfold c_15 at h
 split at h
 · obtain ⟨e, cols, rfl, rfl, h1, h2, h3⟩ := h
   exact (ct15 e cols h1 h2).gives (h3 _ _ rfl)
 · exact h.elim
end Go.Proofs.Tryz
namespace Go.Dm
variable {P : Program} {E : Env}
variable {B0 : Nat} {bx : List Nat} {W0 : World} {ok0 : Nat → Prop} {Z : Zr} {N : Nat}
variable {ok : Nat → Prop} {φ : Nat → Value} {s : St} {a : Act} {w : World}
theorem own_new (r : Rel B0 bx W0 ok0 Z N ok φ s a w) {key : Nat} (hk : lk s.hp key = none) {e sz : Nat} (hpos : 0 < sz) {v' : Value} {w' : World} {es : List (List D)} {news : List Value}
   (hown : w'.ownsRow w.heap.size e sz v' es.length news) (hgr : w.grownBy w' none) (hblk : ∀ g, blockOf v' = some g → g = w.heap.size ∧ g < w'.heap.size) (hall : ∀ c ∈ es, c.length = sz)
   (hrd : ∀ i j, i < es.length → j < sz → Rd ok w (news.getD (i * sz + j) undef) ((es.getD i []).getD j default)) :
   Rel B0 bx W0 ok0 Z N ok (updF φ key v') (s.setB key (.lst e sz es)) a w' ∧ VR ok (updF φ key v') (s.setB key (.lst e sz es)).hp w' (.own key) v' ∧ Frm [] φ s w (updF φ key v') (s.setB key (.lst e sz es)) w' := by
 have hgr' : ∀ b, b < w.heap.size → w'.heap[b]? = w.heap[b]? := fun b hb => hgr.block b hb (by simp)
 have hv1 : v'.oneCell' = true := by
   rcases hown.2 with ⟨rfl, _⟩ | ⟨g, cap, cur, rfl, _⟩ <;> rfl
 have h2 : ∀ b, ok b → w'.heap[b]? = w.heap[b]? := fun b hb => hgr' b (r.okl b hb)
 have h3 : ∀ k, ¬ False → lk s.hp k ≠ none → updF φ key v' k = φ k := fun k _ hn => by simp only [updF]; rw [if_neg (by rintro rfl; exact hn hk)]
 have h4 : ∀ k, ¬ False → Sim s.hp (pt s.hp key (.lst e sz es)) k := fun k _ => by
   unfold Sim
   rw [lk_pt]
   by_cases h : key = k
   · subst h; rw [hk]; trivial
   · rw [if_neg h]; exact Sim.refl s.hp k
 refine ⟨?_, .own (sz := sz) (es := es) (.inl ⟨e, by simp [St.setB, lk_pt]⟩) (by simp [updF]), ⟨hgr.size, fun g hg _ => hgr' g hg, fun k b' g hb ha hg hlt => ?_⟩⟩
 rotate_left
 · simp only [St.setB] at hb
   rw [lk_pt] at hb
   by_cases e : key = k
   · subst e
     simp only [updF, if_true] at hg
     have := hblk g hg; omega
   · rw [if_neg e] at hb
     simp only [updF, if_neg (Ne.symm e)] at hg
     exact ⟨k, b', hb, ha, hg, .inl rfl⟩
 refine r.step (fun _ => False) (fun _ h => h.elim) (fun _ h => h) h2 h3 h4 (fun k b' hb => ?_) (fun k b' g hb ha hg => ?_) (fun k k' b1 b2 g hne hb1 hb2 ha1 ha2 hg1 hg2 => ?_) (fun k => ?_) (fun b hb => Nat.lt_of_lt_of_le (r.okl b hb) hgr.size) r.oks ?_
 · rw [lk_pt] at hb
   by_cases h : key = k
   · subst h
     rw [if_pos rfl] at hb
     simp only [Option.some.injEq] at hb; subst hb
     simp only [updF, if_true]
     refine ⟨hpos, hall, news, ⟨hown.1, ?_⟩, fun i j hi hj => (hrd i j hi hj).mono (fun _ h => h) h2⟩
     rcases hown.2 with hnil | ⟨g, cap, cur, rfl, hb, rest⟩
     · exact .inl hnil
     · exact .inr ⟨g, cap, cur, rfl, Nat.le_trans r.b0 hb, rest⟩
   · rw [if_neg h] at hb
     have : updF φ key v' k = φ k := by simp [updF, Ne.symm h]
     rw [this]
     exact (r.hp k b' hb).keep (fun _ => False) (fun _ _ h => h.elim) (fun _ h => h) h2 h3 h4 (fun ha g hg => hgr' g ((r.hp k b' hb).block_lt ha hg))
 · rw [lk_pt] at hb
   by_cases h : key = k
   · subst h
     simp only [updF, if_true] at hg
     have := hblk g hg
     exact ⟨fun hok => by have := r.okl _ hok; omega, .inl (by have := r.b0; omega)⟩
   · rw [if_neg h] at hb
     simp only [updF, if_neg (Ne.symm h)] at hg
     exact r.act k b' g hb ha hg
 · rw [lk_pt] at hb1 hb2
   by_cases h : key = k
   · subst h
     rw [if_neg hne] at hb2
     simp only [updF, if_true] at hg1
     simp only [updF, if_neg (Ne.symm hne)] at hg2
     have := hblk g hg1
     have := (r.hp k' b2 hb2).block_lt ha2 hg2
     omega
   · rw [if_neg h] at hb1
     simp only [updF, if_neg (Ne.symm h)] at hg1
     by_cases h' : key = k'
     · subst h'
       simp only [updF, if_true] at hg2
       have := hblk g hg2
       have := (r.hp k b1 hb1).block_lt ha1 hg1
       omega
     · rw [if_neg h'] at hb2
       simp only [updF, if_neg (Ne.symm h')] at hg2
       exact r.inj k k' b1 b2 g hne hb1 hb2 ha1 ha2 hg1 hg2
 · simp only [updF]; split
   · exact hv1
   · exact r.one k
 · exact ⟨hgr.os, hgr.tape, hgr.output, hgr.size, fun k hk _ => hgr' k (Nat.lt_of_lt_of_le hk r.b0)⟩
def growI (I : Nat → List V → List V → St → (V → St → Prop) → Prop) (g e sz by_ key : Nat) (f : Nat) (args caps : List V) (s : St) (K : V → St → Prop) : Prop :=
 match Nat.beq f g with
 | true =>
   (match args, caps with
    | [.nil, .d (.v (.int .i64 n))], [] => 0 ≤ n ∧ n * by_ ≤ 140737488355328 ∧ n ≤ 4611686018427387904 ∧ (n = 0 → K .nil s) ∧ (n ≠ 0 → K (.own (freshK s.hp key)) (s.setB (freshK s.hp key) (.lst e sz [])))
    | _, _ => False)
 | false => I f args caps s K
theorem nextKey_lt : ∀ {hp : List (Nat × B)} {n : Nat}, (∀ k b, lk hp k = some b → k < nextKey hp n) ∧ n ≤ nextKey hp n
 | [], n => ⟨fun k b h => (by simp [lk] at h), Nat.le_refl _⟩
 | (a, x) :: r, n => by
   have ih := fun m => nextKey_lt (hp := r) (n := m)
   simp only [nextKey]
   split
   · rename_i h
     have h := Nat.le_of_ble_eq_true h
     refine ⟨fun k b hb => ?_, Nat.le_trans (Nat.le_succ_of_le h) (ih _).2⟩
     simp only [lk] at hb
     split at hb
     · rename_i e
       have := Nat.eq_of_beq_eq_true e
       subst this
       exact (ih _).2
     · exact (ih _).1 k b hb
   · rename_i h
     have h : ¬ n ≤ a := fun hle => by rw [Nat.ble_eq_true_of_le hle] at h; cases h
     refine ⟨fun k b hb => ?_, (ih _).2⟩
     simp only [lk] at hb
     split at hb
     · rename_i e
       have := Nat.eq_of_beq_eq_true e
       subst this
       exact Nat.lt_of_lt_of_le (Nat.lt_of_not_le h) (ih _).2
     · exact (ih _).1 k b hb
theorem freshK_none (hp : List (Nat × B)) (k : Nat) : lk hp (freshK hp k) = none := by
 unfold freshK
 split
 · assumption
 · cases h : lk hp (nextKey hp k) with
   | none => rfl
   | some b => exact absurd ((nextKey_lt (hp := hp) (n := k)).1 _ b h) (Nat.lt_irrefl _)
theorem growI_ok {gl : Nat → Option Obj} {I : Nat → List V → List V → St → (V → St → Prop) → Prop} (hI : IOk P gl I) {g e sz by_ key : Nat} (hpos : 0 < sz) (hf : FnOk P g)
   (h0 : ∀ w, Calls P g #[.slice none 0 0, .int .i64 (0 : Nat)] w fun e w' => e = .returned (.slice none 0 0) ∧ w' = w)
   (hn : ∀ (n : Nat) (w : World), 0 < n → n * by_ ≤ 140737488355328 → n ≤ 4611686018427387904 → Calls P g #[.slice none 0 0, .int .i64 n] w fun en w' => ∃ cap cells, n ≤ cap ∧ cap ≤ maxLen ∧ cells.size = cap * sz ∧
     en = .returned (.slice (some ⟨w.heap.size, 0, none⟩) 0 cap) ∧ w' = w.drew.alloc (.cells cells e)) : IOk P gl (growI I g e sz by_ key) := by
 intro B0 bx W0 ok0 Z N ok φ s a w f args caps K vs cs hgl r h hl hv hlc hc
 unfold growI at h
 split at h
 rotate_left
 · exact hI B0 bx W0 ok0 Z N ok φ s a w f args caps K vs cs hgl r h hl hv hlc hc
 rename_i hb
 have := Nat.eq_of_beq_eq_true hb
 subst this
 split at h
 rotate_left
 · exact h.elim
 rename_i n
 obtain ⟨h1, h2, h3, h4, h5⟩ := h
 refine ⟨hf, ?_⟩
 obtain ⟨x, y, rfl⟩ : ∃ x y, vs = [x, y] := by
   match vs, hl with
   | [x, y], _ => exact ⟨x, y, rfl⟩
 have : cs = [] := List.eq_nil_of_length_eq_zero (by simpa using hlc)
 subst this
 have hx := hv 0 _ x rfl rfl
 have hy := hv 1 _ y rfl rfl
 cases hx
 cases hy; rename_i hy
 cases hy
 obtain ⟨m, rfl⟩ := Int.eq_ofNat_of_zero_le h1
 have harr : ([Value.slice none 0 0, Value.int .i64 (m : Int)] ++ []).toArray = #[.slice none 0 0, .int .i64 (m : Int)] := rfl
 rw [harr]
 by_cases hm : m = 0
 · subst hm
   refine (h0 w).mono fun en w' ⟨e1, e2⟩ => ?_
   subst e2
   exact ⟨_, e1, .nil, s, ok, φ, h4 rfl, r, .nil, Frm.same_hp rfl⟩
 · refine (hn m w (by omega) (by rw [← Int.natCast_mul] at h2; omega) (by omega)).mono fun en w' ⟨cap, cells, e1, e2, e3, e4, e5⟩ => ?_
   subst e5
   obtain ⟨f1, f2, f3⟩ := own_new r (freshK_none s.hp key) (e := e) (sz := sz) hpos (v' := .slice (some ⟨w.heap.size, 0, none⟩) 0 cap) (w' := w.drew.alloc (.cells cells e)) (es := []) (news := [])
     ⟨by simp, .inr ⟨w.heap.size, cap, cells, rfl, Nat.le_refl _, heap_alloc_new w.drew _, Nat.zero_le _, e2, e3, by simp⟩⟩ ⟨rfl, rfl, rfl, by simp, fun k hk _ => heap_alloc_old w.drew _ k hk⟩
     (fun g hg => by simp [blockOf] at hg; subst hg; exact ⟨rfl, by simp⟩) (by simp) (by simp)
   exact ⟨_, e4, .own _, _, ok, _, h5 (by omega), f1, f2, f3.mono (by intro k hk; cases hk)⟩
def tiAt (te : List (Nat × TI)) (t : Nat) : TI := match lk te t with | some x => x | none => default
end Go.Dm
namespace Go.Ex
open Go.Dm
def encL2 (ls : List (List (List D))) : List (List D) := ls.map fun l => [.sl l]
def tot (ls : List (List (List D))) : Nat := (ls.map List.length).sum
def okTot (ls : List (List (List D))) (b : Nat) : Prop := ls.length ≤ 1353245080300 ∧ tot ls * b ≤ 140737488355328 ∧ tot ls ≤ 140737488355328
theorem encL2_len (ls : List (List (List D))) : (encL2 ls).length = ls.length := by simp [encL2]
theorem encL2_get {ls : List (List (List D))} {i : Nat} (h : i < ls.length) : (encL2 ls)[i]? = some [.sl ls[i]] := by simp [encL2, h]
theorem take_succ_get {α : Type} (l : List α) {i : Nat} (h : i < l.length) : l.take (i + 1) = l.take i ++ [l[i]] := by rw [List.take_add_one, List.getElem?_eq_getElem h]; rfl
theorem tot_next {ls : List (List (List D))} {i : Nat} (h : i < ls.length) : tot (ls.take (i + 1)) = tot (ls.take i) + ls[i].length := by
 simp only [tot, take_succ_get ls h, List.map_append, List.sum_append, List.map_cons, List.map_nil, List.sum_cons, List.sum_nil, Nat.add_zero]
theorem tot_le (ls : List (List (List D))) (i : Nat) : tot (ls.take i) ≤ tot ls := by
 have : tot ls = tot (ls.take i) + tot (ls.drop i) := by
   simp only [tot]
   rw [← List.sum_append, ← List.map_append, List.take_append_drop]
 omega
theorem flat_next {ls : List (List (List D))} {i : Nat} (h : i < ls.length) : (ls.take (i + 1)).flatten = (ls.take i).flatten ++ ls[i] := by
 rw [take_succ_get ls h, List.flatten_append, List.flatten_cons, List.flatten_nil, List.append_nil]
theorem flat_len (ls : List (List (List D))) : ls.flatten.length = tot ls := by simp [tot, List.length_flatten]
theorem wrap64_of {n : Int} (h0 : -9223372036854775808 ≤ n) (h1 : n < 9223372036854775808) : IntKind.i64.wrap n = n := by
 simp [IntKind.wrap, IntKind.signed, IntKind.bits]
 split <;> omega
end Go.Ex
namespace Go.Dm
inductive M (α : Type) where
 | ok (a : α)
 | no (w : Nat)
 deriving Inhabited
def xInt (op : BinOp) (k : IntKind) (a b : Int) : M V :=
 match op with
 | .add => .ok (.d (.v (.int k (k.wrap (a + b)))))
 | .sub => .ok (.d (.v (.int k (k.wrap (a - b)))))
 | .mul => .ok (.d (.v (.int k (k.wrap (a * b)))))
 | .quo => match decide (b = 0) with | true => .no 1 | false => .ok (.d (.v (.int k (k.wrap (a.tdiv b)))))
 | .rem => match decide (b = 0) with | true => .no 1 | false => .ok (.d (.v (.int k (a.tmod b))))
 | .and => .ok (.d (.v (.int k (aInt.bits .and k a b))))
 | .or => .ok (.d (.v (.int k (aInt.bits .or k a b))))
 | .xor => .ok (.d (.v (.int k (aInt.bits .xor k a b))))
 | .shl => match decide (0 ≤ b) with | true => .ok (.d (.v (.int k (aInt.shl k a b)))) | false => .no 2
 | .shr => match decide (0 ≤ b) with | true => .ok (.d (.v (.int k (aInt.shr k a b)))) | false => .no 2
 | .eql => .ok (vbool (a == b))
 | .neq => .ok (vbool (a != b))
 | .lss => .ok (vbool (decide (a < b)))
 | .leq => .ok (vbool (decide (a ≤ b)))
 | .gtr => .ok (vbool (decide (a > b)))
 | .geq => .ok (vbool (decide (a ≥ b)))
 | _ => .no 3
theorem xInt_sound {op : BinOp} {k : IntKind} {a b : Int} {v : V} {K : V → Prop} (h : xInt op k a b = .ok v) (hk : K v) : aInt op k a b K := by
 cases op <;> simp only [xInt, M.ok.injEq, reduceCtorEq] at h <;> simp only [aInt]
 all_goals first
   | (subst h; exact hk)
   | (split at h
      · cases h
      · rename_i hb; simp only [M.ok.injEq] at h; subst h; exact ⟨of_decide_eq_false hb, hk⟩)
   | (split at h
      · rename_i hb; simp only [M.ok.injEq] at h; subst h; exact ⟨of_decide_eq_true hb, hk⟩
      · cases h)
def okK : List CK → List D → Bool
 | [], [] => true
 | .int k :: r, .v (.int k' _) :: l => (match Nat.beq (ikNum k) (ikNum k') with | true => okK r l | false => false)
 | .bool :: r, .v (.bool _) :: l => okK r l
 | .str :: r, .v (.string _) :: l => okK r l
 | .sl :: r, .sl _ :: l => okK r l
 | .ptr :: r, _ :: l => okK r l
 | .fn :: r, _ :: l => okK r l
 | .iface :: r, _ :: l => okK r l
 | .map :: r, _ :: l => okK r l
 | .other :: r, _ :: l => okK r l
 | _, _ => false
theorem ikNum_inj {a b : IntKind} (h : ikNum a = ikNum b) : a = b := by cases a <;> cases b <;> first | rfl | (exact absurd h (by decide))
theorem okK_sound : ∀ {ck : List CK} {l : List D} {F : List D → Prop}, okK ck l = true → F l → exK ck F
 | [], [], F, _, h => h
 | .int k :: r, .v (.int k' n) :: l, F, h, hf => by
   simp only [okK] at h
   split at h
   · rename_i hb
     have := ikNum_inj (Nat.eq_of_beq_eq_true hb)
     subst this
     exact ⟨n, okK_sound h hf⟩
   · cases h
 | .bool :: r, .v (.bool b) :: l, F, h, hf => ⟨b, okK_sound (F := fun l => F (.v (.bool b) :: l)) (by simpa only [okK] using h) hf⟩
 | .str :: r, .v (.string b) :: l, F, h, hf => ⟨b, okK_sound (F := fun l => F (.v (.string b) :: l)) (by simpa only [okK] using h) hf⟩
 | .sl :: r, .sl es :: l, F, h, hf => ⟨es, okK_sound (F := fun l => F (.sl es :: l)) (by simpa only [okK] using h) hf⟩
 | .ptr :: r, x :: l, F, h, hf => ⟨x, okK_sound (F := fun l => F (x :: l)) (by simpa only [okK] using h) hf⟩
 | .fn :: r, x :: l, F, h, hf => ⟨x, okK_sound (F := fun l => F (x :: l)) (by simpa only [okK] using h) hf⟩
 | .iface :: r, x :: l, F, h, hf => ⟨x, okK_sound (F := fun l => F (x :: l)) (by simpa only [okK] using h) hf⟩
 | .map :: r, x :: l, F, h, hf => ⟨x, okK_sound (F := fun l => F (x :: l)) (by simpa only [okK] using h) hf⟩
 | .other :: r, x :: l, F, h, hf => ⟨x, okK_sound (F := fun l => F (x :: l)) (by simpa only [okK] using h) hf⟩
def xLoadC (ti : TI) (cells : List D) (off : Nat) : M V :=
 match cut off ti.ck.length cells with
 | none => .no 10
 | some l => match okK ti.ck l with
   | false => .no 11
   | true => match ofCells ti.agg (vd l) with | some v => .ok v | none => .no 12
theorem xLoadC_sound {ti : TI} {cells : List D} {off : Nat} {v : V} {K : V → Prop} (h : xLoadC ti cells off = .ok v) (hk : K v) : loadC ti cells off K := by
 unfold xLoadC at h
 split at h
 · cases h
 rename_i l hl
 split at h
 · cases h
 rename_i ho
 split at h
 · rename_i v' hv
   simp only [M.ok.injEq] at h; subst h
   exact okK_sound ho ⟨hl, by rw [hv]; exact hk⟩
 · cases h
def xLoad (ti : TI) (s : St) (a : V) : M V :=
 match a with
 | .ref k off =>
   match lk s.hp k with
   | some (.box cs) =>
     (match cut off ti.ck.length cs with
      | some l => (match ofCells ti.agg l with | some v => .ok v | none => .no 13)
      | none => .no 14)
   | _ => .no 15
 | .optr k i off =>
   match lk s.hp k with
   | some (.lst _ _ es) => (match nth es i with | some cells => xLoadC ti cells off | none => .no 16)
   | some (.fro _ es) => (match nth es i with | some cells => xLoadC ti cells off | none => .no 16)
   | _ => .no 17
 | .dptr cs => xLoadC ti cs 0
 | _ => .no 18
theorem xLoad_sound {ti : TI} {s : St} {a : V} {v : V} {K : V → Prop} (h : xLoad ti s a = .ok v) (hk : K v) : aLoad ti s a K := by
 unfold xLoad at h
 split at h
 · split at h
   · rename_i cs hb
     split at h
     · rename_i l hl
       split at h
       · rename_i v' hv
         simp only [M.ok.injEq] at h; subst h
         simp only [aLoad, hb, hl, hv]; exact hk
       · cases h
     · cases h
   · cases h
 · split at h
   · rename_i es hb
     split at h
     · rename_i cells hn
       rw [nth_get] at hn
       simp only [aLoad, hb]
       exact ⟨cells, hn, xLoadC_sound h hk⟩
     · cases h
   · rename_i es hb
     split at h
     · rename_i cells hn
       rw [nth_get] at hn
       simp only [aLoad, hb]
       exact ⟨cells, hn, xLoadC_sound h hk⟩
     · cases h
   · cases h
 · exact xLoadC_sound h hk
 · cases h
def xStore (ti : TI) (s : St) (a x : V) : M St :=
 match cellsOf x with
 | none => .no 20
 | some xs =>
   match cellVs xs, Nat.beq xs.length ti.ck.length with
   | false, _ => .no 21
   | true, false => .no 22
   | true, true =>
   match a with
   | .ref k off =>
     match lk s.hp k with
     | some (.box cs) => (match over off xs cs with | some cs' => .ok (s.setB k (.box cs')) | none => .no 23)
     | _ => .no 24
   | .optr k i off =>
     match toDs s xs with
     | none => .no 25
     | some (ds, s) =>
       match lk s.hp k with
       | some (.lst e sz es) => (match nth es i with
         | some cells => (match over off ds cells with | some cells' => .ok (s.setB k (.lst e sz (es.set i cells'))) | none => .no 26)
         | none => .no 27)
       | _ => .no 28
   | _ => .no 29
theorem xStore_sound {ti : TI} {s : St} {a x : V} {s' : St} {K : St → Prop} (h : xStore ti s a x = .ok s') (hk : K s') : aStore ti s a x K := by
 unfold xStore at h
 unfold aStore
 split at h
 · cases h
 rename_i xs hxs
 rw [hxs]
 dsimp only
 split at h
 · cases h
 · cases h
 rename_i h1 h2
 rw [h1, h2]
 dsimp only
 split at h
 · split at h
   · rename_i cs hb
     split at h
     · rename_i cs' ho
       simp only [M.ok.injEq] at h; subst h
       simp only [hb, ho]; exact hk
     · cases h
   · cases h
 · split at h
   · cases h
   rename_i ds s1 hds
   simp only [hds]
   split at h
   · rename_i e sz es hb
     split at h
     · rename_i cells hn
       split at h
       · rename_i cells' ho
         simp only [M.ok.injEq] at h; subst h
         rw [nth_get] at hn
         simp only [hb]
         exact ⟨cells, hn, cells', ho, hk⟩
       · cases h
     · cases h
   · cases h
 · cases h
def xList (x : V) (s : St) : M (List (List D)) :=
 match x with
 | .nil => .ok []
 | .own k => (match lk s.hp k with | some (.lst _ _ es) => .ok es | some (.fro _ es) => .ok es | _ => .no 30)
 | .d (.sl es) => .ok es
 | _ => .no 31
theorem xList_sound {x : V} {s : St} {es : List (List D)} {K : List (List D) → Prop} (h : xList x s = .ok es) (hk : K es) : aList x s K := by
 unfold xList at h
 split at h
 · simp only [M.ok.injEq] at h; subst h; exact hk
 · split at h
   · rename_i hb; simp only [M.ok.injEq] at h; subst h; simp only [aList, hb]; exact hk
   · rename_i hb; simp only [M.ok.injEq] at h; subst h; simp only [aList, hb]; exact hk
   · cases h
 · simp only [M.ok.injEq] at h; subst h; exact ⟨_, rfl, hk⟩
 · cases h
def isStr (E : Env) (t : Nat) : Bool := match E.ti t with | some { ck := [.str], td := .plain, .. } => true | _ => false
def xBin (E : Env) (op : BinOp) (t : Nat) (x y : V) : M V :=
 match x, y with
 | .d (.v (.int k a)), .d (.v (.int k' b)) =>
   (match op, Nat.beq (ikNum k) (ikNum k') with
    | .shl, _ => xInt op k a b
    | .shr, _ => xInt op k a b
    | _, true => xInt op k a b
    | _, false => .no 40)
 | .d (.v (.string a)), .d (.v (.string b)) =>
   (match op with
    | .add => (match decide (a.size + b.size ≤ 9223372036854775807) with | true => .ok (.d (.v (.string (a ++ b)))) | false => .no 41)
    | .eql => .ok (vbool (a == b))
    | .neq => .ok (vbool (!(a == b)))
    | .lss => .ok (vbool (Op.bytesLess a.toList b.toList))
    | .leq => .ok (vbool (Op.bytesLess a.toList b.toList || a == b))
    | .gtr => .ok (vbool (!(Op.bytesLess a.toList b.toList || a == b)))
    | .geq => .ok (vbool (!Op.bytesLess a.toList b.toList))
    | _ => .no 42)
 | .d (.v (.bool a)), .d (.v (.bool b)) =>
   (match E.ti t with
    | some { ck := [.bool], td := .plain, .. } => (match op with | .eql => .ok (vbool (a == b)) | .neq => .ok (vbool (!(a == b))) | _ => .no 43)
    | _ => .no 44)
 | .d (.v (.pointer none)), .d (.v (.pointer none)) =>
   (match E.ti t with
    | some { td := .ptr _, .. } => (match op with | .eql => .ok (vbool true) | .neq => .ok (vbool false) | _ => .no 45)
    | _ => .no 46)
 | .dptr _, .d (.v (.pointer none)) =>
   (match E.ti t with
    | some { td := .ptr _, .. } => (match op with | .eql => .ok (vbool false) | .neq => .ok (vbool true) | _ => .no 45)
    | _ => .no 46)
 | .ref _ _, .d (.v (.pointer none)) =>
   (match E.ti t with
    | some { td := .ptr _, .. } => (match op with | .eql => .ok (vbool false) | .neq => .ok (vbool true) | _ => .no 45)
    | _ => .no 46)
 | .d (.sl es), .nil =>
   (match E.ti t with
    | some { td := .slice _, .. } => (match op, es with | .eql, _ :: _ => .ok (vbool false) | .neq, _ :: _ => .ok (vbool true) | _, _ => .no 51)
    | _ => .no 52)
 | .nil, .nil =>
   (match E.ti t with
    | some { td := .slice _, .. } => (match op with | .eql => .ok (vbool true) | .neq => .ok (vbool false) | _ => .no 53)
    | _ => .no 54)
 | .agg xs, .agg ys =>
   (match E.ti t with
    | some ti =>
      (match ti.agg, ti.eq, eqCells ti.ck xs ys with
       | true, true, some b => (match op with | .eql => .ok (vbool b) | .neq => .ok (vbool (!b)) | _ => .no 47)
       | _, _, _ => .no 48)
    | none => .no 49)
 | _, _ => .no 50
theorem xBin_sound {E : Env} {op : BinOp} {t : Nat} {x y v : V} {K : V → Prop} (h : xBin E op t x y = .ok v) (hk : K v) : aBin E op t x y K := by
 unfold xBin at h
 split at h
 · simp only [aBin]
   split at h
   · exact xInt_sound h hk
   · exact xInt_sound h hk
   · rename_i o1 o2 x1 h1 h2 h3
     rw [h3]
     cases o1 <;> first | exact xInt_sound h hk | (exact (h1 rfl).elim) | (exact (h2 rfl).elim)
   · cases h
 · simp only [aBin]
   split at h
   · split at h
     · rename_i hb; simp only [M.ok.injEq] at h; subst h; exact ⟨of_decide_eq_true hb, hk⟩
     · cases h
   all_goals first | (simp only [M.ok.injEq] at h; subst h; exact hk) | cases h
 all_goals first
   | (simp only [aBin]
      split at h
      · rename_i hti
        simp only [hti]
        intro b hb
        split at h <;> first | (simp only [M.ok.injEq] at h; subst h; cases b with | false => exact hk | true => cases hb rfl) | cases h
      · cases h)
   | (simp only [aBin]
      split at h
      · rename_i hti
        simp only [hti]
        split at h <;> first | (simp only [M.ok.injEq] at h; subst h; exact hk) | cases h
      · cases h)
   | (simp only [aBin]
      split at h
      · rename_i ti hti
        simp only [hti]
        split at h
        · rename_i h1 h2 h3
          simp only [h1, h2, h3]
          split at h <;> first | (simp only [M.ok.injEq] at h; subst h; exact hk) | cases h
        · cases h
      · cases h)
   | cases h
def xBound (s : St) (g : List (Nat × Bool)) (o : Option Operand) (dflt : Nat) : M Nat :=
 match o with
 | none => .ok dflt
 | some o => match ev s g o with
   | .d (.v (.int .i64 (.ofNat n))) => .ok n
   | _ => .no 60
theorem xBound_sound {s : St} {g : List (Nat × Bool)} {o : Option Operand} {d n : Nat} (h : xBound s g o d = .ok n) : (match (generalizing := false) o with | some o => ev s g o = .d (.v (.int .i64 n)) | none => n = d) := by
 cases o with
 | none => simp only [xBound, M.ok.injEq] at h; exact h.symm
 | some o =>
   simp only [xBound] at h
   split at h
   · rename_i hv; simp only [M.ok.injEq] at h; subst h; exact hv
   · cases h
def allLen (n : Nat) : List (List D) → Bool
 | [] => true
 | c :: r => match Nat.beq c.length n with | true => allLen n r | false => false
theorem allLen_sound {n : Nat} : ∀ {l : List (List D)}, allLen n l = true → ∀ c ∈ l, c.length = n
 | [], _, c, hc => by cases hc
 | x :: l, h, c, hc => by
   simp only [allLen] at h
   split at h
   · rename_i hb
     rcases List.mem_cons.1 hc with rfl | hc
     · exact Nat.eq_of_beq_eq_true hb
     · exact allLen_sound h c hc
   · cases h
def inB (n : Int) (len : Nat) : Option Nat :=
 match n with
 | .ofNat m => (match Nat.ble (Nat.succ m) len with | true => some m | false => none)
 | _ => none
theorem inB_sound {n : Int} {len m : Nat} (h : inB n len = some m) : n = (m : Int) ∧ m < len := by
 unfold inB at h
 split at h
 · split at h
   · rename_i hb
     simp only [Option.some.injEq] at h; subst h
     exact ⟨rfl, Nat.le_of_ble_eq_true hb⟩
   · cases h
 · cases h
def xIndexAddr (E : Env) (s : St) (g : List (Nat × Bool)) (t : Nat) (x i : Operand) : M V :=
 match E.ti t, ev s g i with
 | some { td := .slice e, .. }, .d (.v (.int _ n)) =>
   (match E.ti e with
    | some ei =>
      (match ev s g x with
       | .own k =>
         (match lk s.hp k with
          | some (.lst _ sz es) => (match inB n es.length, Nat.beq sz ei.ck.length with | some m, true => .ok (.optr k m 0) | _, _ => .no 61)
          | some (.fro sz es) => (match inB n es.length, Nat.beq sz ei.ck.length with | some m, true => .ok (.optr k m 0) | _, _ => .no 61)
          | _ => .no 62)
       | .d (.sl es) => (match inB n es.length with
         | some m => (match nth es m with
           | some cells => (match Nat.beq cells.length ei.ck.length with | true => .ok (.dptr cells) | false => .no 63)
           | none => .no 64)
         | none => .no 65)
       | _ => .no 66)
    | none => .no 67)
 | some { td := .arr len e, .. }, .d (.v (.int _ n)) =>
   (match E.ti e with
    | some ei =>
      (match inB n len with
       | some m =>
         (match ev s g x with
          | .ref k off => .ok (.ref k (off + m * ei.ck.length))
          | .optr k i off => .ok (.optr k i (off + m * ei.ck.length))
          | .dptr cs => .ok (.dptr (dropN (m * ei.ck.length) cs))
          | _ => .no 68)
       | none => .no 65)
    | none => .no 67)
 | _, _ => .no 69
def xIndex (E : Env) (s : St) (g : List (Nat × Bool)) (t : Nat) (x i : Operand) : M V :=
 match ev s g x, ev s g i with
 | .d (.v (.string b)), .d (.v (.int _ (.ofNat n))) => (match isStr E t, b[n]? with | true, some c => .ok (.d (.v (.int .u8 c.toNat))) | _, _ => .no 70)
 | .agg cs, .d (.v (.int _ n)) =>
   (match E.ti t with
    | some { td := .arr len e, .. } =>
      (match E.ti e with
       | some ei => (match inB n len with
         | some m =>
           (match cut (m * ei.ck.length) ei.ck.length cs with
            | some l => (match ofCells ei.agg l with | some v => .ok v | none => .no 71)
            | none => .no 72)
         | none => .no 73)
       | none => .no 74)
    | _ => .no 75)
 | _, _ => .no 76
def elemLen (E : Env) (t : Nat) : Option Nat := match E.ti t with | some { td := .slice e, .. } => (match E.ti e with | some ei => some ei.ck.length | none => none) | _ => none
def xSlice (E : Env) (s : St) (g : List (Nat × Bool)) (t : Nat) (x : Operand) (lo hi mx : Option Operand) : M V :=
 match mx with
 | none =>
   (match ev s g x with
    | .d (.v (.string b)) =>
      (match xBound s g lo 0, xBound s g hi b.size with
       | .ok l, .ok h => (match Nat.ble l h, Nat.ble h b.size, isStr E t with | true, true, true => .ok (.d (.v (.string (b.extract l h)))) | _, _, _ => .no 80)
       | _, _ => .no 81)
    | .d (.sl es) =>
      (match xBound s g lo 0, xBound s g hi es.length, elemLen E t with
       | .ok l, .ok h, some n => (match Nat.ble l h, Nat.ble h es.length, allLen n es with | true, true, true => .ok (.d (.sl ((es.take h).drop l))) | _, _, _ => .no 82)
       | _, _, _ => .no 83)
    | .ref k 0 =>
      (match lo, hi, E.ti t with
       | none, none, some { td := .arr n e, .. } => (match E.ti e with | some ei => .ok (.arrv k n ei.ck.length) | none => .no 85)
       | _, _, _ => .no 86)
    | _ => .no 84)
 | some mx =>
   (match ev s g x with
    | .d (.sl es) =>
      (match xBound s g lo 0, hi, xBound s g (some mx) 0, elemLen E t with
       | .ok l, some hi, .ok m, some n =>
         (match xBound s g (some hi) 0 with
          | .ok h => (match Nat.ble l h, Nat.ble h m, Nat.ble m es.length, allLen n es with | true, true, true, true => .ok (.d (.sl ((es.take h).drop l))) | _, _, _, _ => .no 85)
          | _ => .no 86)
       | _, _, _, _ => .no 87)
    | _ => .no 88)
def bytesOf : List (List D) → Option (List UInt8)
 | [] => some []
 | [.v (.int .u8 (.ofNat n))] :: r => (match Nat.ble n 255, bytesOf r with | true, some l => some (UInt8.ofNat n :: l) | _, _ => none)
 | _ => none
theorem bytesOf_sound : ∀ {es : List (List D)} {l : List UInt8}, bytesOf es = some l → es = bytesL l
 | [], l, h => by simp only [bytesOf, Option.some.injEq] at h; subst h; rfl
 | e :: r, l, h => by
   unfold bytesOf at h
   split at h
   · rename_i h0; cases h0
   · rename_i n r' h0
     obtain ⟨rfl, rfl⟩ := List.cons.inj h0
     split at h
     · rename_i l' h1 h2
       simp only [Option.some.injEq] at h; subst h
       have hn := Nat.le_of_ble_eq_true h1
       simp only [bytesL]
       rw [bytesOf_sound h2]
       have : (UInt8.ofNat n).toNat = n := by simp; omega
       rw [this]
       rfl
     · cases h
   · cases h
def xIfn (E : Env) (op : BinOp) (t : Nat) (x : V) : M V :=
 match E.ti t with
 | some { td := .iface, .. } =>
   (match op, x with
    | .eql, .d .opq => .ok (vbool false)
    | .neq, .d .opq => .ok (vbool true)
    | .eql, .d (.v .nilIface) => .ok (vbool true)
    | .neq, .d (.v .nilIface) => .ok (vbool false)
    | _, _ => .no 130)
 | _ => .no 131
theorem xIfn_sound {E : Env} {op : BinOp} {t : Nat} {x v : V} {K : V → Prop} (h : xIfn E op t x = .ok v) (hk : K v) : aIfn E op t x K := by
 unfold xIfn at h
 unfold aIfn
 split at h
 · rename_i he
   rw [he]
   dsimp only
   split at h <;> first | (cases h; exact hk) | (cases h; done)
 · cases h
def xVal (E : Env) (s : St) (g : List (Nat × Bool)) (op : Op) : M V :=
 match op with
 | .move x => .ok (ev s g x)
 | .assign x => .ok (ev s g x)
 | .pick c a b =>
   (match ev s g c, ev s g a, ev s g b with
    | .d (.v (.bool t)), .d (.v (.bool x)), .d (.v (.bool y)) => .ok (vbool (cond t x y))
    | _, _, _ => .no 90)
 | .load t a => (match E.ti t with | some ti => xLoad ti s (ev s g a) | none => .no 91)
 | .nilCheck x =>
   (match ev s g x with
    | .ref k o => .ok (.ref k o)
    | .optr k i o => .ok (.optr k i o)
    | .dptr cs => .ok (.dptr cs)
    | .fn f cs => .ok (.fn f cs)
    | _ => .no 92)
 | .binOp op t x y _ => (match isNilC y with | true => xIfn E op t (ev s g x) | false => xBin E op t (ev s g x) (ev s g y))
 | .unOp op _ x =>
   (match op, ev s g x with
    | .not, .d (.v (.bool b)) => .ok (vbool (!b))
    | .neg, .d (.v (.int k n)) => .ok (.d (.v (.int k (k.wrap (0 - n)))))
    | .xor, .d (.v (.int k n)) => .ok (.d (.v (.int k (aInt.bits .xor k (if k.signed then -1 else k.max) n))))
    | _, _ => .no 93)
 | .convert t0 t x =>
   (match E.ti t0, E.ti t, ev s g x with
    | some { td := .plain, .. }, some { ck := [.int k], td := .plain, .. }, .d (.v (.int _ n)) => .ok (.d (.v (.int k (k.wrap n))))
    | some { td := .plain, .. }, some { ck := [.str], td := .plain, .. }, .d (.v (.string b)) => .ok (.d (.v (.string b)))
    | some { td := .slice e, .. }, some { ck := [.str], td := .plain, .. }, v =>
      (match E.ti e with
       | some { ck := [.int .u8], td := .plain, .. } => (match xList v s with
         | .no w => .no w
         | .ok es => (match bytesOf es with | some l => .ok (.d (.v (.string ⟨l.toArray⟩))) | none => .no 93))
       | _ => .no 89)
    | _, _, _ => .no 94)
 | .extract x i =>
   (match ev s g x with
    | .tup vs => (match nth vs i with | some v => .ok v | none => .no 95)
    | _ => .no 96)
 | .fieldAddr t x f =>
   (match E.ti t with
    | some { td := .struct fs, .. } =>
      (match nth fs f with
       | some (o, ft) =>
         (match E.ti ft, ev s g x with
          | some _, .ref k off => .ok (.ref k (off + o))
          | some _, .optr k i off => .ok (.optr k i (off + o))
          | some _, .dptr cs => .ok (.dptr (dropN o cs))
          | _, _ => .no 97)
       | none => .no 98)
    | _ => .no 99)
 | .field t x f =>
   (match E.ti t with
    | some { td := .struct fs, .. } =>
      (match nth fs f with
       | some (o, ft) =>
         (match E.ti ft, ev s g x with
          | some fi, .agg cs =>
            (match cut o fi.ck.length cs with
             | some l => (match ofCells fi.agg l with | some v => .ok v | none => .no 100)
             | none => .no 101)
          | _, _ => .no 102)
       | none => .no 103)
    | _ => .no 104)
 | .indexAddr t x i => xIndexAddr E s g t x i
 | .index t x i => xIndex E s g t x i
 | .slice t x lo hi mx => xSlice E s g t x lo hi mx
 | .build t parts =>
   (match E.ti t with
    | some { agg := true, ck := ck, td := .struct fs, .. } =>
      (match aVal.fillS E s g fs (zeros ck) parts.toList with | some cs => .ok (.agg cs) | none => .no 105)
    | some { agg := true, ck := ck, td := .arr _ e, .. } =>
      (match E.ti e with
       | some ei => (match aVal.fillA s g ei.ck.length (zeros ck) parts.toList with | some cs => .ok (.agg cs) | none => .no 106)
       | none => .no 107)
    | _ => .no 108)
 | .makeFunc (.func f) first caps =>
   (match first.toList with
    | [] => .ok (.fn f (evs s g caps.toList))
    | _ => .no 109)
 | .call { callee := .builtin .len, args := args, argTypes := tys } =>
   (match args.toList, tys.toList with
    | [x], [t] =>
      (match ev s g x, E.ti t with
       | .d (.v (.string b)), some { ck := [.str], td := .plain, .. } => .ok (.d (.v (.int .i64 b.size)))
       | .d (.v (.string _)), _ => .no 110
       | v, some { td := .slice _, .. } => (match xList v s with | .ok es => .ok (.d (.v (.int .i64 es.length))) | .no w => .no w)
       | _, _ => .no 111)
    | _, _ => .no 112)
 | .call { callee := .builtin .min, args := args, .. } =>
   (match evs s g args.toList with
    | [.d (.v (.int k a)), .d (.v (.int _ b))] => .ok (.d (.v (.int k (if b < a then b else a))))
    | _ => .no 113)
 | .call { callee := .builtin .max, args := args, .. } =>
   (match evs s g args.toList with
    | [.d (.v (.int k a)), .d (.v (.int _ b))] => .ok (.d (.v (.int k (if b > a then b else a))))
    | _ => .no 114)
 | _ => .no 115
theorem isStr_sound {E : Env} {t : Nat} (h : isStr E t = true) : (match E.ti t with | some { ck := [.str], td := .plain, .. } => True | _ => False) := by
 unfold isStr at h
 split at h
 · rename_i hti; first | trivial | (rw [hti]; trivial)
 · cases h
theorem elemLen_sound {E : Env} {t n : Nat} (h : elemLen E t = some n) {es : List (List D)} (hl : allLen n es = true) :
   (match E.ti t with | some { td := .slice e, .. } => (match E.ti e with | some ei => (∀ c ∈ es, c.length = ei.ck.length) | none => False) | _ => False) := by
 unfold elemLen at h
 split at h
 · rename_i hti
   split at h
   · rename_i ei hei
     simp only [Option.some.injEq] at h; subst h
     first | exact allLen_sound hl | (simp only [hei]; exact allLen_sound hl) | (simp only [hti, hei]; exact allLen_sound hl)
   · cases h
 · cases h
theorem xIndexAddr_sound {E : Env} {s : St} {g : List (Nat × Bool)} {t : Nat} {x i : Operand} {v : V} {K : V → Prop} (h : xIndexAddr E s g t x i = .ok v) (hk : K v) : aVal E s g (.indexAddr t x i) K := by
 unfold xIndexAddr at h
 simp only [aVal]
 split at h
 · rename_i e kk n hti hi
   simp only [hti, hi]
   split at h
   rotate_left
   · cases h
   rename_i ei hei
   simp only [hei]
   split at h
   · rename_i k hx
     simp only [hx]
     split at h
     · rename_i e' sz es hb
       simp only [hb]
       split at h
       · rename_i m h1 h2
         simp only [M.ok.injEq] at h; subst h
         obtain ⟨rfl, hlt⟩ := inB_sound h1
         exact ⟨⟨Int.natCast_nonneg _, by omega⟩, Nat.eq_of_beq_eq_true h2, by simpa using hk⟩
       · cases h
     · rename_i sz es hb
       simp only [hb]
       split at h
       · rename_i m h1 h2
         simp only [M.ok.injEq] at h; subst h
         obtain ⟨rfl, hlt⟩ := inB_sound h1
         exact ⟨⟨Int.natCast_nonneg _, by omega⟩, Nat.eq_of_beq_eq_true h2, by simpa using hk⟩
       · cases h
     · cases h
   · rename_i es hx
     simp only [hx]
     split at h
     rotate_left
     · cases h
     rename_i m h1
     split at h
     rotate_left
     · cases h
     rename_i cells hn
     split at h
     rotate_left
     · cases h
     rename_i h2
     simp only [M.ok.injEq] at h; subst h
     obtain ⟨rfl, hlt⟩ := inB_sound h1
     rw [nth_get] at hn
     exact ⟨es, rfl, ⟨Int.natCast_nonneg _, by omega⟩, cells, by simpa using hn, Nat.eq_of_beq_eq_true h2, hk⟩
   · cases h
 · rename_i len e kk n hti hi
   simp only [hti, hi]
   split at h
   rotate_left
   · cases h
   rename_i ei hei
   simp only [hei]
   split at h
   rotate_left
   · cases h
   rename_i m h1
   obtain ⟨rfl, hlt⟩ := inB_sound h1
   refine ⟨⟨Int.natCast_nonneg _, by omega⟩, ?_⟩
   split at h
   all_goals first
     | (rename_i hx; simp only [M.ok.injEq] at h; subst h; simp only [hx]; simpa using hk)
     | cases h
 · cases h
theorem xIndex_sound {E : Env} {s : St} {g : List (Nat × Bool)} {t : Nat} {x i : Operand} {v : V} {K : V → Prop} (h : xIndex E s g t x i = .ok v) (hk : K v) : aVal E s g (.index t x i) K := by
 unfold xIndex at h
 simp only [aVal]
 split at h
 · rename_i b kk n hx hi
   simp only [hx, hi]
   split at h
   rotate_left
   · cases h
   rename_i c h1 h2
   simp only [M.ok.injEq] at h; subst h
   exact ⟨Int.natCast_nonneg _, isStr_sound h1, c, by simpa using h2, hk⟩
 · rename_i cs kk n hx hi
   simp only [hx, hi]
   split at h
   rotate_left
   · cases h
   rename_i len e hti
   simp only [hti]
   split at h
   rotate_left
   · cases h
   rename_i ei hei
   simp only [hei]
   split at h
   rotate_left
   · cases h
   rename_i m h1
   obtain ⟨rfl, hlt⟩ := inB_sound h1
   split at h
   rotate_left
   · cases h
   rename_i l hl
   split at h
   rotate_left
   · cases h
   rename_i v' hv
   simp only [M.ok.injEq] at h; subst h
   refine ⟨⟨Int.natCast_nonneg _, by omega⟩, aIdx_of hlt ?_⟩
   simp only [hl, hv]; exact hk
 · cases h
theorem xSlice_sound {E : Env} {s : St} {g : List (Nat × Bool)} {t : Nat} {x : Operand} {lo hi mx : Option Operand} {v : V} {K : V → Prop} (h : xSlice E s g t x lo hi mx = .ok v) (hk : K v) : aVal E s g (.slice t x lo hi mx) K := by
 unfold xSlice at h
 cases mx with
 | none =>
   simp only [aVal]
   dsimp only at h
   split at h
   · rename_i b hx
     simp only [hx]
     split at h
     rotate_left
     · cases h
     rename_i l m h1 h2
     split at h
     rotate_left
     · cases h
     rename_i h3 h4 h5
     simp only [M.ok.injEq] at h; subst h
     exact ⟨l, m, xBound_sound h1, xBound_sound h2, Nat.le_of_ble_eq_true h3, Nat.le_of_ble_eq_true h4, isStr_sound h5, hk⟩
   · rename_i es hx
     simp only [hx]
     split at h
     rotate_left
     · cases h
     rename_i l m n h1 h2 h6
     split at h
     rotate_left
     · cases h
     rename_i h3 h4 h5
     simp only [M.ok.injEq] at h; subst h
     exact ⟨es, rfl, l, m, xBound_sound h1, xBound_sound h2, Nat.le_of_ble_eq_true h3, Nat.le_of_ble_eq_true h4, elemLen_sound h6 h5, hk⟩
   · rename_i k hx
     simp only [hx]
     split at h
     rotate_left
     · cases h
     rename_i hti
     simp only [hti]
     split at h
     rotate_left
     · cases h
     rename_i ei hei
     simp only [M.ok.injEq] at h; subst h
     simp only [hei]; exact hk
   · cases h
 | some mx =>
   simp only [aVal]
   dsimp only at h
   split at h
   · rename_i es hx
     simp only [hx]
     split at h
     rotate_left
     · cases h
     rename_i l hi' m n h1 h2 h6
     split at h
     rotate_left
     · cases h
     rename_i hh h7
     split at h
     rotate_left
     · cases h
     rename_i h3 h4 h5 h8
     simp only [M.ok.injEq] at h; subst h
     exact ⟨es, rfl, l, hh, m, xBound_sound h1, xBound_sound h7, xBound_sound h2, Nat.le_of_ble_eq_true h3, Nat.le_of_ble_eq_true h4, Nat.le_of_ble_eq_true h5, elemLen_sound h6 h8, hk⟩
   · cases h
theorem xVal_sound {E : Env} {s : St} {g : List (Nat × Bool)} {op : Op} {v : V} {K : V → Prop} (h : xVal E s g op = .ok v) (hk : K v) : aVal E s g op K := by
 unfold xVal at h
 split at h
 · simp only [M.ok.injEq] at h; subst h; exact hk
 · simp only [M.ok.injEq] at h; subst h; exact hk
 · simp only [aVal]
   split at h
   · rename_i h1 h2 h3; simp only [M.ok.injEq] at h; subst h; simp only [h1, h2, h3]; exact hk
   · cases h
 · simp only [aVal]
   split at h
   · rename_i ti hti; simp only [hti]; exact xLoad_sound h hk
   · cases h
 · simp only [aVal]
   split at h
   all_goals first
     | (rename_i hx; simp only [M.ok.injEq] at h; subst h; simp only [hx]; exact hk)
     | cases h
 · simp only [aVal]
   split at h
   · rename_i hc; rw [hc]; exact xIfn_sound h hk
   · rename_i hc; rw [hc]; exact xBin_sound h hk
 · simp only [aVal]
   split at h
   all_goals first
     | (rename_i hx; simp only [M.ok.injEq] at h; subst h; simp only [hx]; exact hk)
     | cases h
 · simp only [aVal]
   split at h
   · rename_i h1 h2 h3; simp only [M.ok.injEq] at h; subst h; simp only [h1, h2, h3]; exact hk
   · rename_i h1 h2 h3; simp only [M.ok.injEq] at h; subst h; simp only [h1, h2, h3]; exact hk
   · rename_i h1 h2
     simp only [h1, h2]
     split at h
     · rename_i h3
       simp only [h3]
       split at h
       · cases h
       rename_i es hes
       split at h
       · rename_i l hl
         simp only [M.ok.injEq] at h; subst h
         exact xList_sound hes ⟨⟨l.toArray⟩, by simpa using bytesOf_sound hl, hk⟩
       · cases h
     · cases h
   · cases h
 · simp only [aVal]
   split at h
   · rename_i hx
     simp only [hx]
     split at h
     · rename_i hn; simp only [M.ok.injEq] at h; subst h; simp only [hn]; exact hk
     · cases h
   · cases h
 · simp only [aVal]
   split at h
   rotate_left
   · cases h
   rename_i hti
   simp only [hti]
   split at h
   rotate_left
   · cases h
   rename_i hn
   simp only [hn]
   split at h
   all_goals first
     | (rename_i h1 h2; simp only [M.ok.injEq] at h; subst h; simp only [h1, h2]; exact hk)
     | cases h
 · simp only [aVal]
   split at h
   rotate_left
   · cases h
   rename_i hti
   simp only [hti]
   split at h
   rotate_left
   · cases h
   rename_i hn
   simp only [hn]
   split at h
   rotate_left
   · cases h
   rename_i h1 h2
   simp only [h1, h2]
   split at h
   rotate_left
   · cases h
   rename_i hl
   simp only [hl]
   split at h
   rotate_left
   · cases h
   rename_i hv
   simp only [M.ok.injEq] at h; subst h
   simp only [hv]; exact hk
 · exact xIndexAddr_sound h hk
 · exact xIndex_sound h hk
 · exact xSlice_sound h hk
 · simp only [aVal]
   split at h
   · rename_i hti
     simp only [hti]
     split at h
     · rename_i hf; simp only [M.ok.injEq] at h; subst h; simp only [hf]; exact hk
     · cases h
   · rename_i hti
     simp only [hti]
     split at h
     rotate_left
     · cases h
     rename_i ei hei
     simp only [hei]
     split at h
     · rename_i hf; simp only [M.ok.injEq] at h; subst h; simp only [hf]; exact hk
     · cases h
   · cases h
 · simp only [aVal]
   split at h
   · rename_i hf; simp only [M.ok.injEq] at h; subst h; simp only [hf]; exact hk
   · cases h
 · simp only [aVal]
   split at h
   rotate_left
   · cases h
   rename_i hargs htys
   simp only [hargs, htys]
   split at h
   · rename_i h1 h2; simp only [M.ok.injEq] at h; subst h; simp only [h1, h2]; exact hk
   · cases h
   · rename_i h1 h2
     split at h
     · rename_i es hes
       simp only [M.ok.injEq] at h; subst h
       simp only [h1]
       exact xList_sound hes hk
     · cases h
   · cases h
 · simp only [aVal]
   split at h
   · rename_i hf; simp only [M.ok.injEq] at h; subst h; simp only [hf]; exact hk
   · cases h
 · simp only [aVal]
   split at h
   · rename_i hf; simp only [M.ok.injEq] at h; subst h; simp only [hf]; exact hk
   · cases h
 · cases h
end Go.Dm
