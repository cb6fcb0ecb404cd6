/- A part of the proof: contracts of functions, by a verified generator of conditions; no condition of its own. -/
import Derived.Test.YtgjghnooiaaeiaaGreatDoorSb
import Derived.Shelf.SlGeneric
import Derived.Shelf.Spec.SlicesGrow
import Derived.Ground.Names8Prog
import Derived.Test.YtgjghnooiaaeiaaGreatDoorProg
import Derived.Test.YtgjghnooiaaeiaaGreatDoorDm22
import Derived.Test.YtgjghnooiaaeiaaGreatDoorGrowI
namespace Go.Proofs
open Go.Shelf
def Tryz.grow42_ren : Go.Shelf.Ren := ⟨fun | 4 => 42 | n => n, fun | 22 => 29 | 25 => 23 | 3 => 3 | 4 => 4 | 9 => 9 | 20 => 20 | 0 => 0 | 2 => 3 | n => n, fun | n => n⟩
theorem Tryz.grow42 : Go.Proofs.Lays8.n4 Tryz.prog Tryz.grow42_ren := {
 mixed := by kernel_rfl
 f4 := ⟨Tryz.f42.name, by decide, Tryz.func42.trans (congrArg some (by kernel_rfl))⟩
 t0 := Tryz.underlying0
 a0 := Tryz.isAgg0
 z0 := Tryz.sizeOf0
 v0 := Tryz.zeroValue0
 t3 := Tryz.underlying3
 a3 := Tryz.isAgg3
 z3 := Tryz.sizeOf3
 v3 := Tryz.zeroValue3
 t4 := Tryz.underlying4
 a4 := Tryz.isAgg4
 z4 := Tryz.sizeOf4
 v4 := Tryz.zeroValue4
 t9 := Tryz.underlying9
 a9 := Tryz.isAgg9
 z9 := Tryz.sizeOf9
 v9 := Tryz.zeroValue9
 t20 := Tryz.underlying20
 a20 := Tryz.isAgg20
 z20 := Tryz.sizeOf20
 v20 := Tryz.zeroValue20
 t22 := Tryz.underlying29
 a22 := Tryz.isAgg29
 z22 := Tryz.sizeOf29
 v22 := Tryz.zeroValue29 }
def Tryz.grow100_ren : Go.Shelf.Ren := ⟨fun | 4 => 100 | n => n, fun | 22 => 26 | 25 => 28 | 3 => 3 | 4 => 4 | 9 => 9 | 20 => 20 | 0 => 0 | n => n, fun | n => n⟩
theorem Tryz.grow100 : Go.Proofs.Lays8.n4 Tryz.prog Tryz.grow100_ren := {
 mixed := by kernel_rfl
 f4 := ⟨Tryz.f100.name, by decide, Tryz.func100.trans (congrArg some (by kernel_rfl))⟩
 t0 := Tryz.underlying0
 a0 := Tryz.isAgg0
 z0 := Tryz.sizeOf0
 v0 := Tryz.zeroValue0
 t3 := Tryz.underlying3
 a3 := Tryz.isAgg3
 z3 := Tryz.sizeOf3
 v3 := Tryz.zeroValue3
 t4 := Tryz.underlying4
 a4 := Tryz.isAgg4
 z4 := Tryz.sizeOf4
 v4 := Tryz.zeroValue4
 t9 := Tryz.underlying9
 a9 := Tryz.isAgg9
 z9 := Tryz.sizeOf9
 v9 := Tryz.zeroValue9
 t20 := Tryz.underlying20
 a20 := Tryz.isAgg20
 z20 := Tryz.sizeOf20
 v20 := Tryz.zeroValue20
 t22 := Tryz.underlying26
 a22 := Tryz.isAgg26
 z22 := Tryz.sizeOf26
 v22 := Tryz.zeroValue26 }
def Tryz.grow213_ren : Go.Shelf.Ren := ⟨fun | 4 => 213 | n => n, fun | 22 => 67 | 25 => 190 | 3 => 3 | 4 => 4 | 9 => 9 | 20 => 20 | 0 => 0 | n => n, fun | n => n⟩
theorem Tryz.grow213 : Go.Proofs.Lays8.n4 Tryz.prog Tryz.grow213_ren := {
 mixed := by kernel_rfl
 f4 := ⟨Tryz.f213.name, by decide, Tryz.func213.trans (congrArg some (by kernel_rfl))⟩
 t0 := Tryz.underlying0
 a0 := Tryz.isAgg0
 z0 := Tryz.sizeOf0
 v0 := Tryz.zeroValue0
 t3 := Tryz.underlying3
 a3 := Tryz.isAgg3
 z3 := Tryz.sizeOf3
 v3 := Tryz.zeroValue3
 t4 := Tryz.underlying4
 a4 := Tryz.isAgg4
 z4 := Tryz.sizeOf4
 v4 := Tryz.zeroValue4
 t9 := Tryz.underlying9
 a9 := Tryz.isAgg9
 z9 := Tryz.sizeOf9
 v9 := Tryz.zeroValue9
 t20 := Tryz.underlying20
 a20 := Tryz.isAgg20
 z20 := Tryz.sizeOf20
 v20 := Tryz.zeroValue20
 t22 := Tryz.underlying67
 a22 := Tryz.isAgg67
 z22 := Tryz.sizeOf67
 v22 := Tryz.zeroValue67 }
end Go.Proofs
namespace Go.Proofs.Tryz
open Go Go.Dm Go.Ex
set_option maxRecDepth 100000
variable {gl : Nat → Option Obj}
def I_80 : Nat → List V → List V → St → (V → St → Prop) → Prop := growI noI 100 28 10 104 24
theorem I_80_ok : IOk prog gl I_80 := growI_lay (ρ := grow100_ren) grow100 E_ok (key := 24) (ei := tiAt te_0 28) rfl rfl (by kernel_rfl) (fnOk_of (f := 100) (fn := f100) (by kernel_rfl) (by kernel_rfl) (by kernel_rfl))
def E_c80 : Env := { E_0 with inl := [100] }
def st_80a (ls : List (List (List D))) (x : Nat) : St := { tm := [(0, .d (.sl (encL2 ls))), (2, .nil), (3, .d (.v (.int .i64 (tot (ls.take x) : Int)))), (9, .d (.sl (encL2 ls))), (10, .d (.v (.int .i64 ((encL2 ls).length : Int)))), (11, .d (.v (.int .i64 (x : Int))))], hp := [], kn := [], gd := [] }
def st_80b (ls : List (List (List D))) (x : Nat) : St := { tm := [(2, .nil), (6, .own 24), (25, .d (.sl (encL2 ls))), (26, .d (.v (.int .i64 ((encL2 ls).length : Int)))), (27, .d (.v (.int .i64 (x : Int))))], hp := [(24, .lst 28 10 (ls.take x).flatten)], kn := [], gd := [] }
def inv_80 (ls : List (List (List D))) (m : Nat) (x : Nat) : Prop := x ≤ ls.length ∧ m = ls.length - x
def fx_80 (ls : List (List (List D))) : Fi := { fi50 with lx := [(3, { X := Nat, sh := st_80a ls, P := fun _ => inv_80 ls }), (11, { X := Nat, sh := st_80b ls, P := fun _ => inv_80 ls })], cv := [(11, [{ box := none, ix := 6, key := 24, e := 28, sz := 10 }])] }
def Zb8 (a0 : List (List (List D))) (a1 : Nat) : St := { tm := [(0, .d (.sl (encL2 a0))), (2, .nil), (3, .i (↑(tot (List.take a1 a0)) : Int)), (9, .d (.sl (encL2 a0))), (10, .i (↑(encL2 a0).length : Int)), (11, .i (↑a1 : Int))], hp := [], kn := [], gd := [] : St }
def Zdf (a0 : List (List (List D))) (a1 : List (List D)) (a2 : Nat) (k : Prop) : Prop := { tm := [(0, .d (.sl (encL2 a0))), (2, .nil), (3, .i 0), (9, .d (.sl (encL2 a0))), (10, .i (↑a1.length : Int)), (11, .i 0)], hp := [], kn := [], gd := [] : St } = (Zb8 a0 a2) ∧ k
def Zdh (a0 : List (List (List D))) (a1 : List (List D)) (a2 : Nat) (k : Nat → Prop) : Prop := Zdf a0 a1 a2 (∃ (n : Nat), k n)
def Zci (a0 : Nat) (a1 : List (List (List D))) (k : (List (List D)) → Prop) : Prop := decide ((↑a0 : Int) < (↑(encL2 a1).length : Int)) = true → Zbt fun es => D.sl (encL2 a1) = D.sl es ∧ Zba a0 es (1 : Nat) fun cells => Zbt fun es => cut 0 1 cells = some [D.sl es] ∧ Zbt fun es_1 => D.sl es = D.sl es_1 ∧ k es_1
def Zc6 (a0 : Nat) (a1 : List (List (List D))) (k : (List (List D)) → Prop) : Prop := Zci a0 a1 fun es_1 => (decide (IntKind.i64.wrap ((↑(tot (List.take a0 a1)) : Int) + (↑es_1.length : Int)) < (0 : Int)) = true → False) ∧ k es_1
def Zcp (a0 : Nat) (a1 : List (List (List D))) (a2 : List (List D)) (a3 : Nat) (k : Nat → Nat → Prop) : Prop := decide (IntKind.i64.wrap ((↑(tot (List.take a0 a1)) : Int) + (↑a2.length : Int)) < (0 : Int)) = false → Zdq a3 fun m x' => { tm := [(0, .d (.sl (encL2 a1))), (2, .nil), (3, .i (IntKind.i64.wrap ((↑(tot (List.take a0 a1)) : Int) + (↑a2.length : Int)))), (9, .d (.sl (encL2 a1))), (10, .i (↑(encL2 a1).length : Int)), (11, .i (IntKind.i64.wrap ((↑a0 : Int) + 1)))], hp := [], kn := [], gd := [] : St } = (Zb8 a1 x') ∧ k m x'
def Zfb (a0 : Nat) (a1 : List (List (List D))) (a2 : Nat) (k : Prop) : Prop := decide ((↑a0 : Int) < (↑(encL2 a1).length : Int)) = false → 0 ≤ (↑(tot (List.take a0 a1)) : Int) ∧ (↑(tot (List.take a0 a1)) : Int) * (↑(a2) : Int) ≤ 140737488355328 ∧ (↑(tot (List.take a0 a1)) : Int) ≤ 4611686018427387904 ∧ k
def Zc7 (a0 : List (List (List D))) (a1 a2 a3 : Nat) : St := { tm := [(2, .nil), (6, .own 24), (25, .d (.sl (encL2 a0))), (26, .i (↑(encL2 a0).length : Int)), (27, .i (↑a1 : Int))], hp := [(24, .lst (a2) (a3) (List.take a1 a0).flatten)], kn := [], gd := [] : St }
def Zdw (a0 : List (List (List D))) (a1 : List (List D)) (a2 a3 a4 : Nat) (k : Prop) : Prop := { tm := [(2, .nil), (6, .own 24), (25, .d (.sl (encL2 a0))), (26, .i (↑a1.length : Int)), (27, .i 0)], hp := [(24, .lst (a2) (a3) [])], kn := [], gd := [] : St } = (Zc7 a0 a4 a2 a3) ∧ k
def Zdy (a0 : List (List (List D))) (a1 : List (List D)) (a2 a3 a4 : Nat) (k : Nat → Prop) : Prop := Zdw a0 a1 a2 a3 a4 (∃ (n : Nat), k n)
def Z0 (a0 : Nat) (a1 : List (List (List D))) (a2 a3 a4 a5 : Nat) (k : Nat → Nat → Prop) : Prop := Zci a0 a1 fun es_1 => Ze7 es_1 a2 (a3 = a3 ∧ a2 = a2 ∧ (↑((List.take a0 a1).flatten.length.add es_1.length) : Int) * (↑(a4) : Int) ≤ 140737488355328 ∧ Zdq a5 fun m x' => { tm := [(2, .nil), (6, .own 24), (25, .d (.sl (encL2 a1))), (26, .i (↑(encL2 a1).length : Int)), (27, .i (IntKind.i64.wrap ((↑a0 : Int) + 1)))], hp := [(24, .lst (a3) (a2) ((List.take a0 a1).flatten ++ es_1))], kn := [], gd := [] : St } = (Zc7 a1 x' a3 a2) ∧ k m x')
def Z7 (a0 : List (List (List D))) (a1 : KT) : Prop := Zbt fun es => D.sl (encL2 a0) = D.sl es ∧ ∃ (x0 : Nat), (Zdy a0 es (28 : Nat) (10 : Nat) x0 fun n => inv_80 a0 n x0) ∧ ∀ (n : Nat) (x : Nat), inv_80 a0 n x → (Z0 x a0 (10 : Nat) (28 : Nat) (104 : Nat) n fun m x' => inv_80 a0 m x') ∧ (decide ((↑x : Int) < (↑(encL2 a0).length : Int)) = false → a1 [.lst (28 : Nat) (10 : Nat) (List.take x a0).flatten] [])
theorem vc80 (ls : List (List (List D))) (Q : KT) : vcO E_c80 C_0 I_80 (fx_80 ls) (f50.body.getD .skip) f50.results.toList [.d (.sl (encL2 ls))] Q = ( Zbt fun es => D.sl (encL2 ls) = D.sl es ∧ ∃ (x0 : Nat), (Zdh ls es x0 fun n => inv_80 ls n x0) ∧ ∀ (n : Nat) (x : Nat), inv_80 ls n x → (Zc6 x ls fun es_1 => (Zcp x ls es_1 n fun m x' => inv_80 ls m x')) ∧ (Zfb x ls (104 : Nat) (((↑(tot (List.take x ls)) : Int) = (0 : Int) → Z7 ls Q) ∧ ((↑(tot (List.take x ls)) : Int) ≠ (0 : Int) → Z7 ls Q)))) := by kernel_rfl
theorem ct80 (ls : List (List (List D))) (hl : ls.length ≤ 1353245080300) (hz : ∀ l ∈ ls, ∀ c ∈ l, c.length = 10) (ht : tot ls * 104 ≤ 140737488355328) (ht2 : tot ls ≤ 140737488355328) : Ct prog gl 50 [.d (.sl (encL2 ls))] (gives [.lst 28 10 ls.flatten]) := by
 refine ct_of_vcO (E := E_c80) ⟨E_ok.te⟩ C_0_ok I_80_ok (fun _ _ _ h => h.elim) mixed (fn := f50) (body := f50.body.getD .skip) (by kernel_rfl) (by kernel_rfl) (by kernel_rfl) (fi := fx_80 ls) (by kernel_rfl) (by kernel_rfl) ⟨_, _, rfl, rfl⟩ ?_
 rw [vc80]; dsimp -eta -iota -proj only [Zbt, Zdh, Zdf, Zb8, Zc6, Zci, Zba, Zcp, Zdq, Zfb, Z7, Zdy, Zdw, Zc7, Z0, Ze7, Zee]
 refine ⟨encL2 ls, rfl, (0 : Nat), ⟨rfl, ls.length, Nat.zero_le _, rfl⟩, fun m (x : Nat) hx => ⟨fun hi => ?_, fun hi => ?_⟩⟩
 · obtain ⟨hx1, hx2⟩ := hx
   have hi : x < ls.length := by simpa [encL2] using hi
   have hs := tot_next hi
   have hle := tot_le ls (x + 1)
   have hle2 := tot_le ls x
   have hw : IntKind.i64.wrap ((tot (ls.take x) : Int) + (ls[x].length : Int)) = ((tot (ls.take (x + 1)) : Nat) : Int) := by
     rw [hs, wrap64_of (by omega) (by omega)]; omega
   refine ⟨encL2 ls, rfl, ⟨by omega, by rw [encL2_len]; omega⟩, [.sl ls[x]], by simpa using encL2_get hi, rfl, ls[x], rfl, ls[x], rfl, fun h => ?_, fun _ => ⟨ls.length - (x + 1), x + 1, by omega, ?_, by omega, rfl⟩⟩
   · rw [hw] at h
     have := of_decide_eq_true h
     omega
   · rw [hw, wrap64_of (n := (x : Int) + 1) (by omega) (by omega)]
     rfl
 · obtain ⟨hx1, hx2⟩ := hx
   have hi : ¬ x < ls.length := by simpa [encL2] using hi
   have hxe : ls.take x = ls := List.take_of_length_le (by omega)
   rw [hxe]
   refine ⟨Int.natCast_nonneg _, by rw [← Int.natCast_mul]; omega, by omega, fun _ => ?_, fun _ => ?_⟩
   all_goals
     refine ⟨encL2 ls, rfl, (0 : Nat), ⟨rfl, ls.length, Nat.zero_le _, rfl⟩, fun m (y : Nat) hy => ⟨fun hj => ?_, fun hj => ?_⟩⟩
     · obtain ⟨hy1, hy2⟩ := hy
       have hj : y < ls.length := by simpa [encL2] using hj
       have hs := tot_next hj
       have hle := tot_le ls (y + 1)
       refine ⟨encL2 ls, rfl, ⟨by omega, by rw [encL2_len]; omega⟩, [.sl ls[y]], by simpa using encL2_get hj, rfl, ls[y], rfl, ls[y], rfl, hz _ (List.getElem_mem hj), rfl, rfl, ?_, ls.length - (y + 1), y + 1, by omega, ?_, by omega, rfl⟩
       · have : (Nat.add (ls.take y).flatten.length ls[y].length) = tot (ls.take (y + 1)) := by rw [hs, flat_len]; rfl
         rw [this, ← Int.natCast_mul]
         have := Nat.mul_le_mul_right 104 hle
         omega
       · rw [wrap64_of (n := (y : Int) + 1) (by omega) (by omega), flat_next hj]
         rfl
     · have hj : ¬ y < ls.length := by simpa [encL2] using hj
       rw [List.take_of_length_le (by omega)]
       exact ⟨rfl, rfl⟩
def c_80 (a : List R) (K : KT) : Prop := match a with
 | [.d (.sl x)] => ∃ ls : List (List (List D)), x = encL2 ls ∧ okTot ls 104 ∧ (∀ l ∈ ls, ∀ c ∈ l, c.length = 10) ∧ K [.lst 28 10 ls.flatten] []
 | _ => False
theorem c_80_ok (a : List R) (K : KT) (h : c_80 a K) : Ct prog gl 50 a K := by
 unfold c_80 at h
 split at h
 · obtain ⟨ls, rfl, h1, h2, h5⟩ := h
   exact (ct80 ls h1.1 h2 h1.2.1 h1.2.2).gives h5
 · exact h.elim
end Go.Proofs.Tryz
namespace Go.Proofs.Tryz
open Go Go.Dm Go.Ex
set_option maxRecDepth 100000
variable {gl : Nat → Option Obj}
def C_r74 (n : Nat) : CallT := addC C_n 33 (c_61 n)
def st_74 (op sub : Int) (t : Ty) (v : Go.Ex.AV) (args : List EX) (x : Nat) : St := { tm := [(1, .ref 1 0), (2, .d (.v (.int .i64 0))), (3, .d (.v (.int .i64 (nodesL 1 (args.take x))))), (4, .d (.v (.int .i64 (x : Int))))], hp := [(1, .box [.d (.v (.int .i64 op)), .d (.v (.int .i64 sub)), .d (.v (.int .i64 t.k)), .d (.v (.int .i64 t.sc)), .d (.v (.int .i64 v.t.k)), .d (.v (.int .i64 v.t.sc)), .d (.v (.bool v.nul)), .d (.v (.int .i64 v.n)), .d (.v (.string v.s)), .d (.sl (cellsL args))])], kn := [], gd := [] }
def fx_74 (op sub : Int) (t : Ty) (v : Go.Ex.AV) (args : List EX) : Fi := { fi33 with lx := [(3, { X := Nat, sh := st_74 op sub t v args, P := fun _ => inv_m args })] }
def Zd9 (a0 a1 a2 : Int) (a3 : Ty) (a4 : Go.Ex.AV) (a5 : List EX) : St := { tm := [(1, .ref 1 0), (2, .i 0), (3, .i a0), (4, .i 0)], hp := [(1, .box [.i a1, .i a2, .i a3.1, .i a3.2, .i a4.1.1, .i a4.1.2, .d (.v (.bool a4.2)), .i a4.3, .d (.v (.string a4.4)), .d (.sl (cellsL a5))])], kn := [], gd := [] : St }
def Zdz (a0 : Nat) (a1 : List EX) (a2 a3 : Int) (a4 : Ty) (a5 : Go.Ex.AV) : St := { tm := [(1, .ref 1 0), (2, .i 0), (3, .i (nodesL (1 : Int) (List.take a0 a1))), (4, .i (↑a0 : Int))], hp := [(1, .box [.i a2, .i a3, .i a4.1, .i a4.2, .i a5.1.1, .i a5.1.2, .d (.v (.bool a5.2)), .i a5.3, .d (.v (.string a5.4)), .d (.sl (cellsL a1))])], kn := [], gd := [] : St }
def Zcc (a0 : Nat) (a1 : List (List D)) (a2 : List EX) (a3 a4 : Nat) (k : EX → Nat → Nat → Prop) : Prop := Zec a0 a1 (Z3 a2 a0 a3 a4 fun e m x' => k e m x')
theorem vc74 (n : Nat) (op sub : Int) (t : Ty) (v : Go.Ex.AV) (args : List EX) (Q : KT) : vc E_0 (C_r74 n) noI (fx_74 op sub t v args) (f33.body.getD .skip) f33.results.toList [.agg (encX op sub t v (cellsL args))] Q = ( ∃ (x0 : Nat), ((Zd9 (1 : Int) op sub t v args) = (Zdz x0 args op sub t v) ∧ ∃ (n : Nat), inv_m args n x0) ∧ ∀ (n_1 : Nat) (x : Nat), inv_m args n_1 x → Zby args fun es => (Zcc x es args n n_1 fun e m x' => { tm := [(1, .ref 1 0), (2, .i 0), (3, .i (IntKind.i64.wrap (nodesL (1 : Int) (List.take x args) + nodes e))), (4, .i (IntKind.i64.wrap ((↑x : Int) + 1)))], hp := [(1, .box [.i op, .i sub, .i t.1, .i t.2, .i v.1.1, .i v.1.2, .d (.v (.bool v.2)), .i v.3, .d (.v (.string v.4)), .d (.sl (cellsL args))])], kn := [], gd := [] : St } = (Zdz x' args op sub t v) ∧ inv_m args m x') ∧ (Zdp x es (Q [.d (.i (nodesL (1 : Int) (List.take x args)))] []))) := by kernel_rfl
def C_r75 (n : Nat) : CallT := addC C_n 34 (c_62 n)
def st_75 (op sub : Int) (t : Ty) (v : Go.Ex.AV) (args : List EX) (x : Nat) : St := { tm := [(1, .ref 1 0), (2, .d (.v (.int .i64 0))), (3, .d (.v (.int .i64 (deepL 0 (args.take x))))), (4, .d (.v (.int .i64 (x : Int))))], hp := [(1, .box [.d (.v (.int .i64 op)), .d (.v (.int .i64 sub)), .d (.v (.int .i64 t.k)), .d (.v (.int .i64 t.sc)), .d (.v (.int .i64 v.t.k)), .d (.v (.int .i64 v.t.sc)), .d (.v (.bool v.nul)), .d (.v (.int .i64 v.n)), .d (.v (.string v.s)), .d (.sl (cellsL args))])], kn := [], gd := [] }
def fx_75 (op sub : Int) (t : Ty) (v : Go.Ex.AV) (args : List EX) : Fi := { fi34 with lx := [(3, { X := Nat, sh := st_75 op sub t v args, P := fun _ => inv_m args })] }
def Zd0 (a0 : Nat) (a1 : List EX) (a2 a3 : Int) (a4 : Ty) (a5 : Go.Ex.AV) : St := { tm := [(1, .ref 1 0), (2, .i 0), (3, .i (deepL (0 : Int) (List.take a0 a1))), (4, .i (↑a0 : Int))], hp := [(1, .box [.i a2, .i a3, .i a4.1, .i a4.2, .i a5.1.1, .i a5.1.2, .d (.v (.bool a5.2)), .i a5.3, .d (.v (.string a5.4)), .d (.sl (cellsL a1))])], kn := [], gd := [] : St }
theorem vc75 (n : Nat) (op sub : Int) (t : Ty) (v : Go.Ex.AV) (args : List EX) (Q : KT) : vc E_0 (C_r75 n) noI (fx_75 op sub t v args) (f34.body.getD .skip) f34.results.toList [.agg (encX op sub t v (cellsL args))] Q = ( ∃ (x0 : Nat), ((Zd9 (0 : Int) op sub t v args) = (Zd0 x0 args op sub t v) ∧ ∃ (n : Nat), inv_m args n x0) ∧ ∀ (n_1 : Nat) (x : Nat), inv_m args n_1 x → Zby args fun es => (Zcc x es args n n_1 fun e m x' => { tm := [(1, .ref 1 0), (2, .i 0), (3, .i (if deep e > deepL (0 : Int) (List.take x args) then deep e else deepL (0 : Int) (List.take x args))), (4, .i (IntKind.i64.wrap ((↑x : Int) + 1)))], hp := [(1, .box [.i op, .i sub, .i t.1, .i t.2, .i v.1.1, .i v.1.2, .d (.v (.bool v.2)), .i v.3, .d (.v (.string v.4)), .d (.sl (cellsL args))])], kn := [], gd := [] : St } = (Zd0 x' args op sub t v) ∧ inv_m args m x') ∧ (Zdp x es (Q [.d (.i (IntKind.i64.wrap (deepL (0 : Int) (List.take x args) + (1 : Int))))] []))) := by kernel_rfl
theorem ct74 : ∀ (n : Nat) (e : EX), size e < n → fits e → Ct prog gl 33 [.agg (cells e)] (gives [.d (.v (.int .i64 (nodes e)))])
 | 0, e, h, _ => absurd h (Nat.not_lt_zero _)
 | n + 1, .mk op sub t v args, h, hf => by
   have hC : CallsOk prog gl (C_r74 n) := addC_ok C_n_ok (fun a K hk => by
     unfold c_61 at hk
     split at hk
     · obtain ⟨e, rfl, h1, h2, h3⟩ := hk
       exact (ct74 n e h1 h2).gives h3
     · exact hk.elim)
   rw [cells_mk]
   refine ct_of_vc E_ok hC ioK_no it_ok mixed (fn := f33) (body := f33.body.getD .skip) (by kernel_rfl) (by kernel_rfl) (by kernel_rfl) (fi := fx_74 op sub t v args) (by kernel_rfl) (by kernel_rfl) ⟨_, _, rfl, rfl⟩ ?_
   rw [vc74]; dsimp -eta -iota -proj only [Zd9, Zdz, Zby, Zbt, Zcc, Zec, Z3, Zx, Zbz, Zv, Zk, Z1, Zep, Z4, Zdq, Zdp]
   obtain ⟨_, hl, hfl⟩ := fits_mk hf
   have hsz : ∀ e ∈ args, size e < n := fun e he => by have := size_arg (op := op) (sub := sub) (ty := t) (v := v) he; omega
   refine ⟨(0 : Nat), ⟨by simp only [List.take_zero, nodesL]; rfl, args.length, Nat.zero_le _, rfl⟩, fun m (x : Nat) hx => ⟨cellsL args, rfl, fun hi => ?_, fun hi => ?_⟩⟩
   · have hi : x < args.length := by simpa [cellsL_len] using hi
     obtain ⟨op', sub', t', v', a', he, hget⟩ := arg_get hi
     have hm := hx.2
     refine ⟨cellsL args, rfl, ⟨by omega, by rw [cellsL_len]; omega⟩, _, hget, rfl, op', sub', t'.k, t'.sc, v'.t.k, v'.t.sc, v'.nul, v'.n, v'.s, cellsL a', rfl, args[x], by rw [he, cells_mk]; rfl, hsz _ (List.getElem_mem hi), fitsL_mem hfl (List.getElem_mem hi), args.length - (x + 1), x + 1, by omega, ?_, hi, rfl⟩
     rw [wrap_next (by omega), List.take_add_one, List.getElem?_eq_getElem hi, Option.toList_some, nodesL_snoc]
   · have hi : ¬ x < args.length := by simpa [cellsL_len] using hi
     rw [List.take_of_length_le (by omega)]
     refine ⟨?_, rfl⟩
     simp only [nodes]
def c_61h (a : List R) (K : KT) : Prop := match a with
 | [.agg x] => ∃ e : EX, x = cells e ∧ fits e ∧ K [.d (.v (.int .i64 (nodes e)))] []
 | _ => False
theorem c_61h_ok (a : List R) (K : KT) (h : c_61h a K) : Ct prog gl 33 a K := by
 unfold c_61h at h
 split at h
 · obtain ⟨e, rfl, h1, h2⟩ := h
   exact (ct74 (size e + 1) e (Nat.lt_succ_self _) h1).gives h2
 · exact h.elim
theorem ct75 : ∀ (n : Nat) (e : EX), size e < n → fits e → Ct prog gl 34 [.agg (cells e)] (gives [.d (.v (.int .i64 (deep e)))])
 | 0, e, h, _ => absurd h (Nat.not_lt_zero _)
 | n + 1, .mk op sub t v args, h, hf => by
   have hC : CallsOk prog gl (C_r75 n) := addC_ok C_n_ok (fun a K hk => by
     unfold c_62 at hk
     split at hk
     · obtain ⟨e, rfl, h1, h2, h3⟩ := hk
       exact (ct75 n e h1 h2).gives h3
     · exact hk.elim)
   rw [cells_mk]
   refine ct_of_vc E_ok hC ioK_no it_ok mixed (fn := f34) (body := f34.body.getD .skip) (by kernel_rfl) (by kernel_rfl) (by kernel_rfl) (fi := fx_75 op sub t v args) (by kernel_rfl) (by kernel_rfl) ⟨_, _, rfl, rfl⟩ ?_
   rw [vc75]; dsimp -eta -iota -proj only [Zd9, Zd0, Zby, Zbt, Zcc, Zec, Z3, Zx, Zbz, Zv, Zk, Z1, Zep, Z4, Zdq, Zdp]
   obtain ⟨_, hl, hfl⟩ := fits_mk hf
   have hsz : ∀ e ∈ args, size e < n := fun e he => by have := size_arg (op := op) (sub := sub) (ty := t) (v := v) he; omega
   refine ⟨(0 : Nat), ⟨by simp only [List.take_zero, deepL]; rfl, args.length, Nat.zero_le _, rfl⟩, fun m (x : Nat) hx => ⟨cellsL args, rfl, fun hi => ?_, fun hi => ?_⟩⟩
   · have hi : x < args.length := by simpa [cellsL_len] using hi
     obtain ⟨op', sub', t', v', a', he, hget⟩ := arg_get hi
     have hm := hx.2
     refine ⟨cellsL args, rfl, ⟨by omega, by rw [cellsL_len]; omega⟩, _, hget, rfl, op', sub', t'.k, t'.sc, v'.t.k, v'.t.sc, v'.nul, v'.n, v'.s, cellsL a', rfl, args[x], by rw [he, cells_mk]; rfl, hsz _ (List.getElem_mem hi), fitsL_mem hfl (List.getElem_mem hi), args.length - (x + 1), x + 1, by omega, ?_, hi, rfl⟩
     rw [wrap_next (by omega), List.take_add_one, List.getElem?_eq_getElem hi, Option.toList_some, deepL_snoc]
   · have hi : ¬ x < args.length := by simpa [cellsL_len] using hi
     rw [List.take_of_length_le (by omega)]
     refine ⟨?_, rfl⟩
     simp only [deep]
def c_62h (a : List R) (K : KT) : Prop := match a with
 | [.agg x] => ∃ e : EX, x = cells e ∧ fits e ∧ K [.d (.v (.int .i64 (deep e)))] []
 | _ => False
theorem c_62h_ok (a : List R) (K : KT) (h : c_62h a K) : Ct prog gl 34 a K := by
 unfold c_62h at h
 split at h
 · obtain ⟨e, rfl, h1, h2⟩ := h
   exact (ct75 (size e + 1) e (Nat.lt_succ_self _) h1).gives h2
 · exact h.elim
def arityP (op m : Int) : Bool := bif op == 1 then m == 0 else bif op == 2 then m == 0 else bif op == 8 then m == 1 else bif op == 12 then m == 1 else bif op == 13 then m == 1 else bif op == 16 then m == 1 else bif op == 18 then m == 1 else bif op == 14 then (bif decide (m ≥ 3) then m.tmod 2 == 1 else false) else bif op == 15 then decide (m ≥ 1) else bif (bif m == 2 then decide (op ≥ 3) else false) then decide (op ≤ 17) else false
def Zf3 (a0 a1 : Int) (a2 : KT) (a3 a4 : Int) : Prop := (a0 == a1) = true → a2 [.d (.v (.bool (a3 == a4)))] []
theorem vc149 (op m : Int) (Q : KT) : vc E_0 C_0 noI fi66 (f66.body.getD .skip) f66.results.toList [.d (.v (.int .i64 op)), .d (.v (.int .i64 m))] Q = ( (Zf3 op (1 : Int) Q m (0 : Int)) ∧ ((op == 1) = false → (Zf3 op (2 : Int) Q m (0 : Int)) ∧ ((op == 2) = false → (Zf3 op (8 : Int) Q m (1 : Int)) ∧ ((op == 8) = false → (Zf3 op (12 : Int) Q m (1 : Int)) ∧ ((op == 12) = false → (Zf3 op (13 : Int) Q m (1 : Int)) ∧ ((op == 13) = false → (Zf3 op (16 : Int) Q m (1 : Int)) ∧ ((op == 16) = false → (Zf3 op (18 : Int) Q m (1 : Int)) ∧ ((op == 18) = false → ((op == 14) = true → (2 : Int) ≠ (0 : Int) ∧ Q [.d (.v (.bool (bif decide (m ≥ 3) then m.tmod (2 : Int) == 1 else false)))] []) ∧ ((op == 14) = false → ((op == 15) = true → Q [.d (.v (.bool (decide (m ≥ 1))))] []) ∧ ((op == 15) = false → Q [.d (.v (.bool (bif bif m == 2 then decide (op ≥ 3) else false then decide (op ≤ 17) else false)))] [])))))))))) := by kernel_rfl
theorem ct149 (op m : Int) : Ct prog gl 66 [.d (.v (.int .i64 op)), .d (.v (.int .i64 m))] (gives [.d (.v (.bool (arityP op m)))]) := by
 refine ctv C_0_ok f66 fi66 ⟨_, _, rfl, rfl⟩ ?_
 rw [vc149]; dsimp -eta -iota -proj only [Zf3]
 have fin : ∀ b, arityP op m = b → gives [.d (.v (.bool (arityP op m)))] [R.d (D.v (Value.bool b))] [] := fun b h => by rw [h]; exact ⟨rfl, rfl⟩
 repeat' first | (refine And.intro (fun h => ?_) (fun h => ?_)) | (refine And.intro (by decide) ?_) | fail
 all_goals (refine fin _ ?_; clear fin; simp only [arityP, *, cond_true, cond_false])
def c_149 (a : List R) (K : KT) : Prop := match a with
 | [.d (.v (.int .i64 op)), .d (.v (.int .i64 m))] => K [.d (.v (.bool (arityP op m)))] []
 | _ => False
theorem c_149_ok (a : List R) (K : KT) (h : c_149 a K) : Ct prog gl 66 a K := by
 unfold c_149 at h
 split at h
 · exact (ct149 _ _).gives h
 · exact h.elim
theorem vc18 (k sc : Int) (nul : Bool) (m : Int) (s : ByteArray) (Q : KT) : vc E_0 C_4e noI fi38 (f38.body.getD .skip) f38.results.toList [.agg [.v (.int .i64 k), .v (.int .i64 sc), .v (.bool nul), .v (.int .i64 m), .v (.string s)]] Q = ( ((s67_0 k sc != (0 : Int)) = true → Q [.d (.i (s67_0 k sc))] []) ∧ ((s67_0 k sc != (0 : Int)) = false → (nul = true → ((bif m != (0 : Int) then true else !s == { data := { toList := [] : Array UInt8 } : ByteArray }) = true → Q [.d (.i 20)] []) ∧ ((bif m != (0 : Int) then true else !s == { data := { toList := [] : Array UInt8 } : ByteArray }) = false → Q [.d (.i 0)] [])) ∧ (nul = false → ((k == 4) = true → ((bif m != (0 : Int) then true else decide ((↑s.size : Int) > 256)) = true → Q [.d (.i 20)] []) ∧ ((bif m != (0 : Int) then true else decide ((↑s.size : Int) > 256)) = false → Q [.d (.i 0)] [])) ∧ ((k == 4) = false → ((!s == { data := { toList := [] : Array UInt8 } : ByteArray }) = true → (true = true → Q [.d (.i 20)] []) ∧ (true = false → Q [.d (.i 0)] [])) ∧ ((!s == { data := { toList := [] : Array UInt8 } : ByteArray }) = false → ((k == 1) = true → ((bif m != (0 : Int) then m != (1 : Int) else false) = true → Q [.d (.i 20)] []) ∧ ((bif m != (0 : Int) then m != (1 : Int) else false) = false → Q [.d (.i 0)] [])) ∧ ((k == 1) = false → ((k == 3) = true → ((!s68_0 m) = true → Q [.d (.i 20)] []) ∧ ((!s68_0 m) = false → Q [.d (.i 0)] [])) ∧ ((k == 3) = false → ((k == 5) = true → ((bif decide (m < (-719162 : Int)) then true else decide (m > 2932896)) = true → Q [.d (.i 20)] []) ∧ ((bif decide (m < (-719162 : Int)) then true else decide (m > 2932896)) = false → Q [.d (.i 0)] [])) ∧ ((k == 5) = false → (false = true → Q [.d (.i 20)] []) ∧ (false = false → Q [.d (.i 0)] []))))))))) := by kernel_rfl
def c_18 (a : List R) (K : KT) : Prop := match a with
 | [.agg [.v (.int .i64 k), .v (.int .i64 sc), .v (.bool nul), .v (.int .i64 m), .v (.string s)]] => K [.d (.v (.int .i64 (s56_0 k sc nul m s)))] []
 | _ => False
theorem s67_60 (a b : Int) : s67_0 a b = s60_0 a b := by
 unfold s67_0 s60_0 s124_0
 have h1 : decide (b ≥ 0) = !decide (b < 0) := by by_cases h : b < 0 <;> simp [h] <;> omega
 have h2 : decide (b ≤ 18) = !decide (b > 18) := by by_cases h : b > 18 <;> simp [h] <;> omega
 rw [h1, h2]
 simp only [bne]
 cases decide (a < 1) <;> cases decide (a > 5) <;> cases decide (b < 0) <;> cases decide (b > 18) <;> cases a == 3 <;> cases b == 0 <;> rfl
def chk18 (k sc : Int) (nul : Bool) (m : Int) (s : ByteArray) : Int := bif s67_0 k sc != 0 then s67_0 k sc else bif nul then (bif (bif m != 0 then true else !s == ({ data := { toList := [] } } : ByteArray)) then 20 else 0)
 else bif k == 4 then (bif (bif m != 0 then true else decide ((s.size : Int) > 256)) then 20 else 0)
 else bif !s == ({ data := { toList := [] } } : ByteArray) then 20
 else bif k == 1 then (bif (bif m != 0 then m != 1 else false) then 20 else 0)
 else bif k == 3 then (bif !s68_0 m then 20 else 0)
 else bif k == 5 then (bif (bif decide (m < -719162) then true else decide (m > 2932896)) then 20 else 0)
 else 0
theorem chk18_eq (k sc : Int) (nul : Bool) (m : Int) (s : ByteArray) : chk18 k sc nul m s = s56_0 k sc nul m s := by
 unfold chk18 s56_0 s68_0 s114_0
 rw [s67_60]
 have h1 : decide (m ≥ -719162) = !decide (m < -719162) := by by_cases h : m < -719162 <;> simp [h] <;> omega
 have h2 : decide (m ≤ 2932896) = !decide (m > 2932896) := by by_cases h : m > 2932896 <;> simp [h] <;> omega
 have h3 : decide ((s.size : Int) ≤ 256) = !decide ((s.size : Int) > 256) := by by_cases h : (s.size : Int) > 256 <;> simp [h] <;> omega
 have h4 : decide ((-999999999999999999 : Int) ≤ m) = decide (m ≥ -999999999999999999) := rfl
 rw [h1, h2, h3, h4]
 simp only [bne]
 generalize (s == ({ data := { toList := [] } } : ByteArray)) = Z
 generalize (s60_0 k sc == 0) = Y
 generalize decide (m < -719162) = X1
 generalize decide (m > 2932896) = X2
 generalize decide ((s.size : Int) > 256) = X3
 generalize decide (m ≥ -999999999999999999) = X4
 generalize decide (m ≤ 999999999999999999) = X5
 generalize (m == 0) = M0
 generalize (m == 1) = M1
 generalize s60_0 k sc = S
 have split : ∀ (c1 c3 c4 c5 : Bool), (k == 1) = c1 → (k == 3) = c3 → (k == 4) = c4 → (k == 5) = c5 → (c4 = true → c1 = false ∧ c3 = false ∧ c5 = false) := by
   intro c1 c3 c4 c5 e1 e3 e4 e5 h
   subst h
   have : k = 4 := by simpa using e4
   subst this
   exact ⟨e1.symm, e3.symm, e5.symm⟩
 have split := split _ _ _ _ rfl rfl rfl rfl
 revert split
 generalize (k == 1) = c1
 generalize (k == 3) = c3
 generalize (k == 4) = c4
 generalize (k == 5) = c5
 intro split
 cases Y
 · rfl
 cases nul
 · cases c4
   · cases c1
     · cases c3
       · cases c5
         · cases Z <;> rfl
         · cases Z <;> cases X1 <;> cases X2 <;> rfl
       · cases Z <;> cases X4 <;> cases X5 <;> rfl
     · cases Z <;> cases M0 <;> cases M1 <;> rfl
   · obtain ⟨rfl, rfl, rfl⟩ := split rfl
     cases M0 <;> cases X3 <;> rfl
 · cases M0 <;> cases Z <;> rfl
theorem ct18 (k sc : Int) (nul : Bool) (m : Int) (s : ByteArray) : Ct prog gl 38 [.agg [.v (.int .i64 k), .v (.int .i64 sc), .v (.bool nul), .v (.int .i64 m), .v (.string s)]] (gives [.d (.v (.int .i64 (s56_0 k sc nul m s)))]) := by
 refine ctv C_4e_ok f38 fi38 ⟨_, _, rfl, rfl⟩ ?_
 rw [vc18]
 rw [← chk18_eq]
 have fin : ∀ b, chk18 k sc nul m s = b → gives [.d (.v (.int .i64 (chk18 k sc nul m s)))] [R.d (D.v (Value.int .i64 b))] [] := fun b h => by rw [h]; exact ⟨rfl, rfl⟩
 repeat' first | (refine And.intro (fun h => ?_) (fun h => ?_)) | fail
 all_goals first | (refine fin _ ?_; clear fin; simp only [chk18, *, cond_true, cond_false]; done) | (rename_i h; cases h)
theorem c_18_ok (a : List R) (K : KT) (h : c_18 a K) : Ct prog gl 38 a K := by
 unfold c_18 at h
 split at h
 · exact (ct18 _ _ _ _ _).gives h
 · exact h.elim
def c_76 (n : Nat) (a : List R) (K : KT) : Prop := match a with
 | [.agg x, .d (.v (.int .i64 c))] => ∃ e : EX, x = cells e ∧ size e < n ∧ fits e ∧ K [.d (.v (.bool (mayE c e)))] []
 | _ => False
def C_r76 (n : Nat) : CallT := addC (addC (addC C_4e 66 c_149) 38 c_18) 35 (c_76 n)
def st_76 (op sub : Int) (t : Ty) (v : Go.Ex.AV) (args : List EX) (c : Int) (x : Nat) : St := { tm := [(1, .d (.v (.int .i64 c))), (2, .ref 2 0), (4, .d (.v (.bool false))), (7, .d (.v (.int .i64 (x : Int))))], hp := [(2, .box [.d (.v (.int .i64 op)), .d (.v (.int .i64 sub)), .d (.v (.int .i64 t.k)), .d (.v (.int .i64 t.sc)), .d (.v (.int .i64 v.t.k)), .d (.v (.int .i64 v.t.sc)), .d (.v (.bool v.nul)), .d (.v (.int .i64 v.n)), .d (.v (.string v.s)), .d (.sl (cellsL args))])], kn := [], gd := [] }
def inv_76 (c : Int) (args : List EX) (m : Nat) (x : Nat) : Prop := x ≤ args.length ∧ m = args.length - x ∧ mayL c (args.take x) = true
def fx_76 (op sub : Int) (t : Ty) (v : Go.Ex.AV) (args : List EX) (c : Int) : Fi := { fi35 with lp := [(19, ([1, 2, 4, 7], [5, 114]))], lx := [(19, { X := Nat, sh := st_76 op sub t v args c, P := fun _ => inv_76 c args })] }
def Zd7 (a0 : Int) (a1 : Nat) (a2 a3 : Int) (a4 : Ty) (a5 : Go.Ex.AV) (a6 : List EX) : St := { tm := [(1, .i a0), (2, .ref 2 0), (4, .d (.v (.bool false))), (7, .i (↑a1 : Int))], hp := [(2, .box [.i a2, .i a3, .i a4.1, .i a4.2, .i a5.1.1, .i a5.1.2, .d (.v (.bool a5.2)), .i a5.3, .d (.v (.string a5.4)), .d (.sl (cellsL a6))])], kn := [], gd := [] : St }
def Zl (a0 a1 a2 : Int) (a3 : Ty) (a4 : Go.Ex.AV) (a5 : List EX) (a6 : Nat) (a7 : KT) : Prop := ∃ (x0 : Nat), ({ tm := [(1, .i a0), (2, .ref 2 0), (4, .d (.v (.bool false))), (7, .i 0)], hp := [(2, .box [.i a1, .i a2, .i a3.1, .i a3.2, .i a4.1.1, .i a4.1.2, .d (.v (.bool a4.2)), .i a4.3, .d (.v (.string a4.4)), .d (.sl (cellsL a5))])], kn := [], gd := [] : St } = (Zd7 a0 x0 a1 a2 a3 a4 a5) ∧ ∃ (n : Nat), inv_76 a0 a5 n x0) ∧ ∀ (n_1 : Nat) (x : Nat), inv_76 a0 a5 n_1 x → Zby a5 fun es => (Zec x es (Zx a5 x a6 fun e => ((!mayE a0 e) = true → Zcr a7) ∧ ((!mayE a0 e) = false → Zdq n_1 fun m x' => { tm := [(1, .i a0), (2, .ref 2 0), (4, .d (.v (.bool false))), (7, .i (IntKind.i64.wrap ((↑x : Int) + 1)))], hp := [(2, .box [.i a1, .i a2, .i a3.1, .i a3.2, .i a4.1.1, .i a4.1.2, .d (.v (.bool a4.2)), .i a4.3, .d (.v (.string a4.4)), .d (.sl (cellsL a5))])], kn := [], gd := [] : St } = (Zd7 a0 x' a1 a2 a3 a4 a5) ∧ inv_76 a0 a5 m x'))) ∧ Ze2 x es a7
theorem vc76 (n : Nat) (op sub : Int) (t : Ty) (v : Go.Ex.AV) (args : List EX) (c : Int) (Q : KT) : vc E_0 (C_r76 n) noI (fx_76 op sub t v args c) (f35.body.getD .skip) f35.results.toList [.agg (encX op sub t v (cellsL args)), .d (.v (.int .i64 c))] Q = ( Zby args fun es => ((op == 1) = true → ((bif bif bif !bif bif arityP op (↑es.length : Int) then decide (sub ≥ 0) else false then decide (sub < c) else false then true else sub != sub then true else !((0 : Int) == t.1 && ((0 : Int) == t.2 && true)) then true else !((0 : Int) == v.1.1 && ((0 : Int) == v.1.2 && (false == v.2 && ((0 : Int) == v.3 && ({ data := { toList := [] : Array UInt8 } : ByteArray } == v.4 && true)))))) = true → Zcr Q) ∧ ((bif bif bif !bif bif arityP op (↑es.length : Int) then decide (sub ≥ 0) else false then decide (sub < c) else false then true else sub != sub then true else !((0 : Int) == t.1 && ((0 : Int) == t.2 && true)) then true else !((0 : Int) == v.1.1 && ((0 : Int) == v.1.2 && (false == v.2 && ((0 : Int) == v.3 && ({ data := { toList := [] : Array UInt8 } : ByteArray } == v.4 && true)))))) = false → Zl c op sub t v args n Q)) ∧ ((op == 1) = false → ((op == 2) = true → ((bif bif bif !bif arityP op (↑es.length : Int) then s56_0 v.1.1 v.1.2 v.2 v.3 v.4 == 0 else false then true else (0 : Int) != sub then true else !((0 : Int) == t.1 && ((0 : Int) == t.2 && true)) then true else !(v.1.1 == v.1.1 && (v.1.2 == v.1.2 && (v.2 == v.2 && (v.3 == v.3 && (v.4 == v.4 && true)))))) = true → Zcr Q) ∧ ((bif bif bif !bif arityP op (↑es.length : Int) then s56_0 v.1.1 v.1.2 v.2 v.3 v.4 == 0 else false then true else (0 : Int) != sub then true else !((0 : Int) == t.1 && ((0 : Int) == t.2 && true)) then true else !(v.1.1 == v.1.1 && (v.1.2 == v.1.2 && (v.2 == v.2 && (v.3 == v.3 && (v.4 == v.4 && true)))))) = false → Zl c op sub t v args n Q)) ∧ ((op == 2) = false → ((op == 9) = true → ((bif bif bif !bif bif arityP op (↑es.length : Int) then decide (sub ≥ 1) else false then decide (sub ≤ 6) else false then true else sub != sub then true else !((0 : Int) == t.1 && ((0 : Int) == t.2 && true)) then true else !((0 : Int) == v.1.1 && ((0 : Int) == v.1.2 && (false == v.2 && ((0 : Int) == v.3 && ({ data := { toList := [] : Array UInt8 } : ByteArray } == v.4 && true)))))) = true → Zcr Q) ∧ ((bif bif bif !bif bif arityP op (↑es.length : Int) then decide (sub ≥ 1) else false then decide (sub ≤ 6) else false then true else sub != sub then true else !((0 : Int) == t.1 && ((0 : Int) == t.2 && true)) then true else !((0 : Int) == v.1.1 && ((0 : Int) == v.1.2 && (false == v.2 && ((0 : Int) == v.3 && ({ data := { toList := [] : Array UInt8 } : ByteArray } == v.4 && true)))))) = false → Zl c op sub t v args n Q)) ∧ ((op == 9) = false → ((op == 16) = true → ((bif bif bif !bif arityP op (↑es.length : Int) then s67_0 t.1 t.2 == 0 else false then true else (0 : Int) != sub then true else !(t.1 == t.1 && (t.2 == t.2 && true)) then true else !((0 : Int) == v.1.1 && ((0 : Int) == v.1.2 && (false == v.2 && ((0 : Int) == v.3 && ({ data := { toList := [] : Array UInt8 } : ByteArray } == v.4 && true)))))) = true → Zcr Q) ∧ ((bif bif bif !bif arityP op (↑es.length : Int) then s67_0 t.1 t.2 == 0 else false then true else (0 : Int) != sub then true else !(t.1 == t.1 && (t.2 == t.2 && true)) then true else !((0 : Int) == v.1.1 && ((0 : Int) == v.1.2 && (false == v.2 && ((0 : Int) == v.3 && ({ data := { toList := [] : Array UInt8 } : ByteArray } == v.4 && true)))))) = false → Zl c op sub t v args n Q)) ∧ ((op == 16) = false → ((bif bif bif !arityP op (↑es.length : Int) then true else (0 : Int) != sub then true else !((0 : Int) == t.1 && ((0 : Int) == t.2 && true)) then true else !((0 : Int) == v.1.1 && ((0 : Int) == v.1.2 && (false == v.2 && ((0 : Int) == v.3 && ({ data := { toList := [] : Array UInt8 } : ByteArray } == v.4 && true)))))) = true → Zcr Q) ∧ ((bif bif bif !arityP op (↑es.length : Int) then true else (0 : Int) != sub then true else !((0 : Int) == t.1 && ((0 : Int) == t.2 && true)) then true else !((0 : Int) == v.1.1 && ((0 : Int) == v.1.2 && (false == v.2 && ((0 : Int) == v.3 && ({ data := { toList := [] : Array UInt8 } : ByteArray } == v.4 && true)))))) = false → Zl c op sub t v args n Q)))))) := by kernel_rfl
theorem ba_refl (a : ByteArray) : (a == a) = true := by rw [beq_toListBytes]; simp
theorem ba_comm (a b : ByteArray) : (a == b) = (b == a) := by rw [beq_toListBytes, beq_toListBytes, BEq.comm]
def headR (op sub : Int) (t : Ty) (v : Go.Ex.AV) (m c : Int) : Bool :=
 bif op == 1 then (bif bif bif !bif bif arityP op m then decide (sub ≥ 0) else false then decide (sub < c) else false then true else sub != sub then true else !(0 == t.1 && (0 == t.2 && true)) then true else !(0 == v.1.1 && (0 == v.1.2 && (false == v.2 && (0 == v.3 && (({ data := { toList := [] } } : ByteArray) == v.4 && true))))))
 else bif op == 2 then (bif bif bif !bif arityP op m then s56_0 v.1.1 v.1.2 v.2 v.3 v.4 == 0 else false then true else 0 != sub then true else !(0 == t.1 && (0 == t.2 && true)) then true else !(v.1.1 == v.1.1 && (v.1.2 == v.1.2 && (v.2 == v.2 && (v.3 == v.3 && (v.4 == v.4 && true))))))
 else bif op == 9 then (bif bif bif !bif bif arityP op m then decide (sub ≥ 1) else false then decide (sub ≤ 6) else false then true else sub != sub then true else !(0 == t.1 && (0 == t.2 && true)) then true else !(0 == v.1.1 && (0 == v.1.2 && (false == v.2 && (0 == v.3 && (({ data := { toList := [] } } : ByteArray) == v.4 && true))))))
 else bif op == 16 then (bif bif bif !bif arityP op m then s67_0 t.1 t.2 == 0 else false then true else 0 != sub then true else !(t.1 == t.1 && (t.2 == t.2 && true)) then true else !(0 == v.1.1 && (0 == v.1.2 && (false == v.2 && (0 == v.3 && (({ data := { toList := [] } } : ByteArray) == v.4 && true))))))
 else (bif bif bif !arityP op m then true else 0 != sub then true else !(0 == t.1 && (0 == t.2 && true)) then true else !(0 == v.1.1 && (0 == v.1.2 && (false == v.2 && (0 == v.3 && (({ data := { toList := [] } } : ByteArray) == v.4 && true))))))
theorem headR_eq (op sub : Int) (t : Ty) (v : Go.Ex.AV) (m c : Int) (hm : 0 ≤ m) : headR op sub t v m c = !mayHd op sub t v m c := by
 have htz : ((0 : Int) == t.1 && ((0 : Int) == t.2 && true)) = tyZ t := by unfold tyZ; rw [BEq.comm (a := (0 : Int)) (b := t.1), BEq.comm (a := (0 : Int)) (b := t.2)]
 have hvz : ((0 : Int) == v.1.1 && ((0 : Int) == v.1.2 && (false == v.2 && ((0 : Int) == v.3 && (({ data := { toList := [] } } : ByteArray) == v.4 && true))))) = valZ v := by unfold valZ; rw [BEq.comm (a := (0 : Int)) (b := v.1.1), BEq.comm (a := (0 : Int)) (b := v.1.2), BEq.comm (a := false) (b := v.2), BEq.comm (a := (0 : Int)) (b := v.3), ba_comm ({ data := { toList := [] } } : ByteArray) v.4]
 have hvv : (v.1.1 == v.1.1 && (v.1.2 == v.1.2 && (v.2 == v.2 && (v.3 == v.3 && (v.4 == v.4 && true))))) = true := by rw [ba_refl]; simp
 have htt : (t.1 == t.1 && (t.2 == t.2 && true)) = true := by simp
 have hss : (sub != sub) = false := by simp
 have h0s : ((0 : Int) != sub) = !(sub == 0) := by rw [bne, BEq.comm]
 unfold headR mayHd
 rw [htz, hvz, hvv, htt, hss, h0s, s67_60]
 by_cases o1 : op = 1
 · subst o1
   rw [show arityP 1 m = (m == 0) from rfl, show ((1 : Int) == 1) = true from rfl, cond_true, cond_true]
   cases m == 0 <;> cases decide (sub ≥ 0) <;> cases decide (sub < c) <;> cases tyZ t <;> cases valZ v <;> rfl
 by_cases o2 : op = 2
 · subst o2
   rw [show arityP 2 m = (m == 0) from rfl, show ((2 : Int) == 1) = false from rfl, show ((2 : Int) == 2) = true from rfl, cond_false, cond_false, cond_true, cond_true]
   cases m == 0 <;> cases s56_0 v.1.1 v.1.2 v.2 v.3 v.4 == 0 <;> cases sub == 0 <;> cases tyZ t <;> rfl
 by_cases o9 : op = 9
 · subst o9
   rw [show arityP 9 m = (m == 2) from by cases h : (m == 2) <;> simp [arityP, h], show ((9 : Int) == 1) = false from rfl, show ((9 : Int) == 2) = false from rfl, show ((9 : Int) == 9) = true from rfl, cond_false, cond_false, cond_false, cond_false, cond_true, cond_true]
   cases m == 2 <;> cases decide (sub ≥ 1) <;> cases decide (sub ≤ 6) <;> cases tyZ t <;> cases valZ v <;> rfl
 by_cases o16 : op = 16
 · subst o16
   rw [show arityP 16 m = (m == 1) from rfl, show ((16 : Int) == 1) = false from rfl, show ((16 : Int) == 2) = false from rfl, show ((16 : Int) == 9) = false from rfl, show ((16 : Int) == 16) = true from rfl]
   simp only [cond_false, cond_true]
   cases m == 1 <;> cases s60_0 t.1 t.2 == 0 <;> cases sub == 0 <;> cases valZ v <;> rfl
 have b1 : (op == 1) = false := by simpa using o1
 have b2 : (op == 2) = false := by simpa using o2
 have b9 : (op == 9) = false := by simpa using o9
 have b16 : (op == 16) = false := by simpa using o16
 rw [b1, b2, b9, b16]
 simp only [cond_false]
 by_cases hA : op = 8 ∨ op = 12 ∨ op = 13 ∨ op = 18
 · have e1 : (op == 8 || op == 12 || op == 13 || op == 18) = true := by simpa [or_assoc] using hA
   have e2 : arityP op m = (m == 1) := by rcases hA with rfl | rfl | rfl | rfl <;> rfl
   rw [e1, e2, cond_true]
   cases m == 1 <;> cases sub == 0 <;> cases tyZ t <;> cases valZ v <;> rfl
 have e1 : (op == 8 || op == 12 || op == 13 || op == 18) = false := by
   rw [Bool.eq_false_iff]; intro h; exact hA (by simpa [or_assoc] using h)
 rw [e1, cond_false]
 by_cases o14 : op = 14
 · subst o14
   have e2 : arityP 14 m = (bif decide (m ≥ 3) then m.tmod 2 != 0 else false) := by
     have : (m.tmod 2 == 1) = (m.tmod 2 != 0) := by
       have h2 : m.tmod 2 = m % 2 := Int.tmod_eq_emod_of_nonneg hm
       rw [h2]
       rcases (show m % 2 = 0 ∨ m % 2 = 1 by omega) with h | h <;> rw [h] <;> rfl
     rw [← this]; rfl
   rw [e2, show ((14 : Int) == 14) = true from rfl, cond_true]
   cases decide (m ≥ 3) <;> cases m.tmod 2 != 0 <;> cases sub == 0 <;> cases tyZ t <;> cases valZ v <;> rfl
 by_cases o15 : op = 15
 · subst o15
   rw [show arityP 15 m = decide (m ≥ 1) from rfl, show ((15 : Int) == 14) = false from rfl, show ((15 : Int) == 15) = true from rfl, cond_false, cond_true]
   cases decide (m ≥ 1) <;> cases sub == 0 <;> cases tyZ t <;> cases valZ v <;> rfl
 have b14 : (op == 14) = false := by simpa using o14
 have b15 : (op == 15) = false := by simpa using o15
 rw [b14, b15, cond_false, cond_false]
 have n8 : (op == 8) = false := by simp; omega
 have n12 : (op == 12) = false := by simp; omega
 have n13 : (op == 13) = false := by simp; omega
 have n18 : (op == 18) = false := by simp; omega
 by_cases hB : op = 3 ∨ op = 4 ∨ op = 5 ∨ op = 6 ∨ op = 7 ∨ op = 10 ∨ op = 11 ∨ op = 17
 · have e1 : (op == 3 || op == 4 || op == 5 || op == 6 || op == 7 || op == 10 || op == 11 || op == 17) = true := by simpa [or_assoc] using hB
   have e2 : arityP op m = (m == 2) := by
     unfold arityP
     rw [b1, b2, b14, b15, b16, n8, n12, n13, n18]
     simp only [cond_false]
     rw [show decide (op ≥ 3) = true from decide_eq_true (by omega), show decide (op ≤ 17) = true from decide_eq_true (by omega)]
     cases m == 2 <;> rfl
   rw [e1, e2, cond_true]
   cases m == 2 <;> cases sub == 0 <;> cases tyZ t <;> cases valZ v <;> rfl
 · have e1 : (op == 3 || op == 4 || op == 5 || op == 6 || op == 7 || op == 10 || op == 11 || op == 17) = false := by
     rw [Bool.eq_false_iff]; intro h; exact hB (by simpa [or_assoc] using h)
   have e2 : arityP op m = false := by
     unfold arityP
     rw [b1, b2, b14, b15, b16, n8, n12, n13, n18]
     simp only [cond_false]
     by_cases h3 : op ≥ 3
     · rw [show decide (op ≤ 17) = false from decide_eq_false (by omega)]
       cases m == 2 <;> cases decide (op ≥ 3) <;> rfl
     · rw [show decide (op ≥ 3) = false from decide_eq_false h3]
       cases m == 2 <;> rfl
   rw [e1, e2, cond_false]
   rfl
theorem mayL_snoc (c : Int) (l : List EX) (e : EX) : mayL c (l ++ [e]) = (mayL c l && mayE c e) := by
 rw [mayL_all, mayL_all, List.all_append]; simp
theorem ct76 : ∀ (n : Nat) (e : EX) (c : Int), size e < n → fits e → Ct prog gl 35 [.agg (cells e), .d (.v (.int .i64 c))] (gives [.d (.v (.bool (mayE c e)))])
 | 0, _, _, h, _ => absurd h (Nat.not_lt_zero _)
 | n + 1, .mk op sub t v args, c, hs, hf => by
   have hC : CallsOk prog gl (C_r76 n) := addC_ok (addC_ok (addC_ok C_4e_ok c_149_ok) c_18_ok) (fun a K hk => by
     unfold c_76 at hk
     split at hk
     · obtain ⟨e, rfl, h1, h2, h3⟩ := hk
       exact (ct76 n e _ h1 h2).gives h3
     · exact hk.elim)
   rw [cells_mk]
   refine ct_of_vc E_ok hC ioK_no it_ok mixed (fn := f35) (body := f35.body.getD .skip) (by kernel_rfl) (by kernel_rfl) (by kernel_rfl) (fi := fx_76 op sub t v args c) (by kernel_rfl) (by kernel_rfl) ⟨_, _, rfl, rfl⟩ ?_
   rw [vc76]; dsimp -eta -iota -proj only [Zby, Zbt, Zcr, Zl, Zd7, Zec, Zx, Zbz, Zv, Zk, Z1, Zep, Z4, Zdq, Ze2, Zdp]
   obtain ⟨_, hl, hfl⟩ := fits_mk hf
   simp only [size] at hs
   have hm0 : (0 : Int) ≤ ((cellsL args).length : Int) := by omega
   have hq := headR_eq op sub t v ((cellsL args).length : Int) c hm0
   have hE : mayE c (.mk op sub t v args) = (mayHd op sub t v ((cellsL args).length : Int) c && mayL c args) := by simp only [mayE]
   have fin : ∀ b, mayE c (.mk op sub t v args) = b → gives [.d (.v (.bool (mayE c (.mk op sub t v args))))] [R.d (D.v (Value.bool b))] [] := fun b h => by rw [h]; exact ⟨rfl, rfl⟩
   refine ⟨cellsL args, rfl, fun o1 => ⟨fun g => ?_, fun g => ?_⟩, fun o1 => ⟨fun o2 => ⟨fun g => ?_, fun g => ?_⟩, fun o2 => ⟨fun o9 => ⟨fun g => ?_, fun g => ?_⟩, fun o9 => ⟨fun o16 => ⟨fun g => ?_, fun g => ?_⟩, fun o16 => ⟨fun g => ?_, fun g => ?_⟩⟩⟩⟩⟩
   all_goals
     first
       | (have hg : headR op sub t v ((cellsL args).length : Int) c = true := by (simp only [headR, *, cond_true, cond_false]; done)
          rw [hg] at hq
          refine fin _ ?_
          have hq' : mayHd op sub t v ((cellsL args).length : Int) c = false := by simpa using hq.symm
          rw [hE, hq', Bool.false_and]
          done)
       | (have hg : headR op sub t v ((cellsL args).length : Int) c = false := by (simp only [headR, *, cond_true, cond_false]; done)
          rw [hg] at hq
          have hq' : mayHd op sub t v ((cellsL args).length : Int) c = true := by simpa using hq.symm
          rw [hq', Bool.true_and] at hE
          clear hg hq g
          refine ⟨(0 : Nat), ⟨rfl, args.length, Nat.zero_le _, rfl, by rw [List.take_zero]; simp only [mayL]⟩, fun m (x : Nat) hx => ⟨cellsL args, rfl, fun hi => ?_, fun hi => ?_⟩⟩
          · have hi : x < args.length := by simpa [cellsL_len] using hi
            obtain ⟨op', sub', t', v', a', he, hget⟩ := arg_get hi
            have hm := hx.2.1
            have hml := hx.2.2
            have hsz := size_mem (List.getElem_mem hi)
            refine ⟨cellsL args, rfl, ⟨by omega, by rw [cellsL_len]; omega⟩, _, hget, rfl, op', sub', t'.k, t'.sc, v'.t.k, v'.t.sc, v'.nul, v'.n, v'.s, cellsL a', rfl, args[x], by rw [he, cells_mk]; rfl, by omega, fitsL_mem hfl (List.getElem_mem hi), fun hb => ?_, fun hb => ⟨args.length - (x + 1), x + 1, by omega, ?_, hi, rfl, ?_⟩⟩
            · refine fin _ ?_
              rw [hE, mayL_all]
              rw [← Bool.not_eq_true, List.all_eq_true]
              intro hall
              have := hall _ (List.getElem_mem hi)
              rw [this] at hb; cases hb
            · rw [wrap_next (by omega)]
            · rw [take_succ_get args hi, mayL_snoc, hml]
              simpa using hb
          · have hi : ¬ x < args.length := by simpa [cellsL_len] using hi
            have hml := hx.2.2
            rw [List.take_of_length_le (by omega)] at hml
            exact fin _ (by rw [hE, hml]))
def c_76g (a : List R) (K : KT) : Prop := match a with
 | [.agg x, .d (.v (.int .i64 c))] => ∃ e : EX, x = cells e ∧ fits e ∧ K [.d (.v (.bool (mayE c e)))] []
 | _ => False
theorem c_76g_ok (a : List R) (K : KT) (h : c_76g a K) : Ct prog gl 35 a K := by
 unfold c_76g at h
 split at h
 · obtain ⟨e, rfl, h1, h2⟩ := h
   exact (ct76 (size e + 1) e _ (Nat.lt_succ_self _) h1).gives h2
 · exact h.elim
end Go.Proofs.Tryz
namespace Go.Proofs.Tryz
open Go Go.Dm Go.Ex
set_option maxRecDepth 100000
variable {gl : Nat → Option Obj}
structure CX where
 s : Bool
 n : Bool
 c : Int
def rstep (a : Ty) (x : CX) (u : Ty) : CX := ⟨bif x.s then u.k == a.k && (u.sc == a.sc && true) else false, bif x.n then s179_0 u.k u.sc else false, if u.sc > x.c then u.sc else x.c⟩
def rfold (a : Ty) (l : List Ty) : CX := l.foldl (rstep a) ⟨true, true, 0⟩
def st_96 (a : Ty) (r : List Ty) (x : Nat) : St := { tm := [(0, .d (.sl ((a :: r).map Ty.cs))), (2, .ref 2 0), (3, .d (.v (.bool false))), (4, .d (.v (.bool (rfold a ((a :: r).take x)).s))), (5, .d (.v (.bool (rfold a ((a :: r).take x)).n))), (6, .d (.v (.int .i64 (rfold a ((a :: r).take x)).c))), (7, .d (.v (.int .i64 (x : Int))))], hp := [(2, .box [.d (.v (.int .i64 0)), .d (.v (.int .i64 0))])], kn := [], gd := [] }
def fx_96 (a : Ty) (r : List Ty) : Fi := { fi24 with lx := [(5, { X := Nat, sh := st_96 a r, P := fun _ => inv_m (a :: r) })] }
def Zbe (a0 : Ty) (a1 : List Ty) (a2 : Nat) : St := { tm := [(0, .d (.sl (a0.cs :: List.map Ty.cs a1))), (2, .ref 2 0), (3, .d (.v (.bool false))), (4, .d (.v (.bool (rfold a0 (List.take a2 (a0 :: a1))).1))), (5, .d (.v (.bool (rfold a0 (List.take a2 (a0 :: a1))).2))), (6, .d (.v (.int .i64 (rfold a0 (List.take a2 (a0 :: a1))).3))), (7, .i (↑a2 : Int))], hp := [(2, .box [.i 0, .i 0])], kn := [], gd := [] : St }
def Zej (a0 : Ty) (a1 : List Ty) (a2 : Nat) (k : Int → Int → Prop) : Prop := Zeh a0 a1 fun es => Zbp a2 es fun n_1 n_2 => k n_1 n_2
def Zb2 (a0 : Ty) (a1 : List Ty) (a2 a3 : Nat) (k : Int → Nat → Nat → Prop) : Prop := Zeh a0 a1 fun es => Zba a2 es (2 : Nat) fun cells => ∃ (n_7 : Int), cut 0 1 (dropN (1 : Nat) cells) = some [D.i n_7] ∧ Zdq a3 fun m x' => k n_7 m x'
def Zcv (a0 : Ty) (a1 : Nat) (a2 : List Ty) (a3 : Nat) (k : Int → Int → Int → Nat → Nat → Prop) : Prop := (rfold a0 (List.take a1 (a0 :: a2))).2 = true → Zej a0 a2 a1 fun n_5 n_6 => Zb2 a0 a2 a1 a3 fun n_7 m x' => k n_5 n_6 n_7 m x'
def Zeb (a0 : Ty) (a1 : Nat) (a2 : List Ty) (a3 : Nat) (k : Int → Nat → Nat → Prop) : Prop := (rfold a0 (List.take a1 (a0 :: a2))).2 = !true → Zb2 a0 a2 a1 a3 fun n_5 m x' => k n_5 m x'
theorem vc96 (a : Ty) (r : List Ty) (Q : KT) : vc E_0 C_4e noI (fx_96 a r) (f24.body.getD .skip) f24.results.toList [.d (.sl ((a :: r).map Ty.cs))] Q = ( ∃ (x0 : Nat), ({ tm := [(0, .d (.sl (a.cs :: List.map Ty.cs r))), (2, .ref 2 0), (3, .d (.v (.bool false))), (4, .d (.v (.bool true))), (5, .d (.v (.bool true))), (6, .i 0), (7, .i 0)], hp := [(2, .box [.i 0, .i 0])], kn := [], gd := [] : St } = (Zbe a r x0) ∧ ∃ (n : Nat), inv_m (a :: r) n x0) ∧ ∀ (n : Nat) (x : Nat), inv_m (a :: r) n x → Zeh a r fun es => (Zec x es (((rfold a (List.take x (a :: r))).1 = true → Zej a r x fun n_1 n_2 => Zcy a r fun n_3 n_4 => (Zcv a x r n fun n_5 n_6 n_7 m x' => { tm := [(0, .d (.sl (a.cs :: List.map Ty.cs r))), (2, .ref 2 0), (3, .d (.v (.bool false))), (4, .d (.v (.bool (n_1 == n_3 && (n_2 == n_4 && true))))), (5, .d (.v (.bool (s179_0 n_5 n_6)))), (6, .i (if n_7 > (rfold a (List.take x (a :: r))).3 then n_7 else (rfold a (List.take x (a :: r))).3)), (7, .i (IntKind.i64.wrap ((↑x : Int) + 1)))], hp := [(2, .box [.i 0, .i 0])], kn := [], gd := [] : St } = (Zbe a r x') ∧ inv_m (a :: r) m x') ∧ (Zeb a x r n fun n_5 m x' => { tm := [(0, .d (.sl (a.cs :: List.map Ty.cs r))), (2, .ref 2 0), (3, .d (.v (.bool false))), (4, .d (.v (.bool (n_1 == n_3 && (n_2 == n_4 && true))))), (5, .d (.v (.bool false))), (6, .i (if n_5 > (rfold a (List.take x (a :: r))).3 then n_5 else (rfold a (List.take x (a :: r))).3)), (7, .i (IntKind.i64.wrap ((↑x : Int) + 1)))], hp := [(2, .box [.i 0, .i 0])], kn := [], gd := [] : St } = (Zbe a r x') ∧ inv_m (a :: r) m x')) ∧ ((rfold a (List.take x (a :: r))).1 = !true → (Zcv a x r n fun n_1 n_2 n_3 m x' => { tm := [(0, .d (.sl (a.cs :: List.map Ty.cs r))), (2, .ref 2 0), (3, .d (.v (.bool false))), (4, .d (.v (.bool false))), (5, .d (.v (.bool (s179_0 n_1 n_2)))), (6, .i (if n_3 > (rfold a (List.take x (a :: r))).3 then n_3 else (rfold a (List.take x (a :: r))).3)), (7, .i (IntKind.i64.wrap ((↑x : Int) + 1)))], hp := [(2, .box [.i 0, .i 0])], kn := [], gd := [] : St } = (Zbe a r x') ∧ inv_m (a :: r) m x') ∧ (Zeb a x r n fun n_1 m x' => { tm := [(0, .d (.sl (a.cs :: List.map Ty.cs r))), (2, .ref 2 0), (3, .d (.v (.bool false))), (4, .d (.v (.bool false))), (5, .d (.v (.bool false))), (6, .i (if n_1 > (rfold a (List.take x (a :: r))).3 then n_1 else (rfold a (List.take x (a :: r))).3)), (7, .i (IntKind.i64.wrap ((↑x : Int) + 1)))], hp := [(2, .box [.i 0, .i 0])], kn := [], gd := [] : St } = (Zbe a r x') ∧ inv_m (a :: r) m x')))) ∧ (Zdp x es (((rfold a (List.take x (a :: r))).1 = true → Zcy a r fun n n_1 => Q [.agg (Ze0 n n_1), .d (.v (.bool true))] []) ∧ ((rfold a (List.take x (a :: r))).1 = false → Q [.agg [.i 3, .v (.int .i64 (rfold a (List.take x (a :: r))).3)], .d (.v (.bool (rfold a (List.take x (a :: r))).2))] [])))) := by kernel_rfl
def encW (l : List Nat) : List (List D) := l.map fun (i : Nat) => [.v (.int .i64 (i : Int))]
def resN (op : Int) (n x : Nat) : List Nat := (List.range x).filter fun i => op == 15 || i % 2 == 1 || i == n - 1
def st_224 (op : Int) (n x : Nat) : St := { tm := [(0, .d (.v (.int .i64 op))), (1, .d (.v (.int .i64 (n : Int)))), (4, .nil), (5, .own 50005), (6, .d (.v (.int .i64 (x : Int))))], hp := [(50005, .lst 3 1 (encW (resN op n x)))], kn := [], gd := [] }
def inv_224 (n : Nat) (m : Nat) (x : Nat) : Prop := x ≤ n ∧ m = n - x
def fx_224 (op : Int) (n : Nat) : Fi := { fi130 with cv := [(3, [⟨none, 5, 50005, 3, 1⟩])], lx := [(3, { X := Nat, sh := st_224 op n, P := fun _ => inv_224 n })] }
def Zea (a0 : Nat) : List D := [.i (↑a0 : Int)]
theorem vc224 (op : Int) (n : Nat) (Q : KT) : vc E_0 C_4e noI (fx_224 op n) (f130.body.getD .skip) f130.results.toList [.d (.v (.int .i64 op)), .d (.v (.int .i64 (n : Int)))] Q = ( ∃ (x0 : Nat), ({ tm := [(0, .i op), (1, .i (↑n : Int)), (4, .nil), (5, .own 50005), (6, .i 0)], hp := [(50005, .lst 3 1 [])], kn := [], gd := [] : St } = { tm := [(0, .i op), (1, .i (↑n : Int)), (4, .nil), (5, .own 50005), (6, .i (↑x0 : Int))], hp := [(50005, .lst 3 1 (List.map (fun (i : Nat) => (Zea i)) (resN op n x0)))], kn := [], gd := [] : St } ∧ ∃ (n_1 : Nat), inv_224 n n_1 x0) ∧ ∀ (n_1 : Nat) (x : Nat), inv_224 n n_1 x → (decide ((↑x : Int) < (↑n : Int)) = true → (2 : Int) ≠ (0 : Int) ∧ ((bif bif op == 15 then true else (↑x : Int).tmod (2 : Int) == 1 then true else (↑x : Int) == IntKind.i64.wrap ((↑n : Int) - 1)) = true → (∀ (c : List D), c ∈ [(Zea x)] → c.length = 1) ∧ (3 : Nat) = (3 : Nat) ∧ (1 : Nat) = (1 : Nat) ∧ (↑(List.map (fun (i : Nat) => (Zea i)) (resN op n x)).length.succ : Int) * (↑(8 : Nat) : Int) ≤ 140737488355328 ∧ Zdq n_1 fun m x' => { tm := [(0, .i op), (1, .i (↑n : Int)), (4, .nil), (5, .own 50005), (6, .i (IntKind.i64.wrap ((↑x : Int) + 1)))], hp := [(50005, .lst 3 1 (List.map (fun (i : Nat) => (Zea i)) (resN op n x) ++ [(Zea x)]))], kn := [], gd := [] : St } = { tm := [(0, .i op), (1, .i (↑n : Int)), (4, .nil), (5, .own 50005), (6, .i (↑x' : Int))], hp := [(50005, .lst 3 1 (List.map (fun (i : Nat) => (Zea i)) (resN op n x')))], kn := [], gd := [] : St } ∧ inv_224 n m x') ∧ ((bif bif op == 15 then true else (↑x : Int).tmod (2 : Int) == 1 then true else (↑x : Int) == IntKind.i64.wrap ((↑n : Int) - 1)) = false → Zdq n_1 fun m x' => { tm := [(0, .i op), (1, .i (↑n : Int)), (4, .nil), (5, .own 50005), (6, .i (IntKind.i64.wrap ((↑x : Int) + 1)))], hp := [(50005, .lst 3 1 (List.map (fun (i : Nat) => (Zea i)) (resN op n x)))], kn := [], gd := [] : St } = { tm := [(0, .i op), (1, .i (↑n : Int)), (4, .nil), (5, .own 50005), (6, .i (↑x' : Int))], hp := [(50005, .lst 3 1 (List.map (fun (i : Nat) => (Zea i)) (resN op n x')))], kn := [], gd := [] : St } ∧ inv_224 n m x')) ∧ (decide ((↑x : Int) < (↑n : Int)) = false → Q [.d (.sl (List.map (fun (i : Nat) => (Zea i)) (resN op n x)))] [])) := by kernel_rfl
def st_151 (l : List Ty) (k : Int) (x : Nat) : St := { tm := [(0, .d (.sl (l.map Ty.cs))), (1, .d (.v (.int .i64 k))), (4, .d (.v (.bool false))), (5, .d (.v (.int .i64 (x : Int))))], hp := [], kn := [], gd := [] }
def inv_151 (l : List Ty) (k : Int) (m : Nat) (x : Nat) : Prop := x ≤ l.length ∧ m = l.length - x ∧ (l.take x).any (offK k) = false
def fx_151 (l : List Ty) (k : Int) : Fi := { fi68 with lx := [(2, { X := Nat, sh := st_151 l k, P := fun _ => inv_151 l k })] }
def Zfh (a0 : List Ty) (a1 : Int) (a2 : Nat) : St := { tm := [(0, .d (.sl (List.map Ty.cs a0))), (1, .i a1), (4, .d (.v (.bool false))), (5, .i (↑a2 : Int))], hp := [], kn := [], gd := [] : St }
def Zf5 (a0 : Nat) (a1 : List (List D)) (a2 : Nat) (k : Int → Prop) : Prop := Zba a0 a1 a2 fun cells => Zds cells fun n_1 => k n_1
theorem vc151 (l : List Ty) (k : Int) (Q : KT) : vc E_0 C_4e noI (fx_151 l k) (f68.body.getD .skip) f68.results.toList [.d (.sl (l.map Ty.cs)), .d (.v (.int .i64 k))] Q = ( ∃ (x0 : Nat), ({ tm := [(0, .d (.sl (List.map Ty.cs l))), (1, .i k), (4, .d (.v (.bool false))), (5, .i 0)], hp := [], kn := [], gd := [] : St } = (Zfh l k x0) ∧ ∃ (n : Nat), inv_151 l k n x0) ∧ ∀ (n : Nat) (x : Nat), inv_151 l k n x → Zbh l fun es => (Zec x es (Zbh l fun es => Zf5 x es (2 : Nat) fun n_1 => ((n_1 != k) = true → Zcr Q) ∧ ((n_1 != k) = false → Zdq n fun m x' => { tm := [(0, .d (.sl (List.map Ty.cs l))), (1, .i k), (4, .d (.v (.bool false))), (5, .i (IntKind.i64.wrap ((↑x : Int) + 1)))], hp := [], kn := [], gd := [] : St } = (Zfh l k x') ∧ inv_151 l k m x'))) ∧ Ze2 x es Q) := by kernel_rfl
theorem rfold_next {a : Ty} {l : List Ty} {x : Nat} (hi : x < l.length) : rfold a (l.take (x + 1)) = rstep a (rfold a (l.take x)) l[x] := by
 unfold rfold
 rw [take_succ_get l hi, List.foldl_append]
 rfl
def comR (a : Ty) (r : List Ty) : Ty × Bool := bif (rfold a (a :: r)).s then (a, true) else (⟨3, (rfold a (a :: r)).c⟩, (rfold a (a :: r)).n)
theorem ct96 (a : Ty) (r : List Ty) (hl : r.length < 4611686018427387904) : Ct prog gl 24 [.d (.sl ((a :: r).map Ty.cs))] (gives [.agg (comR a r).1.cs, .d (.v (.bool (comR a r).2))]) := by
 refine ct_of_vc E_ok C_4e_ok ioK_no it_ok mixed (fn := f24) (body := f24.body.getD .skip) (by kernel_rfl) (by kernel_rfl) (by kernel_rfl) (fi := fx_96 a r) (by kernel_rfl) (by kernel_rfl) ⟨_, _, rfl, rfl⟩ ?_
 rw [vc96]; dsimp -eta -iota -proj only [Zbe, Zeh, Zbt, Zec, Zej, Zbp, Zba, Zbc, Ze0, Zcy, Zce, Zey, Zft, Zcv, Zb2, Zdq, Zeb, Zdp]
 refine ⟨(0 : Nat), ⟨by simp only [List.take_zero, rfold, List.foldl_nil]; rfl, (a :: r).length, Nat.zero_le _, rfl⟩, fun m (x : Nat) hx => ⟨_, rfl, fun hi => ?_, fun hi => ?_⟩⟩
 · have hi : x < (a :: r).length := by have h := of_decide_eq_true hi; rw [List.length_cons, List.length_map] at h; rw [List.length_cons]; omega
   have hg := ty_get hi
   have hm := hx.2
   have hlen : (a :: r).length = r.length + 1 := rfl
   have hb : (0 : Int) ≤ (x : Int) ∧ (x : Int) < ((((a :: r).map Ty.cs).length : Nat) : Int) := by rw [List.length_map]; omega
   have h0 : (0 : Int) ≤ 0 ∧ (0 : Int) < ((((a :: r).map Ty.cs).length : Nat) : Int) := by rw [List.length_map]; omega
   have e0 := rfold_next (a := a) hi
   generalize hu : (a :: r)[x] = u at hg e0
   refine ⟨fun s1 => ⟨_, rfl, hb, _, hg, rfl, u.k, u.sc, rfl, _, rfl, h0, Ty.cs a, rfl, rfl, a.k, a.sc, rfl, fun s2 => ⟨_, rfl, hb, _, hg, rfl, u.k, u.sc, rfl, _, rfl, hb, _, hg, rfl, u.sc, rfl, (a :: r).length - (x + 1), x + 1, by omega, ?_, hi, rfl⟩, fun s2 => ⟨_, rfl, hb, _, hg, rfl, u.sc, rfl, (a :: r).length - (x + 1), x + 1, by omega, ?_, hi, rfl⟩⟩, fun s1 => ⟨fun s2 => ⟨_, rfl, hb, _, hg, rfl, u.k, u.sc, rfl, _, rfl, hb, _, hg, rfl, u.sc, rfl, (a :: r).length - (x + 1), x + 1, by omega, ?_, hi, rfl⟩, fun s2 => ⟨_, rfl, hb, _, hg, rfl, u.sc, rfl, (a :: r).length - (x + 1), x + 1, by omega, ?_, hi, rfl⟩⟩⟩
   all_goals
     (first | (have s1 : (rfold a ((a :: r).take x)).s = true := s1) | (have s1 : (rfold a ((a :: r).take x)).s = false := s1))
     (first | (have s2 : (rfold a ((a :: r).take x)).n = true := s2) | (have s2 : (rfold a ((a :: r).take x)).n = false := s2))
     rw [wrap_next (by omega), e0]
     simp only [rstep, s1, s2, cond_true, cond_false]
     try rfl
 · have hi : ¬ x < (a :: r).length := by have h := of_decide_eq_false hi; rw [List.length_cons, List.length_map] at h; rw [List.length_cons]; omega
   rw [List.take_of_length_le (by omega)]
   refine ⟨fun s1 => ⟨_, rfl, ⟨by decide, by simp only [List.length_cons]; omega⟩, Ty.cs a, rfl, rfl, a.k, a.sc, rfl, ?_⟩, fun s1 => ?_⟩
   · have s1 : (rfold a (a :: r)).s = true := s1
     unfold comR; rw [s1]; exact ⟨rfl, rfl⟩
   · have s1 : (rfold a (a :: r)).s = false := s1
     unfold comR; rw [s1]; exact ⟨rfl, rfl⟩
def agree (p q : Ty × Bool) : Prop := q.2 = p.2 ∧ (p.2 = true → q.1 = p.1)
theorem agree_refl (p : Ty × Bool) : agree p p := ⟨rfl, fun _ => rfl⟩
def comInv (a : Ty) (p : Ty × Bool) (x : CX) : Prop := (x.s = true → p = (a, true) ∧ x.n = s130_0 a.k a.sc ∧ x.c = a.sc) ∧ (x.s = false → p.2 = x.n ∧ (x.n = true → p.1 = ⟨3, x.c⟩))
theorem com_step (a : Ty) (p : Ty × Bool) (x : CX) (u : Ty) (h : comInv a p x) : comInv a (cstep p u) (rstep a x u) := by
 obtain ⟨t, ok⟩ := p
 obtain ⟨s, n, c⟩ := x
 obtain ⟨h1, h2⟩ := h
 dsimp only at h1 h2
 cases s with
 | true =>
   obtain ⟨e1, e2, e3⟩ := h1 rfl
   injection e1 with e1 e4
   subst e1; subst e4; subst e2; subst e3
   by_cases hu : u = t
   · subst hu
     have q : (u.k == u.k && (u.sc == u.sc && true)) = true := by simp
     unfold cstep rstep
     rw [q]
     refine ⟨fun _ => ⟨rfl, ?_, ?_⟩, fun h => (by cases h)⟩
     · show (bif s130_0 u.k u.sc then s179_0 u.k u.sc else false) = s130_0 u.k u.sc
       cases h : s130_0 u.k u.sc with
       | true => exact h
       | false => rfl
     · show (if u.sc > u.sc then u.sc else u.sc) = u.sc
       split <;> rfl
   · have q : (u.k == t.k && (u.sc == t.sc && true)) = false := by
       rw [Bool.eq_false_iff]; intro h
       simp only [Bool.and_true, Bool.and_eq_true, beq_iff_eq] at h
       exact hu (by obtain ⟨_, _⟩ := u; obtain ⟨_, _⟩ := t; simp_all)
     unfold cstep rstep
     dsimp only
     rw [q]
     have hs : ∀ k sc, s179_0 k sc = s130_0 k sc := fun _ _ => rfl
     rw [hs]
     cases h3 : s130_0 u.k u.sc <;> cases h4 : s130_0 t.k t.sc <;> simp only [cond_true, cond_false]
     · exact ⟨fun h => (by cases h), fun _ => ⟨rfl, fun h => (by cases h)⟩⟩
     · exact ⟨fun h => (by cases h), fun _ => ⟨rfl, fun h => (by cases h)⟩⟩
     · exact ⟨fun h => (by cases h), fun _ => ⟨rfl, fun h => (by cases h)⟩⟩
     · exact ⟨fun h => (by cases h), fun _ => ⟨rfl, fun _ => rfl⟩⟩
 | false =>
   obtain ⟨e1, e2⟩ := h2 rfl
   subst e1
   refine ⟨fun h => (by unfold rstep at h; cases h), fun _ => ?_⟩
   have hs : ∀ k sc, s179_0 k sc = s130_0 k sc := fun _ _ => rfl
   cases ok with
   | false =>
     have : (cstep (t, false) u).2 = false := by
       unfold cstep; dsimp only
       cases (u.k == t.k && (u.sc == t.sc && true)) <;> cases (bif s130_0 u.k u.sc then s130_0 t.k t.sc else false) <;> rfl
     rw [this]
     exact ⟨rfl, fun h => (by cases h)⟩
   | true =>
     have e2 := e2 rfl
     subst e2
     unfold cstep rstep
     dsimp only
     rw [hs, show s130_0 3 c = true from rfl]
     by_cases hu : u = ⟨3, c⟩
     · subst hu
       have q : ((3 : Int) == 3 && (c == c && true)) = true := by simp
       rw [q]
       refine ⟨rfl, fun _ => ?_⟩
       show (⟨3, c⟩ : Ty) = ⟨3, if c > c then c else c⟩
       split <;> rfl
     · have q : (u.k == 3 && (u.sc == c && true)) = false := by
         rw [Bool.eq_false_iff]; intro h
         simp only [Bool.and_true, Bool.and_eq_true, beq_iff_eq] at h
         exact hu (by obtain ⟨_, _⟩ := u; simp_all)
       rw [q]
       cases h3 : s130_0 u.k u.sc <;> simp only [cond_true, cond_false]
       · exact ⟨by first | rfl | trivial, fun h => (by cases h)⟩
       · exact ⟨by first | rfl | trivial, fun _ => by first | rfl | trivial⟩
theorem com_inv (a : Ty) (ha : 0 ≤ a.sc) (r : List Ty) : comInv a (cfold a r) (rfold a (a :: r)) := by
 have key : ∀ (r : List Ty) (p : Ty × Bool) (x : CX), comInv a p x → comInv a (r.foldl cstep p) (r.foldl (rstep a) x) := by
   intro r
   induction r with
   | nil => intro p x h; exact h
   | cons u r ih => intro p x h; exact ih _ _ (com_step a p x u h)
 refine key r (a, true) (rstep a ⟨true, true, 0⟩ a) ⟨fun _ => ⟨rfl, rfl, ?_⟩, fun h => ?_⟩
 · show (if a.sc > 0 then a.sc else 0) = a.sc
   split <;> omega
 · exfalso
   revert h
   show (a.k == a.k && (a.sc == a.sc && true)) = false → False
   simp
theorem com_agree (a : Ty) (ha : 0 ≤ a.sc) (r : List Ty) : agree (cfold a r) (comR a r) := by
 have h := com_inv a ha r
 unfold comR
 rcases hs : (rfold a (a :: r)).s with _ | _
 · obtain ⟨h1, h2⟩ := h.2 hs
   exact ⟨h1.symm, fun h3 => (h2 (h1 ▸ h3)).symm⟩
 · obtain ⟨h1, _⟩ := h.1 hs
   rw [h1]; exact ⟨rfl, fun _ => rfl⟩
theorem ct151 (l : List Ty) (k : Int) (hl : l.length < 4611686018427387904) : Ct prog gl 68 [.d (.sl (l.map Ty.cs)), .d (.v (.int .i64 k))] (gives [.d (.v (.bool (!l.any (offK k))))]) := by
 refine ct_of_vc E_ok C_4e_ok ioK_no it_ok mixed (fn := f68) (body := f68.body.getD .skip) (by kernel_rfl) (by kernel_rfl) (by kernel_rfl) (fi := fx_151 l k) (by kernel_rfl) (by kernel_rfl) ⟨_, _, rfl, rfl⟩ ?_
 rw [vc151]; dsimp -eta -iota -proj only [Zfh, Zbh, Zbt, Zec, Zf5, Zba, Zds, Zcr, Zdq, Ze2, Zdp]
 refine ⟨(0 : Nat), ⟨rfl, l.length, Nat.zero_le _, rfl, by simp⟩, fun m (x : Nat) hx => ⟨_, rfl, fun hi => ?_, fun hi => ?_⟩⟩
 · have hi : x < l.length := by simpa using hi
   have hg := ty_get hi
   have hm := hx.2.1
   refine ⟨_, rfl, ⟨by omega, by rw [List.length_map]; omega⟩, _, hg, rfl, l[x].k, rfl, fun hk => ?_, fun hk => ⟨l.length - (x + 1), x + 1, by omega, ?_, hi, rfl, ?_⟩⟩
   · have : l.any (offK k) = true := List.any_eq_true.2 ⟨l[x], List.getElem_mem hi, hk⟩
     rw [this]; exact ⟨rfl, rfl⟩
   · rw [wrap_next (by omega)]
   · rw [take_succ_get l hi, List.any_append, hx.2.2]
     simpa [offK] using hk
 · have hi : ¬ x < l.length := by simpa using hi
   have h2 := hx.2.2
   rw [List.take_of_length_le (by omega)] at h2
   rw [h2]; exact ⟨rfl, rfl⟩
theorem resN_next (op : Int) (n x : Nat) : resN op n (x + 1) = resN op n x ++ (if (op == 15 || x % 2 == 1 || x == n - 1) = true then [x] else []) := by
 unfold resN
 rw [List.range_succ, List.filter_append]
 simp only [List.filter_cons, List.filter_nil]
theorem ct224 (op : Int) (n : Nat) (hn : n ≤ 1353245080300) : Ct prog gl 130 [.d (.v (.int .i64 op)), .d (.v (.int .i64 (n : Int)))] (gives [.d (.sl (encW (resN op n n)))]) := by
 refine ct_of_vc E_ok C_4e_ok ioK_no it_ok mixed (fn := f130) (body := f130.body.getD .skip) (by kernel_rfl) (by kernel_rfl) (by kernel_rfl) (fi := fx_224 op n) (by kernel_rfl) (by kernel_rfl) ⟨_, _, rfl, rfl⟩ ?_
 rw [vc224]; dsimp -eta -iota -proj only [Zea, Zdq]
 refine ⟨(0 : Nat), ⟨rfl, n, Nat.zero_le _, rfl⟩, fun m (x : Nat) hx => ⟨fun hi => ?_, fun hi => ?_⟩⟩
 · have hi : x < n := by simpa using hi
   have hm := hx.2
   have hc : (bif bif op == 15 then true else ((x : Nat) : Int).tmod 2 == 1 then true else ((x : Nat) : Int) == IntKind.i64.wrap ((n : Int) - 1)) = (op == 15 || x % 2 == 1 || x == n - 1) := by
     rw [wrap64_of (by omega) (by omega)]
     have e1 : (((x : Nat) : Int).tmod 2 == 1) = (x % 2 == 1) := by
       rw [Int.tmod_eq_emod_of_nonneg (by omega)]
       rw [Bool.eq_iff_iff]; simp only [beq_iff_eq]; omega
     have e2 : (((x : Nat) : Int) == (n : Int) - 1) = (x == n - 1) := by
       rw [Bool.eq_iff_iff]; simp only [beq_iff_eq]; omega
     rw [e1, e2]
     cases op == 15 <;> cases x % 2 == 1 <;> rfl
   rw [hc]
   have hlen : (resN op n x).length ≤ x := by
     unfold resN
     have := List.length_filter_le (fun i => op == 15 || i % 2 == 1 || i == n - 1) (List.range x)
     rw [List.length_range] at this; exact this
   refine ⟨by decide, fun h => ⟨by simp, rfl, rfl, ?_, n - (x + 1), x + 1, by omega, ?_, hi, rfl⟩, fun h => ⟨n - (x + 1), x + 1, by omega, ?_, hi, rfl⟩⟩
   · rw [List.length_map]; simp only [Nat.succ_eq_add_one]; omega
   · rw [wrap_next (by omega), resN_next, if_pos h, List.map_append]; rfl
   · rw [wrap_next (by omega), resN_next, if_neg (by rw [h]; decide), List.append_nil]
 · have hi : ¬ x < n := by simpa using hi
   have hx1 := hx.1
   rw [show x = n by omega]
   exact ⟨rfl, rfl⟩
theorem vc154 (op : Int) (l : List Ty) (Q : KT) : vc E_0 C_4e noI fi71 (f71.body.getD .skip) f71.results.toList [.d (.v (.int .i64 op)), .d (.sl (l.map Ty.cs))] Q = ( Zck l fun n n_1 n_2 n_3 => ((op == 6) = true → Q [.agg (Zda (2 : Int)), .d (.v (.bool (bif n == 2 then n_2 == 2 else false)))] []) ∧ ((op == 6) = false → ((op == 7) = true → Q [.agg (Zda (2 : Int)), .d (.v (.bool (bif n == 2 then n_2 == 2 else false)))] []) ∧ ((op == 7) = false → ((op == 8) = true → Q [.agg (Ze0 n n_1), .d (.v (.bool (bif s179_0 n n_1 then s179_0 n_2 n_3 else false)))] []) ∧ ((op == 8) = false → ((op == 5) = true → ((bif n == 2 then n_2 == 2 else false) = true → Zd6 Q (2 : Int)) ∧ ((bif n == 2 then n_2 == 2 else false) = false → Q [.agg [.i 3, .i (IntKind.i64.wrap (n_1 + n_3))], .d (.v (.bool (bif bif s179_0 n n_1 then s179_0 n_2 n_3 else false then decide (IntKind.i64.wrap (n_1 + n_3) ≤ (18 : Int)) else false)))] [])) ∧ ((op == 5) = false → ((bif n == 2 then n_2 == 2 else false) = true → Zd6 Q (2 : Int)) ∧ ((bif n == 2 then n_2 == 2 else false) = false → ((bif s179_0 n n_1 then s179_0 n_2 n_3 else false) = true → Q [.agg [.i 3, .i (if n_3 > n_1 then n_3 else n_1)], .d (.v (.bool true))] []) ∧ ((bif s179_0 n n_1 then s179_0 n_2 n_3 else false) = false → ((bif bif n == 5 then n_2 == 5 else false then op == 4 else false) = true → Zd6 Q (2 : Int)) ∧ ((bif bif n == 5 then n_2 == 5 else false then op == 4 else false) = false → Q [.agg (Zda (5 : Int)), .d (.v (.bool (bif bif n == 5 then n_2 == 2 else false then true else bif bif op == 3 then n == 2 else false then n_2 == 5 else false)))] [])))))))) := by kernel_rfl
def arithR (op : Int) (x y : Ty) : Ty × Bool :=
 bif op == 6 then (⟨2, 0⟩, bif x.k == 2 then y.k == 2 else false)
 else bif op == 7 then (⟨2, 0⟩, bif x.k == 2 then y.k == 2 else false)
 else bif op == 8 then (x, bif s179_0 x.k x.sc then s179_0 y.k y.sc else false)
 else bif op == 5 then (bif (bif x.k == 2 then y.k == 2 else false) then (⟨2, 0⟩, true) else (⟨3, IntKind.i64.wrap (x.sc + y.sc)⟩, bif (bif s179_0 x.k x.sc then s179_0 y.k y.sc else false) then decide (IntKind.i64.wrap (x.sc + y.sc) ≤ 18) else false))
 else bif (bif x.k == 2 then y.k == 2 else false) then (⟨2, 0⟩, true)
 else bif (bif s179_0 x.k x.sc then s179_0 y.k y.sc else false) then (⟨3, if y.sc > x.sc then y.sc else x.sc⟩, true)
 else bif (bif (bif x.k == 5 then y.k == 5 else false) then op == 4 else false) then (⟨2, 0⟩, true)
 else (⟨5, 0⟩, bif (bif x.k == 5 then y.k == 2 else false) then true else bif (bif op == 3 then x.k == 2 else false) then y.k == 5 else false)
theorem ct154 (op : Int) (l : List Ty) (x y : Ty) (hx : l[0]? = some x) (hy : l[l.length - 1]? = some y) (hl : l.length ≤ 1353245080300) : Ct prog gl 71 [.d (.v (.int .i64 op)), .d (.sl (l.map Ty.cs))] (gives [.agg (arithR op x y).1.cs, .d (.v (.bool (arithR op x y).2))]) := by
 refine ctv C_4e_ok f71 fi71 ⟨_, _, rfl, rfl⟩ ?_
 rw [vc154]; dsimp -eta -iota -proj only [Zck, Zbh, Zbt, Zce, Zey, Zft, Zbc, Ze0, Zb0, Zbv, Zda, Zd6, Zd2]
 have h0 := (List.getElem?_eq_some_iff.1 hx).1
 have w : IntKind.i64.wrap (((List.map Ty.cs l).length : Int) - 1) = ((l.length - 1 : Nat) : Int) := by rw [List.length_map, wrap_i64_of (by omega) (by omega)]; omega
 have g0 : (l.map Ty.cs)[Int.toNat 0]? = some (Ty.cs x) := by
   show (l.map Ty.cs)[0]? = _
   rw [List.getElem?_map, hx]; rfl
 have g1 : (l.map Ty.cs)[(IntKind.i64.wrap (((List.map Ty.cs l).length : Int) - 1)).toNat]? = some (Ty.cs y) := by
   rw [w, Int.toNat_natCast, List.getElem?_map, hy]; rfl
 have fin : ∀ (a a' : Int) (c : Bool), arithR op x y = (⟨a, a'⟩, c) → gives [.agg (arithR op x y).1.cs, .d (.v (.bool (arithR op x y).2))] [R.agg [D.v (Value.int IntKind.i64 a), D.v (Value.int IntKind.i64 a')], R.d (D.v (Value.bool c))] [] := fun a a' c h => by rw [h]; exact ⟨rfl, rfl⟩
 refine ⟨_, rfl, ⟨by decide, by rw [List.length_map]; omega⟩, _, g0, rfl, x.k, x.sc, rfl, _, rfl, _, rfl, ⟨by rw [w]; omega, by rw [w, List.length_map]; omega⟩, _, g1, rfl, y.k, y.sc, rfl, ?_⟩
 repeat' first | (refine And.intro (fun h => ?_) (fun h => ?_)) | fail
 all_goals (refine fin _ _ _ ?_; clear fin; first | (simp only [arithR, *, cond_true, cond_false]; done) | (simp_all only [arithR, cond_true, cond_false]; done))
end Go.Proofs.Tryz
