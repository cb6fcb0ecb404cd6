/-
  DERIVED: THE SHELF's CONTRACTS AT THIS DUMP, IN PLAIN WORDS (tools/lay-plain.mjs out of 'XGr0.lean', which tools/lay-shelf.mjs wrote): THE SAME DECLARATIONS UNDER THE SAME NAMES: 'import', 'namespace', 'open', 'def', 'theorem' AND NOTHING ELSE: no command of the shelf's: FOR A HAND-IN. Each laying: the table of numbers ('.._ren') and one theorem, a field a fact of the dump's own or the kernel's comparison; each contract: ONE APPLICATION.
-/
import Derived.Shelf.SlGeneric
import Derived.Shelf.Spec.SlicesGrow
import Derived.Ground.Names8Prog
import Derived.Test.YtmieillgepoaeaaGreatDoorProg
import Derived.Test.YtmieillgepoaeaaGreatDoorLists
import Derived.Test.YtmieillgepoaeaaGreatDoorGrowI
import Derived.Test.YtmieillgepoaeaaGreatDoorSb
namespace Go.Proofs
open Go.Shelf
def Tryz.grow52_ren : Go.Shelf.Ren := ⟨fun | 4 => 52 | n => n, fun | 22 => 22 | 25 => 43 | 3 => 3 | 4 => 4 | 9 => 9 | 20 => 20 | 0 => 0 | n => n, fun | n => n⟩
theorem Tryz.grow52 : Go.Proofs.Lays8.n4 Tryz.prog Tryz.grow52_ren := {
  mixed := by kernel_rfl
  f4 := ⟨Tryz.f52.name, by decide, Tryz.func52.trans (congrArg some (by kernel_rfl))⟩
  t0 := Tryz.underlying0
  a0 := Tryz.isAgg0
  z0 := Tryz.sizeOf0
  v0 := Tryz.zeroValue0
  t3 := Tryz.underlying3
  a3 := Tryz.isAgg3
  z3 := Tryz.sizeOf3
  v3 := Tryz.zeroValue3
  t4 := Tryz.underlying4
  a4 := Tryz.isAgg4
  z4 := Tryz.sizeOf4
  v4 := Tryz.zeroValue4
  t9 := Tryz.underlying9
  a9 := Tryz.isAgg9
  z9 := Tryz.sizeOf9
  v9 := Tryz.zeroValue9
  t20 := Tryz.underlying20
  a20 := Tryz.isAgg20
  z20 := Tryz.sizeOf20
  v20 := Tryz.zeroValue20
  t22 := Tryz.underlying22
  a22 := Tryz.isAgg22
  z22 := Tryz.sizeOf22
  v22 := Tryz.zeroValue22 }
def Tryz.grow184_ren : Go.Shelf.Ren := ⟨fun | 4 => 184 | n => n, fun | 22 => 64 | 25 => 167 | 3 => 3 | 4 => 4 | 9 => 9 | 20 => 20 | 0 => 0 | n => n, fun | n => n⟩
theorem Tryz.grow184 : Go.Proofs.Lays8.n4 Tryz.prog Tryz.grow184_ren := {
  mixed := by kernel_rfl
  f4 := ⟨Tryz.f184.name, by decide, Tryz.func184.trans (congrArg some (by kernel_rfl))⟩
  t0 := Tryz.underlying0
  a0 := Tryz.isAgg0
  z0 := Tryz.sizeOf0
  v0 := Tryz.zeroValue0
  t3 := Tryz.underlying3
  a3 := Tryz.isAgg3
  z3 := Tryz.sizeOf3
  v3 := Tryz.zeroValue3
  t4 := Tryz.underlying4
  a4 := Tryz.isAgg4
  z4 := Tryz.sizeOf4
  v4 := Tryz.zeroValue4
  t9 := Tryz.underlying9
  a9 := Tryz.isAgg9
  z9 := Tryz.sizeOf9
  v9 := Tryz.zeroValue9
  t20 := Tryz.underlying20
  a20 := Tryz.isAgg20
  z20 := Tryz.sizeOf20
  v20 := Tryz.zeroValue20
  t22 := Tryz.underlying64
  a22 := Tryz.isAgg64
  z22 := Tryz.sizeOf64
  v22 := Tryz.zeroValue64 }
end Go.Proofs
namespace Go.Proofs.Tryz
open Go Go.Dm Go.Ex
set_option maxRecDepth 100000
variable {gl : Nat → Option Obj}
/-- slices.Concat at []api.Expr. -/
def I_80 : Nat → List V → List V → St → (V → St → Prop) → Prop := growI noI 52 43 10 104 24
theorem I_80_ok : IOk prog gl I_80 := growI_lay (ρ := grow52_ren) grow52 E_ok (key := 24) (ei := tiAt te_0 43) rfl rfl (by kernel_rfl) (fnOk_of (f := 52) (fn := f52) (by kernel_rfl) (by kernel_rfl) (by kernel_rfl))
def E_c80 : Env := { E_0 with inl := [52] }
def st_80a (ls : List (List (List D))) (x : Nat) : St := { tm := [(0, .d (.sl (encL2 ls))), (2, .nil), (3, .d (.v (.int .i64 (tot (ls.take x) : Int)))), (9, .d (.sl (encL2 ls))), (10, .d (.v (.int .i64 ((encL2 ls).length : Int)))), (11, .d (.v (.int .i64 (x : Int))))], hp := [], kn := [], gd := [] }
def st_80b (ls : List (List (List D))) (x : Nat) : St := { tm := [(2, .nil), (6, .own 24), (25, .d (.sl (encL2 ls))), (26, .d (.v (.int .i64 ((encL2 ls).length : Int)))), (27, .d (.v (.int .i64 (x : Int))))], hp := [(24, .lst 43 10 (ls.take x).flatten)], kn := [], gd := [] }
def inv_80 (ls : List (List (List D))) (m : Nat) (x : Nat) : Prop := x ≤ ls.length ∧ m = ls.length - x
def fx_80 (ls : List (List (List D))) : Fi := { fi20 with lx := [(3, { X := Nat, sh := st_80a ls, P := fun _ => inv_80 ls }), (11, { X := Nat, sh := st_80b ls, P := fun _ => inv_80 ls })], cv := [(11, [{ box := none, ix := 6, key := 24, e := 43, sz := 10 }])] }
theorem vc80 (ls : List (List (List D))) (Q : List R → List (List D) → Prop) : vcO E_c80 C_0 I_80 (fx_80 ls) (f20.body.getD .skip) f20.results.toList [.d (.sl (encL2 ls))] Q = ( ∃ (es : List (List D)), D.sl (encL2 ls) = D.sl es ∧ ∃ (x0 : { X := Nat, sh := st_80a ls, P := fun (x : Nat) => inv_80 ls : LX }.X), ({ tm := [((0 : Nat), V.d (D.sl (encL2 ls))), ((2 : Nat), V.nil), ((3 : Nat), V.d (D.v (Value.int .i64 0))), ((9 : Nat), V.d (D.sl (encL2 ls))), ((10 : Nat), V.d (D.v (Value.int .i64 (↑es.length : Int)))), ((11 : Nat), V.d (D.v (Value.int .i64 0)))], hp := [], kn := [], gd := [] : St } = { tm := [((0 : Nat), V.d (D.sl (encL2 ls))), ((2 : Nat), V.nil), ((3 : Nat), V.d (D.v (Value.int .i64 (↑(tot (List.take x0 ls)) : Int)))), ((9 : Nat), V.d (D.sl (encL2 ls))), ((10 : Nat), V.d (D.v (Value.int .i64 (↑(encL2 ls).length : Int)))), ((11 : Nat), V.d (D.v (Value.int .i64 (↑x0 : Int))))], hp := [], kn := [], gd := [] : St } ∧ ∃ (n : Nat), inv_80 ls n x0) ∧ ∀ (n : Nat) (x : { X := Nat, sh := st_80a ls, P := fun (x : Nat) => inv_80 ls : LX }.X), inv_80 ls n x → (decide ((↑x : Int) < (↑(encL2 ls).length : Int)) = true → ∃ (es : List (List D)), D.sl (encL2 ls) = D.sl es ∧ ((0 : Int) ≤ (↑x : Int) ∧ (↑x : Int) < (↑es.length : Int)) ∧ ∃ (cells : List D), es[(↑x : Int).toNat]? = some cells ∧ cells.length = (1 : Nat) ∧ ∃ (es : List (List D)), cut ((0 : Nat)) ((1 : Nat)) cells = some [D.sl es] ∧ ∃ (es_1 : List (List D)), D.sl es = D.sl es_1 ∧ (decide (IntKind.i64.wrap ((↑(tot (List.take x ls)) : Int) + (↑es_1.length : Int)) < (0 : Int)) = true → False) ∧ (decide (IntKind.i64.wrap ((↑(tot (List.take x ls)) : Int) + (↑es_1.length : Int)) < (0 : Int)) = false → ∃ (m : Nat), ∃ (x' : { X := Nat, sh := st_80a ls, P := fun (x : Nat) => inv_80 ls : LX }.X), m < n ∧ { tm := [((0 : Nat), V.d (D.sl (encL2 ls))), ((2 : Nat), V.nil), ((3 : Nat), V.d (D.v (Value.int .i64 (IntKind.i64.wrap ((↑(tot (List.take x ls)) : Int) + (↑es_1.length : Int)))))), ((9 : Nat), V.d (D.sl (encL2 ls))), ((10 : Nat), V.d (D.v (Value.int .i64 (↑(encL2 ls).length : Int)))), ((11 : Nat), V.d (D.v (Value.int .i64 (IntKind.i64.wrap ((↑x : Int) + (1 : Int))))))], hp := [], kn := [], gd := [] : St } = { tm := [((0 : Nat), V.d (D.sl (encL2 ls))), ((2 : Nat), V.nil), ((3 : Nat), V.d (D.v (Value.int .i64 (↑(tot (List.take x' ls)) : Int)))), ((9 : Nat), V.d (D.sl (encL2 ls))), ((10 : Nat), V.d (D.v (Value.int .i64 (↑(encL2 ls).length : Int)))), ((11 : Nat), V.d (D.v (Value.int .i64 (↑x' : Int))))], hp := [], kn := [], gd := [] : St } ∧ inv_80 ls m x')) ∧ (decide ((↑x : Int) < (↑(encL2 ls).length : Int)) = false → (0 : Int) ≤ (↑(tot (List.take x ls)) : Int) ∧ (↑(tot (List.take x ls)) : Int) * (↑((104 : Nat)) : Int) ≤ (140737488355328 : Int) ∧ (↑(tot (List.take x ls)) : Int) ≤ (4611686018427387904 : Int) ∧ ((↑(tot (List.take x ls)) : Int) = (0 : Int) → ∃ (es : List (List D)), D.sl (encL2 ls) = D.sl es ∧ ∃ (x0 : { X := Nat, sh := st_80b ls, P := fun (x : Nat) => inv_80 ls : LX }.X), ({ tm := [((2 : Nat), V.nil), ((6 : Nat), V.own ((24 : Nat))), ((25 : Nat), V.d (D.sl (encL2 ls))), ((26 : Nat), V.d (D.v (Value.int .i64 (↑es.length : Int)))), ((27 : Nat), V.d (D.v (Value.int .i64 0)))], hp := [((24 : Nat), B.lst ((43 : Nat)) ((10 : Nat)) [])], kn := [], gd := [] : St } = { tm := [((2 : Nat), V.nil), ((6 : Nat), V.own ((24 : Nat))), ((25 : Nat), V.d (D.sl (encL2 ls))), ((26 : Nat), V.d (D.v (Value.int .i64 (↑(encL2 ls).length : Int)))), ((27 : Nat), V.d (D.v (Value.int .i64 (↑x0 : Int))))], hp := [((24 : Nat), B.lst ((43 : Nat)) ((10 : Nat)) (List.take x0 ls).flatten)], kn := [], gd := [] : St } ∧ ∃ (n : Nat), inv_80 ls n x0) ∧ ∀ (n : Nat) (x : { X := Nat, sh := st_80b ls, P := fun (x : Nat) => inv_80 ls : LX }.X), inv_80 ls n x → (decide ((↑x : Int) < (↑(encL2 ls).length : Int)) = true → ∃ (es : List (List D)), D.sl (encL2 ls) = D.sl es ∧ ((0 : Int) ≤ (↑x : Int) ∧ (↑x : Int) < (↑es.length : Int)) ∧ ∃ (cells : List D), es[(↑x : Int).toNat]? = some cells ∧ cells.length = (1 : Nat) ∧ ∃ (es : List (List D)), cut ((0 : Nat)) ((1 : Nat)) cells = some [D.sl es] ∧ ∃ (es_1 : List (List D)), D.sl es = D.sl es_1 ∧ (∀ (c : List D), c ∈ es_1 → c.length = (10 : Nat)) ∧ (43 : Nat) = (43 : Nat) ∧ (10 : Nat) = (10 : Nat) ∧ (↑((List.take x ls).flatten.length.add es_1.length) : Int) * (↑((104 : Nat)) : Int) ≤ (140737488355328 : Int) ∧ ∃ (m : Nat), ∃ (x' : { X := Nat, sh := st_80b ls, P := fun (x : Nat) => inv_80 ls : LX }.X), m < n ∧ { tm := [((2 : Nat), V.nil), ((6 : Nat), V.own ((24 : Nat))), ((25 : Nat), V.d (D.sl (encL2 ls))), ((26 : Nat), V.d (D.v (Value.int .i64 (↑(encL2 ls).length : Int)))), ((27 : Nat), V.d (D.v (Value.int .i64 (IntKind.i64.wrap ((↑x : Int) + (1 : Int))))))], hp := [((24 : Nat), B.lst ((43 : Nat)) ((10 : Nat)) ((List.take x ls).flatten ++ es_1))], kn := [], gd := [] : St } = { tm := [((2 : Nat), V.nil), ((6 : Nat), V.own ((24 : Nat))), ((25 : Nat), V.d (D.sl (encL2 ls))), ((26 : Nat), V.d (D.v (Value.int .i64 (↑(encL2 ls).length : Int)))), ((27 : Nat), V.d (D.v (Value.int .i64 (↑x' : Int))))], hp := [((24 : Nat), B.lst ((43 : Nat)) ((10 : Nat)) (List.take x' ls).flatten)], kn := [], gd := [] : St } ∧ inv_80 ls m x') ∧ (decide ((↑x : Int) < (↑(encL2 ls).length : Int)) = false → Q [.lst ((43 : Nat)) ((10 : Nat)) (List.take x ls).flatten] [])) ∧ ((↑(tot (List.take x ls)) : Int) ≠ (0 : Int) → ∃ (es : List (List D)), D.sl (encL2 ls) = D.sl es ∧ ∃ (x0 : { X := Nat, sh := st_80b ls, P := fun (x : Nat) => inv_80 ls : LX }.X), ({ tm := [((2 : Nat), V.nil), ((6 : Nat), V.own ((24 : Nat))), ((25 : Nat), V.d (D.sl (encL2 ls))), ((26 : Nat), V.d (D.v (Value.int .i64 (↑es.length : Int)))), ((27 : Nat), V.d (D.v (Value.int .i64 0)))], hp := [((24 : Nat), B.lst ((43 : Nat)) ((10 : Nat)) [])], kn := [], gd := [] : St } = { tm := [((2 : Nat), V.nil), ((6 : Nat), V.own ((24 : Nat))), ((25 : Nat), V.d (D.sl (encL2 ls))), ((26 : Nat), V.d (D.v (Value.int .i64 (↑(encL2 ls).length : Int)))), ((27 : Nat), V.d (D.v (Value.int .i64 (↑x0 : Int))))], hp := [((24 : Nat), B.lst ((43 : Nat)) ((10 : Nat)) (List.take x0 ls).flatten)], kn := [], gd := [] : St } ∧ ∃ (n : Nat), inv_80 ls n x0) ∧ ∀ (n : Nat) (x : { X := Nat, sh := st_80b ls, P := fun (x : Nat) => inv_80 ls : LX }.X), inv_80 ls n x → (decide ((↑x : Int) < (↑(encL2 ls).length : Int)) = true → ∃ (es : List (List D)), D.sl (encL2 ls) = D.sl es ∧ ((0 : Int) ≤ (↑x : Int) ∧ (↑x : Int) < (↑es.length : Int)) ∧ ∃ (cells : List D), es[(↑x : Int).toNat]? = some cells ∧ cells.length = (1 : Nat) ∧ ∃ (es : List (List D)), cut ((0 : Nat)) ((1 : Nat)) cells = some [D.sl es] ∧ ∃ (es_1 : List (List D)), D.sl es = D.sl es_1 ∧ (∀ (c : List D), c ∈ es_1 → c.length = (10 : Nat)) ∧ (43 : Nat) = (43 : Nat) ∧ (10 : Nat) = (10 : Nat) ∧ (↑((List.take x ls).flatten.length.add es_1.length) : Int) * (↑((104 : Nat)) : Int) ≤ (140737488355328 : Int) ∧ ∃ (m : Nat), ∃ (x' : { X := Nat, sh := st_80b ls, P := fun (x : Nat) => inv_80 ls : LX }.X), m < n ∧ { tm := [((2 : Nat), V.nil), ((6 : Nat), V.own ((24 : Nat))), ((25 : Nat), V.d (D.sl (encL2 ls))), ((26 : Nat), V.d (D.v (Value.int .i64 (↑(encL2 ls).length : Int)))), ((27 : Nat), V.d (D.v (Value.int .i64 (IntKind.i64.wrap ((↑x : Int) + (1 : Int))))))], hp := [((24 : Nat), B.lst ((43 : Nat)) ((10 : Nat)) ((List.take x ls).flatten ++ es_1))], kn := [], gd := [] : St } = { tm := [((2 : Nat), V.nil), ((6 : Nat), V.own ((24 : Nat))), ((25 : Nat), V.d (D.sl (encL2 ls))), ((26 : Nat), V.d (D.v (Value.int .i64 (↑(encL2 ls).length : Int)))), ((27 : Nat), V.d (D.v (Value.int .i64 (↑x' : Int))))], hp := [((24 : Nat), B.lst ((43 : Nat)) ((10 : Nat)) (List.take x' ls).flatten)], kn := [], gd := [] : St } ∧ inv_80 ls m x') ∧ (decide ((↑x : Int) < (↑(encL2 ls).length : Int)) = false → Q [.lst ((43 : Nat)) ((10 : Nat)) (List.take x ls).flatten] [])))) := by kernel_rfl
theorem ct80 (ls : List (List (List D))) (hl : ls.length ≤ 1353245080300) (hz : ∀ l ∈ ls, ∀ c ∈ l, c.length = 10) (ht : tot ls * 104 ≤ 140737488355328) (ht2 : tot ls ≤ 140737488355328) : Ct prog gl 20 [.d (.sl (encL2 ls))] (gives [.lst 43 10 ls.flatten]) := by
  refine ct_of_vcO (E := E_c80) ⟨E_ok.te⟩ C_0_ok I_80_ok (fun _ _ _ h => h.elim) mixed (fn := f20) (body := f20.body.getD .skip) (by kernel_rfl) (by kernel_rfl) (by kernel_rfl) (fi := fx_80 ls) (by kernel_rfl) (by kernel_rfl) ⟨_, _, rfl, rfl⟩ ?_
  rw [vc80]
  refine ⟨encL2 ls, rfl, (0 : Nat), ⟨rfl, ls.length, Nat.zero_le _, rfl⟩, fun m (x : Nat) hx => ⟨fun hi => ?_, fun hi => ?_⟩⟩
  · obtain ⟨hx1, hx2⟩ := hx
    have hi : x < ls.length := by simpa [encL2] using hi
    have hs := tot_next hi
    have hle := tot_le ls (x + 1)
    have hle2 := tot_le ls x
    have hw : IntKind.i64.wrap ((tot (ls.take x) : Int) + (ls[x].length : Int)) = ((tot (ls.take (x + 1)) : Nat) : Int) := by
      rw [hs, wrap64_of (by omega) (by omega)]; omega
    refine ⟨encL2 ls, rfl, ⟨by omega, by rw [encL2_len]; omega⟩, [.sl ls[x]], by simpa using encL2_get hi, rfl, ls[x], rfl, ls[x], rfl, fun h => ?_, fun _ => ⟨ls.length - (x + 1), x + 1, by omega, ?_, by omega, rfl⟩⟩
    · rw [hw] at h
      have := of_decide_eq_true h
      omega
    · rw [hw, wrap64_of (n := (x : Int) + 1) (by omega) (by omega)]
      rfl
  · obtain ⟨hx1, hx2⟩ := hx
    have hi : ¬ x < ls.length := by simpa [encL2] using hi
    have hxe : ls.take x = ls := List.take_of_length_le (by omega)
    rw [hxe]
    refine ⟨Int.natCast_nonneg _, by rw [← Int.natCast_mul]; omega, by omega, fun _ => ?_, fun _ => ?_⟩
    all_goals
      refine ⟨encL2 ls, rfl, (0 : Nat), ⟨rfl, ls.length, Nat.zero_le _, rfl⟩, fun m (y : Nat) hy => ⟨fun hj => ?_, fun hj => ?_⟩⟩
      · obtain ⟨hy1, hy2⟩ := hy
        have hj : y < ls.length := by simpa [encL2] using hj
        have hs := tot_next hj
        have hle := tot_le ls (y + 1)
        refine ⟨encL2 ls, rfl, ⟨by omega, by rw [encL2_len]; omega⟩, [.sl ls[y]], by simpa using encL2_get hj, rfl, ls[y], rfl, ls[y], rfl, hz _ (List.getElem_mem hj), rfl, rfl, ?_, ls.length - (y + 1), y + 1, by omega, ?_, by omega, rfl⟩
        · have : (Nat.add (ls.take y).flatten.length ls[y].length) = tot (ls.take (y + 1)) := by rw [hs, flat_len]; rfl
          rw [this, ← Int.natCast_mul]
          have := Nat.mul_le_mul_right 104 hle
          omega
        · rw [wrap64_of (n := (y : Int) + 1) (by omega) (by omega), flat_next hj]
          rfl
      · have hj : ¬ y < ls.length := by simpa [encL2] using hj
        rw [List.take_of_length_le (by omega)]
        exact ⟨rfl, rfl⟩
def c_80 (a : List R) (K : List R → List (List D) → Prop) : Prop := match a with
  | [.d (.sl x)] => ∃ ls : List (List (List D)), x = encL2 ls ∧ okTot ls 104 ∧ (∀ l ∈ ls, ∀ c ∈ l, c.length = 10) ∧ K [.lst 43 10 ls.flatten] []
  | _ => False
theorem c_80_ok (a : List R) (K : List R → List (List D) → Prop) (h : c_80 a K) : Ct prog gl 20 a K := by
  unfold c_80 at h
  split at h
  · obtain ⟨ls, rfl, h1, h2, h5⟩ := h
    exact (ct80 ls h1.1 h2 h1.2.1 h1.2.2).gives h5
  · exact h.elim

end Go.Proofs.Tryz
namespace Go.Proofs.Tryz
open Go Go.Dm Go.Ex
set_option maxRecDepth 100000
variable {gl : Nat → Option Obj}
def C_r74 (n : Nat) : CallT := addC C_n 46 (c_61 n)
def st_74 (op sub : Int) (t : Ty) (v : Go.Ex.AV) (args : List EX) (x : Nat) : St := { tm := [(1, .ref 1 0), (2, .d (.v (.int .i64 0))), (3, .d (.v (.int .i64 (nodesL 1 (args.take x))))), (4, .d (.v (.int .i64 (x : Int))))], hp := [(1, .box [.d (.v (.int .i64 op)), .d (.v (.int .i64 sub)), .d (.v (.int .i64 t.k)), .d (.v (.int .i64 t.sc)), .d (.v (.int .i64 v.t.k)), .d (.v (.int .i64 v.t.sc)), .d (.v (.bool v.nul)), .d (.v (.int .i64 v.n)), .d (.v (.string v.s)), .d (.sl (cellsL args))])], kn := [], gd := [] }
def fx_74 (op sub : Int) (t : Ty) (v : Go.Ex.AV) (args : List EX) : Fi := { fi46 with lx := [(3, { X := Nat, sh := st_74 op sub t v args, P := fun _ => inv_m args })] }
theorem vc74 (n : Nat) (op sub : Int) (t : Ty) (v : Go.Ex.AV) (args : List EX) (Q : List R → List (List D) → Prop) : vc E_0 (C_r74 n) noI (fx_74 op sub t v args) (f46.body.getD .skip) f46.results.toList [.agg (encX op sub t v (cellsL args))] Q = ( ∃ (x0 : { X := Nat, sh := st_74 op sub t v args, P := fun (x : Nat) => inv_m args : LX }.X), ({ tm := [((1 : Nat), V.ref ((1 : Nat)) ((0 : Nat))), ((2 : Nat), V.d (D.v (Value.int .i64 0))), ((3 : Nat), V.d (D.v (Value.int .i64 1))), ((4 : Nat), V.d (D.v (Value.int .i64 0)))], hp := [((1 : Nat), B.box [V.d (D.v (Value.int .i64 op)), V.d (D.v (Value.int .i64 sub)), V.d (D.v (Value.int .i64 t.1)), V.d (D.v (Value.int .i64 t.2)), V.d (D.v (Value.int .i64 v.1.1)), V.d (D.v (Value.int .i64 v.1.2)), V.d (D.v (Value.bool v.2)), V.d (D.v (Value.int .i64 v.3)), V.d (D.v (Value.string v.4)), V.d (D.sl (cellsL args))])], kn := [], gd := [] : St } = { tm := [((1 : Nat), V.ref ((1 : Nat)) ((0 : Nat))), ((2 : Nat), V.d (D.v (Value.int .i64 0))), ((3 : Nat), V.d (D.v (Value.int .i64 (nodesL (1 : Int) (List.take x0 args))))), ((4 : Nat), V.d (D.v (Value.int .i64 (↑x0 : Int))))], hp := [((1 : Nat), B.box [V.d (D.v (Value.int .i64 op)), V.d (D.v (Value.int .i64 sub)), V.d (D.v (Value.int .i64 t.1)), V.d (D.v (Value.int .i64 t.2)), V.d (D.v (Value.int .i64 v.1.1)), V.d (D.v (Value.int .i64 v.1.2)), V.d (D.v (Value.bool v.2)), V.d (D.v (Value.int .i64 v.3)), V.d (D.v (Value.string v.4)), V.d (D.sl (cellsL args))])], kn := [], gd := [] : St } ∧ ∃ (n : Nat), inv_m args n x0) ∧ ∀ (n_1 : Nat) (x : { X := Nat, sh := st_74 op sub t v args, P := fun (x : Nat) => inv_m args : LX }.X), inv_m args n_1 x → ∃ (es : List (List D)), D.sl (cellsL args) = D.sl es ∧ (decide ((↑x : Int) < (↑es.length : Int)) = true → ∃ (es : List (List D)), D.sl (cellsL args) = D.sl es ∧ ((0 : Int) ≤ (↑x : Int) ∧ (↑x : Int) < (↑es.length : Int)) ∧ ∃ (cells : List D), es[(↑x : Int).toNat]? = some cells ∧ cells.length = (10 : Nat) ∧ ∃ (n_2 : Int), ∃ (n_3 : Int), ∃ (n_4 : Int), ∃ (n_5 : Int), ∃ (n_6 : Int), ∃ (n_7 : Int), ∃ (b : Bool), ∃ (n_8 : Int), ∃ (b_1 : ByteArray), ∃ (es : List (List D)), cut ((0 : Nat)) ((10 : Nat)) cells = some [D.v (Value.int .i64 n_2), D.v (Value.int .i64 n_3), D.v (Value.int .i64 n_4), D.v (Value.int .i64 n_5), D.v (Value.int .i64 n_6), D.v (Value.int .i64 n_7), D.v (Value.bool b), D.v (Value.int .i64 n_8), D.v (Value.string b_1), D.sl es] ∧ ∃ (e : EX), [D.v (Value.int .i64 n_2), D.v (Value.int .i64 n_3), D.v (Value.int .i64 n_4), D.v (Value.int .i64 n_5), D.v (Value.int .i64 n_6), D.v (Value.int .i64 n_7), D.v (Value.bool b), D.v (Value.int .i64 n_8), D.v (Value.string b_1), D.sl es] = Ex.cells e ∧ size e < n ∧ fits e ∧ ∃ (m : Nat), ∃ (x' : { X := Nat, sh := st_74 op sub t v args, P := fun (x : Nat) => inv_m args : LX }.X), m < n_1 ∧ { tm := [((1 : Nat), V.ref ((1 : Nat)) ((0 : Nat))), ((2 : Nat), V.d (D.v (Value.int .i64 0))), ((3 : Nat), V.d (D.v (Value.int .i64 (IntKind.i64.wrap (nodesL (1 : Int) (List.take x args) + nodes e))))), ((4 : Nat), V.d (D.v (Value.int .i64 (IntKind.i64.wrap ((↑x : Int) + (1 : Int))))))], hp := [((1 : Nat), B.box [V.d (D.v (Value.int .i64 op)), V.d (D.v (Value.int .i64 sub)), V.d (D.v (Value.int .i64 t.1)), V.d (D.v (Value.int .i64 t.2)), V.d (D.v (Value.int .i64 v.1.1)), V.d (D.v (Value.int .i64 v.1.2)), V.d (D.v (Value.bool v.2)), V.d (D.v (Value.int .i64 v.3)), V.d (D.v (Value.string v.4)), V.d (D.sl (cellsL args))])], kn := [], gd := [] : St } = { tm := [((1 : Nat), V.ref ((1 : Nat)) ((0 : Nat))), ((2 : Nat), V.d (D.v (Value.int .i64 0))), ((3 : Nat), V.d (D.v (Value.int .i64 (nodesL (1 : Int) (List.take x' args))))), ((4 : Nat), V.d (D.v (Value.int .i64 (↑x' : Int))))], hp := [((1 : Nat), B.box [V.d (D.v (Value.int .i64 op)), V.d (D.v (Value.int .i64 sub)), V.d (D.v (Value.int .i64 t.1)), V.d (D.v (Value.int .i64 t.2)), V.d (D.v (Value.int .i64 v.1.1)), V.d (D.v (Value.int .i64 v.1.2)), V.d (D.v (Value.bool v.2)), V.d (D.v (Value.int .i64 v.3)), V.d (D.v (Value.string v.4)), V.d (D.sl (cellsL args))])], kn := [], gd := [] : St } ∧ inv_m args m x') ∧ (decide ((↑x : Int) < (↑es.length : Int)) = false → Q [.d (.v (.int .i64 (nodesL (1 : Int) (List.take x args))))] [])) := by kernel_rfl
def C_r75 (n : Nat) : CallT := addC C_n 47 (c_62 n)
def st_75 (op sub : Int) (t : Ty) (v : Go.Ex.AV) (args : List EX) (x : Nat) : St := { tm := [(1, .ref 1 0), (2, .d (.v (.int .i64 0))), (3, .d (.v (.int .i64 (deepL 0 (args.take x))))), (4, .d (.v (.int .i64 (x : Int))))], hp := [(1, .box [.d (.v (.int .i64 op)), .d (.v (.int .i64 sub)), .d (.v (.int .i64 t.k)), .d (.v (.int .i64 t.sc)), .d (.v (.int .i64 v.t.k)), .d (.v (.int .i64 v.t.sc)), .d (.v (.bool v.nul)), .d (.v (.int .i64 v.n)), .d (.v (.string v.s)), .d (.sl (cellsL args))])], kn := [], gd := [] }
def fx_75 (op sub : Int) (t : Ty) (v : Go.Ex.AV) (args : List EX) : Fi := { fi47 with lx := [(3, { X := Nat, sh := st_75 op sub t v args, P := fun _ => inv_m args })] }
theorem vc75 (n : Nat) (op sub : Int) (t : Ty) (v : Go.Ex.AV) (args : List EX) (Q : List R → List (List D) → Prop) : vc E_0 (C_r75 n) noI (fx_75 op sub t v args) (f47.body.getD .skip) f47.results.toList [.agg (encX op sub t v (cellsL args))] Q = ( ∃ (x0 : { X := Nat, sh := st_75 op sub t v args, P := fun (x : Nat) => inv_m args : LX }.X), ({ tm := [((1 : Nat), V.ref ((1 : Nat)) ((0 : Nat))), ((2 : Nat), V.d (D.v (Value.int .i64 0))), ((3 : Nat), V.d (D.v (Value.int .i64 0))), ((4 : Nat), V.d (D.v (Value.int .i64 0)))], hp := [((1 : Nat), B.box [V.d (D.v (Value.int .i64 op)), V.d (D.v (Value.int .i64 sub)), V.d (D.v (Value.int .i64 t.1)), V.d (D.v (Value.int .i64 t.2)), V.d (D.v (Value.int .i64 v.1.1)), V.d (D.v (Value.int .i64 v.1.2)), V.d (D.v (Value.bool v.2)), V.d (D.v (Value.int .i64 v.3)), V.d (D.v (Value.string v.4)), V.d (D.sl (cellsL args))])], kn := [], gd := [] : St } = { tm := [((1 : Nat), V.ref ((1 : Nat)) ((0 : Nat))), ((2 : Nat), V.d (D.v (Value.int .i64 0))), ((3 : Nat), V.d (D.v (Value.int .i64 (deepL (0 : Int) (List.take x0 args))))), ((4 : Nat), V.d (D.v (Value.int .i64 (↑x0 : Int))))], hp := [((1 : Nat), B.box [V.d (D.v (Value.int .i64 op)), V.d (D.v (Value.int .i64 sub)), V.d (D.v (Value.int .i64 t.1)), V.d (D.v (Value.int .i64 t.2)), V.d (D.v (Value.int .i64 v.1.1)), V.d (D.v (Value.int .i64 v.1.2)), V.d (D.v (Value.bool v.2)), V.d (D.v (Value.int .i64 v.3)), V.d (D.v (Value.string v.4)), V.d (D.sl (cellsL args))])], kn := [], gd := [] : St } ∧ ∃ (n : Nat), inv_m args n x0) ∧ ∀ (n_1 : Nat) (x : { X := Nat, sh := st_75 op sub t v args, P := fun (x : Nat) => inv_m args : LX }.X), inv_m args n_1 x → ∃ (es : List (List D)), D.sl (cellsL args) = D.sl es ∧ (decide ((↑x : Int) < (↑es.length : Int)) = true → ∃ (es : List (List D)), D.sl (cellsL args) = D.sl es ∧ ((0 : Int) ≤ (↑x : Int) ∧ (↑x : Int) < (↑es.length : Int)) ∧ ∃ (cells : List D), es[(↑x : Int).toNat]? = some cells ∧ cells.length = (10 : Nat) ∧ ∃ (n_2 : Int), ∃ (n_3 : Int), ∃ (n_4 : Int), ∃ (n_5 : Int), ∃ (n_6 : Int), ∃ (n_7 : Int), ∃ (b : Bool), ∃ (n_8 : Int), ∃ (b_1 : ByteArray), ∃ (es : List (List D)), cut ((0 : Nat)) ((10 : Nat)) cells = some [D.v (Value.int .i64 n_2), D.v (Value.int .i64 n_3), D.v (Value.int .i64 n_4), D.v (Value.int .i64 n_5), D.v (Value.int .i64 n_6), D.v (Value.int .i64 n_7), D.v (Value.bool b), D.v (Value.int .i64 n_8), D.v (Value.string b_1), D.sl es] ∧ ∃ (e : EX), [D.v (Value.int .i64 n_2), D.v (Value.int .i64 n_3), D.v (Value.int .i64 n_4), D.v (Value.int .i64 n_5), D.v (Value.int .i64 n_6), D.v (Value.int .i64 n_7), D.v (Value.bool b), D.v (Value.int .i64 n_8), D.v (Value.string b_1), D.sl es] = Ex.cells e ∧ size e < n ∧ fits e ∧ ∃ (m : Nat), ∃ (x' : { X := Nat, sh := st_75 op sub t v args, P := fun (x : Nat) => inv_m args : LX }.X), m < n_1 ∧ { tm := [((1 : Nat), V.ref ((1 : Nat)) ((0 : Nat))), ((2 : Nat), V.d (D.v (Value.int .i64 0))), ((3 : Nat), V.d (D.v (Value.int .i64 (if deep e > deepL (0 : Int) (List.take x args) then deep e else deepL (0 : Int) (List.take x args))))), ((4 : Nat), V.d (D.v (Value.int .i64 (IntKind.i64.wrap ((↑x : Int) + (1 : Int))))))], hp := [((1 : Nat), B.box [V.d (D.v (Value.int .i64 op)), V.d (D.v (Value.int .i64 sub)), V.d (D.v (Value.int .i64 t.1)), V.d (D.v (Value.int .i64 t.2)), V.d (D.v (Value.int .i64 v.1.1)), V.d (D.v (Value.int .i64 v.1.2)), V.d (D.v (Value.bool v.2)), V.d (D.v (Value.int .i64 v.3)), V.d (D.v (Value.string v.4)), V.d (D.sl (cellsL args))])], kn := [], gd := [] : St } = { tm := [((1 : Nat), V.ref ((1 : Nat)) ((0 : Nat))), ((2 : Nat), V.d (D.v (Value.int .i64 0))), ((3 : Nat), V.d (D.v (Value.int .i64 (deepL (0 : Int) (List.take x' args))))), ((4 : Nat), V.d (D.v (Value.int .i64 (↑x' : Int))))], hp := [((1 : Nat), B.box [V.d (D.v (Value.int .i64 op)), V.d (D.v (Value.int .i64 sub)), V.d (D.v (Value.int .i64 t.1)), V.d (D.v (Value.int .i64 t.2)), V.d (D.v (Value.int .i64 v.1.1)), V.d (D.v (Value.int .i64 v.1.2)), V.d (D.v (Value.bool v.2)), V.d (D.v (Value.int .i64 v.3)), V.d (D.v (Value.string v.4)), V.d (D.sl (cellsL args))])], kn := [], gd := [] : St } ∧ inv_m args m x') ∧ (decide ((↑x : Int) < (↑es.length : Int)) = false → Q [.d (.v (.int .i64 (IntKind.i64.wrap (deepL (0 : Int) (List.take x args) + (1 : Int)))))] [])) := by kernel_rfl
theorem ct74 : ∀ (n : Nat) (e : EX), size e < n → fits e → Ct prog gl 46 [.agg (cells e)] (gives [.d (.v (.int .i64 (nodes e)))])
  | 0, e, h, _ => absurd h (Nat.not_lt_zero _)
  | n + 1, .mk op sub t v args, h, hf => by
    have hC : CallsOk prog gl (C_r74 n) := addC_ok C_n_ok (fun a K hk => by
      unfold c_61 at hk
      split at hk
      · obtain ⟨e, rfl, h1, h2, h3⟩ := hk
        exact (ct74 n e h1 h2).gives h3
      · exact hk.elim)
    rw [cells_mk]
    refine ct_of_vc E_ok hC ioK_no it_ok mixed (fn := f46) (body := f46.body.getD .skip) (by kernel_rfl) (by kernel_rfl) (by kernel_rfl) (fi := fx_74 op sub t v args) (by kernel_rfl) (by kernel_rfl) ⟨_, _, rfl, rfl⟩ ?_
    rw [vc74]
    obtain ⟨_, hl, hfl⟩ := fits_mk hf
    have hsz : ∀ e ∈ args, size e < n := fun e he => by have := size_arg (op := op) (sub := sub) (ty := t) (v := v) he; omega
    refine ⟨(0 : Nat), ⟨by simp only [List.take_zero, nodesL]; rfl, args.length, Nat.zero_le _, rfl⟩, fun m (x : Nat) hx => ⟨cellsL args, rfl, fun hi => ?_, fun hi => ?_⟩⟩
    · have hi : x < args.length := by simpa [cellsL_len] using hi
      obtain ⟨op', sub', t', v', a', he, hget⟩ := arg_get hi
      have hm := hx.2
      refine ⟨cellsL args, rfl, ⟨by omega, by rw [cellsL_len]; omega⟩, _, hget, rfl, op', sub', t'.k, t'.sc, v'.t.k, v'.t.sc, v'.nul, v'.n, v'.s, cellsL a', rfl, args[x], by rw [he, cells_mk]; rfl, hsz _ (List.getElem_mem hi), fitsL_mem hfl (List.getElem_mem hi), args.length - (x + 1), x + 1, by omega, ?_, hi, rfl⟩
      rw [wrap_next (by omega), List.take_add_one, List.getElem?_eq_getElem hi, Option.toList_some, nodesL_snoc]
    · have hi : ¬ x < args.length := by simpa [cellsL_len] using hi
      rw [List.take_of_length_le (by omega)]
      refine ⟨?_, rfl⟩
      simp only [nodes]
def c_61h (a : List R) (K : List R → List (List D) → Prop) : Prop := match a with
  | [.agg x] => ∃ e : EX, x = cells e ∧ fits e ∧ K [.d (.v (.int .i64 (nodes e)))] []
  | _ => False
theorem c_61h_ok (a : List R) (K : List R → List (List D) → Prop) (h : c_61h a K) : Ct prog gl 46 a K := by
  unfold c_61h at h
  split at h
  · obtain ⟨e, rfl, h1, h2⟩ := h
    exact (ct74 (size e + 1) e (Nat.lt_succ_self _) h1).gives h2
  · exact h.elim
theorem ct75 : ∀ (n : Nat) (e : EX), size e < n → fits e → Ct prog gl 47 [.agg (cells e)] (gives [.d (.v (.int .i64 (deep e)))])
  | 0, e, h, _ => absurd h (Nat.not_lt_zero _)
  | n + 1, .mk op sub t v args, h, hf => by
    have hC : CallsOk prog gl (C_r75 n) := addC_ok C_n_ok (fun a K hk => by
      unfold c_62 at hk
      split at hk
      · obtain ⟨e, rfl, h1, h2, h3⟩ := hk
        exact (ct75 n e h1 h2).gives h3
      · exact hk.elim)
    rw [cells_mk]
    refine ct_of_vc E_ok hC ioK_no it_ok mixed (fn := f47) (body := f47.body.getD .skip) (by kernel_rfl) (by kernel_rfl) (by kernel_rfl) (fi := fx_75 op sub t v args) (by kernel_rfl) (by kernel_rfl) ⟨_, _, rfl, rfl⟩ ?_
    rw [vc75]
    obtain ⟨_, hl, hfl⟩ := fits_mk hf
    have hsz : ∀ e ∈ args, size e < n := fun e he => by have := size_arg (op := op) (sub := sub) (ty := t) (v := v) he; omega
    refine ⟨(0 : Nat), ⟨by simp only [List.take_zero, deepL]; rfl, args.length, Nat.zero_le _, rfl⟩, fun m (x : Nat) hx => ⟨cellsL args, rfl, fun hi => ?_, fun hi => ?_⟩⟩
    · have hi : x < args.length := by simpa [cellsL_len] using hi
      obtain ⟨op', sub', t', v', a', he, hget⟩ := arg_get hi
      have hm := hx.2
      refine ⟨cellsL args, rfl, ⟨by omega, by rw [cellsL_len]; omega⟩, _, hget, rfl, op', sub', t'.k, t'.sc, v'.t.k, v'.t.sc, v'.nul, v'.n, v'.s, cellsL a', rfl, args[x], by rw [he, cells_mk]; rfl, hsz _ (List.getElem_mem hi), fitsL_mem hfl (List.getElem_mem hi), args.length - (x + 1), x + 1, by omega, ?_, hi, rfl⟩
      rw [wrap_next (by omega), List.take_add_one, List.getElem?_eq_getElem hi, Option.toList_some, deepL_snoc]
    · have hi : ¬ x < args.length := by simpa [cellsL_len] using hi
      rw [List.take_of_length_le (by omega)]
      refine ⟨?_, rfl⟩
      simp only [deep]
def c_62h (a : List R) (K : List R → List (List D) → Prop) : Prop := match a with
  | [.agg x] => ∃ e : EX, x = cells e ∧ fits e ∧ K [.d (.v (.int .i64 (deep e)))] []
  | _ => False
theorem c_62h_ok (a : List R) (K : List R → List (List D) → Prop) (h : c_62h a K) : Ct prog gl 47 a K := by
  unfold c_62h at h
  split at h
  · obtain ⟨e, rfl, h1, h2⟩ := h
    exact (ct75 (size e + 1) e (Nat.lt_succ_self _) h1).gives h2
  · exact h.elim
def arityP (op m : Int) : Bool := bif op == 1 then m == 0 else bif op == 2 then m == 0 else bif op == 8 then m == 1 else bif op == 12 then m == 1 else bif op == 13 then m == 1 else bif op == 16 then m == 1 else bif op == 18 then m == 1 else bif op == 14 then (bif decide (m ≥ 3) then m.tmod 2 == 1 else false) else bif op == 15 then decide (m ≥ 1) else bif (bif m == 2 then decide (op ≥ 3) else false) then decide (op ≤ 17) else false
theorem vc149 (op m : Int) (Q : List R → List (List D) → Prop) : vc E_0 C_0 noI fi82 (f82.body.getD .skip) f82.results.toList [.d (.v (.int .i64 op)), .d (.v (.int .i64 m))] Q = ( ((op == (1 : Int)) = true → Q [.d (.v (.bool (m == (0 : Int))))] []) ∧ ((op == (1 : Int)) = false → ((op == (2 : Int)) = true → Q [.d (.v (.bool (m == (0 : Int))))] []) ∧ ((op == (2 : Int)) = false → ((op == (8 : Int)) = true → Q [.d (.v (.bool (m == (1 : Int))))] []) ∧ ((op == (8 : Int)) = false → ((op == (12 : Int)) = true → Q [.d (.v (.bool (m == (1 : Int))))] []) ∧ ((op == (12 : Int)) = false → ((op == (13 : Int)) = true → Q [.d (.v (.bool (m == (1 : Int))))] []) ∧ ((op == (13 : Int)) = false → ((op == (16 : Int)) = true → Q [.d (.v (.bool (m == (1 : Int))))] []) ∧ ((op == (16 : Int)) = false → ((op == (18 : Int)) = true → Q [.d (.v (.bool (m == (1 : Int))))] []) ∧ ((op == (18 : Int)) = false → ((op == (14 : Int)) = true → (2 : Int) ≠ (0 : Int) ∧ Q [.d (.v (.bool (bif decide (m ≥ (3 : Int)) then m.tmod (2 : Int) == (1 : Int) else false)))] []) ∧ ((op == (14 : Int)) = false → ((op == (15 : Int)) = true → Q [.d (.v (.bool (decide (m ≥ (1 : Int)))))] []) ∧ ((op == (15 : Int)) = false → Q [.d (.v (.bool (bif bif m == (2 : Int) then decide (op ≥ (3 : Int)) else false then decide (op ≤ (17 : Int)) else false)))] [])))))))))) := by kernel_rfl
theorem ct149 (op m : Int) : Ct prog gl 82 [.d (.v (.int .i64 op)), .d (.v (.int .i64 m))] (gives [.d (.v (.bool (arityP op m)))]) := by
  refine ct_of_vc E_ok C_0_ok ioK_no it_ok mixed (fn := f82) (body := f82.body.getD .skip) (by kernel_rfl) (by kernel_rfl) (by kernel_rfl) (fi := fi82) (by kernel_rfl) (by kernel_rfl) ⟨_, _, rfl, rfl⟩ ?_
  rw [vc149]
  have fin : ∀ b, arityP op m = b → gives [.d (.v (.bool (arityP op m)))] [R.d (D.v (Value.bool b))] [] := fun b h => by rw [h]; exact ⟨rfl, rfl⟩
  repeat' first | (refine And.intro (fun h => ?_) (fun h => ?_)) | (refine And.intro (by decide) ?_) | fail
  all_goals (refine fin _ ?_; clear fin; simp only [arityP, *, cond_true, cond_false])
def c_149 (a : List R) (K : List R → List (List D) → Prop) : Prop := match a with
  | [.d (.v (.int .i64 op)), .d (.v (.int .i64 m))] => K [.d (.v (.bool (arityP op m)))] []
  | _ => False
theorem c_149_ok (a : List R) (K : List R → List (List D) → Prop) (h : c_149 a K) : Ct prog gl 82 a K := by
  unfold c_149 at h
  split at h
  · exact (ct149 _ _).gives h
  · exact h.elim
theorem vc18 (k sc : Int) (nul : Bool) (m : Int) (s : ByteArray) (Q : List R → List (List D) → Prop) : vc E_0 C_4e noI fi83 (f83.body.getD .skip) f83.results.toList [.agg [.v (.int .i64 k), .v (.int .i64 sc), .v (.bool nul), .v (.int .i64 m), .v (.string s)]] Q = ( ((s67_0 k sc != (0 : Int)) = true → Q [.d (.v (.int .i64 (s67_0 k sc)))] []) ∧ ((s67_0 k sc != (0 : Int)) = false → (nul = true → ((bif m != (0 : Int) then true else !s == { data := { toList := [] : Array UInt8 } : ByteArray }) = true → Q [.d (.v (.int .i64 20))] []) ∧ ((bif m != (0 : Int) then true else !s == { data := { toList := [] : Array UInt8 } : ByteArray }) = false → Q [.d (.v (.int .i64 0))] [])) ∧ (nul = false → ((k == (4 : Int)) = true → ((bif m != (0 : Int) then true else decide ((↑s.size : Int) > (256 : Int))) = true → Q [.d (.v (.int .i64 20))] []) ∧ ((bif m != (0 : Int) then true else decide ((↑s.size : Int) > (256 : Int))) = false → Q [.d (.v (.int .i64 0))] [])) ∧ ((k == (4 : Int)) = false → ((!s == { data := { toList := [] : Array UInt8 } : ByteArray }) = true → (true = true → Q [.d (.v (.int .i64 20))] []) ∧ (true = false → Q [.d (.v (.int .i64 0))] [])) ∧ ((!s == { data := { toList := [] : Array UInt8 } : ByteArray }) = false → ((k == (1 : Int)) = true → ((bif m != (0 : Int) then m != (1 : Int) else false) = true → Q [.d (.v (.int .i64 20))] []) ∧ ((bif m != (0 : Int) then m != (1 : Int) else false) = false → Q [.d (.v (.int .i64 0))] [])) ∧ ((k == (1 : Int)) = false → ((k == (3 : Int)) = true → ((!s68_0 m) = true → Q [.d (.v (.int .i64 20))] []) ∧ ((!s68_0 m) = false → Q [.d (.v (.int .i64 0))] [])) ∧ ((k == (3 : Int)) = false → ((k == (5 : Int)) = true → ((bif decide (m < (-719162 : Int)) then true else decide (m > (2932896 : Int))) = true → Q [.d (.v (.int .i64 20))] []) ∧ ((bif decide (m < (-719162 : Int)) then true else decide (m > (2932896 : Int))) = false → Q [.d (.v (.int .i64 0))] [])) ∧ ((k == (5 : Int)) = false → (false = true → Q [.d (.v (.int .i64 20))] []) ∧ (false = false → Q [.d (.v (.int .i64 0))] []))))))))) := by kernel_rfl
def c_18 (a : List R) (K : List R → List (List D) → Prop) : Prop := match a with
  | [.agg [.v (.int .i64 k), .v (.int .i64 sc), .v (.bool nul), .v (.int .i64 m), .v (.string s)]] => K [.d (.v (.int .i64 (s56_0 k sc nul m s)))] []
  | _ => False
theorem s67_60 (a b : Int) : s67_0 a b = s60_0 a b := by
  unfold s67_0 s60_0 s124_0
  have h1 : decide (b ≥ 0) = !decide (b < 0) := by by_cases h : b < 0 <;> simp [h] <;> omega
  have h2 : decide (b ≤ 18) = !decide (b > 18) := by by_cases h : b > 18 <;> simp [h] <;> omega
  rw [h1, h2]
  simp only [bne]
  cases decide (a < 1) <;> cases decide (a > 5) <;> cases decide (b < 0) <;> cases decide (b > 18) <;> cases a == 3 <;> cases b == 0 <;> rfl
def chk18 (k sc : Int) (nul : Bool) (m : Int) (s : ByteArray) : Int := bif s67_0 k sc != 0 then s67_0 k sc else bif nul then (bif (bif m != 0 then true else !s == ({ data := { toList := [] } } : ByteArray)) then 20 else 0)
  else bif k == 4 then (bif (bif m != 0 then true else decide ((s.size : Int) > 256)) then 20 else 0)
  else bif !s == ({ data := { toList := [] } } : ByteArray) then 20
  else bif k == 1 then (bif (bif m != 0 then m != 1 else false) then 20 else 0)
  else bif k == 3 then (bif !s68_0 m then 20 else 0)
  else bif k == 5 then (bif (bif decide (m < -719162) then true else decide (m > 2932896)) then 20 else 0)
  else 0
theorem chk18_eq (k sc : Int) (nul : Bool) (m : Int) (s : ByteArray) : chk18 k sc nul m s = s56_0 k sc nul m s := by
  unfold chk18 s56_0 s68_0 s114_0
  rw [s67_60]
  have h1 : decide (m ≥ -719162) = !decide (m < -719162) := by by_cases h : m < -719162 <;> simp [h] <;> omega
  have h2 : decide (m ≤ 2932896) = !decide (m > 2932896) := by by_cases h : m > 2932896 <;> simp [h] <;> omega
  have h3 : decide ((s.size : Int) ≤ 256) = !decide ((s.size : Int) > 256) := by by_cases h : (s.size : Int) > 256 <;> simp [h] <;> omega
  have h4 : decide ((-999999999999999999 : Int) ≤ m) = decide (m ≥ -999999999999999999) := rfl
  rw [h1, h2, h3, h4]
  simp only [bne]
  generalize (s == ({ data := { toList := [] } } : ByteArray)) = Z
  generalize (s60_0 k sc == 0) = Y
  generalize decide (m < -719162) = X1
  generalize decide (m > 2932896) = X2
  generalize decide ((s.size : Int) > 256) = X3
  generalize decide (m ≥ -999999999999999999) = X4
  generalize decide (m ≤ 999999999999999999) = X5
  generalize (m == 0) = M0
  generalize (m == 1) = M1
  generalize s60_0 k sc = S
  have split : ∀ (c1 c3 c4 c5 : Bool), (k == 1) = c1 → (k == 3) = c3 → (k == 4) = c4 → (k == 5) = c5 → (c4 = true → c1 = false ∧ c3 = false ∧ c5 = false) := by
    intro c1 c3 c4 c5 e1 e3 e4 e5 h
    subst h
    have : k = 4 := by simpa using e4
    subst this
    exact ⟨e1.symm, e3.symm, e5.symm⟩
  have split := split _ _ _ _ rfl rfl rfl rfl
  revert split
  generalize (k == 1) = c1
  generalize (k == 3) = c3
  generalize (k == 4) = c4
  generalize (k == 5) = c5
  intro split
  cases Y
  · rfl
  cases nul
  · cases c4
    · cases c1
      · cases c3
        · cases c5
          · cases Z <;> rfl
          · cases Z <;> cases X1 <;> cases X2 <;> rfl
        · cases Z <;> cases X4 <;> cases X5 <;> rfl
      · cases Z <;> cases M0 <;> cases M1 <;> rfl
    · obtain ⟨rfl, rfl, rfl⟩ := split rfl
      cases M0 <;> cases X3 <;> rfl
  · cases M0 <;> cases Z <;> rfl
theorem ct18 (k sc : Int) (nul : Bool) (m : Int) (s : ByteArray) : Ct prog gl 83 [.agg [.v (.int .i64 k), .v (.int .i64 sc), .v (.bool nul), .v (.int .i64 m), .v (.string s)]] (gives [.d (.v (.int .i64 (s56_0 k sc nul m s)))]) := by
  refine ct_of_vc E_ok C_4e_ok ioK_no it_ok mixed (fn := f83) (body := f83.body.getD .skip) (by kernel_rfl) (by kernel_rfl) (by kernel_rfl) (fi := fi83) (by kernel_rfl) (by kernel_rfl) ⟨_, _, rfl, rfl⟩ ?_
  rw [vc18]
  rw [← chk18_eq]
  have fin : ∀ b, chk18 k sc nul m s = b → gives [.d (.v (.int .i64 (chk18 k sc nul m s)))] [R.d (D.v (Value.int .i64 b))] [] := fun b h => by rw [h]; exact ⟨rfl, rfl⟩
  repeat' first | (refine And.intro (fun h => ?_) (fun h => ?_)) | fail
  all_goals first | (refine fin _ ?_; clear fin; simp only [chk18, *, cond_true, cond_false]; done) | (rename_i h; cases h)
theorem c_18_ok (a : List R) (K : List R → List (List D) → Prop) (h : c_18 a K) : Ct prog gl 83 a K := by
  unfold c_18 at h
  split at h
  · exact (ct18 _ _ _ _ _).gives h
  · exact h.elim
def c_76 (n : Nat) (a : List R) (K : List R → List (List D) → Prop) : Prop := match a with
  | [.agg x, .d (.v (.int .i64 c))] => ∃ e : EX, x = cells e ∧ size e < n ∧ fits e ∧ K [.d (.v (.bool (mayE c e)))] []
  | _ => False
def C_r76 (n : Nat) : CallT := addC (addC (addC C_4e 82 c_149) 83 c_18) 48 (c_76 n)
def st_76 (op sub : Int) (t : Ty) (v : Go.Ex.AV) (args : List EX) (c : Int) (x : Nat) : St := { tm := [(1, .d (.v (.int .i64 c))), (2, .ref 2 0), (4, .d (.v (.bool false))), (7, .d (.v (.int .i64 (x : Int))))], hp := [(2, .box [.d (.v (.int .i64 op)), .d (.v (.int .i64 sub)), .d (.v (.int .i64 t.k)), .d (.v (.int .i64 t.sc)), .d (.v (.int .i64 v.t.k)), .d (.v (.int .i64 v.t.sc)), .d (.v (.bool v.nul)), .d (.v (.int .i64 v.n)), .d (.v (.string v.s)), .d (.sl (cellsL args))])], kn := [], gd := [] }
def inv_76 (c : Int) (args : List EX) (m : Nat) (x : Nat) : Prop := x ≤ args.length ∧ m = args.length - x ∧ mayL c (args.take x) = true
def fx_76 (op sub : Int) (t : Ty) (v : Go.Ex.AV) (args : List EX) (c : Int) : Fi := { fi48 with lp := [(19, ([1, 2, 4, 7], [5, 114]))], lx := [(19, { X := Nat, sh := st_76 op sub t v args c, P := fun _ => inv_76 c args })] }
theorem vc76 (n : Nat) (op sub : Int) (t : Ty) (v : Go.Ex.AV) (args : List EX) (c : Int) (Q : List R → List (List D) → Prop) : vc E_0 (C_r76 n) noI (fx_76 op sub t v args c) (f48.body.getD .skip) f48.results.toList [.agg (encX op sub t v (cellsL args)), .d (.v (.int .i64 c))] Q = ( ∃ (es : List (List D)), D.sl (cellsL args) = D.sl es ∧ ((op == (1 : Int)) = true → ((bif bif bif !bif bif arityP op (↑es.length : Int) then decide (sub ≥ (0 : Int)) else false then decide (sub < c) else false then true else sub != sub then true else !((0 : Int) == t.1 && ((0 : Int) == t.2 && true)) then true else !((0 : Int) == v.1.1 && ((0 : Int) == v.1.2 && (false == v.2 && ((0 : Int) == v.3 && ({ data := { toList := [] : Array UInt8 } : ByteArray } == v.4 && true)))))) = true → Q [.d (.v (.bool false))] []) ∧ ((bif bif bif !bif bif arityP op (↑es.length : Int) then decide (sub ≥ (0 : Int)) else false then decide (sub < c) else false then true else sub != sub then true else !((0 : Int) == t.1 && ((0 : Int) == t.2 && true)) then true else !((0 : Int) == v.1.1 && ((0 : Int) == v.1.2 && (false == v.2 && ((0 : Int) == v.3 && ({ data := { toList := [] : Array UInt8 } : ByteArray } == v.4 && true)))))) = false → ∃ (x0 : { X := Nat, sh := st_76 op sub t v args c, P := fun (x : Nat) => inv_76 c args : LX }.X), ({ tm := [((1 : Nat), V.d (D.v (Value.int .i64 c))), ((2 : Nat), V.ref ((2 : Nat)) ((0 : Nat))), ((4 : Nat), V.d (D.v (Value.bool false))), ((7 : Nat), V.d (D.v (Value.int .i64 0)))], hp := [((2 : Nat), B.box [V.d (D.v (Value.int .i64 op)), V.d (D.v (Value.int .i64 sub)), V.d (D.v (Value.int .i64 t.1)), V.d (D.v (Value.int .i64 t.2)), V.d (D.v (Value.int .i64 v.1.1)), V.d (D.v (Value.int .i64 v.1.2)), V.d (D.v (Value.bool v.2)), V.d (D.v (Value.int .i64 v.3)), V.d (D.v (Value.string v.4)), V.d (D.sl (cellsL args))])], kn := [], gd := [] : St } = { tm := [((1 : Nat), V.d (D.v (Value.int .i64 c))), ((2 : Nat), V.ref ((2 : Nat)) ((0 : Nat))), ((4 : Nat), V.d (D.v (Value.bool false))), ((7 : Nat), V.d (D.v (Value.int .i64 (↑x0 : Int))))], hp := [((2 : Nat), B.box [V.d (D.v (Value.int .i64 op)), V.d (D.v (Value.int .i64 sub)), V.d (D.v (Value.int .i64 t.1)), V.d (D.v (Value.int .i64 t.2)), V.d (D.v (Value.int .i64 v.1.1)), V.d (D.v (Value.int .i64 v.1.2)), V.d (D.v (Value.bool v.2)), V.d (D.v (Value.int .i64 v.3)), V.d (D.v (Value.string v.4)), V.d (D.sl (cellsL args))])], kn := [], gd := [] : St } ∧ ∃ (n : Nat), inv_76 c args n x0) ∧ ∀ (n_1 : Nat) (x : { X := Nat, sh := st_76 op sub t v args c, P := fun (x : Nat) => inv_76 c args : LX }.X), inv_76 c args n_1 x → ∃ (es : List (List D)), D.sl (cellsL args) = D.sl es ∧ (decide ((↑x : Int) < (↑es.length : Int)) = true → ∃ (es : List (List D)), D.sl (cellsL args) = D.sl es ∧ ((0 : Int) ≤ (↑x : Int) ∧ (↑x : Int) < (↑es.length : Int)) ∧ ∃ (cells : List D), es[(↑x : Int).toNat]? = some cells ∧ cells.length = (10 : Nat) ∧ ∃ (n_2 : Int), ∃ (n_3 : Int), ∃ (n_4 : Int), ∃ (n_5 : Int), ∃ (n_6 : Int), ∃ (n_7 : Int), ∃ (b : Bool), ∃ (n_8 : Int), ∃ (b_1 : ByteArray), ∃ (es : List (List D)), cut ((0 : Nat)) ((10 : Nat)) cells = some [D.v (Value.int .i64 n_2), D.v (Value.int .i64 n_3), D.v (Value.int .i64 n_4), D.v (Value.int .i64 n_5), D.v (Value.int .i64 n_6), D.v (Value.int .i64 n_7), D.v (Value.bool b), D.v (Value.int .i64 n_8), D.v (Value.string b_1), D.sl es] ∧ ∃ (e : EX), [D.v (Value.int .i64 n_2), D.v (Value.int .i64 n_3), D.v (Value.int .i64 n_4), D.v (Value.int .i64 n_5), D.v (Value.int .i64 n_6), D.v (Value.int .i64 n_7), D.v (Value.bool b), D.v (Value.int .i64 n_8), D.v (Value.string b_1), D.sl es] = Ex.cells e ∧ size e < n ∧ fits e ∧ ((!mayE c e) = true → Q [.d (.v (.bool false))] []) ∧ ((!mayE c e) = false → ∃ (m : Nat), ∃ (x' : { X := Nat, sh := st_76 op sub t v args c, P := fun (x : Nat) => inv_76 c args : LX }.X), m < n_1 ∧ { tm := [((1 : Nat), V.d (D.v (Value.int .i64 c))), ((2 : Nat), V.ref ((2 : Nat)) ((0 : Nat))), ((4 : Nat), V.d (D.v (Value.bool false))), ((7 : Nat), V.d (D.v (Value.int .i64 (IntKind.i64.wrap ((↑x : Int) + (1 : Int))))))], hp := [((2 : Nat), B.box [V.d (D.v (Value.int .i64 op)), V.d (D.v (Value.int .i64 sub)), V.d (D.v (Value.int .i64 t.1)), V.d (D.v (Value.int .i64 t.2)), V.d (D.v (Value.int .i64 v.1.1)), V.d (D.v (Value.int .i64 v.1.2)), V.d (D.v (Value.bool v.2)), V.d (D.v (Value.int .i64 v.3)), V.d (D.v (Value.string v.4)), V.d (D.sl (cellsL args))])], kn := [], gd := [] : St } = { tm := [((1 : Nat), V.d (D.v (Value.int .i64 c))), ((2 : Nat), V.ref ((2 : Nat)) ((0 : Nat))), ((4 : Nat), V.d (D.v (Value.bool false))), ((7 : Nat), V.d (D.v (Value.int .i64 (↑x' : Int))))], hp := [((2 : Nat), B.box [V.d (D.v (Value.int .i64 op)), V.d (D.v (Value.int .i64 sub)), V.d (D.v (Value.int .i64 t.1)), V.d (D.v (Value.int .i64 t.2)), V.d (D.v (Value.int .i64 v.1.1)), V.d (D.v (Value.int .i64 v.1.2)), V.d (D.v (Value.bool v.2)), V.d (D.v (Value.int .i64 v.3)), V.d (D.v (Value.string v.4)), V.d (D.sl (cellsL args))])], kn := [], gd := [] : St } ∧ inv_76 c args m x')) ∧ (decide ((↑x : Int) < (↑es.length : Int)) = false → Q [.d (.v (.bool true))] []))) ∧ ((op == (1 : Int)) = false → ((op == (2 : Int)) = true → ((bif bif bif !bif arityP op (↑es.length : Int) then s56_0 v.1.1 v.1.2 v.2 v.3 v.4 == (0 : Int) else false then true else (0 : Int) != sub then true else !((0 : Int) == t.1 && ((0 : Int) == t.2 && true)) then true else !(v.1.1 == v.1.1 && (v.1.2 == v.1.2 && (v.2 == v.2 && (v.3 == v.3 && (v.4 == v.4 && true)))))) = true → Q [.d (.v (.bool false))] []) ∧ ((bif bif bif !bif arityP op (↑es.length : Int) then s56_0 v.1.1 v.1.2 v.2 v.3 v.4 == (0 : Int) else false then true else (0 : Int) != sub then true else !((0 : Int) == t.1 && ((0 : Int) == t.2 && true)) then true else !(v.1.1 == v.1.1 && (v.1.2 == v.1.2 && (v.2 == v.2 && (v.3 == v.3 && (v.4 == v.4 && true)))))) = false → ∃ (x0 : { X := Nat, sh := st_76 op sub t v args c, P := fun (x : Nat) => inv_76 c args : LX }.X), ({ tm := [((1 : Nat), V.d (D.v (Value.int .i64 c))), ((2 : Nat), V.ref ((2 : Nat)) ((0 : Nat))), ((4 : Nat), V.d (D.v (Value.bool false))), ((7 : Nat), V.d (D.v (Value.int .i64 0)))], hp := [((2 : Nat), B.box [V.d (D.v (Value.int .i64 op)), V.d (D.v (Value.int .i64 sub)), V.d (D.v (Value.int .i64 t.1)), V.d (D.v (Value.int .i64 t.2)), V.d (D.v (Value.int .i64 v.1.1)), V.d (D.v (Value.int .i64 v.1.2)), V.d (D.v (Value.bool v.2)), V.d (D.v (Value.int .i64 v.3)), V.d (D.v (Value.string v.4)), V.d (D.sl (cellsL args))])], kn := [], gd := [] : St } = { tm := [((1 : Nat), V.d (D.v (Value.int .i64 c))), ((2 : Nat), V.ref ((2 : Nat)) ((0 : Nat))), ((4 : Nat), V.d (D.v (Value.bool false))), ((7 : Nat), V.d (D.v (Value.int .i64 (↑x0 : Int))))], hp := [((2 : Nat), B.box [V.d (D.v (Value.int .i64 op)), V.d (D.v (Value.int .i64 sub)), V.d (D.v (Value.int .i64 t.1)), V.d (D.v (Value.int .i64 t.2)), V.d (D.v (Value.int .i64 v.1.1)), V.d (D.v (Value.int .i64 v.1.2)), V.d (D.v (Value.bool v.2)), V.d (D.v (Value.int .i64 v.3)), V.d (D.v (Value.string v.4)), V.d (D.sl (cellsL args))])], kn := [], gd := [] : St } ∧ ∃ (n : Nat), inv_76 c args n x0) ∧ ∀ (n_1 : Nat) (x : { X := Nat, sh := st_76 op sub t v args c, P := fun (x : Nat) => inv_76 c args : LX }.X), inv_76 c args n_1 x → ∃ (es : List (List D)), D.sl (cellsL args) = D.sl es ∧ (decide ((↑x : Int) < (↑es.length : Int)) = true → ∃ (es : List (List D)), D.sl (cellsL args) = D.sl es ∧ ((0 : Int) ≤ (↑x : Int) ∧ (↑x : Int) < (↑es.length : Int)) ∧ ∃ (cells : List D), es[(↑x : Int).toNat]? = some cells ∧ cells.length = (10 : Nat) ∧ ∃ (n_2 : Int), ∃ (n_3 : Int), ∃ (n_4 : Int), ∃ (n_5 : Int), ∃ (n_6 : Int), ∃ (n_7 : Int), ∃ (b : Bool), ∃ (n_8 : Int), ∃ (b_1 : ByteArray), ∃ (es : List (List D)), cut ((0 : Nat)) ((10 : Nat)) cells = some [D.v (Value.int .i64 n_2), D.v (Value.int .i64 n_3), D.v (Value.int .i64 n_4), D.v (Value.int .i64 n_5), D.v (Value.int .i64 n_6), D.v (Value.int .i64 n_7), D.v (Value.bool b), D.v (Value.int .i64 n_8), D.v (Value.string b_1), D.sl es] ∧ ∃ (e : EX), [D.v (Value.int .i64 n_2), D.v (Value.int .i64 n_3), D.v (Value.int .i64 n_4), D.v (Value.int .i64 n_5), D.v (Value.int .i64 n_6), D.v (Value.int .i64 n_7), D.v (Value.bool b), D.v (Value.int .i64 n_8), D.v (Value.string b_1), D.sl es] = Ex.cells e ∧ size e < n ∧ fits e ∧ ((!mayE c e) = true → Q [.d (.v (.bool false))] []) ∧ ((!mayE c e) = false → ∃ (m : Nat), ∃ (x' : { X := Nat, sh := st_76 op sub t v args c, P := fun (x : Nat) => inv_76 c args : LX }.X), m < n_1 ∧ { tm := [((1 : Nat), V.d (D.v (Value.int .i64 c))), ((2 : Nat), V.ref ((2 : Nat)) ((0 : Nat))), ((4 : Nat), V.d (D.v (Value.bool false))), ((7 : Nat), V.d (D.v (Value.int .i64 (IntKind.i64.wrap ((↑x : Int) + (1 : Int))))))], hp := [((2 : Nat), B.box [V.d (D.v (Value.int .i64 op)), V.d (D.v (Value.int .i64 sub)), V.d (D.v (Value.int .i64 t.1)), V.d (D.v (Value.int .i64 t.2)), V.d (D.v (Value.int .i64 v.1.1)), V.d (D.v (Value.int .i64 v.1.2)), V.d (D.v (Value.bool v.2)), V.d (D.v (Value.int .i64 v.3)), V.d (D.v (Value.string v.4)), V.d (D.sl (cellsL args))])], kn := [], gd := [] : St } = { tm := [((1 : Nat), V.d (D.v (Value.int .i64 c))), ((2 : Nat), V.ref ((2 : Nat)) ((0 : Nat))), ((4 : Nat), V.d (D.v (Value.bool false))), ((7 : Nat), V.d (D.v (Value.int .i64 (↑x' : Int))))], hp := [((2 : Nat), B.box [V.d (D.v (Value.int .i64 op)), V.d (D.v (Value.int .i64 sub)), V.d (D.v (Value.int .i64 t.1)), V.d (D.v (Value.int .i64 t.2)), V.d (D.v (Value.int .i64 v.1.1)), V.d (D.v (Value.int .i64 v.1.2)), V.d (D.v (Value.bool v.2)), V.d (D.v (Value.int .i64 v.3)), V.d (D.v (Value.string v.4)), V.d (D.sl (cellsL args))])], kn := [], gd := [] : St } ∧ inv_76 c args m x')) ∧ (decide ((↑x : Int) < (↑es.length : Int)) = false → Q [.d (.v (.bool true))] []))) ∧ ((op == (2 : Int)) = false → ((op == (9 : Int)) = true → ((bif bif bif !bif bif arityP op (↑es.length : Int) then decide (sub ≥ (1 : Int)) else false then decide (sub ≤ (6 : Int)) else false then true else sub != sub then true else !((0 : Int) == t.1 && ((0 : Int) == t.2 && true)) then true else !((0 : Int) == v.1.1 && ((0 : Int) == v.1.2 && (false == v.2 && ((0 : Int) == v.3 && ({ data := { toList := [] : Array UInt8 } : ByteArray } == v.4 && true)))))) = true → Q [.d (.v (.bool false))] []) ∧ ((bif bif bif !bif bif arityP op (↑es.length : Int) then decide (sub ≥ (1 : Int)) else false then decide (sub ≤ (6 : Int)) else false then true else sub != sub then true else !((0 : Int) == t.1 && ((0 : Int) == t.2 && true)) then true else !((0 : Int) == v.1.1 && ((0 : Int) == v.1.2 && (false == v.2 && ((0 : Int) == v.3 && ({ data := { toList := [] : Array UInt8 } : ByteArray } == v.4 && true)))))) = false → ∃ (x0 : { X := Nat, sh := st_76 op sub t v args c, P := fun (x : Nat) => inv_76 c args : LX }.X), ({ tm := [((1 : Nat), V.d (D.v (Value.int .i64 c))), ((2 : Nat), V.ref ((2 : Nat)) ((0 : Nat))), ((4 : Nat), V.d (D.v (Value.bool false))), ((7 : Nat), V.d (D.v (Value.int .i64 0)))], hp := [((2 : Nat), B.box [V.d (D.v (Value.int .i64 op)), V.d (D.v (Value.int .i64 sub)), V.d (D.v (Value.int .i64 t.1)), V.d (D.v (Value.int .i64 t.2)), V.d (D.v (Value.int .i64 v.1.1)), V.d (D.v (Value.int .i64 v.1.2)), V.d (D.v (Value.bool v.2)), V.d (D.v (Value.int .i64 v.3)), V.d (D.v (Value.string v.4)), V.d (D.sl (cellsL args))])], kn := [], gd := [] : St } = { tm := [((1 : Nat), V.d (D.v (Value.int .i64 c))), ((2 : Nat), V.ref ((2 : Nat)) ((0 : Nat))), ((4 : Nat), V.d (D.v (Value.bool false))), ((7 : Nat), V.d (D.v (Value.int .i64 (↑x0 : Int))))], hp := [((2 : Nat), B.box [V.d (D.v (Value.int .i64 op)), V.d (D.v (Value.int .i64 sub)), V.d (D.v (Value.int .i64 t.1)), V.d (D.v (Value.int .i64 t.2)), V.d (D.v (Value.int .i64 v.1.1)), V.d (D.v (Value.int .i64 v.1.2)), V.d (D.v (Value.bool v.2)), V.d (D.v (Value.int .i64 v.3)), V.d (D.v (Value.string v.4)), V.d (D.sl (cellsL args))])], kn := [], gd := [] : St } ∧ ∃ (n : Nat), inv_76 c args n x0) ∧ ∀ (n_1 : Nat) (x : { X := Nat, sh := st_76 op sub t v args c, P := fun (x : Nat) => inv_76 c args : LX }.X), inv_76 c args n_1 x → ∃ (es : List (List D)), D.sl (cellsL args) = D.sl es ∧ (decide ((↑x : Int) < (↑es.length : Int)) = true → ∃ (es : List (List D)), D.sl (cellsL args) = D.sl es ∧ ((0 : Int) ≤ (↑x : Int) ∧ (↑x : Int) < (↑es.length : Int)) ∧ ∃ (cells : List D), es[(↑x : Int).toNat]? = some cells ∧ cells.length = (10 : Nat) ∧ ∃ (n_2 : Int), ∃ (n_3 : Int), ∃ (n_4 : Int), ∃ (n_5 : Int), ∃ (n_6 : Int), ∃ (n_7 : Int), ∃ (b : Bool), ∃ (n_8 : Int), ∃ (b_1 : ByteArray), ∃ (es : List (List D)), cut ((0 : Nat)) ((10 : Nat)) cells = some [D.v (Value.int .i64 n_2), D.v (Value.int .i64 n_3), D.v (Value.int .i64 n_4), D.v (Value.int .i64 n_5), D.v (Value.int .i64 n_6), D.v (Value.int .i64 n_7), D.v (Value.bool b), D.v (Value.int .i64 n_8), D.v (Value.string b_1), D.sl es] ∧ ∃ (e : EX), [D.v (Value.int .i64 n_2), D.v (Value.int .i64 n_3), D.v (Value.int .i64 n_4), D.v (Value.int .i64 n_5), D.v (Value.int .i64 n_6), D.v (Value.int .i64 n_7), D.v (Value.bool b), D.v (Value.int .i64 n_8), D.v (Value.string b_1), D.sl es] = Ex.cells e ∧ size e < n ∧ fits e ∧ ((!mayE c e) = true → Q [.d (.v (.bool false))] []) ∧ ((!mayE c e) = false → ∃ (m : Nat), ∃ (x' : { X := Nat, sh := st_76 op sub t v args c, P := fun (x : Nat) => inv_76 c args : LX }.X), m < n_1 ∧ { tm := [((1 : Nat), V.d (D.v (Value.int .i64 c))), ((2 : Nat), V.ref ((2 : Nat)) ((0 : Nat))), ((4 : Nat), V.d (D.v (Value.bool false))), ((7 : Nat), V.d (D.v (Value.int .i64 (IntKind.i64.wrap ((↑x : Int) + (1 : Int))))))], hp := [((2 : Nat), B.box [V.d (D.v (Value.int .i64 op)), V.d (D.v (Value.int .i64 sub)), V.d (D.v (Value.int .i64 t.1)), V.d (D.v (Value.int .i64 t.2)), V.d (D.v (Value.int .i64 v.1.1)), V.d (D.v (Value.int .i64 v.1.2)), V.d (D.v (Value.bool v.2)), V.d (D.v (Value.int .i64 v.3)), V.d (D.v (Value.string v.4)), V.d (D.sl (cellsL args))])], kn := [], gd := [] : St } = { tm := [((1 : Nat), V.d (D.v (Value.int .i64 c))), ((2 : Nat), V.ref ((2 : Nat)) ((0 : Nat))), ((4 : Nat), V.d (D.v (Value.bool false))), ((7 : Nat), V.d (D.v (Value.int .i64 (↑x' : Int))))], hp := [((2 : Nat), B.box [V.d (D.v (Value.int .i64 op)), V.d (D.v (Value.int .i64 sub)), V.d (D.v (Value.int .i64 t.1)), V.d (D.v (Value.int .i64 t.2)), V.d (D.v (Value.int .i64 v.1.1)), V.d (D.v (Value.int .i64 v.1.2)), V.d (D.v (Value.bool v.2)), V.d (D.v (Value.int .i64 v.3)), V.d (D.v (Value.string v.4)), V.d (D.sl (cellsL args))])], kn := [], gd := [] : St } ∧ inv_76 c args m x')) ∧ (decide ((↑x : Int) < (↑es.length : Int)) = false → Q [.d (.v (.bool true))] []))) ∧ ((op == (9 : Int)) = false → ((op == (16 : Int)) = true → ((bif bif bif !bif arityP op (↑es.length : Int) then s67_0 t.1 t.2 == (0 : Int) else false then true else (0 : Int) != sub then true else !(t.1 == t.1 && (t.2 == t.2 && true)) then true else !((0 : Int) == v.1.1 && ((0 : Int) == v.1.2 && (false == v.2 && ((0 : Int) == v.3 && ({ data := { toList := [] : Array UInt8 } : ByteArray } == v.4 && true)))))) = true → Q [.d (.v (.bool false))] []) ∧ ((bif bif bif !bif arityP op (↑es.length : Int) then s67_0 t.1 t.2 == (0 : Int) else false then true else (0 : Int) != sub then true else !(t.1 == t.1 && (t.2 == t.2 && true)) then true else !((0 : Int) == v.1.1 && ((0 : Int) == v.1.2 && (false == v.2 && ((0 : Int) == v.3 && ({ data := { toList := [] : Array UInt8 } : ByteArray } == v.4 && true)))))) = false → ∃ (x0 : { X := Nat, sh := st_76 op sub t v args c, P := fun (x : Nat) => inv_76 c args : LX }.X), ({ tm := [((1 : Nat), V.d (D.v (Value.int .i64 c))), ((2 : Nat), V.ref ((2 : Nat)) ((0 : Nat))), ((4 : Nat), V.d (D.v (Value.bool false))), ((7 : Nat), V.d (D.v (Value.int .i64 0)))], hp := [((2 : Nat), B.box [V.d (D.v (Value.int .i64 op)), V.d (D.v (Value.int .i64 sub)), V.d (D.v (Value.int .i64 t.1)), V.d (D.v (Value.int .i64 t.2)), V.d (D.v (Value.int .i64 v.1.1)), V.d (D.v (Value.int .i64 v.1.2)), V.d (D.v (Value.bool v.2)), V.d (D.v (Value.int .i64 v.3)), V.d (D.v (Value.string v.4)), V.d (D.sl (cellsL args))])], kn := [], gd := [] : St } = { tm := [((1 : Nat), V.d (D.v (Value.int .i64 c))), ((2 : Nat), V.ref ((2 : Nat)) ((0 : Nat))), ((4 : Nat), V.d (D.v (Value.bool false))), ((7 : Nat), V.d (D.v (Value.int .i64 (↑x0 : Int))))], hp := [((2 : Nat), B.box [V.d (D.v (Value.int .i64 op)), V.d (D.v (Value.int .i64 sub)), V.d (D.v (Value.int .i64 t.1)), V.d (D.v (Value.int .i64 t.2)), V.d (D.v (Value.int .i64 v.1.1)), V.d (D.v (Value.int .i64 v.1.2)), V.d (D.v (Value.bool v.2)), V.d (D.v (Value.int .i64 v.3)), V.d (D.v (Value.string v.4)), V.d (D.sl (cellsL args))])], kn := [], gd := [] : St } ∧ ∃ (n : Nat), inv_76 c args n x0) ∧ ∀ (n_1 : Nat) (x : { X := Nat, sh := st_76 op sub t v args c, P := fun (x : Nat) => inv_76 c args : LX }.X), inv_76 c args n_1 x → ∃ (es : List (List D)), D.sl (cellsL args) = D.sl es ∧ (decide ((↑x : Int) < (↑es.length : Int)) = true → ∃ (es : List (List D)), D.sl (cellsL args) = D.sl es ∧ ((0 : Int) ≤ (↑x : Int) ∧ (↑x : Int) < (↑es.length : Int)) ∧ ∃ (cells : List D), es[(↑x : Int).toNat]? = some cells ∧ cells.length = (10 : Nat) ∧ ∃ (n_2 : Int), ∃ (n_3 : Int), ∃ (n_4 : Int), ∃ (n_5 : Int), ∃ (n_6 : Int), ∃ (n_7 : Int), ∃ (b : Bool), ∃ (n_8 : Int), ∃ (b_1 : ByteArray), ∃ (es : List (List D)), cut ((0 : Nat)) ((10 : Nat)) cells = some [D.v (Value.int .i64 n_2), D.v (Value.int .i64 n_3), D.v (Value.int .i64 n_4), D.v (Value.int .i64 n_5), D.v (Value.int .i64 n_6), D.v (Value.int .i64 n_7), D.v (Value.bool b), D.v (Value.int .i64 n_8), D.v (Value.string b_1), D.sl es] ∧ ∃ (e : EX), [D.v (Value.int .i64 n_2), D.v (Value.int .i64 n_3), D.v (Value.int .i64 n_4), D.v (Value.int .i64 n_5), D.v (Value.int .i64 n_6), D.v (Value.int .i64 n_7), D.v (Value.bool b), D.v (Value.int .i64 n_8), D.v (Value.string b_1), D.sl es] = Ex.cells e ∧ size e < n ∧ fits e ∧ ((!mayE c e) = true → Q [.d (.v (.bool false))] []) ∧ ((!mayE c e) = false → ∃ (m : Nat), ∃ (x' : { X := Nat, sh := st_76 op sub t v args c, P := fun (x : Nat) => inv_76 c args : LX }.X), m < n_1 ∧ { tm := [((1 : Nat), V.d (D.v (Value.int .i64 c))), ((2 : Nat), V.ref ((2 : Nat)) ((0 : Nat))), ((4 : Nat), V.d (D.v (Value.bool false))), ((7 : Nat), V.d (D.v (Value.int .i64 (IntKind.i64.wrap ((↑x : Int) + (1 : Int))))))], hp := [((2 : Nat), B.box [V.d (D.v (Value.int .i64 op)), V.d (D.v (Value.int .i64 sub)), V.d (D.v (Value.int .i64 t.1)), V.d (D.v (Value.int .i64 t.2)), V.d (D.v (Value.int .i64 v.1.1)), V.d (D.v (Value.int .i64 v.1.2)), V.d (D.v (Value.bool v.2)), V.d (D.v (Value.int .i64 v.3)), V.d (D.v (Value.string v.4)), V.d (D.sl (cellsL args))])], kn := [], gd := [] : St } = { tm := [((1 : Nat), V.d (D.v (Value.int .i64 c))), ((2 : Nat), V.ref ((2 : Nat)) ((0 : Nat))), ((4 : Nat), V.d (D.v (Value.bool false))), ((7 : Nat), V.d (D.v (Value.int .i64 (↑x' : Int))))], hp := [((2 : Nat), B.box [V.d (D.v (Value.int .i64 op)), V.d (D.v (Value.int .i64 sub)), V.d (D.v (Value.int .i64 t.1)), V.d (D.v (Value.int .i64 t.2)), V.d (D.v (Value.int .i64 v.1.1)), V.d (D.v (Value.int .i64 v.1.2)), V.d (D.v (Value.bool v.2)), V.d (D.v (Value.int .i64 v.3)), V.d (D.v (Value.string v.4)), V.d (D.sl (cellsL args))])], kn := [], gd := [] : St } ∧ inv_76 c args m x')) ∧ (decide ((↑x : Int) < (↑es.length : Int)) = false → Q [.d (.v (.bool true))] []))) ∧ ((op == (16 : Int)) = false → ((bif bif bif !arityP op (↑es.length : Int) then true else (0 : Int) != sub then true else !((0 : Int) == t.1 && ((0 : Int) == t.2 && true)) then true else !((0 : Int) == v.1.1 && ((0 : Int) == v.1.2 && (false == v.2 && ((0 : Int) == v.3 && ({ data := { toList := [] : Array UInt8 } : ByteArray } == v.4 && true)))))) = true → Q [.d (.v (.bool false))] []) ∧ ((bif bif bif !arityP op (↑es.length : Int) then true else (0 : Int) != sub then true else !((0 : Int) == t.1 && ((0 : Int) == t.2 && true)) then true else !((0 : Int) == v.1.1 && ((0 : Int) == v.1.2 && (false == v.2 && ((0 : Int) == v.3 && ({ data := { toList := [] : Array UInt8 } : ByteArray } == v.4 && true)))))) = false → ∃ (x0 : { X := Nat, sh := st_76 op sub t v args c, P := fun (x : Nat) => inv_76 c args : LX }.X), ({ tm := [((1 : Nat), V.d (D.v (Value.int .i64 c))), ((2 : Nat), V.ref ((2 : Nat)) ((0 : Nat))), ((4 : Nat), V.d (D.v (Value.bool false))), ((7 : Nat), V.d (D.v (Value.int .i64 0)))], hp := [((2 : Nat), B.box [V.d (D.v (Value.int .i64 op)), V.d (D.v (Value.int .i64 sub)), V.d (D.v (Value.int .i64 t.1)), V.d (D.v (Value.int .i64 t.2)), V.d (D.v (Value.int .i64 v.1.1)), V.d (D.v (Value.int .i64 v.1.2)), V.d (D.v (Value.bool v.2)), V.d (D.v (Value.int .i64 v.3)), V.d (D.v (Value.string v.4)), V.d (D.sl (cellsL args))])], kn := [], gd := [] : St } = { tm := [((1 : Nat), V.d (D.v (Value.int .i64 c))), ((2 : Nat), V.ref ((2 : Nat)) ((0 : Nat))), ((4 : Nat), V.d (D.v (Value.bool false))), ((7 : Nat), V.d (D.v (Value.int .i64 (↑x0 : Int))))], hp := [((2 : Nat), B.box [V.d (D.v (Value.int .i64 op)), V.d (D.v (Value.int .i64 sub)), V.d (D.v (Value.int .i64 t.1)), V.d (D.v (Value.int .i64 t.2)), V.d (D.v (Value.int .i64 v.1.1)), V.d (D.v (Value.int .i64 v.1.2)), V.d (D.v (Value.bool v.2)), V.d (D.v (Value.int .i64 v.3)), V.d (D.v (Value.string v.4)), V.d (D.sl (cellsL args))])], kn := [], gd := [] : St } ∧ ∃ (n : Nat), inv_76 c args n x0) ∧ ∀ (n_1 : Nat) (x : { X := Nat, sh := st_76 op sub t v args c, P := fun (x : Nat) => inv_76 c args : LX }.X), inv_76 c args n_1 x → ∃ (es : List (List D)), D.sl (cellsL args) = D.sl es ∧ (decide ((↑x : Int) < (↑es.length : Int)) = true → ∃ (es : List (List D)), D.sl (cellsL args) = D.sl es ∧ ((0 : Int) ≤ (↑x : Int) ∧ (↑x : Int) < (↑es.length : Int)) ∧ ∃ (cells : List D), es[(↑x : Int).toNat]? = some cells ∧ cells.length = (10 : Nat) ∧ ∃ (n_2 : Int), ∃ (n_3 : Int), ∃ (n_4 : Int), ∃ (n_5 : Int), ∃ (n_6 : Int), ∃ (n_7 : Int), ∃ (b : Bool), ∃ (n_8 : Int), ∃ (b_1 : ByteArray), ∃ (es : List (List D)), cut ((0 : Nat)) ((10 : Nat)) cells = some [D.v (Value.int .i64 n_2), D.v (Value.int .i64 n_3), D.v (Value.int .i64 n_4), D.v (Value.int .i64 n_5), D.v (Value.int .i64 n_6), D.v (Value.int .i64 n_7), D.v (Value.bool b), D.v (Value.int .i64 n_8), D.v (Value.string b_1), D.sl es] ∧ ∃ (e : EX), [D.v (Value.int .i64 n_2), D.v (Value.int .i64 n_3), D.v (Value.int .i64 n_4), D.v (Value.int .i64 n_5), D.v (Value.int .i64 n_6), D.v (Value.int .i64 n_7), D.v (Value.bool b), D.v (Value.int .i64 n_8), D.v (Value.string b_1), D.sl es] = Ex.cells e ∧ size e < n ∧ fits e ∧ ((!mayE c e) = true → Q [.d (.v (.bool false))] []) ∧ ((!mayE c e) = false → ∃ (m : Nat), ∃ (x' : { X := Nat, sh := st_76 op sub t v args c, P := fun (x : Nat) => inv_76 c args : LX }.X), m < n_1 ∧ { tm := [((1 : Nat), V.d (D.v (Value.int .i64 c))), ((2 : Nat), V.ref ((2 : Nat)) ((0 : Nat))), ((4 : Nat), V.d (D.v (Value.bool false))), ((7 : Nat), V.d (D.v (Value.int .i64 (IntKind.i64.wrap ((↑x : Int) + (1 : Int))))))], hp := [((2 : Nat), B.box [V.d (D.v (Value.int .i64 op)), V.d (D.v (Value.int .i64 sub)), V.d (D.v (Value.int .i64 t.1)), V.d (D.v (Value.int .i64 t.2)), V.d (D.v (Value.int .i64 v.1.1)), V.d (D.v (Value.int .i64 v.1.2)), V.d (D.v (Value.bool v.2)), V.d (D.v (Value.int .i64 v.3)), V.d (D.v (Value.string v.4)), V.d (D.sl (cellsL args))])], kn := [], gd := [] : St } = { tm := [((1 : Nat), V.d (D.v (Value.int .i64 c))), ((2 : Nat), V.ref ((2 : Nat)) ((0 : Nat))), ((4 : Nat), V.d (D.v (Value.bool false))), ((7 : Nat), V.d (D.v (Value.int .i64 (↑x' : Int))))], hp := [((2 : Nat), B.box [V.d (D.v (Value.int .i64 op)), V.d (D.v (Value.int .i64 sub)), V.d (D.v (Value.int .i64 t.1)), V.d (D.v (Value.int .i64 t.2)), V.d (D.v (Value.int .i64 v.1.1)), V.d (D.v (Value.int .i64 v.1.2)), V.d (D.v (Value.bool v.2)), V.d (D.v (Value.int .i64 v.3)), V.d (D.v (Value.string v.4)), V.d (D.sl (cellsL args))])], kn := [], gd := [] : St } ∧ inv_76 c args m x')) ∧ (decide ((↑x : Int) < (↑es.length : Int)) = false → Q [.d (.v (.bool true))] []))))))) := by kernel_rfl
theorem ba_refl (a : ByteArray) : (a == a) = true := by rw [beq_toListBytes]; simp
theorem ba_comm (a b : ByteArray) : (a == b) = (b == a) := by rw [beq_toListBytes, beq_toListBytes, BEq.comm]
def headR (op sub : Int) (t : Ty) (v : Go.Ex.AV) (m c : Int) : Bool :=
  bif op == 1 then (bif bif bif !bif bif arityP op m then decide (sub ≥ 0) else false then decide (sub < c) else false then true else sub != sub then true else !(0 == t.1 && (0 == t.2 && true)) then true else !(0 == v.1.1 && (0 == v.1.2 && (false == v.2 && (0 == v.3 && (({ data := { toList := [] } } : ByteArray) == v.4 && true))))))
  else bif op == 2 then (bif bif bif !bif arityP op m then s56_0 v.1.1 v.1.2 v.2 v.3 v.4 == 0 else false then true else 0 != sub then true else !(0 == t.1 && (0 == t.2 && true)) then true else !(v.1.1 == v.1.1 && (v.1.2 == v.1.2 && (v.2 == v.2 && (v.3 == v.3 && (v.4 == v.4 && true))))))
  else bif op == 9 then (bif bif bif !bif bif arityP op m then decide (sub ≥ 1) else false then decide (sub ≤ 6) else false then true else sub != sub then true else !(0 == t.1 && (0 == t.2 && true)) then true else !(0 == v.1.1 && (0 == v.1.2 && (false == v.2 && (0 == v.3 && (({ data := { toList := [] } } : ByteArray) == v.4 && true))))))
  else bif op == 16 then (bif bif bif !bif arityP op m then s67_0 t.1 t.2 == 0 else false then true else 0 != sub then true else !(t.1 == t.1 && (t.2 == t.2 && true)) then true else !(0 == v.1.1 && (0 == v.1.2 && (false == v.2 && (0 == v.3 && (({ data := { toList := [] } } : ByteArray) == v.4 && true))))))
  else (bif bif bif !arityP op m then true else 0 != sub then true else !(0 == t.1 && (0 == t.2 && true)) then true else !(0 == v.1.1 && (0 == v.1.2 && (false == v.2 && (0 == v.3 && (({ data := { toList := [] } } : ByteArray) == v.4 && true))))))
theorem headR_eq (op sub : Int) (t : Ty) (v : Go.Ex.AV) (m c : Int) (hm : 0 ≤ m) : headR op sub t v m c = !mayHd op sub t v m c := by
  have htz : ((0 : Int) == t.1 && ((0 : Int) == t.2 && true)) = tyZ t := by unfold tyZ; rw [BEq.comm (a := (0 : Int)) (b := t.1), BEq.comm (a := (0 : Int)) (b := t.2)]
  have hvz : ((0 : Int) == v.1.1 && ((0 : Int) == v.1.2 && (false == v.2 && ((0 : Int) == v.3 && (({ data := { toList := [] } } : ByteArray) == v.4 && true))))) = valZ v := by unfold valZ; rw [BEq.comm (a := (0 : Int)) (b := v.1.1), BEq.comm (a := (0 : Int)) (b := v.1.2), BEq.comm (a := false) (b := v.2), BEq.comm (a := (0 : Int)) (b := v.3), ba_comm ({ data := { toList := [] } } : ByteArray) v.4]
  have hvv : (v.1.1 == v.1.1 && (v.1.2 == v.1.2 && (v.2 == v.2 && (v.3 == v.3 && (v.4 == v.4 && true))))) = true := by rw [ba_refl]; simp
  have htt : (t.1 == t.1 && (t.2 == t.2 && true)) = true := by simp
  have hss : (sub != sub) = false := by simp
  have h0s : ((0 : Int) != sub) = !(sub == 0) := by rw [bne, BEq.comm]
  unfold headR mayHd
  rw [htz, hvz, hvv, htt, hss, h0s, s67_60]
  by_cases o1 : op = 1
  · subst o1
    rw [show arityP 1 m = (m == 0) from rfl, show ((1 : Int) == 1) = true from rfl, cond_true, cond_true]
    cases m == 0 <;> cases decide (sub ≥ 0) <;> cases decide (sub < c) <;> cases tyZ t <;> cases valZ v <;> rfl
  by_cases o2 : op = 2
  · subst o2
    rw [show arityP 2 m = (m == 0) from rfl, show ((2 : Int) == 1) = false from rfl, show ((2 : Int) == 2) = true from rfl, cond_false, cond_false, cond_true, cond_true]
    cases m == 0 <;> cases s56_0 v.1.1 v.1.2 v.2 v.3 v.4 == 0 <;> cases sub == 0 <;> cases tyZ t <;> rfl
  by_cases o9 : op = 9
  · subst o9
    rw [show arityP 9 m = (m == 2) from by cases h : (m == 2) <;> simp [arityP, h], show ((9 : Int) == 1) = false from rfl, show ((9 : Int) == 2) = false from rfl, show ((9 : Int) == 9) = true from rfl, cond_false, cond_false, cond_false, cond_false, cond_true, cond_true]
    cases m == 2 <;> cases decide (sub ≥ 1) <;> cases decide (sub ≤ 6) <;> cases tyZ t <;> cases valZ v <;> rfl
  by_cases o16 : op = 16
  · subst o16
    rw [show arityP 16 m = (m == 1) from rfl, show ((16 : Int) == 1) = false from rfl, show ((16 : Int) == 2) = false from rfl, show ((16 : Int) == 9) = false from rfl, show ((16 : Int) == 16) = true from rfl]
    simp only [cond_false, cond_true]
    cases m == 1 <;> cases s60_0 t.1 t.2 == 0 <;> cases sub == 0 <;> cases valZ v <;> rfl
  have b1 : (op == 1) = false := by simpa using o1
  have b2 : (op == 2) = false := by simpa using o2
  have b9 : (op == 9) = false := by simpa using o9
  have b16 : (op == 16) = false := by simpa using o16
  rw [b1, b2, b9, b16]
  simp only [cond_false]
  by_cases hA : op = 8 ∨ op = 12 ∨ op = 13 ∨ op = 18
  · have e1 : (op == 8 || op == 12 || op == 13 || op == 18) = true := by simpa [or_assoc] using hA
    have e2 : arityP op m = (m == 1) := by rcases hA with rfl | rfl | rfl | rfl <;> rfl
    rw [e1, e2, cond_true]
    cases m == 1 <;> cases sub == 0 <;> cases tyZ t <;> cases valZ v <;> rfl
  have e1 : (op == 8 || op == 12 || op == 13 || op == 18) = false := by
    rw [Bool.eq_false_iff]; intro h; exact hA (by simpa [or_assoc] using h)
  rw [e1, cond_false]
  by_cases o14 : op = 14
  · subst o14
    have e2 : arityP 14 m = (bif decide (m ≥ 3) then m.tmod 2 != 0 else false) := by
      have : (m.tmod 2 == 1) = (m.tmod 2 != 0) := by
        have h2 : m.tmod 2 = m % 2 := Int.tmod_eq_emod_of_nonneg hm
        rw [h2]
        rcases (show m % 2 = 0 ∨ m % 2 = 1 by omega) with h | h <;> rw [h] <;> rfl
      rw [← this]; rfl
    rw [e2, show ((14 : Int) == 14) = true from rfl, cond_true]
    cases decide (m ≥ 3) <;> cases m.tmod 2 != 0 <;> cases sub == 0 <;> cases tyZ t <;> cases valZ v <;> rfl
  by_cases o15 : op = 15
  · subst o15
    rw [show arityP 15 m = decide (m ≥ 1) from rfl, show ((15 : Int) == 14) = false from rfl, show ((15 : Int) == 15) = true from rfl, cond_false, cond_true]
    cases decide (m ≥ 1) <;> cases sub == 0 <;> cases tyZ t <;> cases valZ v <;> rfl
  have b14 : (op == 14) = false := by simpa using o14
  have b15 : (op == 15) = false := by simpa using o15
  rw [b14, b15, cond_false, cond_false]
  have n8 : (op == 8) = false := by simp; omega
  have n12 : (op == 12) = false := by simp; omega
  have n13 : (op == 13) = false := by simp; omega
  have n18 : (op == 18) = false := by simp; omega
  by_cases hB : op = 3 ∨ op = 4 ∨ op = 5 ∨ op = 6 ∨ op = 7 ∨ op = 10 ∨ op = 11 ∨ op = 17
  · have e1 : (op == 3 || op == 4 || op == 5 || op == 6 || op == 7 || op == 10 || op == 11 || op == 17) = true := by simpa [or_assoc] using hB
    have e2 : arityP op m = (m == 2) := by
      unfold arityP
      rw [b1, b2, b14, b15, b16, n8, n12, n13, n18]
      simp only [cond_false]
      rw [show decide (op ≥ 3) = true from decide_eq_true (by omega), show decide (op ≤ 17) = true from decide_eq_true (by omega)]
      cases m == 2 <;> rfl
    rw [e1, e2, cond_true]
    cases m == 2 <;> cases sub == 0 <;> cases tyZ t <;> cases valZ v <;> rfl
  · have e1 : (op == 3 || op == 4 || op == 5 || op == 6 || op == 7 || op == 10 || op == 11 || op == 17) = false := by
      rw [Bool.eq_false_iff]; intro h; exact hB (by simpa [or_assoc] using h)
    have e2 : arityP op m = false := by
      unfold arityP
      rw [b1, b2, b14, b15, b16, n8, n12, n13, n18]
      simp only [cond_false]
      by_cases h3 : op ≥ 3
      · rw [show decide (op ≤ 17) = false from decide_eq_false (by omega)]
        cases m == 2 <;> cases decide (op ≥ 3) <;> rfl
      · rw [show decide (op ≥ 3) = false from decide_eq_false h3]
        cases m == 2 <;> rfl
    rw [e1, e2, cond_false]
    rfl
theorem mayL_snoc (c : Int) (l : List EX) (e : EX) : mayL c (l ++ [e]) = (mayL c l && mayE c e) := by
  rw [mayL_all, mayL_all, List.all_append]; simp
theorem ct76 : ∀ (n : Nat) (e : EX) (c : Int), size e < n → fits e → Ct prog gl 48 [.agg (cells e), .d (.v (.int .i64 c))] (gives [.d (.v (.bool (mayE c e)))])
  | 0, _, _, h, _ => absurd h (Nat.not_lt_zero _)
  | n + 1, .mk op sub t v args, c, hs, hf => by
    have hC : CallsOk prog gl (C_r76 n) := addC_ok (addC_ok (addC_ok C_4e_ok c_149_ok) c_18_ok) (fun a K hk => by
      unfold c_76 at hk
      split at hk
      · obtain ⟨e, rfl, h1, h2, h3⟩ := hk
        exact (ct76 n e _ h1 h2).gives h3
      · exact hk.elim)
    rw [cells_mk]
    refine ct_of_vc E_ok hC ioK_no it_ok mixed (fn := f48) (body := f48.body.getD .skip) (by kernel_rfl) (by kernel_rfl) (by kernel_rfl) (fi := fx_76 op sub t v args c) (by kernel_rfl) (by kernel_rfl) ⟨_, _, rfl, rfl⟩ ?_
    rw [vc76]
    obtain ⟨_, hl, hfl⟩ := fits_mk hf
    simp only [size] at hs
    have hm0 : (0 : Int) ≤ ((cellsL args).length : Int) := by omega
    have hq := headR_eq op sub t v ((cellsL args).length : Int) c hm0
    have hE : mayE c (.mk op sub t v args) = (mayHd op sub t v ((cellsL args).length : Int) c && mayL c args) := by simp only [mayE]
    have fin : ∀ b, mayE c (.mk op sub t v args) = b → gives [.d (.v (.bool (mayE c (.mk op sub t v args))))] [R.d (D.v (Value.bool b))] [] := fun b h => by rw [h]; exact ⟨rfl, rfl⟩
    refine ⟨cellsL args, rfl, fun o1 => ⟨fun g => ?_, fun g => ?_⟩, fun o1 => ⟨fun o2 => ⟨fun g => ?_, fun g => ?_⟩, fun o2 => ⟨fun o9 => ⟨fun g => ?_, fun g => ?_⟩, fun o9 => ⟨fun o16 => ⟨fun g => ?_, fun g => ?_⟩, fun o16 => ⟨fun g => ?_, fun g => ?_⟩⟩⟩⟩⟩
    all_goals
      first
        | (have hg : headR op sub t v ((cellsL args).length : Int) c = true := by (simp only [headR, *, cond_true, cond_false]; done)
           rw [hg] at hq
           refine fin _ ?_
           have hq' : mayHd op sub t v ((cellsL args).length : Int) c = false := by simpa using hq.symm
           rw [hE, hq', Bool.false_and]
           done)
        | (have hg : headR op sub t v ((cellsL args).length : Int) c = false := by (simp only [headR, *, cond_true, cond_false]; done)
           rw [hg] at hq
           have hq' : mayHd op sub t v ((cellsL args).length : Int) c = true := by simpa using hq.symm
           rw [hq', Bool.true_and] at hE
           clear hg hq g
           refine ⟨(0 : Nat), ⟨rfl, args.length, Nat.zero_le _, rfl, by rw [List.take_zero]; simp only [mayL]⟩, fun m (x : Nat) hx => ⟨cellsL args, rfl, fun hi => ?_, fun hi => ?_⟩⟩
           · have hi : x < args.length := by simpa [cellsL_len] using hi
             obtain ⟨op', sub', t', v', a', he, hget⟩ := arg_get hi
             have hm := hx.2.1
             have hml := hx.2.2
             have hsz := size_mem (List.getElem_mem hi)
             refine ⟨cellsL args, rfl, ⟨by omega, by rw [cellsL_len]; omega⟩, _, hget, rfl, op', sub', t'.k, t'.sc, v'.t.k, v'.t.sc, v'.nul, v'.n, v'.s, cellsL a', rfl, args[x], by rw [he, cells_mk]; rfl, by omega, fitsL_mem hfl (List.getElem_mem hi), fun hb => ?_, fun hb => ⟨args.length - (x + 1), x + 1, by omega, ?_, hi, rfl, ?_⟩⟩
             · refine fin _ ?_
               rw [hE, mayL_all]
               rw [← Bool.not_eq_true, List.all_eq_true]
               intro hall
               have := hall _ (List.getElem_mem hi)
               rw [this] at hb; cases hb
             · rw [wrap_next (by omega)]
             · rw [take_succ_get args hi, mayL_snoc, hml]
               simpa using hb
           · have hi : ¬ x < args.length := by simpa [cellsL_len] using hi
             have hml := hx.2.2
             rw [List.take_of_length_le (by omega)] at hml
             exact fin _ (by rw [hE, hml]))
def c_76g (a : List R) (K : List R → List (List D) → Prop) : Prop := match a with
  | [.agg x, .d (.v (.int .i64 c))] => ∃ e : EX, x = cells e ∧ fits e ∧ K [.d (.v (.bool (mayE c e)))] []
  | _ => False
theorem c_76g_ok (a : List R) (K : List R → List (List D) → Prop) (h : c_76g a K) : Ct prog gl 48 a K := by
  unfold c_76g at h
  split at h
  · obtain ⟨e, rfl, h1, h2⟩ := h
    exact (ct76 (size e + 1) e _ (Nat.lt_succ_self _) h1).gives h2
  · exact h.elim
end Go.Proofs.Tryz
