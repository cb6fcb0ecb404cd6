/-
  DERIVED: THE SHELF's CONTRACTS AT THIS DUMP, IN PLAIN WORDS (tools/lay-plain.mjs out of 'XGr0.lean', which tools/lay-shelf.mjs wrote): THE SAME DECLARATIONS UNDER THE SAME NAMES: 'import', 'namespace', 'open', 'def', 'theorem' AND NOTHING ELSE: no command of the shelf's: FOR A HAND-IN. Each laying: the table of numbers ('.._ren') and one theorem, a field a fact of the dump's own or the kernel's comparison; each contract: ONE APPLICATION.
-/
import Derived.Shelf.SlGeneric
import Derived.Shelf.Spec.SlicesGrow
import Derived.Ground.Names8Prog
import Derived.Test.YtckihdaalmgbiaaGreatDoorProg
import Derived.Test.YtckihdaalmgbiaaGreatDoorB8
import Derived.Test.YtckihdaalmgbiaaGreatDoorLists
import Derived.Test.YtckihdaalmgbiaaGreatDoorGrowI
import Derived.Test.YtckihdaalmgbiaaGreatDoorSb
import Derived.Test.YtckihdaalmgbiaaGreatDoorB1
namespace Go.Proofs
open Go.Shelf
def Tryz.grow72_ren : Go.Shelf.Ren := ⟨fun | 4 => 72 | n => n, fun | 22 => 26 | 25 => 28 | 3 => 3 | 4 => 4 | 9 => 9 | 20 => 20 | 0 => 0 | n => n, fun | n => n⟩
theorem Tryz.grow72 : Go.Proofs.Lays8.n4 Tryz.prog Tryz.grow72_ren := {
  mixed := by kernel_rfl
  f4 := ⟨Tryz.f72.name, by decide, Tryz.func72.trans (congrArg some (by kernel_rfl))⟩
  t0 := Tryz.underlying0
  a0 := Tryz.isAgg0
  z0 := Tryz.sizeOf0
  v0 := Tryz.zeroValue0
  t3 := Tryz.underlying3
  a3 := Tryz.isAgg3
  z3 := Tryz.sizeOf3
  v3 := Tryz.zeroValue3
  t4 := Tryz.underlying4
  a4 := Tryz.isAgg4
  z4 := Tryz.sizeOf4
  v4 := Tryz.zeroValue4
  t9 := Tryz.underlying9
  a9 := Tryz.isAgg9
  z9 := Tryz.sizeOf9
  v9 := Tryz.zeroValue9
  t20 := Tryz.underlying20
  a20 := Tryz.isAgg20
  z20 := Tryz.sizeOf20
  v20 := Tryz.zeroValue20
  t22 := Tryz.underlying26
  a22 := Tryz.isAgg26
  z22 := Tryz.sizeOf26
  v22 := Tryz.zeroValue26 }
end Go.Proofs
namespace Go.Proofs.Tryz
open Go Go.Dm Go.Ex
set_option maxRecDepth 100000
variable {gl : Nat → Option Obj}
/-- slices.Concat at []api.Expr. -/
def I_80 : Nat → List V → List V → St → (V → St → Prop) → Prop := growI noI 72 28 10 104 24
theorem I_80_ok : IOk prog gl I_80 := growI_lay (ρ := grow72_ren) grow72 E_ok (key := 24) (ei := tiAt te_0 28) rfl rfl (by kernel_rfl) (fnOk_of (f := 72) (fn := f72) (by kernel_rfl) (by kernel_rfl) (by kernel_rfl))
def E_c80 : Env := { E_0 with inl := [72] }
def st_80a (ls : List (List (List D))) (x : Nat) : St := { tm := [(0, .d (.sl (encL2 ls))), (2, .nil), (3, .d (.v (.int .i64 (tot (ls.take x) : Int)))), (9, .d (.sl (encL2 ls))), (10, .d (.v (.int .i64 ((encL2 ls).length : Int)))), (11, .d (.v (.int .i64 (x : Int))))], hp := [], kn := [], gd := [] }
def st_80b (ls : List (List (List D))) (x : Nat) : St := { tm := [(2, .nil), (6, .own 24), (25, .d (.sl (encL2 ls))), (26, .d (.v (.int .i64 ((encL2 ls).length : Int)))), (27, .d (.v (.int .i64 (x : Int))))], hp := [(24, .lst 28 10 (ls.take x).flatten)], kn := [], gd := [] }
def inv_80 (ls : List (List (List D))) (m : Nat) (x : Nat) : Prop := x ≤ ls.length ∧ m = ls.length - x
def fx_80 (ls : List (List (List D))) : Fi := { fi34 with lx := [(3, { X := Nat, sh := st_80a ls, P := fun _ => inv_80 ls }), (11, { X := Nat, sh := st_80b ls, P := fun _ => inv_80 ls })], cv := [(11, [{ box := none, ix := 6, key := 24, e := 28, sz := 10 }])] }
theorem vc80 (ls : List (List (List D))) (Q : List R → List (List D) → Prop) : vcO E_c80 C_0 I_80 (fx_80 ls) (f34.body.getD .skip) f34.results.toList [.d (.sl (encL2 ls))] Q = (
  ∃ (es : List (List D)), D.sl (encL2 ls) = D.sl es ∧ ∃ (x0 : { X := Nat, sh := st_80a ls, P := fun (x : Nat) => inv_80 ls : LX }.X), ({ tm := [((0 : Nat), V.d (D.sl (encL2 ls))), ((2 : Nat), V.nil), ((3 : Nat), V.d (D.v (Value.int IntKind.i64 (0 : Int)))), ((9 : Nat), V.d (D.sl (encL2 ls))), ((10 : Nat), V.d (D.v (Value.int IntKind.i64 (↑es.length : Int)))), ((11 : Nat), V.d (D.v (Value.int IntKind.i64 (0 : Int))))], hp := [], kn := [], gd := [] : St }
  = { tm := [((0 : Nat), V.d (D.sl (encL2 ls))), ((2 : Nat), V.nil), ((3 : Nat), V.d (D.v (Value.int IntKind.i64 (↑(tot (List.take x0 ls)) : Int)))), ((9 : Nat), V.d (D.sl (encL2 ls))), ((10 : Nat), V.d (D.v (Value.int IntKind.i64 (↑(encL2 ls).length : Int)))), ((11 : Nat), V.d (D.v (Value.int IntKind.i64 (↑x0 : Int))))], hp := [], kn := [], gd := [] : St }
  ∧ ∃ (n : Nat), inv_80 ls n x0) ∧ ∀ (n : Nat) (x : { X := Nat, sh := st_80a ls, P := fun (x : Nat) => inv_80 ls : LX }.X), inv_80 ls n x → (decide
  ((↑x : Int) < (↑(encL2 ls).length : Int)) = true → ∃ (es : List (List D)), D.sl (encL2 ls) = D.sl es ∧ ((0 : Int) ≤ (↑x : Int) ∧ (↑x : Int) <
  (↑es.length : Int)) ∧ ∃ (cells : List D), es[(↑x : Int).toNat]? = some cells ∧ cells.length = (1 : Nat) ∧ ∃ (es : List (List D)), cut ((0 : Nat)) ((1
  : Nat)) cells = some [D.sl es] ∧ ∃ (es_1 : List (List D)), D.sl es = D.sl es_1 ∧ (decide (IntKind.i64.wrap ((↑(tot (List.take x ls)) : Int) +
  (↑es_1.length : Int)) < (0 : Int)) = true → False) ∧ (decide (IntKind.i64.wrap ((↑(tot (List.take x ls)) : Int) + (↑es_1.length : Int)) < (0 : Int))
  = false → ∃ (m : Nat), ∃ (x' : { X := Nat, sh := st_80a ls, P := fun (x : Nat) => inv_80 ls : LX }.X), m < n ∧ { tm := [((0 : Nat), V.d (D.sl (encL2 ls))), ((2 : Nat), V.nil), ((3 : Nat), V.d (D.v (Value.int IntKind.i64 (IntKind.i64.wrap ((↑(tot (List.take x ls)) : Int) + (↑es_1.length : Int)))))), ((9 : Nat), V.d (D.sl (encL2 ls))), ((10 : Nat), V.d (D.v (Value.int IntKind.i64 (↑(encL2 ls).length : Int)))), ((11 : Nat), V.d (D.v (Value.int IntKind.i64 (IntKind.i64.wrap ((↑x : Int) + (1 : Int))))))], hp := [], kn := [], gd := [] : St }
  = { tm := [((0 : Nat), V.d (D.sl (encL2 ls))), ((2 : Nat), V.nil), ((3 : Nat), V.d (D.v (Value.int IntKind.i64 (↑(tot (List.take x' ls)) : Int)))), ((9 : Nat), V.d (D.sl (encL2 ls))), ((10 : Nat), V.d (D.v (Value.int IntKind.i64 (↑(encL2 ls).length : Int)))), ((11 : Nat), V.d (D.v (Value.int IntKind.i64 (↑x' : Int))))], hp := [], kn := [], gd := [] : St }
  ∧ inv_80 ls m x')) ∧ (decide ((↑x : Int) < (↑(encL2 ls).length : Int)) = false → (0 : Int) ≤ (↑(tot (List.take x ls)) : Int) ∧ (↑(tot (List.take x
  ls)) : Int) * (↑((104 : Nat)) : Int) ≤ (140737488355328 : Int) ∧ (↑(tot (List.take x ls)) : Int) ≤ (4611686018427387904 : Int) ∧ ((↑(tot (List.take x
  ls)) : Int) = (0 : Int) → ∃ (es : List (List D)), D.sl (encL2 ls) = D.sl es ∧ ∃ (x0 : { X := Nat, sh := st_80b ls, P := fun (x : Nat) => inv_80 ls : LX }.X),
  ({ tm := [((2 : Nat), V.nil), ((6 : Nat), V.own ((24 : Nat))), ((25 : Nat), V.d (D.sl (encL2 ls))), ((26 : Nat), V.d (D.v (Value.int IntKind.i64 (↑es.length : Int)))), ((27 : Nat), V.d (D.v (Value.int IntKind.i64 (0 : Int))))], hp := [((24 : Nat), B.lst ((28 : Nat)) ((10 : Nat)) [])], kn := [], gd := [] : St }
  = { tm := [((2 : Nat), V.nil), ((6 : Nat), V.own ((24 : Nat))), ((25 : Nat), V.d (D.sl (encL2 ls))), ((26 : Nat), V.d (D.v (Value.int IntKind.i64 (↑(encL2 ls).length : Int)))), ((27 : Nat), V.d (D.v (Value.int IntKind.i64 (↑x0 : Int))))], hp := [((24 : Nat), B.lst ((28 : Nat)) ((10 : Nat)) (List.take x0 ls).flatten)], kn := [], gd := [] : St }
  ∧ ∃ (n : Nat), inv_80 ls n x0) ∧ ∀ (n : Nat) (x : { X := Nat, sh := st_80b ls, P := fun (x : Nat) => inv_80 ls : LX }.X), inv_80 ls n x → (decide
  ((↑x : Int) < (↑(encL2 ls).length : Int)) = true → ∃ (es : List (List D)), D.sl (encL2 ls) = D.sl es ∧ ((0 : Int) ≤ (↑x : Int) ∧ (↑x : Int) <
  (↑es.length : Int)) ∧ ∃ (cells : List D), es[(↑x : Int).toNat]? = some cells ∧ cells.length = (1 : Nat) ∧ ∃ (es : List (List D)), cut ((0 : Nat)) ((1
  : Nat)) cells = some [D.sl es] ∧ ∃ (es_1 : List (List D)), D.sl es = D.sl es_1 ∧ (∀ (c : List D), c ∈ es_1 → c.length = (10 : Nat)) ∧ (28 : Nat) =
  (28 : Nat) ∧ (10 : Nat) = (10 : Nat) ∧ (↑((List.take x ls).flatten.length.add es_1.length) : Int) * (↑((104 : Nat)) : Int) ≤ (140737488355328 : Int)
  ∧ ∃ (m : Nat), ∃ (x' : { X := Nat, sh := st_80b ls, P := fun (x : Nat) => inv_80 ls : LX }.X), m < n ∧ { tm := [((2 : Nat), V.nil), ((6 : Nat), V.own ((24 : Nat))), ((25 : Nat), V.d (D.sl (encL2 ls))), ((26 : Nat), V.d (D.v (Value.int IntKind.i64 (↑(encL2 ls).length : Int)))), ((27 : Nat), V.d (D.v (Value.int IntKind.i64 (IntKind.i64.wrap ((↑x : Int) + (1 : Int))))))], hp := [((24 : Nat), B.lst ((28 : Nat)) ((10 : Nat)) ((List.take x ls).flatten ++ es_1))], kn := [], gd := [] : St }
  = { tm := [((2 : Nat), V.nil), ((6 : Nat), V.own ((24 : Nat))), ((25 : Nat), V.d (D.sl (encL2 ls))), ((26 : Nat), V.d (D.v (Value.int IntKind.i64 (↑(encL2 ls).length : Int)))), ((27 : Nat), V.d (D.v (Value.int IntKind.i64 (↑x' : Int))))], hp := [((24 : Nat), B.lst ((28 : Nat)) ((10 : Nat)) (List.take x' ls).flatten)], kn := [], gd := [] : St }
  ∧ inv_80 ls m x') ∧ (decide ((↑x : Int) < (↑(encL2 ls).length : Int)) = false → Q [R.lst ((28 : Nat)) ((10 : Nat)) (List.take x ls).flatten] [])) ∧
  ((↑(tot (List.take x ls)) : Int) ≠ (0 : Int) → ∃ (es : List (List D)), D.sl (encL2 ls) = D.sl es ∧ ∃ (x0 : { X := Nat, sh := st_80b ls, P := fun (x : Nat) => inv_80 ls : LX }.X),
  ({ tm := [((2 : Nat), V.nil), ((6 : Nat), V.own ((24 : Nat))), ((25 : Nat), V.d (D.sl (encL2 ls))), ((26 : Nat), V.d (D.v (Value.int IntKind.i64 (↑es.length : Int)))), ((27 : Nat), V.d (D.v (Value.int IntKind.i64 (0 : Int))))], hp := [((24 : Nat), B.lst ((28 : Nat)) ((10 : Nat)) [])], kn := [], gd := [] : St }
  = { tm := [((2 : Nat), V.nil), ((6 : Nat), V.own ((24 : Nat))), ((25 : Nat), V.d (D.sl (encL2 ls))), ((26 : Nat), V.d (D.v (Value.int IntKind.i64 (↑(encL2 ls).length : Int)))), ((27 : Nat), V.d (D.v (Value.int IntKind.i64 (↑x0 : Int))))], hp := [((24 : Nat), B.lst ((28 : Nat)) ((10 : Nat)) (List.take x0 ls).flatten)], kn := [], gd := [] : St }
  ∧ ∃ (n : Nat), inv_80 ls n x0) ∧ ∀ (n : Nat) (x : { X := Nat, sh := st_80b ls, P := fun (x : Nat) => inv_80 ls : LX }.X), inv_80 ls n x → (decide
  ((↑x : Int) < (↑(encL2 ls).length : Int)) = true → ∃ (es : List (List D)), D.sl (encL2 ls) = D.sl es ∧ ((0 : Int) ≤ (↑x : Int) ∧ (↑x : Int) <
  (↑es.length : Int)) ∧ ∃ (cells : List D), es[(↑x : Int).toNat]? = some cells ∧ cells.length = (1 : Nat) ∧ ∃ (es : List (List D)), cut ((0 : Nat)) ((1
  : Nat)) cells = some [D.sl es] ∧ ∃ (es_1 : List (List D)), D.sl es = D.sl es_1 ∧ (∀ (c : List D), c ∈ es_1 → c.length = (10 : Nat)) ∧ (28 : Nat) =
  (28 : Nat) ∧ (10 : Nat) = (10 : Nat) ∧ (↑((List.take x ls).flatten.length.add es_1.length) : Int) * (↑((104 : Nat)) : Int) ≤ (140737488355328 : Int)
  ∧ ∃ (m : Nat), ∃ (x' : { X := Nat, sh := st_80b ls, P := fun (x : Nat) => inv_80 ls : LX }.X), m < n ∧ { tm := [((2 : Nat), V.nil), ((6 : Nat), V.own ((24 : Nat))), ((25 : Nat), V.d (D.sl (encL2 ls))), ((26 : Nat), V.d (D.v (Value.int IntKind.i64 (↑(encL2 ls).length : Int)))), ((27 : Nat), V.d (D.v (Value.int IntKind.i64 (IntKind.i64.wrap ((↑x : Int) + (1 : Int))))))], hp := [((24 : Nat), B.lst ((28 : Nat)) ((10 : Nat)) ((List.take x ls).flatten ++ es_1))], kn := [], gd := [] : St }
  = { tm := [((2 : Nat), V.nil), ((6 : Nat), V.own ((24 : Nat))), ((25 : Nat), V.d (D.sl (encL2 ls))), ((26 : Nat), V.d (D.v (Value.int IntKind.i64 (↑(encL2 ls).length : Int)))), ((27 : Nat), V.d (D.v (Value.int IntKind.i64 (↑x' : Int))))], hp := [((24 : Nat), B.lst ((28 : Nat)) ((10 : Nat)) (List.take x' ls).flatten)], kn := [], gd := [] : St }
  ∧ inv_80 ls m x') ∧ (decide ((↑x : Int) < (↑(encL2 ls).length : Int)) = false → Q [R.lst ((28 : Nat)) ((10 : Nat)) (List.take x ls).flatten] [])))) := by kernel_rfl
theorem ct80 (ls : List (List (List D))) (hl : ls.length ≤ 1353245080300) (hz : ∀ l ∈ ls, ∀ c ∈ l, c.length = 10) (ht : tot ls * 104 ≤ 140737488355328) (ht2 : tot ls ≤ 140737488355328) : Ct prog gl 34 [.d (.sl (encL2 ls))] (gives [.lst 28 10 ls.flatten]) := by
  refine ct_of_vcO (E := E_c80) ⟨E_ok.te⟩ C_0_ok I_80_ok (fun _ _ _ h => h.elim) mixed (fn := f34) (body := f34.body.getD .skip) (by kernel_rfl) (by kernel_rfl) (by kernel_rfl) (fi := fx_80 ls) (by kernel_rfl) (by kernel_rfl) ⟨_, _, rfl, rfl⟩ ?_
  rw [vc80]
  refine ⟨encL2 ls, rfl, (0 : Nat), ⟨rfl, ls.length, Nat.zero_le _, rfl⟩, fun m (x : Nat) hx => ⟨fun hi => ?_, fun hi => ?_⟩⟩
  · obtain ⟨hx1, hx2⟩ := hx
    have hi : x < ls.length := by simpa [encL2] using hi
    have hs := tot_next hi
    have hle := tot_le ls (x + 1)
    have hle2 := tot_le ls x
    have hw : IntKind.i64.wrap ((tot (ls.take x) : Int) + (ls[x].length : Int)) = ((tot (ls.take (x + 1)) : Nat) : Int) := by
      rw [hs, wrap64_of (by omega) (by omega)]; omega
    refine ⟨encL2 ls, rfl, ⟨by omega, by rw [encL2_len]; omega⟩, [.sl ls[x]], by simpa using encL2_get hi, rfl, ls[x], rfl, ls[x], rfl, fun h => ?_, fun _ => ⟨ls.length - (x + 1), x + 1, by omega, ?_, by omega, rfl⟩⟩
    · rw [hw] at h
      have := of_decide_eq_true h
      omega
    · rw [hw, wrap64_of (n := (x : Int) + 1) (by omega) (by omega)]
      rfl
  · obtain ⟨hx1, hx2⟩ := hx
    have hi : ¬ x < ls.length := by simpa [encL2] using hi
    have hxe : ls.take x = ls := List.take_of_length_le (by omega)
    rw [hxe]
    refine ⟨Int.natCast_nonneg _, by rw [← Int.natCast_mul]; omega, by omega, fun _ => ?_, fun _ => ?_⟩
    all_goals
      refine ⟨encL2 ls, rfl, (0 : Nat), ⟨rfl, ls.length, Nat.zero_le _, rfl⟩, fun m (y : Nat) hy => ⟨fun hj => ?_, fun hj => ?_⟩⟩
      · obtain ⟨hy1, hy2⟩ := hy
        have hj : y < ls.length := by simpa [encL2] using hj
        have hs := tot_next hj
        have hle := tot_le ls (y + 1)
        refine ⟨encL2 ls, rfl, ⟨by omega, by rw [encL2_len]; omega⟩, [.sl ls[y]], by simpa using encL2_get hj, rfl, ls[y], rfl, ls[y], rfl, hz _ (List.getElem_mem hj), rfl, rfl, ?_, ls.length - (y + 1), y + 1, by omega, ?_, by omega, rfl⟩
        · have : (Nat.add (ls.take y).flatten.length ls[y].length) = tot (ls.take (y + 1)) := by rw [hs, flat_len]; rfl
          rw [this, ← Int.natCast_mul]
          have := Nat.mul_le_mul_right 104 hle
          omega
        · rw [wrap64_of (n := (y : Int) + 1) (by omega) (by omega), flat_next hj]
          rfl
      · have hj : ¬ y < ls.length := by simpa [encL2] using hj
        rw [List.take_of_length_le (by omega)]
        exact ⟨rfl, rfl⟩
def c_80 (a : List R) (K : List R → List (List D) → Prop) : Prop := match a with
  | [.d (.sl x)] => ∃ ls : List (List (List D)), x = encL2 ls ∧ okTot ls 104 ∧ (∀ l ∈ ls, ∀ c ∈ l, c.length = 10) ∧ K [.lst 28 10 ls.flatten] []
  | _ => False
theorem c_80_ok (a : List R) (K : List R → List (List D) → Prop) (h : c_80 a K) : Ct prog gl 34 a K := by
  unfold c_80 at h
  split at h
  · obtain ⟨ls, rfl, h1, h2, h5⟩ := h
    exact (ct80 ls h1.1 h2 h1.2.1 h1.2.2).gives h5
  · exact h.elim

end Go.Proofs.Tryz
/- Conditions as data: their parts, several as one, what a scan can do itself. -/
namespace Go.Ex
open Go Go.Dm
mutual
/-- The parts of a condition. -/
def partsE : EX → List EX
  | .mk op sub t v args => if op = 10 ∧ args.length = 2 then partsL args else [.mk op sub t v args]
def partsL : List EX → List EX
  | [] => []
  | e :: r => partsE e ++ partsL r
end
mutual
theorem partsE_len : ∀ e : EX, (partsE e).length ≤ size e
  | .mk op sub t v args => by
    simp only [partsE, size]
    split
    · have := partsL_len args; omega
    · simp
theorem partsL_len : ∀ l : List EX, (partsL l).length ≤ sizeL l
  | [] => by simp [partsL, sizeL]
  | e :: r => by
    simp only [partsL, sizeL, List.length_append]
    have := partsE_len e; have := partsL_len r; omega
end
mutual
theorem partsE_fits : ∀ e : EX, fits e → fitsL (partsE e)
  | .mk op sub t v args, h => by
    simp only [partsE]
    split
    · exact partsL_fits args (by simp only [fits] at h; exact h.2.2)
    · simp only [fitsL]; exact ⟨h, trivial⟩
theorem partsL_fits : ∀ l : List EX, fitsL l → fitsL (partsL l)
  | [], h => by simp only [partsL, fitsL]
  | e :: r, h => by
    simp only [fitsL] at h
    simp only [partsL]
    exact fitsL_append (partsE_fits e h.1) (partsL_fits r h.2)
theorem fitsL_append : ∀ {a b : List EX}, fitsL a → fitsL b → fitsL (a ++ b)
  | [], b, _, h => h
  | x :: a, b, h1, h2 => by
    simp only [fitsL, List.cons_append] at h1 ⊢
    exact ⟨h1.1, fitsL_append h1.2 h2⟩
end
/-- Two as one. -/
def andE (a b : EX) : EX := .mk 10 0 ⟨0, 0⟩ ⟨⟨0, 0⟩, false, 0, { data := { toList := [] : Array UInt8 } : ByteArray }⟩ [a, b]
def zeroE : EX := .mk 0 0 ⟨0, 0⟩ ⟨⟨0, 0⟩, false, 0, { data := { toList := [] : Array UInt8 } : ByteArray }⟩ []
/-- Several as one. -/
def bothE : List EX → EX
  | [] => zeroE
  | e :: r => r.foldl andE e
theorem bothE_snoc {l : List EX} {e : EX} (h : l ≠ []) : bothE (l ++ [e]) = andE (bothE l) e := by
  cases l with
  | nil => exact absurd rfl h
  | cons a r => simp [bothE, List.foldl_append]
theorem size_both : ∀ (l : List EX), size (bothE l) ≤ sizeL l + l.length + 1
  | [] => by simp only [bothE, zeroE, size, sizeL, List.length_nil]; omega
  | e :: r => by
    have key : ∀ (r : List EX) (a : EX), size (r.foldl andE a) ≤ size a + sizeL r + r.length := by
      intro r
      induction r with
      | nil => intro a; simp only [List.foldl_nil, sizeL, List.length_nil]; omega
      | cons b r ih =>
        intro a
        simp only [List.foldl_cons, sizeL, List.length_cons]
        have := ih (andE a b)
        have h2 : size (andE a b) = size a + size b + 1 := by simp only [andE, size, sizeL]; omega
        omega
    have := key r e
    simp only [bothE, sizeL, List.length_cons]; omega
end Go.Ex
namespace Go.Proofs.Tryz
open Go Go.Dm Go.Ex
set_option maxRecDepth 100000
variable {gl : Nat → Option Obj}
def c_34 (n : Nat) (a : List R) (K : List R → List (List D) → Prop) : Prop := match a with
  | [.agg x] => ∃ e : EX, x = cells e ∧ size e < n ∧ fits e ∧ size e ≤ 1000000000 ∧ K [.lst 28 10 (cellsL (partsE e))] []
  | _ => False
def C_f34 (n : Nat) : CallT := addC (addC C_0 34 c_80) 18 (c_34 n)
theorem vc34 (n : Nat) (op sub : Int) (t : Ty) (v : Go.Ex.AV) (args : List EX) (Q : List R → List (List D) → Prop) : vcO E_0 (C_f34 n) noI fi18 (f18.body.getD .skip) f18.results.toList [.agg (encX op sub t v (cellsL args))] Q = (
  ∃ (es : List (List D)), D.sl (cellsL args) = D.sl es ∧ ((bif op == (10 : Int) then (↑es.length : Int) == (2 : Int) else false) = true → ∃ (es : List
  (List D)), D.sl (cellsL args) = D.sl es ∧ ((0 : Int) ≤ (0 : Int) ∧ (0 : Int) < (↑es.length : Int)) ∧ ∃ (cells : List D), es[Int.toNat (0 : Int)]? =
  some cells ∧ cells.length = (10 : Nat) ∧ ∃ (n_1 : Int), ∃ (n_2 : Int), ∃ (n_3 : Int), ∃ (n_4 : Int), ∃ (n_5 : Int), ∃ (n_6 : Int), ∃ (b : Bool), ∃
  (n_7 : Int), ∃ (b_1 : ByteArray), ∃ (es : List (List D)), cut ((0 : Nat)) ((10 : Nat)) cells = some [D.v (Value.int IntKind.i64 n_1), D.v (Value.int
  IntKind.i64 n_2), D.v (Value.int IntKind.i64 n_3), D.v (Value.int IntKind.i64 n_4), D.v (Value.int IntKind.i64 n_5), D.v (Value.int IntKind.i64 n_6),
  D.v (Value.bool b), D.v (Value.int IntKind.i64 n_7), D.v (Value.string b_1), D.sl es] ∧ ∃ (es_1 : List (List D)), D.sl (cellsL args) = D.sl es_1 ∧
  ((0 : Int) ≤ (1 : Int) ∧ (1 : Int) < (↑es_1.length : Int)) ∧ ∃ (cells : List D), es_1[Int.toNat (1 : Int)]? = some cells ∧ cells.length = (10 : Nat)
  ∧ ∃ (n_8 : Int), ∃ (n_9 : Int), ∃ (n_10 : Int), ∃ (n_11 : Int), ∃ (n_12 : Int), ∃ (n_13 : Int), ∃ (b_2 : Bool), ∃ (n_14 : Int), ∃ (b_3 : ByteArray),
  ∃ (es_2 : List (List D)), cut ((0 : Nat)) ((10 : Nat)) cells = some [D.v (Value.int IntKind.i64 n_8), D.v (Value.int IntKind.i64 n_9), D.v (Value.int
  IntKind.i64 n_10), D.v (Value.int IntKind.i64 n_11), D.v (Value.int IntKind.i64 n_12), D.v (Value.int IntKind.i64 n_13), D.v (Value.bool b_2), D.v
  (Value.int IntKind.i64 n_14), D.v (Value.string b_3), D.sl es_2] ∧ ∃ (e : EX), [D.v (Value.int IntKind.i64 n_1), D.v (Value.int IntKind.i64 n_2), D.v
  (Value.int IntKind.i64 n_3), D.v (Value.int IntKind.i64 n_4), D.v (Value.int IntKind.i64 n_5), D.v (Value.int IntKind.i64 n_6), D.v (Value.bool b),
  D.v (Value.int IntKind.i64 n_7), D.v (Value.string b_1), D.sl es] = Ex.cells e ∧ size e < n ∧ fits e ∧ size e ≤ (1000000000 : Nat) ∧ ∃ (e_1 : EX),
  [D.v (Value.int IntKind.i64 n_8), D.v (Value.int IntKind.i64 n_9), D.v (Value.int IntKind.i64 n_10), D.v (Value.int IntKind.i64 n_11), D.v (Value.int
  IntKind.i64 n_12), D.v (Value.int IntKind.i64 n_13), D.v (Value.bool b_2), D.v (Value.int IntKind.i64 n_14), D.v (Value.string b_3), D.sl es_2] =
  Ex.cells e_1 ∧ size e_1 < n ∧ fits e_1 ∧ size e_1 ≤ (1000000000 : Nat) ∧ ∃ (ls : List (List (List D))), [[D.sl (cellsL (partsE e))], [D.sl (cellsL
  (partsE e_1))]] = encL2 ls ∧ okTot ls ((104 : Nat)) ∧ (∀ (l : List (List D)), l ∈ ls → ∀ (c : List D), c ∈ l → c.length = (10 : Nat)) ∧ Q [R.lst ((28
  : Nat)) ((10 : Nat)) ls.flatten] []) ∧ ((bif op == (10 : Int) then (↑es.length : Int) == (2 : Int) else false) = false → Q [R.lst ((28 : Nat)) ((10 :
  Nat)) [[D.v (Value.int IntKind.i64 op), D.v (Value.int IntKind.i64 sub), D.v (Value.int IntKind.i64 t.1), D.v (Value.int IntKind.i64 t.2), D.v
  (Value.int IntKind.i64 v.1.1), D.v (Value.int IntKind.i64 v.1.2), D.v (Value.bool v.2), D.v (Value.int IntKind.i64 v.3), D.v (Value.string v.4), D.sl
  (cellsL args)]]] [])) := by kernel_rfl
def C_f35 (n : Nat) : CallT := addC C_0 19 (c_34 n)
theorem vc35 (n : Nat) (op sub : Int) (t : Ty) (v : Go.Ex.AV) (args : List EX) (Q : List R → List (List D) → Prop) : vcO E_0 (C_f35 n) noI fi19 (f19.body.getD .skip) f19.results.toList [.agg (encX op sub t v (cellsL args))] Q = (
  ∃ (es : List (List D)), D.sl (cellsL args) = D.sl es ∧ ((bif op != (10 : Int) then true else (↑es.length : Int) != (2 : Int)) = true → Q [R.lst ((28 :
  Nat)) ((10 : Nat)) [[D.v (Value.int IntKind.i64 op), D.v (Value.int IntKind.i64 sub), D.v (Value.int IntKind.i64 t.1), D.v (Value.int IntKind.i64
  t.2), D.v (Value.int IntKind.i64 v.1.1), D.v (Value.int IntKind.i64 v.1.2), D.v (Value.bool v.2), D.v (Value.int IntKind.i64 v.3), D.v (Value.string
  v.4), D.sl (cellsL args)]]] []) ∧ ((bif op != (10 : Int) then true else (↑es.length : Int) != (2 : Int)) = false → ∃ (es : List (List D)), D.sl
  (cellsL args) = D.sl es ∧ ((0 : Int) ≤ (0 : Int) ∧ (0 : Int) < (↑es.length : Int)) ∧ ∃ (cells : List D), es[Int.toNat (0 : Int)]? = some cells ∧
  cells.length = (10 : Nat) ∧ ∃ (n_1 : Int), ∃ (n_2 : Int), ∃ (n_3 : Int), ∃ (n_4 : Int), ∃ (n_5 : Int), ∃ (n_6 : Int), ∃ (b : Bool), ∃ (n_7 : Int), ∃
  (b_1 : ByteArray), ∃ (es : List (List D)), cut ((0 : Nat)) ((10 : Nat)) cells = some [D.v (Value.int IntKind.i64 n_1), D.v (Value.int IntKind.i64
  n_2), D.v (Value.int IntKind.i64 n_3), D.v (Value.int IntKind.i64 n_4), D.v (Value.int IntKind.i64 n_5), D.v (Value.int IntKind.i64 n_6), D.v
  (Value.bool b), D.v (Value.int IntKind.i64 n_7), D.v (Value.string b_1), D.sl es] ∧ ∃ (es_1 : List (List D)), D.sl (cellsL args) = D.sl es_1 ∧ ((0 :
  Int) ≤ (1 : Int) ∧ (1 : Int) < (↑es_1.length : Int)) ∧ ∃ (cells : List D), es_1[Int.toNat (1 : Int)]? = some cells ∧ cells.length = (10 : Nat) ∧ ∃
  (n_8 : Int), ∃ (n_9 : Int), ∃ (n_10 : Int), ∃ (n_11 : Int), ∃ (n_12 : Int), ∃ (n_13 : Int), ∃ (b_2 : Bool), ∃ (n_14 : Int), ∃ (b_3 : ByteArray), ∃
  (es_2 : List (List D)), cut ((0 : Nat)) ((10 : Nat)) cells = some [D.v (Value.int IntKind.i64 n_8), D.v (Value.int IntKind.i64 n_9), D.v (Value.int
  IntKind.i64 n_10), D.v (Value.int IntKind.i64 n_11), D.v (Value.int IntKind.i64 n_12), D.v (Value.int IntKind.i64 n_13), D.v (Value.bool b_2), D.v
  (Value.int IntKind.i64 n_14), D.v (Value.string b_3), D.sl es_2] ∧ ∃ (e : EX), [D.v (Value.int IntKind.i64 n_1), D.v (Value.int IntKind.i64 n_2), D.v
  (Value.int IntKind.i64 n_3), D.v (Value.int IntKind.i64 n_4), D.v (Value.int IntKind.i64 n_5), D.v (Value.int IntKind.i64 n_6), D.v (Value.bool b),
  D.v (Value.int IntKind.i64 n_7), D.v (Value.string b_1), D.sl es] = Ex.cells e ∧ size e < n ∧ fits e ∧ size e ≤ (1000000000 : Nat) ∧ ∃ (e_1 : EX),
  [D.v (Value.int IntKind.i64 n_8), D.v (Value.int IntKind.i64 n_9), D.v (Value.int IntKind.i64 n_10), D.v (Value.int IntKind.i64 n_11), D.v (Value.int
  IntKind.i64 n_12), D.v (Value.int IntKind.i64 n_13), D.v (Value.bool b_2), D.v (Value.int IntKind.i64 n_14), D.v (Value.string b_3), D.sl es_2] =
  Ex.cells e_1 ∧ size e_1 < n ∧ fits e_1 ∧ size e_1 ≤ (1000000000 : Nat) ∧ (∀ (c : List D), c ∈ cellsL (partsE e_1) → c.length = (10 : Nat)) ∧ (28 :
  Nat) = (28 : Nat) ∧ (10 : Nat) = (10 : Nat) ∧ (↑((cellsL (partsE e)).length.add (cellsL (partsE e_1)).length) : Int) * (↑((104 : Nat)) : Int) ≤
  (140737488355328 : Int) ∧ Q [R.lst ((28 : Nat)) ((10 : Nat)) (cellsL (partsE e) ++ cellsL (partsE e_1))] [])) := by kernel_rfl
theorem two_iff {op : Int} {n : Nat} : (bif op == 10 then (n : Int) == 2 else false) = true ↔ op = 10 ∧ n = 2 := by
  by_cases h : op = 10
  · subst h; simp; omega
  · simp [h]
theorem two_iff' {op : Int} {n : Nat} : (bif op != 10 then true else (n : Int) != 2) = false ↔ op = 10 ∧ n = 2 := by
  by_cases h : op = 10
  · subst h; simp; omega
  · simp [h]
theorem parts_and {sub : Int} {t : Ty} {v : Go.Ex.AV} {a b : EX} : partsE (.mk 10 sub t v [a, b]) = partsE a ++ partsE b := by
  simp [partsE, partsL]
theorem parts_one {op sub : Int} {t : Ty} {v : Go.Ex.AV} {args : List EX} (h : ¬ (op = 10 ∧ args.length = 2)) : partsE (.mk op sub t v args) = [.mk op sub t v args] := by
  simp only [partsE, if_neg h]
theorem ct34 : ∀ (n : Nat) (e : EX), size e < n → fits e → size e ≤ 1000000000 → Ct prog gl 18 [.agg (cells e)] (gives [.lst 28 10 (cellsL (partsE e))])
  | 0, _, h, _, _ => absurd h (Nat.not_lt_zero _)
  | n + 1, .mk op sub t v args, hs, hf, hb => by
    have hC : CallsOk prog gl (C_f34 n) := addC_ok (addC_ok C_0_ok c_80_ok) (fun a K hk => by
      unfold c_34 at hk
      split at hk
      · obtain ⟨e, rfl, h1, h2, h3, h4⟩ := hk
        exact (ct34 n e h1 h2 h3).gives h4
      · exact hk.elim)
    rw [cells_mk]
    refine ct_of_vcO E_ok hC ioK_no it_ok mixed (fn := f18) (body := f18.body.getD .skip) (by kernel_rfl) (by kernel_rfl) (by kernel_rfl) (fi := fi18) (by kernel_rfl) (by kernel_rfl) ⟨_, _, rfl, rfl⟩ ?_
    rw [vc34]
    obtain ⟨_, hl, hfl⟩ := fits_mk hf
    simp only [size] at hs hb
    refine ⟨cellsL args, rfl, fun h => ?_, fun h => ?_⟩
    · rw [cellsL_len] at h
      obtain ⟨rfl, ha⟩ := two_iff.1 h
      obtain ⟨a, b, rfl⟩ : ∃ a b, args = [a, b] := by
        match args, ha with
        | [a, b], _ => exact ⟨a, b, rfl⟩
      obtain ⟨op1, sub1, t1, v1, a1, e1, g1⟩ := arg_get (l := [a, b]) (i := 0) (by simp)
      obtain ⟨op2, sub2, t2, v2, a2, e2, g2⟩ := arg_get (l := [a, b]) (i := 1) (by simp)
      have e1 : a = .mk op1 sub1 t1 v1 a1 := e1
      have e2 : b = .mk op2 sub2 t2 v2 a2 := e2
      simp only [fitsL] at hfl
      simp only [sizeL] at hs hb
      have l1 := partsE_len a
      have l2 := partsE_len b
      refine ⟨cellsL [a, b], rfl, by simp [cellsL], _, g1, rfl, op1, sub1, t1.k, t1.sc, v1.t.k, v1.t.sc, v1.nul, v1.n, v1.s, cellsL a1, rfl, cellsL [a, b], rfl, by simp [cellsL], _, g2, rfl, op2, sub2, t2.k, t2.sc, v2.t.k, v2.t.sc, v2.nul, v2.n, v2.s, cellsL a2, rfl, a, by rw [e1, cells_mk]; rfl, by omega, hfl.1, by omega, b, by rw [e2, cells_mk]; rfl, by omega, hfl.2.1, by omega,
        [cellsL (partsE a), cellsL (partsE b)], rfl, ?_, ?_, ?_⟩
      · unfold okTot tot
        simp only [List.map_cons, List.map_nil, List.sum_cons, List.sum_nil, cellsL_len, List.length_cons, List.length_nil]
        omega
      · intro l hl c hc
        rcases List.mem_cons.1 hl with rfl | hl
        · exact cellsL_all c hc
        · rcases List.mem_cons.1 hl with rfl | hl
          · exact cellsL_all c hc
          · cases hl
      · rw [parts_and, cellsL_append]
        simp only [List.flatten_cons, List.flatten_nil, List.append_nil]
        exact ⟨rfl, rfl⟩
    · rw [cellsL_len] at h
      have h : ¬ (op = 10 ∧ args.length = 2) := fun hh => by rw [two_iff.2 hh] at h; cases h
      rw [parts_one h]
      simp only [cellsL, cells_mk]
      exact ⟨rfl, rfl⟩
theorem ct35 : ∀ (n : Nat) (e : EX), size e < n → fits e → size e ≤ 1000000000 → Ct prog gl 19 [.agg (cells e)] (gives [.lst 28 10 (cellsL (partsE e))])
  | 0, _, h, _, _ => absurd h (Nat.not_lt_zero _)
  | n + 1, .mk op sub t v args, hs, hf, hb => by
    have hC : CallsOk prog gl (C_f35 n) := addC_ok C_0_ok (fun a K hk => by
      unfold c_34 at hk
      split at hk
      · obtain ⟨e, rfl, h1, h2, h3, h4⟩ := hk
        exact (ct35 n e h1 h2 h3).gives h4
      · exact hk.elim)
    rw [cells_mk]
    refine ct_of_vcO E_ok hC ioK_no it_ok mixed (fn := f19) (body := f19.body.getD .skip) (by kernel_rfl) (by kernel_rfl) (by kernel_rfl) (fi := fi19) (by kernel_rfl) (by kernel_rfl) ⟨_, _, rfl, rfl⟩ ?_
    rw [vc35]
    obtain ⟨_, hl, hfl⟩ := fits_mk hf
    simp only [size] at hs hb
    refine ⟨cellsL args, rfl, fun h => ?_, fun h => ?_⟩
    · rw [cellsL_len] at h
      have h : ¬ (op = 10 ∧ args.length = 2) := fun hh => by rw [two_iff'.2 hh] at h; cases h
      rw [parts_one h]
      simp only [cellsL, cells_mk]
      exact ⟨rfl, rfl⟩
    · rw [cellsL_len] at h
      obtain ⟨rfl, ha⟩ := two_iff'.1 h
      obtain ⟨a, b, rfl⟩ : ∃ a b, args = [a, b] := by
        match args, ha with
        | [a, b], _ => exact ⟨a, b, rfl⟩
      obtain ⟨op1, sub1, t1, v1, a1, e1, g1⟩ := arg_get (l := [a, b]) (i := 0) (by simp)
      obtain ⟨op2, sub2, t2, v2, a2, e2, g2⟩ := arg_get (l := [a, b]) (i := 1) (by simp)
      have e1 : a = .mk op1 sub1 t1 v1 a1 := e1
      have e2 : b = .mk op2 sub2 t2 v2 a2 := e2
      simp only [fitsL] at hfl
      simp only [sizeL] at hs hb
      have l1 := partsE_len a
      have l2 := partsE_len b
      refine ⟨cellsL [a, b], rfl, by simp [cellsL], _, g1, rfl, op1, sub1, t1.k, t1.sc, v1.t.k, v1.t.sc, v1.nul, v1.n, v1.s, cellsL a1, rfl, cellsL [a, b], rfl, by simp [cellsL], _, g2, rfl, op2, sub2, t2.k, t2.sc, v2.t.k, v2.t.sc, v2.nul, v2.n, v2.s, cellsL a2, rfl, a, by rw [e1, cells_mk]; rfl, by omega, hfl.1, by omega, b, by rw [e2, cells_mk]; rfl, by omega, hfl.2.1, by omega,
        cellsL_all, rfl, rfl, ?_, ?_⟩
      · have : Nat.add (cellsL (partsE a)).length (cellsL (partsE b)).length = (partsE a).length + (partsE b).length := by rw [cellsL_len, cellsL_len]; rfl
        rw [this]; omega
      · rw [parts_and, cellsL_append]
        exact ⟨rfl, rfl⟩
end Go.Proofs.Tryz
namespace Go.Proofs.Tryz
open Go Go.Dm Go.Ex
set_option maxRecDepth 100000
variable {gl : Nat → Option Obj}
theorem cells_proj (e : EX) : cells e = [.v (.int .i64 e.op), .v (.int .i64 e.sub), .v (.int .i64 e.ty.k), .v (.int .i64 e.ty.sc), .v (.int .i64 e.v.t.k), .v (.int .i64 e.v.t.sc), .v (.bool e.v.nul), .v (.int .i64 e.v.n), .v (.string e.v.s), .sl (cellsL e.args)] := by
  cases e; rw [cells_mk]; rfl
theorem and_args (a : EX) (op sub : Int) (t : Ty) (v : Go.Ex.AV) (args : List EX) : cellsL (andE a (.mk op sub t v args)).args = [cells a, encX op sub t v (cellsL args)] := by
  simp only [andE, EX.args, cellsL, cells_mk]
def encB (e : EX) : B := .box [.d (.v (.int .i64 e.op)), .d (.v (.int .i64 e.sub)), .d (.v (.int .i64 e.ty.k)), .d (.v (.int .i64 e.ty.sc)), .d (.v (.int .i64 e.v.t.k)), .d (.v (.int .i64 e.v.t.sc)), .d (.v (.bool e.v.nul)), .d (.v (.int .i64 e.v.n)), .d (.v (.string e.v.s)), .d (.sl (cellsL e.args))]
def encB0 : B := .box [.d (.v (.int .i64 0)), .d (.v (.int .i64 0)), .d (.v (.int .i64 0)), .d (.v (.int .i64 0)), .d (.v (.int .i64 0)), .d (.v (.int .i64 0)), .d (.v (.bool false)), .d (.v (.int .i64 0)), .d (.v (.string { data := { toList := [] : Array UInt8 } : ByteArray })), .nil]
def st_29 (l : List EX) (x : Nat) : St := { tm := [(0, .d (.sl (cellsL l))), (2, .ref 2 0), (3, .d (.v (.bool false))), (4, .ref 4 0), (7, .d (.sl (cellsL l))), (8, .d (.v (.int .i64 ((cellsL l).length : Int)))), (9, .d (.v (.int .i64 (x : Int))))], hp := [(2, encB0), (4, encB (bothE (l.take x)))], kn := [], gd := [] }
def inv_29 (l : List EX) (m : Nat) (x : Nat) : Prop := x ≤ l.length ∧ m = l.length - x
def fx_29 (l : List EX) : Fi := { fi13 with lp := [(3, ([0, 2, 3, 4, 7, 8, 9], [6]))], lx := [(3, { X := Nat, sh := st_29 l, P := fun _ => inv_29 l })], cv := [(3, [{ box := some 4, ix := 9, key := 200, e := 28, sz := 10 }, { box := none, ix := 0, key := 200, e := 0, sz := 0 }, { box := none, ix := 0, key := 18, e := 0, sz := 0 }])] }
theorem vc29 (l : List EX) (Q : List R → List (List D) → Prop) : vc E_0 C_0 noI (fx_29 l) (f13.body.getD .skip) f13.results.toList [.d (.sl (cellsL l))] Q = (
  ∃ (es : List (List D)), D.sl (cellsL l) = D.sl es ∧ ∃ (x0 : { X := Nat, sh := st_29 l, P := fun (x : Nat) => inv_29 l : LX }.X), ({ tm := [((0 : Nat), V.d (D.sl (cellsL l))), ((2 : Nat), V.ref ((2 : Nat)) ((0 : Nat))), ((3 : Nat), V.d (D.v (Value.bool false))), ((4 : Nat), V.ref ((4 : Nat)) ((0 : Nat))), ((7 : Nat), V.d (D.sl (cellsL l))), ((8 : Nat), V.d (D.v (Value.int IntKind.i64 (↑es.length : Int)))), ((9 : Nat), V.d (D.v (Value.int IntKind.i64 (0 : Int))))], hp := [((2 : Nat), B.box [V.d (D.v (Value.int IntKind.i64 (0 : Int))), V.d (D.v (Value.int IntKind.i64 (0 : Int))), V.d (D.v (Value.int IntKind.i64 (0 : Int))), V.d (D.v (Value.int IntKind.i64 (0 : Int))), V.d (D.v (Value.int IntKind.i64 (0 : Int))), V.d (D.v (Value.int IntKind.i64 (0 : Int))), V.d (D.v (Value.bool false)), V.d (D.v (Value.int IntKind.i64 (0 : Int))), V.d (D.v (Value.string { data := { toList := [] : Array UInt8 } : ByteArray })), V.nil]), ((4 : Nat), B.box [V.d (D.v (Value.int IntKind.i64 (0 : Int))), V.d (D.v (Value.int IntKind.i64 (0 : Int))), V.d (D.v (Value.int IntKind.i64 (0 : Int))), V.d (D.v (Value.int IntKind.i64 (0 : Int))), V.d (D.v (Value.int IntKind.i64 (0 : Int))), V.d (D.v (Value.int IntKind.i64 (0 : Int))), V.d (D.v (Value.bool false)), V.d (D.v (Value.int IntKind.i64 (0 : Int))), V.d (D.v (Value.string { data := { toList := [] : Array UInt8 } : ByteArray })), V.d (D.sl [])])], kn := [], gd := [] : St }
  = { tm := [((0 : Nat), V.d (D.sl (cellsL l))), ((2 : Nat), V.ref ((2 : Nat)) ((0 : Nat))), ((3 : Nat), V.d (D.v (Value.bool false))), ((4 : Nat), V.ref ((4 : Nat)) ((0 : Nat))), ((7 : Nat), V.d (D.sl (cellsL l))), ((8 : Nat), V.d (D.v (Value.int IntKind.i64 (↑(cellsL l).length : Int)))), ((9 : Nat), V.d (D.v (Value.int IntKind.i64 (↑x0 : Int))))], hp := [((2 : Nat), B.box [V.d (D.v (Value.int IntKind.i64 (0 : Int))), V.d (D.v (Value.int IntKind.i64 (0 : Int))), V.d (D.v (Value.int IntKind.i64 (0 : Int))), V.d (D.v (Value.int IntKind.i64 (0 : Int))), V.d (D.v (Value.int IntKind.i64 (0 : Int))), V.d (D.v (Value.int IntKind.i64 (0 : Int))), V.d (D.v (Value.bool false)), V.d (D.v (Value.int IntKind.i64 (0 : Int))), V.d (D.v (Value.string { data := { toList := [] : Array UInt8 } : ByteArray })), V.nil]), ((4 : Nat), B.box [V.d (D.v (Value.int IntKind.i64 (bothE (List.take x0 l)).op)), V.d (D.v (Value.int IntKind.i64 (bothE (List.take x0 l)).sub)), V.d (D.v (Value.int IntKind.i64 (bothE (List.take x0 l)).ty.1)), V.d (D.v (Value.int IntKind.i64 (bothE (List.take x0 l)).ty.2)), V.d (D.v (Value.int IntKind.i64 (bothE (List.take x0 l)).v.1.1)), V.d (D.v (Value.int IntKind.i64 (bothE (List.take x0 l)).v.1.2)), V.d (D.v (Value.bool (bothE (List.take x0 l)).v.2)), V.d (D.v (Value.int IntKind.i64 (bothE (List.take x0 l)).v.3)), V.d (D.v (Value.string (bothE (List.take x0 l)).v.4)), V.d (D.sl (cellsL (bothE (List.take x0 l)).args))])], kn := [], gd := [] : St }
  ∧ ∃ (n : Nat), inv_29 l n x0) ∧ ∀ (n : Nat) (x : { X := Nat, sh := st_29 l, P := fun (x : Nat) => inv_29 l : LX }.X), inv_29 l n x → (decide ((↑x :
  Int) < (↑(cellsL l).length : Int)) = true → ∃ (es : List (List D)), D.sl (cellsL l) = D.sl es ∧ ((0 : Int) ≤ (↑x : Int) ∧ (↑x : Int) < (↑es.length :
  Int)) ∧ ∃ (cells : List D), es[(↑x : Int).toNat]? = some cells ∧ cells.length = (10 : Nat) ∧ ∃ (n_1 : Int), ∃ (n_2 : Int), ∃ (n_3 : Int), ∃ (n_4 :
  Int), ∃ (n_5 : Int), ∃ (n_6 : Int), ∃ (b : Bool), ∃ (n_7 : Int), ∃ (b_1 : ByteArray), ∃ (es : List (List D)), cut ((0 : Nat)) ((10 : Nat)) cells =
  some [D.v (Value.int IntKind.i64 n_1), D.v (Value.int IntKind.i64 n_2), D.v (Value.int IntKind.i64 n_3), D.v (Value.int IntKind.i64 n_4), D.v
  (Value.int IntKind.i64 n_5), D.v (Value.int IntKind.i64 n_6), D.v (Value.bool b), D.v (Value.int IntKind.i64 n_7), D.v (Value.string b_1), D.sl es] ∧
  (decide ((↑x : Int) > (0 : Int)) = true → ∃ (m : Nat), ∃ (x' : { X := Nat, sh := st_29 l, P := fun (x : Nat) => inv_29 l : LX }.X), m < n ∧ { tm := [((0 : Nat), V.d (D.sl (cellsL l))), ((2 : Nat), V.ref ((2 : Nat)) ((0 : Nat))), ((3 : Nat), V.d (D.v (Value.bool false))), ((4 : Nat), V.ref ((4 : Nat)) ((0 : Nat))), ((7 : Nat), V.d (D.sl (cellsL l))), ((8 : Nat), V.d (D.v (Value.int IntKind.i64 (↑(cellsL l).length : Int)))), ((9 : Nat), V.d (D.v (Value.int IntKind.i64 (IntKind.i64.wrap ((↑x : Int) + (1 : Int))))))], hp := [((2 : Nat), B.box [V.d (D.v (Value.int IntKind.i64 (0 : Int))), V.d (D.v (Value.int IntKind.i64 (0 : Int))), V.d (D.v (Value.int IntKind.i64 (0 : Int))), V.d (D.v (Value.int IntKind.i64 (0 : Int))), V.d (D.v (Value.int IntKind.i64 (0 : Int))), V.d (D.v (Value.int IntKind.i64 (0 : Int))), V.d (D.v (Value.bool false)), V.d (D.v (Value.int IntKind.i64 (0 : Int))), V.d (D.v (Value.string { data := { toList := [] : Array UInt8 } : ByteArray })), V.nil]), ((4 : Nat), B.box [V.d (D.v (Value.int IntKind.i64 (10 : Int))), V.d (D.v (Value.int IntKind.i64 (0 : Int))), V.d (D.v (Value.int IntKind.i64 (0 : Int))), V.d (D.v (Value.int IntKind.i64 (0 : Int))), V.d (D.v (Value.int IntKind.i64 (0 : Int))), V.d (D.v (Value.int IntKind.i64 (0 : Int))), V.d (D.v (Value.bool false)), V.d (D.v (Value.int IntKind.i64 (0 : Int))), V.d (D.v (Value.string { data := { toList := [] : Array UInt8 } : ByteArray })), V.d (D.sl [[D.v (Value.int IntKind.i64 (bothE (List.take x l)).op), D.v (Value.int IntKind.i64 (bothE (List.take x l)).sub), D.v (Value.int IntKind.i64 (bothE (List.take x l)).ty.1), D.v (Value.int IntKind.i64 (bothE (List.take x l)).ty.2), D.v (Value.int IntKind.i64 (bothE (List.take x l)).v.1.1), D.v (Value.int IntKind.i64 (bothE (List.take x l)).v.1.2), D.v (Value.bool (bothE (List.take x l)).v.2), D.v (Value.int IntKind.i64 (bothE (List.take x l)).v.3), D.v (Value.string (bothE (List.take x l)).v.4), D.sl (cellsL (bothE (List.take x l)).args)], [D.v (Value.int IntKind.i64 n_1), D.v (Value.int IntKind.i64 n_2), D.v (Value.int IntKind.i64 n_3), D.v (Value.int IntKind.i64 n_4), D.v (Value.int IntKind.i64 n_5), D.v (Value.int IntKind.i64 n_6), D.v (Value.bool b), D.v (Value.int IntKind.i64 n_7), D.v (Value.string b_1), D.sl es]])])], kn := [], gd := [] : St }
  = { tm := [((0 : Nat), V.d (D.sl (cellsL l))), ((2 : Nat), V.ref ((2 : Nat)) ((0 : Nat))), ((3 : Nat), V.d (D.v (Value.bool false))), ((4 : Nat), V.ref ((4 : Nat)) ((0 : Nat))), ((7 : Nat), V.d (D.sl (cellsL l))), ((8 : Nat), V.d (D.v (Value.int IntKind.i64 (↑(cellsL l).length : Int)))), ((9 : Nat), V.d (D.v (Value.int IntKind.i64 (↑x' : Int))))], hp := [((2 : Nat), B.box [V.d (D.v (Value.int IntKind.i64 (0 : Int))), V.d (D.v (Value.int IntKind.i64 (0 : Int))), V.d (D.v (Value.int IntKind.i64 (0 : Int))), V.d (D.v (Value.int IntKind.i64 (0 : Int))), V.d (D.v (Value.int IntKind.i64 (0 : Int))), V.d (D.v (Value.int IntKind.i64 (0 : Int))), V.d (D.v (Value.bool false)), V.d (D.v (Value.int IntKind.i64 (0 : Int))), V.d (D.v (Value.string { data := { toList := [] : Array UInt8 } : ByteArray })), V.nil]), ((4 : Nat), B.box [V.d (D.v (Value.int IntKind.i64 (bothE (List.take x' l)).op)), V.d (D.v (Value.int IntKind.i64 (bothE (List.take x' l)).sub)), V.d (D.v (Value.int IntKind.i64 (bothE (List.take x' l)).ty.1)), V.d (D.v (Value.int IntKind.i64 (bothE (List.take x' l)).ty.2)), V.d (D.v (Value.int IntKind.i64 (bothE (List.take x' l)).v.1.1)), V.d (D.v (Value.int IntKind.i64 (bothE (List.take x' l)).v.1.2)), V.d (D.v (Value.bool (bothE (List.take x' l)).v.2)), V.d (D.v (Value.int IntKind.i64 (bothE (List.take x' l)).v.3)), V.d (D.v (Value.string (bothE (List.take x' l)).v.4)), V.d (D.sl (cellsL (bothE (List.take x' l)).args))])], kn := [], gd := [] : St }
  ∧ inv_29 l m x') ∧ (decide ((↑x : Int) > (0 : Int)) = false → ∃ (m : Nat), ∃ (x' : { X := Nat, sh := st_29 l, P := fun (x : Nat) => inv_29 l : LX }.X),
  m < n ∧ { tm := [((0 : Nat), V.d (D.sl (cellsL l))), ((2 : Nat), V.ref ((2 : Nat)) ((0 : Nat))), ((3 : Nat), V.d (D.v (Value.bool false))), ((4 : Nat), V.ref ((4 : Nat)) ((0 : Nat))), ((7 : Nat), V.d (D.sl (cellsL l))), ((8 : Nat), V.d (D.v (Value.int IntKind.i64 (↑(cellsL l).length : Int)))), ((9 : Nat), V.d (D.v (Value.int IntKind.i64 (IntKind.i64.wrap ((↑x : Int) + (1 : Int))))))], hp := [((2 : Nat), B.box [V.d (D.v (Value.int IntKind.i64 (0 : Int))), V.d (D.v (Value.int IntKind.i64 (0 : Int))), V.d (D.v (Value.int IntKind.i64 (0 : Int))), V.d (D.v (Value.int IntKind.i64 (0 : Int))), V.d (D.v (Value.int IntKind.i64 (0 : Int))), V.d (D.v (Value.int IntKind.i64 (0 : Int))), V.d (D.v (Value.bool false)), V.d (D.v (Value.int IntKind.i64 (0 : Int))), V.d (D.v (Value.string { data := { toList := [] : Array UInt8 } : ByteArray })), V.nil]), ((4 : Nat), B.box [V.d (D.v (Value.int IntKind.i64 n_1)), V.d (D.v (Value.int IntKind.i64 n_2)), V.d (D.v (Value.int IntKind.i64 n_3)), V.d (D.v (Value.int IntKind.i64 n_4)), V.d (D.v (Value.int IntKind.i64 n_5)), V.d (D.v (Value.int IntKind.i64 n_6)), V.d (D.v (Value.bool b)), V.d (D.v (Value.int IntKind.i64 n_7)), V.d (D.v (Value.string b_1)), V.d (D.sl es)])], kn := [], gd := [] : St }
  = { tm := [((0 : Nat), V.d (D.sl (cellsL l))), ((2 : Nat), V.ref ((2 : Nat)) ((0 : Nat))), ((3 : Nat), V.d (D.v (Value.bool false))), ((4 : Nat), V.ref ((4 : Nat)) ((0 : Nat))), ((7 : Nat), V.d (D.sl (cellsL l))), ((8 : Nat), V.d (D.v (Value.int IntKind.i64 (↑(cellsL l).length : Int)))), ((9 : Nat), V.d (D.v (Value.int IntKind.i64 (↑x' : Int))))], hp := [((2 : Nat), B.box [V.d (D.v (Value.int IntKind.i64 (0 : Int))), V.d (D.v (Value.int IntKind.i64 (0 : Int))), V.d (D.v (Value.int IntKind.i64 (0 : Int))), V.d (D.v (Value.int IntKind.i64 (0 : Int))), V.d (D.v (Value.int IntKind.i64 (0 : Int))), V.d (D.v (Value.int IntKind.i64 (0 : Int))), V.d (D.v (Value.bool false)), V.d (D.v (Value.int IntKind.i64 (0 : Int))), V.d (D.v (Value.string { data := { toList := [] : Array UInt8 } : ByteArray })), V.nil]), ((4 : Nat), B.box [V.d (D.v (Value.int IntKind.i64 (bothE (List.take x' l)).op)), V.d (D.v (Value.int IntKind.i64 (bothE (List.take x' l)).sub)), V.d (D.v (Value.int IntKind.i64 (bothE (List.take x' l)).ty.1)), V.d (D.v (Value.int IntKind.i64 (bothE (List.take x' l)).ty.2)), V.d (D.v (Value.int IntKind.i64 (bothE (List.take x' l)).v.1.1)), V.d (D.v (Value.int IntKind.i64 (bothE (List.take x' l)).v.1.2)), V.d (D.v (Value.bool (bothE (List.take x' l)).v.2)), V.d (D.v (Value.int IntKind.i64 (bothE (List.take x' l)).v.3)), V.d (D.v (Value.string (bothE (List.take x' l)).v.4)), V.d (D.sl (cellsL (bothE (List.take x' l)).args))])], kn := [], gd := [] : St }
  ∧ inv_29 l m x')) ∧ (decide ((↑x : Int) < (↑(cellsL l).length : Int)) = false → ∃ (es : List (List D)), D.sl (cellsL l) = D.sl es ∧ Q [R.agg [D.v
  (Value.int IntKind.i64 (bothE (List.take x l)).op), D.v (Value.int IntKind.i64 (bothE (List.take x l)).sub), D.v (Value.int IntKind.i64 (bothE
  (List.take x l)).ty.1), D.v (Value.int IntKind.i64 (bothE (List.take x l)).ty.2), D.v (Value.int IntKind.i64 (bothE (List.take x l)).v.1.1), D.v
  (Value.int IntKind.i64 (bothE (List.take x l)).v.1.2), D.v (Value.bool (bothE (List.take x l)).v.2), D.v (Value.int IntKind.i64 (bothE (List.take x
  l)).v.3), D.v (Value.string (bothE (List.take x l)).v.4), D.sl (cellsL (bothE (List.take x l)).args)], R.d (D.v (Value.bool (decide ((↑es.length :
  Int) > (0 : Int)))))] [])) := by kernel_rfl
theorem ct29 (l : List EX) (hb : l.length ≤ 1000000000) : Ct prog gl 13 [.d (.sl (cellsL l))] (gives [.agg (cells (bothE l)), .d (.v (.bool (decide ((l.length : Int) > 0))))]) := by
  refine ct_of_vc E_ok C_0_ok ioK_no it_ok mixed (fn := f13) (body := f13.body.getD .skip) (by kernel_rfl) (by kernel_rfl) (by kernel_rfl) (fi := fx_29 l) (by kernel_rfl) (by kernel_rfl) ⟨_, _, rfl, rfl⟩ ?_
  rw [vc29]
  refine ⟨cellsL l, rfl, (0 : Nat), ⟨?_, l.length, Nat.zero_le _, rfl⟩, fun n (x : Nat) hx => ⟨fun h => ?_, fun h => ?_⟩⟩
  · simp only [List.take_zero, bothE, zeroE, EX.args, cellsL]; rfl
  · have hi : x < l.length := by simpa [cellsL_len] using h
    obtain ⟨op', sub', t', v', a', he, hget⟩ := arg_get hi
    have hn := hx.2
    refine ⟨cellsL l, rfl, ⟨by omega, by rw [cellsL_len]; omega⟩, _, hget, rfl, op', sub', t'.k, t'.sc, v'.t.k, v'.t.sc, v'.nul, v'.n, v'.s, cellsL a', rfl, fun hx0 => ?_, fun hx0 => ?_⟩
    · have h0 : 0 < x := by have := of_decide_eq_true hx0; omega
      have hne : l.take x ≠ [] := by
        intro h; have := congrArg List.length h; rw [List.length_take] at this; simp only [List.length_nil] at this; omega
      refine ⟨l.length - (x + 1), x + 1, by omega, ?_, hi, rfl⟩
      rw [wrap_next (by omega), take_succ_get l hi, bothE_snoc hne, he, and_args, cells_proj]; rfl
    · have h0 : x = 0 := by have := of_decide_eq_false hx0; omega
      subst h0
      refine ⟨l.length - (0 + 1), 0 + 1, by omega, ?_, hi, rfl⟩
      rw [wrap_next (by omega), take_succ_get l hi, he, List.take_zero, List.nil_append]; rfl
  · have hi : ¬ x < l.length := by simpa [cellsL_len] using h
    refine ⟨cellsL l, rfl, ?_⟩
    rw [List.take_of_length_le (by omega), cellsL_len, cells_proj]
    exact ⟨rfl, rfl⟩
def st_30 (l : List EX) (x : Nat) : St := { tm := [(0, .d (.sl (cellsL l))), (2, .ref 2 0), (3, .d (.v (.bool false))), (4, .ref 4 0), (5, .d (.v (.int .i64 (x : Int))))], hp := [(2, encB0), (4, encB (bothE (l.take x)))], kn := [], gd := [] }
def inv_30 (l : List EX) (m : Nat) (x : Nat) : Prop := 1 ≤ x ∧ x ≤ l.length ∧ m = l.length - x
def fx_30 (l : List EX) : Fi := { fi14 with lp := [(5, ([0, 2, 3, 4, 5], []))], lx := [(5, { X := Nat, sh := st_30 l, P := fun _ => inv_30 l })], cv := [(5, [{ box := none, ix := 0, key := 24, e := 0, sz := 0 }])] }
theorem vc30 (l : List EX) (Q : List R → List (List D) → Prop) : vc E_0 C_0 noI (fx_30 l) (f14.body.getD .skip) f14.results.toList [.d (.sl (cellsL l))] Q = (
  ∃ (es : List (List D)), D.sl (cellsL l) = D.sl es ∧ (((↑es.length : Int) == (0 : Int)) = true → Q [R.agg [D.v (Value.int IntKind.i64 (0 : Int)), D.v
  (Value.int IntKind.i64 (0 : Int)), D.v (Value.int IntKind.i64 (0 : Int)), D.v (Value.int IntKind.i64 (0 : Int)), D.v (Value.int IntKind.i64 (0 :
  Int)), D.v (Value.int IntKind.i64 (0 : Int)), D.v (Value.bool false), D.v (Value.int IntKind.i64 (0 : Int)), D.v (Value.string { data := { toList := [] : Array UInt8 } : ByteArray }),
  D.sl []], R.d (D.v (Value.bool false))] []) ∧ (((↑es.length : Int) == (0 : Int)) = false → ∃ (es : List (List D)), D.sl (cellsL l) = D.sl es ∧ ((0 :
  Int) ≤ (0 : Int) ∧ (0 : Int) < (↑es.length : Int)) ∧ ∃ (cells : List D), es[Int.toNat (0 : Int)]? = some cells ∧ cells.length = (10 : Nat) ∧ ∃ (n :
  Int), ∃ (n_1 : Int), ∃ (n_2 : Int), ∃ (n_3 : Int), ∃ (n_4 : Int), ∃ (n_5 : Int), ∃ (b : Bool), ∃ (n_6 : Int), ∃ (b_1 : ByteArray), ∃ (es : List (List
  D)), cut ((0 : Nat)) ((10 : Nat)) cells = some [D.v (Value.int IntKind.i64 n), D.v (Value.int IntKind.i64 n_1), D.v (Value.int IntKind.i64 n_2), D.v
  (Value.int IntKind.i64 n_3), D.v (Value.int IntKind.i64 n_4), D.v (Value.int IntKind.i64 n_5), D.v (Value.bool b), D.v (Value.int IntKind.i64 n_6),
  D.v (Value.string b_1), D.sl es] ∧ ∃ (x0 : { X := Nat, sh := st_30 l, P := fun (x : Nat) => inv_30 l : LX }.X), ({ tm := [((0 : Nat), V.d (D.sl (cellsL l))), ((2 : Nat), V.ref ((2 : Nat)) ((0 : Nat))), ((3 : Nat), V.d (D.v (Value.bool false))), ((4 : Nat), V.ref ((4 : Nat)) ((0 : Nat))), ((5 : Nat), V.d (D.v (Value.int IntKind.i64 (1 : Int))))], hp := [((2 : Nat), B.box [V.d (D.v (Value.int IntKind.i64 (0 : Int))), V.d (D.v (Value.int IntKind.i64 (0 : Int))), V.d (D.v (Value.int IntKind.i64 (0 : Int))), V.d (D.v (Value.int IntKind.i64 (0 : Int))), V.d (D.v (Value.int IntKind.i64 (0 : Int))), V.d (D.v (Value.int IntKind.i64 (0 : Int))), V.d (D.v (Value.bool false)), V.d (D.v (Value.int IntKind.i64 (0 : Int))), V.d (D.v (Value.string { data := { toList := [] : Array UInt8 } : ByteArray })), V.nil]), ((4 : Nat), B.box [V.d (D.v (Value.int IntKind.i64 n)), V.d (D.v (Value.int IntKind.i64 n_1)), V.d (D.v (Value.int IntKind.i64 n_2)), V.d (D.v (Value.int IntKind.i64 n_3)), V.d (D.v (Value.int IntKind.i64 n_4)), V.d (D.v (Value.int IntKind.i64 n_5)), V.d (D.v (Value.bool b)), V.d (D.v (Value.int IntKind.i64 n_6)), V.d (D.v (Value.string b_1)), V.d (D.sl es)])], kn := [], gd := [] : St }
  = { tm := [((0 : Nat), V.d (D.sl (cellsL l))), ((2 : Nat), V.ref ((2 : Nat)) ((0 : Nat))), ((3 : Nat), V.d (D.v (Value.bool false))), ((4 : Nat), V.ref ((4 : Nat)) ((0 : Nat))), ((5 : Nat), V.d (D.v (Value.int IntKind.i64 (↑x0 : Int))))], hp := [((2 : Nat), B.box [V.d (D.v (Value.int IntKind.i64 (0 : Int))), V.d (D.v (Value.int IntKind.i64 (0 : Int))), V.d (D.v (Value.int IntKind.i64 (0 : Int))), V.d (D.v (Value.int IntKind.i64 (0 : Int))), V.d (D.v (Value.int IntKind.i64 (0 : Int))), V.d (D.v (Value.int IntKind.i64 (0 : Int))), V.d (D.v (Value.bool false)), V.d (D.v (Value.int IntKind.i64 (0 : Int))), V.d (D.v (Value.string { data := { toList := [] : Array UInt8 } : ByteArray })), V.nil]), ((4 : Nat), B.box [V.d (D.v (Value.int IntKind.i64 (bothE (List.take x0 l)).op)), V.d (D.v (Value.int IntKind.i64 (bothE (List.take x0 l)).sub)), V.d (D.v (Value.int IntKind.i64 (bothE (List.take x0 l)).ty.1)), V.d (D.v (Value.int IntKind.i64 (bothE (List.take x0 l)).ty.2)), V.d (D.v (Value.int IntKind.i64 (bothE (List.take x0 l)).v.1.1)), V.d (D.v (Value.int IntKind.i64 (bothE (List.take x0 l)).v.1.2)), V.d (D.v (Value.bool (bothE (List.take x0 l)).v.2)), V.d (D.v (Value.int IntKind.i64 (bothE (List.take x0 l)).v.3)), V.d (D.v (Value.string (bothE (List.take x0 l)).v.4)), V.d (D.sl (cellsL (bothE (List.take x0 l)).args))])], kn := [], gd := [] : St }
  ∧ ∃ (n : Nat), inv_30 l n x0) ∧ ∀ (n : Nat) (x : { X := Nat, sh := st_30 l, P := fun (x : Nat) => inv_30 l : LX }.X), inv_30 l n x → ∃ (es : List
  (List D)), D.sl (cellsL l) = D.sl es ∧ (decide ((↑x : Int) < (↑es.length : Int)) = true → ∃ (es : List (List D)), D.sl (cellsL l) = D.sl es ∧ ((0 :
  Int) ≤ (↑x : Int) ∧ (↑x : Int) < (↑es.length : Int)) ∧ ∃ (cells : List D), es[(↑x : Int).toNat]? = some cells ∧ cells.length = (10 : Nat) ∧ ∃ (n_7 :
  Int), ∃ (n_8 : Int), ∃ (n_9 : Int), ∃ (n_10 : Int), ∃ (n_11 : Int), ∃ (n_12 : Int), ∃ (b : Bool), ∃ (n_13 : Int), ∃ (b_2 : ByteArray), ∃ (es : List
  (List D)), cut ((0 : Nat)) ((10 : Nat)) cells = some [D.v (Value.int IntKind.i64 n_7), D.v (Value.int IntKind.i64 n_8), D.v (Value.int IntKind.i64
  n_9), D.v (Value.int IntKind.i64 n_10), D.v (Value.int IntKind.i64 n_11), D.v (Value.int IntKind.i64 n_12), D.v (Value.bool b), D.v (Value.int
  IntKind.i64 n_13), D.v (Value.string b_2), D.sl es] ∧ ∃ (m : Nat), ∃ (x' : { X := Nat, sh := st_30 l, P := fun (x : Nat) => inv_30 l : LX }.X), m < n
  ∧ { tm := [((0 : Nat), V.d (D.sl (cellsL l))), ((2 : Nat), V.ref ((2 : Nat)) ((0 : Nat))), ((3 : Nat), V.d (D.v (Value.bool false))), ((4 : Nat), V.ref ((4 : Nat)) ((0 : Nat))), ((5 : Nat), V.d (D.v (Value.int IntKind.i64 (IntKind.i64.wrap ((↑x : Int) + (1 : Int))))))], hp := [((2 : Nat), B.box [V.d (D.v (Value.int IntKind.i64 (0 : Int))), V.d (D.v (Value.int IntKind.i64 (0 : Int))), V.d (D.v (Value.int IntKind.i64 (0 : Int))), V.d (D.v (Value.int IntKind.i64 (0 : Int))), V.d (D.v (Value.int IntKind.i64 (0 : Int))), V.d (D.v (Value.int IntKind.i64 (0 : Int))), V.d (D.v (Value.bool false)), V.d (D.v (Value.int IntKind.i64 (0 : Int))), V.d (D.v (Value.string { data := { toList := [] : Array UInt8 } : ByteArray })), V.nil]), ((4 : Nat), B.box [V.d (D.v (Value.int IntKind.i64 (10 : Int))), V.d (D.v (Value.int IntKind.i64 (0 : Int))), V.d (D.v (Value.int IntKind.i64 (0 : Int))), V.d (D.v (Value.int IntKind.i64 (0 : Int))), V.d (D.v (Value.int IntKind.i64 (0 : Int))), V.d (D.v (Value.int IntKind.i64 (0 : Int))), V.d (D.v (Value.bool false)), V.d (D.v (Value.int IntKind.i64 (0 : Int))), V.d (D.v (Value.string { data := { toList := [] : Array UInt8 } : ByteArray })), V.d (D.sl [[D.v (Value.int IntKind.i64 (bothE (List.take x l)).op), D.v (Value.int IntKind.i64 (bothE (List.take x l)).sub), D.v (Value.int IntKind.i64 (bothE (List.take x l)).ty.1), D.v (Value.int IntKind.i64 (bothE (List.take x l)).ty.2), D.v (Value.int IntKind.i64 (bothE (List.take x l)).v.1.1), D.v (Value.int IntKind.i64 (bothE (List.take x l)).v.1.2), D.v (Value.bool (bothE (List.take x l)).v.2), D.v (Value.int IntKind.i64 (bothE (List.take x l)).v.3), D.v (Value.string (bothE (List.take x l)).v.4), D.sl (cellsL (bothE (List.take x l)).args)], [D.v (Value.int IntKind.i64 n_7), D.v (Value.int IntKind.i64 n_8), D.v (Value.int IntKind.i64 n_9), D.v (Value.int IntKind.i64 n_10), D.v (Value.int IntKind.i64 n_11), D.v (Value.int IntKind.i64 n_12), D.v (Value.bool b), D.v (Value.int IntKind.i64 n_13), D.v (Value.string b_2), D.sl es]])])], kn := [], gd := [] : St }
  = { tm := [((0 : Nat), V.d (D.sl (cellsL l))), ((2 : Nat), V.ref ((2 : Nat)) ((0 : Nat))), ((3 : Nat), V.d (D.v (Value.bool false))), ((4 : Nat), V.ref ((4 : Nat)) ((0 : Nat))), ((5 : Nat), V.d (D.v (Value.int IntKind.i64 (↑x' : Int))))], hp := [((2 : Nat), B.box [V.d (D.v (Value.int IntKind.i64 (0 : Int))), V.d (D.v (Value.int IntKind.i64 (0 : Int))), V.d (D.v (Value.int IntKind.i64 (0 : Int))), V.d (D.v (Value.int IntKind.i64 (0 : Int))), V.d (D.v (Value.int IntKind.i64 (0 : Int))), V.d (D.v (Value.int IntKind.i64 (0 : Int))), V.d (D.v (Value.bool false)), V.d (D.v (Value.int IntKind.i64 (0 : Int))), V.d (D.v (Value.string { data := { toList := [] : Array UInt8 } : ByteArray })), V.nil]), ((4 : Nat), B.box [V.d (D.v (Value.int IntKind.i64 (bothE (List.take x' l)).op)), V.d (D.v (Value.int IntKind.i64 (bothE (List.take x' l)).sub)), V.d (D.v (Value.int IntKind.i64 (bothE (List.take x' l)).ty.1)), V.d (D.v (Value.int IntKind.i64 (bothE (List.take x' l)).ty.2)), V.d (D.v (Value.int IntKind.i64 (bothE (List.take x' l)).v.1.1)), V.d (D.v (Value.int IntKind.i64 (bothE (List.take x' l)).v.1.2)), V.d (D.v (Value.bool (bothE (List.take x' l)).v.2)), V.d (D.v (Value.int IntKind.i64 (bothE (List.take x' l)).v.3)), V.d (D.v (Value.string (bothE (List.take x' l)).v.4)), V.d (D.sl (cellsL (bothE (List.take x' l)).args))])], kn := [], gd := [] : St }
  ∧ inv_30 l m x') ∧ (decide ((↑x : Int) < (↑es.length : Int)) = false → Q [R.agg [D.v (Value.int IntKind.i64 (bothE (List.take x l)).op), D.v
  (Value.int IntKind.i64 (bothE (List.take x l)).sub), D.v (Value.int IntKind.i64 (bothE (List.take x l)).ty.1), D.v (Value.int IntKind.i64 (bothE
  (List.take x l)).ty.2), D.v (Value.int IntKind.i64 (bothE (List.take x l)).v.1.1), D.v (Value.int IntKind.i64 (bothE (List.take x l)).v.1.2), D.v
  (Value.bool (bothE (List.take x l)).v.2), D.v (Value.int IntKind.i64 (bothE (List.take x l)).v.3), D.v (Value.string (bothE (List.take x l)).v.4),
  D.sl (cellsL (bothE (List.take x l)).args)], R.d (D.v (Value.bool true))] []))) := by kernel_rfl
theorem ct30 (l : List EX) (hb : l.length ≤ 1000000000) : Ct prog gl 14 [.d (.sl (cellsL l))] (gives [.agg (cells (bothE l)), .d (.v (.bool (decide ((l.length : Int) > 0))))]) := by
  refine ct_of_vc E_ok C_0_ok ioK_no it_ok mixed (fn := f14) (body := f14.body.getD .skip) (by kernel_rfl) (by kernel_rfl) (by kernel_rfl) (fi := fx_30 l) (by kernel_rfl) (by kernel_rfl) ⟨_, _, rfl, rfl⟩ ?_
  rw [vc30]
  refine ⟨cellsL l, rfl, fun h => ?_, fun h => ?_⟩
  · have h : l = [] := by rw [cellsL_len] at h; exact List.length_eq_zero_iff.1 (by simpa using h)
    subst h
    simp only [bothE, zeroE, cells, cellsL]
    exact ⟨rfl, rfl⟩
  · have hi : 0 < l.length := by rw [cellsL_len] at h; have : ¬ ((l.length : Int) = 0) := by simpa using h
                                 omega
    obtain ⟨op', sub', t', v', a', he, hget⟩ := arg_get hi
    refine ⟨cellsL l, rfl, ⟨by omega, by rw [cellsL_len]; omega⟩, _, hget, rfl, op', sub', t'.k, t'.sc, v'.t.k, v'.t.sc, v'.nul, v'.n, v'.s, cellsL a', rfl, (1 : Nat), ⟨?_, l.length - 1, Nat.le_refl _, hi, rfl⟩, fun n (x : Nat) hx => ⟨cellsL l, rfl, fun h => ?_, fun h => ?_⟩⟩
    · rw [show l.take 1 = l.take (0 + 1) from rfl, take_succ_get l hi, he, List.take_zero, List.nil_append]; rfl
    · have hi : x < l.length := by simpa [cellsL_len] using h
      obtain ⟨op', sub', t', v', a', he, hget⟩ := arg_get hi
      have hx1 := hx.1
      have hn := hx.2.2
      have hne : l.take x ≠ [] := by
        intro h; have := congrArg List.length h; rw [List.length_take] at this; simp only [List.length_nil] at this; omega
      refine ⟨cellsL l, rfl, ⟨by omega, by rw [cellsL_len]; omega⟩, _, hget, rfl, op', sub', t'.k, t'.sc, v'.t.k, v'.t.sc, v'.nul, v'.n, v'.s, cellsL a', rfl, l.length - (x + 1), x + 1, by omega, ?_, by omega, hi, rfl⟩
      rw [wrap_next (by omega), take_succ_get l hi, bothE_snoc hne, he, and_args, cells_proj]; rfl
    · have hi' : ¬ x < l.length := by simpa [cellsL_len] using h
      rw [List.take_of_length_le (by omega), cells_proj, show decide ((l.length : Int) > 0) = true from decide_eq_true (by omega)]
      exact ⟨rfl, rfl⟩
end Go.Proofs.Tryz
