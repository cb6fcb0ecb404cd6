/- A part of the proof: contracts of functions, by a verified generator of conditions; no condition of its own. -/
import Derived.Test.YtfohenhmlfiijaaGreatDoorB7
namespace Go.Proofs.Tryz
open Go Go.Dm Go.Ex
set_option maxRecDepth 100000
variable {gl : Nat → Option Obj}
theorem ct62 : ∀ (n : Nat) (e : EX), size e < n → fits e → Ct prog gl 25 [.agg (cells e)] (gives [.d (.v (.int .i64 (deep e)))])
  | 0, e, h, _ => absurd h (Nat.not_lt_zero _)
  | n + 1, .mk op sub t v args, h, hf => by
    have hC : CallsOk prog gl (C_f62 n) := addC_ok C_n_ok (fun a K hk => by
      unfold c_62 at hk
      split at hk
      · obtain ⟨e, rfl, h1, h2, h3⟩ := hk
        exact (ct62 n e h1 h2).gives h3
      · exact hk.elim)
    rw [cells_mk]
    refine ct_of_vc E_ok hC ioK_no it_ok mixed (fn := f25) (body := f25.body.getD .skip) (by kernel_rfl) (by kernel_rfl) (by kernel_rfl) (fi := fx_62 op sub t v args) (by kernel_rfl) (by kernel_rfl) ⟨_, _, rfl, rfl⟩ ?_
    rw [vc62]
    obtain ⟨_, hl, hfl⟩ := fits_mk hf
    have hsz : ∀ e ∈ args, size e < n := fun e he => by have := size_arg (op := op) (sub := sub) (ty := t) (v := v) he; omega
    refine ⟨cellsL args, rfl, (0 : Nat), ⟨by simp only [List.take_zero, deepL]; rfl, args.length, Nat.zero_le _, rfl⟩, fun m (x : Nat) hx => ⟨fun hi => ?_, fun hi => ?_⟩⟩
    · have hi : x < args.length := by simpa [cellsL_len] using hi
      obtain ⟨op', sub', t', v', a', he, hget⟩ := arg_get hi
      have hm := hx.2
      refine ⟨cellsL args, rfl, ⟨by omega, by rw [cellsL_len]; omega⟩, _, hget, rfl, op', sub', t'.k, t'.sc, v'.t.k, v'.t.sc, v'.nul, v'.n, v'.s, cellsL a', rfl, args[x], by rw [he, cells_mk]; rfl, hsz _ (List.getElem_mem hi), fitsL_mem hfl (List.getElem_mem hi), args.length - (x + 1), x + 1, by omega, ?_, hi, rfl⟩
      rw [wrap_next (by omega), List.take_add_one, List.getElem?_eq_getElem hi, Option.toList_some, deepL_snoc]
    · have hi : ¬ x < args.length := by simpa [cellsL_len] using hi
      rw [List.take_of_length_le (by omega)]
      refine ⟨?_, rfl⟩
      simp only [deep]
/-- The types of a row. -/
def typesV (row : List Go.Ex.AV) : List Ty := row.map Go.Ex.AV.t
def st_53 (row : List Go.Ex.AV) (x : Nat) : St := { tm := [(2, .nil), (3, .own 50003), (6, .d (.sl (row.map Go.Ex.AV.cs))), (7, .d (.v (.int .i64 ((row.map Go.Ex.AV.cs).length : Int)))), (8, .d (.v (.int .i64 (x : Int))))], hp := [(50003, .lst 23 2 ((typesV (row.take x)).map Ty.cs))], kn := [], gd := [] }
def inv_53 (row : List Go.Ex.AV) (m : Nat) (x : Nat) : Prop := x ≤ row.length ∧ m = row.length - x
def fx_53 (row : List Go.Ex.AV) : Fi := { fi16 with cv := [(3, [⟨none, 3, 50003, 23, 2⟩])], lx := [(3, { X := Nat, sh := st_53 row, P := fun _ => inv_53 row })] }
theorem vc53 (row : List Go.Ex.AV) (Q : List R → List (List D) → Prop) : vc E_0 C_4e noI (fx_53 row) (f16.body.getD .skip) f16.results.toList [.d (.sl (row.map Go.Ex.AV.cs))] Q = ( ∃ (es : List (List D)), D.sl (List.map AV.cs row) = D.sl es ∧ ∃ (x0 : Nat), ({ tm := [(2, .nil), (3, .own 50003), (6, .d (.sl (List.map AV.cs row))), (7, .i (↑es.length : Int)), (8, .i 0)], hp := [(50003, .lst 23 2 [])], kn := [], gd := [] : St } = { tm := [(2, .nil), (3, .own 50003), (6, .d (.sl (List.map AV.cs row))), (7, .i (↑(List.map AV.cs row).length : Int)), (8, .i (↑x0 : Int))], hp := [(50003, .lst 23 2 (List.map Ty.cs (typesV (List.take x0 row))))], kn := [], gd := [] : St } ∧ ∃ (n : Nat), inv_53 row n x0) ∧ ∀ (n : Nat) (x : Nat), inv_53 row n x → (decide ((↑x : Int) < (↑(List.map AV.cs row).length : Int)) = true → ∃ (es : List (List D)), D.sl (List.map AV.cs row) = D.sl es ∧ (0 ≤ (↑x : Int) ∧ (↑x : Int) < (↑es.length : Int)) ∧ ∃ (cells : List D), es[(↑x : Int).toNat]? = some cells ∧ cells.length = 5 ∧ ∃ (n_1 n_2 : Int), ∃ (b : Bool), ∃ (n_3 : Int), ∃ (b_1 : ByteArray), cut 0 5 cells = some [D.i n_1, D.i n_2, D.v (.bool b), D.i n_3, D.v (.string b_1)] ∧ (∀ (c : List D), c ∈ [[D.i n_1, D.i n_2]] → c.length = 2) ∧ (23 : Nat) = (23 : Nat) ∧ (2 : Nat) = (2 : Nat) ∧ (↑(List.map Ty.cs (typesV (List.take x row))).length.succ : Int) * (↑(16 : Nat) : Int) ≤ 140737488355328 ∧ ∃ (m x' : Nat), m < n ∧ { tm := [(2, .nil), (3, .own 50003), (6, .d (.sl (List.map AV.cs row))), (7, .i (↑(List.map AV.cs row).length : Int)), (8, .i (IntKind.i64.wrap ((↑x : Int) + 1)))], hp := [(50003, .lst 23 2 (List.map Ty.cs (typesV (List.take x row)) ++ [[.i n_1, .i n_2]]))], kn := [], gd := [] : St } = { tm := [(2, .nil), (3, .own 50003), (6, .d (.sl (List.map AV.cs row))), (7, .i (↑(List.map AV.cs row).length : Int)), (8, .i (↑x' : Int))], hp := [(50003, .lst 23 2 (List.map Ty.cs (typesV (List.take x' row))))], kn := [], gd := [] : St } ∧ inv_53 row m x') ∧ (decide ((↑x : Int) < (↑(List.map AV.cs row).length : Int)) = false → Q [.d (.sl (List.map Ty.cs (typesV (List.take x row))))] [])) := by kernel_rfl
def c_61g (a : List R) (K : List R → List (List D) → Prop) : Prop := match a with
  | [.agg x] => ∃ e : EX, x = cells e ∧ fits e ∧ K [.d (.v (.int .i64 (nodes e)))] []
  | _ => False
theorem c_61g_ok (a : List R) (K : List R → List (List D) → Prop) (h : c_61g a K) : Ct prog gl 24 a K := by
  unfold c_61g at h
  split at h
  · obtain ⟨e, rfl, h1, h2⟩ := h
    exact (ct61 (size e + 1) e (Nat.lt_succ_self _) h1).gives h2
  · exact h.elim
def c_62g (a : List R) (K : List R → List (List D) → Prop) : Prop := match a with
  | [.agg x] => ∃ e : EX, x = cells e ∧ fits e ∧ K [.d (.v (.int .i64 (deep e)))] []
  | _ => False
theorem c_62g_ok (a : List R) (K : List R → List (List D) → Prop) (h : c_62g a K) : Ct prog gl 25 a K := by
  unfold c_62g at h
  split at h
  · obtain ⟨e, rfl, h1, h2⟩ := h
    exact (ct62 (size e + 1) e (Nat.lt_succ_self _) h1).gives h2
  · exact h.elim
def c_63g (a : List R) (K : List R → List (List D) → Prop) : Prop := match a with
  | [.agg x, .d (.v (.int .i64 c))] => ∃ e : EX, x = cells e ∧ fits e ∧ K [.d (.v (.bool (mayE c e)))] []
  | _ => False
theorem c_63g_ok (a : List R) (K : List R → List (List D) → Prop) (h : c_63g a K) : Ct prog gl 26 a K := by
  unfold c_63g at h
  split at h
  · obtain ⟨e, rfl, h1, h2⟩ := h
    exact (ct63 (size e + 1) e _ (Nat.lt_succ_self _) h1).gives h2
  · exact h.elim
def c_64g (a : List R) (K : List R → List (List D) → Prop) : Prop := match a with
  | [.agg x, .d (.sl y)] => ∃ (e : EX) (cols : List Ty), x = cells e ∧ y = cols.map Ty.cs ∧ fits e ∧ mayE cols.length e = true ∧ cols.length ≤ 4398046511104 ∧ (∀ (t : Ty) (ok : Bool), typedE cols e = (t, ok) → K [.agg t.cs, .d (.v (.bool ok))] [])
  | _ => False
theorem c_64g_ok (a : List R) (K : List R → List (List D) → Prop) (h : c_64g a K) : Ct prog gl 27 a K := by
  unfold c_64g at h
  split at h
  · obtain ⟨e, cols, rfl, rfl, h1, h2, h3, h4⟩ := h
    exact (ct64 (size e + 1) e cols (Nat.lt_succ_self _) h1 h2 h3).gives (h4 _ _ rfl)
  · exact h.elim
def C_g4 : CallT := addC (addC (addC (addC C_f7 24 c_61g) 25 c_62g) 26 c_63g) 27 c_64g
theorem C_g4_ok : CallsOk prog gl C_g4 := addC_ok (addC_ok (addC_ok (addC_ok C_f7_ok c_61g_ok) c_62g_ok) c_63g_ok) c_64g_ok
theorem vc15 (op sub : Int) (t : Ty) (v : Go.Ex.AV) (args : List EX) (x : List (List D)) (Q : List R → List (List D) → Prop) : vc E_0 C_g4 noI fi7 (f7.body.getD .skip) f7.results.toList [.agg (encX op sub t v (cellsL args)), .d (.sl x)] Q = ( ∃ (l : List Ty), x = List.map Ty.cs l ∧ l.length < 4611686018427387904 ∧ ∃ (e : EX), [D.i op, D.i sub, D.i t.1, D.i t.2, D.i v.1.1, D.i v.1.2, D.v (.bool v.2), D.i v.3, D.v (.string v.4), D.sl (cellsL args)] = cells e ∧ fits e ∧ ∃ (e_1 : EX), [D.i op, D.i sub, D.i t.1, D.i t.2, D.i v.1.1, D.i v.1.2, D.v (.bool v.2), D.i v.3, D.v (.string v.4), D.sl (cellsL args)] = cells e_1 ∧ fits e_1 ∧ ∃ (es : List (List D)), D.sl x = D.sl es ∧ ∃ (e_2 : EX), [D.i op, D.i sub, D.i t.1, D.i t.2, D.i v.1.1, D.i v.1.2, D.v (.bool v.2), D.i v.3, D.v (.string v.4), D.sl (cellsL args)] = cells e_2 ∧ fits e_2 ∧ ((bif bif bif l.any badT then true else decide (nodes e > 256) then true else decide (deep e_1 > 24) then true else !mayE (↑es.length : Int) e_2) = true → Q [.agg [.i 0, .i 0], .d (.i 140)] []) ∧ ((bif bif bif l.any badT then true else decide (nodes e > 256) then true else decide (deep e_1 > 24) then true else !mayE (↑es.length : Int) e_2) = false → ∃ (e : EX), ∃ (cols : List Ty), [D.i op, D.i sub, D.i t.1, D.i t.2, D.i v.1.1, D.i v.1.2, D.v (.bool v.2), D.i v.3, D.v (.string v.4), D.sl (cellsL args)] = cells e ∧ x = List.map Ty.cs cols ∧ fits e ∧ mayE (↑cols.length : Int) e = true ∧ cols.length ≤ 4398046511104 ∧ ∀ (t : Ty) (ok : Bool), typedE cols e = (t, ok) → ((!ok) = true → Q [.agg [.i 0, .i 0], .d (.i 21)] []) ∧ ((!ok) = false → Q [.agg [.i t.1, .i t.2], .d (.i 0)] []))) := by kernel_rfl
theorem ct53 (row : List Go.Ex.AV) (hl : row.length ≤ 4398046511104) : Ct prog gl 16 [.d (.sl (row.map Go.Ex.AV.cs))] (gives [.d (.sl ((typesV row).map Ty.cs))]) := by
  refine ct_of_vc E_ok C_4e_ok ioK_no it_ok mixed (fn := f16) (body := f16.body.getD .skip) (by kernel_rfl) (by kernel_rfl) (by kernel_rfl) (fi := fx_53 row) (by kernel_rfl) (by kernel_rfl) ⟨_, _, rfl, rfl⟩ ?_
  rw [vc53]
  refine ⟨_, rfl, (0 : Nat), ⟨rfl, row.length, Nat.zero_le _, rfl⟩, fun m (x : Nat) hx => ⟨fun hi => ?_, fun hi => ?_⟩⟩
  · have hi : x < row.length := by simpa using hi
    have hm := hx.2
    refine ⟨_, rfl, ⟨by omega, by rw [List.length_map]; omega⟩, (row[x]).cs, by rw [Int.toNat_natCast, List.getElem?_map, List.getElem?_eq_getElem hi]; rfl, rfl, _, _, _, _, _, rfl, by simp, rfl, rfl, ?_, row.length - (x + 1), x + 1, by omega, ?_, hi, rfl⟩
    · have : (List.map Ty.cs (typesV (List.take x row))).length ≤ row.length := by simp [typesV]; omega
      simp only [Nat.succ_eq_add_one]; omega
    · rw [wrap_next (by omega), List.take_add_one, List.getElem?_eq_getElem hi, Option.toList_some]
      simp only [typesV, List.map_append, List.map_cons, List.map_nil]
  · have hi : ¬ x < row.length := by simpa using hi
    rw [List.take_of_length_le (by omega)]
    exact ⟨rfl, rfl⟩
def c_53 (a : List R) (K : List R → List (List D) → Prop) : Prop := match a with
  | [.d (.sl x)] => ∃ row : List Go.Ex.AV, x = row.map Go.Ex.AV.cs ∧ row.length ≤ 4398046511104 ∧ K [.d (.sl ((typesV row).map Ty.cs))] []
  | _ => False
theorem c_53_ok (a : List R) (K : List R → List (List D) → Prop) (h : c_53 a K) : Ct prog gl 16 a K := by
  unfold c_53 at h
  split at h
  · obtain ⟨row, rfl, h1, h2⟩ := h
    exact (ct53 row h1).gives h2
  · exact h.elim
/-- Check. -/
def checkE (cols : List Ty) (e : EX) : Ty × Int :=
  bif (bif bif bif cols.any badT then true else decide (nodes e > 256) then true else decide (deep e > 24) then true else !mayE cols.length e) then (⟨0, 0⟩, 140) else (bif !(typedE cols e).2 then (⟨0, 0⟩, 21) else ((typedE cols e).1, 0))
theorem ct15 : ∀ (e : EX) (cols : List Ty), fits e → cols.length ≤ 4398046511104 → Ct prog gl 7 [.agg (cells e), .d (.sl (cols.map Ty.cs))] (gives [.agg (checkE cols e).1.cs, .d (.v (.int .i64 (checkE cols e).2))])
  | .mk op sub t v args, cols, hf, hcl => by
    rw [cells_mk]
    refine ct_of_vc E_ok C_g4_ok ioK_no it_ok mixed (fn := f7) (body := f7.body.getD .skip) (by kernel_rfl) (by kernel_rfl) (by kernel_rfl) (fi := fi7) (by kernel_rfl) (by kernel_rfl) ⟨_, _, rfl, rfl⟩ ?_
    rw [vc15]
    have hc : encX op sub t v (cellsL args) = cells (.mk op sub t v args) := (cells_mk _ _ _ _ _).symm
    refine ⟨cols, rfl, by omega, .mk op sub t v args, hc, hf, .mk op sub t v args, hc, hf, _, rfl, .mk op sub t v args, hc, hf, fun h => ?_, fun h => ?_⟩
    · rw [List.length_map] at h
      unfold checkE
      rw [h]; exact ⟨rfl, rfl⟩
    · rw [List.length_map] at h
      refine ⟨.mk op sub t v args, cols, hc, rfl, hf, ?_, hcl, fun t' ok ht => ⟨fun h2 => ?_, fun h2 => ?_⟩⟩
      · revert h
        cases mayE (cols.length : Int) (.mk op sub t v args) <;> cases cols.any badT <;> cases decide (nodes (EX.mk op sub t v args) > 256) <;> cases decide (deep (EX.mk op sub t v args) > 24) <;> simp
      · unfold checkE
        rw [h, ht]
        simp only [h2, cond_true, cond_false]
        exact ⟨rfl, rfl⟩
      · unfold checkE
        rw [h, ht]
        simp only [h2, cond_true, cond_false]
        exact ⟨rfl, rfl⟩
def c_15 (a : List R) (K : List R → List (List D) → Prop) : Prop := match a with
  | [.agg x, .d (.sl y)] => ∃ (e : EX) (cols : List Ty), x = cells e ∧ y = cols.map Ty.cs ∧ fits e ∧ cols.length ≤ 4398046511104 ∧ (∀ (t : Ty) (f : Int), checkE cols e = (t, f) → K [.agg t.cs, .d (.v (.int .i64 f))] [])
  | _ => False
theorem c_15_ok (a : List R) (K : List R → List (List D) → Prop) (h : c_15 a K) : Ct prog gl 7 a K := by
  unfold c_15 at h
  split at h
  · obtain ⟨e, cols, rfl, rfl, h1, h2, h3⟩ := h
    exact (ct15 e cols h1 h2).gives (h3 _ _ rfl)
  · exact h.elim
def C_g5 : CallT := addC (addC C_g4 16 c_53) 7 c_15
theorem C_g5_ok : CallsOk prog gl C_g5 := addC_ok (addC_ok C_g4_ok c_53_ok) c_15_ok
end Go.Proofs.Tryz
namespace Go.Proofs.Tryz
open Go Go.Dm Go.Ex
set_option maxRecDepth 100000
variable {gl : Nat → Option Obj}
/-- A quotient. -/
def divP (a b : Int) : Int × Int := bif b == 0 then (0, 11) else bif b == -1 then (s207_0 a, s207_1 a) else (IntKind.i64.wrap (a.tdiv b), 0)
theorem vc205 (a b : Int) (Q : List R → List (List D) → Prop) : vc E_0 C_g5 noI fi72 (f72.body.getD .skip) f72.results.toList [.d (.v (.int .i64 a)), .d (.v (.int .i64 b))] Q = ( ((b == 0) = true → Q [.d (.i 0), .d (.i 11)] []) ∧ ((b == 0) = false → ((b == (-1 : Int)) = true → Q [.d (.i (s207_0 a)), .d (.i (s207_1 a))] []) ∧ ((b == (-1 : Int)) = false → b ≠ (0 : Int) ∧ Q [.d (.i (IntKind.i64.wrap (a.tdiv b))), .d (.i 0)] []))) := by kernel_rfl
theorem ct205 (a b : Int) : Ct prog gl 72 [.d (.v (.int .i64 a)), .d (.v (.int .i64 b))] (gives [.d (.v (.int .i64 (divP a b).1)), .d (.v (.int .i64 (divP a b).2))]) :=
  ct_of_vc E_ok C_g5_ok ioK_no it_ok mixed (fn := f72) (body := f72.body.getD .skip) (by kernel_rfl) (by kernel_rfl) (by kernel_rfl) (fi := fi72) (by kernel_rfl) (by kernel_rfl) ⟨_, _, rfl, rfl⟩ (by
    rw [vc205]
    refine ⟨fun h => ?_, fun h => ⟨fun h2 => ?_, fun h2 => ⟨by simpa using h, ?_⟩⟩⟩ <;> (simp only [divP, *, cond_true, cond_false]; exact ⟨rfl, rfl⟩))
def c_205 (a : List R) (K : List R → List (List D) → Prop) : Prop := match a with
  | [.d (.v (.int .i64 a)), .d (.v (.int .i64 b))] => K [.d (.v (.int .i64 (divP a b).1)), .d (.v (.int .i64 (divP a b).2))] []
  | _ => False
theorem c_205_ok (a : List R) (K : List R → List (List D) → Prop) (h : c_205 a K) : Ct prog gl 72 a K := by
  unfold c_205 at h
  split at h
  · exact (ct205 _ _).gives h
  · exact h.elim
def C_g6 : CallT := addC C_g5 72 c_205
theorem C_g6_ok : CallsOk prog gl C_g6 := addC_ok C_g5_ok c_205_ok
def ofI (n : Int) : Go.Ex.AV := ⟨⟨2, 0⟩, false, n, { data := { toList := [] : Array UInt8 } : ByteArray }⟩
def zeroV : Go.Ex.AV := ⟨⟨0, 0⟩, false, 0, { data := { toList := [] : Array UInt8 } : ByteArray }⟩
def E_9 : Env := { E_0 with bw := [20, 36, 37, 40] }
structure VX where
  i : Nat
  l : List Go.Ex.AV
def st_57 (op sub : Int) (t : Ty) (v : Go.Ex.AV) (args : List EX) (row : List Go.Ex.AV) (cols : List Ty) (x : VX) : St := { tm := [(0, .dptr [.sl (row.map Go.Ex.AV.cs), .sl (cols.map Ty.cs)]), (3, .ref 3 0), (4, .ref 4 0), (5, .d (.v (.bool false))), (6, .ref 6 0), (17, .own 163), (18, .d (.v (.bool (x.l.any (fun v => v.nul))))), (165, .d (.sl (cellsL args))), (166, .d (.v (.int .i64 ((cellsL args).length : Int)))), (167, .d (.v (.int .i64 (x.i : Int))))], hp := [(3, .box [.d (.v (.int .i64 op)), .d (.v (.int .i64 sub)), .d (.v (.int .i64 t.k)), .d (.v (.int .i64 t.sc)), .d (.v (.int .i64 v.t.k)), .d (.v (.int .i64 v.t.sc)), .d (.v (.bool v.nul)), .d (.v (.int .i64 v.n)), .d (.v (.string v.s)), .d (.sl (cellsL args))]), (4, .box [.d (.v (.int .i64 0)), .d (.v (.int .i64 0)), .d (.v (.bool false)), .d (.v (.int .i64 0)), .d (.v (.string { data := { toList := [] : Array UInt8 } : ByteArray }))]), (6, .box [.d (.v (.int .i64 (typedE cols (.mk op sub t v args)).1.k)), .d (.v (.int .i64 (typedE cols (.mk op sub t v args)).1.sc))]), (163, .lst 25 5 (x.l.map Go.Ex.AV.cs ++ List.replicate (args.length - x.i) zeroV.cs))], kn := [], gd := [] }
theorem set_next {l : List Go.Ex.AV} {n : Nat} {z : List D} {w : Go.Ex.AV} (h : l.length < n) : (l.map Go.Ex.AV.cs ++ List.replicate (n - l.length) z).set l.length w.cs = (l ++ [w]).map Go.Ex.AV.cs ++ List.replicate (n - (l.length + 1)) z := by
  rw [List.set_append_right _ _ (by simp), List.length_map, Nat.sub_self, show n - l.length = (n - (l.length + 1)) + 1 by omega, List.replicate_succ, List.set_cons_zero, List.map_append, List.append_assoc]
  rfl
end Go.Proofs.Tryz
namespace Go.Proofs.Tryz
open Go Go.Dm Go.Ex
set_option maxRecDepth 100000
variable {gl : Nat → Option Obj}
theorem check_may {cols : List Ty} {e : EX} (h : (checkE cols e).2 = 0) : mayE cols.length e = true ∧ (typedE cols e).2 = true := by
  unfold checkE at h
  revert h
  cases mayE (cols.length : Int) e <;> cases cols.any badT <;> cases decide (nodes e > 256) <;> cases decide (deep e > 24) <;> cases (typedE cols e).2 <;> simp
end Go.Proofs.Tryz
