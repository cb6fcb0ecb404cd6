/- A part of the proof: contracts of functions, by a verified generator of conditions; no condition of its own. -/
import Derived.Test.YtckihdaalmgbiaaGreatDoorB1
import Derived.Test.YtckihdaalmgbiaaGreatDoorAb
namespace Go.Proofs.Tryz
open Go Go.Dm Go.Ex
set_option maxRecDepth 100000
variable {gl : Nat → Option Obj}
def encI (l : List Int) : List (List D) := l.map fun n => [.v (.int .i64 n)]
def inv_33 (l r : List EX) (m : Nat) (x : Nat) : Prop := (x ≤ l.length ∧ m = l.length - x) ∧ l.take x = r.take x
def c_22 (n : Nat) (a : List R) (K : List R → List (List D) → Prop) : Prop := match a with
  | [.agg x, .agg y] => ∃ a b : EX, x = cells a ∧ y = cells b ∧ size a < n ∧ fits a ∧ fits b ∧ K [.d (.v (.bool (sameE a b)))] []
  | _ => False
def C_f22 (n : Nat) : CallT := addC C_66 9 (c_22 n)
def st_22 (op sub : Int) (t : Ty) (v : Go.Ex.AV) (args : List EX) (op' sub' : Int) (t' : Ty) (v' : Go.Ex.AV) (args' : List EX) (x : Nat) : St := { tm := [(2, .ref 2 0), (3, .ref 3 0), (4, .d (.v (.bool false))), (5, .d (.v (.int .i64 (x : Int))))], hp := [(2, .box [.d (.v (.int .i64 op)), .d (.v (.int .i64 sub)), .d (.v (.int .i64 t.k)), .d (.v (.int .i64 t.sc)), .d (.v (.int .i64 v.t.k)), .d (.v (.int .i64 v.t.sc)), .d (.v (.bool v.nul)), .d (.v (.int .i64 v.n)), .d (.v (.string v.s)), .d (.sl (cellsL args))]), (3, .box [.d (.v (.int .i64 op')), .d (.v (.int .i64 sub')), .d (.v (.int .i64 t'.k)), .d (.v (.int .i64 t'.sc)), .d (.v (.int .i64 v'.t.k)), .d (.v (.int .i64 v'.t.sc)), .d (.v (.bool v'.nul)), .d (.v (.int .i64 v'.n)), .d (.v (.string v'.s)), .d (.sl (cellsL args'))])], kn := [], gd := [] }
def fx_22 (op sub : Int) (t : Ty) (v : Go.Ex.AV) (args : List EX) (op' sub' : Int) (t' : Ty) (v' : Go.Ex.AV) (args' : List EX) : Fi := { fi9 with lx := [(4, { X := Nat, sh := st_22 op sub t v args op' sub' t' v' args', P := fun _ => inv_33 args args' })] }
theorem vc22 (n : Nat) (op sub : Int) (t : Ty) (v : Go.Ex.AV) (args : List EX) (op' sub' : Int) (t' : Ty) (v' : Go.Ex.AV) (args' : List EX) (Q : List R → List (List D) → Prop) : vc E_0 (C_f22 n) noI (fx_22 op sub t v args op' sub' t' v' args') (f9.body.getD .skip) f9.results.toList [.agg (encX op sub t v (cellsL args)), .agg (encX op' sub' t' v' (cellsL args'))] Q = (
  ∃ (es : List (List D)), D.sl (cellsL args) = D.sl es ∧ ∃ (es_1 : List (List D)), D.sl (cellsL args') = D.sl es_1 ∧ ((bif bif bif bif op != op' then
  true else sub != sub' then true else !(t.1 == t'.1 && (t.2 == t'.2 && true)) then true else !(v.1.1 == v'.1.1 && (v.1.2 == v'.1.2 && (v.2 == v'.2 &&
  (v.3 == v'.3 && (v.4 == v'.4 && true))))) then true else (↑es.length : Int) != (↑es_1.length : Int)) = true → Q [R.d (D.v (Value.bool false))] []) ∧
  ((bif bif bif bif op != op' then true else sub != sub' then true else !(t.1 == t'.1 && (t.2 == t'.2 && true)) then true else !(v.1.1 == v'.1.1 &&
  (v.1.2 == v'.1.2 && (v.2 == v'.2 && (v.3 == v'.3 && (v.4 == v'.4 && true))))) then true else (↑es.length : Int) != (↑es_1.length : Int)) = false → ∃
  (x0 : { X := Nat, sh := st_22 op sub t v args op' sub' t' v' args', P := fun (x : Nat) => inv_33 args args' : LX }.X), ({ tm := [((2 : Nat), V.ref ((2 : Nat)) ((0 : Nat))), ((3 : Nat), V.ref ((3 : Nat)) ((0 : Nat))), ((4 : Nat), V.d (D.v (Value.bool false))), ((5 : Nat), V.d (D.v (Value.int IntKind.i64 (0 : Int))))], hp := [((2 : Nat), B.box [V.d (D.v (Value.int IntKind.i64 op)), V.d (D.v (Value.int IntKind.i64 sub)), V.d (D.v (Value.int IntKind.i64 t.1)), V.d (D.v (Value.int IntKind.i64 t.2)), V.d (D.v (Value.int IntKind.i64 v.1.1)), V.d (D.v (Value.int IntKind.i64 v.1.2)), V.d (D.v (Value.bool v.2)), V.d (D.v (Value.int IntKind.i64 v.3)), V.d (D.v (Value.string v.4)), V.d (D.sl (cellsL args))]), ((3 : Nat), B.box [V.d (D.v (Value.int IntKind.i64 op')), V.d (D.v (Value.int IntKind.i64 sub')), V.d (D.v (Value.int IntKind.i64 t'.1)), V.d (D.v (Value.int IntKind.i64 t'.2)), V.d (D.v (Value.int IntKind.i64 v'.1.1)), V.d (D.v (Value.int IntKind.i64 v'.1.2)), V.d (D.v (Value.bool v'.2)), V.d (D.v (Value.int IntKind.i64 v'.3)), V.d (D.v (Value.string v'.4)), V.d (D.sl (cellsL args'))])], kn := [], gd := [] : St }
  = { tm := [((2 : Nat), V.ref ((2 : Nat)) ((0 : Nat))), ((3 : Nat), V.ref ((3 : Nat)) ((0 : Nat))), ((4 : Nat), V.d (D.v (Value.bool false))), ((5 : Nat), V.d (D.v (Value.int IntKind.i64 (↑x0 : Int))))], hp := [((2 : Nat), B.box [V.d (D.v (Value.int IntKind.i64 op)), V.d (D.v (Value.int IntKind.i64 sub)), V.d (D.v (Value.int IntKind.i64 t.1)), V.d (D.v (Value.int IntKind.i64 t.2)), V.d (D.v (Value.int IntKind.i64 v.1.1)), V.d (D.v (Value.int IntKind.i64 v.1.2)), V.d (D.v (Value.bool v.2)), V.d (D.v (Value.int IntKind.i64 v.3)), V.d (D.v (Value.string v.4)), V.d (D.sl (cellsL args))]), ((3 : Nat), B.box [V.d (D.v (Value.int IntKind.i64 op')), V.d (D.v (Value.int IntKind.i64 sub')), V.d (D.v (Value.int IntKind.i64 t'.1)), V.d (D.v (Value.int IntKind.i64 t'.2)), V.d (D.v (Value.int IntKind.i64 v'.1.1)), V.d (D.v (Value.int IntKind.i64 v'.1.2)), V.d (D.v (Value.bool v'.2)), V.d (D.v (Value.int IntKind.i64 v'.3)), V.d (D.v (Value.string v'.4)), V.d (D.sl (cellsL args'))])], kn := [], gd := [] : St }
  ∧ ∃ (n : Nat), inv_33 args args' n x0) ∧ ∀ (n_1 : Nat) (x : { X := Nat, sh := st_22 op sub t v args op' sub' t' v' args', P := fun (x : Nat) => inv_33 args args' : LX }.X),
  inv_33 args args' n_1 x → ∃ (es : List (List D)), D.sl (cellsL args) = D.sl es ∧ (decide ((↑x : Int) < (↑es.length : Int)) = true → ∃ (es : List
  (List D)), D.sl (cellsL args) = D.sl es ∧ ((0 : Int) ≤ (↑x : Int) ∧ (↑x : Int) < (↑es.length : Int)) ∧ ∃ (cells : List D), es[(↑x : Int).toNat]? =
  some cells ∧ cells.length = (10 : Nat) ∧ ∃ (n_2 : Int), ∃ (n_3 : Int), ∃ (n_4 : Int), ∃ (n_5 : Int), ∃ (n_6 : Int), ∃ (n_7 : Int), ∃ (b : Bool), ∃
  (n_8 : Int), ∃ (b_1 : ByteArray), ∃ (es : List (List D)), cut ((0 : Nat)) ((10 : Nat)) cells = some [D.v (Value.int IntKind.i64 n_2), D.v (Value.int
  IntKind.i64 n_3), D.v (Value.int IntKind.i64 n_4), D.v (Value.int IntKind.i64 n_5), D.v (Value.int IntKind.i64 n_6), D.v (Value.int IntKind.i64 n_7),
  D.v (Value.bool b), D.v (Value.int IntKind.i64 n_8), D.v (Value.string b_1), D.sl es] ∧ ∃ (es_2 : List (List D)), D.sl (cellsL args') = D.sl es_2 ∧
  ((0 : Int) ≤ (↑x : Int) ∧ (↑x : Int) < (↑es_2.length : Int)) ∧ ∃ (cells : List D), es_2[(↑x : Int).toNat]? = some cells ∧ cells.length = (10 : Nat) ∧
  ∃ (n_9 : Int), ∃ (n_10 : Int), ∃ (n_11 : Int), ∃ (n_12 : Int), ∃ (n_13 : Int), ∃ (n_14 : Int), ∃ (b_2 : Bool), ∃ (n_15 : Int), ∃ (b_3 : ByteArray), ∃
  (es_3 : List (List D)), cut ((0 : Nat)) ((10 : Nat)) cells = some [D.v (Value.int IntKind.i64 n_9), D.v (Value.int IntKind.i64 n_10), D.v (Value.int
  IntKind.i64 n_11), D.v (Value.int IntKind.i64 n_12), D.v (Value.int IntKind.i64 n_13), D.v (Value.int IntKind.i64 n_14), D.v (Value.bool b_2), D.v
  (Value.int IntKind.i64 n_15), D.v (Value.string b_3), D.sl es_3] ∧ ∃ (a : EX), ∃ (b_4 : EX), [D.v (Value.int IntKind.i64 n_2), D.v (Value.int
  IntKind.i64 n_3), D.v (Value.int IntKind.i64 n_4), D.v (Value.int IntKind.i64 n_5), D.v (Value.int IntKind.i64 n_6), D.v (Value.int IntKind.i64 n_7),
  D.v (Value.bool b), D.v (Value.int IntKind.i64 n_8), D.v (Value.string b_1), D.sl es] = Ex.cells a ∧ [D.v (Value.int IntKind.i64 n_9), D.v (Value.int
  IntKind.i64 n_10), D.v (Value.int IntKind.i64 n_11), D.v (Value.int IntKind.i64 n_12), D.v (Value.int IntKind.i64 n_13), D.v (Value.int IntKind.i64
  n_14), D.v (Value.bool b_2), D.v (Value.int IntKind.i64 n_15), D.v (Value.string b_3), D.sl es_3] = Ex.cells b_4 ∧ size a < n ∧ fits a ∧ fits b_4 ∧
  ((!sameE a b_4) = true → Q [R.d (D.v (Value.bool false))] []) ∧ ((!sameE a b_4) = false → ∃ (m : Nat), ∃ (x' : { X := Nat, sh := st_22 op sub t v args op' sub' t' v' args', P := fun (x : Nat) => inv_33 args args' : LX }.X),
  m < n_1 ∧ { tm := [((2 : Nat), V.ref ((2 : Nat)) ((0 : Nat))), ((3 : Nat), V.ref ((3 : Nat)) ((0 : Nat))), ((4 : Nat), V.d (D.v (Value.bool false))), ((5 : Nat), V.d (D.v (Value.int IntKind.i64 (IntKind.i64.wrap ((↑x : Int) + (1 : Int))))))], hp := [((2 : Nat), B.box [V.d (D.v (Value.int IntKind.i64 op)), V.d (D.v (Value.int IntKind.i64 sub)), V.d (D.v (Value.int IntKind.i64 t.1)), V.d (D.v (Value.int IntKind.i64 t.2)), V.d (D.v (Value.int IntKind.i64 v.1.1)), V.d (D.v (Value.int IntKind.i64 v.1.2)), V.d (D.v (Value.bool v.2)), V.d (D.v (Value.int IntKind.i64 v.3)), V.d (D.v (Value.string v.4)), V.d (D.sl (cellsL args))]), ((3 : Nat), B.box [V.d (D.v (Value.int IntKind.i64 op')), V.d (D.v (Value.int IntKind.i64 sub')), V.d (D.v (Value.int IntKind.i64 t'.1)), V.d (D.v (Value.int IntKind.i64 t'.2)), V.d (D.v (Value.int IntKind.i64 v'.1.1)), V.d (D.v (Value.int IntKind.i64 v'.1.2)), V.d (D.v (Value.bool v'.2)), V.d (D.v (Value.int IntKind.i64 v'.3)), V.d (D.v (Value.string v'.4)), V.d (D.sl (cellsL args'))])], kn := [], gd := [] : St }
  = { tm := [((2 : Nat), V.ref ((2 : Nat)) ((0 : Nat))), ((3 : Nat), V.ref ((3 : Nat)) ((0 : Nat))), ((4 : Nat), V.d (D.v (Value.bool false))), ((5 : Nat), V.d (D.v (Value.int IntKind.i64 (↑x' : Int))))], hp := [((2 : Nat), B.box [V.d (D.v (Value.int IntKind.i64 op)), V.d (D.v (Value.int IntKind.i64 sub)), V.d (D.v (Value.int IntKind.i64 t.1)), V.d (D.v (Value.int IntKind.i64 t.2)), V.d (D.v (Value.int IntKind.i64 v.1.1)), V.d (D.v (Value.int IntKind.i64 v.1.2)), V.d (D.v (Value.bool v.2)), V.d (D.v (Value.int IntKind.i64 v.3)), V.d (D.v (Value.string v.4)), V.d (D.sl (cellsL args))]), ((3 : Nat), B.box [V.d (D.v (Value.int IntKind.i64 op')), V.d (D.v (Value.int IntKind.i64 sub')), V.d (D.v (Value.int IntKind.i64 t'.1)), V.d (D.v (Value.int IntKind.i64 t'.2)), V.d (D.v (Value.int IntKind.i64 v'.1.1)), V.d (D.v (Value.int IntKind.i64 v'.1.2)), V.d (D.v (Value.bool v'.2)), V.d (D.v (Value.int IntKind.i64 v'.3)), V.d (D.v (Value.string v'.4)), V.d (D.sl (cellsL args'))])], kn := [], gd := [] : St }
  ∧ inv_33 args args' m x')) ∧ (decide ((↑x : Int) < (↑es.length : Int)) = false → Q [R.d (D.v (Value.bool true))] []))) := by kernel_rfl
theorem hdr_eq (op op' sub sub' : Int) (t t' : Ty) (v v' : Go.Ex.AV) : (bif bif bif op == op' then sub == sub' else false then t.1 == t'.1 && (t.2 == t'.2 && true) else false then v.1.1 == v'.1.1 && (v.1.2 == v'.1.2 && (v.2 == v'.2 && (v.3 == v'.3 && (v.4 == v'.4 && true)))) else false) = true ↔ op = op' ∧ sub = sub' ∧ t = t' ∧ v = v' := by
  have e : ∀ a b : ByteArray, (a == b) = decide (a = b) := fun a b => by
    rcases a with ⟨a⟩; rcases b with ⟨b⟩
    have : ((⟨a⟩ : ByteArray) == ⟨b⟩) = (a == b) := rfl
    rw [this, Bool.eq_iff_iff]
    simp
  rcases t with ⟨tk, ts⟩; rcases t' with ⟨tk', ts'⟩; rcases v with ⟨⟨vk, vs⟩, vn, vv, vb⟩; rcases v' with ⟨⟨vk', vs'⟩, vn', vv', vb'⟩
  simp only [e, Bool.cond_eq_ite, Bool.and_true]
  by_cases h1 : op = op' <;> by_cases h2 : sub = sub' <;> simp [h1, h2, and_assoc]
theorem hdr_ne (op op' sub sub' : Int) (t t' : Ty) (v v' : Go.Ex.AV) (n m : Nat) : (bif bif bif bif op != op' then true else sub != sub' then true else !(t.1 == t'.1 && (t.2 == t'.2 && true)) then true else !(v.1.1 == v'.1.1 && (v.1.2 == v'.1.2 && (v.2 == v'.2 && (v.3 == v'.3 && (v.4 == v'.4 && true))))) then true else ((n : Nat) : Int) != ((m : Nat) : Int)) = false ↔ (op = op' ∧ sub = sub' ∧ t = t' ∧ v = v') ∧ n = m := by
  rw [← hdr_eq]
  simp only [bne]
  generalize (op == op') = x1
  generalize (sub == sub') = x2
  generalize (t.1 == t'.1 && (t.2 == t'.2 && true)) = x3
  generalize (v.1.1 == v'.1.1 && (v.1.2 == v'.1.2 && (v.2 == v'.2 && (v.3 == v'.3 && (v.4 == v'.4 && true))))) = x4
  have e : (((n : Nat) : Int) == ((m : Nat) : Int)) = decide (n = m) := by
    rw [Bool.eq_iff_iff]; simp; omega
  rw [e]
  cases x1 <;> cases x2 <;> cases x3 <;> cases x4 <;> simp
theorem sameE_true {a b : EX} : sameE a b = true ↔ a = b := by simp [sameE]
theorem sameL_true {a b : List EX} : sameL a b = true ↔ a = b := by simp [sameL]
theorem sameE_mk (op op' sub sub' : Int) (t t' : Ty) (v v' : Go.Ex.AV) (a a' : List EX) : sameE (.mk op sub t v a) (.mk op' sub' t' v' a') = true ↔ (op = op' ∧ sub = sub' ∧ t = t' ∧ v = v') ∧ a = a' := by
  rw [sameE_true, EX.mk.injEq]
  constructor
  · rintro ⟨h1, h2, h3, h4, h5⟩; exact ⟨⟨h1, h2, h3, h4⟩, h5⟩
  · rintro ⟨⟨h1, h2, h3, h4⟩, h5⟩; exact ⟨h1, h2, h3, h4, h5⟩
theorem take_next {l r : List EX} {x : Nat} (h : l.take x = r.take x) (h1 : x < l.length) (h2 : x < r.length) : l.take (x + 1) = r.take (x + 1) ↔ l[x] = r[x] := by
  have a1 : l.take (x + 1) = l.take x ++ [l[x]] := by rw [List.take_add_one, List.getElem?_eq_getElem h1]; rfl
  have a2 : r.take (x + 1) = r.take x ++ [r[x]] := by rw [List.take_add_one, List.getElem?_eq_getElem h2]; rfl
  rw [a1, a2, h]
  exact ⟨fun e => List.head_eq_of_cons_eq (List.append_cancel_left e), fun e => by rw [e]⟩
theorem ct22 : ∀ (n : Nat) (a b : EX), size a < n → fits a → fits b → Ct prog gl 9 [.agg (cells a), .agg (cells b)] (gives [.d (.v (.bool (sameE a b)))])
  | 0, _, _, h, _, _ => absurd h (Nat.not_lt_zero _)
  | n + 1, .mk op sub t v args, .mk op' sub' t' v' args', hs, hf, hf' => by
    have hC : CallsOk prog gl (C_f22 n) := addC_ok C_66_ok (fun a K hk => by
      unfold c_22 at hk
      split at hk
      · obtain ⟨a, b, rfl, rfl, h1, h2, h3, h4⟩ := hk
        exact (ct22 n a b h1 h2 h3).gives h4
      · exact hk.elim)
    rw [cells_mk, cells_mk]
    refine ct_of_vc E_ok hC ioK_no it_ok mixed (fn := f9) (body := f9.body.getD .skip) (by kernel_rfl) (by kernel_rfl) (by kernel_rfl) (fi := fx_22 op sub t v args op' sub' t' v' args') (by kernel_rfl) (by kernel_rfl) ⟨_, _, rfl, rfl⟩ ?_
    rw [vc22]
    obtain ⟨_, hl, hfl⟩ := fits_mk hf
    obtain ⟨_, hl', hfl'⟩ := fits_mk hf'
    simp only [size] at hs
    refine ⟨cellsL args, rfl, cellsL args', rfl, fun h => ?_, fun h => ⟨(0 : Nat), ⟨rfl, args.length, ⟨⟨Nat.zero_le _, rfl⟩, rfl⟩⟩, fun m (x : Nat) hx => ⟨cellsL args, rfl, fun hi => ?_, fun hi => ?_⟩⟩⟩
    · have : sameE (.mk op sub t v args) (.mk op' sub' t' v' args') = false := by
        rw [← Bool.not_eq_true, sameE_mk]
        rintro ⟨hh, he⟩
        rw [cellsL_len, cellsL_len, (hdr_ne _ _ _ _ _ _ _ _ _ _).2 ⟨hh, by rw [he]⟩] at h; cases h
      rw [this]; exact ⟨rfl, rfl⟩
    · rw [cellsL_len, cellsL_len] at h
      obtain ⟨hh, h⟩ := (hdr_ne _ _ _ _ _ _ _ _ _ _).1 h
      have hi : x < args.length := by simpa [cellsL_len] using hi
      have hi' : x < args'.length := by omega
      obtain ⟨op1, sub1, t1, v1, a1, e1, g1⟩ := arg_get hi
      obtain ⟨op2, sub2, t2, v2, a2, e2, g2⟩ := arg_get hi'
      have hm := hx.1.2
      have hsz := size_mem (List.getElem_mem hi)
      refine ⟨cellsL args, rfl, ⟨by omega, by rw [cellsL_len]; omega⟩, _, g1, rfl, op1, sub1, t1.k, t1.sc, v1.t.k, v1.t.sc, v1.nul, v1.n, v1.s, cellsL a1, rfl, cellsL args', rfl, ⟨by omega, by rw [cellsL_len]; omega⟩, _, g2, rfl, op2, sub2, t2.k, t2.sc, v2.t.k, v2.t.sc, v2.nul, v2.n, v2.s, cellsL a2, rfl, args[x], args'[x], by rw [e1, cells_mk]; rfl, by rw [e2, cells_mk]; rfl, by omega, fitsL_mem hfl (List.getElem_mem hi), fitsL_mem hfl' (List.getElem_mem hi'), fun hc => ?_, fun hc => ?_⟩
      · have hne : ¬ args = args' := by
          rintro rfl
          have : sameE args[x] args[x] = true := sameE_true.2 rfl
          rw [this] at hc; cases hc
        have : sameE (.mk op sub t v args) (.mk op' sub' t' v' args') = false := by
          rw [← Bool.not_eq_true, sameE_mk]
          exact fun z => hne z.2
        rw [this]; exact ⟨rfl, rfl⟩
      · have hs2 : args[x] = args'[x] := sameE_true.1 (by simpa using hc)
        refine ⟨args.length - (x + 1), x + 1, by omega, by rw [wrap_next (by omega)], ⟨hi, rfl⟩, (take_next hx.2 hi hi').2 hs2⟩
    · rw [cellsL_len, cellsL_len] at h
      obtain ⟨hh, h⟩ := (hdr_ne _ _ _ _ _ _ _ _ _ _).1 h
      have hi : ¬ x < args.length := by simpa [cellsL_len] using hi
      have := hx.2
      rw [List.take_of_length_le (by omega), List.take_of_length_le (by omega)] at this
      have : sameE (.mk op sub t v args) (.mk op' sub' t' v' args') = true := (sameE_mk _ _ _ _ _ _ _ _ _ _).2 ⟨hh, this⟩
      rw [this]; exact ⟨rfl, rfl⟩
end Go.Proofs.Tryz
namespace Go.Proofs.Tryz
open Go Go.Dm Go.Ex
set_option maxRecDepth 100000
variable {gl : Nat → Option Obj}
end Go.Proofs.Tryz
namespace Go.Proofs.Tryz
open Go Go.Dm Go.Ex
set_option maxRecDepth 100000
variable {gl : Nat → Option Obj}
theorem vc128 (a b k : Int) (Q : List R → List (List D) → Prop) : vc E_0 C_66 noI fi78 (f78.body.getD .skip) f78.results.toList [.agg [.v (.int .i64 a), .v (.int .i64 b)], .ptr [.v (.int .i64 k)]] Q = (
  ∃ (n : Int), some [D.v (Value.int IntKind.i64 k)] = some [D.v (Value.int IntKind.i64 n)] ∧ Q [R.d (D.v (Value.bool (a != n)))] []) := by kernel_rfl
def c_128 (a : List R) (K : List R → List (List D) → Prop) : Prop := match a with
  | [.agg [.v (.int .i64 a), .v (.int .i64 b)], .ptr [.v (.int .i64 k)]] => K [.d (.v (.bool (a != k)))] []
  | _ => False
theorem c_128_ok (a : List R) (K : List R → List (List D) → Prop) (h : c_128 a K) : Ct prog gl 78 a K := by
  unfold c_128 at h
  split at h
  · rename_i a b k
    refine Ct.gives (r := [.d (.v (.bool (a != k)))]) (ct_of_vc E_ok C_66_ok ioK_no it_ok mixed (fn := f78) (body := f78.body.getD .skip) (by kernel_rfl) (by kernel_rfl) (by kernel_rfl) (fi := fi78) (by kernel_rfl) (by kernel_rfl) ⟨_, _, rfl, rfl⟩ ?_) h
    rw [vc128]
    exact ⟨k, rfl, rfl, rfl⟩
  · exact h.elim
def C_4a : CallT := addC C_66 78 c_128
theorem C_4a_ok : CallsOk prog gl C_4a := addC_ok C_66_ok c_128_ok
theorem any_take {α : Type} {p : α → Bool} {l : List α} {i : Nat} (hi : i < l.length) (h : ∀ v ∈ l.take i, p v = false) (hb : p l[i] = false) : ∀ v ∈ l.take (i + 1), p v = false := by
  intro v hv
  rw [List.take_add_one, List.getElem?_eq_getElem hi] at hv
  rcases List.mem_append.1 hv with hv | hv
  · exact h v hv
  · simp at hv; subst hv; exact hb
theorem any_none {α : Type} {p : α → Bool} {l : List α} (h : ∀ v ∈ l, p v = false) : l.any p = false := by
  rw [List.any_eq_false]; intro v hv; rw [h v hv]; simp
def badT (t : Ty) : Bool := s59_0 t.k t.sc
def offK (k : Int) (t : Ty) : Bool := t.k != k
def badV (v : Go.Ex.AV) : Bool := s55_0 v.t.k v.t.sc v.nul v.n v.s
def st_123a (l : List Ty) (x : Nat) : St := { tm := [(0, .d (.sl (l.map Ty.cs))), (1, .fn 36 []), (4, .d (.v (.int .i64 0))), (7, .d (.v (.int .i64 ((l.map Ty.cs).length : Int)))), (8, .d (.v (.int .i64 (x : Int))))], hp := [], kn := [], gd := [] }
def inv_123a (l : List Ty) (m : Nat) (x : Nat) : Prop := (x ≤ l.length ∧ m = l.length - x) ∧ ∀ v ∈ l.take x, badT v = false
def fx_123a (l : List Ty) : Fi := { fi73 with lx := [(2, { X := Nat, sh := st_123a l, P := fun _ => inv_123a l })] }
theorem vc123a (l : List Ty) (Q : List R → List (List D) → Prop) : vc E_0 C_4a noI (fx_123a l) (f73.body.getD .skip) f73.results.toList [.d (.sl (l.map Ty.cs)), .fn 36 []] Q = (
  ∃ (es : List (List D)), D.sl (List.map Ty.cs l) = D.sl es ∧ ∃ (x0 : { X := Nat, sh := st_123a l, P := fun (x : Nat) => inv_123a l : LX }.X), ({ tm := [((0 : Nat), V.d (D.sl (List.map Ty.cs l))), ((1 : Nat), V.fn ((36 : Nat)) []), ((4 : Nat), V.d (D.v (Value.int IntKind.i64 (0 : Int)))), ((7 : Nat), V.d (D.v (Value.int IntKind.i64 (↑es.length : Int)))), ((8 : Nat), V.d (D.v (Value.int IntKind.i64 (0 : Int))))], hp := [], kn := [], gd := [] : St }
  = { tm := [((0 : Nat), V.d (D.sl (List.map Ty.cs l))), ((1 : Nat), V.fn ((36 : Nat)) []), ((4 : Nat), V.d (D.v (Value.int IntKind.i64 (0 : Int)))), ((7 : Nat), V.d (D.v (Value.int IntKind.i64 (↑(List.map Ty.cs l).length : Int)))), ((8 : Nat), V.d (D.v (Value.int IntKind.i64 (↑x0 : Int))))], hp := [], kn := [], gd := [] : St }
  ∧ ∃ (n : Nat), inv_123a l n x0) ∧ ∀ (n : Nat) (x : { X := Nat, sh := st_123a l, P := fun (x : Nat) => inv_123a l : LX }.X), inv_123a l n x → (decide
  ((↑x : Int) < (↑(List.map Ty.cs l).length : Int)) = true → ∃ (es : List (List D)), D.sl (List.map Ty.cs l) = D.sl es ∧ ((0 : Int) ≤ (↑x : Int) ∧ (↑x
  : Int) < (↑es.length : Int)) ∧ ∃ (cells : List D), es[(↑x : Int).toNat]? = some cells ∧ cells.length = (2 : Nat) ∧ ∃ (n_1 : Int), ∃ (n_2 : Int), cut
  ((0 : Nat)) ((2 : Nat)) cells = some [D.v (Value.int IntKind.i64 n_1), D.v (Value.int IntKind.i64 n_2)] ∧ (s59_0 n_1 n_2 = true → Q [R.d (D.v
  (Value.int IntKind.i64 (↑x : Int)))] []) ∧ (s59_0 n_1 n_2 = false → ∃ (m : Nat), ∃ (x' : { X := Nat, sh := st_123a l, P := fun (x : Nat) => inv_123a l : LX }.X),
  m < n ∧ { tm := [((0 : Nat), V.d (D.sl (List.map Ty.cs l))), ((1 : Nat), V.fn ((36 : Nat)) []), ((4 : Nat), V.d (D.v (Value.int IntKind.i64 (0 : Int)))), ((7 : Nat), V.d (D.v (Value.int IntKind.i64 (↑(List.map Ty.cs l).length : Int)))), ((8 : Nat), V.d (D.v (Value.int IntKind.i64 (IntKind.i64.wrap ((↑x : Int) + (1 : Int))))))], hp := [], kn := [], gd := [] : St }
  = { tm := [((0 : Nat), V.d (D.sl (List.map Ty.cs l))), ((1 : Nat), V.fn ((36 : Nat)) []), ((4 : Nat), V.d (D.v (Value.int IntKind.i64 (0 : Int)))), ((7 : Nat), V.d (D.v (Value.int IntKind.i64 (↑(List.map Ty.cs l).length : Int)))), ((8 : Nat), V.d (D.v (Value.int IntKind.i64 (↑x' : Int))))], hp := [], kn := [], gd := [] : St }
  ∧ inv_123a l m x')) ∧ (decide ((↑x : Int) < (↑(List.map Ty.cs l).length : Int)) = false → Q [R.d (D.v (Value.int IntKind.i64 (-1 : Int)))] [])) := by kernel_rfl
theorem ct123a (l : List Ty) (hl : l.length < 4611686018427387904) : Ct prog gl 73 [.d (.sl (l.map Ty.cs)), .fn 36 []] (fun res fin => fin = [] ∧ ∃ r : Int, res = [.d (.v (.int .i64 r))] ∧ decide (r ≥ 0) = l.any (badT)) :=
  ct_of_vc E_ok C_4a_ok ioK_no it_ok mixed (fn := f73) (body := f73.body.getD .skip) (by kernel_rfl) (by kernel_rfl) (by kernel_rfl) (fi := fx_123a l) (by kernel_rfl) (by kernel_rfl) (by
    cases h : l.any (badT)
    · exact ⟨_, _, rfl, -1, rfl, rfl⟩
    · exact ⟨_, _, rfl, 0, rfl, rfl⟩) (by
    rw [vc123a]
    refine ⟨_, rfl, (0 : Nat), ⟨rfl, l.length, ⟨Nat.zero_le _, rfl⟩, by simp⟩, fun m (x : Nat) hx => ⟨fun hi => ?_, fun hi => ?_⟩⟩
    · have hi : x < l.length := by simpa using hi
      have hg : (l.map Ty.cs)[((x : Nat) : Int).toNat]? = some (Ty.cs l[x]) := by simp [hi]
      have hm := hx.1.2
      refine ⟨_, rfl, ⟨by omega, by simpa using hi⟩, _, hg, rfl, _, _, rfl, fun hb => ?_, fun hb => ?_⟩
      · refine ⟨rfl, (x : Int), rfl, ?_⟩
        rw [decide_eq_true (by omega)]
        exact (List.any_eq_true.2 ⟨l[x], List.getElem_mem hi, hb⟩).symm
      · exact ⟨l.length - (x + 1), x + 1, by omega, by rw [wrap_next (by omega)], ⟨hi, rfl⟩, any_take hi hx.2 hb⟩
    · have hi : ¬ x < l.length := by simpa using hi
      have h := hx.2
      rw [List.take_of_length_le (by omega)] at h
      refine ⟨rfl, -1, rfl, ?_⟩
      rw [any_none h]; rfl)
def st_123b (k : Int) (l : List Ty) (x : Nat) : St := { tm := [(0, .d (.sl (l.map Ty.cs))), (1, .fn 78 [.dptr [.v (.int .i64 k)]]), (4, .d (.v (.int .i64 0))), (7, .d (.v (.int .i64 ((l.map Ty.cs).length : Int)))), (8, .d (.v (.int .i64 (x : Int))))], hp := [], kn := [], gd := [] }
def inv_123b (k : Int) (l : List Ty) (m : Nat) (x : Nat) : Prop := (x ≤ l.length ∧ m = l.length - x) ∧ ∀ v ∈ l.take x, offK k v = false
def fx_123b (k : Int) (l : List Ty) : Fi := { fi73 with lx := [(2, { X := Nat, sh := st_123b k l, P := fun _ => inv_123b k l })] }
theorem vc123b (k : Int) (l : List Ty) (Q : List R → List (List D) → Prop) : vc E_0 C_4a noI (fx_123b k l) (f73.body.getD .skip) f73.results.toList [.d (.sl (l.map Ty.cs)), .fn 78 [.ptr [.v (.int .i64 k)]]] Q = (
  ∃ (es : List (List D)), D.sl (List.map Ty.cs l) = D.sl es ∧ ∃ (x0 : { X := Nat, sh := st_123b k l, P := fun (x : Nat) => inv_123b k l : LX }.X), ({ tm := [((0 : Nat), V.d (D.sl (List.map Ty.cs l))), ((1 : Nat), V.fn ((78 : Nat)) [V.dptr [D.v (Value.int IntKind.i64 k)]]), ((4 : Nat), V.d (D.v (Value.int IntKind.i64 (0 : Int)))), ((7 : Nat), V.d (D.v (Value.int IntKind.i64 (↑es.length : Int)))), ((8 : Nat), V.d (D.v (Value.int IntKind.i64 (0 : Int))))], hp := [], kn := [], gd := [] : St }
  = { tm := [((0 : Nat), V.d (D.sl (List.map Ty.cs l))), ((1 : Nat), V.fn ((78 : Nat)) [V.dptr [D.v (Value.int IntKind.i64 k)]]), ((4 : Nat), V.d (D.v (Value.int IntKind.i64 (0 : Int)))), ((7 : Nat), V.d (D.v (Value.int IntKind.i64 (↑(List.map Ty.cs l).length : Int)))), ((8 : Nat), V.d (D.v (Value.int IntKind.i64 (↑x0 : Int))))], hp := [], kn := [], gd := [] : St }
  ∧ ∃ (n : Nat), inv_123b k l n x0) ∧ ∀ (n : Nat) (x : { X := Nat, sh := st_123b k l, P := fun (x : Nat) => inv_123b k l : LX }.X), inv_123b k l n x →
  (decide ((↑x : Int) < (↑(List.map Ty.cs l).length : Int)) = true → ∃ (es : List (List D)), D.sl (List.map Ty.cs l) = D.sl es ∧ ((0 : Int) ≤ (↑x :
  Int) ∧ (↑x : Int) < (↑es.length : Int)) ∧ ∃ (cells : List D), es[(↑x : Int).toNat]? = some cells ∧ cells.length = (2 : Nat) ∧ ∃ (n_1 : Int), ∃ (n_2 :
  Int), cut ((0 : Nat)) ((2 : Nat)) cells = some [D.v (Value.int IntKind.i64 n_1), D.v (Value.int IntKind.i64 n_2)] ∧ ((n_1 != k) = true → Q [R.d (D.v
  (Value.int IntKind.i64 (↑x : Int)))] []) ∧ ((n_1 != k) = false → ∃ (m : Nat), ∃ (x' : { X := Nat, sh := st_123b k l, P := fun (x : Nat) => inv_123b k l : LX }.X),
  m < n ∧ { tm := [((0 : Nat), V.d (D.sl (List.map Ty.cs l))), ((1 : Nat), V.fn ((78 : Nat)) [V.dptr [D.v (Value.int IntKind.i64 k)]]), ((4 : Nat), V.d (D.v (Value.int IntKind.i64 (0 : Int)))), ((7 : Nat), V.d (D.v (Value.int IntKind.i64 (↑(List.map Ty.cs l).length : Int)))), ((8 : Nat), V.d (D.v (Value.int IntKind.i64 (IntKind.i64.wrap ((↑x : Int) + (1 : Int))))))], hp := [], kn := [], gd := [] : St }
  = { tm := [((0 : Nat), V.d (D.sl (List.map Ty.cs l))), ((1 : Nat), V.fn ((78 : Nat)) [V.dptr [D.v (Value.int IntKind.i64 k)]]), ((4 : Nat), V.d (D.v (Value.int IntKind.i64 (0 : Int)))), ((7 : Nat), V.d (D.v (Value.int IntKind.i64 (↑(List.map Ty.cs l).length : Int)))), ((8 : Nat), V.d (D.v (Value.int IntKind.i64 (↑x' : Int))))], hp := [], kn := [], gd := [] : St }
  ∧ inv_123b k l m x')) ∧ (decide ((↑x : Int) < (↑(List.map Ty.cs l).length : Int)) = false → Q [R.d (D.v (Value.int IntKind.i64 (-1 : Int)))] [])) := by kernel_rfl
theorem ct123b (k : Int) (l : List Ty) (hl : l.length < 4611686018427387904) : Ct prog gl 73 [.d (.sl (l.map Ty.cs)), .fn 78 [.ptr [.v (.int .i64 k)]]] (fun res fin => fin = [] ∧ ∃ r : Int, res = [.d (.v (.int .i64 r))] ∧ decide (r ≥ 0) = l.any (offK k)) :=
  ct_of_vc E_ok C_4a_ok ioK_no it_ok mixed (fn := f73) (body := f73.body.getD .skip) (by kernel_rfl) (by kernel_rfl) (by kernel_rfl) (fi := fx_123b k l) (by kernel_rfl) (by kernel_rfl) (by
    cases h : l.any (offK k)
    · exact ⟨_, _, rfl, -1, rfl, rfl⟩
    · exact ⟨_, _, rfl, 0, rfl, rfl⟩) (by
    rw [vc123b]
    refine ⟨_, rfl, (0 : Nat), ⟨rfl, l.length, ⟨Nat.zero_le _, rfl⟩, by simp⟩, fun m (x : Nat) hx => ⟨fun hi => ?_, fun hi => ?_⟩⟩
    · have hi : x < l.length := by simpa using hi
      have hg : (l.map Ty.cs)[((x : Nat) : Int).toNat]? = some (Ty.cs l[x]) := by simp [hi]
      have hm := hx.1.2
      refine ⟨_, rfl, ⟨by omega, by simpa using hi⟩, _, hg, rfl, _, _, rfl, fun hb => ?_, fun hb => ?_⟩
      · refine ⟨rfl, (x : Int), rfl, ?_⟩
        rw [decide_eq_true (by omega)]
        exact (List.any_eq_true.2 ⟨l[x], List.getElem_mem hi, hb⟩).symm
      · exact ⟨l.length - (x + 1), x + 1, by omega, by rw [wrap_next (by omega)], ⟨hi, rfl⟩, any_take hi hx.2 hb⟩
    · have hi : ¬ x < l.length := by simpa using hi
      have h := hx.2
      rw [List.take_of_length_le (by omega)] at h
      refine ⟨rfl, -1, rfl, ?_⟩
      rw [any_none h]; rfl)
def c_123 (a : List R) (K : List R → List (List D) → Prop) : Prop := match a with
  | [.d (.sl x), .fn 36 []] => ∃ l : List Ty, x = l.map Ty.cs ∧ l.length < 4611686018427387904 ∧ ∀ r : Int, decide (r ≥ 0) = l.any (badT) → K [.d (.v (.int .i64 r))] []
  | [.d (.sl x), .fn 78 [.ptr [.v (.int .i64 k)]]] => ∃ l : List Ty, x = l.map Ty.cs ∧ l.length < 4611686018427387904 ∧ ∀ r : Int, decide (r ≥ 0) = l.any (offK k) → K [.d (.v (.int .i64 r))] []
  | _ => False
theorem c_123_ok (a : List R) (K : List R → List (List D) → Prop) (h : c_123 a K) : Ct prog gl 73 a K := by
  unfold c_123 at h
  split at h
  · obtain ⟨l, rfl, h1, h2⟩ := h
    exact (ct123a l h1).mono fun res fin ⟨e1, r, e2, e3⟩ => by subst e1; subst e2; exact h2 r e3
  · obtain ⟨l, rfl, h1, h2⟩ := h
    exact (ct123b _ l h1).mono fun res fin ⟨e1, r, e2, e3⟩ => by subst e1; subst e2; exact h2 r e3
  · exact h.elim
def C_4b : CallT := addC C_4a 73 c_123
theorem C_4b_ok : CallsOk prog gl C_4b := addC_ok C_4a_ok c_123_ok
theorem vc58a (x : List (List D)) (Q : List R → List (List D) → Prop) : vc E_0 C_4b noI fi35 (f35.body.getD .skip) f35.results.toList [.d (.sl x), .fn 36 []] Q = (
  ∃ (l : List Ty), x = List.map Ty.cs l ∧ l.length < (4611686018427387904 : Nat) ∧ ∀ (r : Int), decide (r ≥ (0 : Int)) = l.any badT → Q [R.d (D.v
  (Value.bool (decide (r ≥ (0 : Int)))))] []) := by kernel_rfl
theorem vc58b (k : Int) (x : List (List D)) (Q : List R → List (List D) → Prop) : vc E_0 C_4b noI fi35 (f35.body.getD .skip) f35.results.toList [.d (.sl x), .fn 78 [.ptr [.v (.int .i64 k)]]] Q = (
  ∃ (l : List Ty), x = List.map Ty.cs l ∧ l.length < (4611686018427387904 : Nat) ∧ ∀ (r : Int), decide (r ≥ (0 : Int)) = l.any (offK k) → Q [R.d (D.v
  (Value.bool (decide (r ≥ (0 : Int)))))] []) := by kernel_rfl
def c_58 (a : List R) (K : List R → List (List D) → Prop) : Prop := match a with
  | [.d (.sl x), .fn 36 []] => ∃ l : List Ty, x = l.map Ty.cs ∧ l.length < 4611686018427387904 ∧ K [.d (.v (.bool (l.any (badT))))] []
  | [.d (.sl x), .fn 78 [.ptr [.v (.int .i64 k)]]] => ∃ l : List Ty, x = l.map Ty.cs ∧ l.length < 4611686018427387904 ∧ K [.d (.v (.bool (l.any (offK k))))] []
  | _ => False
theorem c_58_ok (a : List R) (K : List R → List (List D) → Prop) (h : c_58 a K) : Ct prog gl 35 a K := by
  unfold c_58 at h
  split at h
  · obtain ⟨l, rfl, h1, h2⟩ := h
    refine Ct.gives (r := [.d (.v (.bool (l.any (badT))))]) (ct_of_vc E_ok C_4b_ok ioK_no it_ok mixed (fn := f35) (body := f35.body.getD .skip) (by kernel_rfl) (by kernel_rfl) (by kernel_rfl) (fi := fi35) (by kernel_rfl) (by kernel_rfl) ⟨_, _, rfl, rfl⟩ ?_) h2
    rw [vc58a]
    exact ⟨l, rfl, h1, fun r hr => ⟨by rw [hr], rfl⟩⟩
  · rename_i x k
    obtain ⟨l, rfl, h1, h2⟩ := h
    refine Ct.gives (r := [.d (.v (.bool (l.any (offK k))))]) (ct_of_vc E_ok C_4b_ok ioK_no it_ok mixed (fn := f35) (body := f35.body.getD .skip) (by kernel_rfl) (by kernel_rfl) (by kernel_rfl) (fi := fi35) (by kernel_rfl) (by kernel_rfl) ⟨_, _, rfl, rfl⟩ ?_) h2
    rw [vc58b]
    exact ⟨l, rfl, h1, fun r hr => ⟨by rw [hr], rfl⟩⟩
  · exact h.elim
def C_4c : CallT := addC C_4b 35 c_58
theorem C_4c_ok : CallsOk prog gl C_4c := addC_ok C_4b_ok c_58_ok
def st_113 (l : List Go.Ex.AV) (x : Nat) : St := { tm := [(0, .d (.sl (l.map Go.Ex.AV.cs))), (1, .fn 87 []), (4, .d (.v (.int .i64 0))), (7, .d (.v (.int .i64 ((l.map Go.Ex.AV.cs).length : Int)))), (8, .d (.v (.int .i64 (x : Int))))], hp := [], kn := [], gd := [] }
def inv_113 (l : List Go.Ex.AV) (m : Nat) (x : Nat) : Prop := (x ≤ l.length ∧ m = l.length - x) ∧ ∀ v ∈ l.take x, badV v = false
def fx_113 (l : List Go.Ex.AV) : Fi := { fi110 with lx := [(2, { X := Nat, sh := st_113 l, P := fun _ => inv_113 l })] }
theorem vc113 (l : List Go.Ex.AV) (Q : List R → List (List D) → Prop) : vc E_0 C_4c noI (fx_113 l) (f110.body.getD .skip) f110.results.toList [.d (.sl (l.map Go.Ex.AV.cs)), .fn 87 []] Q = (
  ∃ (es : List (List D)), D.sl (List.map AV.cs l) = D.sl es ∧ ∃ (x0 : { X := Nat, sh := st_113 l, P := fun (x : Nat) => inv_113 l : LX }.X), ({ tm := [((0 : Nat), V.d (D.sl (List.map AV.cs l))), ((1 : Nat), V.fn ((87 : Nat)) []), ((4 : Nat), V.d (D.v (Value.int IntKind.i64 (0 : Int)))), ((7 : Nat), V.d (D.v (Value.int IntKind.i64 (↑es.length : Int)))), ((8 : Nat), V.d (D.v (Value.int IntKind.i64 (0 : Int))))], hp := [], kn := [], gd := [] : St }
  = { tm := [((0 : Nat), V.d (D.sl (List.map AV.cs l))), ((1 : Nat), V.fn ((87 : Nat)) []), ((4 : Nat), V.d (D.v (Value.int IntKind.i64 (0 : Int)))), ((7 : Nat), V.d (D.v (Value.int IntKind.i64 (↑(List.map AV.cs l).length : Int)))), ((8 : Nat), V.d (D.v (Value.int IntKind.i64 (↑x0 : Int))))], hp := [], kn := [], gd := [] : St }
  ∧ ∃ (n : Nat), inv_113 l n x0) ∧ ∀ (n : Nat) (x : { X := Nat, sh := st_113 l, P := fun (x : Nat) => inv_113 l : LX }.X), inv_113 l n x → (decide ((↑x
  : Int) < (↑(List.map AV.cs l).length : Int)) = true → ∃ (es : List (List D)), D.sl (List.map AV.cs l) = D.sl es ∧ ((0 : Int) ≤ (↑x : Int) ∧ (↑x :
  Int) < (↑es.length : Int)) ∧ ∃ (cells : List D), es[(↑x : Int).toNat]? = some cells ∧ cells.length = (5 : Nat) ∧ ∃ (n_1 : Int), ∃ (n_2 : Int), ∃ (b :
  Bool), ∃ (n_3 : Int), ∃ (b_1 : ByteArray), cut ((0 : Nat)) ((5 : Nat)) cells = some [D.v (Value.int IntKind.i64 n_1), D.v (Value.int IntKind.i64
  n_2), D.v (Value.bool b), D.v (Value.int IntKind.i64 n_3), D.v (Value.string b_1)] ∧ (s55_0 n_1 n_2 b n_3 b_1 = true → Q [R.d (D.v (Value.int
  IntKind.i64 (↑x : Int)))] []) ∧ (s55_0 n_1 n_2 b n_3 b_1 = false → ∃ (m : Nat), ∃ (x' : { X := Nat, sh := st_113 l, P := fun (x : Nat) => inv_113 l : LX }.X),
  m < n ∧ { tm := [((0 : Nat), V.d (D.sl (List.map AV.cs l))), ((1 : Nat), V.fn ((87 : Nat)) []), ((4 : Nat), V.d (D.v (Value.int IntKind.i64 (0 : Int)))), ((7 : Nat), V.d (D.v (Value.int IntKind.i64 (↑(List.map AV.cs l).length : Int)))), ((8 : Nat), V.d (D.v (Value.int IntKind.i64 (IntKind.i64.wrap ((↑x : Int) + (1 : Int))))))], hp := [], kn := [], gd := [] : St }
  = { tm := [((0 : Nat), V.d (D.sl (List.map AV.cs l))), ((1 : Nat), V.fn ((87 : Nat)) []), ((4 : Nat), V.d (D.v (Value.int IntKind.i64 (0 : Int)))), ((7 : Nat), V.d (D.v (Value.int IntKind.i64 (↑(List.map AV.cs l).length : Int)))), ((8 : Nat), V.d (D.v (Value.int IntKind.i64 (↑x' : Int))))], hp := [], kn := [], gd := [] : St }
  ∧ inv_113 l m x')) ∧ (decide ((↑x : Int) < (↑(List.map AV.cs l).length : Int)) = false → Q [R.d (D.v (Value.int IntKind.i64 (-1 : Int)))] [])) := by kernel_rfl
theorem ct113 (l : List Go.Ex.AV) (hl : l.length < 4611686018427387904) : Ct prog gl 110 [.d (.sl (l.map Go.Ex.AV.cs)), .fn 87 []] (fun res fin => fin = [] ∧ ∃ r : Int, res = [.d (.v (.int .i64 r))] ∧ decide (r ≥ 0) = l.any (badV)) :=
  ct_of_vc E_ok C_4c_ok ioK_no it_ok mixed (fn := f110) (body := f110.body.getD .skip) (by kernel_rfl) (by kernel_rfl) (by kernel_rfl) (fi := fx_113 l) (by kernel_rfl) (by kernel_rfl) (by
    cases h : l.any (badV)
    · exact ⟨_, _, rfl, -1, rfl, rfl⟩
    · exact ⟨_, _, rfl, 0, rfl, rfl⟩) (by
    rw [vc113]
    refine ⟨_, rfl, (0 : Nat), ⟨rfl, l.length, ⟨Nat.zero_le _, rfl⟩, by simp⟩, fun m (x : Nat) hx => ⟨fun hi => ?_, fun hi => ?_⟩⟩
    · have hi : x < l.length := by simpa using hi
      have hg : (l.map Go.Ex.AV.cs)[((x : Nat) : Int).toNat]? = some (Go.Ex.AV.cs l[x]) := by simp [hi]
      have hm := hx.1.2
      refine ⟨_, rfl, ⟨by omega, by simpa using hi⟩, _, hg, rfl, _, _, _, _, _, rfl, fun hb => ?_, fun hb => ?_⟩
      · refine ⟨rfl, (x : Int), rfl, ?_⟩
        rw [decide_eq_true (by omega)]
        exact (List.any_eq_true.2 ⟨l[x], List.getElem_mem hi, hb⟩).symm
      · exact ⟨l.length - (x + 1), x + 1, by omega, by rw [wrap_next (by omega)], ⟨hi, rfl⟩, any_take hi hx.2 hb⟩
    · have hi : ¬ x < l.length := by simpa using hi
      have h := hx.2
      rw [List.take_of_length_le (by omega)] at h
      refine ⟨rfl, -1, rfl, ?_⟩
      rw [any_none h]; rfl)
def c_113 (a : List R) (K : List R → List (List D) → Prop) : Prop := match a with
  | [.d (.sl x), .fn 87 []] => ∃ l : List Go.Ex.AV, x = l.map Go.Ex.AV.cs ∧ l.length < 4611686018427387904 ∧ ∀ r : Int, decide (r ≥ 0) = l.any (badV) → K [.d (.v (.int .i64 r))] []
  | _ => False
theorem c_113_ok (a : List R) (K : List R → List (List D) → Prop) (h : c_113 a K) : Ct prog gl 110 a K := by
  unfold c_113 at h
  split at h
  · obtain ⟨l, rfl, h1, h2⟩ := h
    exact (ct113 l h1).mono fun res fin ⟨e1, r, e2, e3⟩ => by subst e1; subst e2; exact h2 r e3
  · exact h.elim
def C_4d : CallT := addC C_4c 110 c_113
theorem C_4d_ok : CallsOk prog gl C_4d := addC_ok C_4c_ok c_113_ok
theorem vc54 (x : List (List D)) (Q : List R → List (List D) → Prop) : vc E_0 C_4d noI fi86 (f86.body.getD .skip) f86.results.toList [.d (.sl x), .fn 87 []] Q = (
  ∃ (l : List AV), x = List.map AV.cs l ∧ l.length < (4611686018427387904 : Nat) ∧ ∀ (r : Int), decide (r ≥ (0 : Int)) = l.any badV → Q [R.d (D.v
  (Value.bool (decide (r ≥ (0 : Int)))))] []) := by kernel_rfl
def c_54 (a : List R) (K : List R → List (List D) → Prop) : Prop := match a with
  | [.d (.sl x), .fn 87 []] => ∃ l : List Go.Ex.AV, x = l.map Go.Ex.AV.cs ∧ l.length < 4611686018427387904 ∧ K [.d (.v (.bool (l.any (badV))))] []
  | _ => False
theorem c_54_ok (a : List R) (K : List R → List (List D) → Prop) (h : c_54 a K) : Ct prog gl 86 a K := by
  unfold c_54 at h
  split at h
  · obtain ⟨l, rfl, h1, h2⟩ := h
    refine Ct.gives (r := [.d (.v (.bool (l.any (badV))))]) (ct_of_vc E_ok C_4d_ok ioK_no it_ok mixed (fn := f86) (body := f86.body.getD .skip) (by kernel_rfl) (by kernel_rfl) (by kernel_rfl) (fi := fi86) (by kernel_rfl) (by kernel_rfl) ⟨_, _, rfl, rfl⟩ ?_) h2
    rw [vc54]
    exact ⟨l, rfl, h1, fun r hr => ⟨by rw [hr], rfl⟩⟩
  · exact h.elim
def C_4e : CallT := addC C_4d 86 c_54
theorem C_4e_ok : CallsOk prog gl C_4e := addC_ok C_4d_ok c_54_ok
end Go.Proofs.Tryz
namespace Go.Proofs.Tryz
open Go Go.Dm Go.Ex
set_option maxRecDepth 100000
variable {gl : Nat → Option Obj}
def tyZ (t : Ty) : Bool := t.1 == (0 : Int) && (t.2 == (0 : Int) && true)
def valZ (v : Go.Ex.AV) : Bool := v.1.1 == (0 : Int) && (v.1.2 == (0 : Int) && (v.2 == false && (v.3 == (0 : Int) && (v.4 == ({ data := { toList := [] } } : ByteArray) && true))))
/-- May a node be, but for its types and its parts? -/
def mayHd (op sub : Int) (t : Ty) (v : Go.Ex.AV) (m c : Int) : Bool :=
  bif op == 1 then (bif bif bif m == 0 then (bif decide (sub ≥ 0) then decide (sub < c) else false) else false then tyZ t else false then valZ v else false)
  else bif op == 2 then (bif bif bif m == 0 then sub == 0 else false then tyZ t else false then s56_0 v.1.1 v.1.2 v.2 v.3 v.4 == 0 else false)
  else bif op == 9 then (bif bif bif m == 2 then (bif decide (sub ≥ 1) then decide (sub ≤ 6) else false) else false then tyZ t else false then valZ v else false)
  else bif op == 16 then (bif bif bif m == 1 then sub == 0 else false then s60_0 t.1 t.2 == 0 else false then valZ v else false)
  else bif (op == 8 || op == 12 || op == 13 || op == 18) then (bif bif bif m == 1 then sub == 0 else false then tyZ t else false then valZ v else false)
  else bif op == 14 then (bif bif bif (bif decide (m ≥ 3) then m.tmod 2 != 0 else false) then sub == 0 else false then tyZ t else false then valZ v else false)
  else bif op == 15 then (bif bif bif decide (m ≥ 1) then sub == 0 else false then tyZ t else false then valZ v else false)
  else bif (op == 3 || op == 4 || op == 5 || op == 6 || op == 7 || op == 10 || op == 11 || op == 17) then (bif bif bif m == 2 then sub == 0 else false then tyZ t else false then valZ v else false)
  else false
mutual
/-- May it be, but for its types? -/
def mayE (c : Int) : EX → Bool
  | .mk op sub t v args => mayHd op sub t v ((cellsL args).length : Int) c && mayL c args
def mayL (c : Int) : List EX → Bool
  | [] => true
  | e :: r => mayE c e && mayL c r
end
theorem mayL_all (c : Int) : ∀ l : List EX, mayL c l = l.all (mayE c)
  | [] => by simp [mayL]
  | e :: r => by simp [mayL, mayL_all c r]
theorem mayL_any (c : Int) (l : List EX) : (!mayL c l) = l.any (fun e => !mayE c e) := by
  rw [mayL_all, List.not_all_eq_any_not]
def c_63 (n : Nat) (a : List R) (K : List R → List (List D) → Prop) : Prop := match a with
  | [.agg x, .d (.v (.int .i64 c))] => ∃ e : EX, x = cells e ∧ size e < n ∧ fits e ∧ K [.d (.v (.bool (mayE c e)))] []
  | _ => False
def C_f126 (n : Nat) : CallT := addC C_4e 40 (c_63 n)
theorem vc126 (n : Nat) (op sub : Int) (t : Ty) (v : Go.Ex.AV) (args : List EX) (c : Int) (Q : List R → List (List D) → Prop) : vc E_0 (C_f126 n) noI fi76 (f76.body.getD .skip) f76.results.toList [.agg (encX op sub t v (cellsL args)), .ptr [.v (.int .i64 c)]] Q = (
  ∃ (n_1 : Int), some [D.v (Value.int IntKind.i64 c)] = some [D.v (Value.int IntKind.i64 n_1)] ∧ ∃ (e : EX), [D.v (Value.int IntKind.i64 op), D.v
  (Value.int IntKind.i64 sub), D.v (Value.int IntKind.i64 t.1), D.v (Value.int IntKind.i64 t.2), D.v (Value.int IntKind.i64 v.1.1), D.v (Value.int
  IntKind.i64 v.1.2), D.v (Value.bool v.2), D.v (Value.int IntKind.i64 v.3), D.v (Value.string v.4), D.sl (cellsL args)] = cells e ∧ size e < n ∧ fits
  e ∧ Q [R.d (D.v (Value.bool !mayE n_1 e))] []) := by kernel_rfl
def c_126 (n : Nat) (a : List R) (K : List R → List (List D) → Prop) : Prop := match a with
  | [.agg x, .ptr [.v (.int .i64 c)]] => ∃ e : EX, x = cells e ∧ size e < n ∧ fits e ∧ K [.d (.v (.bool (!mayE c e)))] []
  | _ => False
def C_f208 (n : Nat) : CallT := addC C_4e 76 (c_126 n)
def st_208 (k : Int) (l : List EX) (x : Nat) : St := { tm := [(0, .d (.sl (cellsL l))), (1, .fn 76 [.dptr [.v (.int .i64 k)]]), (4, .d (.v (.int .i64 0))), (7, .d (.v (.int .i64 ((cellsL l).length : Int)))), (8, .d (.v (.int .i64 (x : Int))))], hp := [], kn := [], gd := [] }
def inv_208 (k : Int) (l : List EX) (m : Nat) (x : Nat) : Prop := (x ≤ l.length ∧ m = l.length - x) ∧ ∀ e ∈ l.take x, (!mayE k e) = false
def fx_208 (k : Int) (l : List EX) : Fi := { fi84 with lx := [(2, { X := Nat, sh := st_208 k l, P := fun _ => inv_208 k l })] }
theorem vc208 (n : Nat) (k : Int) (l : List EX) (Q : List R → List (List D) → Prop) : vc E_0 (C_f208 n) noI (fx_208 k l) (f84.body.getD .skip) f84.results.toList [.d (.sl (cellsL l)), .fn 76 [.ptr [.v (.int .i64 k)]]] Q = (
  ∃ (es : List (List D)), D.sl (cellsL l) = D.sl es ∧ ∃ (x0 : { X := Nat, sh := st_208 k l, P := fun (x : Nat) => inv_208 k l : LX }.X), ({ tm := [((0 : Nat), V.d (D.sl (cellsL l))), ((1 : Nat), V.fn ((76 : Nat)) [V.dptr [D.v (Value.int IntKind.i64 k)]]), ((4 : Nat), V.d (D.v (Value.int IntKind.i64 (0 : Int)))), ((7 : Nat), V.d (D.v (Value.int IntKind.i64 (↑es.length : Int)))), ((8 : Nat), V.d (D.v (Value.int IntKind.i64 (0 : Int))))], hp := [], kn := [], gd := [] : St }
  = { tm := [((0 : Nat), V.d (D.sl (cellsL l))), ((1 : Nat), V.fn ((76 : Nat)) [V.dptr [D.v (Value.int IntKind.i64 k)]]), ((4 : Nat), V.d (D.v (Value.int IntKind.i64 (0 : Int)))), ((7 : Nat), V.d (D.v (Value.int IntKind.i64 (↑(cellsL l).length : Int)))), ((8 : Nat), V.d (D.v (Value.int IntKind.i64 (↑x0 : Int))))], hp := [], kn := [], gd := [] : St }
  ∧ ∃ (n : Nat), inv_208 k l n x0) ∧ ∀ (n_1 : Nat) (x : { X := Nat, sh := st_208 k l, P := fun (x : Nat) => inv_208 k l : LX }.X), inv_208 k l n_1 x →
  (decide ((↑x : Int) < (↑(cellsL l).length : Int)) = true → ∃ (es : List (List D)), D.sl (cellsL l) = D.sl es ∧ ((0 : Int) ≤ (↑x : Int) ∧ (↑x : Int) <
  (↑es.length : Int)) ∧ ∃ (cells : List D), es[(↑x : Int).toNat]? = some cells ∧ cells.length = (10 : Nat) ∧ ∃ (n_2 : Int), ∃ (n_3 : Int), ∃ (n_4 :
  Int), ∃ (n_5 : Int), ∃ (n_6 : Int), ∃ (n_7 : Int), ∃ (b : Bool), ∃ (n_8 : Int), ∃ (b_1 : ByteArray), ∃ (es : List (List D)), cut ((0 : Nat)) ((10 :
  Nat)) cells = some [D.v (Value.int IntKind.i64 n_2), D.v (Value.int IntKind.i64 n_3), D.v (Value.int IntKind.i64 n_4), D.v (Value.int IntKind.i64
  n_5), D.v (Value.int IntKind.i64 n_6), D.v (Value.int IntKind.i64 n_7), D.v (Value.bool b), D.v (Value.int IntKind.i64 n_8), D.v (Value.string b_1),
  D.sl es] ∧ ∃ (e : EX), [D.v (Value.int IntKind.i64 n_2), D.v (Value.int IntKind.i64 n_3), D.v (Value.int IntKind.i64 n_4), D.v (Value.int IntKind.i64
  n_5), D.v (Value.int IntKind.i64 n_6), D.v (Value.int IntKind.i64 n_7), D.v (Value.bool b), D.v (Value.int IntKind.i64 n_8), D.v (Value.string b_1),
  D.sl es] = Ex.cells e ∧ size e < n ∧ fits e ∧ ((!mayE k e) = true → Q [R.d (D.v (Value.int IntKind.i64 (↑x : Int)))] []) ∧ ((!mayE k e) = false → ∃
  (m : Nat), ∃ (x' : { X := Nat, sh := st_208 k l, P := fun (x : Nat) => inv_208 k l : LX }.X), m < n_1 ∧ { tm := [((0 : Nat), V.d (D.sl (cellsL l))), ((1 : Nat), V.fn ((76 : Nat)) [V.dptr [D.v (Value.int IntKind.i64 k)]]), ((4 : Nat), V.d (D.v (Value.int IntKind.i64 (0 : Int)))), ((7 : Nat), V.d (D.v (Value.int IntKind.i64 (↑(cellsL l).length : Int)))), ((8 : Nat), V.d (D.v (Value.int IntKind.i64 (IntKind.i64.wrap ((↑x : Int) + (1 : Int))))))], hp := [], kn := [], gd := [] : St }
  = { tm := [((0 : Nat), V.d (D.sl (cellsL l))), ((1 : Nat), V.fn ((76 : Nat)) [V.dptr [D.v (Value.int IntKind.i64 k)]]), ((4 : Nat), V.d (D.v (Value.int IntKind.i64 (0 : Int)))), ((7 : Nat), V.d (D.v (Value.int IntKind.i64 (↑(cellsL l).length : Int)))), ((8 : Nat), V.d (D.v (Value.int IntKind.i64 (↑x' : Int))))], hp := [], kn := [], gd := [] : St }
  ∧ inv_208 k l m x')) ∧ (decide ((↑x : Int) < (↑(cellsL l).length : Int)) = false → Q [R.d (D.v (Value.int IntKind.i64 (-1 : Int)))] [])) := by kernel_rfl
def c_208 (n : Nat) (a : List R) (K : List R → List (List D) → Prop) : Prop := match a with
  | [.d (.sl x), .fn 76 [.ptr [.v (.int .i64 c)]]] => ∃ l : List EX, x = cellsL l ∧ sizeL l < n ∧ l.length ≤ 1353245080300 ∧ fitsL l ∧ ∀ r : Int, decide (r ≥ 0) = (!mayL c l) → K [.d (.v (.int .i64 r))] []
  | _ => False
def C_f125 (n : Nat) : CallT := addC C_4e 84 (c_208 n)
theorem vc125 (n : Nat) (x : List (List D)) (c : Int) (Q : List R → List (List D) → Prop) : vc E_0 (C_f125 n) noI fi43 (f43.body.getD .skip) f43.results.toList [.d (.sl x), .fn 76 [.ptr [.v (.int .i64 c)]]] Q = (
  ∃ (l : List EX), x = cellsL l ∧ sizeL l < n ∧ l.length ≤ (1353245080300 : Nat) ∧ fitsL l ∧ ∀ (r : Int), decide (r ≥ (0 : Int)) = !mayL c l → Q [R.d
  (D.v (Value.bool (decide (r ≥ (0 : Int)))))] []) := by kernel_rfl
def c_125 (n : Nat) (a : List R) (K : List R → List (List D) → Prop) : Prop := match a with
  | [.d (.sl x), .fn 76 [.ptr [.v (.int .i64 c)]]] => ∃ l : List EX, x = cellsL l ∧ sizeL l < n ∧ l.length ≤ 1353245080300 ∧ fitsL l ∧ K [.d (.v (.bool (!mayL c l)))] []
  | _ => False
def C_f63 (n : Nat) : CallT := addC C_4e 43 (c_125 n)
def E_b : Env := { E_0 with bw := [43] }
theorem E_b_ok : EnvOk prog E_b := ⟨E_ok.te⟩
theorem it_b : ItOk prog E_b := fun _ _ _ h => h.elim
theorem vc63 (n : Nat) (op sub : Int) (t : Ty) (v : Go.Ex.AV) (args : List EX) (c : Int) (Q : List R → List (List D) → Prop) : vc E_b (C_f63 n) noI fi40 (f40.body.getD .skip) f40.results.toList [.agg (encX op sub t v (cellsL args)), .d (.v (.int .i64 c))] Q = (
  ∃ (es : List (List D)), D.sl (cellsL args) = D.sl es ∧ ((op == (1 : Int)) = true → ((bif bif bif (↑es.length : Int) == (0 : Int) then bif decide (sub ≥
  (0 : Int)) then decide (sub < c) else false else false then t.1 == (0 : Int) && (t.2 == (0 : Int) && true) else false then v.1.1 == (0 : Int) &&
  (v.1.2 == (0 : Int) && (v.2 == false && (v.3 == (0 : Int) && (v.4 == { data := { toList := [] : Array UInt8 } : ByteArray } && true)))) else false) =
  true → ∃ (l : List EX), cellsL args = cellsL l ∧ sizeL l < n ∧ l.length ≤ (1353245080300 : Nat) ∧ fitsL l ∧ Q [R.d (D.v (Value.bool !!mayL c l))] [])
  ∧ ((bif bif bif (↑es.length : Int) == (0 : Int) then bif decide (sub ≥ (0 : Int)) then decide (sub < c) else false else false then t.1 == (0 : Int)
  && (t.2 == (0 : Int) && true) else false then v.1.1 == (0 : Int) && (v.1.2 == (0 : Int) && (v.2 == false && (v.3 == (0 : Int) && (v.4 == { data := { toList := [] : Array UInt8 } : ByteArray }
  && true)))) else false) = !true → Q [R.d (D.v (Value.bool false))] [])) ∧ ((op == (1 : Int)) = false → ((op == (2 : Int)) = true → ((bif bif bif
  (↑es.length : Int) == (0 : Int) then sub == (0 : Int) else false then t.1 == (0 : Int) && (t.2 == (0 : Int) && true) else false then s56_0 v.1.1
  v.1.2 v.2 v.3 v.4 == (0 : Int) else false) = true → ∃ (l : List EX), cellsL args = cellsL l ∧ sizeL l < n ∧ l.length ≤ (1353245080300 : Nat) ∧ fitsL
  l ∧ Q [R.d (D.v (Value.bool !!mayL c l))] []) ∧ ((bif bif bif (↑es.length : Int) == (0 : Int) then sub == (0 : Int) else false then t.1 == (0 : Int)
  && (t.2 == (0 : Int) && true) else false then s56_0 v.1.1 v.1.2 v.2 v.3 v.4 == (0 : Int) else false) = !true → Q [R.d (D.v (Value.bool false))] []))
  ∧ ((op == (2 : Int)) = false → ((op == (9 : Int)) = true → ((bif bif bif (↑es.length : Int) == (2 : Int) then bif decide (sub ≥ (1 : Int)) then
  decide (sub ≤ (6 : Int)) else false else false then t.1 == (0 : Int) && (t.2 == (0 : Int) && true) else false then v.1.1 == (0 : Int) && (v.1.2 == (0
  : Int) && (v.2 == false && (v.3 == (0 : Int) && (v.4 == { data := { toList := [] : Array UInt8 } : ByteArray } && true)))) else false) = true → ∃ (l
  : List EX), cellsL args = cellsL l ∧ sizeL l < n ∧ l.length ≤ (1353245080300 : Nat) ∧ fitsL l ∧ Q [R.d (D.v (Value.bool !!mayL c l))] []) ∧ ((bif bif
  bif (↑es.length : Int) == (2 : Int) then bif decide (sub ≥ (1 : Int)) then decide (sub ≤ (6 : Int)) else false else false then t.1 == (0 : Int) &&
  (t.2 == (0 : Int) && true) else false then v.1.1 == (0 : Int) && (v.1.2 == (0 : Int) && (v.2 == false && (v.3 == (0 : Int) && (v.4 == { data := { toList := [] : Array UInt8 } : ByteArray }
  && true)))) else false) = !true → Q [R.d (D.v (Value.bool false))] [])) ∧ ((op == (9 : Int)) = false → ((op == (16 : Int)) = true → ((bif bif bif
  (↑es.length : Int) == (1 : Int) then sub == (0 : Int) else false then s60_0 t.1 t.2 == (0 : Int) else false then v.1.1 == (0 : Int) && (v.1.2 == (0 :
  Int) && (v.2 == false && (v.3 == (0 : Int) && (v.4 == { data := { toList := [] : Array UInt8 } : ByteArray } && true)))) else false) = true → ∃ (l :
  List EX), cellsL args = cellsL l ∧ sizeL l < n ∧ l.length ≤ (1353245080300 : Nat) ∧ fitsL l ∧ Q [R.d (D.v (Value.bool !!mayL c l))] []) ∧ ((bif bif
  bif (↑es.length : Int) == (1 : Int) then sub == (0 : Int) else false then s60_0 t.1 t.2 == (0 : Int) else false then v.1.1 == (0 : Int) && (v.1.2 ==
  (0 : Int) && (v.2 == false && (v.3 == (0 : Int) && (v.4 == { data := { toList := [] : Array UInt8 } : ByteArray } && true)))) else false) = !true → Q
  [R.d (D.v (Value.bool false))] [])) ∧ ((op == (16 : Int)) = false → ((op == (8 : Int)) = true → ((bif bif bif (↑es.length : Int) == (1 : Int) then
  sub == (0 : Int) else false then t.1 == (0 : Int) && (t.2 == (0 : Int) && true) else false then v.1.1 == (0 : Int) && (v.1.2 == (0 : Int) && (v.2 ==
  false && (v.3 == (0 : Int) && (v.4 == { data := { toList := [] : Array UInt8 } : ByteArray } && true)))) else false) = true → ∃ (l : List EX), cellsL
  args = cellsL l ∧ sizeL l < n ∧ l.length ≤ (1353245080300 : Nat) ∧ fitsL l ∧ Q [R.d (D.v (Value.bool !!mayL c l))] []) ∧ ((bif bif bif (↑es.length :
  Int) == (1 : Int) then sub == (0 : Int) else false then t.1 == (0 : Int) && (t.2 == (0 : Int) && true) else false then v.1.1 == (0 : Int) && (v.1.2
  == (0 : Int) && (v.2 == false && (v.3 == (0 : Int) && (v.4 == { data := { toList := [] : Array UInt8 } : ByteArray } && true)))) else false) = !true
  → Q [R.d (D.v (Value.bool false))] [])) ∧ ((op == (8 : Int)) = false → ((op == (12 : Int)) = true → ((bif bif bif (↑es.length : Int) == (1 : Int)
  then sub == (0 : Int) else false then t.1 == (0 : Int) && (t.2 == (0 : Int) && true) else false then v.1.1 == (0 : Int) && (v.1.2 == (0 : Int) &&
  (v.2 == false && (v.3 == (0 : Int) && (v.4 == { data := { toList := [] : Array UInt8 } : ByteArray } && true)))) else false) = true → ∃ (l : List
  EX), cellsL args = cellsL l ∧ sizeL l < n ∧ l.length ≤ (1353245080300 : Nat) ∧ fitsL l ∧ Q [R.d (D.v (Value.bool !!mayL c l))] []) ∧ ((bif bif bif
  (↑es.length : Int) == (1 : Int) then sub == (0 : Int) else false then t.1 == (0 : Int) && (t.2 == (0 : Int) && true) else false then v.1.1 == (0 :
  Int) && (v.1.2 == (0 : Int) && (v.2 == false && (v.3 == (0 : Int) && (v.4 == { data := { toList := [] : Array UInt8 } : ByteArray } && true)))) else
  false) = !true → Q [R.d (D.v (Value.bool false))] [])) ∧ ((op == (12 : Int)) = false → ((op == (13 : Int)) = true → ((bif bif bif (↑es.length : Int)
  == (1 : Int) then sub == (0 : Int) else false then t.1 == (0 : Int) && (t.2 == (0 : Int) && true) else false then v.1.1 == (0 : Int) && (v.1.2 == (0
  : Int) && (v.2 == false && (v.3 == (0 : Int) && (v.4 == { data := { toList := [] : Array UInt8 } : ByteArray } && true)))) else false) = true → ∃ (l
  : List EX), cellsL args = cellsL l ∧ sizeL l < n ∧ l.length ≤ (1353245080300 : Nat) ∧ fitsL l ∧ Q [R.d (D.v (Value.bool !!mayL c l))] []) ∧ ((bif bif
  bif (↑es.length : Int) == (1 : Int) then sub == (0 : Int) else false then t.1 == (0 : Int) && (t.2 == (0 : Int) && true) else false then v.1.1 == (0
  : Int) && (v.1.2 == (0 : Int) && (v.2 == false && (v.3 == (0 : Int) && (v.4 == { data := { toList := [] : Array UInt8 } : ByteArray } && true))))
  else false) = !true → Q [R.d (D.v (Value.bool false))] [])) ∧ ((op == (13 : Int)) = false → ((op == (18 : Int)) = true → ((bif bif bif (↑es.length :
  Int) == (1 : Int) then sub == (0 : Int) else false then t.1 == (0 : Int) && (t.2 == (0 : Int) && true) else false then v.1.1 == (0 : Int) && (v.1.2
  == (0 : Int) && (v.2 == false && (v.3 == (0 : Int) && (v.4 == { data := { toList := [] : Array UInt8 } : ByteArray } && true)))) else false) = true →
  ∃ (l : List EX), cellsL args = cellsL l ∧ sizeL l < n ∧ l.length ≤ (1353245080300 : Nat) ∧ fitsL l ∧ Q [R.d (D.v (Value.bool !!mayL c l))] []) ∧
  ((bif bif bif (↑es.length : Int) == (1 : Int) then sub == (0 : Int) else false then t.1 == (0 : Int) && (t.2 == (0 : Int) && true) else false then
  v.1.1 == (0 : Int) && (v.1.2 == (0 : Int) && (v.2 == false && (v.3 == (0 : Int) && (v.4 == { data := { toList := [] : Array UInt8 } : ByteArray } &&
  true)))) else false) = !true → Q [R.d (D.v (Value.bool false))] [])) ∧ ((op == (18 : Int)) = false → ((op == (14 : Int)) = true → (2 : Int) ≠ (0 :
  Int) ∧ ((bif bif bif bif decide ((↑es.length : Int) ≥ (3 : Int)) then (↑es.length : Int).tmod (2 : Int) != (0 : Int) else false then sub == (0 : Int)
  else false then t.1 == (0 : Int) && (t.2 == (0 : Int) && true) else false then v.1.1 == (0 : Int) && (v.1.2 == (0 : Int) && (v.2 == false && (v.3 ==
  (0 : Int) && (v.4 == { data := { toList := [] : Array UInt8 } : ByteArray } && true)))) else false) = true → ∃ (l : List EX), cellsL args = cellsL l
  ∧ sizeL l < n ∧ l.length ≤ (1353245080300 : Nat) ∧ fitsL l ∧ Q [R.d (D.v (Value.bool !!mayL c l))] []) ∧ ((bif bif bif bif decide ((↑es.length : Int)
  ≥ (3 : Int)) then (↑es.length : Int).tmod (2 : Int) != (0 : Int) else false then sub == (0 : Int) else false then t.1 == (0 : Int) && (t.2 == (0 :
  Int) && true) else false then v.1.1 == (0 : Int) && (v.1.2 == (0 : Int) && (v.2 == false && (v.3 == (0 : Int) && (v.4 == { data := { toList := [] : Array UInt8 } : ByteArray }
  && true)))) else false) = !true → Q [R.d (D.v (Value.bool false))] [])) ∧ ((op == (14 : Int)) = false → ((op == (15 : Int)) = true → ((bif bif bif
  decide ((↑es.length : Int) ≥ (1 : Int)) then sub == (0 : Int) else false then t.1 == (0 : Int) && (t.2 == (0 : Int) && true) else false then v.1.1 ==
  (0 : Int) && (v.1.2 == (0 : Int) && (v.2 == false && (v.3 == (0 : Int) && (v.4 == { data := { toList := [] : Array UInt8 } : ByteArray } && true))))
  else false) = true → ∃ (l : List EX), cellsL args = cellsL l ∧ sizeL l < n ∧ l.length ≤ (1353245080300 : Nat) ∧ fitsL l ∧ Q [R.d (D.v (Value.bool
  !!mayL c l))] []) ∧ ((bif bif bif decide ((↑es.length : Int) ≥ (1 : Int)) then sub == (0 : Int) else false then t.1 == (0 : Int) && (t.2 == (0 : Int)
  && true) else false then v.1.1 == (0 : Int) && (v.1.2 == (0 : Int) && (v.2 == false && (v.3 == (0 : Int) && (v.4 == { data := { toList := [] : Array UInt8 } : ByteArray }
  && true)))) else false) = !true → Q [R.d (D.v (Value.bool false))] [])) ∧ ((op == (15 : Int)) = false → ((op == (3 : Int)) = true → ((bif bif bif
  (↑es.length : Int) == (2 : Int) then sub == (0 : Int) else false then t.1 == (0 : Int) && (t.2 == (0 : Int) && true) else false then v.1.1 == (0 :
  Int) && (v.1.2 == (0 : Int) && (v.2 == false && (v.3 == (0 : Int) && (v.4 == { data := { toList := [] : Array UInt8 } : ByteArray } && true)))) else
  false) = true → ∃ (l : List EX), cellsL args = cellsL l ∧ sizeL l < n ∧ l.length ≤ (1353245080300 : Nat) ∧ fitsL l ∧ Q [R.d (D.v (Value.bool !!mayL c
  l))] []) ∧ ((bif bif bif (↑es.length : Int) == (2 : Int) then sub == (0 : Int) else false then t.1 == (0 : Int) && (t.2 == (0 : Int) && true) else
  false then v.1.1 == (0 : Int) && (v.1.2 == (0 : Int) && (v.2 == false && (v.3 == (0 : Int) && (v.4 == { data := { toList := [] : Array UInt8 } : ByteArray }
  && true)))) else false) = !true → Q [R.d (D.v (Value.bool false))] [])) ∧ ((op == (3 : Int)) = false → ((op == (4 : Int)) = true → ((bif bif bif
  (↑es.length : Int) == (2 : Int) then sub == (0 : Int) else false then t.1 == (0 : Int) && (t.2 == (0 : Int) && true) else false then v.1.1 == (0 :
  Int) && (v.1.2 == (0 : Int) && (v.2 == false && (v.3 == (0 : Int) && (v.4 == { data := { toList := [] : Array UInt8 } : ByteArray } && true)))) else
  false) = true → ∃ (l : List EX), cellsL args = cellsL l ∧ sizeL l < n ∧ l.length ≤ (1353245080300 : Nat) ∧ fitsL l ∧ Q [R.d (D.v (Value.bool !!mayL c
  l))] []) ∧ ((bif bif bif (↑es.length : Int) == (2 : Int) then sub == (0 : Int) else false then t.1 == (0 : Int) && (t.2 == (0 : Int) && true) else
  false then v.1.1 == (0 : Int) && (v.1.2 == (0 : Int) && (v.2 == false && (v.3 == (0 : Int) && (v.4 == { data := { toList := [] : Array UInt8 } : ByteArray }
  && true)))) else false) = !true → Q [R.d (D.v (Value.bool false))] [])) ∧ ((op == (4 : Int)) = false → ((op == (5 : Int)) = true → ((bif bif bif
  (↑es.length : Int) == (2 : Int) then sub == (0 : Int) else false then t.1 == (0 : Int) && (t.2 == (0 : Int) && true) else false then v.1.1 == (0 :
  Int) && (v.1.2 == (0 : Int) && (v.2 == false && (v.3 == (0 : Int) && (v.4 == { data := { toList := [] : Array UInt8 } : ByteArray } && true)))) else
  false) = true → ∃ (l : List EX), cellsL args = cellsL l ∧ sizeL l < n ∧ l.length ≤ (1353245080300 : Nat) ∧ fitsL l ∧ Q [R.d (D.v (Value.bool !!mayL c
  l))] []) ∧ ((bif bif bif (↑es.length : Int) == (2 : Int) then sub == (0 : Int) else false then t.1 == (0 : Int) && (t.2 == (0 : Int) && true) else
  false then v.1.1 == (0 : Int) && (v.1.2 == (0 : Int) && (v.2 == false && (v.3 == (0 : Int) && (v.4 == { data := { toList := [] : Array UInt8 } : ByteArray }
  && true)))) else false) = !true → Q [R.d (D.v (Value.bool false))] [])) ∧ ((op == (5 : Int)) = false → ((op == (6 : Int)) = true → ((bif bif bif
  (↑es.length : Int) == (2 : Int) then sub == (0 : Int) else false then t.1 == (0 : Int) && (t.2 == (0 : Int) && true) else false then v.1.1 == (0 :
  Int) && (v.1.2 == (0 : Int) && (v.2 == false && (v.3 == (0 : Int) && (v.4 == { data := { toList := [] : Array UInt8 } : ByteArray } && true)))) else
  false) = true → ∃ (l : List EX), cellsL args = cellsL l ∧ sizeL l < n ∧ l.length ≤ (1353245080300 : Nat) ∧ fitsL l ∧ Q [R.d (D.v (Value.bool !!mayL c
  l))] []) ∧ ((bif bif bif (↑es.length : Int) == (2 : Int) then sub == (0 : Int) else false then t.1 == (0 : Int) && (t.2 == (0 : Int) && true) else
  false then v.1.1 == (0 : Int) && (v.1.2 == (0 : Int) && (v.2 == false && (v.3 == (0 : Int) && (v.4 == { data := { toList := [] : Array UInt8 } : ByteArray }
  && true)))) else false) = !true → Q [R.d (D.v (Value.bool false))] [])) ∧ ((op == (6 : Int)) = false → ((op == (7 : Int)) = true → ((bif bif bif
  (↑es.length : Int) == (2 : Int) then sub == (0 : Int) else false then t.1 == (0 : Int) && (t.2 == (0 : Int) && true) else false then v.1.1 == (0 :
  Int) && (v.1.2 == (0 : Int) && (v.2 == false && (v.3 == (0 : Int) && (v.4 == { data := { toList := [] : Array UInt8 } : ByteArray } && true)))) else
  false) = true → ∃ (l : List EX), cellsL args = cellsL l ∧ sizeL l < n ∧ l.length ≤ (1353245080300 : Nat) ∧ fitsL l ∧ Q [R.d (D.v (Value.bool !!mayL c
  l))] []) ∧ ((bif bif bif (↑es.length : Int) == (2 : Int) then sub == (0 : Int) else false then t.1 == (0 : Int) && (t.2 == (0 : Int) && true) else
  false then v.1.1 == (0 : Int) && (v.1.2 == (0 : Int) && (v.2 == false && (v.3 == (0 : Int) && (v.4 == { data := { toList := [] : Array UInt8 } : ByteArray }
  && true)))) else false) = !true → Q [R.d (D.v (Value.bool false))] [])) ∧ ((op == (7 : Int)) = false → ((op == (10 : Int)) = true → ((bif bif bif
  (↑es.length : Int) == (2 : Int) then sub == (0 : Int) else false then t.1 == (0 : Int) && (t.2 == (0 : Int) && true) else false then v.1.1 == (0 :
  Int) && (v.1.2 == (0 : Int) && (v.2 == false && (v.3 == (0 : Int) && (v.4 == { data := { toList := [] : Array UInt8 } : ByteArray } && true)))) else
  false) = true → ∃ (l : List EX), cellsL args = cellsL l ∧ sizeL l < n ∧ l.length ≤ (1353245080300 : Nat) ∧ fitsL l ∧ Q [R.d (D.v (Value.bool !!mayL c
  l))] []) ∧ ((bif bif bif (↑es.length : Int) == (2 : Int) then sub == (0 : Int) else false then t.1 == (0 : Int) && (t.2 == (0 : Int) && true) else
  false then v.1.1 == (0 : Int) && (v.1.2 == (0 : Int) && (v.2 == false && (v.3 == (0 : Int) && (v.4 == { data := { toList := [] : Array UInt8 } : ByteArray }
  && true)))) else false) = !true → Q [R.d (D.v (Value.bool false))] [])) ∧ ((op == (10 : Int)) = false → ((op == (11 : Int)) = true → ((bif bif bif
  (↑es.length : Int) == (2 : Int) then sub == (0 : Int) else false then t.1 == (0 : Int) && (t.2 == (0 : Int) && true) else false then v.1.1 == (0 :
  Int) && (v.1.2 == (0 : Int) && (v.2 == false && (v.3 == (0 : Int) && (v.4 == { data := { toList := [] : Array UInt8 } : ByteArray } && true)))) else
  false) = true → ∃ (l : List EX), cellsL args = cellsL l ∧ sizeL l < n ∧ l.length ≤ (1353245080300 : Nat) ∧ fitsL l ∧ Q [R.d (D.v (Value.bool !!mayL c
  l))] []) ∧ ((bif bif bif (↑es.length : Int) == (2 : Int) then sub == (0 : Int) else false then t.1 == (0 : Int) && (t.2 == (0 : Int) && true) else
  false then v.1.1 == (0 : Int) && (v.1.2 == (0 : Int) && (v.2 == false && (v.3 == (0 : Int) && (v.4 == { data := { toList := [] : Array UInt8 } : ByteArray }
  && true)))) else false) = !true → Q [R.d (D.v (Value.bool false))] [])) ∧ ((op == (11 : Int)) = false → ((op == (17 : Int)) = true → ((bif bif bif
  (↑es.length : Int) == (2 : Int) then sub == (0 : Int) else false then t.1 == (0 : Int) && (t.2 == (0 : Int) && true) else false then v.1.1 == (0 :
  Int) && (v.1.2 == (0 : Int) && (v.2 == false && (v.3 == (0 : Int) && (v.4 == { data := { toList := [] : Array UInt8 } : ByteArray } && true)))) else
  false) = true → ∃ (l : List EX), cellsL args = cellsL l ∧ sizeL l < n ∧ l.length ≤ (1353245080300 : Nat) ∧ fitsL l ∧ Q [R.d (D.v (Value.bool !!mayL c
  l))] []) ∧ ((bif bif bif (↑es.length : Int) == (2 : Int) then sub == (0 : Int) else false then t.1 == (0 : Int) && (t.2 == (0 : Int) && true) else
  false then v.1.1 == (0 : Int) && (v.1.2 == (0 : Int) && (v.2 == false && (v.3 == (0 : Int) && (v.4 == { data := { toList := [] : Array UInt8 } : ByteArray }
  && true)))) else false) = !true → Q [R.d (D.v (Value.bool false))] [])) ∧ ((op == (17 : Int)) = false → ((bif bif bif false then sub == (0 : Int)
  else false then t.1 == (0 : Int) && (t.2 == (0 : Int) && true) else false then v.1.1 == (0 : Int) && (v.1.2 == (0 : Int) && (v.2 == false && (v.3 ==
  (0 : Int) && (v.4 == { data := { toList := [] : Array UInt8 } : ByteArray } && true)))) else false) = true → ∃ (l : List EX), cellsL args = cellsL l
  ∧ sizeL l < n ∧ l.length ≤ (1353245080300 : Nat) ∧ fitsL l ∧ Q [R.d (D.v (Value.bool !!mayL c l))] []) ∧ ((bif bif bif false then sub == (0 : Int)
  else false then t.1 == (0 : Int) && (t.2 == (0 : Int) && true) else false then v.1.1 == (0 : Int) && (v.1.2 == (0 : Int) && (v.2 == false && (v.3 ==
  (0 : Int) && (v.4 == { data := { toList := [] : Array UInt8 } : ByteArray } && true)))) else false) = !true → Q [R.d (D.v (Value.bool false))]
  [])))))))))))))))))))) := by kernel_rfl
/-- The contract of may, for what is less than n. -/
def P63 (gl : Nat → Option Obj) (n : Nat) : Prop := ∀ (e : EX) (c : Int), size e < n → fits e → Ct prog gl 40 [.agg (cells e), .d (.v (.int .i64 c))] (gives [.d (.v (.bool (mayE c e)))])
theorem ct126_of {n : Nat} (h63 : P63 gl n) : ∀ (e : EX) (c : Int), size e < n → fits e → Ct prog gl 76 [.agg (cells e), .ptr [.v (.int .i64 c)]] (gives [.d (.v (.bool (!mayE c e)))])
  | .mk op sub t v args, c, hs, hf => by
    have hC : CallsOk prog gl (C_f126 n) := addC_ok C_4e_ok (fun a K hk => by
      unfold c_63 at hk
      split at hk
      · obtain ⟨e, rfl, h1, h2, h3⟩ := hk
        exact (h63 e _ h1 h2).gives h3
      · exact hk.elim)
    rw [cells_mk]
    refine ct_of_vc E_ok hC ioK_no it_ok mixed (fn := f76) (body := f76.body.getD .skip) (by kernel_rfl) (by kernel_rfl) (by kernel_rfl) (fi := fi76) (by kernel_rfl) (by kernel_rfl) ⟨_, _, rfl, rfl⟩ ?_
    rw [vc126]
    exact ⟨c, rfl, .mk op sub t v args, by rw [cells_mk]; rfl, hs, hf, rfl, rfl⟩
theorem ct208_of {n : Nat} (h63 : P63 gl n) (l : List EX) (c : Int) (hs : sizeL l < n) (hl : l.length ≤ 1353245080300) (hf : fitsL l) :
    Ct prog gl 84 [.d (.sl (cellsL l)), .fn 76 [.ptr [.v (.int .i64 c)]]] (fun res fin => fin = [] ∧ ∃ r : Int, res = [.d (.v (.int .i64 r))] ∧ decide (r ≥ 0) = (!mayL c l)) := by
  have hC : CallsOk prog gl (C_f208 n) := addC_ok C_4e_ok (fun a K hk => by
    unfold c_126 at hk
    split at hk
    · obtain ⟨e, rfl, h1, h2, h3⟩ := hk
      exact (ct126_of h63 e _ h1 h2).gives h3
    · exact hk.elim)
  refine ct_of_vc E_ok hC ioK_no it_ok mixed (fn := f84) (body := f84.body.getD .skip) (by kernel_rfl) (by kernel_rfl) (by kernel_rfl) (fi := fx_208 c l) (by kernel_rfl) (by kernel_rfl) (by
    cases h : mayL c l
    · exact ⟨_, _, rfl, 0, rfl, rfl⟩
    · exact ⟨_, _, rfl, -1, rfl, rfl⟩) ?_
  rw [vc208]
  refine ⟨_, rfl, (0 : Nat), ⟨rfl, l.length, ⟨Nat.zero_le _, rfl⟩, by simp⟩, fun m (x : Nat) hx => ⟨fun hi => ?_, fun hi => ?_⟩⟩
  · have hi : x < l.length := by simpa [cellsL_len] using hi
    obtain ⟨op1, sub1, t1, v1, a1, e1, g1⟩ := arg_get hi
    have hm := hx.1.2
    have hsz := size_mem (List.getElem_mem hi)
    refine ⟨cellsL l, rfl, ⟨by omega, by rw [cellsL_len]; omega⟩, _, g1, rfl, op1, sub1, t1.k, t1.sc, v1.t.k, v1.t.sc, v1.nul, v1.n, v1.s, cellsL a1, rfl, l[x], by rw [e1, cells_mk]; rfl, by omega, fitsL_mem hf (List.getElem_mem hi), fun hb => ?_, fun hb => ?_⟩
    · refine ⟨rfl, (x : Int), rfl, ?_⟩
      rw [decide_eq_true (by omega), mayL_any]
      exact (List.any_eq_true.2 ⟨l[x], List.getElem_mem hi, hb⟩).symm
    · exact ⟨l.length - (x + 1), x + 1, by omega, by rw [wrap_next (by omega)], ⟨hi, rfl⟩, any_take (p := fun e => !mayE c e) hi hx.2 hb⟩
  · have hi : ¬ x < l.length := by simpa [cellsL_len] using hi
    have h := hx.2
    rw [List.take_of_length_le (by omega)] at h
    refine ⟨rfl, -1, rfl, ?_⟩
    rw [mayL_any, any_none h]; rfl
theorem ct125_of {n : Nat} (h63 : P63 gl n) (l : List EX) (c : Int) (hs : sizeL l < n) (hl : l.length ≤ 1353245080300) (hf : fitsL l) :
    Ct prog gl 43 [.d (.sl (cellsL l)), .fn 76 [.ptr [.v (.int .i64 c)]]] (gives [.d (.v (.bool (!mayL c l)))]) := by
  have hC : CallsOk prog gl (C_f125 n) := addC_ok C_4e_ok (fun a K hk => by
    unfold c_208 at hk
    split at hk
    · obtain ⟨l, rfl, h1, h2, h3, h4⟩ := hk
      exact (ct208_of h63 l _ h1 h2 h3).mono fun res fin ⟨e1, r, e2, e3⟩ => by subst e1; subst e2; exact h4 r e3
    · exact hk.elim)
  refine ct_of_vc E_ok hC ioK_no it_ok mixed (fn := f43) (body := f43.body.getD .skip) (by kernel_rfl) (by kernel_rfl) (by kernel_rfl) (fi := fi43) (by kernel_rfl) (by kernel_rfl) ⟨_, _, rfl, rfl⟩ ?_
  rw [vc125]
  exact ⟨l, rfl, hs, hl, hf, fun r hr => ⟨by rw [hr], rfl⟩⟩
theorem ct63_of {n : Nat} (h63 : P63 gl n) : ∀ (e : EX) (c : Int), size e < n + 1 → fits e → Ct prog gl 40 [.agg (cells e), .d (.v (.int .i64 c))] (gives [.d (.v (.bool (mayE c e)))])
  | .mk op sub t v args, c, hs, hf => by
    have hC : CallsOk prog gl (C_f63 n) := addC_ok C_4e_ok (fun a K hk => by
      unfold c_125 at hk
      split at hk
      · obtain ⟨l, rfl, h1, h2, h3, h4⟩ := hk
        exact (ct125_of h63 l _ h1 h2 h3).gives h4
      · exact hk.elim)
    rw [cells_mk]
    refine ct_of_vc E_b_ok hC ioK_no it_b mixed (fn := f40) (body := f40.body.getD .skip) (by kernel_rfl) (by kernel_rfl) (by kernel_rfl) (fi := fi40) (by kernel_rfl) (by kernel_rfl) ⟨_, _, rfl, rfl⟩ ?_
    rw [vc63]
    obtain ⟨_, hl, hfl⟩ := fits_mk hf
    simp only [size] at hs
    have hs' : sizeL args < n := by omega
    refine ⟨cellsL args, rfl, ?_⟩
    have two : (2 : Int) ≠ 0 := by decide
    have leaf : ∀ b : Bool, mayE c (.mk op sub t v args) = b → gives [.d (.v (.bool (mayE c (.mk op sub t v args))))] [R.d (D.v (Value.bool b))] [] := fun b h => by rw [h]; exact ⟨rfl, rfl⟩
    repeat' first | (refine And.intro (fun h => ?_) (fun h => ?_)) | (refine And.intro two ?_) | fail
    all_goals first
      | (exfalso; rename_i h; simp only [cond_false] at h; cases h; done)
      | (refine ⟨args, rfl, hs', hl, hfl, leaf _ ?_⟩; simp only [mayE, mayHd, tyZ, valZ, *, cond_true, cond_false, Bool.not_not, Bool.true_and, Bool.or_true, Bool.true_or, Bool.or_false, Bool.false_or])
      | (refine leaf _ ?_; simp only [mayE, mayHd, tyZ, valZ, *, cond_true, cond_false, Bool.not_true, Bool.false_and, Bool.or_true, Bool.true_or, Bool.or_false, Bool.false_or])
theorem ct63 : ∀ n : Nat, P63 gl n
  | 0 => fun e c h => absurd h (Nat.not_lt_zero _)
  | n + 1 => fun e c h hf => ct63_of (ct63 n) e c h hf
end Go.Proofs.Tryz
