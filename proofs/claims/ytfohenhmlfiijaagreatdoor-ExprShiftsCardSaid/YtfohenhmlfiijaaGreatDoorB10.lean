/- A part of the proof: contracts of functions, by a verified generator of conditions; no condition of its own. -/
import Derived.Test.YtfohenhmlfiijaaGreatDoorB9
namespace Go.Proofs.Tryz
open Go Go.Dm Go.Ex
set_option maxRecDepth 100000
variable {gl : Nat → Option Obj}
def c_57q (a : List R) (K : List R → List (List D) → Prop) : Prop := match a with
  | [.ptr [.sl r, .sl y], .agg x] => ∃ (e : EX) (row : List Go.Ex.AV), r = row.map Go.Ex.AV.cs ∧ y = (typesV row).map Ty.cs ∧ x = cells e ∧ fits e ∧ mayE row.length e = true ∧ plainE row.length e = true ∧ intRow row ∧ row.length ≤ 1353245080300 ∧ (∀ (w : Go.Ex.AV) (ok : Bool), ok = (evP row e).2 → (ok = true → w = ofI (evP row e).1) → K [.agg w.cs, .d (.v (.bool ok))] [])
  | _ => False
theorem c_57q_ok (a : List R) (K : List R → List (List D) → Prop) (h : c_57q a K) : Ct prog gl 20 a K := by
  unfold c_57q at h
  split at h
  · obtain ⟨e, row, rfl, rfl, rfl, h2, h3, h4, h5, h6, h7⟩ := h
    exact (ct57p (size e + 1) e row (Nat.lt_succ_self _) h2 h3 h4 h5 h6).mono fun res fin ⟨e1, w, e2, e3⟩ => by subst e1; subst e3; exact h7 w _ rfl e2
  · exact h.elim
def C_g7 : CallT := addC (addC C_g6 43 c_122p) 20 c_57q
theorem C_g7_ok : CallsOk prog gl C_g7 := addC_ok (addC_ok C_g6_ok c_122p_ok) c_57q_ok
theorem vc14 (op sub : Int) (t : Ty) (v : Go.Ex.AV) (args : List EX) (row : List Go.Ex.AV) (Q : List R → List (List D) → Prop) : vc E_9 C_g7 noI fi6 (f6.body.getD .skip) f6.results.toList [.agg (encX op sub t v (cellsL args)), .d (.sl (row.map Go.Ex.AV.cs))] Q = (
  (∃ (row_1 : List AV), List.map AV.cs row = List.map AV.cs row_1 ∧ row_1.length ≤ (1353245080300 : Nat) ∧ (∃ (e : EX), ∃ (cols : List Ty), [D.v
  (Value.int IntKind.i64 op), D.v (Value.int IntKind.i64 sub), D.v (Value.int IntKind.i64 t.1), D.v (Value.int IntKind.i64 t.2), D.v (Value.int
  IntKind.i64 v.1.1), D.v (Value.int IntKind.i64 v.1.2), D.v (Value.bool v.2), D.v (Value.int IntKind.i64 v.3), D.v (Value.string v.4), D.sl (cellsL
  args)] = cells e ∧ List.map Ty.cs (typesV row_1) = List.map Ty.cs cols ∧ fits e ∧ cols.length ≤ (1353245080300 : Nat) ∧ ∀ (t_1 : Ty) (f : Int),
  checkE cols e = (t_1, f) → ((f != (0 : Int)) = true → Q [R.agg [D.v (Value.int IntKind.i64 (0 : Int)), D.v (Value.int IntKind.i64 (0 : Int)), D.v
  (Value.bool false), D.v (Value.int IntKind.i64 (0 : Int)), D.v (Value.string { data := { toList := [] : Array UInt8 } : ByteArray })], R.d (D.v
  (Value.int IntKind.i64 f))] []) ∧ ((f != (0 : Int)) = false → ∃ (l : List AV), List.map AV.cs row = List.map AV.cs l ∧ l.length <
  (4611686018427387904 : Nat) ∧ (l.any badV = true → Q [R.agg [D.v (Value.int IntKind.i64 (0 : Int)), D.v (Value.int IntKind.i64 (0 : Int)), D.v
  (Value.bool false), D.v (Value.int IntKind.i64 (0 : Int)), D.v (Value.string { data := { toList := [] : Array UInt8 } : ByteArray })], R.d (D.v
  (Value.int IntKind.i64 (140 : Int)))] []) ∧ (l.any badV = false → (∃ (row_2 : List AV), List.map AV.cs row = List.map AV.cs row_2 ∧ row_2.length ≤
  (1353245080300 : Nat) ∧ ((∃ (e : EX), ∃ (row_3 : List AV), List.map AV.cs row = List.map AV.cs row_3 ∧ List.map Ty.cs (typesV row_2) = List.map Ty.cs
  (typesV row_3) ∧ [D.v (Value.int IntKind.i64 op), D.v (Value.int IntKind.i64 sub), D.v (Value.int IntKind.i64 t.1), D.v (Value.int IntKind.i64 t.2),
  D.v (Value.int IntKind.i64 v.1.1), D.v (Value.int IntKind.i64 v.1.2), D.v (Value.bool v.2), D.v (Value.int IntKind.i64 v.3), D.v (Value.string v.4),
  D.sl (cellsL args)] = cells e ∧ fits e ∧ mayE (↑row_3.length : Int) e = true ∧ plainE row_3.length e = true ∧ intRow row_3 ∧ row_3.length ≤
  (1353245080300 : Nat) ∧ ∀ (w : AV) (ok : Bool), ok = (evP row_3 e).2 → (ok = true → w = ofI (evP row_3 e).1) → ((!ok) = true → Q [R.agg [D.v
  (Value.int IntKind.i64 (0 : Int)), D.v (Value.int IntKind.i64 (0 : Int)), D.v (Value.bool false), D.v (Value.int IntKind.i64 (0 : Int)), D.v
  (Value.string { data := { toList := [] : Array UInt8 } : ByteArray })], R.d (D.v (Value.int IntKind.i64 (141 : Int)))] []) ∧ ((!ok) = false → Q
  [R.agg [D.v (Value.int IntKind.i64 w.1.1), D.v (Value.int IntKind.i64 w.1.2), D.v (Value.bool w.2), D.v (Value.int IntKind.i64 w.3), D.v
  (Value.string w.4)], R.d (D.v (Value.int IntKind.i64 (0 : Int)))] [])) ∧ ∃ (e : EX), ∃ (row_3 : List AV), List.map AV.cs row = List.map AV.cs row_3 ∧
  List.map Ty.cs (typesV row_2) = List.map Ty.cs (typesV row_3) ∧ [D.v (Value.int IntKind.i64 op), D.v (Value.int IntKind.i64 sub), D.v (Value.int
  IntKind.i64 t.1), D.v (Value.int IntKind.i64 t.2), D.v (Value.int IntKind.i64 v.1.1), D.v (Value.int IntKind.i64 v.1.2), D.v (Value.bool v.2), D.v
  (Value.int IntKind.i64 v.3), D.v (Value.string v.4), D.sl (cellsL args)] = cells e ∧ fits e ∧ mayE (↑row_3.length : Int) e = true ∧ plainE
  row_3.length e = true ∧ intRow row_3 ∧ row_3.length ≤ (1353245080300 : Nat) ∧ ∀ (w : AV) (ok : Bool), ok = (evP row_3 e).2 → (ok = true → w = ofI
  (evP row_3 e).1) → ((!ok) = true → Q [R.agg [D.v (Value.int IntKind.i64 (0 : Int)), D.v (Value.int IntKind.i64 (0 : Int)), D.v (Value.bool false),
  D.v (Value.int IntKind.i64 (0 : Int)), D.v (Value.string { data := { toList := [] : Array UInt8 } : ByteArray })], R.d (D.v (Value.int IntKind.i64
  (141 : Int)))] []) ∧ ((!ok) = false → Q [R.agg [D.v (Value.int IntKind.i64 w.1.1), D.v (Value.int IntKind.i64 w.1.2), D.v (Value.bool w.2), D.v
  (Value.int IntKind.i64 w.3), D.v (Value.string w.4)], R.d (D.v (Value.int IntKind.i64 (0 : Int)))] [])) ∧ ∃ (e : EX), ∃ (row_3 : List AV), List.map
  AV.cs row = List.map AV.cs row_3 ∧ List.map Ty.cs (typesV row_2) = List.map Ty.cs (typesV row_3) ∧ [D.v (Value.int IntKind.i64 op), D.v (Value.int
  IntKind.i64 sub), D.v (Value.int IntKind.i64 t.1), D.v (Value.int IntKind.i64 t.2), D.v (Value.int IntKind.i64 v.1.1), D.v (Value.int IntKind.i64
  v.1.2), D.v (Value.bool v.2), D.v (Value.int IntKind.i64 v.3), D.v (Value.string v.4), D.sl (cellsL args)] = cells e ∧ fits e ∧ mayE (↑row_3.length :
  Int) e = true ∧ plainE row_3.length e = true ∧ intRow row_3 ∧ row_3.length ≤ (1353245080300 : Nat) ∧ ∀ (w : AV) (ok : Bool), ok = (evP row_3 e).2 →
  (ok = true → w = ofI (evP row_3 e).1) → ((!ok) = true → Q [R.agg [D.v (Value.int IntKind.i64 (0 : Int)), D.v (Value.int IntKind.i64 (0 : Int)), D.v
  (Value.bool false), D.v (Value.int IntKind.i64 (0 : Int)), D.v (Value.string { data := { toList := [] : Array UInt8 } : ByteArray })], R.d (D.v
  (Value.int IntKind.i64 (141 : Int)))] []) ∧ ((!ok) = false → Q [R.agg [D.v (Value.int IntKind.i64 w.1.1), D.v (Value.int IntKind.i64 w.1.2), D.v
  (Value.bool w.2), D.v (Value.int IntKind.i64 w.3), D.v (Value.string w.4)], R.d (D.v (Value.int IntKind.i64 (0 : Int)))] [])) ∧ ∃ (row_2 : List AV),
  List.map AV.cs row = List.map AV.cs row_2 ∧ row_2.length ≤ (1353245080300 : Nat) ∧ ∃ (e : EX), ∃ (row_3 : List AV), List.map AV.cs row = List.map
  AV.cs row_3 ∧ List.map Ty.cs (typesV row_2) = List.map Ty.cs (typesV row_3) ∧ [D.v (Value.int IntKind.i64 op), D.v (Value.int IntKind.i64 sub), D.v
  (Value.int IntKind.i64 t.1), D.v (Value.int IntKind.i64 t.2), D.v (Value.int IntKind.i64 v.1.1), D.v (Value.int IntKind.i64 v.1.2), D.v (Value.bool
  v.2), D.v (Value.int IntKind.i64 v.3), D.v (Value.string v.4), D.sl (cellsL args)] = cells e ∧ fits e ∧ mayE (↑row_3.length : Int) e = true ∧ plainE
  row_3.length e = true ∧ intRow row_3 ∧ row_3.length ≤ (1353245080300 : Nat) ∧ ∀ (w : AV) (ok : Bool), ok = (evP row_3 e).2 → (ok = true → w = ofI
  (evP row_3 e).1) → ((!ok) = true → Q [R.agg [D.v (Value.int IntKind.i64 (0 : Int)), D.v (Value.int IntKind.i64 (0 : Int)), D.v (Value.bool false),
  D.v (Value.int IntKind.i64 (0 : Int)), D.v (Value.string { data := { toList := [] : Array UInt8 } : ByteArray })], R.d (D.v (Value.int IntKind.i64
  (141 : Int)))] []) ∧ ((!ok) = false → Q [R.agg [D.v (Value.int IntKind.i64 w.1.1), D.v (Value.int IntKind.i64 w.1.2), D.v (Value.bool w.2), D.v
  (Value.int IntKind.i64 w.3), D.v (Value.string w.4)], R.d (D.v (Value.int IntKind.i64 (0 : Int)))] [])))) ∧ ∃ (e : EX), ∃ (cols : List Ty), [D.v
  (Value.int IntKind.i64 op), D.v (Value.int IntKind.i64 sub), D.v (Value.int IntKind.i64 t.1), D.v (Value.int IntKind.i64 t.2), D.v (Value.int
  IntKind.i64 v.1.1), D.v (Value.int IntKind.i64 v.1.2), D.v (Value.bool v.2), D.v (Value.int IntKind.i64 v.3), D.v (Value.string v.4), D.sl (cellsL
  args)] = cells e ∧ List.map Ty.cs (typesV row_1) = List.map Ty.cs cols ∧ fits e ∧ cols.length ≤ (1353245080300 : Nat) ∧ ∀ (t_1 : Ty) (f : Int),
  checkE cols e = (t_1, f) → ((f != (0 : Int)) = true → Q [R.agg [D.v (Value.int IntKind.i64 (0 : Int)), D.v (Value.int IntKind.i64 (0 : Int)), D.v
  (Value.bool false), D.v (Value.int IntKind.i64 (0 : Int)), D.v (Value.string { data := { toList := [] : Array UInt8 } : ByteArray })], R.d (D.v
  (Value.int IntKind.i64 f))] []) ∧ ((f != (0 : Int)) = false → ∃ (l : List AV), List.map AV.cs row = List.map AV.cs l ∧ l.length <
  (4611686018427387904 : Nat) ∧ (l.any badV = true → Q [R.agg [D.v (Value.int IntKind.i64 (0 : Int)), D.v (Value.int IntKind.i64 (0 : Int)), D.v
  (Value.bool false), D.v (Value.int IntKind.i64 (0 : Int)), D.v (Value.string { data := { toList := [] : Array UInt8 } : ByteArray })], R.d (D.v
  (Value.int IntKind.i64 (140 : Int)))] []) ∧ (l.any badV = false → (∃ (row_2 : List AV), List.map AV.cs row = List.map AV.cs row_2 ∧ row_2.length ≤
  (1353245080300 : Nat) ∧ ((∃ (e : EX), ∃ (row_3 : List AV), List.map AV.cs row = List.map AV.cs row_3 ∧ List.map Ty.cs (typesV row_2) = List.map Ty.cs
  (typesV row_3) ∧ [D.v (Value.int IntKind.i64 op), D.v (Value.int IntKind.i64 sub), D.v (Value.int IntKind.i64 t.1), D.v (Value.int IntKind.i64 t.2),
  D.v (Value.int IntKind.i64 v.1.1), D.v (Value.int IntKind.i64 v.1.2), D.v (Value.bool v.2), D.v (Value.int IntKind.i64 v.3), D.v (Value.string v.4),
  D.sl (cellsL args)] = cells e ∧ fits e ∧ mayE (↑row_3.length : Int) e = true ∧ plainE row_3.length e = true ∧ intRow row_3 ∧ row_3.length ≤
  (1353245080300 : Nat) ∧ ∀ (w : AV) (ok : Bool), ok = (evP row_3 e).2 → (ok = true → w = ofI (evP row_3 e).1) → ((!ok) = true → Q [R.agg [D.v
  (Value.int IntKind.i64 (0 : Int)), D.v (Value.int IntKind.i64 (0 : Int)), D.v (Value.bool false), D.v (Value.int IntKind.i64 (0 : Int)), D.v
  (Value.string { data := { toList := [] : Array UInt8 } : ByteArray })], R.d (D.v (Value.int IntKind.i64 (141 : Int)))] []) ∧ ((!ok) = false → Q
  [R.agg [D.v (Value.int IntKind.i64 w.1.1), D.v (Value.int IntKind.i64 w.1.2), D.v (Value.bool w.2), D.v (Value.int IntKind.i64 w.3), D.v
  (Value.string w.4)], R.d (D.v (Value.int IntKind.i64 (0 : Int)))] [])) ∧ ∃ (e : EX), ∃ (row_3 : List AV), List.map AV.cs row = List.map AV.cs row_3 ∧
  List.map Ty.cs (typesV row_2) = List.map Ty.cs (typesV row_3) ∧ [D.v (Value.int IntKind.i64 op), D.v (Value.int IntKind.i64 sub), D.v (Value.int
  IntKind.i64 t.1), D.v (Value.int IntKind.i64 t.2), D.v (Value.int IntKind.i64 v.1.1), D.v (Value.int IntKind.i64 v.1.2), D.v (Value.bool v.2), D.v
  (Value.int IntKind.i64 v.3), D.v (Value.string v.4), D.sl (cellsL args)] = cells e ∧ fits e ∧ mayE (↑row_3.length : Int) e = true ∧ plainE
  row_3.length e = true ∧ intRow row_3 ∧ row_3.length ≤ (1353245080300 : Nat) ∧ ∀ (w : AV) (ok : Bool), ok = (evP row_3 e).2 → (ok = true → w = ofI
  (evP row_3 e).1) → ((!ok) = true → Q [R.agg [D.v (Value.int IntKind.i64 (0 : Int)), D.v (Value.int IntKind.i64 (0 : Int)), D.v (Value.bool false),
  D.v (Value.int IntKind.i64 (0 : Int)), D.v (Value.string { data := { toList := [] : Array UInt8 } : ByteArray })], R.d (D.v (Value.int IntKind.i64
  (141 : Int)))] []) ∧ ((!ok) = false → Q [R.agg [D.v (Value.int IntKind.i64 w.1.1), D.v (Value.int IntKind.i64 w.1.2), D.v (Value.bool w.2), D.v
  (Value.int IntKind.i64 w.3), D.v (Value.string w.4)], R.d (D.v (Value.int IntKind.i64 (0 : Int)))] [])) ∧ ∃ (e : EX), ∃ (row_3 : List AV), List.map
  AV.cs row = List.map AV.cs row_3 ∧ List.map Ty.cs (typesV row_2) = List.map Ty.cs (typesV row_3) ∧ [D.v (Value.int IntKind.i64 op), D.v (Value.int
  IntKind.i64 sub), D.v (Value.int IntKind.i64 t.1), D.v (Value.int IntKind.i64 t.2), D.v (Value.int IntKind.i64 v.1.1), D.v (Value.int IntKind.i64
  v.1.2), D.v (Value.bool v.2), D.v (Value.int IntKind.i64 v.3), D.v (Value.string v.4), D.sl (cellsL args)] = cells e ∧ fits e ∧ mayE (↑row_3.length :
  Int) e = true ∧ plainE row_3.length e = true ∧ intRow row_3 ∧ row_3.length ≤ (1353245080300 : Nat) ∧ ∀ (w : AV) (ok : Bool), ok = (evP row_3 e).2 →
  (ok = true → w = ofI (evP row_3 e).1) → ((!ok) = true → Q [R.agg [D.v (Value.int IntKind.i64 (0 : Int)), D.v (Value.int IntKind.i64 (0 : Int)), D.v
  (Value.bool false), D.v (Value.int IntKind.i64 (0 : Int)), D.v (Value.string { data := { toList := [] : Array UInt8 } : ByteArray })], R.d (D.v
  (Value.int IntKind.i64 (141 : Int)))] []) ∧ ((!ok) = false → Q [R.agg [D.v (Value.int IntKind.i64 w.1.1), D.v (Value.int IntKind.i64 w.1.2), D.v
  (Value.bool w.2), D.v (Value.int IntKind.i64 w.3), D.v (Value.string w.4)], R.d (D.v (Value.int IntKind.i64 (0 : Int)))] [])) ∧ ∃ (row_2 : List AV),
  List.map AV.cs row = List.map AV.cs row_2 ∧ row_2.length ≤ (1353245080300 : Nat) ∧ ∃ (e : EX), ∃ (row_3 : List AV), List.map AV.cs row = List.map
  AV.cs row_3 ∧ List.map Ty.cs (typesV row_2) = List.map Ty.cs (typesV row_3) ∧ [D.v (Value.int IntKind.i64 op), D.v (Value.int IntKind.i64 sub), D.v
  (Value.int IntKind.i64 t.1), D.v (Value.int IntKind.i64 t.2), D.v (Value.int IntKind.i64 v.1.1), D.v (Value.int IntKind.i64 v.1.2), D.v (Value.bool
  v.2), D.v (Value.int IntKind.i64 v.3), D.v (Value.string v.4), D.sl (cellsL args)] = cells e ∧ fits e ∧ mayE (↑row_3.length : Int) e = true ∧ plainE
  row_3.length e = true ∧ intRow row_3 ∧ row_3.length ≤ (1353245080300 : Nat) ∧ ∀ (w : AV) (ok : Bool), ok = (evP row_3 e).2 → (ok = true → w = ofI
  (evP row_3 e).1) → ((!ok) = true → Q [R.agg [D.v (Value.int IntKind.i64 (0 : Int)), D.v (Value.int IntKind.i64 (0 : Int)), D.v (Value.bool false),
  D.v (Value.int IntKind.i64 (0 : Int)), D.v (Value.string { data := { toList := [] : Array UInt8 } : ByteArray })], R.d (D.v (Value.int IntKind.i64
  (141 : Int)))] []) ∧ ((!ok) = false → Q [R.agg [D.v (Value.int IntKind.i64 w.1.1), D.v (Value.int IntKind.i64 w.1.2), D.v (Value.bool w.2), D.v
  (Value.int IntKind.i64 w.3), D.v (Value.string w.4)], R.d (D.v (Value.int IntKind.i64 (0 : Int)))] [])))) ∧ ∃ (row_1 : List AV), List.map AV.cs row =
  List.map AV.cs row_1 ∧ row_1.length ≤ (1353245080300 : Nat) ∧ ∃ (e : EX), ∃ (cols : List Ty), [D.v (Value.int IntKind.i64 op), D.v (Value.int
  IntKind.i64 sub), D.v (Value.int IntKind.i64 t.1), D.v (Value.int IntKind.i64 t.2), D.v (Value.int IntKind.i64 v.1.1), D.v (Value.int IntKind.i64
  v.1.2), D.v (Value.bool v.2), D.v (Value.int IntKind.i64 v.3), D.v (Value.string v.4), D.sl (cellsL args)] = cells e ∧ List.map Ty.cs (typesV row_1)
  = List.map Ty.cs cols ∧ fits e ∧ cols.length ≤ (1353245080300 : Nat) ∧ ∀ (t_1 : Ty) (f : Int), checkE cols e = (t_1, f) → ((f != (0 : Int)) = true →
  Q [R.agg [D.v (Value.int IntKind.i64 (0 : Int)), D.v (Value.int IntKind.i64 (0 : Int)), D.v (Value.bool false), D.v (Value.int IntKind.i64 (0 :
  Int)), D.v (Value.string { data := { toList := [] : Array UInt8 } : ByteArray })], R.d (D.v (Value.int IntKind.i64 f))] []) ∧ ((f != (0 : Int)) =
  false → ∃ (l : List AV), List.map AV.cs row = List.map AV.cs l ∧ l.length < (4611686018427387904 : Nat) ∧ (l.any badV = true → Q [R.agg [D.v
  (Value.int IntKind.i64 (0 : Int)), D.v (Value.int IntKind.i64 (0 : Int)), D.v (Value.bool false), D.v (Value.int IntKind.i64 (0 : Int)), D.v
  (Value.string { data := { toList := [] : Array UInt8 } : ByteArray })], R.d (D.v (Value.int IntKind.i64 (140 : Int)))] []) ∧ (l.any badV = false → (∃
  (row_2 : List AV), List.map AV.cs row = List.map AV.cs row_2 ∧ row_2.length ≤ (1353245080300 : Nat) ∧ ((∃ (e : EX), ∃ (row_3 : List AV), List.map
  AV.cs row = List.map AV.cs row_3 ∧ List.map Ty.cs (typesV row_2) = List.map Ty.cs (typesV row_3) ∧ [D.v (Value.int IntKind.i64 op), D.v (Value.int
  IntKind.i64 sub), D.v (Value.int IntKind.i64 t.1), D.v (Value.int IntKind.i64 t.2), D.v (Value.int IntKind.i64 v.1.1), D.v (Value.int IntKind.i64
  v.1.2), D.v (Value.bool v.2), D.v (Value.int IntKind.i64 v.3), D.v (Value.string v.4), D.sl (cellsL args)] = cells e ∧ fits e ∧ mayE (↑row_3.length :
  Int) e = true ∧ plainE row_3.length e = true ∧ intRow row_3 ∧ row_3.length ≤ (1353245080300 : Nat) ∧ ∀ (w : AV) (ok : Bool), ok = (evP row_3 e).2 →
  (ok = true → w = ofI (evP row_3 e).1) → ((!ok) = true → Q [R.agg [D.v (Value.int IntKind.i64 (0 : Int)), D.v (Value.int IntKind.i64 (0 : Int)), D.v
  (Value.bool false), D.v (Value.int IntKind.i64 (0 : Int)), D.v (Value.string { data := { toList := [] : Array UInt8 } : ByteArray })], R.d (D.v
  (Value.int IntKind.i64 (141 : Int)))] []) ∧ ((!ok) = false → Q [R.agg [D.v (Value.int IntKind.i64 w.1.1), D.v (Value.int IntKind.i64 w.1.2), D.v
  (Value.bool w.2), D.v (Value.int IntKind.i64 w.3), D.v (Value.string w.4)], R.d (D.v (Value.int IntKind.i64 (0 : Int)))] [])) ∧ ∃ (e : EX), ∃ (row_3
  : List AV), List.map AV.cs row = List.map AV.cs row_3 ∧ List.map Ty.cs (typesV row_2) = List.map Ty.cs (typesV row_3) ∧ [D.v (Value.int IntKind.i64
  op), D.v (Value.int IntKind.i64 sub), D.v (Value.int IntKind.i64 t.1), D.v (Value.int IntKind.i64 t.2), D.v (Value.int IntKind.i64 v.1.1), D.v
  (Value.int IntKind.i64 v.1.2), D.v (Value.bool v.2), D.v (Value.int IntKind.i64 v.3), D.v (Value.string v.4), D.sl (cellsL args)] = cells e ∧ fits e
  ∧ mayE (↑row_3.length : Int) e = true ∧ plainE row_3.length e = true ∧ intRow row_3 ∧ row_3.length ≤ (1353245080300 : Nat) ∧ ∀ (w : AV) (ok : Bool),
  ok = (evP row_3 e).2 → (ok = true → w = ofI (evP row_3 e).1) → ((!ok) = true → Q [R.agg [D.v (Value.int IntKind.i64 (0 : Int)), D.v (Value.int
  IntKind.i64 (0 : Int)), D.v (Value.bool false), D.v (Value.int IntKind.i64 (0 : Int)), D.v (Value.string { data := { toList := [] : Array UInt8 } : ByteArray })],
  R.d (D.v (Value.int IntKind.i64 (141 : Int)))] []) ∧ ((!ok) = false → Q [R.agg [D.v (Value.int IntKind.i64 w.1.1), D.v (Value.int IntKind.i64 w.1.2),
  D.v (Value.bool w.2), D.v (Value.int IntKind.i64 w.3), D.v (Value.string w.4)], R.d (D.v (Value.int IntKind.i64 (0 : Int)))] [])) ∧ ∃ (e : EX), ∃
  (row_3 : List AV), List.map AV.cs row = List.map AV.cs row_3 ∧ List.map Ty.cs (typesV row_2) = List.map Ty.cs (typesV row_3) ∧ [D.v (Value.int
  IntKind.i64 op), D.v (Value.int IntKind.i64 sub), D.v (Value.int IntKind.i64 t.1), D.v (Value.int IntKind.i64 t.2), D.v (Value.int IntKind.i64
  v.1.1), D.v (Value.int IntKind.i64 v.1.2), D.v (Value.bool v.2), D.v (Value.int IntKind.i64 v.3), D.v (Value.string v.4), D.sl (cellsL args)] = cells
  e ∧ fits e ∧ mayE (↑row_3.length : Int) e = true ∧ plainE row_3.length e = true ∧ intRow row_3 ∧ row_3.length ≤ (1353245080300 : Nat) ∧ ∀ (w : AV)
  (ok : Bool), ok = (evP row_3 e).2 → (ok = true → w = ofI (evP row_3 e).1) → ((!ok) = true → Q [R.agg [D.v (Value.int IntKind.i64 (0 : Int)), D.v
  (Value.int IntKind.i64 (0 : Int)), D.v (Value.bool false), D.v (Value.int IntKind.i64 (0 : Int)), D.v (Value.string { data := { toList := [] : Array UInt8 } : ByteArray })],
  R.d (D.v (Value.int IntKind.i64 (141 : Int)))] []) ∧ ((!ok) = false → Q [R.agg [D.v (Value.int IntKind.i64 w.1.1), D.v (Value.int IntKind.i64 w.1.2),
  D.v (Value.bool w.2), D.v (Value.int IntKind.i64 w.3), D.v (Value.string w.4)], R.d (D.v (Value.int IntKind.i64 (0 : Int)))] [])) ∧ ∃ (row_2 : List
  AV), List.map AV.cs row = List.map AV.cs row_2 ∧ row_2.length ≤ (1353245080300 : Nat) ∧ ∃ (e : EX), ∃ (row_3 : List AV), List.map AV.cs row =
  List.map AV.cs row_3 ∧ List.map Ty.cs (typesV row_2) = List.map Ty.cs (typesV row_3) ∧ [D.v (Value.int IntKind.i64 op), D.v (Value.int IntKind.i64
  sub), D.v (Value.int IntKind.i64 t.1), D.v (Value.int IntKind.i64 t.2), D.v (Value.int IntKind.i64 v.1.1), D.v (Value.int IntKind.i64 v.1.2), D.v
  (Value.bool v.2), D.v (Value.int IntKind.i64 v.3), D.v (Value.string v.4), D.sl (cellsL args)] = cells e ∧ fits e ∧ mayE (↑row_3.length : Int) e =
  true ∧ plainE row_3.length e = true ∧ intRow row_3 ∧ row_3.length ≤ (1353245080300 : Nat) ∧ ∀ (w : AV) (ok : Bool), ok = (evP row_3 e).2 → (ok = true
  → w = ofI (evP row_3 e).1) → ((!ok) = true → Q [R.agg [D.v (Value.int IntKind.i64 (0 : Int)), D.v (Value.int IntKind.i64 (0 : Int)), D.v (Value.bool
  false), D.v (Value.int IntKind.i64 (0 : Int)), D.v (Value.string { data := { toList := [] : Array UInt8 } : ByteArray })], R.d (D.v (Value.int
  IntKind.i64 (141 : Int)))] []) ∧ ((!ok) = false → Q [R.agg [D.v (Value.int IntKind.i64 w.1.1), D.v (Value.int IntKind.i64 w.1.2), D.v (Value.bool
  w.2), D.v (Value.int IntKind.i64 w.3), D.v (Value.string w.4)], R.d (D.v (Value.int IntKind.i64 (0 : Int)))] [])))) := by kernel_rfl
theorem check_may {cols : List Ty} {e : EX} (h : (checkE cols e).2 = 0) : mayE cols.length e = true ∧ (typedE cols e).2 = true := by
  unfold checkE at h
  revert h
  cases mayE (cols.length : Int) e <;> cases cols.any badT <;> cases decide (nodes e > 256) <;> cases decide (deep e > 24) <;> cases (typedE cols e).2 <;> simp
/-- Eval, of sums and quotients. -/
def evalP (row : List Go.Ex.AV) (e : EX) : Go.Ex.AV × Int :=
  bif (checkE (typesV row) e).2 != 0 then (zeroV, (checkE (typesV row) e).2) else bif row.any badV then (zeroV, 140) else bif !(evP row e).2 then (zeroV, 141) else (ofI (evP row e).1, 0)
theorem ct14p : ∀ (e : EX) (row : List Go.Ex.AV), fits e → plainE row.length e = true → intRow row → row.length ≤ 1353245080300 →
    Ct prog gl 6 [.agg (cells e), .d (.sl (row.map Go.Ex.AV.cs))] (gives [.agg (evalP row e).1.cs, .d (.v (.int .i64 (evalP row e).2))])
  | .mk op sub t v args, row, hf, hp, hr, hrl => by
    have hc : encX op sub t v (cellsL args) = cells (.mk op sub t v args) := (cells_mk _ _ _ _ _).symm
    rw [cells_mk]
    refine ct_of_vc (E := E_9) ⟨E_ok.te⟩ C_g7_ok ioK_no (fun _ _ _ h => h.elim) mixed (fn := f6) (body := f6.body.getD .skip) (by kernel_rfl) (by kernel_rfl) (by kernel_rfl) (fi := fi6) (by kernel_rfl) (by kernel_rfl) ⟨_, _, rfl, rfl⟩ ?_
    rw [vc14]
    have htl : (typesV row).length = row.length := by simp [typesV]
    refine ⟨⟨row, rfl, hrl, ?_, ?_⟩, row, rfl, hrl, ?_⟩
    all_goals
      refine ⟨.mk op sub t v args, typesV row, hc, rfl, hf, by omega, fun t1 f hk => ⟨fun h => ?_, fun h => ⟨row, rfl, by omega, fun hb => ?_, fun hb => ?_⟩⟩⟩
      · unfold evalP
        rw [hk]
        dsimp only
        rw [h]
        exact ⟨rfl, rfl⟩
      · unfold evalP
        rw [hk]
        dsimp only
        rw [h, hb]
        exact ⟨rfl, rfl⟩
      · have hm := check_may (cols := typesV row) (e := .mk op sub t v args) (by rw [hk]; simpa using h)
        rw [htl] at hm
        have fin : ∀ (w : Go.Ex.AV) (ok : Bool), ok = (evP row (.mk op sub t v args)).2 → (ok = true → w = ofI (evP row (.mk op sub t v args)).1) →
            ((!ok) = true → gives [.agg (evalP row (.mk op sub t v args)).1.cs, .d (.v (.int .i64 (evalP row (.mk op sub t v args)).2))] [R.agg [D.v (Value.int IntKind.i64 (0 : Int)), D.v (Value.int IntKind.i64 (0 : Int)), D.v (Value.bool false), D.v (Value.int IntKind.i64 (0 : Int)), D.v (Value.string { data := { toList := [] : Array UInt8 } : ByteArray })], R.d (D.v (Value.int IntKind.i64 (141 : Int)))] []) ∧
            ((!ok) = false → gives [.agg (evalP row (.mk op sub t v args)).1.cs, .d (.v (.int .i64 (evalP row (.mk op sub t v args)).2))] [R.agg w.cs, R.d (D.v (Value.int IntKind.i64 (0 : Int)))] []) := by
          intro w ok hok hw
          have key : evalP row (.mk op sub t v args) = bif !ok then (zeroV, 141) else (ofI (evP row (.mk op sub t v args)).1, 0) := by
            unfold evalP
            rw [hk]
            dsimp only
            rw [h, hb, ← hok]
            rfl
          rw [key]
          refine ⟨fun h => ?_, fun h => ?_⟩
          · rw [h]; exact ⟨rfl, rfl⟩
          · rw [h, hw (by simpa using h)]; exact ⟨rfl, rfl⟩
        refine ⟨⟨row, rfl, hrl, ⟨?_, ?_⟩, ?_⟩, row, rfl, hrl, ?_⟩
        all_goals exact ⟨.mk op sub t v args, row, rfl, rfl, hc, hf, hm.1, hp, hr, hrl, fin⟩
def c_14p (a : List R) (K : List R → List (List D) → Prop) : Prop := match a with
  | [.agg x, .d (.sl y)] => ∃ (e : EX) (row : List Go.Ex.AV), x = cells e ∧ y = row.map Go.Ex.AV.cs ∧ fits e ∧ plainE row.length e = true ∧ intRow row ∧ row.length ≤ 1353245080300 ∧ K [.agg (evalP row e).1.cs, .d (.v (.int .i64 (evalP row e).2))] []
  | _ => False
theorem c_14p_ok (a : List R) (K : List R → List (List D) → Prop) (h : c_14p a K) : Ct prog gl 6 a K := by
  unfold c_14p at h
  split at h
  · obtain ⟨e, row, rfl, rfl, h1, h2, h3, h4, h5⟩ := h
    exact (ct14p e row h1 h2 h3 h4).gives h5
  · exact h.elim
def C_g8 : CallT := addC C_g6 6 c_14p
theorem C_g8_ok : CallsOk prog gl C_g8 := addC_ok C_g6_ok c_14p_ok
end Go.Proofs.Tryz
