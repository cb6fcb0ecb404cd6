/- A part of the proof: contracts of functions, by a verified generator of conditions; no condition of its own. -/
import Derived.Test.YtfohenhmlfiijaaGreatDoorB11
namespace Go.Proofs.Tryz
open Go Go.Dm Go.Ex
set_option maxRecDepth 100000
variable {gl : Nat → Option Obj}
def c_66s (a : List R) (K : List R → List (List D) → Prop) : Prop := match a with
  | [.agg x] => x = encX 3 0 ⟨0, 0⟩ zeroV (cellsL [colE 0, colE 1]) ∧ K [.d (.v (.string showB))] []
  | _ => False
theorem c_66s_ok (a : List R) (K : List R → List (List D) → Prop) (h : c_66s a K) : Ct prog gl 29 a K := by
  unfold c_66s at h
  split at h
  · obtain ⟨rfl, h1⟩ := h
    exact ct66s.gives h1
  · exact h.elim
def C_h4 : CallT := addC C_g8 29 c_66s
theorem C_h4_ok : CallsOk prog gl C_h4 := addC_ok C_g8_ok c_66s_ok
theorem vc17 (u : Nat) (Q : List R → List (List D) → Prop) : vc E_0 C_h4 noI fi9 (f9.body.getD .skip) f9.results.toList [] Q = (
  ∃ (e : EX), ∃ (row : List AV), [D.v (Value.int IntKind.i64 (3 : Int)), D.v (Value.int IntKind.i64 (0 : Int)), D.v (Value.int IntKind.i64 (0 : Int)),
  D.v (Value.int IntKind.i64 (0 : Int)), D.v (Value.int IntKind.i64 (0 : Int)), D.v (Value.int IntKind.i64 (0 : Int)), D.v (Value.bool false), D.v
  (Value.int IntKind.i64 (0 : Int)), D.v (Value.string { data := { toList := [] : Array UInt8 } : ByteArray }), D.sl [[D.v (Value.int IntKind.i64 (1 :
  Int)), D.v (Value.int IntKind.i64 (0 : Int)), D.v (Value.int IntKind.i64 (0 : Int)), D.v (Value.int IntKind.i64 (0 : Int)), D.v (Value.int
  IntKind.i64 (0 : Int)), D.v (Value.int IntKind.i64 (0 : Int)), D.v (Value.bool false), D.v (Value.int IntKind.i64 (0 : Int)), D.v (Value.string { data := { toList := [] : Array UInt8 } : ByteArray }),
  D.sl []], [D.v (Value.int IntKind.i64 (1 : Int)), D.v (Value.int IntKind.i64 (0 : Int)), D.v (Value.int IntKind.i64 (0 : Int)), D.v (Value.int
  IntKind.i64 (0 : Int)), D.v (Value.int IntKind.i64 (0 : Int)), D.v (Value.int IntKind.i64 (0 : Int)), D.v (Value.bool false), D.v (Value.int
  IntKind.i64 (0 : Int)), D.v (Value.string { data := { toList := [] : Array UInt8 } : ByteArray }), D.sl []]]] = cells e ∧ [[D.v (Value.int
  IntKind.i64 (2 : Int)), D.v (Value.int IntKind.i64 (0 : Int)), D.v (Value.bool false), D.v (Value.int IntKind.i64 (1 : Int)), D.v (Value.string { data := { toList := [] : Array UInt8 } : ByteArray })],
  [D.v (Value.int IntKind.i64 (2 : Int)), D.v (Value.int IntKind.i64 (0 : Int)), D.v (Value.bool false), D.v (Value.int IntKind.i64 (0 : Int)), D.v
  (Value.string { data := { toList := [] : Array UInt8 } : ByteArray })]] = List.map AV.cs row ∧ fits e ∧ plainE row.length e = true ∧ intRow row ∧
  row.length ≤ (1353245080300 : Nat) ∧ ∃ (e_1 : EX), ∃ (row_1 : List AV), [D.v (Value.int IntKind.i64 (6 : Int)), D.v (Value.int IntKind.i64 (0 :
  Int)), D.v (Value.int IntKind.i64 (0 : Int)), D.v (Value.int IntKind.i64 (0 : Int)), D.v (Value.int IntKind.i64 (0 : Int)), D.v (Value.int
  IntKind.i64 (0 : Int)), D.v (Value.bool false), D.v (Value.int IntKind.i64 (0 : Int)), D.v (Value.string { data := { toList := [] : Array UInt8 } : ByteArray }),
  D.sl [[D.v (Value.int IntKind.i64 (1 : Int)), D.v (Value.int IntKind.i64 (0 : Int)), D.v (Value.int IntKind.i64 (0 : Int)), D.v (Value.int
  IntKind.i64 (0 : Int)), D.v (Value.int IntKind.i64 (0 : Int)), D.v (Value.int IntKind.i64 (0 : Int)), D.v (Value.bool false), D.v (Value.int
  IntKind.i64 (0 : Int)), D.v (Value.string { data := { toList := [] : Array UInt8 } : ByteArray }), D.sl []], [D.v (Value.int IntKind.i64 (1 : Int)),
  D.v (Value.int IntKind.i64 (1 : Int)), D.v (Value.int IntKind.i64 (0 : Int)), D.v (Value.int IntKind.i64 (0 : Int)), D.v (Value.int IntKind.i64 (0 :
  Int)), D.v (Value.int IntKind.i64 (0 : Int)), D.v (Value.bool false), D.v (Value.int IntKind.i64 (0 : Int)), D.v (Value.string { data := { toList := [] : Array UInt8 } : ByteArray }),
  D.sl []]]] = cells e_1 ∧ [[D.v (Value.int IntKind.i64 (2 : Int)), D.v (Value.int IntKind.i64 (0 : Int)), D.v (Value.bool false), D.v (Value.int
  IntKind.i64 (1 : Int)), D.v (Value.string { data := { toList := [] : Array UInt8 } : ByteArray })], [D.v (Value.int IntKind.i64 (2 : Int)), D.v
  (Value.int IntKind.i64 (0 : Int)), D.v (Value.bool false), D.v (Value.int IntKind.i64 (0 : Int)), D.v (Value.string { data := { toList := [] : Array UInt8 } : ByteArray })]]
  = List.map AV.cs row_1 ∧ fits e_1 ∧ plainE row_1.length e_1 = true ∧ intRow row_1 ∧ row_1.length ≤ (1353245080300 : Nat) ∧ ((bif bif (evalP row
  e).1.1.1 == (2 : Int) && ((evalP row e).1.1.2 == (0 : Int) && ((evalP row e).1.2 == false && ((evalP row e).1.3 == (2 : Int) && ((evalP row e).1.4 ==
  { data := { toList := [] : Array UInt8 } : ByteArray } && true)))) then (evalP row e).2 == (0 : Int) else false then (evalP row_1 e_1).2 == (141 :
  Int) else false) = true → [D.v (Value.int IntKind.i64 (3 : Int)), D.v (Value.int IntKind.i64 (0 : Int)), D.v (Value.int IntKind.i64 (0 : Int)), D.v
  (Value.int IntKind.i64 (0 : Int)), D.v (Value.int IntKind.i64 (0 : Int)), D.v (Value.int IntKind.i64 (0 : Int)), D.v (Value.bool false), D.v
  (Value.int IntKind.i64 (0 : Int)), D.v (Value.string { data := { toList := [] : Array UInt8 } : ByteArray }), D.sl [[D.v (Value.int IntKind.i64 (1 :
  Int)), D.v (Value.int IntKind.i64 (0 : Int)), D.v (Value.int IntKind.i64 (0 : Int)), D.v (Value.int IntKind.i64 (0 : Int)), D.v (Value.int
  IntKind.i64 (0 : Int)), D.v (Value.int IntKind.i64 (0 : Int)), D.v (Value.bool false), D.v (Value.int IntKind.i64 (0 : Int)), D.v (Value.string { data := { toList := [] : Array UInt8 } : ByteArray }),
  D.sl []], [D.v (Value.int IntKind.i64 (1 : Int)), D.v (Value.int IntKind.i64 (1 : Int)), D.v (Value.int IntKind.i64 (0 : Int)), D.v (Value.int
  IntKind.i64 (0 : Int)), D.v (Value.int IntKind.i64 (0 : Int)), D.v (Value.int IntKind.i64 (0 : Int)), D.v (Value.bool false), D.v (Value.int
  IntKind.i64 (0 : Int)), D.v (Value.string { data := { toList := [] : Array UInt8 } : ByteArray }), D.sl []]]] = [D.v (Value.int IntKind.i64 (3 :
  Int)), D.v (Value.int IntKind.i64 (0 : Int)), D.v (Value.int IntKind.i64 (0 : Int)), D.v (Value.int IntKind.i64 (0 : Int)), D.v (Value.int
  IntKind.i64 (0 : Int)), D.v (Value.int IntKind.i64 (0 : Int)), D.v (Value.bool false), D.v (Value.int IntKind.i64 (0 : Int)), D.v (Value.string { data := { toList := [] : Array UInt8 } : ByteArray }),
  D.sl (cellsL [colE ((0 : Nat)), colE ((1 : Nat))])] ∧ Q [R.d (D.v (Value.bool (showB == { data := { toList := [(40 : UInt8), (43 : UInt8), (32 : UInt8), (36 : UInt8), (48 : UInt8), (32 : UInt8), (36 : UInt8), (49 : UInt8), (41 : UInt8)] : Array UInt8 } : ByteArray })))]
  []) ∧ ((bif bif (evalP row e).1.1.1 == (2 : Int) && ((evalP row e).1.1.2 == (0 : Int) && ((evalP row e).1.2 == false && ((evalP row e).1.3 == (2 :
  Int) && ((evalP row e).1.4 == { data := { toList := [] : Array UInt8 } : ByteArray } && true)))) then (evalP row e).2 == (0 : Int) else false then
  (evalP row_1 e_1).2 == (141 : Int) else false) = !true → Q [R.d (D.v (Value.bool false))] [])) := by kernel_rfl
def sumE : EX := .mk 3 0 ⟨0, 0⟩ zeroV [colE 0, colE 0]
def quoE : EX := .mk 6 0 ⟨0, 0⟩ zeroV [colE 0, colE 1]
def rowP : List Go.Ex.AV := [ofI 1, ofI 0]
theorem evalP_sum : evalP rowP sumE = (ofI 2, 0) := by
  have h1 : checkE (typesV rowP) sumE = (⟨2, 0⟩, 0) := by kernel_rfl
  have h2 : rowP.any badV = false := by kernel_rfl
  have h3 : evP rowP sumE = (2, true) := by kernel_rfl
  unfold evalP
  rw [h1, h2, h3]
  rfl
theorem evalP_quo : evalP rowP quoE = (zeroV, 141) := by
  have h1 : checkE (typesV rowP) quoE = (⟨2, 0⟩, 0) := by kernel_rfl
  have h2 : rowP.any badV = false := by kernel_rfl
  have h3 : (evP rowP quoE).2 = false := by kernel_rfl
  unfold evalP
  rw [h1, h2, h3]
  rfl
theorem fits_col (i : Nat) (h : i < 100) : fits (colE i) := by
  simp only [colE, fits, zeroV, fitsL, in64, List.length_nil]
  refine ⟨⟨?_, ?_, ?_, ?_, ?_, ?_, ?_⟩, ?_, trivial⟩ <;> omega
theorem fits_sum : fits sumE := by
  simp only [sumE, fits, zeroV, fitsL, in64, List.length_cons, List.length_nil, fits_col 0 (by decide)]
  refine ⟨⟨?_, ?_, ?_, ?_, ?_, ?_, ?_⟩, ?_, ?_⟩ <;> simp
theorem fits_quo : fits quoE := by
  simp only [quoE, fits, zeroV, fitsL, in64, List.length_cons, List.length_nil, fits_col 0 (by decide), fits_col 1 (by decide)]
  refine ⟨⟨?_, ?_, ?_, ?_, ?_, ?_, ?_⟩, ?_, ?_⟩ <;> simp
theorem int_row : intRow rowP := by
  intro v hv
  simp only [rowP, List.mem_cons, List.not_mem_nil, or_false] at hv
  rcases hv with rfl | rfl <;> rfl
theorem show_val : showB = { data := { toList := [(40 : UInt8), (43 : UInt8), (32 : UInt8), (36 : UInt8), (48 : UInt8), (32 : UInt8), (36 : UInt8), (49 : UInt8), (41 : UInt8)] : Array UInt8 } : ByteArray } := by
  unfold showB
  rw [join_val]
  rfl
/-- begun. -/
theorem ct17 : Ct prog gl 9 [] (gives [.d (.v (.bool true))]) := by
  refine ct_of_vc E_ok C_h4_ok ioK_no it_ok mixed (fn := f9) (body := f9.body.getD .skip) (by kernel_rfl) (by kernel_rfl) (by kernel_rfl) (fi := fi9) (by kernel_rfl) (by kernel_rfl) ⟨_, _, rfl, rfl⟩ ?_
  rw [vc17 0]
  refine ⟨sumE, rowP, ?_, rfl, fits_sum, by kernel_rfl, int_row, by decide, quoE, rowP, ?_, rfl, fits_quo, by kernel_rfl, int_row, by decide, ?_⟩
  · simp only [sumE, colE, cells, cellsL, zeroV]; rfl
  · simp only [quoE, colE, cells, cellsL, zeroV]; rfl
  rw [evalP_sum, evalP_quo, show_val]
  refine ⟨fun _ => ⟨?_, ?_⟩, fun h => absurd h (by decide)⟩
  · simp only [colE, cells, cellsL, zeroV]; rfl
  · exact ⟨rfl, rfl⟩
def c_17 (a : List R) (K : List R → List (List D) → Prop) : Prop := match a with
  | [] => K [.d (.v (.bool true))] []
  | _ => False
theorem c_17_ok (a : List R) (K : List R → List (List D) → Prop) (h : c_17 a K) : Ct prog gl 9 a K := by
  unfold c_17 at h
  split at h
  · exact ct17.gives h
  · exact h.elim
end Go.Proofs.Tryz
