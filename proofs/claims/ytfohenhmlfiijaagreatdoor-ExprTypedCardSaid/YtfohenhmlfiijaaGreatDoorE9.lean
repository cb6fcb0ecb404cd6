/- A part of the proof: contracts of functions, by a verified generator of conditions; no condition of its own. -/
import Derived.Test.YtfohenhmlfiijaaGreatDoorE8
namespace Go.Proofs.Tryz
open Go Go.Dm Go.Ex
set_option maxRecDepth 100000
variable {gl : Nat → Option Obj}
theorem vc18 (k sc : Int) (nul : Bool) (m : Int) (s : ByteArray) (Q : List R → List (List D) → Prop) : vc E_0 C_4e noI fi10 (f10.body.getD .skip) f10.results.toList [.agg [.v (.int .i64 k), .v (.int .i64 sc), .v (.bool nul), .v (.int .i64 m), .v (.string s)]] Q = ( ((s67_0 k sc != (0 : Int)) = true → Q [.d (.v (.int .i64 (s67_0 k sc)))] []) ∧ ((s67_0 k sc != (0 : Int)) = false → (nul = true → ((bif m != (0 : Int) then true else !s == { data := { toList := [] : Array UInt8 } : ByteArray }) = true → Q [.d (.v (.int .i64 20))] []) ∧ ((bif m != (0 : Int) then true else !s == { data := { toList := [] : Array UInt8 } : ByteArray }) = false → Q [.d (.v (.int .i64 0))] [])) ∧ (nul = false → ((k == (4 : Int)) = true → ((bif m != (0 : Int) then true else decide ((↑s.size : Int) > (256 : Int))) = true → Q [.d (.v (.int .i64 20))] []) ∧ ((bif m != (0 : Int) then true else decide ((↑s.size : Int) > (256 : Int))) = false → Q [.d (.v (.int .i64 0))] [])) ∧ ((k == (4 : Int)) = false → ((!s == { data := { toList := [] : Array UInt8 } : ByteArray }) = true → (true = true → Q [.d (.v (.int .i64 20))] []) ∧ (true = false → Q [.d (.v (.int .i64 0))] [])) ∧ ((!s == { data := { toList := [] : Array UInt8 } : ByteArray }) = false → ((k == (1 : Int)) = true → ((bif m != (0 : Int) then m != (1 : Int) else false) = true → Q [.d (.v (.int .i64 20))] []) ∧ ((bif m != (0 : Int) then m != (1 : Int) else false) = false → Q [.d (.v (.int .i64 0))] [])) ∧ ((k == (1 : Int)) = false → ((k == (3 : Int)) = true → ((!s68_0 m) = true → Q [.d (.v (.int .i64 20))] []) ∧ ((!s68_0 m) = false → Q [.d (.v (.int .i64 0))] [])) ∧ ((k == (3 : Int)) = false → ((k == (5 : Int)) = true → ((bif decide (m < (-719162 : Int)) then true else decide (m > (2932896 : Int))) = true → Q [.d (.v (.int .i64 20))] []) ∧ ((bif decide (m < (-719162 : Int)) then true else decide (m > (2932896 : Int))) = false → Q [.d (.v (.int .i64 0))] [])) ∧ ((k == (5 : Int)) = false → (false = true → Q [.d (.v (.int .i64 20))] []) ∧ (false = false → Q [.d (.v (.int .i64 0))] []))))))))) := by kernel_rfl
def c_18 (a : List R) (K : List R → List (List D) → Prop) : Prop := match a with
  | [.agg [.v (.int .i64 k), .v (.int .i64 sc), .v (.bool nul), .v (.int .i64 m), .v (.string s)]] => K [.d (.v (.int .i64 (s56_0 k sc nul m s)))] []
  | _ => False
theorem s67_60 (a b : Int) : s67_0 a b = s60_0 a b := by
  unfold s67_0 s60_0 s124_0
  have h1 : decide (b ≥ 0) = !decide (b < 0) := by by_cases h : b < 0 <;> simp [h] <;> omega
  have h2 : decide (b ≤ 18) = !decide (b > 18) := by by_cases h : b > 18 <;> simp [h] <;> omega
  rw [h1, h2]
  simp only [bne]
  cases decide (a < 1) <;> cases decide (a > 5) <;> cases decide (b < 0) <;> cases decide (b > 18) <;> cases a == 3 <;> cases b == 0 <;> rfl
def chk18 (k sc : Int) (nul : Bool) (m : Int) (s : ByteArray) : Int := bif s67_0 k sc != 0 then s67_0 k sc else bif nul then (bif (bif m != 0 then true else !s == ({ data := { toList := [] } } : ByteArray)) then 20 else 0)
  else bif k == 4 then (bif (bif m != 0 then true else decide ((s.size : Int) > 256)) then 20 else 0)
  else bif !s == ({ data := { toList := [] } } : ByteArray) then 20
  else bif k == 1 then (bif (bif m != 0 then m != 1 else false) then 20 else 0)
  else bif k == 3 then (bif !s68_0 m then 20 else 0)
  else bif k == 5 then (bif (bif decide (m < -719162) then true else decide (m > 2932896)) then 20 else 0)
  else 0
theorem chk18_eq (k sc : Int) (nul : Bool) (m : Int) (s : ByteArray) : chk18 k sc nul m s = s56_0 k sc nul m s := by
  unfold chk18 s56_0 s68_0 s114_0
  rw [s67_60]
  have h1 : decide (m ≥ -719162) = !decide (m < -719162) := by by_cases h : m < -719162 <;> simp [h] <;> omega
  have h2 : decide (m ≤ 2932896) = !decide (m > 2932896) := by by_cases h : m > 2932896 <;> simp [h] <;> omega
  have h3 : decide ((s.size : Int) ≤ 256) = !decide ((s.size : Int) > 256) := by by_cases h : (s.size : Int) > 256 <;> simp [h] <;> omega
  have h4 : decide ((-999999999999999999 : Int) ≤ m) = decide (m ≥ -999999999999999999) := rfl
  rw [h1, h2, h3, h4]
  simp only [bne]
  generalize (s == ({ data := { toList := [] } } : ByteArray)) = Z
  generalize (s60_0 k sc == 0) = Y
  generalize decide (m < -719162) = X1
  generalize decide (m > 2932896) = X2
  generalize decide ((s.size : Int) > 256) = X3
  generalize decide (m ≥ -999999999999999999) = X4
  generalize decide (m ≤ 999999999999999999) = X5
  generalize (m == 0) = M0
  generalize (m == 1) = M1
  generalize s60_0 k sc = S
  have split : ∀ (c1 c3 c4 c5 : Bool), (k == 1) = c1 → (k == 3) = c3 → (k == 4) = c4 → (k == 5) = c5 → (c4 = true → c1 = false ∧ c3 = false ∧ c5 = false) := by
    intro c1 c3 c4 c5 e1 e3 e4 e5 h
    subst h
    have : k = 4 := by simpa using e4
    subst this
    exact ⟨e1.symm, e3.symm, e5.symm⟩
  have split := split _ _ _ _ rfl rfl rfl rfl
  revert split
  generalize (k == 1) = c1
  generalize (k == 3) = c3
  generalize (k == 4) = c4
  generalize (k == 5) = c5
  intro split
  cases Y
  · rfl
  cases nul
  · cases c4
    · cases c1
      · cases c3
        · cases c5
          · cases Z <;> rfl
          · cases Z <;> cases X1 <;> cases X2 <;> rfl
        · cases Z <;> cases X4 <;> cases X5 <;> rfl
      · cases Z <;> cases M0 <;> cases M1 <;> rfl
    · obtain ⟨rfl, rfl, rfl⟩ := split rfl
      cases M0 <;> cases X3 <;> rfl
  · cases M0 <;> cases Z <;> rfl
theorem ct18 (k sc : Int) (nul : Bool) (m : Int) (s : ByteArray) : Ct prog gl 10 [.agg [.v (.int .i64 k), .v (.int .i64 sc), .v (.bool nul), .v (.int .i64 m), .v (.string s)]] (gives [.d (.v (.int .i64 (s56_0 k sc nul m s)))]) := by
  refine ct_of_vc E_ok C_4e_ok ioK_no it_ok mixed (fn := f10) (body := f10.body.getD .skip) (by kernel_rfl) (by kernel_rfl) (by kernel_rfl) (fi := fi10) (by kernel_rfl) (by kernel_rfl) ⟨_, _, rfl, rfl⟩ ?_
  rw [vc18]
  rw [← chk18_eq]
  have fin : ∀ b, chk18 k sc nul m s = b → gives [.d (.v (.int .i64 (chk18 k sc nul m s)))] [R.d (D.v (Value.int .i64 b))] [] := fun b h => by rw [h]; exact ⟨rfl, rfl⟩
  repeat' first | (refine And.intro (fun h => ?_) (fun h => ?_)) | fail
  all_goals first | (refine fin _ ?_; clear fin; simp only [chk18, *, cond_true, cond_false]; done) | (rename_i h; cases h)
theorem c_18_ok (a : List R) (K : List R → List (List D) → Prop) (h : c_18 a K) : Ct prog gl 10 a K := by
  unfold c_18 at h
  split at h
  · exact (ct18 _ _ _ _ _).gives h
  · exact h.elim

def c_57w (a : List R) (K : List R → List (List D) → Prop) : Prop := match a with
  | [.ptr [.sl r, .sl y], .agg x] => ∃ (e : EX) (row : List Go.Ex.AV), r = row.map Go.Ex.AV.cs ∧ y = (typesV row).map Ty.cs ∧ x = cells e ∧ SubOk row (size e + 1) e ∧ RowOk row ∧ row.length ≤ 4398046511104 ∧ ∀ (w : Go.Ex.AV) (ok : Bool), Is (evE row e) w ok → K [.agg w.cs, .d (.v (.bool ok))] []
  | _ => False
theorem c_57w_ok (G : GlOk gl) (a : List R) (K : List R → List (List D) → Prop) (h : c_57w a K) : Ct prog gl 20 a K := by
  unfold c_57w at h
  split at h
  · obtain ⟨e, row, rfl, rfl, rfl, h1, h2, h3, h4⟩ := h
    exact (ct57v G _ e row h1 h2 h3).mono fun res fin ⟨e1, w, ok, hi, e2⟩ => by subst e1; subst e2; exact h4 w ok hi
  · exact h.elim
def C_t57w : CallT := addC C_t122r 20 c_57w
theorem C_t57w_ok (G : GlOk gl) : CallsOk prog gl C_t57w := addC_ok (C_t122r_ok G) (c_57w_ok G)
/-- Eval. -/
noncomputable def evalE (row : List Go.Ex.AV) (e : EX) : Go.Ex.AV × Int :=
  bif (checkE (typesV row) e).2 != 0 then (zeroV, (checkE (typesV row) e).2) else bif row.any badV then (zeroV, 140) else (match evE row e with | none => (zeroV, 141) | some v => (v, 0))
theorem badV_iff {v : Go.Ex.AV} : badV v = false ↔ ValP v := by
  rw [← s56_iff]
  unfold badV s55_0
  cases h : s56_0 v.t.k v.t.sc v.nul v.n v.s == 0
  · simp [bne, h]; simpa using h
  · simp [bne, h]; simpa using h
def RowIn (row : List Go.Ex.AV) : Prop := ∀ v ∈ row, in64 v.n
theorem rowOk_of {row : List Go.Ex.AV} (h : row.any badV = false) (hi : RowIn row) : RowOk row := fun v hv => ⟨badV_iff.1 (by
  rw [Bool.eq_false_iff]
  intro hb
  rw [List.any_eq_true.2 ⟨v, hv, hb⟩] at h
  cases h), hi v hv⟩
theorem vc14v (op sub : Int) (t : Ty) (v : Go.Ex.AV) (args : List EX) (row : List Go.Ex.AV) (Q : List R → List (List D) → Prop) : vc E_9 C_t57w noI fi6 (f6.body.getD .skip) f6.results.toList [.agg (encX op sub t v (cellsL args)), .d (.sl (row.map Go.Ex.AV.cs))] Q = ( (∃ (row_1 : List AV), List.map AV.cs row = List.map AV.cs row_1 ∧ row_1.length ≤ (4398046511104 : Nat) ∧ (∃ (e : EX), ∃ (cols : List Ty), [D.v (Value.int .i64 op), D.v (Value.int .i64 sub), D.v (Value.int .i64 t.1), D.v (Value.int .i64 t.2), D.v (Value.int .i64 v.1.1), D.v (Value.int .i64 v.1.2), D.v (Value.bool v.2), D.v (Value.int .i64 v.3), D.v (Value.string v.4), D.sl (cellsL args)] = cells e ∧ List.map Ty.cs (typesV row_1) = List.map Ty.cs cols ∧ fits e ∧ cols.length ≤ (4398046511104 : Nat) ∧ ∀ (t_1 : Ty) (f : Int), checkE cols e = (t_1, f) → ((f != (0 : Int)) = true → Q [.agg [.v (.int .i64 0), .v (.int .i64 0), .v (.bool false), .v (.int .i64 0), .v (.string ⟨⟨[]⟩⟩)], .d (.v (.int .i64 f))] []) ∧ ((f != (0 : Int)) = false → ∃ (l : List AV), List.map AV.cs row = List.map AV.cs l ∧ l.length < (4611686018427387904 : Nat) ∧ (l.any badV = true → Q [.agg [.v (.int .i64 0), .v (.int .i64 0), .v (.bool false), .v (.int .i64 0), .v (.string ⟨⟨[]⟩⟩)], .d (.v (.int .i64 140))] []) ∧ (l.any badV = false → (∃ (row_2 : List AV), List.map AV.cs row = List.map AV.cs row_2 ∧ row_2.length ≤ (4398046511104 : Nat) ∧ ((∃ (e : EX), ∃ (row_3 : List AV), List.map AV.cs row = List.map AV.cs row_3 ∧ List.map Ty.cs (typesV row_2) = List.map Ty.cs (typesV row_3) ∧ [D.v (Value.int .i64 op), D.v (Value.int .i64 sub), D.v (Value.int .i64 t.1), D.v (Value.int .i64 t.2), D.v (Value.int .i64 v.1.1), D.v (Value.int .i64 v.1.2), D.v (Value.bool v.2), D.v (Value.int .i64 v.3), D.v (Value.string v.4), D.sl (cellsL args)] = cells e ∧ SubOk row_3 (size e).succ e ∧ RowOk row_3 ∧ row_3.length ≤ (4398046511104 : Nat) ∧ ∀ (w : AV) (ok : Bool), Is (evE row_3 e) w ok → ((!ok) = true → Q [.agg [.v (.int .i64 0), .v (.int .i64 0), .v (.bool false), .v (.int .i64 0), .v (.string ⟨⟨[]⟩⟩)], .d (.v (.int .i64 141))] []) ∧ ((!ok) = false → Q [.agg [.v (.int .i64 w.1.1), .v (.int .i64 w.1.2), .v (.bool w.2), .v (.int .i64 w.3), .v (.string w.4)], .d (.v (.int .i64 0))] [])) ∧ ∃ (e : EX), ∃ (row_3 : List AV), List.map AV.cs row = List.map AV.cs row_3 ∧ List.map Ty.cs (typesV row_2) = List.map Ty.cs (typesV row_3) ∧ [D.v (Value.int .i64 op), D.v (Value.int .i64 sub), D.v (Value.int .i64 t.1), D.v (Value.int .i64 t.2), D.v (Value.int .i64 v.1.1), D.v (Value.int .i64 v.1.2), D.v (Value.bool v.2), D.v (Value.int .i64 v.3), D.v (Value.string v.4), D.sl (cellsL args)] = cells e ∧ SubOk row_3 (size e).succ e ∧ RowOk row_3 ∧ row_3.length ≤ (4398046511104 : Nat) ∧ ∀ (w : AV) (ok : Bool), Is (evE row_3 e) w ok → ((!ok) = true → Q [.agg [.v (.int .i64 0), .v (.int .i64 0), .v (.bool false), .v (.int .i64 0), .v (.string ⟨⟨[]⟩⟩)], .d (.v (.int .i64 141))] []) ∧ ((!ok) = false → Q [.agg [.v (.int .i64 w.1.1), .v (.int .i64 w.1.2), .v (.bool w.2), .v (.int .i64 w.3), .v (.string w.4)], .d (.v (.int .i64 0))] [])) ∧ ∃ (e : EX), ∃ (row_3 : List AV), List.map AV.cs row = List.map AV.cs row_3 ∧ List.map Ty.cs (typesV row_2) = List.map Ty.cs (typesV row_3) ∧ [D.v (Value.int .i64 op), D.v (Value.int .i64 sub), D.v (Value.int .i64 t.1), D.v (Value.int .i64 t.2), D.v (Value.int .i64 v.1.1), D.v (Value.int .i64 v.1.2), D.v (Value.bool v.2), D.v (Value.int .i64 v.3), D.v (Value.string v.4), D.sl (cellsL args)] = cells e ∧ SubOk row_3 (size e).succ e ∧ RowOk row_3 ∧ row_3.length ≤ (4398046511104 : Nat) ∧ ∀ (w : AV) (ok : Bool), Is (evE row_3 e) w ok → ((!ok) = true → Q [.agg [.v (.int .i64 0), .v (.int .i64 0), .v (.bool false), .v (.int .i64 0), .v (.string ⟨⟨[]⟩⟩)], .d (.v (.int .i64 141))] []) ∧ ((!ok) = false → Q [.agg [.v (.int .i64 w.1.1), .v (.int .i64 w.1.2), .v (.bool w.2), .v (.int .i64 w.3), .v (.string w.4)], .d (.v (.int .i64 0))] [])) ∧ ∃ (row_2 : List AV), List.map AV.cs row = List.map AV.cs row_2 ∧ row_2.length ≤ (4398046511104 : Nat) ∧ ∃ (e : EX), ∃ (row_3 : List AV), List.map AV.cs row = List.map AV.cs row_3 ∧ List.map Ty.cs (typesV row_2) = List.map Ty.cs (typesV row_3) ∧ [D.v (Value.int .i64 op), D.v (Value.int .i64 sub), D.v (Value.int .i64 t.1), D.v (Value.int .i64 t.2), D.v (Value.int .i64 v.1.1), D.v (Value.int .i64 v.1.2), D.v (Value.bool v.2), D.v (Value.int .i64 v.3), D.v (Value.string v.4), D.sl (cellsL args)] = cells e ∧ SubOk row_3 (size e).succ e ∧ RowOk row_3 ∧ row_3.length ≤ (4398046511104 : Nat) ∧ ∀ (w : AV) (ok : Bool), Is (evE row_3 e) w ok → ((!ok) = true → Q [.agg [.v (.int .i64 0), .v (.int .i64 0), .v (.bool false), .v (.int .i64 0), .v (.string ⟨⟨[]⟩⟩)], .d (.v (.int .i64 141))] []) ∧ ((!ok) = false → Q [.agg [.v (.int .i64 w.1.1), .v (.int .i64 w.1.2), .v (.bool w.2), .v (.int .i64 w.3), .v (.string w.4)], .d (.v (.int .i64 0))] [])))) ∧ ∃ (e : EX), ∃ (cols : List Ty), [D.v (Value.int .i64 op), D.v (Value.int .i64 sub), D.v (Value.int .i64 t.1), D.v (Value.int .i64 t.2), D.v (Value.int .i64 v.1.1), D.v (Value.int .i64 v.1.2), D.v (Value.bool v.2), D.v (Value.int .i64 v.3), D.v (Value.string v.4), D.sl (cellsL args)] = cells e ∧ List.map Ty.cs (typesV row_1) = List.map Ty.cs cols ∧ fits e ∧ cols.length ≤ (4398046511104 : Nat) ∧ ∀ (t_1 : Ty) (f : Int), checkE cols e = (t_1, f) → ((f != (0 : Int)) = true → Q [.agg [.v (.int .i64 0), .v (.int .i64 0), .v (.bool false), .v (.int .i64 0), .v (.string ⟨⟨[]⟩⟩)], .d (.v (.int .i64 f))] []) ∧ ((f != (0 : Int)) = false → ∃ (l : List AV), List.map AV.cs row = List.map AV.cs l ∧ l.length < (4611686018427387904 : Nat) ∧ (l.any badV = true → Q [.agg [.v (.int .i64 0), .v (.int .i64 0), .v (.bool false), .v (.int .i64 0), .v (.string ⟨⟨[]⟩⟩)], .d (.v (.int .i64 140))] []) ∧ (l.any badV = false → (∃ (row_2 : List AV), List.map AV.cs row = List.map AV.cs row_2 ∧ row_2.length ≤ (4398046511104 : Nat) ∧ ((∃ (e : EX), ∃ (row_3 : List AV), List.map AV.cs row = List.map AV.cs row_3 ∧ List.map Ty.cs (typesV row_2) = List.map Ty.cs (typesV row_3) ∧ [D.v (Value.int .i64 op), D.v (Value.int .i64 sub), D.v (Value.int .i64 t.1), D.v (Value.int .i64 t.2), D.v (Value.int .i64 v.1.1), D.v (Value.int .i64 v.1.2), D.v (Value.bool v.2), D.v (Value.int .i64 v.3), D.v (Value.string v.4), D.sl (cellsL args)] = cells e ∧ SubOk row_3 (size e).succ e ∧ RowOk row_3 ∧ row_3.length ≤ (4398046511104 : Nat) ∧ ∀ (w : AV) (ok : Bool), Is (evE row_3 e) w ok → ((!ok) = true → Q [.agg [.v (.int .i64 0), .v (.int .i64 0), .v (.bool false), .v (.int .i64 0), .v (.string ⟨⟨[]⟩⟩)], .d (.v (.int .i64 141))] []) ∧ ((!ok) = false → Q [.agg [.v (.int .i64 w.1.1), .v (.int .i64 w.1.2), .v (.bool w.2), .v (.int .i64 w.3), .v (.string w.4)], .d (.v (.int .i64 0))] [])) ∧ ∃ (e : EX), ∃ (row_3 : List AV), List.map AV.cs row = List.map AV.cs row_3 ∧ List.map Ty.cs (typesV row_2) = List.map Ty.cs (typesV row_3) ∧ [D.v (Value.int .i64 op), D.v (Value.int .i64 sub), D.v (Value.int .i64 t.1), D.v (Value.int .i64 t.2), D.v (Value.int .i64 v.1.1), D.v (Value.int .i64 v.1.2), D.v (Value.bool v.2), D.v (Value.int .i64 v.3), D.v (Value.string v.4), D.sl (cellsL args)] = cells e ∧ SubOk row_3 (size e).succ e ∧ RowOk row_3 ∧ row_3.length ≤ (4398046511104 : Nat) ∧ ∀ (w : AV) (ok : Bool), Is (evE row_3 e) w ok → ((!ok) = true → Q [.agg [.v (.int .i64 0), .v (.int .i64 0), .v (.bool false), .v (.int .i64 0), .v (.string ⟨⟨[]⟩⟩)], .d (.v (.int .i64 141))] []) ∧ ((!ok) = false → Q [.agg [.v (.int .i64 w.1.1), .v (.int .i64 w.1.2), .v (.bool w.2), .v (.int .i64 w.3), .v (.string w.4)], .d (.v (.int .i64 0))] [])) ∧ ∃ (e : EX), ∃ (row_3 : List AV), List.map AV.cs row = List.map AV.cs row_3 ∧ List.map Ty.cs (typesV row_2) = List.map Ty.cs (typesV row_3) ∧ [D.v (Value.int .i64 op), D.v (Value.int .i64 sub), D.v (Value.int .i64 t.1), D.v (Value.int .i64 t.2), D.v (Value.int .i64 v.1.1), D.v (Value.int .i64 v.1.2), D.v (Value.bool v.2), D.v (Value.int .i64 v.3), D.v (Value.string v.4), D.sl (cellsL args)] = cells e ∧ SubOk row_3 (size e).succ e ∧ RowOk row_3 ∧ row_3.length ≤ (4398046511104 : Nat) ∧ ∀ (w : AV) (ok : Bool), Is (evE row_3 e) w ok → ((!ok) = true → Q [.agg [.v (.int .i64 0), .v (.int .i64 0), .v (.bool false), .v (.int .i64 0), .v (.string ⟨⟨[]⟩⟩)], .d (.v (.int .i64 141))] []) ∧ ((!ok) = false → Q [.agg [.v (.int .i64 w.1.1), .v (.int .i64 w.1.2), .v (.bool w.2), .v (.int .i64 w.3), .v (.string w.4)], .d (.v (.int .i64 0))] [])) ∧ ∃ (row_2 : List AV), List.map AV.cs row = List.map AV.cs row_2 ∧ row_2.length ≤ (4398046511104 : Nat) ∧ ∃ (e : EX), ∃ (row_3 : List AV), List.map AV.cs row = List.map AV.cs row_3 ∧ List.map Ty.cs (typesV row_2) = List.map Ty.cs (typesV row_3) ∧ [D.v (Value.int .i64 op), D.v (Value.int .i64 sub), D.v (Value.int .i64 t.1), D.v (Value.int .i64 t.2), D.v (Value.int .i64 v.1.1), D.v (Value.int .i64 v.1.2), D.v (Value.bool v.2), D.v (Value.int .i64 v.3), D.v (Value.string v.4), D.sl (cellsL args)] = cells e ∧ SubOk row_3 (size e).succ e ∧ RowOk row_3 ∧ row_3.length ≤ (4398046511104 : Nat) ∧ ∀ (w : AV) (ok : Bool), Is (evE row_3 e) w ok → ((!ok) = true → Q [.agg [.v (.int .i64 0), .v (.int .i64 0), .v (.bool false), .v (.int .i64 0), .v (.string ⟨⟨[]⟩⟩)], .d (.v (.int .i64 141))] []) ∧ ((!ok) = false → Q [.agg [.v (.int .i64 w.1.1), .v (.int .i64 w.1.2), .v (.bool w.2), .v (.int .i64 w.3), .v (.string w.4)], .d (.v (.int .i64 0))] [])))) ∧ ∃ (row_1 : List AV), List.map AV.cs row = List.map AV.cs row_1 ∧ row_1.length ≤ (4398046511104 : Nat) ∧ ∃ (e : EX), ∃ (cols : List Ty), [D.v (Value.int .i64 op), D.v (Value.int .i64 sub), D.v (Value.int .i64 t.1), D.v (Value.int .i64 t.2), D.v (Value.int .i64 v.1.1), D.v (Value.int .i64 v.1.2), D.v (Value.bool v.2), D.v (Value.int .i64 v.3), D.v (Value.string v.4), D.sl (cellsL args)] = cells e ∧ List.map Ty.cs (typesV row_1) = List.map Ty.cs cols ∧ fits e ∧ cols.length ≤ (4398046511104 : Nat) ∧ ∀ (t_1 : Ty) (f : Int), checkE cols e = (t_1, f) → ((f != (0 : Int)) = true → Q [.agg [.v (.int .i64 0), .v (.int .i64 0), .v (.bool false), .v (.int .i64 0), .v (.string ⟨⟨[]⟩⟩)], .d (.v (.int .i64 f))] []) ∧ ((f != (0 : Int)) = false → ∃ (l : List AV), List.map AV.cs row = List.map AV.cs l ∧ l.length < (4611686018427387904 : Nat) ∧ (l.any badV = true → Q [.agg [.v (.int .i64 0), .v (.int .i64 0), .v (.bool false), .v (.int .i64 0), .v (.string ⟨⟨[]⟩⟩)], .d (.v (.int .i64 140))] []) ∧ (l.any badV = false → (∃ (row_2 : List AV), List.map AV.cs row = List.map AV.cs row_2 ∧ row_2.length ≤ (4398046511104 : Nat) ∧ ((∃ (e : EX), ∃ (row_3 : List AV), List.map AV.cs row = List.map AV.cs row_3 ∧ List.map Ty.cs (typesV row_2) = List.map Ty.cs (typesV row_3) ∧ [D.v (Value.int .i64 op), D.v (Value.int .i64 sub), D.v (Value.int .i64 t.1), D.v (Value.int .i64 t.2), D.v (Value.int .i64 v.1.1), D.v (Value.int .i64 v.1.2), D.v (Value.bool v.2), D.v (Value.int .i64 v.3), D.v (Value.string v.4), D.sl (cellsL args)] = cells e ∧ SubOk row_3 (size e).succ e ∧ RowOk row_3 ∧ row_3.length ≤ (4398046511104 : Nat) ∧ ∀ (w : AV) (ok : Bool), Is (evE row_3 e) w ok → ((!ok) = true → Q [.agg [.v (.int .i64 0), .v (.int .i64 0), .v (.bool false), .v (.int .i64 0), .v (.string ⟨⟨[]⟩⟩)], .d (.v (.int .i64 141))] []) ∧ ((!ok) = false → Q [.agg [.v (.int .i64 w.1.1), .v (.int .i64 w.1.2), .v (.bool w.2), .v (.int .i64 w.3), .v (.string w.4)], .d (.v (.int .i64 0))] [])) ∧ ∃ (e : EX), ∃ (row_3 : List AV), List.map AV.cs row = List.map AV.cs row_3 ∧ List.map Ty.cs (typesV row_2) = List.map Ty.cs (typesV row_3) ∧ [D.v (Value.int .i64 op), D.v (Value.int .i64 sub), D.v (Value.int .i64 t.1), D.v (Value.int .i64 t.2), D.v (Value.int .i64 v.1.1), D.v (Value.int .i64 v.1.2), D.v (Value.bool v.2), D.v (Value.int .i64 v.3), D.v (Value.string v.4), D.sl (cellsL args)] = cells e ∧ SubOk row_3 (size e).succ e ∧ RowOk row_3 ∧ row_3.length ≤ (4398046511104 : Nat) ∧ ∀ (w : AV) (ok : Bool), Is (evE row_3 e) w ok → ((!ok) = true → Q [.agg [.v (.int .i64 0), .v (.int .i64 0), .v (.bool false), .v (.int .i64 0), .v (.string ⟨⟨[]⟩⟩)], .d (.v (.int .i64 141))] []) ∧ ((!ok) = false → Q [.agg [.v (.int .i64 w.1.1), .v (.int .i64 w.1.2), .v (.bool w.2), .v (.int .i64 w.3), .v (.string w.4)], .d (.v (.int .i64 0))] [])) ∧ ∃ (e : EX), ∃ (row_3 : List AV), List.map AV.cs row = List.map AV.cs row_3 ∧ List.map Ty.cs (typesV row_2) = List.map Ty.cs (typesV row_3) ∧ [D.v (Value.int .i64 op), D.v (Value.int .i64 sub), D.v (Value.int .i64 t.1), D.v (Value.int .i64 t.2), D.v (Value.int .i64 v.1.1), D.v (Value.int .i64 v.1.2), D.v (Value.bool v.2), D.v (Value.int .i64 v.3), D.v (Value.string v.4), D.sl (cellsL args)] = cells e ∧ SubOk row_3 (size e).succ e ∧ RowOk row_3 ∧ row_3.length ≤ (4398046511104 : Nat) ∧ ∀ (w : AV) (ok : Bool), Is (evE row_3 e) w ok → ((!ok) = true → Q [.agg [.v (.int .i64 0), .v (.int .i64 0), .v (.bool false), .v (.int .i64 0), .v (.string ⟨⟨[]⟩⟩)], .d (.v (.int .i64 141))] []) ∧ ((!ok) = false → Q [.agg [.v (.int .i64 w.1.1), .v (.int .i64 w.1.2), .v (.bool w.2), .v (.int .i64 w.3), .v (.string w.4)], .d (.v (.int .i64 0))] [])) ∧ ∃ (row_2 : List AV), List.map AV.cs row = List.map AV.cs row_2 ∧ row_2.length ≤ (4398046511104 : Nat) ∧ ∃ (e : EX), ∃ (row_3 : List AV), List.map AV.cs row = List.map AV.cs row_3 ∧ List.map Ty.cs (typesV row_2) = List.map Ty.cs (typesV row_3) ∧ [D.v (Value.int .i64 op), D.v (Value.int .i64 sub), D.v (Value.int .i64 t.1), D.v (Value.int .i64 t.2), D.v (Value.int .i64 v.1.1), D.v (Value.int .i64 v.1.2), D.v (Value.bool v.2), D.v (Value.int .i64 v.3), D.v (Value.string v.4), D.sl (cellsL args)] = cells e ∧ SubOk row_3 (size e).succ e ∧ RowOk row_3 ∧ row_3.length ≤ (4398046511104 : Nat) ∧ ∀ (w : AV) (ok : Bool), Is (evE row_3 e) w ok → ((!ok) = true → Q [.agg [.v (.int .i64 0), .v (.int .i64 0), .v (.bool false), .v (.int .i64 0), .v (.string ⟨⟨[]⟩⟩)], .d (.v (.int .i64 141))] []) ∧ ((!ok) = false → Q [.agg [.v (.int .i64 w.1.1), .v (.int .i64 w.1.2), .v (.bool w.2), .v (.int .i64 w.3), .v (.string w.4)], .d (.v (.int .i64 0))] [])))) := by kernel_rfl
theorem ct14v (G : GlOk gl) : ∀ (e : EX) (row : List Go.Ex.AV) (hf : fits e) (hi : RowIn row) (hrl : row.length ≤ 4398046511104),
    Ct prog gl 6 [.agg (cells e), .d (.sl (row.map Go.Ex.AV.cs))] (gives [.agg (evalE row e).1.cs, .d (.v (.int .i64 (evalE row e).2))])
  | .mk op sub t v args, row, hf, hi, hrl => by
    have hc : encX op sub t v (cellsL args) = cells (.mk op sub t v args) := (cells_mk _ _ _ _ _).symm
    rw [cells_mk]
    refine ct_of_vc (E := E_9) ⟨E_ok.te⟩ (C_t57w_ok G) ioK_no (fun _ _ _ h => h.elim) mixed (fn := f6) (body := f6.body.getD .skip) (by kernel_rfl) (by kernel_rfl) (by kernel_rfl) (fi := fi6) (by kernel_rfl) (by kernel_rfl) ⟨_, _, rfl, rfl⟩ ?_
    rw [vc14v]
    have htl : (typesV row).length = row.length := by simp [typesV]
    refine ⟨⟨row, rfl, hrl, ?_, ?_⟩, row, rfl, hrl, ?_⟩
    all_goals
      refine ⟨.mk op sub t v args, typesV row, hc, rfl, hf, by omega, fun t1 f hk => ⟨fun h => ?_, fun h => ⟨row, rfl, by omega, fun hb => ?_, fun hb => ?_⟩⟩⟩
      · unfold evalE
        rw [hk]
        dsimp only
        rw [h]
        exact ⟨rfl, rfl⟩
      · unfold evalE
        rw [hk]
        dsimp only
        rw [h, hb]
        exact ⟨rfl, rfl⟩
      · have hm := check_may (cols := typesV row) (e := .mk op sub t v args) (by rw [hk]; simpa using h)
        rw [htl] at hm
        have hro := rowOk_of hb hi
        have hso : SubOk row (size (.mk op sub t v args) + 1) (.mk op sub t v args) := ⟨Nat.lt_succ_self _, hf, hm.1, hm.2⟩
        have fin : ∀ (w : Go.Ex.AV) (ok : Bool), Is (evE row (.mk op sub t v args)) w ok →
            ((!ok) = true → gives [.agg (evalE row (.mk op sub t v args)).1.cs, .d (.v (.int .i64 (evalE row (.mk op sub t v args)).2))] [R.agg [D.v (Value.int IntKind.i64 (0 : Int)), D.v (Value.int IntKind.i64 (0 : Int)), D.v (Value.bool false), D.v (Value.int IntKind.i64 (0 : Int)), D.v (Value.string { data := { toList := [] : Array UInt8 } : ByteArray })], R.d (D.v (Value.int IntKind.i64 (141 : Int)))] []) ∧
            ((!ok) = false → gives [.agg (evalE row (.mk op sub t v args)).1.cs, .d (.v (.int .i64 (evalE row (.mk op sub t v args)).2))] [R.agg w.cs, R.d (D.v (Value.int IntKind.i64 (0 : Int)))] []) := by
          intro w ok hok
          have key : evalE row (.mk op sub t v args) = bif !ok then (zeroV, 141) else (w, 0) := by
            unfold evalE
            rw [hk]
            dsimp only
            rw [h, hb, cond_false, cond_false]
            cases ok with
            | false => rw [is_none hok]; rfl
            | true => rw [is_some hok]; rfl
          rw [key]
          refine ⟨fun h => ?_, fun h => ?_⟩
          · rw [h]; exact ⟨rfl, rfl⟩
          · rw [h]; exact ⟨rfl, rfl⟩
        refine ⟨⟨row, rfl, hrl, ⟨?_, ?_⟩, ?_⟩, row, rfl, hrl, ?_⟩
        all_goals exact ⟨.mk op sub t v args, row, rfl, rfl, hc, hso, hro, hrl, fin⟩
def c_14v (a : List R) (K : List R → List (List D) → Prop) : Prop := match a with
  | [.agg x, .d (.sl y)] => ∃ (e : EX) (row : List Go.Ex.AV), x = cells e ∧ y = row.map Go.Ex.AV.cs ∧ fits e ∧ RowIn row ∧ row.length ≤ 4398046511104 ∧ ∀ (w : Go.Ex.AV) (f : Int), evalE row e = (w, f) → K [.agg w.cs, .d (.v (.int .i64 f))] []
  | _ => False
theorem c_14v_ok (G : GlOk gl) (a : List R) (K : List R → List (List D) → Prop) (h : c_14v a K) : Ct prog gl 6 a K := by
  unfold c_14v at h
  split at h
  · obtain ⟨e, row, rfl, rfl, h1, h2, h3, h4⟩ := h
    exact (ct14v G e row h1 h2 h3).gives (h4 _ _ rfl)
  · exact h.elim
def C_t14v : CallT := addC C_t57w 6 c_14v
theorem C_t14v_ok (G : GlOk gl) : CallsOk prog gl C_t14v := addC_ok (C_t57w_ok G) (c_14v_ok G)
def C_t66s : CallT := addC C_t14v 29 c_66s
theorem C_t66s_ok (G : GlOk gl) : CallsOk prog gl C_t66s := addC_ok (C_t14v_ok G) c_66s_ok
theorem vc17v (u : Nat) (Q : List R → List (List D) → Prop) : vc E_0 C_t66s noI fi9 (f9.body.getD .skip) f9.results.toList [] Q = ( ∃ (e : EX), ∃ (row : List AV), [D.v (Value.int .i64 3), D.v (Value.int .i64 0), D.v (Value.int .i64 0), D.v (Value.int .i64 0), D.v (Value.int .i64 0), D.v (Value.int .i64 0), D.v (Value.bool false), D.v (Value.int .i64 0), D.v (Value.string ⟨⟨[]⟩⟩), D.sl [[D.v (Value.int .i64 1), D.v (Value.int .i64 0), D.v (Value.int .i64 0), D.v (Value.int .i64 0), D.v (Value.int .i64 0), D.v (Value.int .i64 0), D.v (Value.bool false), D.v (Value.int .i64 0), D.v (Value.string ⟨⟨[]⟩⟩), D.sl []], [D.v (Value.int .i64 1), D.v (Value.int .i64 0), D.v (Value.int .i64 0), D.v (Value.int .i64 0), D.v (Value.int .i64 0), D.v (Value.int .i64 0), D.v (Value.bool false), D.v (Value.int .i64 0), D.v (Value.string ⟨⟨[]⟩⟩), D.sl []]]] = cells e ∧ [[D.v (Value.int .i64 2), D.v (Value.int .i64 0), D.v (Value.bool false), D.v (Value.int .i64 1), D.v (Value.string ⟨⟨[]⟩⟩)], [D.v (Value.int .i64 2), D.v (Value.int .i64 0), D.v (Value.bool false), D.v (Value.int .i64 0), D.v (Value.string ⟨⟨[]⟩⟩)]] = List.map AV.cs row ∧ fits e ∧ RowIn row ∧ row.length ≤ (4398046511104 : Nat) ∧ ∀ (w : AV) (f : Int), evalE row e = (w, f) → ∃ (e : EX), ∃ (row : List AV), [D.v (Value.int .i64 6), D.v (Value.int .i64 0), D.v (Value.int .i64 0), D.v (Value.int .i64 0), D.v (Value.int .i64 0), D.v (Value.int .i64 0), D.v (Value.bool false), D.v (Value.int .i64 0), D.v (Value.string ⟨⟨[]⟩⟩), D.sl [[D.v (Value.int .i64 1), D.v (Value.int .i64 0), D.v (Value.int .i64 0), D.v (Value.int .i64 0), D.v (Value.int .i64 0), D.v (Value.int .i64 0), D.v (Value.bool false), D.v (Value.int .i64 0), D.v (Value.string ⟨⟨[]⟩⟩), D.sl []], [D.v (Value.int .i64 1), D.v (Value.int .i64 1), D.v (Value.int .i64 0), D.v (Value.int .i64 0), D.v (Value.int .i64 0), D.v (Value.int .i64 0), D.v (Value.bool false), D.v (Value.int .i64 0), D.v (Value.string ⟨⟨[]⟩⟩), D.sl []]]] = cells e ∧ [[D.v (Value.int .i64 2), D.v (Value.int .i64 0), D.v (Value.bool false), D.v (Value.int .i64 1), D.v (Value.string ⟨⟨[]⟩⟩)], [D.v (Value.int .i64 2), D.v (Value.int .i64 0), D.v (Value.bool false), D.v (Value.int .i64 0), D.v (Value.string ⟨⟨[]⟩⟩)]] = List.map AV.cs row ∧ fits e ∧ RowIn row ∧ row.length ≤ (4398046511104 : Nat) ∧ ∀ (w_1 : AV) (f_1 : Int), evalE row e = (w_1, f_1) → ((bif bif w.1.1 == (2 : Int) && (w.1.2 == (0 : Int) && (w.2 == false && (w.3 == (2 : Int) && (w.4 == { data := { toList := [] : Array UInt8 } : ByteArray } && true)))) then f == (0 : Int) else false then f_1 == (141 : Int) else false) = true → [D.v (Value.int .i64 3), D.v (Value.int .i64 0), D.v (Value.int .i64 0), D.v (Value.int .i64 0), D.v (Value.int .i64 0), D.v (Value.int .i64 0), D.v (Value.bool false), D.v (Value.int .i64 0), D.v (Value.string ⟨⟨[]⟩⟩), D.sl [[D.v (Value.int .i64 1), D.v (Value.int .i64 0), D.v (Value.int .i64 0), D.v (Value.int .i64 0), D.v (Value.int .i64 0), D.v (Value.int .i64 0), D.v (Value.bool false), D.v (Value.int .i64 0), D.v (Value.string ⟨⟨[]⟩⟩), D.sl []], [D.v (Value.int .i64 1), D.v (Value.int .i64 1), D.v (Value.int .i64 0), D.v (Value.int .i64 0), D.v (Value.int .i64 0), D.v (Value.int .i64 0), D.v (Value.bool false), D.v (Value.int .i64 0), D.v (Value.string ⟨⟨[]⟩⟩), D.sl []]]] = [D.v (Value.int .i64 3), D.v (Value.int .i64 0), D.v (Value.int .i64 0), D.v (Value.int .i64 0), D.v (Value.int .i64 0), D.v (Value.int .i64 0), D.v (Value.bool false), D.v (Value.int .i64 0), D.v (Value.string ⟨⟨[]⟩⟩), D.sl (cellsL [colE ((0 : Nat)), colE ((1 : Nat))])] ∧ Q [.d (.v (.bool (showB == { data := { toList := [(40 : UInt8), (43 : UInt8), (32 : UInt8), (36 : UInt8), (48 : UInt8), (32 : UInt8), (36 : UInt8), (49 : UInt8), (41 : UInt8)] : Array UInt8 } : ByteArray })))] []) ∧ ((bif bif w.1.1 == (2 : Int) && (w.1.2 == (0 : Int) && (w.2 == false && (w.3 == (2 : Int) && (w.4 == { data := { toList := [] : Array UInt8 } : ByteArray } && true)))) then f == (0 : Int) else false then f_1 == (141 : Int) else false) = !true → Q [.d (.v (.bool false))] [])) := by kernel_rfl
theorem evalE_sum : evalE rowP sumE = (ofI 2, 0) := by
  have h1 : checkE (typesV rowP) sumE = (⟨2, 0⟩, 0) := by kernel_rfl
  have h2 : rowP.any badV = false := by kernel_rfl
  have h3 : evE rowP sumE = some (ofI 2) := by kernel_rfl
  unfold evalE
  rw [h1]
  dsimp only
  rw [h2, h3]
  simp only [bne_self_eq_false, cond_false]
theorem evalE_quo : evalE rowP quoE = (zeroV, 141) := by
  have h1 : checkE (typesV rowP) quoE = (⟨2, 0⟩, 0) := by kernel_rfl
  have h2 : rowP.any badV = false := by kernel_rfl
  have h3 : evE rowP quoE = none := by kernel_rfl
  unfold evalE
  rw [h1]
  dsimp only
  rw [h2, h3]
  simp only [bne_self_eq_false, cond_false]
theorem rowP_in : RowIn rowP := by
  intro v hv
  simp only [rowP, List.mem_cons, List.not_mem_nil, or_false] at hv
  rcases hv with rfl | rfl <;> exact ⟨by decide, by decide⟩
theorem ct17v (G : GlOk gl) : Ct prog gl 9 [] (gives [.d (.v (.bool true))]) := by
  refine ct_of_vc E_ok (C_t66s_ok G) ioK_no it_ok mixed (fn := f9) (body := f9.body.getD .skip) (by kernel_rfl) (by kernel_rfl) (by kernel_rfl) (fi := fi9) (by kernel_rfl) (by kernel_rfl) ⟨_, _, rfl, rfl⟩ ?_
  rw [vc17v 0]
  refine ⟨sumE, rowP, ?_, rfl, fits_sum, rowP_in, by decide, fun w1 g1 e1 => ⟨quoE, rowP, ?_, rfl, fits_quo, rowP_in, by decide, fun w2 g2 e2 => ?_⟩⟩
  · simp only [sumE, colE, cells, cellsL, zeroV]; rfl
  · simp only [quoE, colE, cells, cellsL, zeroV]; rfl
  rw [evalE_sum] at e1
  rw [evalE_quo] at e2
  cases e1
  cases e2
  rw [show_val]
  refine ⟨fun _ => ⟨?_, ?_⟩, fun h => absurd h (by decide)⟩
  · simp only [colE, cells, cellsL, zeroV]; rfl
  · exact ⟨rfl, rfl⟩
def c_17v (a : List R) (K : List R → List (List D) → Prop) : Prop := match a with
  | [] => K [.d (.v (.bool true))] []
  | _ => False
theorem c_17v_ok (G : GlOk gl) (a : List R) (K : List R → List (List D) → Prop) (h : c_17v a K) : Ct prog gl 9 a K := by
  unfold c_17v at h
  split at h
  · exact (ct17v G).gives h
  · exact h.elim
def st_16 (row : List Go.Ex.AV) (x : Nat) : St := { tm := [(0, .d (.sl (row.map Go.Ex.AV.cs))), (2, .nil), (3, .own 50003), (4, .d (.v (.int .i64 (x : Int))))], hp := [(50003, .lst 23 2 ((typesV (row.take x)).map Ty.cs))], kn := [], gd := [] }
def fx_16 (row : List Go.Ex.AV) : Fi := { fi8 with cv := [(3, [⟨none, 3, 50003, 23, 2⟩])], lx := [(3, { X := Nat, sh := st_16 row, P := fun _ => inv_53 row })] }
theorem vc16 (row : List Go.Ex.AV) (Q : List R → List (List D) → Prop) : vc E_0 C_4e noI (fx_16 row) (f8.body.getD .skip) f8.results.toList [.d (.sl (row.map Go.Ex.AV.cs))] Q = ( ∃ (x0 : { X := Nat, sh := st_16 row, P := fun (x : Nat) => inv_53 row : LX }.X), ({ tm := [((0 : Nat), V.d (D.sl (List.map AV.cs row))), ((2 : Nat), V.nil), ((3 : Nat), V.own ((50003 : Nat))), ((4 : Nat), V.d (D.v (Value.int .i64 0)))], hp := [((50003 : Nat), B.lst ((23 : Nat)) ((2 : Nat)) [])], kn := [], gd := [] : St } = { tm := [((0 : Nat), V.d (D.sl (List.map AV.cs row))), ((2 : Nat), V.nil), ((3 : Nat), V.own ((50003 : Nat))), ((4 : Nat), V.d (D.v (Value.int .i64 (↑x0 : Int))))], hp := [((50003 : Nat), B.lst ((23 : Nat)) ((2 : Nat)) (List.map Ty.cs (typesV (List.take x0 row))))], kn := [], gd := [] : St } ∧ ∃ (n : Nat), inv_53 row n x0) ∧ ∀ (n : Nat) (x : { X := Nat, sh := st_16 row, P := fun (x : Nat) => inv_53 row : LX }.X), inv_53 row n x → ∃ (es : List (List D)), D.sl (List.map AV.cs row) = D.sl es ∧ (decide ((↑x : Int) < (↑es.length : Int)) = true → ∃ (es : List (List D)), D.sl (List.map AV.cs row) = D.sl es ∧ ((0 : Int) ≤ (↑x : Int) ∧ (↑x : Int) < (↑es.length : Int)) ∧ ∃ (cells : List D), es[(↑x : Int).toNat]? = some cells ∧ cells.length = (5 : Nat) ∧ ∃ (n_1 : Int), ∃ (n_2 : Int), cut ((0 : Nat)) ((2 : Nat)) cells = some [D.v (Value.int .i64 n_1), D.v (Value.int .i64 n_2)] ∧ (∀ (c : List D), c ∈ [[D.v (Value.int .i64 n_1), D.v (Value.int .i64 n_2)]] → c.length = (2 : Nat)) ∧ (23 : Nat) = (23 : Nat) ∧ (2 : Nat) = (2 : Nat) ∧ (↑(List.map Ty.cs (typesV (List.take x row))).length.succ : Int) * (↑((16 : Nat)) : Int) ≤ (140737488355328 : Int) ∧ ∃ (m : Nat), ∃ (x' : { X := Nat, sh := st_16 row, P := fun (x : Nat) => inv_53 row : LX }.X), m < n ∧ { tm := [((0 : Nat), V.d (D.sl (List.map AV.cs row))), ((2 : Nat), V.nil), ((3 : Nat), V.own ((50003 : Nat))), ((4 : Nat), V.d (D.v (Value.int .i64 (IntKind.i64.wrap ((↑x : Int) + (1 : Int))))))], hp := [((50003 : Nat), B.lst ((23 : Nat)) ((2 : Nat)) (List.map Ty.cs (typesV (List.take x row)) ++ [[D.v (Value.int .i64 n_1), D.v (Value.int .i64 n_2)]]))], kn := [], gd := [] : St } = { tm := [((0 : Nat), V.d (D.sl (List.map AV.cs row))), ((2 : Nat), V.nil), ((3 : Nat), V.own ((50003 : Nat))), ((4 : Nat), V.d (D.v (Value.int .i64 (↑x' : Int))))], hp := [((50003 : Nat), B.lst ((23 : Nat)) ((2 : Nat)) (List.map Ty.cs (typesV (List.take x' row))))], kn := [], gd := [] : St } ∧ inv_53 row m x') ∧ (decide ((↑x : Int) < (↑es.length : Int)) = false → Q [.d (.sl (List.map Ty.cs (typesV (List.take x row))))] [])) := by kernel_rfl
theorem ct16 (row : List Go.Ex.AV) (hl : row.length ≤ 4398046511104) : Ct prog gl 8 [.d (.sl (row.map Go.Ex.AV.cs))] (gives [.d (.sl ((typesV row).map Ty.cs))]) := by
  refine ct_of_vc E_ok C_4e_ok ioK_no it_ok mixed (fn := f8) (body := f8.body.getD .skip) (by kernel_rfl) (by kernel_rfl) (by kernel_rfl) (fi := fx_16 row) (by kernel_rfl) (by kernel_rfl) ⟨_, _, rfl, rfl⟩ ?_
  rw [vc16]
  refine ⟨(0 : Nat), ⟨rfl, row.length, Nat.zero_le _, rfl⟩, fun m (x : Nat) hx => ⟨_, rfl, fun hi => ?_, fun hi => ?_⟩⟩
  · have hi : x < row.length := by simpa using hi
    have hm := hx.2
    refine ⟨_, rfl, ⟨by omega, by rw [List.length_map]; omega⟩, (row[x]).cs, by rw [Int.toNat_natCast, List.getElem?_map, List.getElem?_eq_getElem hi]; rfl, rfl, _, _, rfl, by simp, rfl, rfl, ?_, row.length - (x + 1), x + 1, by omega, ?_, hi, rfl⟩
    · have : (List.map Ty.cs (typesV (List.take x row))).length ≤ row.length := by simp [typesV]; omega
      simp only [Nat.succ_eq_add_one]; omega
    · rw [wrap_next (by omega), List.take_add_one, List.getElem?_eq_getElem hi, Option.toList_some]
      simp only [typesV, List.map_append, List.map_cons, List.map_nil]
  · have hi : ¬ x < row.length := by simpa using hi
    rw [List.take_of_length_le (by omega)]
    exact ⟨rfl, rfl⟩
def c_16 (a : List R) (K : List R → List (List D) → Prop) : Prop := match a with
  | [.d (.sl x)] => ∃ row : List Go.Ex.AV, x = row.map Go.Ex.AV.cs ∧ row.length ≤ 4398046511104 ∧ K [.d (.sl ((typesV row).map Ty.cs))] []
  | _ => False
theorem c_16_ok (a : List R) (K : List R → List (List D) → Prop) (h : c_16 a K) : Ct prog gl 8 a K := by
  unfold c_16 at h
  split at h
  · obtain ⟨row, rfl, h1, h2⟩ := h
    exact (ct16 row h1).gives h2
  · exact h.elim
def C_t16 : CallT := addC C_t66s 8 c_16
theorem C_t16_ok (G : GlOk gl) : CallsOk prog gl C_t16 := addC_ok (C_t66s_ok G) c_16_ok
def C_t18 : CallT := addC C_t16 10 c_18
theorem C_t18_ok (G : GlOk gl) : CallsOk prog gl C_t18 := addC_ok (C_t16_ok G) c_18_ok
def C_t17v : CallT := addC C_t18 9 c_17v
theorem C_t17v_ok (G : GlOk gl) : CallsOk prog gl C_t17v := addC_ok (C_t18_ok G) (c_17v_ok G)
theorem vc3 (op sub : Int) (t : Ty) (v : Go.Ex.AV) (args : List EX) (row : List Go.Ex.AV) (Q : List R → List (List D) → Prop) : vc E_0 C_t17v noI fi3 (f3.body.getD .skip) f3.results.toList [.agg (encX op sub t v (cellsL args)), .d (.sl (row.map Go.Ex.AV.cs))] Q = ( ∃ (e : EX), ∃ (row_1 : List AV), [D.v (Value.int .i64 op), D.v (Value.int .i64 sub), D.v (Value.int .i64 t.1), D.v (Value.int .i64 t.2), D.v (Value.int .i64 v.1.1), D.v (Value.int .i64 v.1.2), D.v (Value.bool v.2), D.v (Value.int .i64 v.3), D.v (Value.string v.4), D.sl (cellsL args)] = cells e ∧ List.map AV.cs row = List.map AV.cs row_1 ∧ fits e ∧ RowIn row_1 ∧ row_1.length ≤ (4398046511104 : Nat) ∧ ∀ (w : AV) (f : Int), evalE row_1 e = (w, f) → (∃ (row_2 : List AV), List.map AV.cs row = List.map AV.cs row_2 ∧ row_2.length ≤ (4398046511104 : Nat) ∧ (∃ (e : EX), ∃ (cols : List Ty), [D.v (Value.int .i64 op), D.v (Value.int .i64 sub), D.v (Value.int .i64 t.1), D.v (Value.int .i64 t.2), D.v (Value.int .i64 v.1.1), D.v (Value.int .i64 v.1.2), D.v (Value.bool v.2), D.v (Value.int .i64 v.3), D.v (Value.string v.4), D.sl (cellsL args)] = cells e ∧ List.map Ty.cs (typesV row_2) = List.map Ty.cs cols ∧ fits e ∧ cols.length ≤ (4398046511104 : Nat) ∧ ∀ (t : Ty) (f_1 : Int), checkE cols e = (t, f_1) → ((!true) = true → Q [.d (.v (.bool false))] []) ∧ ((!true) = false → ((f != (0 : Int)) = true → Q [.d (.v (.bool (bif w.1.1 == (0 : Int) && (w.1.2 == (0 : Int) && (w.2 == false && (w.3 == (0 : Int) && (w.4 == { data := { toList := [] : Array UInt8 } : ByteArray } && true)))) then bif bif bif f == (141 : Int) then f_1 == (0 : Int) else false then true else f == (140 : Int) then true else f == f_1 else false)))] []) ∧ ((f != (0 : Int)) = false → Q [.d (.v (.bool (bif bif f_1 == (0 : Int) then w.1.1 == t.1 && (w.1.2 == t.2 && true) else false then s56_0 w.1.1 w.1.2 w.2 w.3 w.4 == (0 : Int) else false)))] []))) ∧ ∃ (e : EX), ∃ (cols : List Ty), [D.v (Value.int .i64 op), D.v (Value.int .i64 sub), D.v (Value.int .i64 t.1), D.v (Value.int .i64 t.2), D.v (Value.int .i64 v.1.1), D.v (Value.int .i64 v.1.2), D.v (Value.bool v.2), D.v (Value.int .i64 v.3), D.v (Value.string v.4), D.sl (cellsL args)] = cells e ∧ List.map Ty.cs (typesV row_2) = List.map Ty.cs cols ∧ fits e ∧ cols.length ≤ (4398046511104 : Nat) ∧ ∀ (t : Ty) (f_1 : Int), checkE cols e = (t, f_1) → ((!true) = true → Q [.d (.v (.bool false))] []) ∧ ((!true) = false → ((f != (0 : Int)) = true → Q [.d (.v (.bool (bif w.1.1 == (0 : Int) && (w.1.2 == (0 : Int) && (w.2 == false && (w.3 == (0 : Int) && (w.4 == { data := { toList := [] : Array UInt8 } : ByteArray } && true)))) then bif bif bif f == (141 : Int) then f_1 == (0 : Int) else false then true else f == (140 : Int) then true else f == f_1 else false)))] []) ∧ ((f != (0 : Int)) = false → Q [.d (.v (.bool (bif bif f_1 == (0 : Int) then w.1.1 == t.1 && (w.1.2 == t.2 && true) else false then s56_0 w.1.1 w.1.2 w.2 w.3 w.4 == (0 : Int) else false)))] []))) ∧ ∃ (row_2 : List AV), List.map AV.cs row = List.map AV.cs row_2 ∧ row_2.length ≤ (4398046511104 : Nat) ∧ ∃ (e : EX), ∃ (cols : List Ty), [D.v (Value.int .i64 op), D.v (Value.int .i64 sub), D.v (Value.int .i64 t.1), D.v (Value.int .i64 t.2), D.v (Value.int .i64 v.1.1), D.v (Value.int .i64 v.1.2), D.v (Value.bool v.2), D.v (Value.int .i64 v.3), D.v (Value.string v.4), D.sl (cellsL args)] = cells e ∧ List.map Ty.cs (typesV row_2) = List.map Ty.cs cols ∧ fits e ∧ cols.length ≤ (4398046511104 : Nat) ∧ ∀ (t : Ty) (f_1 : Int), checkE cols e = (t, f_1) → ((!true) = true → Q [.d (.v (.bool false))] []) ∧ ((!true) = false → ((f != (0 : Int)) = true → Q [.d (.v (.bool (bif w.1.1 == (0 : Int) && (w.1.2 == (0 : Int) && (w.2 == false && (w.3 == (0 : Int) && (w.4 == { data := { toList := [] : Array UInt8 } : ByteArray } && true)))) then bif bif bif f == (141 : Int) then f_1 == (0 : Int) else false then true else f == (140 : Int) then true else f == f_1 else false)))] []) ∧ ((f != (0 : Int)) = false → Q [.d (.v (.bool (bif bif f_1 == (0 : Int) then w.1.1 == t.1 && (w.1.2 == t.2 && true) else false then s56_0 w.1.1 w.1.2 w.2 w.3 w.4 == (0 : Int) else false)))] []))) := by kernel_rfl
theorem ct3 (G : GlOk gl) : ∀ (e : EX) (row : List Go.Ex.AV) (hf : fits e) (hi : RowIn row) (hrl : row.length ≤ 4398046511104),
    Ct prog gl 3 [.agg (cells e), .d (.sl (row.map Go.Ex.AV.cs))] (gives [.d (.v (.bool true))])
  | .mk op sub t v args, row, hf, hi, hrl => by
    have hc : encX op sub t v (cellsL args) = cells (.mk op sub t v args) := (cells_mk _ _ _ _ _).symm
    rw [cells_mk]
    refine ct_of_vc E_ok (C_t17v_ok G) ioK_no it_ok mixed (fn := f3) (body := f3.body.getD .skip) (by kernel_rfl) (by kernel_rfl) (by kernel_rfl) (fi := fi3) (by kernel_rfl) (by kernel_rfl) ⟨_, _, rfl, rfl⟩ ?_
    rw [vc3]
    have htl : (typesV row).length = row.length := by simp [typesV]
    refine ⟨.mk op sub t v args, row, hc, rfl, hf, hi, hrl, fun w f hev => ?_⟩
    have fin : ∀ (t1 : Ty) (ff : Int), checkE (typesV row) (.mk op sub t v args) = (t1, ff) →
        ((f != 0) = true → gives [.d (.v (.bool true))] [R.d (D.v (Value.bool (bif w.t.k == (0 : Int) && (w.t.sc == (0 : Int) && (w.nul == false && (w.n == (0 : Int) && (w.s == { data := { toList := [] : Array UInt8 } : ByteArray } && true)))) then bif bif bif f == (141 : Int) then ff == (0 : Int) else false then true else f == (140 : Int) then true else f == ff else false)))] []) ∧
        ((f != 0) = false → gives [.d (.v (.bool true))] [R.d (D.v (Value.bool (bif bif ff == (0 : Int) then w.t.k == t1.k && (w.t.sc == t1.sc && true) else false then s56_0 w.t.k w.t.sc w.nul w.n w.s == (0 : Int) else false)))] []) := by
      intro t1 ff hk
      unfold evalE at hev
      rw [hk] at hev
      dsimp only at hev
      cases h1 : ff != 0 with
      | true =>
        rw [h1, cond_true] at hev
        cases hev
        refine ⟨fun _ => ?_, fun h => ?_⟩
        · have : (bif bif bif f == (141 : Int) then f == (0 : Int) else false then true else f == (140 : Int) then true else f == f) = true := by
            cases (f == (141 : Int)) <;> cases (f == (140 : Int)) <;> cases (f == (0 : Int)) <;> simp
          rw [this]
          exact ⟨rfl, rfl⟩
        · rw [h] at h1; cases h1
      | false =>
        rw [h1, cond_false] at hev
        have h1' : ff = 0 := by simpa using h1
        subst h1'
        cases hb : row.any badV with
        | true =>
          rw [hb, cond_true] at hev
          cases hev
          exact ⟨fun _ => ⟨rfl, rfl⟩, fun h => by cases h⟩
        | false =>
          rw [hb, cond_false] at hev
          have hro := rowOk_of hb hi
          cases hv : evE row (.mk op sub t v args) with
          | none =>
            rw [hv] at hev
            cases hev
            exact ⟨fun _ => ⟨rfl, rfl⟩, fun h => by cases h⟩
          | some v1 =>
            rw [hv] at hev
            cases hev
            refine ⟨fun h => (by cases h), fun _ => ?_⟩
            have hm := check_may (cols := typesV row) (e := .mk op sub t v args) (by rw [hk])
            rw [htl] at hm
            have good := evE_ok hro hf hm.1 hm.2 hv
            have ht1 : (typedE (typesV row) (.mk op sub t v args)).1 = t1 := by
              have hk' := hk
              unfold checkE at hk'
              rw [hm.2] at hk'
              revert hk'
              cases (bif bif bif (typesV row).any badT then true else decide (nodes (.mk op sub t v args) > 256) then true else decide (deep (.mk op sub t v args) > 24) then true else !mayE (typesV row).length (.mk op sub t v args)) with
              | false => intro h; exact (Prod.mk.inj h).1
              | true => intro h; exact absurd (Prod.mk.inj h).2 (by decide)
            rw [ht1] at good
            have h56 := s56_iff.2 good.2.1
            rw [h56, good.1]
            have e1 : (t1.k == t1.k) = true := beq_self_eq_true _
            have e2 : (t1.sc == t1.sc) = true := beq_self_eq_true _
            rw [e1, e2]
            exact ⟨rfl, rfl⟩
    refine ⟨⟨row, rfl, hrl, ?_, ?_⟩, row, rfl, hrl, ?_⟩
    all_goals exact ⟨.mk op sub t v args, typesV row, hc, rfl, hf, by omega, fun t1 ff hk => ⟨fun h => (by cases h), fun _ => fin t1 ff hk⟩⟩
end Go.Proofs.Tryz
