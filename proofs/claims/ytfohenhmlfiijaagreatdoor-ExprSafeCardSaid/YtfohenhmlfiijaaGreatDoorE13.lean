/- A part of the proof: contracts of functions, by a verified generator of conditions; no condition of its own. -/
import Derived.Test.YtfohenhmlfiijaaGreatDoorE8
import Derived.Test.YtfohenhmlfiijaaGreatDoorE7
namespace Go.Proofs.Tryz
open Go Go.Dm Go.Ex
set_option maxRecDepth 100000
variable {gl : Nat → Option Obj}
theorem vc18 (k sc : Int) (nul : Bool) (m : Int) (s : ByteArray) (Q : List R → List (List D) → Prop) : vc E_0 C_4e noI fi10 (f10.body.getD .skip) f10.results.toList [.agg [.v (.int .i64 k), .v (.int .i64 sc), .v (.bool nul), .v (.int .i64 m), .v (.string s)]] Q = ( ((s67_0 k sc != (0 : Int)) = true → Q [.d (.i (s67_0 k sc))] []) ∧ ((s67_0 k sc != (0 : Int)) = false → (nul = true → ((bif m != (0 : Int) then true else !s == { data := { toList := [] : Array UInt8 } : ByteArray }) = true → Q [.d (.i 20)] []) ∧ ((bif m != (0 : Int) then true else !s == { data := { toList := [] : Array UInt8 } : ByteArray }) = false → Q [.d (.i 0)] [])) ∧ (nul = false → ((k == 4) = true → ((bif m != (0 : Int) then true else decide ((↑s.size : Int) > 256)) = true → Q [.d (.i 20)] []) ∧ ((bif m != (0 : Int) then true else decide ((↑s.size : Int) > 256)) = false → Q [.d (.i 0)] [])) ∧ ((k == 4) = false → ((!s == { data := { toList := [] : Array UInt8 } : ByteArray }) = true → (true = true → Q [.d (.i 20)] []) ∧ (true = false → Q [.d (.i 0)] [])) ∧ ((!s == { data := { toList := [] : Array UInt8 } : ByteArray }) = false → ((k == 1) = true → ((bif m != (0 : Int) then m != (1 : Int) else false) = true → Q [.d (.i 20)] []) ∧ ((bif m != (0 : Int) then m != (1 : Int) else false) = false → Q [.d (.i 0)] [])) ∧ ((k == 1) = false → ((k == 3) = true → ((!s68_0 m) = true → Q [.d (.i 20)] []) ∧ ((!s68_0 m) = false → Q [.d (.i 0)] [])) ∧ ((k == 3) = false → ((k == 5) = true → ((bif decide (m < (-719162 : Int)) then true else decide (m > 2932896)) = true → Q [.d (.i 20)] []) ∧ ((bif decide (m < (-719162 : Int)) then true else decide (m > 2932896)) = false → Q [.d (.i 0)] [])) ∧ ((k == 5) = false → (false = true → Q [.d (.i 20)] []) ∧ (false = false → Q [.d (.i 0)] []))))))))) := by kernel_rfl
def c_18 (a : List R) (K : List R → List (List D) → Prop) : Prop := match a with
  | [.agg [.v (.int .i64 k), .v (.int .i64 sc), .v (.bool nul), .v (.int .i64 m), .v (.string s)]] => K [.d (.v (.int .i64 (s56_0 k sc nul m s)))] []
  | _ => False
theorem s67_60 (a b : Int) : s67_0 a b = s60_0 a b := by
  unfold s67_0 s60_0 s124_0
  have h1 : decide (b ≥ 0) = !decide (b < 0) := by by_cases h : b < 0 <;> simp [h] <;> omega
  have h2 : decide (b ≤ 18) = !decide (b > 18) := by by_cases h : b > 18 <;> simp [h] <;> omega
  rw [h1, h2]
  simp only [bne]
  cases decide (a < 1) <;> cases decide (a > 5) <;> cases decide (b < 0) <;> cases decide (b > 18) <;> cases a == 3 <;> cases b == 0 <;> rfl
def chk18 (k sc : Int) (nul : Bool) (m : Int) (s : ByteArray) : Int := bif s67_0 k sc != 0 then s67_0 k sc else bif nul then (bif (bif m != 0 then true else !s == ({ data := { toList := [] } } : ByteArray)) then 20 else 0)
  else bif k == 4 then (bif (bif m != 0 then true else decide ((s.size : Int) > 256)) then 20 else 0)
  else bif !s == ({ data := { toList := [] } } : ByteArray) then 20
  else bif k == 1 then (bif (bif m != 0 then m != 1 else false) then 20 else 0)
  else bif k == 3 then (bif !s68_0 m then 20 else 0)
  else bif k == 5 then (bif (bif decide (m < -719162) then true else decide (m > 2932896)) then 20 else 0)
  else 0
theorem chk18_eq (k sc : Int) (nul : Bool) (m : Int) (s : ByteArray) : chk18 k sc nul m s = s56_0 k sc nul m s := by
  unfold chk18 s56_0 s68_0 s114_0
  rw [s67_60]
  have h1 : decide (m ≥ -719162) = !decide (m < -719162) := by by_cases h : m < -719162 <;> simp [h] <;> omega
  have h2 : decide (m ≤ 2932896) = !decide (m > 2932896) := by by_cases h : m > 2932896 <;> simp [h] <;> omega
  have h3 : decide ((s.size : Int) ≤ 256) = !decide ((s.size : Int) > 256) := by by_cases h : (s.size : Int) > 256 <;> simp [h] <;> omega
  have h4 : decide ((-999999999999999999 : Int) ≤ m) = decide (m ≥ -999999999999999999) := rfl
  rw [h1, h2, h3, h4]
  simp only [bne]
  generalize (s == ({ data := { toList := [] } } : ByteArray)) = Z
  generalize (s60_0 k sc == 0) = Y
  generalize decide (m < -719162) = X1
  generalize decide (m > 2932896) = X2
  generalize decide ((s.size : Int) > 256) = X3
  generalize decide (m ≥ -999999999999999999) = X4
  generalize decide (m ≤ 999999999999999999) = X5
  generalize (m == 0) = M0
  generalize (m == 1) = M1
  generalize s60_0 k sc = S
  have split : ∀ (c1 c3 c4 c5 : Bool), (k == 1) = c1 → (k == 3) = c3 → (k == 4) = c4 → (k == 5) = c5 → (c4 = true → c1 = false ∧ c3 = false ∧ c5 = false) := by
    intro c1 c3 c4 c5 e1 e3 e4 e5 h
    subst h
    have : k = 4 := by simpa using e4
    subst this
    exact ⟨e1.symm, e3.symm, e5.symm⟩
  have split := split _ _ _ _ rfl rfl rfl rfl
  revert split
  generalize (k == 1) = c1
  generalize (k == 3) = c3
  generalize (k == 4) = c4
  generalize (k == 5) = c5
  intro split
  cases Y
  · rfl
  cases nul
  · cases c4
    · cases c1
      · cases c3
        · cases c5
          · cases Z <;> rfl
          · cases Z <;> cases X1 <;> cases X2 <;> rfl
        · cases Z <;> cases X4 <;> cases X5 <;> rfl
      · cases Z <;> cases M0 <;> cases M1 <;> rfl
    · obtain ⟨rfl, rfl, rfl⟩ := split rfl
      cases M0 <;> cases X3 <;> rfl
  · cases M0 <;> cases Z <;> rfl
theorem ct18 (k sc : Int) (nul : Bool) (m : Int) (s : ByteArray) : Ct prog gl 10 [.agg [.v (.int .i64 k), .v (.int .i64 sc), .v (.bool nul), .v (.int .i64 m), .v (.string s)]] (gives [.d (.v (.int .i64 (s56_0 k sc nul m s)))]) := by
  refine ct_of_vc E_ok C_4e_ok ioK_no it_ok mixed (fn := f10) (body := f10.body.getD .skip) (by kernel_rfl) (by kernel_rfl) (by kernel_rfl) (fi := fi10) (by kernel_rfl) (by kernel_rfl) ⟨_, _, rfl, rfl⟩ ?_
  rw [vc18]
  rw [← chk18_eq]
  have fin : ∀ b, chk18 k sc nul m s = b → gives [.d (.v (.int .i64 (chk18 k sc nul m s)))] [R.d (D.v (Value.int .i64 b))] [] := fun b h => by rw [h]; exact ⟨rfl, rfl⟩
  repeat' first | (refine And.intro (fun h => ?_) (fun h => ?_)) | fail
  all_goals first | (refine fin _ ?_; clear fin; simp only [chk18, *, cond_true, cond_false]; done) | (rename_i h; cases h)
theorem c_18_ok (a : List R) (K : List R → List (List D) → Prop) (h : c_18 a K) : Ct prog gl 10 a K := by
  unfold c_18 at h
  split at h
  · exact (ct18 _ _ _ _ _).gives h
  · exact h.elim

def c_57w (a : List R) (K : List R → List (List D) → Prop) : Prop := match a with
  | [.ptr [.sl r, .sl y], .agg x] => ∃ (e : EX) (row : List Go.Ex.AV), r = row.map Go.Ex.AV.cs ∧ y = (typesV row).map Ty.cs ∧ x = cells e ∧ SubOk row (size e + 1) e ∧ RowOk row ∧ row.length ≤ 4398046511104 ∧ ∀ (w : Go.Ex.AV) (ok : Bool), Is (evE row e) w ok → K [.agg w.cs, .d (.v (.bool ok))] []
  | _ => False
theorem c_57w_ok (G : GlOk gl) (a : List R) (K : List R → List (List D) → Prop) (h : c_57w a K) : Ct prog gl 20 a K := by
  unfold c_57w at h
  split at h
  · obtain ⟨e, row, rfl, rfl, rfl, h1, h2, h3, h4⟩ := h
    exact (ct57v G _ e row h1 h2 h3).mono fun res fin ⟨e1, w, ok, hi, e2⟩ => by subst e1; subst e2; exact h4 w ok hi
  · exact h.elim
def C_t57w : CallT := addC C_t122r 20 c_57w
theorem C_t57w_ok (G : GlOk gl) : CallsOk prog gl C_t57w := addC_ok (C_t122r_ok G) (c_57w_ok G)
/-- Eval. -/
noncomputable def evalE (row : List Go.Ex.AV) (e : EX) : Go.Ex.AV × Int :=
  bif (checkE (typesV row) e).2 != 0 then (zeroV, (checkE (typesV row) e).2) else bif row.any badV then (zeroV, 140) else (match evE row e with | none => (zeroV, 141) | some v => (v, 0))
theorem badV_iff {v : Go.Ex.AV} : badV v = false ↔ ValP v := by
  rw [← s56_iff]
  unfold badV s55_0
  cases h : s56_0 v.t.k v.t.sc v.nul v.n v.s == 0
  · simp [bne, h]; simpa using h
  · simp [bne, h]; simpa using h
def RowIn (row : List Go.Ex.AV) : Prop := ∀ v ∈ row, in64 v.n
theorem rowOk_of {row : List Go.Ex.AV} (h : row.any badV = false) (hi : RowIn row) : RowOk row := fun v hv => ⟨badV_iff.1 (by
  rw [Bool.eq_false_iff]
  intro hb
  rw [List.any_eq_true.2 ⟨v, hv, hb⟩] at h
  cases h), hi v hv⟩
theorem vc14v (op sub : Int) (t : Ty) (v : Go.Ex.AV) (args : List EX) (row : List Go.Ex.AV) (Q : List R → List (List D) → Prop) : vc E_9 C_t57w noI fi6 (f6.body.getD .skip) f6.results.toList [.agg (encX op sub t v (cellsL args)), .d (.sl (row.map Go.Ex.AV.cs))] Q = ((fun (P_1 : Prop) => ( (∃ (row_1 : List AV), List.map AV.cs row = List.map AV.cs row_1 ∧ row_1.length ≤ 4398046511104 ∧ (∃ (e : EX), ∃ (cols : List Ty), [D.i op, D.i sub, D.i t.1, D.i t.2, D.i v.1.1, D.i v.1.2, D.v (.bool v.2), D.i v.3, D.v (.string v.4), D.sl (cellsL args)] = cells e ∧ List.map Ty.cs (typesV row_1) = List.map Ty.cs cols ∧ fits e ∧ cols.length ≤ 4398046511104 ∧ ∀ (t_1 : Ty) (f : Int), checkE cols e = (t_1, f) → ((f != (0 : Int)) = true → Q [.agg [.i 0, .i 0, .v (.bool false), .i 0, .v (.string ⟨⟨[]⟩⟩)], .d (.i f)] []) ∧ ((f != (0 : Int)) = false → ∃ (l : List AV), List.map AV.cs row = List.map AV.cs l ∧ l.length < 4611686018427387904 ∧ (l.any badV = true → Q [.agg [.i 0, .i 0, .v (.bool false), .i 0, .v (.string ⟨⟨[]⟩⟩)], .d (.i 140)] []) ∧ (l.any badV = false → P_1 ∧ ∃ (row_2 : List AV), List.map AV.cs row = List.map AV.cs row_2 ∧ row_2.length ≤ 4398046511104 ∧ ∃ (e : EX), ∃ (row_3 : List AV), List.map AV.cs row = List.map AV.cs row_3 ∧ List.map Ty.cs (typesV row_2) = List.map Ty.cs (typesV row_3) ∧ [D.i op, D.i sub, D.i t.1, D.i t.2, D.i v.1.1, D.i v.1.2, D.v (.bool v.2), D.i v.3, D.v (.string v.4), D.sl (cellsL args)] = cells e ∧ SubOk row_3 (size e).succ e ∧ RowOk row_3 ∧ row_3.length ≤ 4398046511104 ∧ ∀ (w : AV) (ok : Bool), Is (evE row_3 e) w ok → ((!ok) = true → Q [.agg [.i 0, .i 0, .v (.bool false), .i 0, .v (.string ⟨⟨[]⟩⟩)], .d (.i 141)] []) ∧ ((!ok) = false → Q [.agg [.i w.1.1, .i w.1.2, .v (.bool w.2), .i w.3, .v (.string w.4)], .d (.i 0)] [])))) ∧ ∃ (e : EX), ∃ (cols : List Ty), [D.i op, D.i sub, D.i t.1, D.i t.2, D.i v.1.1, D.i v.1.2, D.v (.bool v.2), D.i v.3, D.v (.string v.4), D.sl (cellsL args)] = cells e ∧ List.map Ty.cs (typesV row_1) = List.map Ty.cs cols ∧ fits e ∧ cols.length ≤ 4398046511104 ∧ ∀ (t_1 : Ty) (f : Int), checkE cols e = (t_1, f) → ((f != (0 : Int)) = true → Q [.agg [.i 0, .i 0, .v (.bool false), .i 0, .v (.string ⟨⟨[]⟩⟩)], .d (.i f)] []) ∧ ((f != (0 : Int)) = false → ∃ (l : List AV), List.map AV.cs row = List.map AV.cs l ∧ l.length < 4611686018427387904 ∧ (l.any badV = true → Q [.agg [.i 0, .i 0, .v (.bool false), .i 0, .v (.string ⟨⟨[]⟩⟩)], .d (.i 140)] []) ∧ (l.any badV = false → P_1 ∧ ∃ (row_2 : List AV), List.map AV.cs row = List.map AV.cs row_2 ∧ row_2.length ≤ 4398046511104 ∧ ∃ (e : EX), ∃ (row_3 : List AV), List.map AV.cs row = List.map AV.cs row_3 ∧ List.map Ty.cs (typesV row_2) = List.map Ty.cs (typesV row_3) ∧ [D.i op, D.i sub, D.i t.1, D.i t.2, D.i v.1.1, D.i v.1.2, D.v (.bool v.2), D.i v.3, D.v (.string v.4), D.sl (cellsL args)] = cells e ∧ SubOk row_3 (size e).succ e ∧ RowOk row_3 ∧ row_3.length ≤ 4398046511104 ∧ ∀ (w : AV) (ok : Bool), Is (evE row_3 e) w ok → ((!ok) = true → Q [.agg [.i 0, .i 0, .v (.bool false), .i 0, .v (.string ⟨⟨[]⟩⟩)], .d (.i 141)] []) ∧ ((!ok) = false → Q [.agg [.i w.1.1, .i w.1.2, .v (.bool w.2), .i w.3, .v (.string w.4)], .d (.i 0)] [])))) ∧ ∃ (row_1 : List AV), List.map AV.cs row = List.map AV.cs row_1 ∧ row_1.length ≤ 4398046511104 ∧ ∃ (e : EX), ∃ (cols : List Ty), [D.i op, D.i sub, D.i t.1, D.i t.2, D.i v.1.1, D.i v.1.2, D.v (.bool v.2), D.i v.3, D.v (.string v.4), D.sl (cellsL args)] = cells e ∧ List.map Ty.cs (typesV row_1) = List.map Ty.cs cols ∧ fits e ∧ cols.length ≤ 4398046511104 ∧ ∀ (t_1 : Ty) (f : Int), checkE cols e = (t_1, f) → ((f != (0 : Int)) = true → Q [.agg [.i 0, .i 0, .v (.bool false), .i 0, .v (.string ⟨⟨[]⟩⟩)], .d (.i f)] []) ∧ ((f != (0 : Int)) = false → ∃ (l : List AV), List.map AV.cs row = List.map AV.cs l ∧ l.length < 4611686018427387904 ∧ (l.any badV = true → Q [.agg [.i 0, .i 0, .v (.bool false), .i 0, .v (.string ⟨⟨[]⟩⟩)], .d (.i 140)] []) ∧ (l.any badV = false → P_1 ∧ ∃ (row_2 : List AV), List.map AV.cs row = List.map AV.cs row_2 ∧ row_2.length ≤ 4398046511104 ∧ ∃ (e : EX), ∃ (row_3 : List AV), List.map AV.cs row = List.map AV.cs row_3 ∧ List.map Ty.cs (typesV row_2) = List.map Ty.cs (typesV row_3) ∧ [D.i op, D.i sub, D.i t.1, D.i t.2, D.i v.1.1, D.i v.1.2, D.v (.bool v.2), D.i v.3, D.v (.string v.4), D.sl (cellsL args)] = cells e ∧ SubOk row_3 (size e).succ e ∧ RowOk row_3 ∧ row_3.length ≤ 4398046511104 ∧ ∀ (w : AV) (ok : Bool), Is (evE row_3 e) w ok → ((!ok) = true → Q [.agg [.i 0, .i 0, .v (.bool false), .i 0, .v (.string ⟨⟨[]⟩⟩)], .d (.i 141)] []) ∧ ((!ok) = false → Q [.agg [.i w.1.1, .i w.1.2, .v (.bool w.2), .i w.3, .v (.string w.4)], .d (.i 0)] []))))) (∃ (row_2 : List AV), List.map AV.cs row = List.map AV.cs row_2 ∧ row_2.length ≤ 4398046511104 ∧ ((∃ (e : EX), ∃ (row_3 : List AV), List.map AV.cs row = List.map AV.cs row_3 ∧ List.map Ty.cs (typesV row_2) = List.map Ty.cs (typesV row_3) ∧ [D.i op, D.i sub, D.i t.1, D.i t.2, D.i v.1.1, D.i v.1.2, D.v (.bool v.2), D.i v.3, D.v (.string v.4), D.sl (cellsL args)] = cells e ∧ SubOk row_3 (size e).succ e ∧ RowOk row_3 ∧ row_3.length ≤ 4398046511104 ∧ ∀ (w : AV) (ok : Bool), Is (evE row_3 e) w ok → ((!ok) = true → Q [.agg [.i 0, .i 0, .v (.bool false), .i 0, .v (.string ⟨⟨[]⟩⟩)], .d (.i 141)] []) ∧ ((!ok) = false → Q [.agg [.i w.1.1, .i w.1.2, .v (.bool w.2), .i w.3, .v (.string w.4)], .d (.i 0)] [])) ∧ ∃ (e : EX), ∃ (row_3 : List AV), List.map AV.cs row = List.map AV.cs row_3 ∧ List.map Ty.cs (typesV row_2) = List.map Ty.cs (typesV row_3) ∧ [D.i op, D.i sub, D.i t.1, D.i t.2, D.i v.1.1, D.i v.1.2, D.v (.bool v.2), D.i v.3, D.v (.string v.4), D.sl (cellsL args)] = cells e ∧ SubOk row_3 (size e).succ e ∧ RowOk row_3 ∧ row_3.length ≤ 4398046511104 ∧ ∀ (w : AV) (ok : Bool), Is (evE row_3 e) w ok → ((!ok) = true → Q [.agg [.i 0, .i 0, .v (.bool false), .i 0, .v (.string ⟨⟨[]⟩⟩)], .d (.i 141)] []) ∧ ((!ok) = false → Q [.agg [.i w.1.1, .i w.1.2, .v (.bool w.2), .i w.3, .v (.string w.4)], .d (.i 0)] [])) ∧ ∃ (e : EX), ∃ (row_3 : List AV), List.map AV.cs row = List.map AV.cs row_3 ∧ List.map Ty.cs (typesV row_2) = List.map Ty.cs (typesV row_3) ∧ [D.i op, D.i sub, D.i t.1, D.i t.2, D.i v.1.1, D.i v.1.2, D.v (.bool v.2), D.i v.3, D.v (.string v.4), D.sl (cellsL args)] = cells e ∧ SubOk row_3 (size e).succ e ∧ RowOk row_3 ∧ row_3.length ≤ 4398046511104 ∧ ∀ (w : AV) (ok : Bool), Is (evE row_3 e) w ok → ((!ok) = true → Q [.agg [.i 0, .i 0, .v (.bool false), .i 0, .v (.string ⟨⟨[]⟩⟩)], .d (.i 141)] []) ∧ ((!ok) = false → Q [.agg [.i w.1.1, .i w.1.2, .v (.bool w.2), .i w.3, .v (.string w.4)], .d (.i 0)] []))) := by kernel_rfl
theorem ct14v (G : GlOk gl) : ∀ (e : EX) (row : List Go.Ex.AV) (hf : fits e) (hi : RowIn row) (hrl : row.length ≤ 4398046511104),
    Ct prog gl 6 [.agg (cells e), .d (.sl (row.map Go.Ex.AV.cs))] (gives [.agg (evalE row e).1.cs, .d (.v (.int .i64 (evalE row e).2))])
  | .mk op sub t v args, row, hf, hi, hrl => by
    have hc : encX op sub t v (cellsL args) = cells (.mk op sub t v args) := (cells_mk _ _ _ _ _).symm
    rw [cells_mk]
    refine ct_of_vc (E := E_9) ⟨E_ok.te⟩ (C_t57w_ok G) ioK_no (fun _ _ _ h => h.elim) mixed (fn := f6) (body := f6.body.getD .skip) (by kernel_rfl) (by kernel_rfl) (by kernel_rfl) (fi := fi6) (by kernel_rfl) (by kernel_rfl) ⟨_, _, rfl, rfl⟩ ?_
    rw [vc14v]
    have htl : (typesV row).length = row.length := by simp [typesV]
    refine ⟨⟨row, rfl, hrl, ?_, ?_⟩, row, rfl, hrl, ?_⟩
    all_goals
      refine ⟨.mk op sub t v args, typesV row, hc, rfl, hf, by omega, fun t1 f hk => ⟨fun h => ?_, fun h => ⟨row, rfl, by omega, fun hb => ?_, fun hb => ?_⟩⟩⟩
      · unfold evalE
        rw [hk]
        dsimp only
        rw [h]
        exact ⟨rfl, rfl⟩
      · unfold evalE
        rw [hk]
        dsimp only
        rw [h, hb]
        exact ⟨rfl, rfl⟩
      · have hm := check_may (cols := typesV row) (e := .mk op sub t v args) (by rw [hk]; simpa using h)
        rw [htl] at hm
        have hro := rowOk_of hb hi
        have hso : SubOk row (size (.mk op sub t v args) + 1) (.mk op sub t v args) := ⟨Nat.lt_succ_self _, hf, hm.1, hm.2⟩
        have fin : ∀ (w : Go.Ex.AV) (ok : Bool), Is (evE row (.mk op sub t v args)) w ok →
            ((!ok) = true → gives [.agg (evalE row (.mk op sub t v args)).1.cs, .d (.v (.int .i64 (evalE row (.mk op sub t v args)).2))] [R.agg [D.v (Value.int IntKind.i64 (0 : Int)), D.v (Value.int IntKind.i64 (0 : Int)), D.v (Value.bool false), D.v (Value.int IntKind.i64 (0 : Int)), D.v (Value.string { data := { toList := [] : Array UInt8 } : ByteArray })], R.d (D.v (Value.int IntKind.i64 (141 : Int)))] []) ∧
            ((!ok) = false → gives [.agg (evalE row (.mk op sub t v args)).1.cs, .d (.v (.int .i64 (evalE row (.mk op sub t v args)).2))] [R.agg w.cs, R.d (D.v (Value.int IntKind.i64 (0 : Int)))] []) := by
          intro w ok hok
          have key : evalE row (.mk op sub t v args) = bif !ok then (zeroV, 141) else (w, 0) := by
            unfold evalE
            rw [hk]
            dsimp only
            rw [h, hb, cond_false, cond_false]
            cases ok with
            | false => rw [is_none hok]; rfl
            | true => rw [is_some hok]; rfl
          rw [key]
          refine ⟨fun h => ?_, fun h => ?_⟩
          · rw [h]; exact ⟨rfl, rfl⟩
          · rw [h]; exact ⟨rfl, rfl⟩
        refine ⟨⟨row, rfl, hrl, ⟨?_, ?_⟩, ?_⟩, row, rfl, hrl, ?_⟩
        all_goals exact ⟨.mk op sub t v args, row, rfl, rfl, hc, hso, hro, hrl, fin⟩
def c_14v (a : List R) (K : List R → List (List D) → Prop) : Prop := match a with
  | [.agg x, .d (.sl y)] => ∃ (e : EX) (row : List Go.Ex.AV), x = cells e ∧ y = row.map Go.Ex.AV.cs ∧ fits e ∧ RowIn row ∧ row.length ≤ 4398046511104 ∧ ∀ (w : Go.Ex.AV) (f : Int), evalE row e = (w, f) → K [.agg w.cs, .d (.v (.int .i64 f))] []
  | _ => False
theorem c_14v_ok (G : GlOk gl) (a : List R) (K : List R → List (List D) → Prop) (h : c_14v a K) : Ct prog gl 6 a K := by
  unfold c_14v at h
  split at h
  · obtain ⟨e, row, rfl, rfl, h1, h2, h3, h4⟩ := h
    exact (ct14v G e row h1 h2 h3).gives (h4 _ _ rfl)
  · exact h.elim
def C_t14v : CallT := addC C_t57w 6 c_14v
theorem C_t14v_ok (G : GlOk gl) : CallsOk prog gl C_t14v := addC_ok (C_t57w_ok G) (c_14v_ok G)
def C_t66s : CallT := addC C_t14v 29 c_66s
theorem C_t66s_ok (G : GlOk gl) : CallsOk prog gl C_t66s := addC_ok (C_t14v_ok G) c_66s_ok
theorem vc17v (u : Nat) (Q : List R → List (List D) → Prop) : vc E_0 C_t66s noI fi9 (f9.body.getD .skip) f9.results.toList [] Q = ( ∃ (e : EX), ∃ (row : List AV), [D.i 3, D.i 0, D.i 0, D.i 0, D.i 0, D.i 0, D.v (.bool false), D.i 0, D.v (.string ⟨⟨[]⟩⟩), D.sl [[D.i 1, D.i 0, D.i 0, D.i 0, D.i 0, D.i 0, D.v (.bool false), D.i 0, D.v (.string ⟨⟨[]⟩⟩), D.sl []], [D.i 1, D.i 0, D.i 0, D.i 0, D.i 0, D.i 0, D.v (.bool false), D.i 0, D.v (.string ⟨⟨[]⟩⟩), D.sl []]]] = cells e ∧ [[D.i 2, D.i 0, D.v (.bool false), D.i 1, D.v (.string ⟨⟨[]⟩⟩)], [D.i 2, D.i 0, D.v (.bool false), D.i 0, D.v (.string ⟨⟨[]⟩⟩)]] = List.map AV.cs row ∧ fits e ∧ RowIn row ∧ row.length ≤ 4398046511104 ∧ ∀ (w : AV) (f : Int), evalE row e = (w, f) → ∃ (e : EX), ∃ (row : List AV), [D.i 6, D.i 0, D.i 0, D.i 0, D.i 0, D.i 0, D.v (.bool false), D.i 0, D.v (.string ⟨⟨[]⟩⟩), D.sl [[D.i 1, D.i 0, D.i 0, D.i 0, D.i 0, D.i 0, D.v (.bool false), D.i 0, D.v (.string ⟨⟨[]⟩⟩), D.sl []], [D.i 1, D.i 1, D.i 0, D.i 0, D.i 0, D.i 0, D.v (.bool false), D.i 0, D.v (.string ⟨⟨[]⟩⟩), D.sl []]]] = cells e ∧ [[D.i 2, D.i 0, D.v (.bool false), D.i 1, D.v (.string ⟨⟨[]⟩⟩)], [D.i 2, D.i 0, D.v (.bool false), D.i 0, D.v (.string ⟨⟨[]⟩⟩)]] = List.map AV.cs row ∧ fits e ∧ RowIn row ∧ row.length ≤ 4398046511104 ∧ ∀ (w_1 : AV) (f_1 : Int), evalE row e = (w_1, f_1) → ((bif bif w.1.1 == 2 && (w.1.2 == 0 && (w.2 == false && (w.3 == 2 && (w.4 == { data := { toList := [] : Array UInt8 } : ByteArray } && true)))) then f == 0 else false then f_1 == 141 else false) = true → [D.i 3, D.i 0, D.i 0, D.i 0, D.i 0, D.i 0, D.v (.bool false), D.i 0, D.v (.string ⟨⟨[]⟩⟩), D.sl [[D.i 1, D.i 0, D.i 0, D.i 0, D.i 0, D.i 0, D.v (.bool false), D.i 0, D.v (.string ⟨⟨[]⟩⟩), D.sl []], [D.i 1, D.i 1, D.i 0, D.i 0, D.i 0, D.i 0, D.v (.bool false), D.i 0, D.v (.string ⟨⟨[]⟩⟩), D.sl []]]] = [D.i 3, D.i 0, D.i 0, D.i 0, D.i 0, D.i 0, D.v (.bool false), D.i 0, D.v (.string ⟨⟨[]⟩⟩), D.sl (cellsL [colE (0 : Nat), colE (1 : Nat)])] ∧ Q [.d (.v (.bool (showB == { data := { toList := [(40 : UInt8), (43 : UInt8), (32 : UInt8), (36 : UInt8), (48 : UInt8), (32 : UInt8), (36 : UInt8), (49 : UInt8), (41 : UInt8)] : Array UInt8 } : ByteArray })))] []) ∧ ((bif bif w.1.1 == 2 && (w.1.2 == 0 && (w.2 == false && (w.3 == 2 && (w.4 == { data := { toList := [] : Array UInt8 } : ByteArray } && true)))) then f == 0 else false then f_1 == 141 else false) = !true → Q [.d (.v (.bool false))] [])) := by kernel_rfl
theorem evalE_sum : evalE rowP sumE = (ofI 2, 0) := by
  have h1 : checkE (typesV rowP) sumE = (⟨2, 0⟩, 0) := by kernel_rfl
  have h2 : rowP.any badV = false := by kernel_rfl
  have h3 : evE rowP sumE = some (ofI 2) := by kernel_rfl
  unfold evalE
  rw [h1]
  dsimp only
  rw [h2, h3]
  simp only [bne_self_eq_false, cond_false]
theorem evalE_quo : evalE rowP quoE = (zeroV, 141) := by
  have h1 : checkE (typesV rowP) quoE = (⟨2, 0⟩, 0) := by kernel_rfl
  have h2 : rowP.any badV = false := by kernel_rfl
  have h3 : evE rowP quoE = none := by kernel_rfl
  unfold evalE
  rw [h1]
  dsimp only
  rw [h2, h3]
  simp only [bne_self_eq_false, cond_false]
theorem rowP_in : RowIn rowP := by
  intro v hv
  simp only [rowP, List.mem_cons, List.not_mem_nil, or_false] at hv
  rcases hv with rfl | rfl <;> exact ⟨by decide, by decide⟩
theorem ct17v (G : GlOk gl) : Ct prog gl 9 [] (gives [.d (.v (.bool true))]) := by
  refine ct_of_vc E_ok (C_t66s_ok G) ioK_no it_ok mixed (fn := f9) (body := f9.body.getD .skip) (by kernel_rfl) (by kernel_rfl) (by kernel_rfl) (fi := fi9) (by kernel_rfl) (by kernel_rfl) ⟨_, _, rfl, rfl⟩ ?_
  rw [vc17v 0]
  refine ⟨sumE, rowP, ?_, rfl, fits_sum, rowP_in, by decide, fun w1 g1 e1 => ⟨quoE, rowP, ?_, rfl, fits_quo, rowP_in, by decide, fun w2 g2 e2 => ?_⟩⟩
  · simp only [sumE, colE, cells, cellsL, zeroV]; rfl
  · simp only [quoE, colE, cells, cellsL, zeroV]; rfl
  rw [evalE_sum] at e1
  rw [evalE_quo] at e2
  cases e1
  cases e2
  rw [show_val]
  refine ⟨fun _ => ⟨?_, ?_⟩, fun h => absurd h (by decide)⟩
  · simp only [colE, cells, cellsL, zeroV]; rfl
  · exact ⟨rfl, rfl⟩
def c_17v (a : List R) (K : List R → List (List D) → Prop) : Prop := match a with
  | [] => K [.d (.v (.bool true))] []
  | _ => False
theorem c_17v_ok (G : GlOk gl) (a : List R) (K : List R → List (List D) → Prop) (h : c_17v a K) : Ct prog gl 9 a K := by
  unfold c_17v at h
  split at h
  · exact (ct17v G).gives h
  · exact h.elim
def st_16 (row : List Go.Ex.AV) (x : Nat) : St := { tm := [(0, .d (.sl (row.map Go.Ex.AV.cs))), (2, .nil), (3, .own 50003), (4, .d (.v (.int .i64 (x : Int))))], hp := [(50003, .lst 23 2 ((typesV (row.take x)).map Ty.cs))], kn := [], gd := [] }
def fx_16 (row : List Go.Ex.AV) : Fi := { fi8 with cv := [(3, [⟨none, 3, 50003, 23, 2⟩])], lx := [(3, { X := Nat, sh := st_16 row, P := fun _ => inv_53 row })] }
theorem vc16 (row : List Go.Ex.AV) (Q : List R → List (List D) → Prop) : vc E_0 C_4e noI (fx_16 row) (f8.body.getD .skip) f8.results.toList [.d (.sl (row.map Go.Ex.AV.cs))] Q = ( ∃ (x0 : Nat), ({ tm := [(0, .d (.sl (List.map AV.cs row))), (2, .nil), (3, .own 50003), (4, .i 0)], hp := [(50003, .lst 23 2 [])], kn := [], gd := [] : St } = { tm := [(0, .d (.sl (List.map AV.cs row))), (2, .nil), (3, .own 50003), (4, .i (↑x0 : Int))], hp := [(50003, .lst 23 2 (List.map Ty.cs (typesV (List.take x0 row))))], kn := [], gd := [] : St } ∧ ∃ (n : Nat), inv_53 row n x0) ∧ ∀ (n : Nat) (x : Nat), inv_53 row n x → ∃ (es : List (List D)), D.sl (List.map AV.cs row) = D.sl es ∧ (decide ((↑x : Int) < (↑es.length : Int)) = true → ∃ (es : List (List D)), D.sl (List.map AV.cs row) = D.sl es ∧ (0 ≤ (↑x : Int) ∧ (↑x : Int) < (↑es.length : Int)) ∧ ∃ (cells : List D), es[(↑x : Int).toNat]? = some cells ∧ cells.length = 5 ∧ ∃ (n_1 n_2 : Int), cut 0 2 cells = some [D.i n_1, D.i n_2] ∧ (∀ (c : List D), c ∈ [[D.i n_1, D.i n_2]] → c.length = 2) ∧ (23 : Nat) = (23 : Nat) ∧ (2 : Nat) = (2 : Nat) ∧ (↑(List.map Ty.cs (typesV (List.take x row))).length.succ : Int) * (↑(16 : Nat) : Int) ≤ 140737488355328 ∧ ∃ (m x' : Nat), m < n ∧ { tm := [(0, .d (.sl (List.map AV.cs row))), (2, .nil), (3, .own 50003), (4, .i (IntKind.i64.wrap ((↑x : Int) + 1)))], hp := [(50003, .lst 23 2 (List.map Ty.cs (typesV (List.take x row)) ++ [[.i n_1, .i n_2]]))], kn := [], gd := [] : St } = { tm := [(0, .d (.sl (List.map AV.cs row))), (2, .nil), (3, .own 50003), (4, .i (↑x' : Int))], hp := [(50003, .lst 23 2 (List.map Ty.cs (typesV (List.take x' row))))], kn := [], gd := [] : St } ∧ inv_53 row m x') ∧ (decide ((↑x : Int) < (↑es.length : Int)) = false → Q [.d (.sl (List.map Ty.cs (typesV (List.take x row))))] [])) := by kernel_rfl
theorem ct16 (row : List Go.Ex.AV) (hl : row.length ≤ 4398046511104) : Ct prog gl 8 [.d (.sl (row.map Go.Ex.AV.cs))] (gives [.d (.sl ((typesV row).map Ty.cs))]) := by
  refine ct_of_vc E_ok C_4e_ok ioK_no it_ok mixed (fn := f8) (body := f8.body.getD .skip) (by kernel_rfl) (by kernel_rfl) (by kernel_rfl) (fi := fx_16 row) (by kernel_rfl) (by kernel_rfl) ⟨_, _, rfl, rfl⟩ ?_
  rw [vc16]
  refine ⟨(0 : Nat), ⟨rfl, row.length, Nat.zero_le _, rfl⟩, fun m (x : Nat) hx => ⟨_, rfl, fun hi => ?_, fun hi => ?_⟩⟩
  · have hi : x < row.length := by simpa using hi
    have hm := hx.2
    refine ⟨_, rfl, ⟨by omega, by rw [List.length_map]; omega⟩, (row[x]).cs, by rw [Int.toNat_natCast, List.getElem?_map, List.getElem?_eq_getElem hi]; rfl, rfl, _, _, rfl, by simp, rfl, rfl, ?_, row.length - (x + 1), x + 1, by omega, ?_, hi, rfl⟩
    · have : (List.map Ty.cs (typesV (List.take x row))).length ≤ row.length := by simp [typesV]; omega
      simp only [Nat.succ_eq_add_one]; omega
    · rw [wrap_next (by omega), List.take_add_one, List.getElem?_eq_getElem hi, Option.toList_some]
      simp only [typesV, List.map_append, List.map_cons, List.map_nil]
  · have hi : ¬ x < row.length := by simpa using hi
    rw [List.take_of_length_le (by omega)]
    exact ⟨rfl, rfl⟩
def c_16 (a : List R) (K : List R → List (List D) → Prop) : Prop := match a with
  | [.d (.sl x)] => ∃ row : List Go.Ex.AV, x = row.map Go.Ex.AV.cs ∧ row.length ≤ 4398046511104 ∧ K [.d (.sl ((typesV row).map Ty.cs))] []
  | _ => False
theorem c_16_ok (a : List R) (K : List R → List (List D) → Prop) (h : c_16 a K) : Ct prog gl 8 a K := by
  unfold c_16 at h
  split at h
  · obtain ⟨row, rfl, h1, h2⟩ := h
    exact (ct16 row h1).gives h2
  · exact h.elim
def C_t16 : CallT := addC C_t66s 8 c_16
theorem C_t16_ok (G : GlOk gl) : CallsOk prog gl C_t16 := addC_ok (C_t66s_ok G) c_16_ok
def C_t18 : CallT := addC C_t16 10 c_18
theorem C_t18_ok (G : GlOk gl) : CallsOk prog gl C_t18 := addC_ok (C_t16_ok G) c_18_ok
def C_t17v : CallT := addC C_t18 9 c_17v
theorem C_t17v_ok (G : GlOk gl) : CallsOk prog gl C_t17v := addC_ok (C_t18_ok G) (c_17v_ok G)
end Go.Proofs.Tryz
namespace Go.Proofs.Tryz
open Go Go.Dm Go.Ex
set_option maxRecDepth 100000
/-! ### What is safe never fails: plain facts -/
theorem scale_same {v f : Int} (hf : 0 ≤ f ∧ f ≤ 18) (hv : -999999999999999999 ≤ v ∧ v ≤ 999999999999999999) : scaleP v f f = (v, 0) := by
  have hm : mulP v 1 = (v, 0) := by
    rw [mulP_eq ⟨by omega, by omega⟩ ⟨by omega, by omega⟩, Int.mul_one, if_pos (show in64 v from ⟨by omega, by omega⟩)]
  have hp : (powP (IntKind.i64.wrap (f - f))).1 = 1 := by
    rw [Int.sub_self]
    rfl
  have h114 : s114_0 v = true := by
    unfold s114_0
    rw [decide_eq_true hv.1, decide_eq_true hv.2]
    rfl
  unfold scaleP
  rw [s276_iff.2 hf, h114, hp, hm, decide_eq_true (Int.le_refl f), h114]
  rfl
/-- A cast to the type that is there never fails. -/
theorem cast_same {v : Go.Ex.AV} (hv : ValP v) : (castV v v.t).2 = 0 := by
  have h60 := s60_iff.2 hv.1
  obtain ⟨k1, k5, s0, s18, s3⟩ := hv.1
  have e1 : decide (v.t.k < 1) = false := decide_eq_false (by omega)
  have e5 : decide (v.t.k > 5) = false := decide_eq_false (by omega)
  have en : (v.t.k != v.t.k) = false := bne_self_eq_false' v.t.k
  have e60 : (s60_0 v.t.k v.t.sc != 0) = false := by rw [h60]; rfl
  unfold castV
  rw [e60, e1, e5, en]
  simp only [cond_false]
  cases hn : v.nul with
  | true => rfl
  | false =>
    simp only [cond_false]
    have hv2 := hv.2.2 hn
    cases h4 : v.t.k == 4 with
    | true =>
      simp only [cond_true]
      have hk : v.t.k = 4 := by simpa using h4
      have hs : v.s.size ≤ 256 := by
        rcases hv2 with h | h
        · exact h.2.2
        · exact absurd hk h.1
      unfold textedV
      have e4 : (v.t.k != 4) = false := by rw [hk]; rfl
      rw [e4, decide_eq_false (by omega : ¬ ((v.s.size : Int) > 256))]
      rfl
    | false =>
      simp only [cond_false]
      cases h3 : v.t.k != 3 with
      | true => rfl
      | false =>
        have hk : v.t.k = 3 := by simpa using h3
        have hp : plV v = v.t.sc := by
          unfold plV s270_0
          rw [hk]
          show (if (18 : Int) < (if (0 : Int) > v.t.sc then 0 else v.t.sc) then 18 else (if (0 : Int) > v.t.sc then 0 else v.t.sc)) = v.t.sc
          rw [if_neg (show ¬ (0 : Int) > v.t.sc by omega), if_neg (by omega)]
        have h124 : s124_0 v.t.sc = true := by
          unfold s124_0
          rw [decide_eq_true (show v.t.sc ≥ 0 from s0), decide_eq_true s18]
          rfl
        have hb : -999999999999999999 ≤ v.n ∧ v.n ≤ 999999999999999999 := by
          rcases hv2 with h | h
          · exact absurd h.1 (by omega)
          · exact h.2.2.2.1 hk
        rw [h124, hp, scale_same ⟨s0, s18⟩ hb]
        cases (v.t.k == 3) <;> rfl
/-- A cast to Text never fails. -/
theorem cast_text {v : Go.Ex.AV} {t : Ty} (hv : ValP v) (hn : in64 v.n) (ht : TyOk t) (h4 : t.k = 4) : (castV v t).2 = 0 := by
  have h60 := s60_iff.2 ht
  obtain ⟨k1, k5, s0, s18, s3⟩ := hv.1
  have e1 : decide (v.t.k < 1) = false := decide_eq_false (by omega)
  have e5 : decide (v.t.k > 5) = false := decide_eq_false (by omega)
  have en : (t.k != 4) = false := by rw [h4]; rfl
  have e60 : (s60_0 t.k t.sc != 0) = false := by rw [show s60_0 t.k t.sc = 0 from h60]; rfl
  have e4 : (t.k == 4) = true := by rw [h4]; rfl
  unfold castV
  rw [e60, e1, e5, en, e4]
  simp only [cond_false, cond_true]
  have hc : (bif (bif (bif v.t.k != t.k then v.t.k != 4 else false) then false else false) then s209_0 v.t.k != s209_0 t.k else false) = false := by cases (bif v.t.k != t.k then v.t.k != 4 else false) <;> rfl
  rw [hc]
  simp only [cond_false]
  cases hnl : v.nul with
  | true => rfl
  | false =>
    simp only [cond_false]
    have hv2 := hv.2.2 hnl
    unfold textedV
    cases hk4 : v.t.k != 4 with
    | true =>
      have hk : v.t.k ≠ 4 := by simpa using hk4
      have hl : ((tx (showL v)).size : Int) ≤ 65 := by
        have := showL_len hn hk s0 s18
        show (((showL v).toArray.size : Nat) : Int) ≤ 65
        rw [List.size_toArray]
        omega
      rw [cond_true, decide_eq_false (by omega : ¬ (((tx (showL v)).size : Int) > 256))]
      rfl
    | false =>
      have hk : v.t.k = 4 := by simpa using hk4
      have hs : v.s.size ≤ 256 := by
        rcases hv2 with h | h
        · exact h.2.2
        · exact absurd hk h.1
      rw [cond_false, decide_eq_false (by omega : ¬ ((v.s.size : Int) > 256))]
      rfl
theorem as_same {v : Go.Ex.AV} (hv : ValP v) : ∃ w, asV v.t v = some w := by
  unfold asV
  rw [cast_same hv]
  exact ⟨_, rfl⟩
theorem as_text {v : Go.Ex.AV} {t : Ty} (hv : ValP v) (hn : in64 v.n) (ht : TyOk t) (h4 : t.k = 4) : ∃ w, asV t v = some w := by
  unfold asV
  rw [cast_text hv hn ht h4]
  exact ⟨_, rfl⟩
theorem rec_total {op sub : Int} (h : op = 9 ∨ op = 18) (ty : Ty) (l : List Go.Ex.AV) : ∃ w, recV op sub ty l = some w := by
  unfold recV reckonV
  rcases h with rfl | rfl
  · exact ⟨_, rfl⟩
  · exact ⟨_, rfl⟩
theorem logic_total {op : Int} {a b : Go.Ex.AV} : ∃ w, logicV op [some a, some b] = some w := by
  unfold logicV
  simp only [List.getD_cons_zero, List.getD_cons_succ]
  cases truthP a == (if op = 11 then 1 else 0)
  · exact ⟨_, rfl⟩
  · exact ⟨_, rfl⟩
theorem case_total {ty : Ty} : ∀ {l : List (Option Go.Ex.AV)}, l.length % 2 = 1 → (∀ x ∈ l, ∃ a, x = some a) → (∀ i, ∀ a, l[i]? = some (some a) → (i % 2 = 1 ∨ i + 1 = l.length) → ∃ w, asV ty a = some w) → ∃ w, caseV ty l = some w
  | [], h, _, _ => absurd h (by decide)
  | [x], _, hs, ht => by
    obtain ⟨a, rfl⟩ := hs x (by simp)
    simp only [caseV, Option.bind_some]
    exact ht 0 a rfl (.inr rfl)
  | c :: x :: r, hl, hs, ht => by
    obtain ⟨c, rfl⟩ := hs c (by simp)
    obtain ⟨a, rfl⟩ := hs x (by simp)
    simp only [caseV]
    cases truthP c == 1 with
    | true => exact ht 1 a rfl (.inl rfl)
    | false =>
      exact case_total (l := r) (by simp only [List.length_cons] at hl; omega) (fun z hz => hs z (List.mem_cons_of_mem _ (List.mem_cons_of_mem _ hz))) (fun i b hb hi => ht (i + 2) b (by simpa using hb) (by rcases hi with h | h; exact .inl (by omega); exact .inr (by simp only [List.length_cons] at h ⊢; omega)))
theorem coal_total {ty : Ty} : ∀ {l : List (Option Go.Ex.AV)}, (∀ x ∈ l, ∃ a w, x = some a ∧ asV ty a = some w) → ∃ w, coalV ty l = some w
  | [], _ => ⟨_, rfl⟩
  | x :: r, h => by
    obtain ⟨a, w, rfl, hw⟩ := h x (by simp)
    simp only [coalV, Option.bind_some, hw]
    cases w.nul with
    | true => exact coal_total fun y hy => h y (List.mem_cons_of_mem _ hy)
    | false => exact ⟨_, rfl⟩
theorem all_total : ∀ {l : List (Option Go.Ex.AV)}, (∀ x ∈ l, ∃ a, x = some a) → ∃ vs, allV l = some vs
  | [], _ => ⟨[], rfl⟩
  | x :: r, h => by
    obtain ⟨a, rfl⟩ := h x (by simp)
    obtain ⟨vs, hv⟩ := all_total (l := r) fun y hy => h y (List.mem_cons_of_mem _ hy)
    exact ⟨a :: vs, by simp only [allV, hv]⟩
end Go.Proofs.Tryz
namespace Go.Proofs.Tryz
open Go Go.Dm Go.Ex
set_option maxRecDepth 100000
/-- All of one type, one at least. -/
def oneT : List Ty → Bool
  | [] => false
  | a :: r => r.all fun b => b.k == a.k && b.sc == a.sc
def safeN (op : Int) (t : Ty) (l : List Ty) : Bool :=
  if (3 ≤ op ∧ op ≤ 8) ∨ op = 17 then false
  else if op = 16 then (t.k == (l.getD 0 ⟨0, 0⟩).k && t.sc == (l.getD 0 ⟨0, 0⟩).sc) || t.k == 4
  else if op = 14 ∨ op = 15 then oneT (resultsE op l)
  else true
theorem ty_ext {a b : Ty} (h : (a.k == b.k && a.sc == b.sc) = true) : a = b := by
  obtain ⟨k, s⟩ := a
  obtain ⟨k', s'⟩ := b
  simp only [Bool.and_eq_true, beq_iff_eq] at h
  rw [h.1, h.2]
theorem evN_total {row : List Go.Ex.AV} {op sub : Int} {t ty : Ty} {v : Go.Ex.AV} {tl : List Ty} {L : List (Option Go.Ex.AV)} (hm : mayHd op sub t v (tl.length : Int) row.length = true) (hlen : L.length = tl.length)
    (hA : ∀ (i : Nat) (t1 : Ty), tl[i]? = some t1 → ∃ a, L[i]? = some (some a) ∧ GoodV t1 a) (hs : safeN op t tl = true)
    (hu : op = 14 ∨ op = 15 → ∀ u ∈ resultsE op tl, ty = u) : ∃ w, evN row op sub t v ty L = some w := by
  have hall : ∀ x ∈ L, ∃ a, x = some a := by
    intro x hx
    obtain ⟨i, hi, rfl⟩ := List.mem_iff_getElem.1 hx
    obtain ⟨a, ha, _⟩ := hA i tl[i] (List.getElem?_eq_getElem (by omega))
    rw [List.getElem?_eq_getElem hi] at ha
    exact ⟨a, Option.some.inj ha⟩
  unfold evN
  by_cases h1 : op = 1
  · subst h1
    rw [if_pos rfl]
    have hm : (bif bif bif ((tl.length : Int)) == 0 then (bif decide (sub ≥ 0) then decide (sub < (row.length : Int)) else false) else false then tyZ t else false then valZ v else false) = true := hm
    simp only [Bool.cond_false_right, Bool.and_eq_true, decide_eq_true_eq] at hm
    obtain ⟨⟨⟨_, h0, hlt⟩, _⟩, _⟩ := hm
    exact ⟨_, List.getElem?_eq_getElem (by omega)⟩
  rw [if_neg h1]
  by_cases h2 : op = 2
  · rw [if_pos h2]; exact ⟨_, rfl⟩
  rw [if_neg h2]
  by_cases h10 : op = 10 ∨ op = 11
  · rw [if_pos h10]
    have h2 : tl.length = 2 := by
      rcases h10 with rfl | rfl
      all_goals
        have hm : (bif bif bif ((tl.length : Int)) == 2 then sub == 0 else false then tyZ t else false then valZ v else false) = true := hm
        simp only [Bool.cond_false_right, Bool.and_eq_true, beq_iff_eq] at hm
        omega
    match L, hlen, hall with
    | [x, y], _, hall =>
      obtain ⟨a, rfl⟩ := hall x (by simp)
      obtain ⟨b, rfl⟩ := hall y (by simp)
      exact logic_total
    | [], h, _ => exact absurd h (by rw [h2]; decide)
    | [_], h, _ => exact absurd h (by rw [h2]; simp)
    | _ :: _ :: _ :: _, h, _ => exact absurd h (by rw [h2]; simp)
  rw [if_neg h10]
  by_cases h12 : op = 12
  · rw [if_pos h12]
    subst h12
    have hm : (bif bif bif ((tl.length : Int)) == 1 then sub == 0 else false then tyZ t else false then valZ v else false) = true := hm
    simp only [Bool.cond_false_right, Bool.and_eq_true, beq_iff_eq] at hm
    obtain ⟨a, ha, _⟩ := hA 0 tl[0] (List.getElem?_eq_getElem (by omega))
    rw [List.getD_eq_getElem?_getD, ha]
    exact ⟨_, rfl⟩
  rw [if_neg h12]
  by_cases h16 : op = 16
  · rw [if_pos h16]
    subst h16
    have hm : (bif bif bif ((tl.length : Int)) == 1 then sub == 0 else false then s60_0 t.k t.sc == 0 else false then valZ v else false) = true := hm
    simp only [Bool.cond_false_right, Bool.and_eq_true, beq_iff_eq] at hm
    obtain ⟨⟨⟨hl, _⟩, h60⟩, _⟩ := hm
    obtain ⟨a, ha, hg⟩ := hA 0 tl[0] (List.getElem?_eq_getElem (by omega))
    rw [List.getD_eq_getElem?_getD, ha]
    show ∃ w, asV t a = some w
    have hs : ((t.k == (tl.getD 0 ⟨0, 0⟩).k && t.sc == (tl.getD 0 ⟨0, 0⟩).sc) || t.k == 4) = true := hs
    rw [Bool.or_eq_true] at hs
    rcases hs with hs | hs
    · have e := ty_ext hs
      rw [List.getD_eq_getElem?_getD, List.getElem?_eq_getElem (show 0 < tl.length by omega)] at e
      have e : t = tl[0] := e
      rw [e, ← hg.1]
      exact as_same hg.2.1
    · exact as_text hg.2.1 hg.2.2 (s60_iff.1 h60) (by simpa using hs)
  rw [if_neg h16]
  by_cases h14 : op = 14
  · rw [if_pos h14]
    subst h14
    have hm : (bif bif bif (bif decide ((tl.length : Int) ≥ 3) then (tl.length : Int).tmod 2 != 0 else false) then sub == 0 else false then tyZ t else false then valZ v else false) = true := hm
    simp only [Bool.cond_false_right, Bool.and_eq_true, decide_eq_true_eq, bne_iff_ne] at hm
    obtain ⟨⟨⟨⟨h3, hodd⟩, _⟩, _⟩, _⟩ := hm
    rw [Int.tmod_eq_emod_of_nonneg (by omega)] at hodd
    refine case_total (by omega) hall fun i a hi hp => ?_
    have hlt : i < L.length := (List.getElem?_eq_some_iff.1 hi).1
    obtain ⟨b, hb, hg⟩ := hA i tl[i] (List.getElem?_eq_getElem (by omega))
    rw [hi] at hb
    have e := Option.some.inj (Option.some.inj hb)
    subst e
    have : ty = tl[i] := hu (.inl rfl) _ (by
      unfold resultsE oddsT
      rw [if_neg (by decide)]
      rcases hp with hp | hp
      · refine List.mem_append_left _ (List.mem_map.2 ⟨i / 2, List.mem_range.2 (by omega), ?_⟩)
        rw [show 2 * (i / 2) + 1 = i by omega, List.getD_eq_getElem?_getD, List.getElem?_eq_getElem (show i < tl.length by omega)]
        rfl
      · refine List.mem_append_right _ ?_
        rw [show tl.length - 1 = i by omega, List.getD_eq_getElem?_getD, List.getElem?_eq_getElem (show i < tl.length by omega)]
        exact List.mem_singleton.2 rfl)
    rw [this, ← hg.1]
    exact as_same hg.2.1
  rw [if_neg h14]
  by_cases h15 : op = 15
  · rw [if_pos h15]
    subst h15
    refine coal_total fun x hx => ?_
    obtain ⟨i, hi, rfl⟩ := List.mem_iff_getElem.1 hx
    obtain ⟨a, ha, hg⟩ := hA i tl[i] (List.getElem?_eq_getElem (by omega))
    rw [List.getElem?_eq_getElem hi] at ha
    have : ty = tl[i] := hu (.inr rfl) _ (by unfold resultsE; rw [if_pos rfl]; exact List.getElem_mem _)
    obtain ⟨w, hw⟩ := as_same hg.2.1
    exact ⟨a, w, Option.some.inj ha, by rw [this, ← hg.1]; exact hw⟩
  rw [if_neg h15]
  obtain ⟨vs, hv⟩ := all_total hall
  rw [hv]
  dsimp only
  by_cases h13 : op = 13
  · rw [if_pos h13]; exact ⟨_, rfl⟩
  rw [if_neg h13]
  cases vs.any (fun v => v.nul) with
  | true => exact ⟨_, rfl⟩
  | false =>
    refine rec_total ?_ ty vs
    unfold safeN at hs
    split at hs
    · cases hs
    · rename_i hn
      by_cases h9 : op = 9
      · exact .inl h9
      · by_cases h18 : op = 18
        · exact .inr h18
        · exfalso
          unfold mayHd at hm
          simp only [show (op == 1) = false by simpa using h1, show (op == 2) = false by simpa using h2, show (op == 9) = false by simpa using h9, show (op == 16) = false by simpa using h16, show (op == 8) = false by simp; omega, show (op == 12) = false by simpa using h12, show (op == 13) = false by simpa using h13, show (op == 18) = false by simpa using h18, show (op == 14) = false by simpa using h14, show (op == 15) = false by simpa using h15, show (op == 3) = false by simp; omega, show (op == 4) = false by simp; omega, show (op == 5) = false by simp; omega, show (op == 6) = false by simp; omega, show (op == 7) = false by simp; omega, show (op == 10) = false by simp; omega, show (op == 11) = false by simp; omega, show (op == 17) = false by simp; omega, Bool.or_self, cond_false] at hm
          cases hm
theorem cfold_one : ∀ (u : Ty) (r : List Ty), (∀ b ∈ r, b = u) → cfold u r = (u, true) := by
  intro u r h
  unfold cfold
  suffices ∀ r : List Ty, (∀ b ∈ r, b = u) → r.foldl cstep (u, true) = (u, true) from this r h
  intro r
  induction r with
  | nil => intro _; rfl
  | cons b r ih =>
    intro h
    have e : b = u := h b (by simp)
    subst e
    have hs : cstep (b, true) b = (b, true) := by
      unfold cstep
      rw [show (b.k == (b, true).1.k && (b.sc == (b, true).1.sc && true)) = true by simp]
      rfl
    rw [List.foldl_cons, hs]
    exact ih fun c hc => h c (List.mem_cons_of_mem _ hc)
theorem one_all {l : List Ty} (h : oneT l = true) : ∃ a r, l = a :: r ∧ ∀ b ∈ l, b = a := by
  cases l with
  | nil => cases h
  | cons a r =>
    refine ⟨a, r, rfl, fun b hb => ?_⟩
    rcases List.mem_cons.1 hb with rfl | hb
    · rfl
    · exact ty_ext (List.all_eq_true.1 h b hb)
mutual
/-- What is safe. -/
def safeE (cols : List Ty) : EX → Bool
  | .mk op sub t v args => safeL cols args && safeN op t ((typedL cols args).getD [])
def safeL (cols : List Ty) : List EX → Bool
  | [] => true
  | e :: r => safeE cols e && safeL cols r
end
mutual
/-- **What is safe never fails.** -/
theorem evE_total {row : List Go.Ex.AV} (hr : RowOk row) : ∀ {e : EX}, fits e → mayE row.length e = true → (typedE (typesV row) e).2 = true → safeE (typesV row) e = true → ∃ w, evE row e = some w
  | .mk op sub t v args, hf, hm, ht, hs => by
    obtain ⟨tl, hl⟩ := typedE_args ht
    obtain ⟨h1, h2⟩ := may_mk hm
    obtain ⟨_, _, hfl⟩ := fits_mk hf
    simp only [safeE, Bool.and_eq_true] at hs
    rw [hl] at hs
    have hlen := typedL_len hl
    simp only [evE]
    refine evN_total (tl := tl) (t := t) (by rw [hlen]; exact h1) (by rw [evL_map, List.length_map, hlen]) (evL_total hr hfl h2 hl hs.1) hs.2 fun ho u hu => ?_
    rw [typedE_some hl]
    have hone : oneT (resultsE op tl) = true := by
      have := hs.2
      unfold safeN at this
      rcases ho with rfl | rfl
      · exact this
      · exact this
    obtain ⟨a, r, e, hall⟩ := one_all hone
    have hty : (typedN (typesV row) op sub t v tl).1 = a := by
      have hc := cfold_one a r (fun b hb => hall b (by rw [e]; exact List.mem_cons_of_mem _ hb))
      rcases ho with rfl | rfl
      · unfold typedN
        simp only [show ¬ ((14 : Int) = 1) by decide, show ¬ ((14 : Int) = 2) by decide, show ¬ ((14 : Int) = 9) by decide, show ¬ ((14 : Int) = 10 ∨ (14 : Int) = 11 ∨ (14 : Int) = 12) by decide, show ¬ ((14 : Int) = 13) by decide, show ¬ ((14 : Int) = 17) by decide, show ¬ ((14 : Int) = 18) by decide, show ¬ ((14 : Int) = 16) by decide, if_false, true_or, if_true, e, hc]
      · unfold typedN
        simp only [show ¬ ((15 : Int) = 1) by decide, show ¬ ((15 : Int) = 2) by decide, show ¬ ((15 : Int) = 9) by decide, show ¬ ((15 : Int) = 10 ∨ (15 : Int) = 11 ∨ (15 : Int) = 12) by decide, show ¬ ((15 : Int) = 13) by decide, show ¬ ((15 : Int) = 17) by decide, show ¬ ((15 : Int) = 18) by decide, show ¬ ((15 : Int) = 16) by decide, if_false, or_true, if_true, e, hc]
    rw [hty]
    exact (hall u hu).symm
theorem evL_total {row : List Go.Ex.AV} (hr : RowOk row) : ∀ {l : List EX} {tl : List Ty}, fitsL l → mayL row.length l = true → typedL (typesV row) l = some tl → safeL (typesV row) l = true → ∀ (i : Nat) (t1 : Ty), tl[i]? = some t1 → ∃ a, (evL row l)[i]? = some (some a) ∧ GoodV t1 a
  | [], tl, _, _, hl, _, i, t1, hi => by
    simp only [typedL, Option.some.injEq] at hl
    subst hl
    cases hi
  | e :: r, tl, hf, hm, hl, hs, i, t1, hi => by
    simp only [mayL, Bool.and_eq_true] at hm
    simp only [fitsL] at hf
    simp only [safeL, Bool.and_eq_true] at hs
    simp only [typedL] at hl
    rcases he : typedE (typesV row) e with ⟨t, _ | _⟩
    · rw [he] at hl; cases hl
    · rw [he] at hl
      rcases hq : typedL (typesV row) r with _ | q
      · rw [hq] at hl; cases hl
      · rw [hq] at hl
        have hl := Option.some.inj hl
        subst hl
        simp only [evL]
        cases i with
        | zero =>
          obtain ⟨w, hw⟩ := evE_total hr hf.1 hm.1 (by rw [he]) hs.1
          have hg := evE_ok hr hf.1 hm.1 (by rw [he]) hw
          rw [he] at hg
          have e1 : t = t1 := Option.some.inj hi
          rw [← e1]
          exact ⟨w, by rw [hw]; rfl, hg⟩
        | succ i =>
          obtain ⟨a, ha, hg⟩ := evL_total hr hf.2 hm.2 hq hs.2 i t1 hi
          exact ⟨a, ha, hg⟩
end
end Go.Proofs.Tryz
namespace Go.Proofs.Tryz
open Go Go.Dm Go.Ex
set_option maxRecDepth 100000
variable {gl : Nat → Option Obj}
/-- Safe. -/
def safeB (cols : List Ty) (e : EX) : Bool := bif (checkE cols e).2 == 0 then safeE cols e else false
def c_28 (a : List R) (K : List R → List (List D) → Prop) : Prop := match a with
  | [.agg x, .d (.sl y)] => ∃ (e : EX) (cols : List Ty), x = cells e ∧ y = cols.map Ty.cs ∧ fits e ∧ cols.length ≤ 4398046511104 ∧ K [.d (.v (.bool (safeB cols e)))] []
  | _ => False
def C_s7 : CallT := addC C_t17v 15 c_28
def st_7 (op sub : Int) (t : Ty) (v : Go.Ex.AV) (args : List EX) (row : List Go.Ex.AV) (x : Nat) : St := { tm := [(1, .d (.sl (row.map Go.Ex.AV.cs))), (2, .ref 2 0), (4, .d (.v (.bool false))), (19, .d (.sl (row.map Go.Ex.AV.cs))), (20, .d (.v (.int .i64 ((row.map Go.Ex.AV.cs).length : Int)))), (21, .d (.v (.int .i64 (x : Int))))], hp := [(2, .box [.d (.v (.int .i64 op)), .d (.v (.int .i64 sub)), .d (.v (.int .i64 t.k)), .d (.v (.int .i64 t.sc)), .d (.v (.int .i64 v.t.k)), .d (.v (.int .i64 v.t.sc)), .d (.v (.bool v.nul)), .d (.v (.int .i64 v.n)), .d (.v (.string v.s)), .d (.sl (cellsL args))])], kn := [], gd := [] }
def inv_7 (row : List Go.Ex.AV) (m : Nat) (x : Nat) : Prop := (x ≤ row.length ∧ m = row.length - x) ∧ (row.take x).any badV = false
def fx_7 (op sub : Int) (t : Ty) (v : Go.Ex.AV) (args : List EX) (row : List Go.Ex.AV) : Fi := { fi5 with lx := [(4, { X := Nat, sh := st_7 op sub t v args row, P := fun _ => inv_7 row })] }
theorem vc7 (op sub : Int) (t : Ty) (v : Go.Ex.AV) (args : List EX) (row : List Go.Ex.AV) (Q : List R → List (List D) → Prop) : vc E_0 C_s7 noI (fx_7 op sub t v args row) (f5.body.getD .skip) f5.results.toList [.agg (encX op sub t v (cellsL args)), .d (.sl (row.map Go.Ex.AV.cs))] Q = ( ∃ (row_1 : List AV), List.map AV.cs row = List.map AV.cs row_1 ∧ row_1.length ≤ 4398046511104 ∧ ∃ (e : EX), ∃ (cols : List Ty), [D.i op, D.i sub, D.i t.1, D.i t.2, D.i v.1.1, D.i v.1.2, D.v (.bool v.2), D.i v.3, D.v (.string v.4), D.sl (cellsL args)] = cells e ∧ List.map Ty.cs (typesV row_1) = List.map Ty.cs cols ∧ fits e ∧ cols.length ≤ 4398046511104 ∧ ((bif !true then true else !safeB cols e) = true → Q [.d (.v (.bool true))] []) ∧ ((bif !true then true else !safeB cols e) = false → ∃ (es : List (List D)), D.sl (List.map AV.cs row) = D.sl es ∧ ∃ (x0 : Nat), ({ tm := [(1, .d (.sl (List.map AV.cs row))), (2, .ref 2 0), (4, .d (.v (.bool false))), (19, .d (.sl (List.map AV.cs row))), (20, .i (↑es.length : Int)), (21, .i 0)], hp := [(2, .box [.i op, .i sub, .i t.1, .i t.2, .i v.1.1, .i v.1.2, .d (.v (.bool v.2)), .i v.3, .d (.v (.string v.4)), .d (.sl (cellsL args))])], kn := [], gd := [] : St } = { tm := [(1, .d (.sl (List.map AV.cs row))), (2, .ref 2 0), (4, .d (.v (.bool false))), (19, .d (.sl (List.map AV.cs row))), (20, .i (↑(List.map AV.cs row).length : Int)), (21, .i (↑x0 : Int))], hp := [(2, .box [.i op, .i sub, .i t.1, .i t.2, .i v.1.1, .i v.1.2, .d (.v (.bool v.2)), .i v.3, .d (.v (.string v.4)), .d (.sl (cellsL args))])], kn := [], gd := [] : St } ∧ ∃ (n : Nat), inv_7 row n x0) ∧ ∀ (n : Nat) (x : Nat), inv_7 row n x → (decide ((↑x : Int) < (↑(List.map AV.cs row).length : Int)) = true → ∃ (es : List (List D)), D.sl (List.map AV.cs row) = D.sl es ∧ (0 ≤ (↑x : Int) ∧ (↑x : Int) < (↑es.length : Int)) ∧ ∃ (cells : List D), es[(↑x : Int).toNat]? = some cells ∧ cells.length = 5 ∧ ∃ (n_1 n_2 : Int), ∃ (b : Bool), ∃ (n_3 : Int), ∃ (b_1 : ByteArray), cut 0 5 cells = some [D.i n_1, D.i n_2, D.v (.bool b), D.i n_3, D.v (.string b_1)] ∧ ((s56_0 n_1 n_2 b n_3 b_1 != (0 : Int)) = true → Q [.d (.v (.bool true))] []) ∧ ((s56_0 n_1 n_2 b n_3 b_1 != (0 : Int)) = false → ∃ (m x' : Nat), m < n ∧ { tm := [(1, .d (.sl (List.map AV.cs row))), (2, .ref 2 0), (4, .d (.v (.bool false))), (19, .d (.sl (List.map AV.cs row))), (20, .i (↑(List.map AV.cs row).length : Int)), (21, .i (IntKind.i64.wrap ((↑x : Int) + 1)))], hp := [(2, .box [.i op, .i sub, .i t.1, .i t.2, .i v.1.1, .i v.1.2, .d (.v (.bool v.2)), .i v.3, .d (.v (.string v.4)), .d (.sl (cellsL args))])], kn := [], gd := [] : St } = { tm := [(1, .d (.sl (List.map AV.cs row))), (2, .ref 2 0), (4, .d (.v (.bool false))), (19, .d (.sl (List.map AV.cs row))), (20, .i (↑(List.map AV.cs row).length : Int)), (21, .i (↑x' : Int))], hp := [(2, .box [.i op, .i sub, .i t.1, .i t.2, .i v.1.1, .i v.1.2, .d (.v (.bool v.2)), .i v.3, .d (.v (.string v.4)), .d (.sl (cellsL args))])], kn := [], gd := [] : St } ∧ inv_7 row m x')) ∧ (decide ((↑x : Int) < (↑(List.map AV.cs row).length : Int)) = false → ∃ (e : EX), ∃ (row_2 : List AV), [D.i op, D.i sub, D.i t.1, D.i t.2, D.i v.1.1, D.i v.1.2, D.v (.bool v.2), D.i v.3, D.v (.string v.4), D.sl (cellsL args)] = cells e ∧ List.map AV.cs row = List.map AV.cs row_2 ∧ fits e ∧ RowIn row_2 ∧ row_2.length ≤ 4398046511104 ∧ ∀ (w : AV) (f : Int), evalE row_2 e = (w, f) → Q [.d (.v (.bool (f == 0)))] []))) := by kernel_rfl
theorem evalE_safe {row : List Go.Ex.AV} {e : EX} (hf : fits e) (hi : RowIn row) (hb : row.any badV = false) (hs : safeB (typesV row) e = true) : (evalE row e).2 = 0 := by
  unfold safeB at hs
  have hc : (checkE (typesV row) e).2 = 0 := by
    cases h : (checkE (typesV row) e).2 == 0
    · rw [h] at hs; cases hs
    · simpa using h
  rw [hc] at hs
  have hs : safeE (typesV row) e = true := hs
  have hro := rowOk_of hb hi
  obtain ⟨hm, ht⟩ := check_may hc
  rw [typesV_len] at hm
  obtain ⟨w, hw⟩ := evE_total hro hf hm ht hs
  unfold evalE
  rw [hc, hb, hw]
  rfl
theorem ct7 (hC : CallsOk prog gl C_s7) : ∀ (e : EX) (row : List Go.Ex.AV) (hf : fits e) (hi : RowIn row) (hrl : row.length ≤ 4398046511104),
    Ct prog gl 5 [.agg (cells e), .d (.sl (row.map Go.Ex.AV.cs))] (gives [.d (.v (.bool true))])
  | .mk op sub t v args, row, hf, hi, hrl => by
    have hc : encX op sub t v (cellsL args) = cells (.mk op sub t v args) := (cells_mk _ _ _ _ _).symm
    rw [cells_mk]
    refine ct_of_vc E_ok hC ioK_no it_ok mixed (fn := f5) (body := f5.body.getD .skip) (by kernel_rfl) (by kernel_rfl) (by kernel_rfl) (fi := fx_7 op sub t v args row) (by kernel_rfl) (by kernel_rfl) ⟨_, _, rfl, rfl⟩ ?_
    rw [vc7]
    have htl : (typesV row).length = row.length := by simp [typesV]
    refine ⟨row, rfl, hrl, .mk op sub t v args, typesV row, hc, rfl, hf, by omega, fun _ => ⟨rfl, rfl⟩, fun hs => ⟨_, rfl, (0 : Nat), ⟨rfl, row.length, ⟨Nat.zero_le _, rfl⟩, rfl⟩, fun m (x : Nat) hx => ⟨fun hlt => ?_, fun hge => ?_⟩⟩⟩
    · have hlt : x < row.length := by simpa using hlt
      have hm := hx.1.2
      have hg : (row.map Go.Ex.AV.cs)[((x : Nat) : Int).toNat]? = some (Go.Ex.AV.cs row[x]) := by simp [hlt]
      refine ⟨_, rfl, ⟨by omega, by rw [List.length_map]; omega⟩, _, hg, rfl, _, _, _, _, _, rfl, fun _ => ⟨rfl, rfl⟩, fun hb => ⟨row.length - (x + 1), x + 1, by omega, by rw [wrap_next (by omega)], ⟨hlt, rfl⟩, ?_⟩⟩
      have hb : badV row[x] = false := hb
      rw [List.take_add_one, List.getElem?_eq_getElem hlt, Option.toList_some, List.any_append, hx.2, List.any_cons, hb]
      rfl
    · have hge : ¬ x < row.length := by simpa using hge
      have hb := hx.2
      rw [List.take_of_length_le (by omega)] at hb
      have hs : safeB (typesV row) (.mk op sub t v args) = true := by simpa using hs
      refine ⟨.mk op sub t v args, row, hc, rfl, hf, hi, hrl, fun w g he => ?_⟩
      have := evalE_safe hf hi hb hs
      rw [he] at this
      have : g = 0 := this
      subst this
      exact ⟨rfl, rfl⟩
end Go.Proofs.Tryz
namespace Go.Proofs.Tryz
open Go Go.Dm Go.Ex
set_option maxRecDepth 100000
variable {gl : Nat → Option Obj}
def c_79 (a : List R) (K : List R → List (List D) → Prop) : Prop := match a with
  | [.agg x, .d (.sl y)] => ∃ (e : EX) (cols : List Ty), x = cells e ∧ y = cols.map Ty.cs ∧ fits e ∧ cols.length ≤ 4398046511104 ∧ (checkE cols e).2 = 0 ∧ K [.d (.v (.bool (safeE cols e)))] []
  | _ => False
def C_s28 : CallT := addC C_g5 33 c_79
def E_s : Env := { E_0 with con := true }
theorem E_s_ok : EnvOk prog E_s := ⟨E_ok.te⟩
theorem vc28 (op sub : Int) (t : Ty) (v : Go.Ex.AV) (args : List EX) (cols : List Ty) (Q : List R → List (List D) → Prop) : vc E_s C_s28 noI fi15 (f15.body.getD .skip) f15.results.toList [.agg (encX op sub t v (cellsL args)), .d (.sl (cols.map Ty.cs))] Q = ( ∃ (e : EX), ∃ (cols_1 : List Ty), [D.i op, D.i sub, D.i t.1, D.i t.2, D.i v.1.1, D.i v.1.2, D.v (.bool v.2), D.i v.3, D.v (.string v.4), D.sl (cellsL args)] = cells e ∧ List.map Ty.cs cols = List.map Ty.cs cols_1 ∧ fits e ∧ cols_1.length ≤ 4398046511104 ∧ ∀ (t_1 : Ty) (f : Int), checkE cols_1 e = (t_1, f) → ((f == 0) = true → ∃ (e : EX), ∃ (cols_2 : List Ty), [D.i op, D.i sub, D.i t.1, D.i t.2, D.i v.1.1, D.i v.1.2, D.v (.bool v.2), D.i v.3, D.v (.string v.4), D.sl (cellsL args)] = cells e ∧ List.map Ty.cs cols = List.map Ty.cs cols_2 ∧ fits e ∧ cols_2.length ≤ 4398046511104 ∧ (checkE cols_2 e).2 = (0 : Int) ∧ Q [.d (.v (.bool (safeE cols_2 e)))] []) ∧ ((f == 0) = !true → Q [.d (.v (.bool false))] [])) := by kernel_rfl
theorem ct28 (hC : CallsOk prog gl C_s28) : ∀ (e : EX) (cols : List Ty) (hf : fits e) (hcl : cols.length ≤ 4398046511104),
    Ct prog gl 15 [.agg (cells e), .d (.sl (cols.map Ty.cs))] (gives [.d (.v (.bool (safeB cols e)))])
  | .mk op sub t v args, cols, hf, hcl => by
    have hc : encX op sub t v (cellsL args) = cells (.mk op sub t v args) := (cells_mk _ _ _ _ _).symm
    rw [cells_mk]
    refine ct_of_vc E_s_ok hC ioK_no (fun _ _ _ h => h.elim) mixed (fn := f15) (body := f15.body.getD .skip) (by kernel_rfl) (by kernel_rfl) (by kernel_rfl) (fi := fi15) (by kernel_rfl) (by kernel_rfl) ⟨_, _, rfl, rfl⟩ ?_
    rw [vc28]
    refine ⟨.mk op sub t v args, cols, hc, rfl, hf, hcl, fun t1 g hk => ⟨fun h => ?_, fun h => ?_⟩⟩
    · have hg : (checkE cols (.mk op sub t v args)).2 = 0 := by rw [hk]; simpa using h
      refine ⟨.mk op sub t v args, cols, hc, rfl, hf, hcl, hg, ?_⟩
      unfold safeB
      rw [hg]
      exact ⟨rfl, rfl⟩
    · have hg : ((checkE cols (.mk op sub t v args)).2 == 0) = false := by rw [hk]; exact h
      unfold safeB
      rw [hg]
      exact ⟨rfl, rfl⟩
end Go.Proofs.Tryz
