/- A part of the proof: contracts of functions, by a verified generator of conditions; no condition of its own. -/
import Derived.Test.YtlacgjmbabghaaaM9b
namespace Go.Proofs.Try
open Go Go.Dm
set_option maxRecDepth 100000
theorem vc23 (a0 : Int) (a1 : Int) (a2 : Bool) (a3 : Int) (a4 : ByteArray) (Q : List R → List (List D) → Prop) : vc E_0 C_b12 noI fi23 (f23.body.getD .skip) f23.results.toList [.agg [.v (.int .i64 a0), .v (.int .i64 a1), .v (.bool a2), .v (.int .i64 a3), .v (.string a4)]] Q = (
  ((s22_0 a0 a1 != (0 : Int)) = true → Q [R.d (D.v (Value.int IntKind.i64 (s22_0 a0 a1)))] []) ∧ ((s22_0 a0 a1 != (0 : Int)) = false → (a2 = true → ((bif
  a3 != (0 : Int) then true else !a4 == { data := { toList := [] : Array UInt8 } : ByteArray }) = true → Q [R.d (D.v (Value.int IntKind.i64 (20 :
  Int)))] []) ∧ ((bif a3 != (0 : Int) then true else !a4 == { data := { toList := [] : Array UInt8 } : ByteArray }) = false → Q [R.d (D.v (Value.int
  IntKind.i64 (0 : Int)))] [])) ∧ (a2 = false → ((a0 == (4 : Int)) = true → ((bif a3 != (0 : Int) then true else decide (↑a4.size > (256 : Int))) =
  true → Q [R.d (D.v (Value.int IntKind.i64 (20 : Int)))] []) ∧ ((bif a3 != (0 : Int) then true else decide (↑a4.size > (256 : Int))) = false → Q [R.d
  (D.v (Value.int IntKind.i64 (0 : Int)))] [])) ∧ ((a0 == (4 : Int)) = false → ((!a4 == { data := { toList := [] : Array UInt8 } : ByteArray }) = true
  → (true = true → Q [R.d (D.v (Value.int IntKind.i64 (20 : Int)))] []) ∧ (true = false → Q [R.d (D.v (Value.int IntKind.i64 (0 : Int)))] [])) ∧ ((!a4
  == { data := { toList := [] : Array UInt8 } : ByteArray }) = false → ((a0 == (1 : Int)) = true → ((bif a3 != (0 : Int) then a3 != (1 : Int) else
  false) = true → Q [R.d (D.v (Value.int IntKind.i64 (20 : Int)))] []) ∧ ((bif a3 != (0 : Int) then a3 != (1 : Int) else false) = false → Q [R.d (D.v
  (Value.int IntKind.i64 (0 : Int)))] [])) ∧ ((a0 == (1 : Int)) = false → ((a0 == (3 : Int)) = true → ((!s38_0 a3) = true → Q [R.d (D.v (Value.int
  IntKind.i64 (20 : Int)))] []) ∧ ((!s38_0 a3) = false → Q [R.d (D.v (Value.int IntKind.i64 (0 : Int)))] [])) ∧ ((a0 == (3 : Int)) = false → ((a0 == (5
  : Int)) = true → ((bif decide (a3 < (-719162 : Int)) then true else decide (a3 > (2932896 : Int))) = true → Q [R.d (D.v (Value.int IntKind.i64 (20 :
  Int)))] []) ∧ ((bif decide (a3 < (-719162 : Int)) then true else decide (a3 > (2932896 : Int))) = false → Q [R.d (D.v (Value.int IntKind.i64 (0 :
  Int)))] [])) ∧ ((a0 == (5 : Int)) = false → (false = true → Q [R.d (D.v (Value.int IntKind.i64 (20 : Int)))] []) ∧ (false = false → Q [R.d (D.v
  (Value.int IntKind.i64 (0 : Int)))] []))))))))) := by kernel_rfl
theorem s22_spec {k sc : Int} : s22_0 k sc = s15_0 k sc := by
  unfold s22_0 s15_0 s32_0
  by_cases a1 : k < 1
  · simp [a1]
  by_cases a2 : k > 5
  · simp [a2]
  by_cases a3 : sc < 0
  · have : ¬ sc ≥ 0 := by omega
    simp [a3, this]
  by_cases a4 : sc > 18
  · have : ¬ sc ≤ 18 := by omega
    simp [a4, this]
  have a3' : sc ≥ 0 := by omega
  have a4' : sc ≤ 18 := by omega
  simp only [decide_eq_false a1, decide_eq_false a2, decide_eq_false a3, decide_eq_false a4, decide_eq_true a3', decide_eq_true a4', cond_false, cond_true, Bool.not_true]
  cases (k != 3) <;> cases (sc != 0) <;> rfl
theorem c_23_ok (a : List R) (K : List R → List (List D) → Prop) (h : c_18 a K) : Ct prog 23 a K := by
  unfold c_18 at h
  split at h
  · rename_i a0 a1 a2 a3 a4
    refine Ct.gives (r := _) (ct_of_vc E_ok C_b12_ok ioK_no it_ok mixed (fn := f23) (body := f23.body.getD .skip) (by kernel_rfl) (by kernel_rfl) (by kernel_rfl) (fi := fi23) (by kernel_rfl) (by kernel_rfl) ⟨_, _, rfl, rfl⟩ ?_) h
    rw [vc23, s22_spec]
    have e1 : decide (a3 < (-719162 : Int)) = !decide (a3 ≥ (-719162 : Int)) := by by_cases h : a3 < -719162 <;> simp [h] <;> omega
    have e2 : decide (a3 > (2932896 : Int)) = !decide (a3 ≤ (2932896 : Int)) := by by_cases h : a3 > 2932896 <;> simp [h] <;> omega
    have e3 : decide ((a4.size : Int) > (256 : Int)) = !decide ((a4.size : Int) ≤ (256 : Int)) := by by_cases h : (a4.size : Int) > 256 <;> simp [h] <;> omega
    have e4 : s38_0 a3 = s34_0 a3 := rfl
    simp only [e1, e2, e3, e4, bbeq, s18_0, bne]
    generalize decide (a3 ≥ (-719162 : Int)) = b1
    generalize decide (a3 ≤ (2932896 : Int)) = b2
    generalize decide ((a4.size : Int) ≤ (256 : Int)) = b3
    generalize s34_0 a3 = b4
    generalize decide (a4 = { data := { toList := [] } }) = b5
    generalize (a3 == (0 : Int)) = b6
    generalize (a3 == (1 : Int)) = b7
    generalize s15_0 a0 a1 = x
    generalize (x == (0 : Int)) = b0
    by_cases h4 : a0 = 4
    · subst h4
      simp only [show ((4 : Int) == 4) = true from rfl, show ((4 : Int) == 1) = false from rfl, show ((4 : Int) == 3) = false from rfl, show ((4 : Int) == 5) = false from rfl, cond_true, cond_false]
      cases b0 <;> cases a2 <;> cases b6 <;> cases b3 <;> cases b5 <;> simp [gives]
    · rw [show (a0 == 4) = false by simpa using h4]
      generalize (a0 == (1 : Int)) = k1
      generalize (a0 == (3 : Int)) = k3
      generalize (a0 == (5 : Int)) = k5
      cases b0
      · simp [gives]
      cases a2
      rotate_left
      · cases b6 <;> cases b5 <;> simp [gives]
      cases b5
      · cases k1 <;> cases k3 <;> cases k5 <;> simp [gives]
      cases k1
      rotate_left
      · cases b6 <;> cases b7 <;> simp [gives]
      cases k3
      rotate_left
      · cases b4 <;> simp [gives]
      cases k5
      rotate_left
      · cases b1 <;> cases b2 <;> simp [gives]
      simp [gives]
  · exact h.elim
def C_b13 : CallT := addC C_b12 23 c_18
theorem C_b13_ok : CallsOk prog C_b13 := addC_ok C_b12_ok c_23_ok
def st_6 (kd k sc : Int) (vs : List AV) (x : Int) : St := { tm := [(0, .d (.v (.int .i64 kd))), (2, .d (.sl (vs.map AV.cs))), (4, .ref 4 0), (6, .d (.v (.pointer none))), (7, .d (.v (.int .i64 0))), (8, .d (.v (.int .i64 x)))], hp := [(4, .box [.d (.v (.int .i64 k)), .d (.v (.int .i64 sc))])], kn := [], gd := [] }
def inv_6 (k sc : Int) (vs : List AV) (m : Nat) (x : Int) : Prop := ∃ i : Nat, x = i ∧ i ≤ vs.length ∧ (∀ v ∈ vs.take i, badV k sc v = false) ∧ m = vs.length - i
def fx_6 (kd k sc : Int) (vs : List AV) : Fi := { fi6 with lx := [(4, { X := Int, sh := st_6 kd k sc vs, P := fun _ => inv_6 k sc vs })] }
theorem vc6 (kd k sc : Int) (vs : List AV) (Q : List R → List (List D) → Prop) : vc E_0 C_b13 noI (fx_6 kd k sc vs) (f6.body.getD .skip) f6.results.toList [.d (.v (.int .i64 kd)), .agg [.v (.int .i64 k), .v (.int .i64 sc)], .d (.sl (vs.map AV.cs))] Q = (
  ((bif bif bif decide (kd < (1 : Int)) then true else decide (kd > (4 : Int)) then true else s22_0 k sc != (0 : Int) then true else bif bif kd == (2 :
  Int) then k != (2 : Int) else false then k != (3 : Int) else false) = true → Q [R.d (D.v (Value.pointer none)), R.d (D.v (Value.int IntKind.i64 (1 :
  Int)))] []) ∧ ((bif bif bif decide (kd < (1 : Int)) then true else decide (kd > (4 : Int)) then true else s22_0 k sc != (0 : Int) then true else bif
  bif kd == (2 : Int) then k != (2 : Int) else false then k != (3 : Int) else false) = false → ∃ x0, ({ tm := [((0 : Nat), V.d (D.v (Value.int IntKind.i64 kd))), ((2 : Nat), V.d (D.sl (List.map AV.cs vs))), ((4 : Nat), V.ref ((4 : Nat)) ((0 : Nat))), ((6 : Nat), V.d (D.v (Value.pointer none))), ((7 : Nat), V.d (D.v (Value.int IntKind.i64 (0 : Int)))), ((8 : Nat), V.d (D.v (Value.int IntKind.i64 (0 : Int))))], hp := [((4 : Nat), B.box [V.d (D.v (Value.int IntKind.i64 k)), V.d (D.v (Value.int IntKind.i64 sc))])], kn := [], gd := [] : St }
  = { tm := [((0 : Nat), V.d (D.v (Value.int IntKind.i64 kd))), ((2 : Nat), V.d (D.sl (List.map AV.cs vs))), ((4 : Nat), V.ref ((4 : Nat)) ((0 : Nat))), ((6 : Nat), V.d (D.v (Value.pointer none))), ((7 : Nat), V.d (D.v (Value.int IntKind.i64 (0 : Int)))), ((8 : Nat), V.d (D.v (Value.int IntKind.i64 x0)))], hp := [((4 : Nat), B.box [V.d (D.v (Value.int IntKind.i64 k)), V.d (D.v (Value.int IntKind.i64 sc))])], kn := [], gd := [] : St }
  ∧ ∃ n, inv_6 k sc vs n x0) ∧ ∀ (n : Nat) (x : { X := Int, sh := st_6 kd k sc vs, P := fun x => inv_6 k sc vs : LX }.X), inv_6 k sc vs n x → ∃ es,
  D.sl (List.map AV.cs vs) = D.sl es ∧ (decide (x < ↑es.length) = true → ∃ es, D.sl (List.map AV.cs vs) = D.sl es ∧ ((0 : Int) ≤ x ∧ x < ↑es.length) ∧
  ∃ cells, es[Int.toNat x]? = some cells ∧ cells.length = (5 : Nat) ∧ ∃ n_1 n_2, cut ((0 : Nat)) ((2 : Nat)) cells = some [D.v (Value.int IntKind.i64
  n_1), D.v (Value.int IntKind.i64 n_2)] ∧ ((!(n_1 == k && (n_2 == sc && true))) = false → ∃ es, D.sl (List.map AV.cs vs) = D.sl es ∧ ((0 : Int) ≤ x ∧
  x < ↑es.length) ∧ ∃ cells, es[Int.toNat x]? = some cells ∧ cells.length = (5 : Nat) ∧ ∃ n_3 n_4 b n_5 b_1, cut ((0 : Nat)) ((5 : Nat)) cells = some
  [D.v (Value.int IntKind.i64 n_3), D.v (Value.int IntKind.i64 n_4), D.v (Value.bool b), D.v (Value.int IntKind.i64 n_5), D.v (Value.string b_1)] ∧
  ((s18_0 n_3 n_4 b n_5 b_1 != (0 : Int)) = true → Q [R.d (D.v (Value.pointer none)), R.d (D.v (Value.int IntKind.i64 (21 : Int)))] []) ∧ ((s18_0 n_3
  n_4 b n_5 b_1 != (0 : Int)) = false → ∃ m x', m < n ∧ { tm := [((0 : Nat), V.d (D.v (Value.int IntKind.i64 kd))), ((2 : Nat), V.d (D.sl (List.map AV.cs vs))), ((4 : Nat), V.ref ((4 : Nat)) ((0 : Nat))), ((6 : Nat), V.d (D.v (Value.pointer none))), ((7 : Nat), V.d (D.v (Value.int IntKind.i64 (0 : Int)))), ((8 : Nat), V.d (D.v (Value.int IntKind.i64 (IntKind.i64.wrap (x + (1 : Int))))))], hp := [((4 : Nat), B.box [V.d (D.v (Value.int IntKind.i64 k)), V.d (D.v (Value.int IntKind.i64 sc))])], kn := [], gd := [] : St }
  = { tm := [((0 : Nat), V.d (D.v (Value.int IntKind.i64 kd))), ((2 : Nat), V.d (D.sl (List.map AV.cs vs))), ((4 : Nat), V.ref ((4 : Nat)) ((0 : Nat))), ((6 : Nat), V.d (D.v (Value.pointer none))), ((7 : Nat), V.d (D.v (Value.int IntKind.i64 (0 : Int)))), ((8 : Nat), V.d (D.v (Value.int IntKind.i64 x')))], hp := [((4 : Nat), B.box [V.d (D.v (Value.int IntKind.i64 k)), V.d (D.v (Value.int IntKind.i64 sc))])], kn := [], gd := [] : St }
  ∧ inv_6 k sc vs m x')) ∧ ((!(n_1 == k && (n_2 == sc && true))) = !false → (true = true → Q [R.d (D.v (Value.pointer none)), R.d (D.v (Value.int
  IntKind.i64 (21 : Int)))] []) ∧ (true = false → ∃ m x', m < n ∧ { tm := [((0 : Nat), V.d (D.v (Value.int IntKind.i64 kd))), ((2 : Nat), V.d (D.sl (List.map AV.cs vs))), ((4 : Nat), V.ref ((4 : Nat)) ((0 : Nat))), ((6 : Nat), V.d (D.v (Value.pointer none))), ((7 : Nat), V.d (D.v (Value.int IntKind.i64 (0 : Int)))), ((8 : Nat), V.d (D.v (Value.int IntKind.i64 (IntKind.i64.wrap (x + (1 : Int))))))], hp := [((4 : Nat), B.box [V.d (D.v (Value.int IntKind.i64 k)), V.d (D.v (Value.int IntKind.i64 sc))])], kn := [], gd := [] : St }
  = { tm := [((0 : Nat), V.d (D.v (Value.int IntKind.i64 kd))), ((2 : Nat), V.d (D.sl (List.map AV.cs vs))), ((4 : Nat), V.ref ((4 : Nat)) ((0 : Nat))), ((6 : Nat), V.d (D.v (Value.pointer none))), ((7 : Nat), V.d (D.v (Value.int IntKind.i64 (0 : Int)))), ((8 : Nat), V.d (D.v (Value.int IntKind.i64 x')))], hp := [((4 : Nat), B.box [V.d (D.v (Value.int IntKind.i64 k)), V.d (D.v (Value.int IntKind.i64 sc))])], kn := [], gd := [] : St }
  ∧ inv_6 k sc vs m x'))) ∧ (decide (x < ↑es.length) = false → ∃ es, D.sl (List.map AV.cs vs) = D.sl es ∧ (decide (↑es.length > (65536 : Int)) = true →
  Q [R.d (D.v (Value.pointer none)), R.d (D.v (Value.int IntKind.i64 (3 : Int)))] []) ∧ (decide (↑es.length > (65536 : Int)) = false → Q [R.box [D.v
  (Value.int IntKind.i64 kd), D.v (Value.int IntKind.i64 k), D.v (Value.int IntKind.i64 sc), D.sl (List.map AV.cs vs)], R.d (D.v (Value.int IntKind.i64
  (0 : Int)))] [])))) := by kernel_rfl
/-- What the document's NewTree tells. -/
def rtR (kd k sc : Int) (vs : List AV) : List R :=
  if argBad kd k sc = true then [.d (.v (.pointer none)), .d (.v (.int .i64 1))] else if vs.any (badV k sc) = true then [.d (.v (.pointer none)), .d (.v (.int .i64 21))]
  else if 65536 < vs.length then [.d (.v (.pointer none)), .d (.v (.int .i64 3))] else [.box [.v (.int .i64 kd), .v (.int .i64 k), .v (.int .i64 sc), .sl (vs.map AV.cs)], .d (.v (.int .i64 0))]
theorem ct6 (kd k sc : Int) (vs : List AV) (hl : vs.length < 4611686018427387904) : Ct prog 6 [.d (.v (.int .i64 kd)), .agg [.v (.int .i64 k), .v (.int .i64 sc)], .d (.sl (vs.map AV.cs))] (gives (rtR kd k sc vs)) :=
  ct_of_vc E_ok C_b13_ok ioK_no it_ok mixed (fn := f6) (body := f6.body.getD .skip) (by kernel_rfl) (by kernel_rfl) (by kernel_rfl) (fi := fx_6 kd k sc vs) (by kernel_rfl) (by kernel_rfl) ⟨_, _, rfl, rfl⟩ (by
    rw [vc6, s22_spec]
    refine ⟨fun h => ?_, fun hb => ⟨0, ⟨rfl, vs.length, 0, rfl, by omega, by simp, rfl⟩, ?_⟩⟩
    · have h : argBad kd k sc = true := h
      simp only [rtR, h, if_true]; exact ⟨rfl, rfl⟩
    · have hb : argBad kd k sc = false := hb
      rintro m x ⟨i, rfl, a2, a3, a4⟩
      refine ⟨_, rfl, fun hi => ?_, fun hi => ?_⟩
      · have hi : i < vs.length := by
          have hi : (i : Int) < (vs.length : Int) := by simpa using hi
          omega
        have hg : (vs.map AV.cs)[(i : Int).toNat]? = some (vs[i]).cs := by simp [hi]
        have hbad : badV k sc vs[i] = true → rtR kd k sc vs = [.d (.v (.pointer none)), .d (.v (.int .i64 21))] := fun h => by
          have : vs.any (badV k sc) = true := List.any_eq_true.2 ⟨vs[i], List.getElem_mem hi, h⟩
          simp only [rtR, hb, this, if_true]; rfl
        refine ⟨_, rfl, ⟨by omega, by simpa using hi⟩, _, hg, rfl, _, _, rfl, fun h1 => ⟨_, rfl, ⟨by omega, by simpa using hi⟩, _, hg, rfl, _, _, _, _, _, rfl, fun h2 => ?_, fun h2 => ?_⟩, fun h1 => ⟨fun _ => ?_, fun h => (by cases h)⟩⟩
        · rw [hbad (by unfold badV; rw [h2, Bool.or_true])]; exact ⟨rfl, rfl⟩
        · refine ⟨vs.length - (i + 1), ((i + 1 : Nat) : Int), by omega, ?_, i + 1, rfl, hi, fun v hv => ?_, rfl⟩
          · rw [wrap_i64_of (n := (i : Int) + 1) (by omega) (by omega)]; rfl
          · rw [List.take_add_one, List.getElem?_eq_getElem hi] at hv
            rcases List.mem_append.1 hv with hv | hv
            · exact a3 v hv
            · simp at hv; subst hv; unfold badV; rw [h1, h2]; rfl
        · have h1 : (!((vs[i]).k == k && ((vs[i]).sc == sc && true))) = true := h1
          rw [hbad (by unfold badV; rw [h1]; rfl)]; exact ⟨rfl, rfl⟩
      · have hi : ¬ i < vs.length := by
          have hi : ¬ (i : Int) < (vs.length : Int) := by simpa using hi
          omega
        rw [List.take_of_length_le (by omega)] at a3
        have hany : vs.any (badV k sc) = false := by
          rw [List.any_eq_false]; intro v hv; rw [a3 v hv]; simp
        refine ⟨_, rfl, fun h => ?_, fun h => ?_⟩
        · have h : 65536 < vs.length := by
            have h : (65536 : Int) < (vs.length : Int) := by simpa using h
            omega
          have : rtR kd k sc vs = [.d (.v (.pointer none)), .d (.v (.int .i64 3))] := by simp only [rtR, hb, hany]; rw [if_neg (by simp), if_neg (by simp), if_pos h]
          rw [this]; exact ⟨rfl, rfl⟩
        · have h : ¬ 65536 < vs.length := by
            have h : (vs.length : Int) ≤ (65536 : Int) := by simpa using h
            omega
          have : rtR kd k sc vs = [.box [.v (.int .i64 kd), .v (.int .i64 k), .v (.int .i64 sc), .sl (vs.map AV.cs)], .d (.v (.int .i64 0))] := by simp only [rtR, hb, hany]; rw [if_neg (by simp), if_neg (by simp), if_neg h]
          rw [this]; exact ⟨rfl, rfl⟩)
def st_72 (ws : List (List D)) (x : Int × Int × Int) : St := { tm := [(0, .d (.sl ws)), (2, .ref 2 0), (3, .d (.v (.int .u64 x.2.1))), (4, .d (.v (.int .u64 x.2.2))), (5, .d (.v (.int .i64 x.1)))], hp := [(2, .box [.d (.v (.int .i64 0)), .d (.v (.int .u64 0))])], kn := [], gd := [] }
def inv_72 (ts : List Int) (m : Nat) (x : Int × Int × Int) : Prop := ∃ i : Nat, x.1 = i ∧ i ≤ ts.length ∧ x.2.1 = IntKind.u64.wrap (hiW (ts.take i).sum) ∧ x.2.2 = loW (ts.take i).sum ∧ m = ts.length - i
def fx_72 (ts : List Int) : Fi := { fi72 with lx := [(4, { X := Int × Int × Int, sh := st_72 (ts.map wc), P := fun _ => inv_72 ts })] }
theorem vc72 (ts : List Int) (Q : List R → List (List D) → Prop) : vc E_0 C_b13 noI (fx_72 ts) (f72.body.getD .skip) f72.results.toList [.d (.sl (ts.map wc))] Q = (
  ∃ x0, ({ tm := [((0 : Nat), V.d (D.sl (List.map wc ts))), ((2 : Nat), V.ref ((2 : Nat)) ((0 : Nat))), ((3 : Nat), V.d (D.v (Value.int IntKind.u64 (0 : Int)))), ((4 : Nat), V.d (D.v (Value.int IntKind.u64 (0 : Int)))), ((5 : Nat), V.d (D.v (Value.int IntKind.i64 (0 : Int))))], hp := [((2 : Nat), B.box [V.d (D.v (Value.int IntKind.i64 (0 : Int))), V.d (D.v (Value.int IntKind.u64 (0 : Int)))])], kn := [], gd := [] : St }
  = { tm := [((0 : Nat), V.d (D.sl (List.map wc ts))), ((2 : Nat), V.ref ((2 : Nat)) ((0 : Nat))), ((3 : Nat), V.d (D.v (Value.int IntKind.u64 x0.2.1))), ((4 : Nat), V.d (D.v (Value.int IntKind.u64 x0.2.2))), ((5 : Nat), V.d (D.v (Value.int IntKind.i64 x0.1)))], hp := [((2 : Nat), B.box [V.d (D.v (Value.int IntKind.i64 (0 : Int))), V.d (D.v (Value.int IntKind.u64 (0 : Int)))])], kn := [], gd := [] : St }
  ∧ ∃ n, inv_72 ts n x0) ∧ ∀ (n : Nat) (x : { X := Int × Int × Int, sh := st_72 (List.map wc ts), P := fun x => inv_72 ts : LX }.X), inv_72 ts n x → ∃
  es, D.sl (List.map wc ts) = D.sl es ∧ (decide (x.1 < ↑es.length) = true → ∃ es, D.sl (List.map wc ts) = D.sl es ∧ ((0 : Int) ≤ x.1 ∧ x.1 <
  ↑es.length) ∧ ∃ cells, es[x.1.toNat]? = some cells ∧ cells.length = (2 : Nat) ∧ ∃ n_1, cut ((0 : Nat)) ((1 : Nat)) cells = some [D.v (Value.int
  IntKind.i64 n_1)] ∧ ∃ es, D.sl (List.map wc ts) = D.sl es ∧ ((0 : Int) ≤ x.1 ∧ x.1 < ↑es.length) ∧ ∃ cells, es[x.1.toNat]? = some cells ∧
  cells.length = (2 : Nat) ∧ ∃ n_2, cut ((0 : Nat)) ((1 : Nat)) (dropN ((1 : Nat)) cells) = some [D.v (Value.int IntKind.u64 n_2)] ∧ (decide
  (IntKind.u64.wrap (x.2.2 + n_2) < x.2.2) = true → ∃ es, D.sl (List.map wc ts) = D.sl es ∧ ((0 : Int) ≤ x.1 ∧ x.1 < ↑es.length) ∧ ∃ cells,
  es[x.1.toNat]? = some cells ∧ cells.length = (2 : Nat) ∧ ∃ n_3, cut ((0 : Nat)) ((1 : Nat)) (dropN ((1 : Nat)) cells) = some [D.v (Value.int
  IntKind.u64 n_3)] ∧ ∃ m x', m < n ∧ { tm := [((0 : Nat), V.d (D.sl (List.map wc ts))), ((2 : Nat), V.ref ((2 : Nat)) ((0 : Nat))), ((3 : Nat), V.d (D.v (Value.int IntKind.u64 (IntKind.u64.wrap (IntKind.u64.wrap (x.2.1 + IntKind.u64.wrap n_1) + (1 : Int)))))), ((4 : Nat), V.d (D.v (Value.int IntKind.u64 (IntKind.u64.wrap (x.2.2 + n_3))))), ((5 : Nat), V.d (D.v (Value.int IntKind.i64 (IntKind.i64.wrap (x.1 + (1 : Int))))))], hp := [((2 : Nat), B.box [V.d (D.v (Value.int IntKind.i64 (0 : Int))), V.d (D.v (Value.int IntKind.u64 (0 : Int)))])], kn := [], gd := [] : St }
  = { tm := [((0 : Nat), V.d (D.sl (List.map wc ts))), ((2 : Nat), V.ref ((2 : Nat)) ((0 : Nat))), ((3 : Nat), V.d (D.v (Value.int IntKind.u64 x'.2.1))), ((4 : Nat), V.d (D.v (Value.int IntKind.u64 x'.2.2))), ((5 : Nat), V.d (D.v (Value.int IntKind.i64 x'.1)))], hp := [((2 : Nat), B.box [V.d (D.v (Value.int IntKind.i64 (0 : Int))), V.d (D.v (Value.int IntKind.u64 (0 : Int)))])], kn := [], gd := [] : St }
  ∧ inv_72 ts m x') ∧ (decide (IntKind.u64.wrap (x.2.2 + n_2) < x.2.2) = false → ∃ es, D.sl (List.map wc ts) = D.sl es ∧ ((0 : Int) ≤ x.1 ∧ x.1 <
  ↑es.length) ∧ ∃ cells, es[x.1.toNat]? = some cells ∧ cells.length = (2 : Nat) ∧ ∃ n_3, cut ((0 : Nat)) ((1 : Nat)) (dropN ((1 : Nat)) cells) = some
  [D.v (Value.int IntKind.u64 n_3)] ∧ ∃ m x', m < n ∧ { tm := [((0 : Nat), V.d (D.sl (List.map wc ts))), ((2 : Nat), V.ref ((2 : Nat)) ((0 : Nat))), ((3 : Nat), V.d (D.v (Value.int IntKind.u64 (IntKind.u64.wrap (x.2.1 + IntKind.u64.wrap n_1))))), ((4 : Nat), V.d (D.v (Value.int IntKind.u64 (IntKind.u64.wrap (x.2.2 + n_3))))), ((5 : Nat), V.d (D.v (Value.int IntKind.i64 (IntKind.i64.wrap (x.1 + (1 : Int))))))], hp := [((2 : Nat), B.box [V.d (D.v (Value.int IntKind.i64 (0 : Int))), V.d (D.v (Value.int IntKind.u64 (0 : Int)))])], kn := [], gd := [] : St }
  = { tm := [((0 : Nat), V.d (D.sl (List.map wc ts))), ((2 : Nat), V.ref ((2 : Nat)) ((0 : Nat))), ((3 : Nat), V.d (D.v (Value.int IntKind.u64 x'.2.1))), ((4 : Nat), V.d (D.v (Value.int IntKind.u64 x'.2.2))), ((5 : Nat), V.d (D.v (Value.int IntKind.i64 x'.1)))], hp := [((2 : Nat), B.box [V.d (D.v (Value.int IntKind.i64 (0 : Int))), V.d (D.v (Value.int IntKind.u64 (0 : Int)))])], kn := [], gd := [] : St }
  ∧ inv_72 ts m x')) ∧ (decide (x.1 < ↑es.length) = false → Q [R.agg [D.v (Value.int IntKind.i64 (IntKind.i64.wrap x.2.1)), D.v (Value.int IntKind.u64
  x.2.2)]] [])) := by kernel_rfl
theorem wadd2_carry {s t : Int} (hs : fitW s) (ht : fitW t) (h : IntKind.u64.wrap (loW s + loW t) < loW s) : IntKind.u64.wrap (IntKind.u64.wrap (IntKind.u64.wrap (hiW s) + IntKind.u64.wrap (hiW t)) + 1) = IntKind.u64.wrap (hiW (s + t)) ∧ IntKind.u64.wrap (loW s + loW t) = loW (s + t) := by
  simp only [wrap_u64] at h ⊢
  unfold hiW loW at *
  unfold fitW at hs ht
  omega
theorem wadd2_none {s t : Int} (hs : fitW s) (ht : fitW t) (h : ¬ IntKind.u64.wrap (loW s + loW t) < loW s) : IntKind.u64.wrap (IntKind.u64.wrap (hiW s) + IntKind.u64.wrap (hiW t)) = IntKind.u64.wrap (hiW (s + t)) ∧ IntKind.u64.wrap (loW s + loW t) = loW (s + t) := by
  simp only [wrap_u64] at h ⊢
  unfold hiW loW at *
  unfold fitW at hs ht
  omega
theorem ct72 (ts : List Int) (hl : ts.length < 4611686018427387904) (hf : ∀ t ∈ ts, fitW t) (hp : ∀ i, fitW (ts.take i).sum) : Ct prog 72 [.d (.sl (ts.map wc))] (gives [.agg (wc ts.sum)]) :=
  ct_of_vc E_ok C_b13_ok ioK_no it_ok mixed (fn := f72) (body := f72.body.getD .skip) (by kernel_rfl) (by kernel_rfl) (by kernel_rfl) (fi := fx_72 ts) (by kernel_rfl) (by kernel_rfl) ⟨_, _, rfl, rfl⟩ (by
    rw [vc72]
    refine ⟨(0, 0, 0), ⟨rfl, ts.length, 0, rfl, by simp, by simp [hiW]; decide, by simp, rfl⟩, ?_⟩
    rintro m ⟨i', h, l⟩ ⟨i, a1, a2, a3, a4, a5⟩
    dsimp only at a1 a3 a4 ⊢
    subst a1; subst a3; subst a4
    refine ⟨_, rfl, fun hi => ?_, fun hi => ?_⟩
    · have hi : i < ts.length := by simpa using hi
      have hget : (ts.map wc)[(i : Int).toNat]? = some (wc ts[i]) := by simp [hi]
      have hsum : (ts.take (i + 1)).sum = (ts.take i).sum + ts[i] := by rw [List.take_add_one, List.sum_append, List.getElem?_eq_getElem hi]; simp
      have hb : (0 : Int) ≤ (i : Int) ∧ (i : Int) < ((ts.map wc).length : Int) := ⟨by omega, by simpa using hi⟩
      refine ⟨_, rfl, hb, _, hget, rfl, _, rfl, _, rfl, hb, _, hget, rfl, _, rfl, fun hc => ?_, fun hc => ?_⟩
      · obtain ⟨e1, e2⟩ := wadd2_carry (hp i) (hf _ (List.getElem_mem hi)) (by simpa using hc)
        refine ⟨_, rfl, hb, _, hget, rfl, _, rfl, ts.length - (i + 1), (((i + 1 : Nat) : Int), IntKind.u64.wrap (hiW (ts.take (i + 1)).sum), loW (ts.take (i + 1)).sum), by omega, ?_, i + 1, rfl, hi, rfl, rfl, rfl⟩
        rw [e1, e2, ← hsum, wrap_i64_of (n := (i : Int) + 1) (by omega) (by omega)]
        rfl
      · obtain ⟨e1, e2⟩ := wadd2_none (hp i) (hf _ (List.getElem_mem hi)) (by simpa using hc)
        refine ⟨_, rfl, hb, _, hget, rfl, _, rfl, ts.length - (i + 1), (((i + 1 : Nat) : Int), IntKind.u64.wrap (hiW (ts.take (i + 1)).sum), loW (ts.take (i + 1)).sum), by omega, ?_, i + 1, rfl, hi, rfl, rfl, rfl⟩
        rw [e1, e2, ← hsum, wrap_i64_of (n := (i : Int) + 1) (by omega) (by omega)]
        rfl
    · have hi : ¬ i < ts.length := by simpa using hi
      have e : ts.take i = ts := List.take_of_length_le (by omega)
      have hfit : fitW ts.sum := by have := hp i; rw [e] at this; exact this
      rw [e]
      have : IntKind.i64.wrap (IntKind.u64.wrap (hiW ts.sum)) = hiW ts.sum := by
        rw [wrap_u64, wrap_i64]; unfold hiW; unfold fitW at hfit; split <;> omega
      rw [this]; exact ⟨rfl, rfl⟩)
end Go.Proofs.Try
