/- A part of the proof: contracts of functions, by a verified generator of conditions; no condition of its own. -/
import Derived.Test.YtfohenhmlfiijaaGreatDoorB3
namespace Go.Proofs.Tryz
open Go Go.Dm Go.Ex
set_option maxRecDepth 100000
variable {gl : Nat → Option Obj}
theorem vc128 (a b k : Int) (Q : List R → List (List D) → Prop) : vc E_0 C_66 noI fi49 (f49.body.getD .skip) f49.results.toList [.agg [.v (.int .i64 a), .v (.int .i64 b)], .ptr [.v (.int .i64 k)]] Q = (
  ∃ (n : Int), some [D.v (Value.int IntKind.i64 k)] = some [D.v (Value.int IntKind.i64 n)] ∧ Q [R.d (D.v (Value.bool (a != n)))] []) := by kernel_rfl
def c_128 (a : List R) (K : List R → List (List D) → Prop) : Prop := match a with
  | [.agg [.v (.int .i64 a), .v (.int .i64 b)], .ptr [.v (.int .i64 k)]] => K [.d (.v (.bool (a != k)))] []
  | _ => False
theorem c_128_ok (a : List R) (K : List R → List (List D) → Prop) (h : c_128 a K) : Ct prog gl 49 a K := by
  unfold c_128 at h
  split at h
  · rename_i a b k
    refine Ct.gives (r := [.d (.v (.bool (a != k)))]) (ct_of_vc E_ok C_66_ok ioK_no it_ok mixed (fn := f49) (body := f49.body.getD .skip) (by kernel_rfl) (by kernel_rfl) (by kernel_rfl) (fi := fi49) (by kernel_rfl) (by kernel_rfl) ⟨_, _, rfl, rfl⟩ ?_) h
    rw [vc128]
    exact ⟨k, rfl, rfl, rfl⟩
  · exact h.elim
def C_4a : CallT := addC C_66 49 c_128
theorem C_4a_ok : CallsOk prog gl C_4a := addC_ok C_66_ok c_128_ok
theorem any_take {α : Type} {p : α → Bool} {l : List α} {i : Nat} (hi : i < l.length) (h : ∀ v ∈ l.take i, p v = false) (hb : p l[i] = false) : ∀ v ∈ l.take (i + 1), p v = false := by
  intro v hv
  rw [List.take_add_one, List.getElem?_eq_getElem hi] at hv
  rcases List.mem_append.1 hv with hv | hv
  · exact h v hv
  · simp at hv; subst hv; exact hb
theorem any_none {α : Type} {p : α → Bool} {l : List α} (h : ∀ v ∈ l, p v = false) : l.any p = false := by
  rw [List.any_eq_false]; intro v hv; rw [h v hv]; simp
def badT (t : Ty) : Bool := s59_0 t.k t.sc
def offK (k : Int) (t : Ty) : Bool := t.k != k
def badV (v : Go.Ex.AV) : Bool := s55_0 v.t.k v.t.sc v.nul v.n v.s
def st_123a (l : List Ty) (x : Nat) : St := { tm := [(0, .d (.sl (l.map Ty.cs))), (1, .fn 22 []), (4, .d (.v (.int .i64 0))), (7, .d (.v (.int .i64 ((l.map Ty.cs).length : Int)))), (8, .d (.v (.int .i64 (x : Int))))], hp := [], kn := [], gd := [] }
def inv_123a (l : List Ty) (m : Nat) (x : Nat) : Prop := (x ≤ l.length ∧ m = l.length - x) ∧ ∀ v ∈ l.take x, badT v = false
def fx_123a (l : List Ty) : Fi := { fi44 with lx := [(2, { X := Nat, sh := st_123a l, P := fun _ => inv_123a l })] }
theorem vc123a (l : List Ty) (Q : List R → List (List D) → Prop) : vc E_0 C_4a noI (fx_123a l) (f44.body.getD .skip) f44.results.toList [.d (.sl (l.map Ty.cs)), .fn 22 []] Q = (
  ∃ (es : List (List D)), D.sl (List.map Ty.cs l) = D.sl es ∧ ∃ (x0 : { X := Nat, sh := st_123a l, P := fun (x : Nat) => inv_123a l : LX }.X), ({ tm := [((0 : Nat), V.d (D.sl (List.map Ty.cs l))), ((1 : Nat), V.fn ((22 : Nat)) []), ((4 : Nat), V.d (D.v (Value.int IntKind.i64 (0 : Int)))), ((7 : Nat), V.d (D.v (Value.int IntKind.i64 (↑es.length : Int)))), ((8 : Nat), V.d (D.v (Value.int IntKind.i64 (0 : Int))))], hp := [], kn := [], gd := [] : St }
  = { tm := [((0 : Nat), V.d (D.sl (List.map Ty.cs l))), ((1 : Nat), V.fn ((22 : Nat)) []), ((4 : Nat), V.d (D.v (Value.int IntKind.i64 (0 : Int)))), ((7 : Nat), V.d (D.v (Value.int IntKind.i64 (↑(List.map Ty.cs l).length : Int)))), ((8 : Nat), V.d (D.v (Value.int IntKind.i64 (↑x0 : Int))))], hp := [], kn := [], gd := [] : St }
  ∧ ∃ (n : Nat), inv_123a l n x0) ∧ ∀ (n : Nat) (x : { X := Nat, sh := st_123a l, P := fun (x : Nat) => inv_123a l : LX }.X), inv_123a l n x → (decide
  ((↑x : Int) < (↑(List.map Ty.cs l).length : Int)) = true → ∃ (es : List (List D)), D.sl (List.map Ty.cs l) = D.sl es ∧ ((0 : Int) ≤ (↑x : Int) ∧ (↑x
  : Int) < (↑es.length : Int)) ∧ ∃ (cells : List D), es[(↑x : Int).toNat]? = some cells ∧ cells.length = (2 : Nat) ∧ ∃ (n_1 : Int), ∃ (n_2 : Int), cut
  ((0 : Nat)) ((2 : Nat)) cells = some [D.v (Value.int IntKind.i64 n_1), D.v (Value.int IntKind.i64 n_2)] ∧ (s59_0 n_1 n_2 = true → Q [R.d (D.v
  (Value.int IntKind.i64 (↑x : Int)))] []) ∧ (s59_0 n_1 n_2 = false → ∃ (m : Nat), ∃ (x' : { X := Nat, sh := st_123a l, P := fun (x : Nat) => inv_123a l : LX }.X),
  m < n ∧ { tm := [((0 : Nat), V.d (D.sl (List.map Ty.cs l))), ((1 : Nat), V.fn ((22 : Nat)) []), ((4 : Nat), V.d (D.v (Value.int IntKind.i64 (0 : Int)))), ((7 : Nat), V.d (D.v (Value.int IntKind.i64 (↑(List.map Ty.cs l).length : Int)))), ((8 : Nat), V.d (D.v (Value.int IntKind.i64 (IntKind.i64.wrap ((↑x : Int) + (1 : Int))))))], hp := [], kn := [], gd := [] : St }
  = { tm := [((0 : Nat), V.d (D.sl (List.map Ty.cs l))), ((1 : Nat), V.fn ((22 : Nat)) []), ((4 : Nat), V.d (D.v (Value.int IntKind.i64 (0 : Int)))), ((7 : Nat), V.d (D.v (Value.int IntKind.i64 (↑(List.map Ty.cs l).length : Int)))), ((8 : Nat), V.d (D.v (Value.int IntKind.i64 (↑x' : Int))))], hp := [], kn := [], gd := [] : St }
  ∧ inv_123a l m x')) ∧ (decide ((↑x : Int) < (↑(List.map Ty.cs l).length : Int)) = false → Q [R.d (D.v (Value.int IntKind.i64 (-1 : Int)))] [])) := by kernel_rfl
theorem ct123a (l : List Ty) (hl : l.length < 4611686018427387904) : Ct prog gl 44 [.d (.sl (l.map Ty.cs)), .fn 22 []] (fun res fin => fin = [] ∧ ∃ r : Int, res = [.d (.v (.int .i64 r))] ∧ decide (r ≥ 0) = l.any (badT)) :=
  ct_of_vc E_ok C_4a_ok ioK_no it_ok mixed (fn := f44) (body := f44.body.getD .skip) (by kernel_rfl) (by kernel_rfl) (by kernel_rfl) (fi := fx_123a l) (by kernel_rfl) (by kernel_rfl) (by
    cases h : l.any (badT)
    · exact ⟨_, _, rfl, -1, rfl, rfl⟩
    · exact ⟨_, _, rfl, 0, rfl, rfl⟩) (by
    rw [vc123a]
    refine ⟨_, rfl, (0 : Nat), ⟨rfl, l.length, ⟨Nat.zero_le _, rfl⟩, by simp⟩, fun m (x : Nat) hx => ⟨fun hi => ?_, fun hi => ?_⟩⟩
    · have hi : x < l.length := by simpa using hi
      have hg : (l.map Ty.cs)[((x : Nat) : Int).toNat]? = some (Ty.cs l[x]) := by simp [hi]
      have hm := hx.1.2
      refine ⟨_, rfl, ⟨by omega, by simpa using hi⟩, _, hg, rfl, _, _, rfl, fun hb => ?_, fun hb => ?_⟩
      · refine ⟨rfl, (x : Int), rfl, ?_⟩
        rw [decide_eq_true (by omega)]
        exact (List.any_eq_true.2 ⟨l[x], List.getElem_mem hi, hb⟩).symm
      · exact ⟨l.length - (x + 1), x + 1, by omega, by rw [wrap_next (by omega)], ⟨hi, rfl⟩, any_take hi hx.2 hb⟩
    · have hi : ¬ x < l.length := by simpa using hi
      have h := hx.2
      rw [List.take_of_length_le (by omega)] at h
      refine ⟨rfl, -1, rfl, ?_⟩
      rw [any_none h]; rfl)
def st_123b (k : Int) (l : List Ty) (x : Nat) : St := { tm := [(0, .d (.sl (l.map Ty.cs))), (1, .fn 49 [.dptr [.v (.int .i64 k)]]), (4, .d (.v (.int .i64 0))), (7, .d (.v (.int .i64 ((l.map Ty.cs).length : Int)))), (8, .d (.v (.int .i64 (x : Int))))], hp := [], kn := [], gd := [] }
def inv_123b (k : Int) (l : List Ty) (m : Nat) (x : Nat) : Prop := (x ≤ l.length ∧ m = l.length - x) ∧ ∀ v ∈ l.take x, offK k v = false
def fx_123b (k : Int) (l : List Ty) : Fi := { fi44 with lx := [(2, { X := Nat, sh := st_123b k l, P := fun _ => inv_123b k l })] }
theorem vc123b (k : Int) (l : List Ty) (Q : List R → List (List D) → Prop) : vc E_0 C_4a noI (fx_123b k l) (f44.body.getD .skip) f44.results.toList [.d (.sl (l.map Ty.cs)), .fn 49 [.ptr [.v (.int .i64 k)]]] Q = (
  ∃ (es : List (List D)), D.sl (List.map Ty.cs l) = D.sl es ∧ ∃ (x0 : { X := Nat, sh := st_123b k l, P := fun (x : Nat) => inv_123b k l : LX }.X), ({ tm := [((0 : Nat), V.d (D.sl (List.map Ty.cs l))), ((1 : Nat), V.fn ((49 : Nat)) [V.dptr [D.v (Value.int IntKind.i64 k)]]), ((4 : Nat), V.d (D.v (Value.int IntKind.i64 (0 : Int)))), ((7 : Nat), V.d (D.v (Value.int IntKind.i64 (↑es.length : Int)))), ((8 : Nat), V.d (D.v (Value.int IntKind.i64 (0 : Int))))], hp := [], kn := [], gd := [] : St }
  = { tm := [((0 : Nat), V.d (D.sl (List.map Ty.cs l))), ((1 : Nat), V.fn ((49 : Nat)) [V.dptr [D.v (Value.int IntKind.i64 k)]]), ((4 : Nat), V.d (D.v (Value.int IntKind.i64 (0 : Int)))), ((7 : Nat), V.d (D.v (Value.int IntKind.i64 (↑(List.map Ty.cs l).length : Int)))), ((8 : Nat), V.d (D.v (Value.int IntKind.i64 (↑x0 : Int))))], hp := [], kn := [], gd := [] : St }
  ∧ ∃ (n : Nat), inv_123b k l n x0) ∧ ∀ (n : Nat) (x : { X := Nat, sh := st_123b k l, P := fun (x : Nat) => inv_123b k l : LX }.X), inv_123b k l n x →
  (decide ((↑x : Int) < (↑(List.map Ty.cs l).length : Int)) = true → ∃ (es : List (List D)), D.sl (List.map Ty.cs l) = D.sl es ∧ ((0 : Int) ≤ (↑x :
  Int) ∧ (↑x : Int) < (↑es.length : Int)) ∧ ∃ (cells : List D), es[(↑x : Int).toNat]? = some cells ∧ cells.length = (2 : Nat) ∧ ∃ (n_1 : Int), ∃ (n_2 :
  Int), cut ((0 : Nat)) ((2 : Nat)) cells = some [D.v (Value.int IntKind.i64 n_1), D.v (Value.int IntKind.i64 n_2)] ∧ ((n_1 != k) = true → Q [R.d (D.v
  (Value.int IntKind.i64 (↑x : Int)))] []) ∧ ((n_1 != k) = false → ∃ (m : Nat), ∃ (x' : { X := Nat, sh := st_123b k l, P := fun (x : Nat) => inv_123b k l : LX }.X),
  m < n ∧ { tm := [((0 : Nat), V.d (D.sl (List.map Ty.cs l))), ((1 : Nat), V.fn ((49 : Nat)) [V.dptr [D.v (Value.int IntKind.i64 k)]]), ((4 : Nat), V.d (D.v (Value.int IntKind.i64 (0 : Int)))), ((7 : Nat), V.d (D.v (Value.int IntKind.i64 (↑(List.map Ty.cs l).length : Int)))), ((8 : Nat), V.d (D.v (Value.int IntKind.i64 (IntKind.i64.wrap ((↑x : Int) + (1 : Int))))))], hp := [], kn := [], gd := [] : St }
  = { tm := [((0 : Nat), V.d (D.sl (List.map Ty.cs l))), ((1 : Nat), V.fn ((49 : Nat)) [V.dptr [D.v (Value.int IntKind.i64 k)]]), ((4 : Nat), V.d (D.v (Value.int IntKind.i64 (0 : Int)))), ((7 : Nat), V.d (D.v (Value.int IntKind.i64 (↑(List.map Ty.cs l).length : Int)))), ((8 : Nat), V.d (D.v (Value.int IntKind.i64 (↑x' : Int))))], hp := [], kn := [], gd := [] : St }
  ∧ inv_123b k l m x')) ∧ (decide ((↑x : Int) < (↑(List.map Ty.cs l).length : Int)) = false → Q [R.d (D.v (Value.int IntKind.i64 (-1 : Int)))] [])) := by kernel_rfl
theorem ct123b (k : Int) (l : List Ty) (hl : l.length < 4611686018427387904) : Ct prog gl 44 [.d (.sl (l.map Ty.cs)), .fn 49 [.ptr [.v (.int .i64 k)]]] (fun res fin => fin = [] ∧ ∃ r : Int, res = [.d (.v (.int .i64 r))] ∧ decide (r ≥ 0) = l.any (offK k)) :=
  ct_of_vc E_ok C_4a_ok ioK_no it_ok mixed (fn := f44) (body := f44.body.getD .skip) (by kernel_rfl) (by kernel_rfl) (by kernel_rfl) (fi := fx_123b k l) (by kernel_rfl) (by kernel_rfl) (by
    cases h : l.any (offK k)
    · exact ⟨_, _, rfl, -1, rfl, rfl⟩
    · exact ⟨_, _, rfl, 0, rfl, rfl⟩) (by
    rw [vc123b]
    refine ⟨_, rfl, (0 : Nat), ⟨rfl, l.length, ⟨Nat.zero_le _, rfl⟩, by simp⟩, fun m (x : Nat) hx => ⟨fun hi => ?_, fun hi => ?_⟩⟩
    · have hi : x < l.length := by simpa using hi
      have hg : (l.map Ty.cs)[((x : Nat) : Int).toNat]? = some (Ty.cs l[x]) := by simp [hi]
      have hm := hx.1.2
      refine ⟨_, rfl, ⟨by omega, by simpa using hi⟩, _, hg, rfl, _, _, rfl, fun hb => ?_, fun hb => ?_⟩
      · refine ⟨rfl, (x : Int), rfl, ?_⟩
        rw [decide_eq_true (by omega)]
        exact (List.any_eq_true.2 ⟨l[x], List.getElem_mem hi, hb⟩).symm
      · exact ⟨l.length - (x + 1), x + 1, by omega, by rw [wrap_next (by omega)], ⟨hi, rfl⟩, any_take hi hx.2 hb⟩
    · have hi : ¬ x < l.length := by simpa using hi
      have h := hx.2
      rw [List.take_of_length_le (by omega)] at h
      refine ⟨rfl, -1, rfl, ?_⟩
      rw [any_none h]; rfl)
def c_123 (a : List R) (K : List R → List (List D) → Prop) : Prop := match a with
  | [.d (.sl x), .fn 22 []] => ∃ l : List Ty, x = l.map Ty.cs ∧ l.length < 4611686018427387904 ∧ ∀ r : Int, decide (r ≥ 0) = l.any (badT) → K [.d (.v (.int .i64 r))] []
  | [.d (.sl x), .fn 49 [.ptr [.v (.int .i64 k)]]] => ∃ l : List Ty, x = l.map Ty.cs ∧ l.length < 4611686018427387904 ∧ ∀ r : Int, decide (r ≥ 0) = l.any (offK k) → K [.d (.v (.int .i64 r))] []
  | _ => False
theorem c_123_ok (a : List R) (K : List R → List (List D) → Prop) (h : c_123 a K) : Ct prog gl 44 a K := by
  unfold c_123 at h
  split at h
  · obtain ⟨l, rfl, h1, h2⟩ := h
    exact (ct123a l h1).mono fun res fin ⟨e1, r, e2, e3⟩ => by subst e1; subst e2; exact h2 r e3
  · obtain ⟨l, rfl, h1, h2⟩ := h
    exact (ct123b _ l h1).mono fun res fin ⟨e1, r, e2, e3⟩ => by subst e1; subst e2; exact h2 r e3
  · exact h.elim
def C_4b : CallT := addC C_4a 44 c_123
theorem C_4b_ok : CallsOk prog gl C_4b := addC_ok C_4a_ok c_123_ok
theorem vc58a (x : List (List D)) (Q : List R → List (List D) → Prop) : vc E_0 C_4b noI fi21 (f21.body.getD .skip) f21.results.toList [.d (.sl x), .fn 22 []] Q = (
  ∃ (l : List Ty), x = List.map Ty.cs l ∧ l.length < (4611686018427387904 : Nat) ∧ ∀ (r : Int), decide (r ≥ (0 : Int)) = l.any badT → Q [R.d (D.v
  (Value.bool (decide (r ≥ (0 : Int)))))] []) := by kernel_rfl
theorem vc58b (k : Int) (x : List (List D)) (Q : List R → List (List D) → Prop) : vc E_0 C_4b noI fi21 (f21.body.getD .skip) f21.results.toList [.d (.sl x), .fn 49 [.ptr [.v (.int .i64 k)]]] Q = (
  ∃ (l : List Ty), x = List.map Ty.cs l ∧ l.length < (4611686018427387904 : Nat) ∧ ∀ (r : Int), decide (r ≥ (0 : Int)) = l.any (offK k) → Q [R.d (D.v
  (Value.bool (decide (r ≥ (0 : Int)))))] []) := by kernel_rfl
def c_58 (a : List R) (K : List R → List (List D) → Prop) : Prop := match a with
  | [.d (.sl x), .fn 22 []] => ∃ l : List Ty, x = l.map Ty.cs ∧ l.length < 4611686018427387904 ∧ K [.d (.v (.bool (l.any (badT))))] []
  | [.d (.sl x), .fn 49 [.ptr [.v (.int .i64 k)]]] => ∃ l : List Ty, x = l.map Ty.cs ∧ l.length < 4611686018427387904 ∧ K [.d (.v (.bool (l.any (offK k))))] []
  | _ => False
theorem c_58_ok (a : List R) (K : List R → List (List D) → Prop) (h : c_58 a K) : Ct prog gl 21 a K := by
  unfold c_58 at h
  split at h
  · obtain ⟨l, rfl, h1, h2⟩ := h
    refine Ct.gives (r := [.d (.v (.bool (l.any (badT))))]) (ct_of_vc E_ok C_4b_ok ioK_no it_ok mixed (fn := f21) (body := f21.body.getD .skip) (by kernel_rfl) (by kernel_rfl) (by kernel_rfl) (fi := fi21) (by kernel_rfl) (by kernel_rfl) ⟨_, _, rfl, rfl⟩ ?_) h2
    rw [vc58a]
    exact ⟨l, rfl, h1, fun r hr => ⟨by rw [hr], rfl⟩⟩
  · rename_i x k
    obtain ⟨l, rfl, h1, h2⟩ := h
    refine Ct.gives (r := [.d (.v (.bool (l.any (offK k))))]) (ct_of_vc E_ok C_4b_ok ioK_no it_ok mixed (fn := f21) (body := f21.body.getD .skip) (by kernel_rfl) (by kernel_rfl) (by kernel_rfl) (fi := fi21) (by kernel_rfl) (by kernel_rfl) ⟨_, _, rfl, rfl⟩ ?_) h2
    rw [vc58b]
    exact ⟨l, rfl, h1, fun r hr => ⟨by rw [hr], rfl⟩⟩
  · exact h.elim
def C_4c : CallT := addC C_4b 21 c_58
theorem C_4c_ok : CallsOk prog gl C_4c := addC_ok C_4b_ok c_58_ok
def st_113 (l : List Go.Ex.AV) (x : Nat) : St := { tm := [(0, .d (.sl (l.map Go.Ex.AV.cs))), (1, .fn 18 []), (4, .d (.v (.int .i64 0))), (7, .d (.v (.int .i64 ((l.map Go.Ex.AV.cs).length : Int)))), (8, .d (.v (.int .i64 (x : Int))))], hp := [], kn := [], gd := [] }
def inv_113 (l : List Go.Ex.AV) (m : Nat) (x : Nat) : Prop := (x ≤ l.length ∧ m = l.length - x) ∧ ∀ v ∈ l.take x, badV v = false
def fx_113 (l : List Go.Ex.AV) : Fi := { fi34 with lx := [(2, { X := Nat, sh := st_113 l, P := fun _ => inv_113 l })] }
theorem vc113 (l : List Go.Ex.AV) (Q : List R → List (List D) → Prop) : vc E_0 C_4c noI (fx_113 l) (f34.body.getD .skip) f34.results.toList [.d (.sl (l.map Go.Ex.AV.cs)), .fn 18 []] Q = (
  ∃ (es : List (List D)), D.sl (List.map AV.cs l) = D.sl es ∧ ∃ (x0 : { X := Nat, sh := st_113 l, P := fun (x : Nat) => inv_113 l : LX }.X), ({ tm := [((0 : Nat), V.d (D.sl (List.map AV.cs l))), ((1 : Nat), V.fn ((18 : Nat)) []), ((4 : Nat), V.d (D.v (Value.int IntKind.i64 (0 : Int)))), ((7 : Nat), V.d (D.v (Value.int IntKind.i64 (↑es.length : Int)))), ((8 : Nat), V.d (D.v (Value.int IntKind.i64 (0 : Int))))], hp := [], kn := [], gd := [] : St }
  = { tm := [((0 : Nat), V.d (D.sl (List.map AV.cs l))), ((1 : Nat), V.fn ((18 : Nat)) []), ((4 : Nat), V.d (D.v (Value.int IntKind.i64 (0 : Int)))), ((7 : Nat), V.d (D.v (Value.int IntKind.i64 (↑(List.map AV.cs l).length : Int)))), ((8 : Nat), V.d (D.v (Value.int IntKind.i64 (↑x0 : Int))))], hp := [], kn := [], gd := [] : St }
  ∧ ∃ (n : Nat), inv_113 l n x0) ∧ ∀ (n : Nat) (x : { X := Nat, sh := st_113 l, P := fun (x : Nat) => inv_113 l : LX }.X), inv_113 l n x → (decide ((↑x
  : Int) < (↑(List.map AV.cs l).length : Int)) = true → ∃ (es : List (List D)), D.sl (List.map AV.cs l) = D.sl es ∧ ((0 : Int) ≤ (↑x : Int) ∧ (↑x :
  Int) < (↑es.length : Int)) ∧ ∃ (cells : List D), es[(↑x : Int).toNat]? = some cells ∧ cells.length = (5 : Nat) ∧ ∃ (n_1 : Int), ∃ (n_2 : Int), ∃ (b :
  Bool), ∃ (n_3 : Int), ∃ (b_1 : ByteArray), cut ((0 : Nat)) ((5 : Nat)) cells = some [D.v (Value.int IntKind.i64 n_1), D.v (Value.int IntKind.i64
  n_2), D.v (Value.bool b), D.v (Value.int IntKind.i64 n_3), D.v (Value.string b_1)] ∧ (s55_0 n_1 n_2 b n_3 b_1 = true → Q [R.d (D.v (Value.int
  IntKind.i64 (↑x : Int)))] []) ∧ (s55_0 n_1 n_2 b n_3 b_1 = false → ∃ (m : Nat), ∃ (x' : { X := Nat, sh := st_113 l, P := fun (x : Nat) => inv_113 l : LX }.X),
  m < n ∧ { tm := [((0 : Nat), V.d (D.sl (List.map AV.cs l))), ((1 : Nat), V.fn ((18 : Nat)) []), ((4 : Nat), V.d (D.v (Value.int IntKind.i64 (0 : Int)))), ((7 : Nat), V.d (D.v (Value.int IntKind.i64 (↑(List.map AV.cs l).length : Int)))), ((8 : Nat), V.d (D.v (Value.int IntKind.i64 (IntKind.i64.wrap ((↑x : Int) + (1 : Int))))))], hp := [], kn := [], gd := [] : St }
  = { tm := [((0 : Nat), V.d (D.sl (List.map AV.cs l))), ((1 : Nat), V.fn ((18 : Nat)) []), ((4 : Nat), V.d (D.v (Value.int IntKind.i64 (0 : Int)))), ((7 : Nat), V.d (D.v (Value.int IntKind.i64 (↑(List.map AV.cs l).length : Int)))), ((8 : Nat), V.d (D.v (Value.int IntKind.i64 (↑x' : Int))))], hp := [], kn := [], gd := [] : St }
  ∧ inv_113 l m x')) ∧ (decide ((↑x : Int) < (↑(List.map AV.cs l).length : Int)) = false → Q [R.d (D.v (Value.int IntKind.i64 (-1 : Int)))] [])) := by kernel_rfl
theorem ct113 (l : List Go.Ex.AV) (hl : l.length < 4611686018427387904) : Ct prog gl 34 [.d (.sl (l.map Go.Ex.AV.cs)), .fn 18 []] (fun res fin => fin = [] ∧ ∃ r : Int, res = [.d (.v (.int .i64 r))] ∧ decide (r ≥ 0) = l.any (badV)) :=
  ct_of_vc E_ok C_4c_ok ioK_no it_ok mixed (fn := f34) (body := f34.body.getD .skip) (by kernel_rfl) (by kernel_rfl) (by kernel_rfl) (fi := fx_113 l) (by kernel_rfl) (by kernel_rfl) (by
    cases h : l.any (badV)
    · exact ⟨_, _, rfl, -1, rfl, rfl⟩
    · exact ⟨_, _, rfl, 0, rfl, rfl⟩) (by
    rw [vc113]
    refine ⟨_, rfl, (0 : Nat), ⟨rfl, l.length, ⟨Nat.zero_le _, rfl⟩, by simp⟩, fun m (x : Nat) hx => ⟨fun hi => ?_, fun hi => ?_⟩⟩
    · have hi : x < l.length := by simpa using hi
      have hg : (l.map Go.Ex.AV.cs)[((x : Nat) : Int).toNat]? = some (Go.Ex.AV.cs l[x]) := by simp [hi]
      have hm := hx.1.2
      refine ⟨_, rfl, ⟨by omega, by simpa using hi⟩, _, hg, rfl, _, _, _, _, _, rfl, fun hb => ?_, fun hb => ?_⟩
      · refine ⟨rfl, (x : Int), rfl, ?_⟩
        rw [decide_eq_true (by omega)]
        exact (List.any_eq_true.2 ⟨l[x], List.getElem_mem hi, hb⟩).symm
      · exact ⟨l.length - (x + 1), x + 1, by omega, by rw [wrap_next (by omega)], ⟨hi, rfl⟩, any_take hi hx.2 hb⟩
    · have hi : ¬ x < l.length := by simpa using hi
      have h := hx.2
      rw [List.take_of_length_le (by omega)] at h
      refine ⟨rfl, -1, rfl, ?_⟩
      rw [any_none h]; rfl)
def c_113 (a : List R) (K : List R → List (List D) → Prop) : Prop := match a with
  | [.d (.sl x), .fn 18 []] => ∃ l : List Go.Ex.AV, x = l.map Go.Ex.AV.cs ∧ l.length < 4611686018427387904 ∧ ∀ r : Int, decide (r ≥ 0) = l.any (badV) → K [.d (.v (.int .i64 r))] []
  | _ => False
theorem c_113_ok (a : List R) (K : List R → List (List D) → Prop) (h : c_113 a K) : Ct prog gl 34 a K := by
  unfold c_113 at h
  split at h
  · obtain ⟨l, rfl, h1, h2⟩ := h
    exact (ct113 l h1).mono fun res fin ⟨e1, r, e2, e3⟩ => by subst e1; subst e2; exact h2 r e3
  · exact h.elim
def C_4d : CallT := addC C_4c 34 c_113
theorem C_4d_ok : CallsOk prog gl C_4d := addC_ok C_4c_ok c_113_ok
theorem vc54 (x : List (List D)) (Q : List R → List (List D) → Prop) : vc E_0 C_4d noI fi17 (f17.body.getD .skip) f17.results.toList [.d (.sl x), .fn 18 []] Q = (
  ∃ (l : List AV), x = List.map AV.cs l ∧ l.length < (4611686018427387904 : Nat) ∧ ∀ (r : Int), decide (r ≥ (0 : Int)) = l.any badV → Q [R.d (D.v
  (Value.bool (decide (r ≥ (0 : Int)))))] []) := by kernel_rfl
def c_54 (a : List R) (K : List R → List (List D) → Prop) : Prop := match a with
  | [.d (.sl x), .fn 18 []] => ∃ l : List Go.Ex.AV, x = l.map Go.Ex.AV.cs ∧ l.length < 4611686018427387904 ∧ K [.d (.v (.bool (l.any (badV))))] []
  | _ => False
theorem c_54_ok (a : List R) (K : List R → List (List D) → Prop) (h : c_54 a K) : Ct prog gl 17 a K := by
  unfold c_54 at h
  split at h
  · obtain ⟨l, rfl, h1, h2⟩ := h
    refine Ct.gives (r := [.d (.v (.bool (l.any (badV))))]) (ct_of_vc E_ok C_4d_ok ioK_no it_ok mixed (fn := f17) (body := f17.body.getD .skip) (by kernel_rfl) (by kernel_rfl) (by kernel_rfl) (fi := fi17) (by kernel_rfl) (by kernel_rfl) ⟨_, _, rfl, rfl⟩ ?_) h2
    rw [vc54]
    exact ⟨l, rfl, h1, fun r hr => ⟨by rw [hr], rfl⟩⟩
  · exact h.elim
def C_4e : CallT := addC C_4d 17 c_54
theorem C_4e_ok : CallsOk prog gl C_4e := addC_ok C_4d_ok c_54_ok
end Go.Proofs.Tryz
