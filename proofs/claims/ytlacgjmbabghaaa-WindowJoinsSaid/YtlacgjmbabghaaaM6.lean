/- A part of the proof: contracts of functions, by a verified generator of conditions; no condition of its own. -/
import Derived.Test.YtlacgjmbabghaaaM5
namespace Go.Proofs.Try
open Go Go.Dm
set_option maxRecDepth 100000
structure AV where
  k : Int
  sc : Int
  nul : Bool
  n : Int
  s : ByteArray
abbrev AV.cs (v : AV) : List D := [.v (.int .i64 v.k), .v (.int .i64 v.sc), .v (.bool v.nul), .v (.int .i64 v.n), .v (.string v.s)]
structure Sm where
  c : Int
  t : Int
  b : AV
abbrev Sm.cs (s : Sm) : List D := [.v (.int .i64 s.c), .v (.int .i64 (hiW s.t)), .v (.int .u64 (loW s.t)), .v (.int .i64 s.b.k), .v (.int .i64 s.b.sc), .v (.bool s.b.nul), .v (.int .i64 s.b.n), .v (.string s.b.s)]
def better (kd : Int) (b a : AV) : Bool := (kd == 3 && decide (ordV b.k b.n b.s a.n a.s < 0)) || (kd == 4 && decide (ordV b.k b.n b.s a.n a.s > 0))
def joinS (kd : Int) (a b : Sm) : Sm := if a.c = 0 then b else if b.c = 0 then a else ⟨a.c + b.c, a.t + b.t, if better kd b.b a.b then b.b else a.b⟩
/-- Two sums may be joined. -/
def JOk (a b : Sm) : Prop := (a.c ≠ 0 → b.c ≠ 0 → in64 (a.c + b.c) ∧ fitW a.t ∧ fitW b.t ∧ fitW (a.t + b.t) ∧ a.b.k = b.b.k ∧ a.b.sc = b.b.sc ∧ in64 b.b.n ∧ in64 a.b.n ∧ b.b.nul = false ∧ a.b.nul = false ∧ 1 ≤ b.b.k ∧ b.b.k ≤ 5)
theorem vc21 (kd k sc : Int) (lv : List (List D)) (lk : Int) (a b : Sm) (Q : List R → List (List D) → Prop) : vc E_0 C_b6 noI fi21 (f21.body.getD .skip) f21.results.toList [.ptr [.v (.int .i64 kd), .v (.int .i64 k), .v (.int .i64 sc), .sl lv, .v (.int .i64 lk)], .agg a.cs, .agg b.cs] Q = (
  ((a.1 == (0 : Int)) = true → Q [R.agg [D.v (Value.int IntKind.i64 b.1), D.v (Value.int IntKind.i64 (hiW b.2)), D.v (Value.int IntKind.u64 (loW b.2)),
  D.v (Value.int IntKind.i64 b.3.1), D.v (Value.int IntKind.i64 b.3.2), D.v (Value.bool b.3.3), D.v (Value.int IntKind.i64 b.3.4), D.v (Value.string
  b.3.5)]] []) ∧ ((a.1 == (0 : Int)) = false → ((b.1 == (0 : Int)) = true → Q [R.agg [D.v (Value.int IntKind.i64 a.1), D.v (Value.int IntKind.i64 (hiW
  a.2)), D.v (Value.int IntKind.u64 (loW a.2)), D.v (Value.int IntKind.i64 a.3.1), D.v (Value.int IntKind.i64 a.3.2), D.v (Value.bool a.3.3), D.v
  (Value.int IntKind.i64 a.3.4), D.v (Value.string a.3.5)]] []) ∧ ((b.1 == (0 : Int)) = false → ((∃ s t, hiW a.2 = hiW s ∧ loW a.2 = loW s ∧ hiW b.2 =
  hiW t ∧ loW b.2 = loW t ∧ ((-85070591730234615865843651857942052864 : Int) ≤ s ∧ s < (85070591730234615865843651857942052864 : Int)) ∧
  ((-85070591730234615865843651857942052864 : Int) ≤ t ∧ t < (85070591730234615865843651857942052864 : Int)) ∧
  ((-85070591730234615865843651857942052864 : Int) ≤ s + t ∧ s + t < (85070591730234615865843651857942052864 : Int)) ∧ (a.3.1 = b.3.1 ∧ a.3.2 = b.3.2 ∧
  in64 b.3.4 ∧ in64 a.3.4 ∧ b.3.3 = false ∧ a.3.3 = false ∧ (1 : Int) ≤ b.3.1 ∧ b.3.1 ≤ (5 : Int)) ∧ ∃ n, some [D.v (Value.int IntKind.i64 kd)] = some
  [D.v (Value.int IntKind.i64 n)] ∧ ∃ n_1, some [D.v (Value.int IntKind.i64 kd)] = some [D.v (Value.int IntKind.i64 n_1)] ∧ ((bif bif n == (3 : Int)
  then decide (ordV b.3.1 b.3.4 b.3.5 a.3.4 a.3.5 < (0 : Int)) else false then true else bif n_1 == (4 : Int) then decide (ordV b.3.1 b.3.4 b.3.5 a.3.4
  a.3.5 > (0 : Int)) else false) = true → Q [R.agg [D.v (Value.int IntKind.i64 (IntKind.i64.wrap (a.1 + b.1))), D.v (Value.int IntKind.i64 (hiW (s +
  t))), D.v (Value.int IntKind.u64 (loW (s + t))), D.v (Value.int IntKind.i64 b.3.1), D.v (Value.int IntKind.i64 b.3.2), D.v (Value.bool b.3.3), D.v
  (Value.int IntKind.i64 b.3.4), D.v (Value.string b.3.5)]] []) ∧ ((bif bif n == (3 : Int) then decide (ordV b.3.1 b.3.4 b.3.5 a.3.4 a.3.5 < (0 : Int))
  else false then true else bif n_1 == (4 : Int) then decide (ordV b.3.1 b.3.4 b.3.5 a.3.4 a.3.5 > (0 : Int)) else false) = false → Q [R.agg [D.v
  (Value.int IntKind.i64 (IntKind.i64.wrap (a.1 + b.1))), D.v (Value.int IntKind.i64 (hiW (s + t))), D.v (Value.int IntKind.u64 (loW (s + t))), D.v
  (Value.int IntKind.i64 a.3.1), D.v (Value.int IntKind.i64 a.3.2), D.v (Value.bool a.3.3), D.v (Value.int IntKind.i64 a.3.4), D.v (Value.string
  a.3.5)]] [])) ∧ ∃ s t, hiW a.2 = hiW s ∧ loW a.2 = loW s ∧ hiW b.2 = hiW t ∧ loW b.2 = loW t ∧ ((-85070591730234615865843651857942052864 : Int) ≤ s ∧
  s < (85070591730234615865843651857942052864 : Int)) ∧ ((-85070591730234615865843651857942052864 : Int) ≤ t ∧ t <
  (85070591730234615865843651857942052864 : Int)) ∧ ((-85070591730234615865843651857942052864 : Int) ≤ s + t ∧ s + t <
  (85070591730234615865843651857942052864 : Int)) ∧ (a.3.1 = b.3.1 ∧ a.3.2 = b.3.2 ∧ in64 b.3.4 ∧ in64 a.3.4 ∧ b.3.3 = false ∧ a.3.3 = false ∧ (1 :
  Int) ≤ b.3.1 ∧ b.3.1 ≤ (5 : Int)) ∧ ∃ n, some [D.v (Value.int IntKind.i64 kd)] = some [D.v (Value.int IntKind.i64 n)] ∧ ∃ n_1, some [D.v (Value.int
  IntKind.i64 kd)] = some [D.v (Value.int IntKind.i64 n_1)] ∧ ((bif bif n == (3 : Int) then decide (ordV b.3.1 b.3.4 b.3.5 a.3.4 a.3.5 < (0 : Int))
  else false then true else bif n_1 == (4 : Int) then decide (ordV b.3.1 b.3.4 b.3.5 a.3.4 a.3.5 > (0 : Int)) else false) = true → Q [R.agg [D.v
  (Value.int IntKind.i64 (IntKind.i64.wrap (a.1 + b.1))), D.v (Value.int IntKind.i64 (hiW (s + t))), D.v (Value.int IntKind.u64 (loW (s + t))), D.v
  (Value.int IntKind.i64 b.3.1), D.v (Value.int IntKind.i64 b.3.2), D.v (Value.bool b.3.3), D.v (Value.int IntKind.i64 b.3.4), D.v (Value.string
  b.3.5)]] []) ∧ ((bif bif n == (3 : Int) then decide (ordV b.3.1 b.3.4 b.3.5 a.3.4 a.3.5 < (0 : Int)) else false then true else bif n_1 == (4 : Int)
  then decide (ordV b.3.1 b.3.4 b.3.5 a.3.4 a.3.5 > (0 : Int)) else false) = false → Q [R.agg [D.v (Value.int IntKind.i64 (IntKind.i64.wrap (a.1 +
  b.1))), D.v (Value.int IntKind.i64 (hiW (s + t))), D.v (Value.int IntKind.u64 (loW (s + t))), D.v (Value.int IntKind.i64 a.3.1), D.v (Value.int
  IntKind.i64 a.3.2), D.v (Value.bool a.3.3), D.v (Value.int IntKind.i64 a.3.4), D.v (Value.string a.3.5)]] [])) ∧ ∃ s t, hiW a.2 = hiW s ∧ loW a.2 =
  loW s ∧ hiW b.2 = hiW t ∧ loW b.2 = loW t ∧ ((-85070591730234615865843651857942052864 : Int) ≤ s ∧ s < (85070591730234615865843651857942052864 :
  Int)) ∧ ((-85070591730234615865843651857942052864 : Int) ≤ t ∧ t < (85070591730234615865843651857942052864 : Int)) ∧
  ((-85070591730234615865843651857942052864 : Int) ≤ s + t ∧ s + t < (85070591730234615865843651857942052864 : Int)) ∧ (a.3.1 = b.3.1 ∧ a.3.2 = b.3.2 ∧
  in64 b.3.4 ∧ in64 a.3.4 ∧ b.3.3 = false ∧ a.3.3 = false ∧ (1 : Int) ≤ b.3.1 ∧ b.3.1 ≤ (5 : Int)) ∧ ∃ n, some [D.v (Value.int IntKind.i64 kd)] = some
  [D.v (Value.int IntKind.i64 n)] ∧ ∃ n_1, some [D.v (Value.int IntKind.i64 kd)] = some [D.v (Value.int IntKind.i64 n_1)] ∧ ((bif bif n == (3 : Int)
  then decide (ordV b.3.1 b.3.4 b.3.5 a.3.4 a.3.5 < (0 : Int)) else false then true else bif n_1 == (4 : Int) then decide (ordV b.3.1 b.3.4 b.3.5 a.3.4
  a.3.5 > (0 : Int)) else false) = true → Q [R.agg [D.v (Value.int IntKind.i64 (IntKind.i64.wrap (a.1 + b.1))), D.v (Value.int IntKind.i64 (hiW (s +
  t))), D.v (Value.int IntKind.u64 (loW (s + t))), D.v (Value.int IntKind.i64 b.3.1), D.v (Value.int IntKind.i64 b.3.2), D.v (Value.bool b.3.3), D.v
  (Value.int IntKind.i64 b.3.4), D.v (Value.string b.3.5)]] []) ∧ ((bif bif n == (3 : Int) then decide (ordV b.3.1 b.3.4 b.3.5 a.3.4 a.3.5 < (0 : Int))
  else false then true else bif n_1 == (4 : Int) then decide (ordV b.3.1 b.3.4 b.3.5 a.3.4 a.3.5 > (0 : Int)) else false) = false → Q [R.agg [D.v
  (Value.int IntKind.i64 (IntKind.i64.wrap (a.1 + b.1))), D.v (Value.int IntKind.i64 (hiW (s + t))), D.v (Value.int IntKind.u64 (loW (s + t))), D.v
  (Value.int IntKind.i64 a.3.1), D.v (Value.int IntKind.i64 a.3.2), D.v (Value.bool a.3.3), D.v (Value.int IntKind.i64 a.3.4), D.v (Value.string
  a.3.5)]] [])))) := by kernel_rfl
def c_21 (a : List R) (K : List R → List (List D) → Prop) : Prop := match a with
  | [.ptr [.v (.int .i64 kd), .v (.int .i64 k), .v (.int .i64 sc), .sl lv, .v (.int .i64 lk)], .agg x, .agg y] => ∃ a b : Sm, x = a.cs ∧ y = b.cs ∧ JOk a b ∧ K [.agg (joinS kd a b).cs] []
  | _ => False
theorem c_21_ok (a : List R) (K : List R → List (List D) → Prop) (h : c_21 a K) : Ct prog 21 a K := by
  unfold c_21 at h
  split at h
  · rename_i kd k sc lv lk x y
    obtain ⟨a, b, rfl, rfl, hj, h⟩ := h
    refine Ct.gives (r := [.agg (joinS kd a b).cs]) (ct_of_vc E_ok C_b6_ok ioK_no it_ok mixed (fn := f21) (body := f21.body.getD .skip) (by kernel_rfl) (by kernel_rfl) (by kernel_rfl) (fi := fi21) (by kernel_rfl) (by kernel_rfl) ⟨_, _, rfl, rfl⟩ ?_) h
    rw [vc21]
    refine ⟨fun ha => ?_, fun ha => ⟨fun hb => ?_, fun hb => ?_⟩⟩
    · have : joinS kd a b = b := by simp [joinS, show a.c = 0 by simpa using ha]
      rw [this]; exact ⟨rfl, rfl⟩
    · have : joinS kd a b = a := by simp [joinS, show ¬ a.c = 0 by simpa using ha, show b.c = 0 by simpa using hb]
      rw [this]; exact ⟨rfl, rfl⟩
    · have ha' : ¬ a.c = 0 := by simpa using ha
      have hb' : ¬ b.c = 0 := by simpa using hb
      obtain ⟨j1, j2, j3, j4, j5, j6, j7, j8, j9, j10, j11, j12⟩ := hj ha' hb'
      have hw : IntKind.i64.wrap (a.c + b.c) = a.c + b.c := wrap_i64_of j1.1 j1.2
      rw [hw]
      have hbt : (bif bif kd == 3 then decide (ordV b.b.k b.b.n b.b.s a.b.n a.b.s < 0) else false then true else bif kd == 4 then decide (ordV b.b.k b.b.n b.b.s a.b.n a.b.s > 0) else false) = better kd b.b a.b := by
        unfold better
        cases kd == 3 <;> cases kd == 4 <;> simp
      have hjs : joinS kd a b = ⟨a.c + b.c, a.t + b.t, if better kd b.b a.b then b.b else a.b⟩ := by simp [joinS, ha', hb']
      refine ⟨⟨?_, ?_⟩, ?_⟩ <;> refine ⟨a.t, b.t, rfl, rfl, rfl, rfl, j2, j3, j4, ⟨j5, j6, j7, j8, j9, j10, j11, j12⟩, kd, rfl, kd, rfl, fun h => ?_, fun h => ?_⟩
      all_goals
        have h : better kd b.b a.b = _ := hbt.symm.trans h
        rw [hjs, h]
        exact ⟨rfl, rfl⟩
  · exact h.elim
theorem vc39 (n : Int) (Q : List R → List (List D) → Prop) : vc E_0 C_b6 noI fi39 (f39.body.getD .skip) f39.results.toList [.d (.v (.int .i64 n))] Q = (
  Q [R.agg [D.v (Value.int IntKind.i64 (2 : Int)), D.v (Value.int IntKind.i64 (0 : Int)), D.v (Value.bool false), D.v (Value.int IntKind.i64 n), D.v
  (Value.string { data := { toList := [] : Array UInt8 } : ByteArray })]] []) := by kernel_rfl
def ofInt (n : Int) : AV := ⟨2, 0, false, n, ⟨#[]⟩⟩
def noneV (k sc : Int) : AV := ⟨k, sc, true, 0, ⟨#[]⟩⟩
def zeroV : AV := ⟨0, 0, false, 0, ⟨#[]⟩⟩
def c_39 (a : List R) (K : List R → List (List D) → Prop) : Prop := match a with | [.d (.v (.int .i64 n))] => K [.agg (ofInt n).cs] [] | _ => False
theorem c_39_ok (a : List R) (K : List R → List (List D) → Prop) (h : c_39 a K) : Ct prog 39 a K := by
  unfold c_39 at h
  split at h
  · refine Ct.gives (r := _) (ct_of_vc E_ok C_b6_ok ioK_no it_ok mixed (fn := f39) (body := f39.body.getD .skip) (by kernel_rfl) (by kernel_rfl) (by kernel_rfl) (fi := fi39) (by kernel_rfl) (by kernel_rfl) ⟨_, _, rfl, rfl⟩ ?_) h
    rw [vc39]
    exact ⟨rfl, rfl⟩
  · exact h.elim
theorem vc25 (kd k sc : Int) (lv : List (List D)) (lk : Int) (Q : List R → List (List D) → Prop) : vc E_0 C_b6 noI fi25 (f25.body.getD .skip) f25.results.toList [.ptr [.v (.int .i64 kd), .v (.int .i64 k), .v (.int .i64 sc), .sl lv, .v (.int .i64 lk)]] Q = (
  ∃ n, some [D.v (Value.int IntKind.i64 kd)] = some [D.v (Value.int IntKind.i64 n)] ∧ Q [R.d (D.v (Value.bool (bif false then true else n == (0 :
  Int))))] []) := by kernel_rfl
def c_25 (a : List R) (K : List R → List (List D) → Prop) : Prop := match a with
  | [.ptr [.v (.int .i64 kd), .v (.int .i64 k), .v (.int .i64 sc), .sl lv, .v (.int .i64 lk)]] => K [.d (.v (.bool (kd == 0)))] []
  | _ => False
theorem c_25_ok (a : List R) (K : List R → List (List D) → Prop) (h : c_25 a K) : Ct prog 25 a K := by
  unfold c_25 at h
  split at h
  · rename_i kd k sc lv lk
    refine Ct.gives (r := [.d (.v (.bool (kd == 0)))]) (ct_of_vc E_ok C_b6_ok ioK_no it_ok mixed (fn := f25) (body := f25.body.getD .skip) (by kernel_rfl) (by kernel_rfl) (by kernel_rfl) (fi := fi25) (by kernel_rfl) (by kernel_rfl) ⟨_, _, rfl, rfl⟩ ?_) h
    rw [vc25]
    exact ⟨kd, rfl, rfl, rfl⟩
  · exact h.elim
def C_b7 : CallT := addC (addC (addC C_b6 21 c_21) 39 c_39) 25 c_25
theorem C_b7_ok : CallsOk prog C_b7 := addC_ok (addC_ok (addC_ok C_b6_ok c_21_ok) c_39_ok) c_25_ok
/-- Functions that only read what they are handed pointers to. -/
def E_1 : Env := { E_0 with bw := [21, 25, 12, 8, 16, 33] }
theorem E_1_ok : EnvOk prog E_1 := ⟨E_ok.te⟩
theorem it_1 : ItOk prog E_1 := fun _ _ _ h => h.elim
theorem vc27 (kd k sc : Int) (s : Sm) (Q : List R → List (List D) → Prop) : vc E_0 C_b7 noI fi27 (f27.body.getD .skip) f27.results.toList [.d (.v (.int .i64 kd)), .agg [.v (.int .i64 k), .v (.int .i64 sc)], .agg s.cs] Q = (
  ((kd == (1 : Int)) = true → Q [R.agg [D.v (Value.int IntKind.i64 (2 : Int)), D.v (Value.int IntKind.i64 (0 : Int)), D.v (Value.bool false), D.v
  (Value.int IntKind.i64 s.1), D.v (Value.string { data := { toList := [] : Array UInt8 } : ByteArray })], R.d (D.v (Value.int IntKind.i64 (0 : Int)))]
  []) ∧ ((kd == (1 : Int)) = false → ((s.1 == (0 : Int)) = true → Q [R.agg [D.v (Value.int IntKind.i64 k), D.v (Value.int IntKind.i64 sc), D.v
  (Value.bool true), D.v (Value.int IntKind.i64 (0 : Int)), D.v (Value.string { data := { toList := [] : Array UInt8 } : ByteArray })], R.d (D.v
  (Value.int IntKind.i64 (0 : Int)))] []) ∧ ((s.1 == (0 : Int)) = false → ((kd != (2 : Int)) = true → Q [R.agg [D.v (Value.int IntKind.i64 s.3.1), D.v
  (Value.int IntKind.i64 s.3.2), D.v (Value.bool s.3.3), D.v (Value.int IntKind.i64 s.3.4), D.v (Value.string s.3.5)], R.d (D.v (Value.int IntKind.i64
  (0 : Int)))] []) ∧ ((kd != (2 : Int)) = false → ∃ t, hiW s.2 = hiW t ∧ loW s.2 = loW t ∧ ((bif (if in64 t then (0 : Int) else (10 : Int)) != (0 :
  Int) then true else s18_0 k sc false (if in64 t then t else (0 : Int)) { data := { toList := [] : Array UInt8 } : ByteArray } != (0 : Int)) = true →
  Q [R.agg [D.v (Value.int IntKind.i64 (0 : Int)), D.v (Value.int IntKind.i64 (0 : Int)), D.v (Value.bool false), D.v (Value.int IntKind.i64 (0 :
  Int)), D.v (Value.string { data := { toList := [] : Array UInt8 } : ByteArray })], R.d (D.v (Value.int IntKind.i64 (141 : Int)))] []) ∧ ((bif (if
  in64 t then (0 : Int) else (10 : Int)) != (0 : Int) then true else s18_0 k sc false (if in64 t then t else (0 : Int)) { data := { toList := [] : Array UInt8 } : ByteArray }
  != (0 : Int)) = false → Q [R.agg [D.v (Value.int IntKind.i64 k), D.v (Value.int IntKind.i64 sc), D.v (Value.bool false), D.v (Value.int IntKind.i64
  (if in64 t then t else (0 : Int))), D.v (Value.string { data := { toList := [] : Array UInt8 } : ByteArray })], R.d (D.v (Value.int IntKind.i64 (0 :
  Int)))] []))))) := by kernel_rfl
/-- What a stretch comes to. -/
def outV (kd k sc : Int) (s : Sm) : AV := if kd = 1 then ofInt s.c else if s.c = 0 then noneV k sc else if kd ≠ 2 then s.b else if in64 s.t ∧ s18_0 k sc false s.t ⟨#[]⟩ = 0 then ⟨k, sc, false, s.t, ⟨#[]⟩⟩ else zeroV
def outE (kd k sc : Int) (s : Sm) : Int := if kd = 1 then 0 else if s.c = 0 then 0 else if kd ≠ 2 then 0 else if in64 s.t ∧ s18_0 k sc false s.t ⟨#[]⟩ = 0 then 0 else 141
def c_27 (a : List R) (K : List R → List (List D) → Prop) : Prop := match a with
  | [.d (.v (.int .i64 kd)), .agg [.v (.int .i64 k), .v (.int .i64 sc)], .agg x] => ∃ s : Sm, x = s.cs ∧ K [.agg (outV kd k sc s).cs, .d (.v (.int .i64 (outE kd k sc s)))] []
  | _ => False
theorem c_27_ok (a : List R) (K : List R → List (List D) → Prop) (h : c_27 a K) : Ct prog 27 a K := by
  unfold c_27 at h
  split at h
  · rename_i kd k sc x
    obtain ⟨s, rfl, h⟩ := h
    refine Ct.gives (r := [.agg (outV kd k sc s).cs, .d (.v (.int .i64 (outE kd k sc s)))]) (ct_of_vc E_ok C_b7_ok ioK_no it_ok mixed (fn := f27) (body := f27.body.getD .skip) (by kernel_rfl) (by kernel_rfl) (by kernel_rfl) (fi := fi27) (by kernel_rfl) (by kernel_rfl) ⟨_, _, rfl, rfl⟩ ?_) h
    rw [vc27]
    refine ⟨fun h => ?_, fun h => ⟨fun h2 => ?_, fun h2 => ⟨fun h3 => ?_, fun h3 => ⟨s.t, rfl, rfl, fun h4 => ?_, fun h4 => ?_⟩⟩⟩⟩
    · have h : kd = 1 := by simpa using h
      simp only [outV, outE, h, if_true]; exact ⟨rfl, rfl⟩
    · have h : ¬ kd = 1 := by simpa using h
      have h2 : s.c = 0 := by simpa using h2
      simp only [outV, outE, h, h2, if_true, if_false]; exact ⟨rfl, rfl⟩
    · have h : ¬ kd = 1 := by simpa using h
      have h2 : ¬ s.c = 0 := by simpa using h2
      have h3 : kd ≠ 2 := by simpa using h3
      simp only [outV, outE, h, h2, if_false]
      rw [if_pos h3, if_pos h3]; exact ⟨rfl, rfl⟩
    · have h : ¬ kd = 1 := by simpa using h
      have h2 : ¬ s.c = 0 := by simpa using h2
      have h3 : ¬ kd ≠ 2 := by simpa using h3
      have h4 : ¬ (in64 s.t ∧ s18_0 k sc false s.t ⟨#[]⟩ = 0) := by
        rintro ⟨hi, hc⟩
        rw [if_pos hi, if_pos hi] at h4
        have e : s18_0 k sc false s.t { data := { toList := [] } } = 0 := hc
        rw [e] at h4
        exact absurd h4 (by simp)
      simp only [outV, outE, h, h2, if_false]
      rw [if_neg h3, if_neg h4, if_neg h3, if_neg h4]; exact ⟨rfl, rfl⟩
    · have h : ¬ kd = 1 := by simpa using h
      have h2 : ¬ s.c = 0 := by simpa using h2
      have h3 : ¬ kd ≠ 2 := by simpa using h3
      have hi : in64 s.t := by
        apply Classical.byContradiction
        intro hn
        rw [if_neg hn, if_neg hn] at h4
        exact absurd h4 (by simp)
      have hc : s18_0 k sc false s.t ⟨#[]⟩ = 0 := by
        rw [if_pos hi, if_pos hi] at h4
        have e : (s18_0 k sc false s.t ⟨#[]⟩ != 0) = false := h4
        simpa using e
      simp only [outV, outE, h, h2, if_false]
      rw [if_neg h3, if_pos ⟨hi, hc⟩, if_neg h3, if_pos ⟨hi, hc⟩, if_pos hi]; exact ⟨rfl, rfl⟩
  · exact h.elim
theorem vc12 (kd k sc : Int) (lv : List (List D)) (lk : Int) (Q : List R → List (List D) → Prop) : vc E_1 C_b7 noI fi12 (f12.body.getD .skip) f12.results.toList [.ptr [.v (.int .i64 kd), .v (.int .i64 k), .v (.int .i64 sc), .sl lv, .v (.int .i64 lk)]] Q = (
  ((kd == (0 : Int)) = true → Q [R.d (D.v (Value.int IntKind.i64 (0 : Int)))] []) ∧ ((kd == (0 : Int)) = false → ∃ es, some [D.sl lv] = some [D.sl es] ∧
  ∃ es_1, D.sl es = D.sl es_1 ∧ ((0 : Int) ≤ (0 : Int) ∧ (0 : Int) < ↑es_1.length) ∧ ∃ cells, es_1[Int.toNat (0 : Int)]? = some cells ∧ cells.length =
  (1 : Nat) ∧ ∃ es, cut ((0 : Nat)) ((1 : Nat)) cells = some [D.sl es] ∧ ∃ es_2, D.sl es = D.sl es_2 ∧ Q [R.d (D.v (Value.int IntKind.i64
  ↑es_2.length))] [])) := by kernel_rfl
def c_12 (a : List R) (K : List R → List (List D) → Prop) : Prop := match a with
  | [.ptr [.v (.int .i64 kd), .v (.int .i64 k), .v (.int .i64 sc), .sl lv, .v (.int .i64 lk)]] => ∃ l0, kd ≠ 0 ∧ lv[0]? = some [.sl l0] ∧ K [.d (.v (.int .i64 (l0.length : Int)))] []
  | _ => False
theorem c_12_ok (a : List R) (K : List R → List (List D) → Prop) (h : c_12 a K) : Ct prog 12 a K := by
  unfold c_12 at h
  split at h
  · rename_i kd k sc lv lk
    obtain ⟨l0, h1, h2, h⟩ := h
    refine Ct.gives (r := [.d (.v (.int .i64 (l0.length : Int)))]) (ct_of_vc E_1_ok C_b7_ok ioK_no it_1 mixed (fn := f12) (body := f12.body.getD .skip) (by kernel_rfl) (by kernel_rfl) (by kernel_rfl) (fi := fi12) (by kernel_rfl) (by kernel_rfl) ⟨_, _, rfl, rfl⟩ ?_) h
    rw [vc12]
    have hlt := (List.getElem?_eq_some_iff.1 h2).1
    exact ⟨fun h => (h1 (by simpa using h)).elim, fun _ => ⟨lv, rfl, lv, rfl, ⟨by decide, by omega⟩, [.sl l0], h2, rfl, l0, rfl, l0, rfl, rfl, rfl⟩⟩
  · exact h.elim
theorem vc8 (kd k sc : Int) (lv : List (List D)) (lk : Int) (Q : List R → List (List D) → Prop) : vc E_1 C_b7 noI fi8 (f8.body.getD .skip) f8.results.toList [.ptr [.v (.int .i64 kd), .v (.int .i64 k), .v (.int .i64 sc), .sl lv, .v (.int .i64 lk)]] Q = (
  ((kd == (0 : Int)) = true → Q [R.d (D.v (Value.int IntKind.i64 (0 : Int)))] []) ∧ ((kd == (0 : Int)) = false → ∃ n, some [D.v (Value.int IntKind.i64
  lk)] = some [D.v (Value.int IntKind.i64 n)] ∧ Q [R.d (D.v (Value.int IntKind.i64 n))] [])) := by kernel_rfl
def c_8 (a : List R) (K : List R → List (List D) → Prop) : Prop := match a with
  | [.ptr [.v (.int .i64 kd), .v (.int .i64 k), .v (.int .i64 sc), .sl lv, .v (.int .i64 lk)]] => kd ≠ 0 ∧ K [.d (.v (.int .i64 lk))] []
  | _ => False
theorem c_8_ok (a : List R) (K : List R → List (List D) → Prop) (h : c_8 a K) : Ct prog 8 a K := by
  unfold c_8 at h
  split at h
  · rename_i kd k sc lv lk
    obtain ⟨h1, h⟩ := h
    refine Ct.gives (r := [.d (.v (.int .i64 lk))]) (ct_of_vc E_1_ok C_b7_ok ioK_no it_1 mixed (fn := f8) (body := f8.body.getD .skip) (by kernel_rfl) (by kernel_rfl) (by kernel_rfl) (fi := fi8) (by kernel_rfl) (by kernel_rfl) ⟨_, _, rfl, rfl⟩ ?_) h
    rw [vc8]
    exact ⟨fun h => (h1 (by simpa using h)).elim, fun _ => ⟨lk, rfl, rfl, rfl⟩⟩
  · exact h.elim
def C_b8 : CallT := addC (addC (addC C_b7 27 c_27) 12 c_12) 8 c_8
theorem C_b8_ok : CallsOk prog C_b8 := addC_ok (addC_ok (addC_ok C_b7_ok c_27_ok) c_12_ok) c_8_ok
end Go.Proofs.Try
