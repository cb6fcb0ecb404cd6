/- A part of the proof: contracts of functions, by a verified generator of conditions; no condition of its own. -/
import Derived.Test.YtlacgjmbabghaaaM13
namespace Go.Proofs.Try
open Go Go.Dm
set_option maxRecDepth 100000
/-- The code of the first fault, 0 where there is none. -/
def ntErr (kd k sc : Int) (vs : List AV) : Int := if argBad kd k sc = true then 1 else if vs.any (badV k sc) = true then 21 else if 65536 < vs.length then 3 else 0
theorem ntErr_ok {kd k sc : Int} {vs : List AV} (h : ntErr kd k sc vs = 0) : argBad kd k sc = false ∧ vs.any (badV k sc) = false ∧ vs.length ≤ 65536 := by
  unfold ntErr at h
  by_cases g1 : argBad kd k sc = true
  · rw [if_pos g1] at h; cases h
  rw [if_neg g1] at h
  by_cases g2 : vs.any (badV k sc) = true
  · rw [if_pos g2] at h; cases h
  rw [if_neg g2] at h
  by_cases g3 : 65536 < vs.length
  · rw [if_pos g3] at h; cases h
  exact ⟨by simpa using g1, by simpa using g2, by omega⟩
def c_5 (a : List R) (K : List R → List (List D) → Prop) : Prop := match a with
  | [.d (.v (.int .i64 kd)), .agg [.v (.int .i64 k), .v (.int .i64 sc)], .d (.sl es)] =>
    ∃ vs : List AV, es = vs.map AV.cs ∧ vs.length < 4611686018427387904 ∧ (∀ v ∈ vs, in64 v.n) ∧
      (ntErr kd k sc vs ≠ 0 → K [.d (.v (.pointer none)), .d (.v (.int .i64 (ntErr kd k sc vs)))] []) ∧
      (ntErr kd k sc vs = 0 → ∀ lvls, TreeOk kd k sc vs lvls → lvls.length ≤ 18 → K [.box [.v (.int .i64 kd), .v (.int .i64 k), .v (.int .i64 sc), .sl (lvD lvls), .v (.int .i64 0)], .d (.v (.int .i64 0))] [])
  | _ => False
theorem c_5_ok (a : List R) (K : List R → List (List D) → Prop) (h : c_5 a K) : Ct prog 5 a K := by
  unfold c_5 at h
  split at h
  · obtain ⟨vs, rfl, h1, h2, h3, h4⟩ := h
    refine (ct5 _ _ _ vs h1 h2).mono fun res fin hq => ?_
    unfold ntErr at h3 h4
    obtain ⟨rfl, ⟨g1, rfl⟩ | ⟨g1, g2, rfl⟩ | ⟨g1, g2, g3, rfl⟩ | ⟨g1, g2, g3, lvls, g4, g5, rfl⟩⟩ := hq
    · rw [if_pos g1] at h3; exact h3 (by decide)
    · rw [if_neg (by rw [g1]; decide), if_pos g2] at h3; exact h3 (by decide)
    · rw [if_neg (by rw [g1]; decide), if_neg (by rw [g2]; decide), if_pos g3] at h3; exact h3 (by decide)
    · rw [if_neg (by rw [g1]; decide), if_neg (by rw [g2]; decide), if_neg (by omega)] at h4; exact h4 rfl lvls g4 g5
  · exact h.elim
def c_6 (a : List R) (K : List R → List (List D) → Prop) : Prop := match a with
  | [.d (.v (.int .i64 kd)), .agg [.v (.int .i64 k), .v (.int .i64 sc)], .d (.sl es)] =>
    ∃ vs : List AV, es = vs.map AV.cs ∧ vs.length < 4611686018427387904 ∧
      (ntErr kd k sc vs ≠ 0 → K [.d (.v (.pointer none)), .d (.v (.int .i64 (ntErr kd k sc vs)))] []) ∧
      (ntErr kd k sc vs = 0 → K [.box [.v (.int .i64 kd), .v (.int .i64 k), .v (.int .i64 sc), .sl (vs.map AV.cs)], .d (.v (.int .i64 0))] [])
  | _ => False
theorem c_6_ok (a : List R) (K : List R → List (List D) → Prop) (h : c_6 a K) : Ct prog 6 a K := by
  unfold c_6 at h
  split at h
  · rename_i kd k sc es
    obtain ⟨vs, rfl, h1, h3, h4⟩ := h
    refine (ct6 _ _ _ vs h1).mono fun res fin hq => ?_
    obtain ⟨e1, e2⟩ := hq
    subst e1; subst e2
    unfold rtR
    unfold ntErr at h3 h4
    by_cases g1 : argBad kd k sc = true
    · rw [if_pos g1] at h3; rw [if_pos g1]; exact h3 (by decide)
    rw [if_neg g1] at h3 h4 ⊢
    by_cases g2 : vs.any (badV k sc) = true
    · rw [if_pos g2] at h3; rw [if_pos g2]; exact h3 (by decide)
    rw [if_neg g2] at h3 h4 ⊢
    by_cases g3 : 65536 < vs.length
    · rw [if_pos g3] at h3; rw [if_pos g3]; exact h3 (by decide)
    · rw [if_neg g3] at h4; rw [if_neg g3]; exact h4 rfl
  · exact h.elim
/-- A stretch that may be. -/
def okS (n : Nat) (fr to : Int) : Prop := 0 ≤ fr ∧ to < n ∧ fr ≤ to + 1
def c_9x (a : List R) (K : List R → List (List D) → Prop) : Prop := match a with
  | [.box [.v (.int .i64 kd), .v (.int .i64 k), .v (.int .i64 sc), .sl lv, .v (.int .i64 lk)], .d (.v (.int .i64 fr)), .d (.v (.int .i64 to))] =>
    ∃ vs lvls, lv = lvD lvls ∧ TreeOk kd k sc vs lvls ∧ kd ≠ 0 ∧ lvls.length ≤ 64 ∧ (0 ≤ lk ∧ lk ≤ 4611686018427387904) ∧ in64 fr ∧ in64 to ∧
      (¬ okS vs.length fr to → K [.agg zeroV.cs, .d (.v (.int .i64 240))] [[.v (.int .i64 kd), .v (.int .i64 k), .v (.int .i64 sc), .sl (lvD lvls), .v (.int .i64 lk)]]) ∧
      (okS vs.length fr to → ∀ s lk', Rep kd k sc s (seg vs fr.toNat (to + 1).toNat) → lk ≤ lk' → lk' ≤ lk + 2 * lvls.length → K [.agg (outV kd k sc s).cs, .d (.v (.int .i64 (outE kd k sc s)))] [[.v (.int .i64 kd), .v (.int .i64 k), .v (.int .i64 sc), .sl (lvD lvls), .v (.int .i64 lk')]])
  | _ => False
theorem c_9x_ok (a : List R) (K : List R → List (List D) → Prop) (h : c_9x a K) : Ct prog 9 a K := by
  unfold c_9x at h
  split at h
  · obtain ⟨vs, lvls, rfl, h1, h2, h3, h4, h5, h6, h7, h8⟩ := h
    refine (ct9 _ _ _ vs lvls _ _ _ h1 h2 h3 h4.1 h4.2 h5 h6).mono fun res fin hq => ?_
    obtain ⟨g, rfl, rfl⟩ | ⟨g, s, lk', g1, g2, g3, rfl, rfl⟩ := hq
    · exact h7 g
    · exact h8 g s lk' g1 g2 g3
  · exact h.elim
def c_10 (a : List R) (K : List R → List (List D) → Prop) : Prop := match a with
  | [.ptr [.v (.int .i64 kd), .v (.int .i64 k), .v (.int .i64 sc), .sl es], .d (.v (.int .i64 fr)), .d (.v (.int .i64 to))] =>
    ∃ vs : List AV, es = vs.map AV.cs ∧ vs.length ≤ 65536 ∧ (∀ v ∈ vs, v.nul = false → goodV k sc v) ∧ in64 fr ∧ in64 to ∧
      (¬ okS vs.length fr to → K [.agg zeroV.cs, .d (.v (.int .i64 240))] []) ∧
      (okS vs.length fr to → ∀ s, Rep kd k sc s (seg vs fr.toNat (to + 1).toNat) →
        (refB kd k sc (seg vs fr.toNat (to + 1).toNat) = true → K [.agg (refV kd k sc s (seg vs fr.toNat (to + 1).toNat)).cs, .d (.v (.int .i64 0))] []) ∧
        (refB kd k sc (seg vs fr.toNat (to + 1).toNat) = false → K [.agg zeroV.cs, .d (.v (.int .i64 141))] []))
  | _ => False
theorem c_10_ok (a : List R) (K : List R → List (List D) → Prop) (h : c_10 a K) : Ct prog 10 a K := by
  unfold c_10 at h
  split at h
  · rename_i kd k sc es fr to
    obtain ⟨vs, rfl, h1, h2, h3, h4, h5, h6⟩ := h
    refine (ct10 _ _ _ vs _ _ h1 h2 h3 h4).mono fun res fin hq => ?_
    obtain ⟨rfl, ⟨g, rfl⟩ | ⟨g, s, g1, rfl⟩⟩ := hq
    · exact h5 g
    · by_cases g2 : refB kd k sc (seg vs fr.toNat (to + 1).toNat) = true
      · rw [if_pos g2]; exact (h6 g s g1).1 g2
      · rw [if_neg g2]; exact (h6 g s g1).2 (by simpa using g2)
  · exact h.elim
def C_b19 : CallT := addC (addC (addC (addC (addC C_b18 11 c_30) 5 c_5) 6 c_6) 9 c_9x) 10 c_10
theorem C_b19_ok : CallsOk prog C_b19 := addC_ok (addC_ok (addC_ok (addC_ok (addC_ok C_b18_ok c_11_ok) c_5_ok) c_6_ok) c_9x_ok) c_10_ok
def E_3 : Env := { E_0 with bw := [8, 12, 10] }
theorem E_3_ok : EnvOk prog E_3 := ⟨E_ok.te⟩
theorem it_3 : ItOk prog E_3 := fun _ _ _ h => h.elim
theorem vc7  (Q : List R → List (List D) → Prop) : vc E_3 C_b19 noI fi7 (f7.body.getD .skip) f7.results.toList [] Q = (
  ∃ vs, [[D.v (Value.int IntKind.i64 (2 : Int)), D.v (Value.int IntKind.i64 (0 : Int)), D.v (Value.bool false), D.v (Value.int IntKind.i64 (1 : Int)),
  D.v (Value.string { data := { toList := [] : Array UInt8 } : ByteArray })], [D.v (Value.int IntKind.i64 (2 : Int)), D.v (Value.int IntKind.i64 (0 :
  Int)), D.v (Value.bool false), D.v (Value.int IntKind.i64 (2 : Int)), D.v (Value.string { data := { toList := [] : Array UInt8 } : ByteArray })],
  [D.v (Value.int IntKind.i64 (2 : Int)), D.v (Value.int IntKind.i64 (0 : Int)), D.v (Value.bool true), D.v (Value.int IntKind.i64 (0 : Int)), D.v
  (Value.string { data := { toList := [] : Array UInt8 } : ByteArray })], [D.v (Value.int IntKind.i64 (2 : Int)), D.v (Value.int IntKind.i64 (0 :
  Int)), D.v (Value.bool false), D.v (Value.int IntKind.i64 (4 : Int)), D.v (Value.string { data := { toList := [] : Array UInt8 } : ByteArray })]] =
  List.map AV.cs vs ∧ vs.length < (4611686018427387904 : Nat) ∧ (∀ (v : AV), v ∈ vs → in64 v.4) ∧ (ntErr (2 : Int) (2 : Int) (0 : Int) vs ≠ (0 : Int) →
  ((bif true then true else ntErr (2 : Int) (2 : Int) (0 : Int) vs != (0 : Int)) = true → Q [R.d (D.v (Value.bool false))] []) ∧ ((bif true then true
  else ntErr (2 : Int) (2 : Int) (0 : Int) vs != (0 : Int)) = false → False)) ∧ (ntErr (2 : Int) (2 : Int) (0 : Int) vs = (0 : Int) → ∀ (lvls : List
  (List Sm)), TreeOk (2 : Int) (2 : Int) (0 : Int) vs lvls → lvls.length ≤ (18 : Nat) → ((bif false then true else (0 : Int) != (0 : Int)) = true → Q
  [R.d (D.v (Value.bool false))] []) ∧ ((bif false then true else (0 : Int) != (0 : Int)) = false → ∃ vs lvls_1, lvD lvls = lvD lvls_1 ∧ TreeOk (2 :
  Int) (2 : Int) (0 : Int) vs lvls_1 ∧ (2 : Int) ≠ (0 : Int) ∧ lvls_1.length ≤ (64 : Nat) ∧ ((0 : Int) ≤ (0 : Int) ∧ (0 : Int) ≤ (4611686018427387904 :
  Int)) ∧ in64 (0 : Int) ∧ in64 (3 : Int) ∧ (¬okS vs.length (0 : Int) (3 : Int) → ∃ vs lvls, lvD lvls_1 = lvD lvls ∧ TreeOk (2 : Int) (2 : Int) (0 :
  Int) vs lvls ∧ (2 : Int) ≠ (0 : Int) ∧ lvls.length ≤ (64 : Nat) ∧ ((0 : Int) ≤ (0 : Int) ∧ (0 : Int) ≤ (4611686018427387904 : Int)) ∧ in64 (2 : Int)
  ∧ in64 (2 : Int) ∧ (¬okS vs.length (2 : Int) (2 : Int) → ∃ l0, (2 : Int) ≠ (0 : Int) ∧ (lvD lvls)[(0 : Nat)]? = some [D.sl l0] ∧ Q [R.d (D.v
  (Value.bool (bif bif bif bif (0 : Int) == (2 : Int) && ((0 : Int) == (0 : Int) && (false == false && ((0 : Int) == (7 : Int) && ({ data := { toList := [] : Array UInt8 } : ByteArray }
  == { data := { toList := [] : Array UInt8 } : ByteArray } && true)))) then (240 : Int) == (0 : Int) else false then (0 : Int) == (2 : Int) && ((0 :
  Int) == (0 : Int) && (false == true && ((0 : Int) == (0 : Int) && ({ data := { toList := [] : Array UInt8 } : ByteArray } == { data := { toList := [] : Array UInt8 } : ByteArray }
  && true)))) else false then (240 : Int) == (0 : Int) else false then ↑l0.length == (4 : Int) else false)))] []) ∧ (okS vs.length (2 : Int) (2 : Int)
  → ∀ (s : Sm) (lk' : Int), Rep (2 : Int) (2 : Int) (0 : Int) s (seg vs (Int.toNat (2 : Int)) ((2 : Int) + (1 : Int)).toNat) → (0 : Int) ≤ lk' → lk' ≤
  (0 : Int) + (2 : Int) * ↑lvls.length → ∃ l0, (2 : Int) ≠ (0 : Int) ∧ (lvD lvls)[(0 : Nat)]? = some [D.sl l0] ∧ Q [R.d (D.v (Value.bool (bif bif bif
  bif (0 : Int) == (2 : Int) && ((0 : Int) == (0 : Int) && (false == false && ((0 : Int) == (7 : Int) && ({ data := { toList := [] : Array UInt8 } : ByteArray }
  == { data := { toList := [] : Array UInt8 } : ByteArray } && true)))) then (240 : Int) == (0 : Int) else false then (outV (2 : Int) (2 : Int) (0 :
  Int) s).1 == (2 : Int) && ((outV (2 : Int) (2 : Int) (0 : Int) s).2 == (0 : Int) && ((outV (2 : Int) (2 : Int) (0 : Int) s).3 == true && ((outV (2 :
  Int) (2 : Int) (0 : Int) s).4 == (0 : Int) && ((outV (2 : Int) (2 : Int) (0 : Int) s).5 == { data := { toList := [] : Array UInt8 } : ByteArray } &&
  true)))) else false then outE (2 : Int) (2 : Int) (0 : Int) s == (0 : Int) else false then ↑l0.length == (4 : Int) else false)))] [])) ∧ (okS
  vs.length (0 : Int) (3 : Int) → ∀ (s : Sm) (lk' : Int), Rep (2 : Int) (2 : Int) (0 : Int) s (seg vs (Int.toNat (0 : Int)) ((3 : Int) + (1 :
  Int)).toNat) → (0 : Int) ≤ lk' → lk' ≤ (0 : Int) + (2 : Int) * ↑lvls_1.length → ∃ vs lvls, lvD lvls_1 = lvD lvls ∧ TreeOk (2 : Int) (2 : Int) (0 :
  Int) vs lvls ∧ (2 : Int) ≠ (0 : Int) ∧ lvls.length ≤ (64 : Nat) ∧ ((0 : Int) ≤ lk' ∧ lk' ≤ (4611686018427387904 : Int)) ∧ in64 (2 : Int) ∧ in64 (2 :
  Int) ∧ (¬okS vs.length (2 : Int) (2 : Int) → ∃ l0, (2 : Int) ≠ (0 : Int) ∧ (lvD lvls)[(0 : Nat)]? = some [D.sl l0] ∧ Q [R.d (D.v (Value.bool (bif bif
  bif bif (outV (2 : Int) (2 : Int) (0 : Int) s).1 == (2 : Int) && ((outV (2 : Int) (2 : Int) (0 : Int) s).2 == (0 : Int) && ((outV (2 : Int) (2 : Int)
  (0 : Int) s).3 == false && ((outV (2 : Int) (2 : Int) (0 : Int) s).4 == (7 : Int) && ((outV (2 : Int) (2 : Int) (0 : Int) s).5 == { data := { toList := [] : Array UInt8 } : ByteArray }
  && true)))) then outE (2 : Int) (2 : Int) (0 : Int) s == (0 : Int) else false then (0 : Int) == (2 : Int) && ((0 : Int) == (0 : Int) && (false ==
  true && ((0 : Int) == (0 : Int) && ({ data := { toList := [] : Array UInt8 } : ByteArray } == { data := { toList := [] : Array UInt8 } : ByteArray }
  && true)))) else false then (240 : Int) == (0 : Int) else false then ↑l0.length == (4 : Int) else false)))] []) ∧ (okS vs.length (2 : Int) (2 : Int)
  → ∀ (s_1 : Sm) (lk'_1 : Int), Rep (2 : Int) (2 : Int) (0 : Int) s_1 (seg vs (Int.toNat (2 : Int)) ((2 : Int) + (1 : Int)).toNat) → lk' ≤ lk'_1 →
  lk'_1 ≤ lk' + (2 : Int) * ↑lvls.length → ∃ l0, (2 : Int) ≠ (0 : Int) ∧ (lvD lvls)[(0 : Nat)]? = some [D.sl l0] ∧ Q [R.d (D.v (Value.bool (bif bif bif
  bif (outV (2 : Int) (2 : Int) (0 : Int) s).1 == (2 : Int) && ((outV (2 : Int) (2 : Int) (0 : Int) s).2 == (0 : Int) && ((outV (2 : Int) (2 : Int) (0
  : Int) s).3 == false && ((outV (2 : Int) (2 : Int) (0 : Int) s).4 == (7 : Int) && ((outV (2 : Int) (2 : Int) (0 : Int) s).5 == { data := { toList := [] : Array UInt8 } : ByteArray }
  && true)))) then outE (2 : Int) (2 : Int) (0 : Int) s == (0 : Int) else false then (outV (2 : Int) (2 : Int) (0 : Int) s_1).1 == (2 : Int) && ((outV
  (2 : Int) (2 : Int) (0 : Int) s_1).2 == (0 : Int) && ((outV (2 : Int) (2 : Int) (0 : Int) s_1).3 == true && ((outV (2 : Int) (2 : Int) (0 : Int)
  s_1).4 == (0 : Int) && ((outV (2 : Int) (2 : Int) (0 : Int) s_1).5 == { data := { toList := [] : Array UInt8 } : ByteArray } && true)))) else false
  then outE (2 : Int) (2 : Int) (0 : Int) s_1 == (0 : Int) else false then ↑l0.length == (4 : Int) else false)))] []))))) := by kernel_rfl
def vs7 : List AV := [ofInt 1, ofInt 2, noneV 2 0, ofInt 4]
theorem in64_ofInt {n : Int} (h : in64 n) : in64 (ofInt n).n := h
theorem ct7 : Ct prog 7 [] (gives [.d (.v (.bool true))]) :=
  ct_of_vc E_3_ok C_b19_ok ioK_no it_3 mixed (fn := f7) (body := f7.body.getD .skip) (by kernel_rfl) (by kernel_rfl) (by kernel_rfl) (fi := fi7) (by kernel_rfl) (by kernel_rfl) ⟨_, _, rfl, rfl⟩ (by
    rw [vc7]
    have hb : argBad 2 2 0 = false := by kernel_rfl
    have hv : vs7.any (badV 2 0) = false := by kernel_rfl
    have he : ntErr 2 2 0 vs7 = 0 := by unfold ntErr; rw [if_neg (by rw [hb]; decide), if_neg (by rw [hv]; decide), if_neg (by decide)]
    refine ⟨vs7, rfl, by decide, ?_, fun h => (h he).elim, fun _ lvls hT hl => ⟨fun h => (by cases h), fun _ => ⟨vs7, lvls, rfl, hT, by decide, by omega, ⟨by decide, by decide⟩, by decide, by decide, fun h => ?_, fun _ s lk' hs h1 h2 => ⟨vs7, lvls, rfl, hT, by decide, by omega, ⟨by omega, by omega⟩, by decide, by decide, fun h => ?_, fun _ s' lk2 hs' h3 h4 => ?_⟩⟩⟩⟩
    · intro v hv; simp [vs7] at hv; rcases hv with rfl | rfl | rfl | rfl <;> decide
    · exact absurd (by unfold okS; decide) h
    · exact absurd (by unfold okS; decide) h
    · obtain ⟨l, h5, h6⟩ := hT.l0
      refine ⟨l.map Sm.cs, by decide, ?_, ?_⟩
      · rw [lvD_get h5]
      · have e1 : s.c = 3 := by rw [hs.ec]; rfl
        have e2 : s.t = 7 := by rw [hs.et]; rfl
        have e3 : s'.c = 0 := by rw [hs'.ec]; rfl
        have e4 : s18_0 2 0 false 7 ⟨#[]⟩ = 0 := by kernel_rfl
        have e5 : outV 2 2 0 s = ⟨2, 0, false, 7, ⟨#[]⟩⟩ := by
          unfold outV
          rw [if_neg (by decide), if_neg (by rw [e1]; decide), if_neg (by decide), e2, if_pos ⟨by decide, e4⟩]
        have e6 : outE 2 2 0 s = 0 := by
          unfold outE
          rw [if_neg (by decide), if_neg (by rw [e1]; decide), if_neg (by decide), e2, if_pos ⟨by decide, e4⟩]
        have e7 : outV 2 2 0 s' = noneV 2 0 := by
          unfold outV
          rw [if_neg (by decide), if_pos e3]
        have e8 : outE 2 2 0 s' = 0 := by
          unfold outE
          rw [if_neg (by decide), if_pos e3]
        rw [e5, e6, e7, e8]
        have e9 : ((l.map Sm.cs).length : Int) = 4 := by rw [List.length_map, h6]; rfl
        rw [e9]
        exact ⟨rfl, rfl⟩)
end Go.Proofs.Try
