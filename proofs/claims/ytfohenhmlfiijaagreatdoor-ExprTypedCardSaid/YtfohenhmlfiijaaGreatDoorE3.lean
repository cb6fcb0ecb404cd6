/- A part of the proof: contracts of functions, by a verified generator of conditions; no condition of its own. -/
import Derived.Test.YtfohenhmlfiijaaGreatDoorE2
import Derived.Test.YtfohenhmlfiijaaGreatDoorVc
import Derived.Shelf.Strings.MapGrows
namespace Go.Proofs.Tryz
open Go Go.Dm Go.Ex
set_option maxRecDepth 100000
variable {gl : Nat → Option Obj}
theorem vc392 (s p : ByteArray) (Q : List R → List (List D) → Prop) : vc E_c C_t381 noI fi140 (f140.body.getD .skip) f140.results.toList [.d (.v (.string s)), .d (.v (.string p))] Q = ( (decide ((↑s.size : Int) ≥ (↑p.size : Int)) = true → ∃ (l : Nat), ∃ (h : Nat), l = (0 : Nat) ∧ V.d (D.v (Value.int .i64 (↑p.size : Int))) = V.d (D.v (Value.int .i64 (↑h : Int))) ∧ l ≤ h ∧ h ≤ s.size ∧ True ∧ Q [.d (.v (.bool (s.extract l h == p)))] []) ∧ (decide ((↑s.size : Int) ≥ (↑p.size : Int)) = !true → Q [.d (.v (.bool false))] [])) := by kernel_rfl
theorem ct392 (G : GlOk gl) (s p : ByteArray) : Ct prog gl 140 [.d (.v (.string s)), .d (.v (.string p))] (gives [.d (.v (.bool (Lib.hasPrefix s.data.toList p.data.toList)))]) := by
  refine ct_of_vc (E := E_c) ⟨E_ok.te⟩ (C_t381_ok G) ioK_no (fun _ _ _ h => h.elim) mixed (fn := f140) (body := f140.body.getD .skip) (by kernel_rfl) (by kernel_rfl) (by kernel_rfl) (fi := fi140) (by kernel_rfl) (by kernel_rfl) ⟨_, _, rfl, rfl⟩ ?_
  rw [vc392]
  refine ⟨fun h => ?_, fun h => ?_⟩
  · have h := of_decide_eq_true h
    refine ⟨0, p.size, rfl, rfl, Nat.zero_le _, by omega, trivial, ?_⟩
    rw [pre_eq (by omega)]
    exact ⟨rfl, rfl⟩
  · have h := of_decide_eq_false h
    rw [pre_no (by omega)]
    exact ⟨rfl, rfl⟩
def c_392 (a : List R) (K : List R → List (List D) → Prop) : Prop := match a with
  | [.d (.v (.string s)), .d (.v (.string p))] => K [.d (.v (.bool (Lib.hasPrefix s.data.toList p.data.toList)))] []
  | _ => False
theorem c_392_ok (G : GlOk gl) (a : List R) (K : List R → List (List D) → Prop) (h : c_392 a K) : Ct prog gl 140 a K := by
  unfold c_392 at h
  split at h
  · exact (ct392 G _ _ ).gives h
  · exact h.elim
def C_t392 : CallT := addC C_t381 140 c_392
theorem C_t392_ok (G : GlOk gl) : CallsOk prog gl C_t392 := addC_ok (C_t381_ok G) (c_392_ok G)
theorem vc426 (s p : ByteArray) (Q : List R → List (List D) → Prop) : vc E_0 C_t392 noI fi150 (f150.body.getD .skip) f150.results.toList [.d (.v (.string s)), .d (.v (.string p))] Q = ( (Lib.hasPrefix s.data.1 p.data.1 = true → ∃ (l : Nat), ∃ (h : Nat), V.d (D.v (Value.int .i64 (↑p.size : Int))) = V.d (D.v (Value.int .i64 (↑l : Int))) ∧ h = s.size ∧ l ≤ h ∧ h ≤ s.size ∧ True ∧ Q [.d (.v (.string (s.extract l h)))] []) ∧ (Lib.hasPrefix s.data.1 p.data.1 = false → Q [.d (.v (.string s))] [])) := by kernel_rfl
theorem ct426 (G : GlOk gl) (s p : ByteArray) : Ct prog gl 150 [.d (.v (.string s)), .d (.v (.string p))] (gives [.d (.v (.string (tx (Lib.trimPrefix s.data.toList p.data.toList))))]) := by
  refine ct_of_vc E_ok (C_t392_ok G) ioK_no it_ok mixed (fn := f150) (body := f150.body.getD .skip) (by kernel_rfl) (by kernel_rfl) (by kernel_rfl) (fi := fi150) (by kernel_rfl) (by kernel_rfl) ⟨_, _, rfl, rfl⟩ ?_
  rw [vc426]
  refine ⟨fun h => ?_, fun h => ?_⟩
  · have hl : p.size ≤ s.size := by
      rcases Nat.lt_or_ge s.size p.size with h1 | h1
      · rw [pre_no (by omega)] at h; cases h
      · exact h1
    refine ⟨p.size, s.size, rfl, rfl, hl, Nat.le_refl _, trivial, ?_⟩
    unfold Lib.trimPrefix
    rw [if_pos h, drop_tx, size_data]
    exact ⟨rfl, rfl⟩
  · unfold Lib.trimPrefix
    rw [if_neg (by rw [h]; decide), tx_of]
    exact ⟨rfl, rfl⟩
def c_426 (a : List R) (K : List R → List (List D) → Prop) : Prop := match a with
  | [.d (.v (.string s)), .d (.v (.string p))] => K [.d (.v (.string (tx (Lib.trimPrefix s.data.toList p.data.toList))))] []
  | _ => False
theorem c_426_ok (G : GlOk gl) (a : List R) (K : List R → List (List D) → Prop) (h : c_426 a K) : Ct prog gl 150 a K := by
  unfold c_426 at h
  split at h
  · exact (ct426 G _ _ ).gives h
  · exact h.elim
def C_t426 : CallT := addC C_t392 150 c_426
theorem C_t426_ok (G : GlOk gl) : CallsOk prog gl C_t426 := addC_ok (C_t392_ok G) (c_426_ok G)
theorem vc341 (s p : ByteArray) (Q : List R → List (List D) → Prop) : vc E_0 C_t426 noI fi116 (f116.body.getD .skip) f116.results.toList [.d (.v (.string s)), .d (.v (.string p))] Q = ( ((!Lib.hasPrefix s.data.1 p.data.1) = true → Q [.d (.v (.string s)), .d (.v (.bool false))] []) ∧ ((!Lib.hasPrefix s.data.1 p.data.1) = false → ∃ (l : Nat), ∃ (h : Nat), V.d (D.v (Value.int .i64 (↑p.size : Int))) = V.d (D.v (Value.int .i64 (↑l : Int))) ∧ h = s.size ∧ l ≤ h ∧ h ≤ s.size ∧ True ∧ Q [.d (.v (.string (s.extract l h))), .d (.v (.bool true))] [])) := by kernel_rfl
theorem ct341 (G : GlOk gl) (s p : ByteArray) : Ct prog gl 116 [.d (.v (.string s)), .d (.v (.string p))] (gives [.d (.v (.string (tx (Lib.trimPrefix s.data.toList p.data.toList)))), .d (.v (.bool (Lib.hasPrefix s.data.toList p.data.toList)))]) := by
  refine ct_of_vc E_ok (C_t426_ok G) ioK_no it_ok mixed (fn := f116) (body := f116.body.getD .skip) (by kernel_rfl) (by kernel_rfl) (by kernel_rfl) (fi := fi116) (by kernel_rfl) (by kernel_rfl) ⟨_, _, rfl, rfl⟩ ?_
  rw [vc341]
  refine ⟨fun h => ?_, fun h => ?_⟩
  · have h : Lib.hasPrefix s.data.toList p.data.toList = false := by simpa using h
    unfold Lib.trimPrefix
    rw [h, if_neg (by decide), tx_of]
    exact ⟨rfl, rfl⟩
  · have h : Lib.hasPrefix s.data.toList p.data.toList = true := by simpa using h
    have hl : p.size ≤ s.size := by
      rcases Nat.lt_or_ge s.size p.size with h1 | h1
      · rw [pre_no (by omega)] at h; cases h
      · exact h1
    refine ⟨p.size, s.size, rfl, rfl, hl, Nat.le_refl _, trivial, ?_⟩
    unfold Lib.trimPrefix
    rw [if_pos h, drop_tx, size_data, h]
    exact ⟨rfl, rfl⟩
def c_341 (a : List R) (K : List R → List (List D) → Prop) : Prop := match a with
  | [.d (.v (.string s)), .d (.v (.string p))] => K [.d (.v (.string (tx (Lib.trimPrefix s.data.toList p.data.toList)))), .d (.v (.bool (Lib.hasPrefix s.data.toList p.data.toList)))] []
  | _ => False
theorem c_341_ok (G : GlOk gl) (a : List R) (K : List R → List (List D) → Prop) (h : c_341 a K) : Ct prog gl 116 a K := by
  unfold c_341 at h
  split at h
  · exact (ct341 G _ _ ).gives h
  · exact h.elim
def C_t341 : CallT := addC C_t426 116 c_341
theorem C_t341_ok (G : GlOk gl) : CallsOk prog gl C_t341 := addC_ok (C_t426_ok G) (c_341_ok G)
theorem vc378 (s p : ByteArray) (Q : List R → List (List D) → Prop) : vc E_0 C_t341 noI fi126 (f126.body.getD .skip) f126.results.toList [.d (.v (.string s)), .d (.v (.string p))] Q = ( Q [.d (.v (.string (tx (Lib.trimPrefix s.data.1 p.data.1))))] []) := by kernel_rfl
theorem ct378 (G : GlOk gl) (s p : ByteArray) : Ct prog gl 126 [.d (.v (.string s)), .d (.v (.string p))] (gives [.d (.v (.string (tx (Lib.trimPrefix s.data.toList p.data.toList))))]) := by
  refine ct_of_vc E_ok (C_t341_ok G) ioK_no it_ok mixed (fn := f126) (body := f126.body.getD .skip) (by kernel_rfl) (by kernel_rfl) (by kernel_rfl) (fi := fi126) (by kernel_rfl) (by kernel_rfl) ⟨_, _, rfl, rfl⟩ ?_
  rw [vc378]
  exact ⟨rfl, rfl⟩
def c_378 (a : List R) (K : List R → List (List D) → Prop) : Prop := match a with
  | [.d (.v (.string s)), .d (.v (.string p))] => K [.d (.v (.string (tx (Lib.trimPrefix s.data.toList p.data.toList))))] []
  | _ => False
theorem c_378_ok (G : GlOk gl) (a : List R) (K : List R → List (List D) → Prop) (h : c_378 a K) : Ct prog gl 126 a K := by
  unfold c_378 at h
  split at h
  · exact (ct378 G _ _ ).gives h
  · exact h.elim
def C_t378 : CallT := addC C_t341 126 c_378
theorem C_t378_ok (G : GlOk gl) : CallsOk prog gl C_t378 := addC_ok (C_t341_ok G) (c_378_ok G)
theorem vc277 (s p : ByteArray) (Q : List R → List (List D) → Prop) : vc E_0 C_t378 noI fi94 (f94.body.getD .skip) f94.results.toList [.d (.v (.string s)), .d (.v (.string p))] Q = ( Q [.d (.v (.string (tx (Lib.trimPrefix s.data.1 p.data.1)))), .d (.v (.bool (Lib.hasPrefix s.data.1 p.data.1)))] []) := by kernel_rfl
theorem ct277 (G : GlOk gl) (s p : ByteArray) : Ct prog gl 94 [.d (.v (.string s)), .d (.v (.string p))] (gives [.d (.v (.string (tx (Lib.trimPrefix s.data.toList p.data.toList)))), .d (.v (.bool (Lib.hasPrefix s.data.toList p.data.toList)))]) := by
  refine ct_of_vc E_ok (C_t378_ok G) ioK_no it_ok mixed (fn := f94) (body := f94.body.getD .skip) (by kernel_rfl) (by kernel_rfl) (by kernel_rfl) (fi := fi94) (by kernel_rfl) (by kernel_rfl) ⟨_, _, rfl, rfl⟩ ?_
  rw [vc277]
  exact ⟨rfl, rfl⟩
def c_277 (a : List R) (K : List R → List (List D) → Prop) : Prop := match a with
  | [.d (.v (.string s)), .d (.v (.string p))] => K [.d (.v (.string (tx (Lib.trimPrefix s.data.toList p.data.toList)))), .d (.v (.bool (Lib.hasPrefix s.data.toList p.data.toList)))] []
  | _ => False
theorem c_277_ok (G : GlOk gl) (a : List R) (K : List R → List (List D) → Prop) (h : c_277 a K) : Ct prog gl 94 a K := by
  unfold c_277 at h
  split at h
  · exact (ct277 G _ _ ).gives h
  · exact h.elim
def C_t277 : CallT := addC C_t378 94 c_277
theorem C_t277_ok (G : GlOk gl) : CallsOk prog gl C_t277 := addC_ok (C_t378_ok G) (c_277_ok G)
theorem vc377 (s : ByteArray) (Q : List R → List (List D) → Prop) : vc E_c C_t277 noI fi125 (f125.body.getD .skip) f125.results.toList [.d (.v (.string s))] Q = ( ((!s == { data := { toList := [] : Array UInt8 } : ByteArray }) = true → { data := { toList := [(48 : UInt8), (49 : UInt8), (50 : UInt8), (51 : UInt8), (52 : UInt8), (53 : UInt8), (54 : UInt8), (55 : UInt8), (56 : UInt8), (57 : UInt8)] : Array UInt8 } : ByteArray } = tx digL ∧ s.size ≤ (9223372036854775807 : Nat) ∧ Q [.d (.v (.bool (tx (Lib.trimS s.data.1 digL) == { data := { toList := [] : Array UInt8 } : ByteArray })))] []) ∧ ((!s == { data := { toList := [] : Array UInt8 } : ByteArray }) = !true → Q [.d (.v (.bool false))] [])) := by kernel_rfl
theorem ct377 (G : GlOk gl) (s : ByteArray) (h1 : s.size ≤ 1000) : Ct prog gl 125 [.d (.v (.string s))] (gives [.d (.v (.bool (digP s.data.toList)))]) := by
  refine ct_of_vc (E := E_c) ⟨E_ok.te⟩ (C_t277_ok G) ioK_no (fun _ _ _ h => h.elim) mixed (fn := f125) (body := f125.body.getD .skip) (by kernel_rfl) (by kernel_rfl) (by kernel_rfl) (fi := fi125) (by kernel_rfl) (by kernel_rfl) ⟨_, _, rfl, rfl⟩ ?_
  rw [vc377]
  have e := digP_trim s.data.toList
  rw [tx_of] at e
  refine ⟨fun h => ⟨rfl, by omega, ?_⟩, fun h => ?_⟩
  · have h : (s != tx []) = true := h
    rw [h, cond_true] at e
    rw [← e]
    exact ⟨rfl, rfl⟩
  · have h : (s != tx []) = false := h
    rw [h, cond_false] at e
    rw [← e]
    exact ⟨rfl, rfl⟩
def c_377 (a : List R) (K : List R → List (List D) → Prop) : Prop := match a with
  | [.d (.v (.string s))] => s.size ≤ 1000 ∧ K [.d (.v (.bool (digP s.data.toList)))] []
  | _ => False
theorem c_377_ok (G : GlOk gl) (a : List R) (K : List R → List (List D) → Prop) (h : c_377 a K) : Ct prog gl 125 a K := by
  unfold c_377 at h
  split at h
  · obtain ⟨h0, hk⟩ := h
    exact (ct377 G _ h0).gives hk
  · exact h.elim
def C_t377 : CallT := addC C_t277 125 c_377
theorem C_t377_ok (G : GlOk gl) : CallsOk prog gl C_t377 := addC_ok (C_t277_ok G) (c_377_ok G)
theorem vc278 (s : ByteArray) (n : Int) (Q : List R → List (List D) → Prop) : vc E_0 C_t377 noI fi95 (f95.body.getD .skip) f95.results.toList [.d (.v (.string s)), .d (.v (.int .i64 n))] Q = ( ((0 : Int) ≤ if IntKind.i64.wrap (n - (↑s.size : Int)) > (0 : Int) then IntKind.i64.wrap (n - (↑s.size : Int)) else (0 : Int)) ∧ (if IntKind.i64.wrap (n - (↑s.size : Int)) > (0 : Int) then IntKind.i64.wrap (n - (↑s.size : Int)) else (0 : Int)) ≤ (1000 : Int) ∧ { data := { toList := [(48 : UInt8)] : Array UInt8 } : ByteArray }.size ≤ (1000 : Nat) ∧ (tx (Lib.repeatL [(48 : UInt8)] (if IntKind.i64.wrap (n - (↑s.size : Int)) > (0 : Int) then IntKind.i64.wrap (n - (↑s.size : Int)) else (0 : Int)).toNat)).size.add s.size ≤ (9223372036854775807 : Nat) ∧ Q [.d (.v (.string (tx (Lib.repeatL [(48 : UInt8)] (if IntKind.i64.wrap (n - (↑s.size : Int)) > (0 : Int) then IntKind.i64.wrap (n - (↑s.size : Int)) else (0 : Int)).toNat) ++ s)))] []) := by kernel_rfl
theorem ct278 (G : GlOk gl) (s : ByteArray) (n : Int) (h1 : s.size ≤ 100) (h2 : 0 ≤ n) (h3 : n ≤ 100) : Ct prog gl 95 [.d (.v (.string s)), .d (.v (.int .i64 n))] (gives [.d (.v (.string (tx (padL s.data.toList n))))]) := by
  refine ct_of_vc E_ok (C_t377_ok G) ioK_no it_ok mixed (fn := f95) (body := f95.body.getD .skip) (by kernel_rfl) (by kernel_rfl) (by kernel_rfl) (fi := fi95) (by kernel_rfl) (by kernel_rfl) ⟨_, _, rfl, rfl⟩ ?_
  rw [vc278]
  rw [wrap_in (by omega)]
  have hx : (if n - (s.size : Int) > 0 then n - (s.size : Int) else 0) ≤ 100 ∧ 0 ≤ (if n - (s.size : Int) > 0 then n - (s.size : Int) else 0) := by split <;> omega
  refine ⟨hx.2, by omega, by decide, ?_, ?_, rfl⟩
  · show (tx _).size + s.size ≤ _
    rw [tx_size, repeat_len]
    omega
  · unfold padL
    rw [← tx_append, tx_of, size_data]
def c_278 (a : List R) (K : List R → List (List D) → Prop) : Prop := match a with
  | [.d (.v (.string s)), .d (.v (.int .i64 n))] => s.size ≤ 100 ∧ 0 ≤ n ∧ n ≤ 100 ∧ K [.d (.v (.string (tx (padL s.data.toList n))))] []
  | _ => False
theorem c_278_ok (G : GlOk gl) (a : List R) (K : List R → List (List D) → Prop) (h : c_278 a K) : Ct prog gl 95 a K := by
  unfold c_278 at h
  split at h
  · obtain ⟨h0, h1, h2, hk⟩ := h
    exact (ct278 G _ _ h0 h1 h2).gives hk
  · exact h.elim
def C_t278 : CallT := addC C_t377 95 c_278
theorem C_t278_ok (G : GlOk gl) : CallsOk prog gl C_t278 := addC_ok (C_t377_ok G) (c_278_ok G)
theorem vc134i (n : Int) (Q : List R → List (List D) → Prop) : vc E_0 C_t278 noI fi55 (f55.body.getD .skip) f55.results.toList [.d (.v (.int .i64 n))] Q = ( (10 : Int) = (10 : Int) ∧ in64 n ∧ Q [.d (.v (.string (tx (Lib.itoa n))))] []) := by kernel_rfl
theorem ct134i (G : GlOk gl) (n : Int) (h1 : in64 n) : Ct prog gl 55 [.d (.v (.int .i64 n))] (gives [.d (.v (.string (tx (Lib.itoa n))))]) := by
  refine ct_of_vc E_ok (C_t278_ok G) ioK_no it_ok mixed (fn := f55) (body := f55.body.getD .skip) (by kernel_rfl) (by kernel_rfl) (by kernel_rfl) (fi := fi55) (by kernel_rfl) (by kernel_rfl) ⟨_, _, rfl, rfl⟩ ?_
  rw [vc134i]
  exact ⟨rfl, h1, rfl, rfl⟩
def c_134i (a : List R) (K : List R → List (List D) → Prop) : Prop := match a with
  | [.d (.v (.int .i64 n))] => in64 n ∧ K [.d (.v (.string (tx (Lib.itoa n))))] []
  | _ => False
theorem c_134i_ok (G : GlOk gl) (a : List R) (K : List R → List (List D) → Prop) (h : c_134i a K) : Ct prog gl 55 a K := by
  unfold c_134i at h
  split at h
  · obtain ⟨h0, hk⟩ := h
    exact (ct134i G _ h0).gives hk
  · exact h.elim
def C_t134i : CallT := addC C_t278 55 c_134i
theorem C_t134i_ok (G : GlOk gl) : CallsOk prog gl C_t134i := addC_ok (C_t278_ok G) (c_134i_ok G)
theorem vc212 (v n : Int) (Q : List R → List (List D) → Prop) : vc E_0 C_t134i noI fi79 (f79.body.getD .skip) f79.results.toList [.d (.v (.int .i64 v)), .d (.v (.int .i64 n))] Q = ( ((!s276_0 n) = true → Q [.d (.v (.string ⟨⟨[]⟩⟩)), .d (.v (.int .i64 1))] []) ∧ ((!s276_0 n) = false → in64 v ∧ (tx (Lib.trimPrefix (Lib.itoa v) [(45 : UInt8)])).size ≤ (100 : Nat) ∧ (0 : Int) ≤ IntKind.i64.wrap (n + (1 : Int)) ∧ IntKind.i64.wrap (n + (1 : Int)) ≤ (100 : Int) ∧ (decide (n > (0 : Int)) = true → ∃ (l : Nat), ∃ (h : Nat), l = (0 : Nat) ∧ V.d (D.v (Value.int .i64 (IntKind.i64.wrap ((↑(tx (padL (Lib.trimPrefix (Lib.itoa v) [(45 : UInt8)]) (IntKind.i64.wrap (n + (1 : Int))))).size : Int) - n)))) = V.d (D.v (Value.int .i64 (↑h : Int))) ∧ l ≤ h ∧ h ≤ (tx (padL (Lib.trimPrefix (Lib.itoa v) [(45 : UInt8)]) (IntKind.i64.wrap (n + (1 : Int))))).size ∧ True ∧ ((tx (padL (Lib.trimPrefix (Lib.itoa v) [(45 : UInt8)]) (IntKind.i64.wrap (n + (1 : Int))))).extract l h).size.succ ≤ (9223372036854775807 : Nat) ∧ ∃ (l_1 : Nat), ∃ (h_1 : Nat), V.d (D.v (Value.int .i64 (IntKind.i64.wrap ((↑(tx (padL (Lib.trimPrefix (Lib.itoa v) [(45 : UInt8)]) (IntKind.i64.wrap (n + (1 : Int))))).size : Int) - n)))) = V.d (D.v (Value.int .i64 (↑l_1 : Int))) ∧ h_1 = (tx (padL (Lib.trimPrefix (Lib.itoa v) [(45 : UInt8)]) (IntKind.i64.wrap (n + (1 : Int))))).size ∧ l_1 ≤ h_1 ∧ h_1 ≤ (tx (padL (Lib.trimPrefix (Lib.itoa v) [(45 : UInt8)]) (IntKind.i64.wrap (n + (1 : Int))))).size ∧ True ∧ ((tx (padL (Lib.trimPrefix (Lib.itoa v) [(45 : UInt8)]) (IntKind.i64.wrap (n + (1 : Int))))).extract l h ++ { data := { toList := [(46 : UInt8)] : Array UInt8 } : ByteArray }).size.add ((tx (padL (Lib.trimPrefix (Lib.itoa v) [(45 : UInt8)]) (IntKind.i64.wrap (n + (1 : Int))))).extract l_1 h_1).size ≤ (9223372036854775807 : Nat) ∧ (Lib.hasPrefix (Lib.itoa v) [(45 : UInt8)] = true → { data := { toList := [(45 : UInt8)] : Array UInt8 } : ByteArray }.size.add ((tx (padL (Lib.trimPrefix (Lib.itoa v) [(45 : UInt8)]) (IntKind.i64.wrap (n + (1 : Int))))).extract l h ++ { data := { toList := [(46 : UInt8)] : Array UInt8 } : ByteArray } ++ (tx (padL (Lib.trimPrefix (Lib.itoa v) [(45 : UInt8)]) (IntKind.i64.wrap (n + (1 : Int))))).extract l_1 h_1).size ≤ (9223372036854775807 : Nat) ∧ Q [.d (.v (.string ({ data := { toList := [(45 : UInt8)] : Array UInt8 } : ByteArray } ++ ((tx (padL (Lib.trimPrefix (Lib.itoa v) [(45 : UInt8)]) (IntKind.i64.wrap (n + (1 : Int))))).extract l h ++ { data := { toList := [(46 : UInt8)] : Array UInt8 } : ByteArray } ++ (tx (padL (Lib.trimPrefix (Lib.itoa v) [(45 : UInt8)]) (IntKind.i64.wrap (n + (1 : Int))))).extract l_1 h_1)))), .d (.v (.int .i64 0))] []) ∧ (Lib.hasPrefix (Lib.itoa v) [(45 : UInt8)] = false → Q [.d (.v (.string ((tx (padL (Lib.trimPrefix (Lib.itoa v) [(45 : UInt8)]) (IntKind.i64.wrap (n + (1 : Int))))).extract l h ++ { data := { toList := [(46 : UInt8)] : Array UInt8 } : ByteArray } ++ (tx (padL (Lib.trimPrefix (Lib.itoa v) [(45 : UInt8)]) (IntKind.i64.wrap (n + (1 : Int))))).extract l_1 h_1))), .d (.v (.int .i64 0))] [])) ∧ (decide (n > (0 : Int)) = false → (Lib.hasPrefix (Lib.itoa v) [(45 : UInt8)] = true → { data := { toList := [(45 : UInt8)] : Array UInt8 } : ByteArray }.size.add (tx (padL (Lib.trimPrefix (Lib.itoa v) [(45 : UInt8)]) (IntKind.i64.wrap (n + (1 : Int))))).size ≤ (9223372036854775807 : Nat) ∧ Q [.d (.v (.string ({ data := { toList := [(45 : UInt8)] : Array UInt8 } : ByteArray } ++ tx (padL (Lib.trimPrefix (Lib.itoa v) [(45 : UInt8)]) (IntKind.i64.wrap (n + (1 : Int))))))), .d (.v (.int .i64 0))] []) ∧ (Lib.hasPrefix (Lib.itoa v) [(45 : UInt8)] = false → Q [.d (.v (.string (tx (padL (Lib.trimPrefix (Lib.itoa v) [(45 : UInt8)]) (IntKind.i64.wrap (n + (1 : Int))))))), .d (.v (.int .i64 0))] [])))) := by kernel_rfl
theorem ct212 (G : GlOk gl) (v n : Int) (h1 : in64 v) (h2 : 0 ≤ n) (h3 : n ≤ 18) : Ct prog gl 79 [.d (.v (.int .i64 v)), .d (.v (.int .i64 n))] (gives [.d (.v (.string (tx (decT v n)))), .d (.v (.int .i64 0))]) := by
  refine ct_of_vc E_ok (C_t134i_ok G) ioK_no it_ok mixed (fn := f79) (body := f79.body.getD .skip) (by kernel_rfl) (by kernel_rfl) (by kernel_rfl) (fi := fi79) (by kernel_rfl) (by kernel_rfl) ⟨_, _, rfl, rfl⟩ ?_
  rw [vc212]
  have hs : s276_0 n = true := s276_iff.2 ⟨h2, h3⟩
  rw [hs]
  refine ⟨fun h => (by cases h), fun _ => ⟨h1, ?_, ?_⟩⟩
  · rw [tx_size]; have := itoa_len h1; have := trimPrefix_len (Lib.itoa v) [45]; omega
  rw [wrap_in (n := n + 1) (by omega)]
  refine ⟨by omega, by omega, ?_⟩
  have hp : (padL (Lib.trimPrefix (Lib.itoa v) [45]) (n + 1)).length ≤ 21 := padL_le (Nat.le_trans (trimPrefix_len _ _) (itoa_len h1)) (by omega)
  have hq := padL_len (Lib.trimPrefix (Lib.itoa v) [45]) (n + 1)
  have hq : n + 1 ≤ ((padL (Lib.trimPrefix (Lib.itoa v) [45]) (n + 1)).length : Int) := by split at hq <;> omega
  unfold decT
  dsimp only
  generalize padL (Lib.trimPrefix (Lib.itoa v) [45]) (n + 1) = s at *
  refine ⟨fun h => ?_, fun h => ?_⟩
  · have h := of_decide_eq_true h
    have e1 : (tx s).extract 0 (s.length - n.toNat) = tx (s.take (s.length - n.toNat)) := take_tx _ _
    have e2 : (tx s).extract (s.length - n.toNat) (tx s).size = tx (s.drop (s.length - n.toNat)) := drop_tx _ _
    have e3 : IntKind.i64.wrap (((tx s).size : Int) - n) = ((s.length - n.toNat : Nat) : Int) := by rw [tx_size, wrap_in (by omega)]; omega
    refine ⟨0, s.length - n.toNat, rfl, by rw [e3], Nat.zero_le _, by rw [tx_size]; omega, trivial, ?_, s.length - n.toNat, (tx s).size, by rw [e3], rfl, by rw [tx_size]; omega, Nat.le_refl _, trivial, ?_, ?_⟩
    · rw [e1, tx_size, List.length_take]; omega
    · rw [e1, e2]
      show ByteArray.size (tx _ ++ tx [46]) + ByteArray.size (tx _) ≤ _
      rw [tx_append, tx_size, tx_size]
      simp; omega
    · rw [e1, e2, if_pos h]
      refine ⟨fun h' => ⟨?_, ?_, rfl⟩, fun h' => ⟨?_, rfl⟩⟩
      · show ByteArray.size (tx [45]) + ByteArray.size (tx _ ++ tx [46] ++ tx _) ≤ _
        rw [tx_append, tx_append, tx_size, tx_size]
        simp; omega
      · rw [if_pos h']
        show [R.d (D.v (Value.string (tx [45] ++ (tx _ ++ tx [46] ++ tx _)))), _] = _
        rw [tx_append, tx_append, tx_append]
        rfl
      · rw [if_neg (by rw [h']; decide)]
        show [R.d (D.v (Value.string (tx _ ++ tx [46] ++ tx _))), _] = _
        rw [tx_append, tx_append]
  · have h := of_decide_eq_false h
    rw [if_neg h]
    refine ⟨fun h' => ⟨?_, ?_, rfl⟩, fun h' => ⟨?_, rfl⟩⟩
    · show ByteArray.size (tx [45]) + ByteArray.size (tx _) ≤ _
      rw [tx_size, tx_size]
      simp; omega
    · rw [if_pos h']
      show [R.d (D.v (Value.string (tx [45] ++ tx _))), _] = _
      rw [tx_append]
      rfl
    · rw [if_neg (by rw [h']; decide)]
def c_212 (a : List R) (K : List R → List (List D) → Prop) : Prop := match a with
  | [.d (.v (.int .i64 v)), .d (.v (.int .i64 n))] => in64 v ∧ 0 ≤ n ∧ n ≤ 18 ∧ K [.d (.v (.string (tx (decT v n)))), .d (.v (.int .i64 0))] []
  | _ => False
theorem c_212_ok (G : GlOk gl) (a : List R) (K : List R → List (List D) → Prop) (h : c_212 a K) : Ct prog gl 79 a K := by
  unfold c_212 at h
  split at h
  · obtain ⟨h0, h1, h2, hk⟩ := h
    exact (ct212 G _ _ h0 h1 h2).gives hk
  · exact h.elim
def C_t212 : CallT := addC C_t134i 79 c_212
theorem C_t212_ok (G : GlOk gl) : CallsOk prog gl C_t212 := addC_ok (C_t134i_ok G) (c_212_ok G)
structure CX where
  y : Int
  m : Nat
  d : Int
def st_279a (n : Int) (x : CX) : St := { tm := [(0, .d (.v (.int .i64 (n + 719162)))), (2, .d (.v (.int .i64 0))), (3, .d (.v (.int .i64 0))), (4, .d (.v (.int .i64 0))), (5, .d (.v (.int .i64 0))), (6, .d (.v (.int .i64 x.y)))], hp := [], kn := [], gd := [] }
def st_279b (n : Int) (x : CX) : St := { tm := [(2, .d (.v (.int .i64 0))), (3, .d (.v (.int .i64 0))), (4, .d (.v (.int .i64 0))), (5, .d (.v (.int .i64 0))), (6, .d (.v (.int .i64 x.y))), (7, .d (.v (.int .i64 x.d))), (8, .d (.v (.int .i64 ((x.m : Int) + 1))))], hp := [], kn := [], gd := [] }
def fx_279 (n : Int) : Fi := { fi96 with lx := [(5, { X := CX, sh := st_279a n, P := fun _ k x => 1 ≤ x.y ∧ x.y ≤ 10001 ∧ k = x.y.toNat }), (7, { X := CX, sh := st_279a n, P := fun _ k x => 1 ≤ x.y ∧ x.y ≤ 9999 ∧ yearsP x.y ≤ n + 719162 ∧ k = 10001 - x.y.toNat }), (11, { X := CX, sh := st_279b n, P := fun _ k x => 1 ≤ x.y ∧ x.y ≤ 9999 ∧ x.m < 12 ∧ 0 ≤ x.d ∧ x.d ≤ 366 ∧ x.d + sumM x.y x.m = n + 719162 - yearsP x.y ∧ n + 719162 < yearsP (x.y + 1) ∧ k = 12 - x.m })] }
theorem vc279 (n : Int) (Q : List R → List (List D) → Prop) : vc E_0 C_t212 noI (fx_279 n) (f96.body.getD .skip) f96.results.toList [.d (.v (.int .i64 n))] Q = ( ((bif decide (n < (-719162 : Int)) then true else decide (n > (2932896 : Int))) = true → Q [.d (.v (.int .i64 0)), .d (.v (.int .i64 0)), .d (.v (.int .i64 0)), .d (.v (.int .i64 13))] []) ∧ ((bif decide (n < (-719162 : Int)) then true else decide (n > (2932896 : Int))) = false → (146097 : Int) ≠ (0 : Int) ∧ ∃ (x0 : { X := CX, sh := st_279a n, P := fun (x : CX) (k : Nat) (x_1 : CX) => (1 : Int) ≤ x_1.y ∧ x_1.y ≤ (10001 : Int) ∧ k = x_1.y.toNat : LX }.X), ({ tm := [((0 : Nat), V.d (D.v (Value.int .i64 (IntKind.i64.wrap (n - (-719162 : Int)))))), ((2 : Nat), V.d (D.v (Value.int .i64 0))), ((3 : Nat), V.d (D.v (Value.int .i64 0))), ((4 : Nat), V.d (D.v (Value.int .i64 0))), ((5 : Nat), V.d (D.v (Value.int .i64 0))), ((6 : Nat), V.d (D.v (Value.int .i64 (IntKind.i64.wrap (IntKind.i64.wrap ((IntKind.i64.wrap (IntKind.i64.wrap (n - (-719162 : Int)) * (400 : Int))).tdiv (146097 : Int)) + (1 : Int))))))], hp := [], kn := [], gd := [] : St } = { tm := [((0 : Nat), V.d (D.v (Value.int .i64 (n + (719162 : Int))))), ((2 : Nat), V.d (D.v (Value.int .i64 0))), ((3 : Nat), V.d (D.v (Value.int .i64 0))), ((4 : Nat), V.d (D.v (Value.int .i64 0))), ((5 : Nat), V.d (D.v (Value.int .i64 0))), ((6 : Nat), V.d (D.v (Value.int .i64 x0.1)))], hp := [], kn := [], gd := [] : St } ∧ ∃ (n : Nat), (1 : Int) ≤ x0.1 ∧ x0.1 ≤ (10001 : Int) ∧ n = x0.1.toNat) ∧ ∀ (n_1 : Nat) (x : { X := CX, sh := st_279a n, P := fun (x : CX) (k : Nat) (x_1 : CX) => (1 : Int) ≤ x_1.y ∧ x_1.y ≤ (10001 : Int) ∧ k = x_1.y.toNat : LX }.X), (1 : Int) ≤ x.1 ∧ x.1 ≤ (10001 : Int) ∧ n_1 = x.1.toNat → (1 : Int) ≤ x.1 ∧ x.1 ≤ (100000 : Int) ∧ (decide (yearsP x.1 > n + (719162 : Int)) = true → ∃ (m : Nat), ∃ (x' : { X := CX, sh := st_279a n, P := fun (x : CX) (k : Nat) (x_1 : CX) => (1 : Int) ≤ x_1.y ∧ x_1.y ≤ (10001 : Int) ∧ k = x_1.y.toNat : LX }.X), m < n_1 ∧ { tm := [((0 : Nat), V.d (D.v (Value.int .i64 (n + (719162 : Int))))), ((2 : Nat), V.d (D.v (Value.int .i64 0))), ((3 : Nat), V.d (D.v (Value.int .i64 0))), ((4 : Nat), V.d (D.v (Value.int .i64 0))), ((5 : Nat), V.d (D.v (Value.int .i64 0))), ((6 : Nat), V.d (D.v (Value.int .i64 (IntKind.i64.wrap (x.1 - (1 : Int))))))], hp := [], kn := [], gd := [] : St } = { tm := [((0 : Nat), V.d (D.v (Value.int .i64 (n + (719162 : Int))))), ((2 : Nat), V.d (D.v (Value.int .i64 0))), ((3 : Nat), V.d (D.v (Value.int .i64 0))), ((4 : Nat), V.d (D.v (Value.int .i64 0))), ((5 : Nat), V.d (D.v (Value.int .i64 0))), ((6 : Nat), V.d (D.v (Value.int .i64 x'.1)))], hp := [], kn := [], gd := [] : St } ∧ (1 : Int) ≤ x'.1 ∧ x'.1 ≤ (10001 : Int) ∧ m = x'.1.toNat) ∧ (decide (yearsP x.1 > n + (719162 : Int)) = false → ∃ (x0 : { X := CX, sh := st_279a n, P := fun (x : CX) (k : Nat) (x_1 : CX) => (1 : Int) ≤ x_1.y ∧ x_1.y ≤ (9999 : Int) ∧ yearsP x_1.y ≤ n + (719162 : Int) ∧ k = (10001 : Nat) - x_1.y.toNat : LX }.X), ({ tm := [((0 : Nat), V.d (D.v (Value.int .i64 (n + (719162 : Int))))), ((2 : Nat), V.d (D.v (Value.int .i64 0))), ((3 : Nat), V.d (D.v (Value.int .i64 0))), ((4 : Nat), V.d (D.v (Value.int .i64 0))), ((5 : Nat), V.d (D.v (Value.int .i64 0))), ((6 : Nat), V.d (D.v (Value.int .i64 x.1)))], hp := [], kn := [], gd := [] : St } = { tm := [((0 : Nat), V.d (D.v (Value.int .i64 (n + (719162 : Int))))), ((2 : Nat), V.d (D.v (Value.int .i64 0))), ((3 : Nat), V.d (D.v (Value.int .i64 0))), ((4 : Nat), V.d (D.v (Value.int .i64 0))), ((5 : Nat), V.d (D.v (Value.int .i64 0))), ((6 : Nat), V.d (D.v (Value.int .i64 x0.1)))], hp := [], kn := [], gd := [] : St } ∧ ∃ (n_2 : Nat), (1 : Int) ≤ x0.1 ∧ x0.1 ≤ (9999 : Int) ∧ yearsP x0.1 ≤ n + (719162 : Int) ∧ n_2 = (10001 : Nat) - x0.1.toNat) ∧ ∀ (n_2 : Nat) (x : { X := CX, sh := st_279a n, P := fun (x : CX) (k : Nat) (x_1 : CX) => (1 : Int) ≤ x_1.y ∧ x_1.y ≤ (9999 : Int) ∧ yearsP x_1.y ≤ n + (719162 : Int) ∧ k = (10001 : Nat) - x_1.y.toNat : LX }.X), (1 : Int) ≤ x.1 ∧ x.1 ≤ (9999 : Int) ∧ yearsP x.1 ≤ n + (719162 : Int) ∧ n_2 = (10001 : Nat) - x.1.toNat → (1 : Int) ≤ IntKind.i64.wrap (x.1 + (1 : Int)) ∧ IntKind.i64.wrap (x.1 + (1 : Int)) ≤ (100000 : Int) ∧ (decide (yearsP (IntKind.i64.wrap (x.1 + (1 : Int))) ≤ n + (719162 : Int)) = true → ∃ (m : Nat), ∃ (x' : { X := CX, sh := st_279a n, P := fun (x : CX) (k : Nat) (x_1 : CX) => (1 : Int) ≤ x_1.y ∧ x_1.y ≤ (9999 : Int) ∧ yearsP x_1.y ≤ n + (719162 : Int) ∧ k = (10001 : Nat) - x_1.y.toNat : LX }.X), m < n_2 ∧ { tm := [((0 : Nat), V.d (D.v (Value.int .i64 (n + (719162 : Int))))), ((2 : Nat), V.d (D.v (Value.int .i64 0))), ((3 : Nat), V.d (D.v (Value.int .i64 0))), ((4 : Nat), V.d (D.v (Value.int .i64 0))), ((5 : Nat), V.d (D.v (Value.int .i64 0))), ((6 : Nat), V.d (D.v (Value.int .i64 (IntKind.i64.wrap (x.1 + (1 : Int))))))], hp := [], kn := [], gd := [] : St } = { tm := [((0 : Nat), V.d (D.v (Value.int .i64 (n + (719162 : Int))))), ((2 : Nat), V.d (D.v (Value.int .i64 0))), ((3 : Nat), V.d (D.v (Value.int .i64 0))), ((4 : Nat), V.d (D.v (Value.int .i64 0))), ((5 : Nat), V.d (D.v (Value.int .i64 0))), ((6 : Nat), V.d (D.v (Value.int .i64 x'.1)))], hp := [], kn := [], gd := [] : St } ∧ (1 : Int) ≤ x'.1 ∧ x'.1 ≤ (9999 : Int) ∧ yearsP x'.1 ≤ n + (719162 : Int) ∧ m = (10001 : Nat) - x'.1.toNat) ∧ (decide (yearsP (IntKind.i64.wrap (x.1 + (1 : Int))) ≤ n + (719162 : Int)) = false → (1 : Int) ≤ x.1 ∧ x.1 ≤ (100000 : Int) ∧ ∃ (x0 : { X := CX, sh := st_279b n, P := fun (x : CX) (k : Nat) (x_1 : CX) => (1 : Int) ≤ x_1.y ∧ x_1.y ≤ (9999 : Int) ∧ x_1.m < (12 : Nat) ∧ (0 : Int) ≤ x_1.d ∧ x_1.d ≤ (366 : Int) ∧ x_1.d + sumM x_1.y x_1.m = n + (719162 : Int) - yearsP x_1.y ∧ n + (719162 : Int) < yearsP (x_1.y + (1 : Int)) ∧ k = (12 : Nat) - x_1.m : LX }.X), ({ tm := [((2 : Nat), V.d (D.v (Value.int .i64 0))), ((3 : Nat), V.d (D.v (Value.int .i64 0))), ((4 : Nat), V.d (D.v (Value.int .i64 0))), ((5 : Nat), V.d (D.v (Value.int .i64 0))), ((6 : Nat), V.d (D.v (Value.int .i64 x.1))), ((7 : Nat), V.d (D.v (Value.int .i64 (IntKind.i64.wrap (n + (719162 : Int) - yearsP x.1))))), ((8 : Nat), V.d (D.v (Value.int .i64 1)))], hp := [], kn := [], gd := [] : St } = { tm := [((2 : Nat), V.d (D.v (Value.int .i64 0))), ((3 : Nat), V.d (D.v (Value.int .i64 0))), ((4 : Nat), V.d (D.v (Value.int .i64 0))), ((5 : Nat), V.d (D.v (Value.int .i64 0))), ((6 : Nat), V.d (D.v (Value.int .i64 x0.1))), ((7 : Nat), V.d (D.v (Value.int .i64 x0.3))), ((8 : Nat), V.d (D.v (Value.int .i64 ((↑x0.2 : Int) + (1 : Int)))))], hp := [], kn := [], gd := [] : St } ∧ ∃ (n_3 : Nat), (1 : Int) ≤ x0.1 ∧ x0.1 ≤ (9999 : Int) ∧ x0.2 < (12 : Nat) ∧ (0 : Int) ≤ x0.3 ∧ x0.3 ≤ (366 : Int) ∧ x0.3 + sumM x0.1 x0.2 = n + (719162 : Int) - yearsP x0.1 ∧ n + (719162 : Int) < yearsP (x0.1 + (1 : Int)) ∧ n_3 = (12 : Nat) - x0.2) ∧ ∀ (n_3 : Nat) (x : { X := CX, sh := st_279b n, P := fun (x : CX) (k : Nat) (x_1 : CX) => (1 : Int) ≤ x_1.y ∧ x_1.y ≤ (9999 : Int) ∧ x_1.m < (12 : Nat) ∧ (0 : Int) ≤ x_1.d ∧ x_1.d ≤ (366 : Int) ∧ x_1.d + sumM x_1.y x_1.m = n + (719162 : Int) - yearsP x_1.y ∧ n + (719162 : Int) < yearsP (x_1.y + (1 : Int)) ∧ k = (12 : Nat) - x_1.m : LX }.X), (1 : Int) ≤ x.1 ∧ x.1 ≤ (9999 : Int) ∧ x.2 < (12 : Nat) ∧ (0 : Int) ≤ x.3 ∧ x.3 ≤ (366 : Int) ∧ x.3 + sumM x.1 x.2 = n + (719162 : Int) - yearsP x.1 ∧ n + (719162 : Int) < yearsP (x.1 + (1 : Int)) ∧ n_3 = (12 : Nat) - x.2 → (1 : Int) ≤ (↑x.2 : Int) + (1 : Int) ∧ (↑x.2 : Int) + (1 : Int) ≤ (12 : Int) ∧ (decide (x.3 ≥ monthP x.1 ((↑x.2 : Int) + (1 : Int))) = true → (1 : Int) ≤ (↑x.2 : Int) + (1 : Int) ∧ (↑x.2 : Int) + (1 : Int) ≤ (12 : Int) ∧ ∃ (m : Nat), ∃ (x' : { X := CX, sh := st_279b n, P := fun (x : CX) (k : Nat) (x_1 : CX) => (1 : Int) ≤ x_1.y ∧ x_1.y ≤ (9999 : Int) ∧ x_1.m < (12 : Nat) ∧ (0 : Int) ≤ x_1.d ∧ x_1.d ≤ (366 : Int) ∧ x_1.d + sumM x_1.y x_1.m = n + (719162 : Int) - yearsP x_1.y ∧ n + (719162 : Int) < yearsP (x_1.y + (1 : Int)) ∧ k = (12 : Nat) - x_1.m : LX }.X), m < n_3 ∧ { tm := [((2 : Nat), V.d (D.v (Value.int .i64 0))), ((3 : Nat), V.d (D.v (Value.int .i64 0))), ((4 : Nat), V.d (D.v (Value.int .i64 0))), ((5 : Nat), V.d (D.v (Value.int .i64 0))), ((6 : Nat), V.d (D.v (Value.int .i64 x.1))), ((7 : Nat), V.d (D.v (Value.int .i64 (IntKind.i64.wrap (x.3 - monthP x.1 ((↑x.2 : Int) + (1 : Int))))))), ((8 : Nat), V.d (D.v (Value.int .i64 (IntKind.i64.wrap ((↑x.2 : Int) + (1 : Int) + (1 : Int))))))], hp := [], kn := [], gd := [] : St } = { tm := [((2 : Nat), V.d (D.v (Value.int .i64 0))), ((3 : Nat), V.d (D.v (Value.int .i64 0))), ((4 : Nat), V.d (D.v (Value.int .i64 0))), ((5 : Nat), V.d (D.v (Value.int .i64 0))), ((6 : Nat), V.d (D.v (Value.int .i64 x'.1))), ((7 : Nat), V.d (D.v (Value.int .i64 x'.3))), ((8 : Nat), V.d (D.v (Value.int .i64 ((↑x'.2 : Int) + (1 : Int)))))], hp := [], kn := [], gd := [] : St } ∧ (1 : Int) ≤ x'.1 ∧ x'.1 ≤ (9999 : Int) ∧ x'.2 < (12 : Nat) ∧ (0 : Int) ≤ x'.3 ∧ x'.3 ≤ (366 : Int) ∧ x'.3 + sumM x'.1 x'.2 = n + (719162 : Int) - yearsP x'.1 ∧ n + (719162 : Int) < yearsP (x'.1 + (1 : Int)) ∧ m = (12 : Nat) - x'.2) ∧ (decide (x.3 ≥ monthP x.1 ((↑x.2 : Int) + (1 : Int))) = false → Q [.d (.v (.int .i64 x.1)), .d (.v (.int .i64 ((↑x.2 : Int) + (1 : Int)))), .d (.v (.int .i64 (IntKind.i64.wrap (x.3 + (1 : Int))))), .d (.v (.int .i64 0))] []))))) := by kernel_rfl
theorem ct279 (G : GlOk gl) (n : Int) (h1 : -719162 ≤ n) (h2 : n ≤ 2932896) : Ct prog gl 96 [.d (.v (.int .i64 n))] (fun res fin => fin = [] ∧ ∃ y m d, IsCiv n y m d ∧ res = [.d (.v (.int .i64 y)), .d (.v (.int .i64 m)), .d (.v (.int .i64 d)), .d (.v (.int .i64 0))]) := by
  refine ct_of_vc E_ok (C_t212_ok G) ioK_no it_ok mixed (fn := f96) (body := f96.body.getD .skip) (by kernel_rfl) (by kernel_rfl) (by kernel_rfl) (fi := fx_279 n) (by kernel_rfl) (by kernel_rfl) (let ⟨y, m, d, h⟩ := civ_exists h1 h2; ⟨_, _, rfl, y, m, d, h, rfl⟩) ?_
  rw [vc279]
  have e0 : (bif decide (n < -719162) then true else decide (n > 2932896)) = false := by
    rw [decide_eq_false (by omega), decide_eq_false (by omega)]; rfl
  rw [e0]
  refine ⟨fun h => (by cases h), fun _ => ⟨by decide, ⟨(n + 719162) * 400 / 146097 + 1, 0, 0⟩, ⟨?_, _, ?_, ?_, rfl⟩, fun k x hx => ⟨by omega, by omega, fun hi => ?_, fun hi => ?_⟩⟩⟩
  · rw [wrap_in (n := n - -719162) (by omega), wrap_i64_of (n := (n - -719162) * 400) (by omega) (by omega), Int.tdiv_eq_ediv_of_nonneg (by omega), wrap_in (n := (n - -719162) * 400 / 146097) (by omega), wrap_in (n := (n - -719162) * 400 / 146097 + 1) (by omega)]
    all_goals (try (show _ = St.mk _ _ _ _ _))
    all_goals (try rw [show n - -719162 = n + 719162 by omega])
    all_goals (try rfl)
  · show 1 ≤ (n + 719162) * 400 / 146097 + 1; omega
  · show (n + 719162) * 400 / 146097 + 1 ≤ 10001; omega
  · obtain ⟨x1, x2, x3⟩ := hx
    have hi := of_decide_eq_true hi
    have hne : x.y ≠ 1 := by
      intro e
      rw [e] at hi
      have : yearsP 1 = 0 := rfl
      omega
    refine ⟨k - 1, ⟨x.y - 1, 0, 0⟩, by omega, ?_, ?_, ?_, ?_⟩
    · rw [wrap_in (n := x.y - 1) (by omega)]
      all_goals (try rfl)
    · show 1 ≤ x.y - 1; omega
    · show x.y - 1 ≤ 10001; omega
    · show k - 1 = (x.y - 1).toNat; omega
  · obtain ⟨x1, x2, x3⟩ := hx
    have hi := of_decide_eq_false hi
    have hy9 : x.y ≤ 9999 := by
      unfold yearsP at hi; omega
    refine ⟨x, ⟨rfl, _, x1, hy9, by omega, rfl⟩, fun k2 z hz => ?_⟩
    obtain ⟨z1, z2, z3, z4⟩ := hz
    rw [wrap_in (n := z.y + 1) (by omega)]
    refine ⟨by omega, by omega, fun hi => ?_, fun hi => ?_⟩
    · have hi := of_decide_eq_true hi
      have : z.y + 1 ≤ 9999 := by unfold yearsP at hi; omega
      exact ⟨k2 - 1, ⟨z.y + 1, 0, 0⟩, by omega, rfl, by show 1 ≤ z.y + 1; omega, this, hi, by show k2 - 1 = 10001 - (z.y + 1).toNat; omega⟩
    · have hi := of_decide_eq_false hi
      have hs := years_step z1
      have hl := leap01 z.y
      have hyb := years_bound (y := z.y) z1 (by omega)
      refine ⟨by omega, by omega, ⟨z.y, 0, n + 719162 - yearsP z.y⟩, ⟨?_, _, z1, z2, (by show 0 < 12; decide), ?_, ?_, ?_, ?_, rfl⟩, fun k3 u hu => ?_⟩
      · rw [wrap_in (n := n + 719162 - yearsP z.y) (by omega)]
        rfl
      · show 0 ≤ n + 719162 - yearsP z.y; omega
      · show n + 719162 - yearsP z.y ≤ 366; omega
      · show n + 719162 - yearsP z.y + sumM z.y 0 = n + 719162 - yearsP z.y
        have : sumM z.y 0 = 0 := rfl
        omega
      · show n + 719162 < yearsP (z.y + 1); omega
      · obtain ⟨u1, u2, u3, u4, u5, u6, u7, u8⟩ := hu
        have hm := month_pos (y := u.y) (m := (u.m : Int) + 1) (by omega) (by omega) (by omega)
        have hsu := years_step u1
        have h12 := sumM_mono (y := u.y) (j := u.m + 1) (k := 12) (by omega) (by omega) (by omega)
        refine ⟨by omega, by omega, fun hi => ?_, fun hi => ?_⟩
        · have hi := of_decide_eq_true hi
          have hlt : u.m + 1 < 12 := by
            rcases Nat.lt_or_ge (u.m + 1) 12 with h | h
            · exact h
            · have e : u.m = 11 := by omega
              have e12 := sumM_12 u.y (by omega)
              have : sumM u.y 12 = sumM u.y 11 + monthP u.y ((11 : Nat) + 1) := rfl
              rw [e] at hi u6
              omega
          refine ⟨by omega, by omega, k3 - 1, ⟨u.y, u.m + 1, u.d - monthP u.y ((u.m : Int) + 1)⟩, by omega, ?_, u1, u2, hlt, ?_, ?_, ?_, u7, ?_⟩
          · rw [wrap_in (n := u.d - monthP u.y ((u.m : Int) + 1)) (by omega), wrap_in (n := (u.m : Int) + 1 + 1) (by omega)]
            all_goals (try rw [show ((u.m : Int) + 1 + 1) = ((u.m + 1 : Nat) : Int) + 1 by omega])
            all_goals (try rfl)
          · show 0 ≤ u.d - monthP u.y ((u.m : Int) + 1); omega
          · show u.d - monthP u.y ((u.m : Int) + 1) ≤ 366; omega
          · show u.d - monthP u.y ((u.m : Int) + 1) + sumM u.y (u.m + 1) = _
            simp only [sumM]; omega
          · show k3 - 1 = 12 - (u.m + 1); omega
        · have hi := of_decide_eq_false hi
          rw [wrap_in (n := u.d + 1) (by omega)]
          refine ⟨rfl, u.y, (u.m : Int) + 1, u.d + 1, ⟨u1, u2, by omega, by omega, by omega, by omega, ?_⟩, rfl⟩
          rw [show ((u.m : Int) + 1 - 1).toNat = u.m by omega]
          omega
def c_279 (a : List R) (K : List R → List (List D) → Prop) : Prop := match a with
  | [.d (.v (.int .i64 n))] => -719162 ≤ n ∧ n ≤ 2932896 ∧ ∀ y m d : Int, IsCiv n y m d → K [.d (.v (.int .i64 y)), .d (.v (.int .i64 m)), .d (.v (.int .i64 d)), .d (.v (.int .i64 0))] []
  | _ => False
theorem c_279_ok (G : GlOk gl) (a : List R) (K : List R → List (List D) → Prop) (h : c_279 a K) : Ct prog gl 96 a K := by
  unfold c_279 at h
  split at h
  · obtain ⟨h1, h2, h3⟩ := h
    exact (ct279 G _ h1 h2).mono fun res fin ⟨e1, y, m, d, h, e2⟩ => by subst e1; subst e2; exact h3 y m d h
  · exact h.elim
def C_t279 : CallT := addC C_t212 96 c_279
theorem C_t279_ok (G : GlOk gl) : CallsOk prog gl C_t279 := addC_ok (C_t212_ok G) (c_279_ok G)
theorem vc213 (n : Int) (Q : List R → List (List D) → Prop) : vc E_0 C_t279 noI fi80 (f80.body.getD .skip) f80.results.toList [.d (.v (.int .i64 n))] Q = ( (-719162 : Int) ≤ n ∧ n ≤ (2932896 : Int) ∧ ∀ (y m d : Int), IsCiv n y m d → (((0 : Int) != (0 : Int)) = true → Q [.d (.v (.string ⟨⟨[]⟩⟩)), .d (.v (.int .i64 0))] []) ∧ (((0 : Int) != (0 : Int)) = false → in64 y ∧ (tx (Lib.itoa y)).size ≤ (100 : Nat) ∧ (0 : Int) ≤ (4 : Int) ∧ (4 : Int) ≤ (100 : Int) ∧ (tx (padL (Lib.itoa y) (4 : Int))).size.succ ≤ (9223372036854775807 : Nat) ∧ in64 m ∧ (tx (Lib.itoa m)).size ≤ (100 : Nat) ∧ (0 : Int) ≤ (2 : Int) ∧ (2 : Int) ≤ (100 : Int) ∧ (tx (padL (Lib.itoa y) (4 : Int)) ++ { data := { toList := [(45 : UInt8)] : Array UInt8 } : ByteArray }).size.add (tx (padL (Lib.itoa m) (2 : Int))).size ≤ (9223372036854775807 : Nat) ∧ (tx (padL (Lib.itoa y) (4 : Int)) ++ { data := { toList := [(45 : UInt8)] : Array UInt8 } : ByteArray } ++ tx (padL (Lib.itoa m) (2 : Int))).size.succ ≤ (9223372036854775807 : Nat) ∧ in64 d ∧ (tx (Lib.itoa d)).size ≤ (100 : Nat) ∧ (0 : Int) ≤ (2 : Int) ∧ (2 : Int) ≤ (100 : Int) ∧ (tx (padL (Lib.itoa y) (4 : Int)) ++ { data := { toList := [(45 : UInt8)] : Array UInt8 } : ByteArray } ++ tx (padL (Lib.itoa m) (2 : Int)) ++ { data := { toList := [(45 : UInt8)] : Array UInt8 } : ByteArray }).size.add (tx (padL (Lib.itoa d) (2 : Int))).size ≤ (9223372036854775807 : Nat) ∧ Q [.d (.v (.string (tx (padL (Lib.itoa y) (4 : Int)) ++ { data := { toList := [(45 : UInt8)] : Array UInt8 } : ByteArray } ++ tx (padL (Lib.itoa m) (2 : Int)) ++ { data := { toList := [(45 : UInt8)] : Array UInt8 } : ByteArray } ++ tx (padL (Lib.itoa d) (2 : Int))))), .d (.v (.int .i64 0))] [])) := by kernel_rfl
theorem ct213 (G : GlOk gl) (n : Int) (h1 : -719162 ≤ n) (h2 : n ≤ 2932896) : Ct prog gl 80 [.d (.v (.int .i64 n))] (gives [.d (.v (.string (tx (dayTx n)))), .d (.v (.int .i64 0))]) := by
  refine ct_of_vc E_ok (C_t279_ok G) ioK_no it_ok mixed (fn := f80) (body := f80.body.getD .skip) (by kernel_rfl) (by kernel_rfl) (by kernel_rfl) (fi := fi80) (by kernel_rfl) (by kernel_rfl) ⟨_, _, rfl, rfl⟩ ?_
  rw [vc213]
  refine ⟨h1, h2, fun y m d hc => ⟨fun h => (by cases h), fun _ => ?_⟩⟩
  rw [dayTx_of hc]
  obtain ⟨c1, c2, c3, c4, c5, c6, c7⟩ := hc
  have hm := month_pos (y := y) (m := m) (by omega) c3 c4
  have iy : in64 y := ⟨by omega, by omega⟩
  have im : in64 m := ⟨by omega, by omega⟩
  have id : in64 d := ⟨by omega, by omega⟩
  have ly := itoa_len iy
  have lm := itoa_len im
  have ld := itoa_len id
  have py := padL_le ly (show (4 : Int) ≤ ((21 : Nat) : Int) by decide)
  have pm := padL_le lm (show (2 : Int) ≤ ((21 : Nat) : Int) by decide)
  have pd := padL_le ld (show (2 : Int) ≤ ((21 : Nat) : Int) by decide)
  have h45 : ({ data := { toList := [45] } } : ByteArray) = tx [45] := rfl
  rw [h45]
  unfold dayT
  refine ⟨iy, by rw [tx_size]; omega, by decide, by decide, ?_, im, by rw [tx_size]; omega, by decide, by decide, ?_, ?_, id, by rw [tx_size]; omega, by decide, by decide, ?_, ?_, rfl⟩
  · rw [tx_size]; omega
  · rw [tx_append, tx_size, tx_size]; simp; omega
  · rw [tx_append, tx_append, tx_size]; simp; omega
  · rw [tx_append, tx_append, tx_append, tx_size, tx_size]; simp; omega
  · rw [tx_append, tx_append, tx_append, tx_append]
def c_213 (a : List R) (K : List R → List (List D) → Prop) : Prop := match a with
  | [.d (.v (.int .i64 n))] => -719162 ≤ n ∧ n ≤ 2932896 ∧ K [.d (.v (.string (tx (dayTx n)))), .d (.v (.int .i64 0))] []
  | _ => False
theorem c_213_ok (G : GlOk gl) (a : List R) (K : List R → List (List D) → Prop) (h : c_213 a K) : Ct prog gl 80 a K := by
  unfold c_213 at h
  split at h
  · obtain ⟨h0, h1, hk⟩ := h
    exact (ct213 G _ h0 h1).gives hk
  · exact h.elim
def C_t213 : CallT := addC C_t279 80 c_213
theorem C_t213_ok (G : GlOk gl) : CallsOk prog gl C_t213 := addC_ok (C_t279_ok G) (c_213_ok G)
end Go.Proofs.Tryz
