/- A part of the proof: contracts of functions, by a verified generator of conditions; no condition of its own. -/
import Derived.Test.YtgjghnooiaaeiaaGreatDoorBg18
import Derived.Test.YtgjghnooiaaeiaaGreatDoorS9
namespace Go.Proofs.Tryz
open Go Go.Dm Go.Ex
set_option maxRecDepth 100000
variable {gl : Nat → Option Obj}
def c_42 (a : List R) (K : KT) : Prop := match a with
 | [.agg x, .d (.sl y), .d (.sl z)] => ∃ (e : EX) (l r : List Ty), x = cells e ∧ y = l.map Ty.cs ∧ z = r.map Ty.cs ∧ fits e ∧ size e ≤ 1000000000 ∧ l.length + r.length ≤ 1000000000 ∧ ∀ a b c : List EX, splitE l r e = ⟨a, b, c⟩ → K [.d (.sl (cellsL a)), .d (.sl (cellsL b)), .d (.sl (cellsL c))] []
 | _ => False
theorem c_42_ok (a : List R) (K : KT) (h : c_42 a K) : Ct prog gl 5 a K := by
 unfold c_42 at h
 split at h
 · obtain ⟨e, l, r, rfl, rfl, rfl, h1, h2, h3, h4⟩ := h
   have hc := ct42 (gl := gl) l r h3 e h1 h2
   rcases hr : splitE l r e with ⟨a, b, c⟩
   rw [hr] at hc
   exact hc.gives (h4 _ _ _ hr)
 · exact h.elim
theorem c_43_ok (a : List R) (K : KT) (h : c_42 a K) : Ct prog gl 6 a K := by
 unfold c_42 at h
 split at h
 · obtain ⟨e, l, r, rfl, rfl, rfl, h1, h2, h3, h4⟩ := h
   have hc := ct43 (gl := gl) l r h3 e h1 h2
   rcases hr : splitE l r e with ⟨a, b, c⟩
   rw [hr] at hc
   exact hc.gives (h4 _ _ _ hr)
 · exact h.elim
def c_41 (a : List R) (K : KT) : Prop := match a with
 | [] => K [.d (.v (.bool true))] []
 | _ => False
theorem c_41_ok (a : List R) (K : KT) (h : c_41 a K) : Ct prog gl 7 a K := by
 unfold c_41 at h
 split at h
 · exact (run_Yt gl).gives h
 · exact h.elim
def C_s10 : CallT := addC (addC (addC (addC C_0 5 c_42) 6 c_42) 7 c_41) 8 c_44
def Zer (a0 a1 : Int) (a2 : Ty) (a3 : Go.Ex.AV) (a4 : List EX) (a5 a6 : List Ty) (k : EX → (List Ty) → (List Ty) → Prop) : Prop := ∃ (e : EX), ∃ (l_1 : List Ty), Zca a0 a1 a2 a3 a4 e fun r_1 => List.map Ty.cs a5 = List.map Ty.cs l_1 ∧ List.map Ty.cs a6 = List.map Ty.cs r_1 ∧ fits e ∧ size e ≤ (1000000000 : Nat) ∧ l_1.length.add r_1.length ≤ 1000000000 ∧ k e l_1 r_1
def Zex (a0 a1 : Int) (a2 : Ty) (a3 : Go.Ex.AV) (a4 : List EX) (a5 a6 : List Ty) (k : EX → (List Ty) → (List Ty) → (List EX) → (List EX) → (List EX) → Prop) : Prop := Zer a0 a1 a2 a3 a4 a5 a6 fun e l_1 r_1 => ∀ (a b c : List EX), k e l_1 r_1 a b c
def Zcw (a0 a1 : List EX) (k : Prop) : Prop := ∃ (l : List EX), cellsL a0 = cellsL l ∧ cellsL a1 = cellsL l ∧ fitsL l ∧ l.length ≤ 1353245080300 ∧ k
def Zdr (a0 a1 : List EX) (a2 : KT) : Prop := Zcw a0 a1 (a2 [.d (.v (.bool true))] [])
def Zeo (a0 a1 a2 a3 : List EX) (a4 : KT) : Prop := Zcw a0 a1 ((true = true → Zdr a2 a3 a4) ∧ (true = !true → Zcr a4))
def Zff (a0 a1 : List EX) (a2 : KT) : Prop := (false = true → Zdr a0 a1 a2) ∧ (false = !true → Zcr a2)
theorem vc10 (op sub : Int) (t : Ty) (v : Go.Ex.AV) (args : List EX) (l r : List Ty) (Q : KT) : vc E_9s C_s10 noI fi3 (f3.body.getD .skip) f3.results.toList [.agg (encX op sub t v (cellsL args)), .d (.sl (l.map Ty.cs)), .d (.sl (r.map Ty.cs))] Q = ( Zex op sub t v args l r fun e l_1 r_1 a b c => splitE l_1 r_1 e = { a := a, b := b, rest := c : SP } → Zex op sub t v args l r fun e l_2 r_2 a_2 b_1 c_1 => splitE l_2 r_2 e = { a := a_2, b := b_1, rest := c_1 : SP } → (true = true → Zcw a a_2 ((true = true → Zeo b b_1 c c_1 Q) ∧ (true = !true → Zff c c_1 Q))) ∧ (true = !true → (false = true → Zeo b b_1 c c_1 Q) ∧ (false = !true → Zff c c_1 Q))) := by kernel_rfl
theorem law_10 (l r : List Ty) (hlr : l.length + r.length ≤ 1000000000) : ∀ e : EX, fits e → size e ≤ 1000000000 → Ct prog gl 3 [.agg (cells e), .d (.sl (l.map Ty.cs)), .d (.sl (r.map Ty.cs))] (gives [.d (.v (.bool true))])
 | .mk op sub t v args, hf, hs => by
   have hC : CallsOk prog gl C_s10 := addC_ok (addC_ok (addC_ok (addC_ok C_0_ok c_42_ok) c_43_ok) c_41_ok) c_44_ok
   have hcc : encX op sub t v (cellsL args) = cells (.mk op sub t v args) := (cells_mk _ _ _ _ _).symm
   rw [cells_mk]
   refine ct_of_vc (E := E_9s) ⟨E_ok.te⟩ hC ioK_no (fun _ _ _ h => h.elim) mixed (fn := f3) (body := f3.body.getD .skip) (by kernel_rfl) (by kernel_rfl) (by kernel_rfl) (fi := fi3) (by kernel_rfl) (by kernel_rfl) ⟨_, _, rfl, rfl⟩ ?_
   rw [vc10]; dsimp -eta -iota -proj only [Zex, Zer, Zca, Z2, Zz, Zcw, Zeo, Zdr, Zcr, Zff]
   refine ⟨.mk op sub t v args, l, r, hcc, rfl, rfl, hf, hs, hlr, fun a b c h1 => ⟨.mk op sub t v args, l, r, hcc, rfl, rfl, hf, hs, hlr, fun a2 b2 c2 h2 => ?_⟩⟩
   rw [h1] at h2
   injection h2 with q1 q2 q3
   subst q1; subst q2; subst q3
   have hk := split_ok hlr hf hs
   rw [h1] at hk
   obtain ⟨⟨k1, k2, k3⟩, k4, k5, k6⟩ := hk
   dsimp only at k1 k2 k3 k4 k5 k6
   exact ⟨fun _ => ⟨a, rfl, rfl, k1, by omega, fun _ => ⟨b, rfl, rfl, k2, by omega, fun _ => ⟨c, rfl, rfl, k3, by omega, rfl, rfl⟩, fun h => by cases h⟩, fun h => by cases h⟩, fun h => by cases h⟩
end Go.Proofs.Tryz
