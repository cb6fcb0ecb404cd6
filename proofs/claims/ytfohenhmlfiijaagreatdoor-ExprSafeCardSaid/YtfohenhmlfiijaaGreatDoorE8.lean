/- A part of the proof: contracts of functions, by a verified generator of conditions; no condition of its own. -/
import Derived.Test.YtfohenhmlfiijaaGreatDoorE7
namespace Go.Proofs.Tryz
open Go Go.Dm Go.Ex
set_option maxRecDepth 100000
variable {gl : Nat → Option Obj}
/-- A part that may be reckoned. -/
def SubOk (row : List Go.Ex.AV) (n : Nat) (e : EX) : Prop := size e < n ∧ fits e ∧ mayE row.length e = true ∧ (typedE (typesV row) e).2 = true
def Is {α : Type} (o : Option α) (w : α) (ok : Bool) : Prop := ok = o.isSome ∧ ∀ a, o = some a → w = a
noncomputable def trE (row : List Go.Ex.AV) (e : EX) : Option Int := (evE row e).map truthP
noncomputable def asE (row : List Go.Ex.AV) (t : Ty) (e : EX) : Option Go.Ex.AV := (evE row e).bind (asV t)
def c_57v (n : Nat) (a : List R) (K : List R → List (List D) → Prop) : Prop := match a with
  | [.ptr [.sl r, .sl y], .agg x] => ∃ (e : EX) (row : List Go.Ex.AV), r = row.map Go.Ex.AV.cs ∧ y = (typesV row).map Ty.cs ∧ x = cells e ∧ SubOk row n e ∧ RowOk row ∧ row.length ≤ 4398046511104 ∧ ∀ (w : Go.Ex.AV) (ok : Bool), Is (evE row e) w ok → K [.agg w.cs, .d (.v (.bool ok))] []
  | _ => False
def c_116v (n : Nat) (a : List R) (K : List R → List (List D) → Prop) : Prop := match a with
  | [.ptr [.sl r, .sl y], .agg x] => ∃ (e : EX) (row : List Go.Ex.AV), r = row.map Go.Ex.AV.cs ∧ y = (typesV row).map Ty.cs ∧ x = cells e ∧ SubOk row n e ∧ RowOk row ∧ row.length ≤ 4398046511104 ∧ ∀ (tr : Int) (ok : Bool), Is (trE row e) tr ok → K [.d (.v (.int .i64 tr)), .d (.v (.bool ok))] []
  | _ => False
def c_119v (n : Nat) (a : List R) (K : List R → List (List D) → Prop) : Prop := match a with
  | [.ptr [.sl r, .sl y], .agg x, .agg z] => ∃ (e : EX) (row : List Go.Ex.AV) (t : Ty), r = row.map Go.Ex.AV.cs ∧ y = (typesV row).map Ty.cs ∧ x = cells e ∧ z = t.cs ∧ SubOk row n e ∧ RowOk row ∧ row.length ≤ 4398046511104 ∧ ∀ (w : Go.Ex.AV) (ok : Bool), Is (asE row t e) w ok → K [.agg w.cs, .d (.v (.bool ok))] []
  | _ => False
def c_115v (n : Nat) (a : List R) (K : List R → List (List D) → Prop) : Prop := match a with
  | [.ptr [.sl r, .sl y], .agg x] => ∃ (op sub : Int) (t : Ty) (v : Go.Ex.AV) (args : List EX) (row : List Go.Ex.AV), r = row.map Go.Ex.AV.cs ∧ y = (typesV row).map Ty.cs ∧ x = encX op sub t v (cellsL args) ∧ (op = 10 ∨ op = 11) ∧ args.length = 2 ∧ (∀ e ∈ args, SubOk row n e) ∧ RowOk row ∧ row.length ≤ 4398046511104 ∧ ∀ (w : Go.Ex.AV) (ok : Bool), Is (logicV op (evL row args)) w ok → K [.agg w.cs, .d (.v (.bool ok))] []
  | _ => False
def C_v57 (n : Nat) : CallT := addC C_t122r 20 (c_57v n)
theorem vc116v (n : Nat) (op sub : Int) (t : Ty) (v : Go.Ex.AV) (args : List EX) (r y : List (List D)) (Q : List R → List (List D) → Prop) : vc E_9 (C_v57 n) noI fi37 (f37.body.getD .skip) f37.results.toList [.ptr [.sl r, .sl y], .agg (encX op sub t v (cellsL args))] Q = ( ∃ (e : EX), ∃ (row : List AV), r = List.map AV.cs row ∧ y = List.map Ty.cs (typesV row) ∧ [D.i op, D.i sub, D.i t.1, D.i t.2, D.i v.1.1, D.i v.1.2, D.v (.bool v.2), D.i v.3, D.v (.string v.4), D.sl (cellsL args)] = cells e ∧ SubOk row n e ∧ RowOk row ∧ row.length ≤ 4398046511104 ∧ ∀ (w : AV) (ok : Bool), Is (evE row e) w ok → Q [.d (.i (s196_0 w.1.1 w.1.2 w.2 w.3 w.4)), .d (.v (.bool ok))] []) := by kernel_rfl
theorem vc119v (n : Nat) (op sub : Int) (t : Ty) (v : Go.Ex.AV) (args : List EX) (r y : List (List D)) (u : Ty) (Q : List R → List (List D) → Prop) : vc E_9 (C_v57 n) noI fi40 (f40.body.getD .skip) f40.results.toList [.ptr [.sl r, .sl y], .agg (encX op sub t v (cellsL args)), .agg u.cs] Q = ( ∃ (e : EX), ∃ (row : List AV), r = List.map AV.cs row ∧ y = List.map Ty.cs (typesV row) ∧ [D.i op, D.i sub, D.i t.1, D.i t.2, D.i v.1.1, D.i v.1.2, D.v (.bool v.2), D.i v.3, D.v (.string v.4), D.sl (cellsL args)] = cells e ∧ SubOk row n e ∧ RowOk row ∧ row.length ≤ 4398046511104 ∧ ∀ (w : AV) (ok : Bool), Is (evE row e) w ok → ((!ok) = true → Q [.agg [.i w.1.1, .i w.1.2, .v (.bool w.2), .i w.3, .v (.string w.4)], .d (.v (.bool false))] []) ∧ ((!ok) = false → ValP { t := { k := w.1.1, sc := w.1.2 : Ty }, nul := w.2, n := w.3, s := w.4 : AV } ∧ in64 w.3 ∧ Q [.agg [.v (.int .i64 (castV { t := { k := w.1.1, sc := w.1.2 : Ty }, nul := w.2, n := w.3, s := w.4 : AV } { k := u.1, sc := u.2 : Ty }).1.1.1), .v (.int .i64 (castV { t := { k := w.1.1, sc := w.1.2 : Ty }, nul := w.2, n := w.3, s := w.4 : AV } { k := u.1, sc := u.2 : Ty }).1.1.2), .v (.bool (castV { t := { k := w.1.1, sc := w.1.2 : Ty }, nul := w.2, n := w.3, s := w.4 : AV } { k := u.1, sc := u.2 : Ty }).1.2), .v (.int .i64 (castV { t := { k := w.1.1, sc := w.1.2 : Ty }, nul := w.2, n := w.3, s := w.4 : AV } { k := u.1, sc := u.2 : Ty }).1.3), .v (.string (castV { t := { k := w.1.1, sc := w.1.2 : Ty }, nul := w.2, n := w.3, s := w.4 : AV } { k := u.1, sc := u.2 : Ty }).1.4)], .d (.v (.bool ((castV { t := { k := w.1.1, sc := w.1.2 : Ty }, nul := w.2, n := w.3, s := w.4 : AV } { k := u.1, sc := u.2 : Ty }).2 == (0 : Int))))] [])) := by kernel_rfl
def C_v116 (n : Nat) : CallT := addC C_t122r 37 (c_116v n)
theorem vc115v (n : Nat) (op sub : Int) (t : Ty) (v : Go.Ex.AV) (args : List EX) (r y : List (List D)) (Q : List R → List (List D) → Prop) : vc E_9 (C_v116 n) noI fi36 (f36.body.getD .skip) f36.results.toList [.ptr [.sl r, .sl y], .agg (encX op sub t v (cellsL args))] Q = ( ((op == 11) = true → ∃ (es : List (List D)), D.sl (cellsL args) = D.sl es ∧ ((0 : Int) ≤ 0 ∧ 0 < (↑es.length : Int)) ∧ ∃ (cells : List D), es[Int.toNat (0 : Int)]? = some cells ∧ cells.length = 10 ∧ ∃ (n_1 n_2 n_3 n_4 n_5 n_6 : Int), ∃ (b : Bool), ∃ (n_7 : Int), ∃ (b_1 : ByteArray), ∃ (es : List (List D)), cut 0 10 cells = some [D.i n_1, D.i n_2, D.i n_3, D.i n_4, D.i n_5, D.i n_6, D.v (.bool b), D.i n_7, D.v (.string b_1), D.sl es] ∧ ∃ (e : EX), ∃ (row : List AV), r = List.map AV.cs row ∧ y = List.map Ty.cs (typesV row) ∧ [D.i n_1, D.i n_2, D.i n_3, D.i n_4, D.i n_5, D.i n_6, D.v (.bool b), D.i n_7, D.v (.string b_1), D.sl es] = Ex.cells e ∧ SubOk row n e ∧ RowOk row ∧ row.length ≤ 4398046511104 ∧ ∀ (tr : Int) (ok : Bool), Is (trE row e) tr ok → ((bif !ok then true else tr == 1) = true → Q [.agg [.v (.int .i64 (liftV tr).1.1), .v (.int .i64 (liftV tr).1.2), .v (.bool (liftV tr).2), .v (.int .i64 (liftV tr).3), .v (.string (liftV tr).4)], .d (.v (.bool ok))] []) ∧ ((bif !ok then true else tr == 1) = false → ∃ (es : List (List D)), D.sl (cellsL args) = D.sl es ∧ ((0 : Int) ≤ 1 ∧ 1 < (↑es.length : Int)) ∧ ∃ (cells : List D), es[Int.toNat (1 : Int)]? = some cells ∧ cells.length = 10 ∧ ∃ (n_8 n_9 n_10 n_11 n_12 n_13 : Int), ∃ (b : Bool), ∃ (n_14 : Int), ∃ (b_2 : ByteArray), ∃ (es : List (List D)), cut 0 10 cells = some [D.i n_8, D.i n_9, D.i n_10, D.i n_11, D.i n_12, D.i n_13, D.v (.bool b), D.i n_14, D.v (.string b_2), D.sl es] ∧ ∃ (e : EX), ∃ (row : List AV), r = List.map AV.cs row ∧ y = List.map Ty.cs (typesV row) ∧ [D.i n_8, D.i n_9, D.i n_10, D.i n_11, D.i n_12, D.i n_13, D.v (.bool b), D.i n_14, D.v (.string b_2), D.sl es] = Ex.cells e ∧ SubOk row n e ∧ RowOk row ∧ row.length ≤ 4398046511104 ∧ ∀ (tr_1 : Int) (ok : Bool), Is (trE row e) tr_1 ok → Q [.agg [.v (.int .i64 (liftV (s195_0 tr tr_1)).1.1), .v (.int .i64 (liftV (s195_0 tr tr_1)).1.2), .v (.bool (liftV (s195_0 tr tr_1)).2), .v (.int .i64 (liftV (s195_0 tr tr_1)).3), .v (.string (liftV (s195_0 tr tr_1)).4)], .d (.v (.bool ok))] [])) ∧ ((op == 11) = false → ∃ (es : List (List D)), D.sl (cellsL args) = D.sl es ∧ ((0 : Int) ≤ 0 ∧ 0 < (↑es.length : Int)) ∧ ∃ (cells : List D), es[Int.toNat (0 : Int)]? = some cells ∧ cells.length = 10 ∧ ∃ (n_1 n_2 n_3 n_4 n_5 n_6 : Int), ∃ (b : Bool), ∃ (n_7 : Int), ∃ (b_1 : ByteArray), ∃ (es : List (List D)), cut 0 10 cells = some [D.i n_1, D.i n_2, D.i n_3, D.i n_4, D.i n_5, D.i n_6, D.v (.bool b), D.i n_7, D.v (.string b_1), D.sl es] ∧ ∃ (e : EX), ∃ (row : List AV), r = List.map AV.cs row ∧ y = List.map Ty.cs (typesV row) ∧ [D.i n_1, D.i n_2, D.i n_3, D.i n_4, D.i n_5, D.i n_6, D.v (.bool b), D.i n_7, D.v (.string b_1), D.sl es] = Ex.cells e ∧ SubOk row n e ∧ RowOk row ∧ row.length ≤ 4398046511104 ∧ ∀ (tr : Int) (ok : Bool), Is (trE row e) tr ok → ((bif !ok then true else tr == 0) = true → Q [.agg [.v (.int .i64 (liftV tr).1.1), .v (.int .i64 (liftV tr).1.2), .v (.bool (liftV tr).2), .v (.int .i64 (liftV tr).3), .v (.string (liftV tr).4)], .d (.v (.bool ok))] []) ∧ ((bif !ok then true else tr == 0) = false → ∃ (es : List (List D)), D.sl (cellsL args) = D.sl es ∧ ((0 : Int) ≤ 1 ∧ 1 < (↑es.length : Int)) ∧ ∃ (cells : List D), es[Int.toNat (1 : Int)]? = some cells ∧ cells.length = 10 ∧ ∃ (n_8 n_9 n_10 n_11 n_12 n_13 : Int), ∃ (b : Bool), ∃ (n_14 : Int), ∃ (b_2 : ByteArray), ∃ (es : List (List D)), cut 0 10 cells = some [D.i n_8, D.i n_9, D.i n_10, D.i n_11, D.i n_12, D.i n_13, D.v (.bool b), D.i n_14, D.v (.string b_2), D.sl es] ∧ ∃ (e : EX), ∃ (row : List AV), r = List.map AV.cs row ∧ y = List.map Ty.cs (typesV row) ∧ [D.i n_8, D.i n_9, D.i n_10, D.i n_11, D.i n_12, D.i n_13, D.v (.bool b), D.i n_14, D.v (.string b_2), D.sl es] = Ex.cells e ∧ SubOk row n e ∧ RowOk row ∧ row.length ≤ 4398046511104 ∧ ∀ (tr_1 : Int) (ok : Bool), Is (trE row e) tr_1 ok → Q [.agg [.v (.int .i64 (liftV (s194_0 tr tr_1)).1.1), .v (.int .i64 (liftV (s194_0 tr tr_1)).1.2), .v (.bool (liftV (s194_0 tr tr_1)).2), .v (.int .i64 (liftV (s194_0 tr tr_1)).3), .v (.string (liftV (s194_0 tr tr_1)).4)], .d (.v (.bool ok))] []))) := by kernel_rfl
theorem is_ex {α : Type} (o : Option α) (d : α) : ∃ w ok, Is o w ok := by
  cases o with
  | none => exact ⟨d, false, rfl, fun a h => by cases h⟩
  | some a => exact ⟨a, true, rfl, fun b h => by cases h; rfl⟩
theorem is_map {α β : Type} {f : α → β} {o : Option α} {w : α} {ok : Bool} (h : Is o w ok) : Is (o.map f) (f w) ok := by
  obtain ⟨h1, h2⟩ := h
  cases o with
  | none => exact ⟨h1, fun a h => by cases h⟩
  | some a => exact ⟨h1, fun b hb => by simp only [Option.map_some, Option.some.injEq] at hb; rw [h2 a rfl, hb]⟩
theorem is_none {α : Type} {o : Option α} {w : α} (h : Is o w false) : o = none := by
  cases o with
  | none => rfl
  | some a => cases h.1
theorem is_some {α : Type} {o : Option α} {w : α} (h : Is o w true) : o = some w := by
  cases o with
  | none => cases h.1
  | some a => rw [h.2 a rfl]
theorem is_as (t : Ty) (w : Go.Ex.AV) : Is (asV t w) (castV w t).1 ((castV w t).2 == 0) := by
  unfold asV
  cases (castV w t).2 == 0
  · exact ⟨rfl, fun a h => by cases h⟩
  · exact ⟨rfl, fun a h => by simp only [cond_true, Option.some.injEq] at h; exact h⟩
theorem is_no {α : Type} (w : α) : Is (none : Option α) w false := ⟨rfl, fun a h => by cases h⟩
theorem is_yes {α : Type} (w : α) : Is (some w) w true := ⟨rfl, fun a h => by cases h; rfl⟩
theorem ct116v (G : GlOk gl) (n : Nat) (hC : CallsOk prog gl (C_v57 n)) (e : EX) (row : List Go.Ex.AV) (hs : SubOk row n e) (hr : RowOk row) (hrl : row.length ≤ 4398046511104) :
    Ct prog gl 37 [.ptr [.sl (row.map Go.Ex.AV.cs), .sl ((typesV row).map Ty.cs)], .agg (cells e)] (fun res fin => fin = [] ∧ ∃ (tr : Int) (ok : Bool), Is (trE row e) tr ok ∧ res = [.d (.v (.int .i64 tr)), .d (.v (.bool ok))]) := by
  obtain ⟨op, sub, t, v, args⟩ := e
  rw [cells_mk]
  refine ct_of_vc (E := E_9) ⟨E_ok.te⟩ hC ioK_no (fun _ _ _ h => h.elim) mixed (fn := f37) (body := f37.body.getD .skip) (by kernel_rfl) (by kernel_rfl) (by kernel_rfl) (fi := fi37) (by kernel_rfl) (by kernel_rfl) (let ⟨tr, ok, h⟩ := is_ex (trE row (.mk op sub t v args)) 0; ⟨_, _, rfl, tr, ok, h, rfl⟩) ?_
  rw [vc116v]
  exact ⟨.mk op sub t v args, row, rfl, rfl, (cells_mk _ _ _ _ _).symm, hs, hr, hrl, fun w ok hi => ⟨rfl, _, _, is_map hi, rfl⟩⟩
theorem ct119v (G : GlOk gl) (n : Nat) (hC : CallsOk prog gl (C_v57 n)) (e : EX) (row : List Go.Ex.AV) (u : Ty) (hs : SubOk row n e) (hr : RowOk row) (hrl : row.length ≤ 4398046511104) :
    Ct prog gl 40 [.ptr [.sl (row.map Go.Ex.AV.cs), .sl ((typesV row).map Ty.cs)], .agg (cells e), .agg u.cs] (fun res fin => fin = [] ∧ ∃ (w : Go.Ex.AV) (ok : Bool), Is (asE row u e) w ok ∧ res = [.agg w.cs, .d (.v (.bool ok))]) := by
  obtain ⟨op, sub, t, v, args⟩ := e
  rw [cells_mk]
  refine ct_of_vc (E := E_9) ⟨E_ok.te⟩ hC ioK_no (fun _ _ _ h => h.elim) mixed (fn := f40) (body := f40.body.getD .skip) (by kernel_rfl) (by kernel_rfl) (by kernel_rfl) (fi := fi40) (by kernel_rfl) (by kernel_rfl) (let ⟨tr, ok, h⟩ := is_ex (asE row u (.mk op sub t v args)) zeroV; ⟨_, _, rfl, tr, ok, h, rfl⟩) ?_
  rw [vc119v]
  refine ⟨.mk op sub t v args, row, rfl, rfl, (cells_mk _ _ _ _ _).symm, hs, hr, hrl, fun w ok hi => ⟨fun h => ?_, fun h => ?_⟩⟩ <;> unfold asE
  · have : ok = false := by simpa using h
    subst this
    rw [is_none hi]
    exact ⟨rfl, w, false, is_no w, rfl⟩
  · have : ok = true := by simpa using h
    subst this
    have he := is_some hi
    have hg := evE_ok hr hs.2.1 hs.2.2.1 hs.2.2.2 he
    rw [he]
    exact ⟨hg.2.1, hg.2.2, rfl, (castV w u).1, _, is_as u w, rfl⟩
theorem c_116v_ok (G : GlOk gl) (n : Nat) (hC : CallsOk prog gl (C_v57 n)) (a : List R) (K : List R → List (List D) → Prop) (h : c_116v n a K) : Ct prog gl 37 a K := by
  unfold c_116v at h
  split at h
  · obtain ⟨e, row, rfl, rfl, rfl, h1, h2, h3, h4⟩ := h
    exact (ct116v G n hC e row h1 h2 h3).mono fun res fin ⟨e1, tr, ok, hi, e2⟩ => by subst e1; subst e2; exact h4 tr ok hi
  · exact h.elim
theorem c_119v_ok (G : GlOk gl) (n : Nat) (hC : CallsOk prog gl (C_v57 n)) (a : List R) (K : List R → List (List D) → Prop) (h : c_119v n a K) : Ct prog gl 40 a K := by
  unfold c_119v at h
  split at h
  · obtain ⟨e, row, t, rfl, rfl, rfl, rfl, h1, h2, h3, h4⟩ := h
    exact (ct119v G n hC e row t h1 h2 h3).mono fun res fin ⟨e1, tr, ok, hi, e2⟩ => by subst e1; subst e2; exact h4 tr ok hi
  · exact h.elim
theorem logic_a {op : Int} {a : Go.Ex.AV} {r : List (Option Go.Ex.AV)} (h : (truthP a == (if op = 11 then 1 else 0)) = true) : logicV op (some a :: r) = some (liftV (truthP a)) := by
  show (bif truthP a == (if op = 11 then 1 else 0) then _ else _) = _
  rw [h]; rfl
theorem logic_b {op : Int} {a : Go.Ex.AV} {b : Option Go.Ex.AV} {r : List (Option Go.Ex.AV)} (h : (truthP a == (if op = 11 then 1 else 0)) = false) : logicV op (some a :: b :: r) = b.map fun b => liftV (if op = 11 then s195_0 (truthP a) (truthP b) else s194_0 (truthP a) (truthP b)) := by
  show (bif truthP a == (if op = 11 then 1 else 0) then _ else _) = _
  rw [h]
  cases b <;> rfl
theorem ct115v (G : GlOk gl) (n : Nat) (hC : CallsOk prog gl (C_v116 n)) (op sub : Int) (t : Ty) (v : Go.Ex.AV) (args : List EX) (row : List Go.Ex.AV) (ho : op = 10 ∨ op = 11) (ha : args.length = 2) (hs : ∀ e ∈ args, SubOk row n e) (hr : RowOk row) (hrl : row.length ≤ 4398046511104) :
    Ct prog gl 36 [.ptr [.sl (row.map Go.Ex.AV.cs), .sl ((typesV row).map Ty.cs)], .agg (encX op sub t v (cellsL args))] (fun res fin => fin = [] ∧ ∃ (w : Go.Ex.AV) (ok : Bool), Is (logicV op (evL row args)) w ok ∧ res = [.agg w.cs, .d (.v (.bool ok))]) := by
  refine ct_of_vc (E := E_9) ⟨E_ok.te⟩ hC ioK_no (fun _ _ _ h => h.elim) mixed (fn := f36) (body := f36.body.getD .skip) (by kernel_rfl) (by kernel_rfl) (by kernel_rfl) (fi := fi36) (by kernel_rfl) (by kernel_rfl) (let ⟨tr, ok, h⟩ := is_ex (logicV op (evL row args)) zeroV; ⟨_, _, rfl, tr, ok, h, rfl⟩) ?_
  rw [vc115v]
  obtain ⟨o0, s0, t0, v0, a0, e0, g0⟩ := arg_get (l := args) (i := 0) (by omega)
  obtain ⟨o1, s1, t1, v1, a1, e1, g1⟩ := arg_get (l := args) (i := 1) (by omega)
  have hev : evL row args = [evE row args[0], evE row args[1]] := by
    match args, ha with
    | [x, y], _ => simp only [evL]; rfl
  rw [hev]
  have step : ∀ (k : Int) (f : Int → Int → Int), (if op = 11 then (1 : Int) else 0) = k → (∀ x y, (if op = 11 then s195_0 x y else s194_0 x y) = f x y) → ∀ (tr : Int) (ok : Bool), Is (trE row args[0]) tr ok →
      ((bif !ok then true else tr == k) = true → Is (logicV op [evE row args[0], evE row args[1]]) (liftV tr) ok) ∧
      ((bif !ok then true else tr == k) = false → ∀ (tr1 : Int) (ok1 : Bool), Is (trE row args[1]) tr1 ok1 → Is (logicV op [evE row args[0], evE row args[1]]) (liftV (f tr tr1)) ok1) := by
    intro k f hk hf tr ok hi
    unfold trE at hi ⊢
    cases hx : evE row args[0] with
    | none =>
      rw [hx] at hi
      cases ok with
      | true => cases hi.1
      | false => exact ⟨fun _ => is_no _, fun h => by cases h⟩
    | some a =>
      rw [hx] at hi
      cases ok with
      | false => cases hi.1
      | true =>
        have htr : tr = truthP a := hi.2 _ rfl
        subst htr
        refine ⟨fun h => ?_, fun h tr1 ok1 h1 => ?_⟩
        · rw [logic_a (by rw [hk]; exact h)]; exact is_yes _
        · rw [logic_b (by rw [hk]; exact h)]
          cases hy : evE row args[1] with
          | none => rw [hy] at h1; cases ok1 with
            | true => cases h1.1
            | false => exact is_no _
          | some b => rw [hy] at h1; cases ok1 with
            | false => cases h1.1
            | true =>
              have : tr1 = truthP b := h1.2 _ rfl
              subst this
              rw [← hf]; exact is_yes _
  refine ⟨fun h => ?_, fun h => ?_⟩
  · have h : op = 11 := by simpa using h
    refine ⟨cellsL args, rfl, ⟨by decide, by rw [cellsL_len]; omega⟩, _, g0, rfl, o0, s0, t0.k, t0.sc, v0.t.k, v0.t.sc, v0.nul, v0.n, v0.s, cellsL a0, rfl, args[0], row, rfl, rfl, by rw [e0, cells_mk]; rfl, hs _ (List.getElem_mem _), hr, hrl, fun tr ok hi => ?_⟩
    obtain ⟨p1, p2⟩ := step 1 s195_0 (if_pos h) (fun x y => if_pos h) tr ok hi
    refine ⟨fun hc => ⟨rfl, _, _, p1 hc, rfl⟩, fun hc => ?_⟩
    exact ⟨cellsL args, rfl, ⟨by decide, by rw [cellsL_len]; omega⟩, _, g1, rfl, o1, s1, t1.k, t1.sc, v1.t.k, v1.t.sc, v1.nul, v1.n, v1.s, cellsL a1, rfl, args[1], row, rfl, rfl, by rw [e1, cells_mk]; rfl, hs _ (List.getElem_mem _), hr, hrl, fun tr1 ok1 hi1 => ⟨rfl, _, _, p2 hc tr1 ok1 hi1, rfl⟩⟩
  · have h : ¬ op = 11 := by simpa using h
    refine ⟨cellsL args, rfl, ⟨by decide, by rw [cellsL_len]; omega⟩, _, g0, rfl, o0, s0, t0.k, t0.sc, v0.t.k, v0.t.sc, v0.nul, v0.n, v0.s, cellsL a0, rfl, args[0], row, rfl, rfl, by rw [e0, cells_mk]; rfl, hs _ (List.getElem_mem _), hr, hrl, fun tr ok hi => ?_⟩
    obtain ⟨p1, p2⟩ := step 0 s194_0 (if_neg h) (fun x y => if_neg h) tr ok hi
    refine ⟨fun hc => ⟨rfl, _, _, p1 hc, rfl⟩, fun hc => ?_⟩
    exact ⟨cellsL args, rfl, ⟨by decide, by rw [cellsL_len]; omega⟩, _, g1, rfl, o1, s1, t1.k, t1.sc, v1.t.k, v1.t.sc, v1.nul, v1.n, v1.s, cellsL a1, rfl, args[1], row, rfl, rfl, by rw [e1, cells_mk]; rfl, hs _ (List.getElem_mem _), hr, hrl, fun tr1 ok1 hi1 => ⟨rfl, _, _, p2 hc tr1 ok1 hi1, rfl⟩⟩
theorem c_115v_ok (G : GlOk gl) (n : Nat) (hC : CallsOk prog gl (C_v116 n)) (a : List R) (K : List R → List (List D) → Prop) (h : c_115v n a K) : Ct prog gl 36 a K := by
  unfold c_115v at h
  split at h
  · obtain ⟨op, sub, t, v, args, row, rfl, rfl, rfl, h0, h1, h2, h3, h4, h5⟩ := h
    exact (ct115v G n hC op sub t v args row h0 h1 h2 h3 h4).mono fun res fin ⟨e1, tr, ok, hi, e2⟩ => by subst e1; subst e2; exact h5 tr ok hi
  · exact h.elim
def C_w57 (n : Nat) : CallT := addC (addC (addC (addC C_t122r 20 (c_57v n)) 37 (c_116v n)) 40 (c_119v n)) 36 (c_115v n)
def st_hp (op sub : Int) (t : Ty) (v : Go.Ex.AV) (args : List EX) (ty : Ty) : List (Nat × B) := [(3, .box [.d (.v (.int .i64 op)), .d (.v (.int .i64 sub)), .d (.v (.int .i64 t.k)), .d (.v (.int .i64 t.sc)), .d (.v (.int .i64 v.t.k)), .d (.v (.int .i64 v.t.sc)), .d (.v (.bool v.nul)), .d (.v (.int .i64 v.n)), .d (.v (.string v.s)), .d (.sl (cellsL args))]), (4, .box [.d (.v (.int .i64 0)), .d (.v (.int .i64 0)), .d (.v (.bool false)), .d (.v (.int .i64 0)), .d (.v (.string { data := { toList := [] : Array UInt8 } : ByteArray }))]), (6, .box [.d (.v (.int .i64 ty.k)), .d (.v (.int .i64 ty.sc))])]
def st_57a (op sub : Int) (t : Ty) (v : Go.Ex.AV) (args : List EX) (row : List Go.Ex.AV) (ty : Ty) (j : Nat) : St := { tm := [(0, .dptr [.sl (row.map Go.Ex.AV.cs), .sl ((typesV row).map Ty.cs)]), (3, .ref 3 0), (4, .ref 4 0), (5, .d (.v (.bool false))), (6, .ref 6 0), (10, .d (.v (.int .i64 (2 * (j : Int)))))], hp := st_hp op sub t v args ty, kn := [], gd := [] }
def st_57b (op sub : Int) (t : Ty) (v : Go.Ex.AV) (args : List EX) (row : List Go.Ex.AV) (ty : Ty) (j : Nat) : St := { tm := [(0, .dptr [.sl (row.map Go.Ex.AV.cs), .sl ((typesV row).map Ty.cs)]), (3, .ref 3 0), (4, .ref 4 0), (5, .d (.v (.bool false))), (6, .ref 6 0), (135, .d (.sl (cellsL args))), (136, .d (.v (.int .i64 ((cellsL args).length : Int)))), (137, .d (.v (.int .i64 (j : Int))))], hp := st_hp op sub t v args ty, kn := [], gd := [] }
def inv_57a (row : List Go.Ex.AV) (args : List EX) (ty : Ty) (m : Nat) (j : Nat) : Prop := 2 * j < args.length ∧ m = args.length - j ∧ caseV ty (evL row args) = caseV ty (evL row (args.drop (2 * j)))
def inv_57b (row : List Go.Ex.AV) (args : List EX) (ty : Ty) (m : Nat) (j : Nat) : Prop := j ≤ args.length ∧ m = args.length - j ∧ coalV ty (evL row args) = coalV ty (evL row (args.drop j))
def inv_57c (row : List Go.Ex.AV) (args : List EX) (m : Nat) (x : VX) : Prop := x.i ≤ args.length ∧ m = args.length - x.i ∧ x.l.length = x.i ∧ evL row (args.take x.i) = x.l.map some
def fx_57v (op sub : Int) (t : Ty) (v : Go.Ex.AV) (args : List EX) (row : List Go.Ex.AV) (ty : Ty) : Fi := { fi20 with lx := [(17, { X := Nat, sh := st_57a op sub t v args row ty, P := fun _ => inv_57a row args ty }), (27, { X := Nat, sh := st_57b op sub t v args row ty, P := fun _ => inv_57b row args ty }), (37, { X := VX, sh := st_57 op sub t v args row (typesV row), P := fun _ => inv_57c row args })] }
theorem vc57v (n : Nat) (op sub : Int) (t : Ty) (v : Go.Ex.AV) (args : List EX) (row : List Go.Ex.AV) (ty : Ty) (Q : List R → List (List D) → Prop) : vc E_9 (C_w57 n) noI (fx_57v op sub t v args row ty) (f20.body.getD .skip) f20.results.toList [.ptr [.sl (row.map Go.Ex.AV.cs), .sl ((typesV row).map Ty.cs)], .agg (encX op sub t v (cellsL args))] Q = ((fun (P_1 : Prop) => ( ∃ (es : List (List D)), some [D.sl (List.map Ty.cs (typesV row))] = some [D.sl es] ∧ (∃ (e : EX), ∃ (cols : List Ty), [D.i op, D.i sub, D.i t.1, D.i t.2, D.i v.1.1, D.i v.1.2, D.v (.bool v.2), D.i v.3, D.v (.string v.4), D.sl (cellsL args)] = cells e ∧ es = List.map Ty.cs cols ∧ fits e ∧ mayE (↑cols.length : Int) e = true ∧ cols.length ≤ 4398046511104 ∧ ∀ (t_1 : Ty) (ok : Bool), typedE cols e = (t_1, ok) → P_1 ∧ ((op == 1) = false → ((op == 2) = true → Q [.agg [.i v.1.1, .i v.1.2, .v (.bool v.2), .i v.3, .v (.string v.4)], .d (.v (.bool true))] []) ∧ ((op == 2) = false → ((op == 10) = true → ∃ (op_1 sub_1 : Int), ∃ (t_2 : Ty), ∃ (v_1 : AV), ∃ (args_1 : List EX), ∃ (row_1 : List AV), List.map AV.cs row = List.map AV.cs row_1 ∧ List.map Ty.cs (typesV row) = List.map Ty.cs (typesV row_1) ∧ [D.i op, D.i sub, D.i t.1, D.i t.2, D.i v.1.1, D.i v.1.2, D.v (.bool v.2), D.i v.3, D.v (.string v.4), D.sl (cellsL args)] = [D.i op_1, D.i sub_1, D.i t_2.1, D.i t_2.2, D.i v_1.1.1, D.i v_1.1.2, D.v (.bool v_1.2), D.i v_1.3, D.v (.string v_1.4), D.sl (cellsL args_1)] ∧ (op_1 = (10 : Int) ∨ op_1 = (11 : Int)) ∧ args_1.length = 2 ∧ (∀ (e : EX), e ∈ args_1 → SubOk row_1 n e) ∧ RowOk row_1 ∧ row_1.length ≤ 4398046511104 ∧ ∀ (w : AV) (ok : Bool), Is (logicV op_1 (evL row_1 args_1)) w ok → Q [.agg [.i w.1.1, .i w.1.2, .v (.bool w.2), .i w.3, .v (.string w.4)], .d (.v (.bool ok))] []) ∧ ((op == 10) = false → ((op == 11) = true → ∃ (op_1 sub_1 : Int), ∃ (t_2 : Ty), ∃ (v_1 : AV), ∃ (args_1 : List EX), ∃ (row_1 : List AV), List.map AV.cs row = List.map AV.cs row_1 ∧ List.map Ty.cs (typesV row) = List.map Ty.cs (typesV row_1) ∧ [D.i op, D.i sub, D.i t.1, D.i t.2, D.i v.1.1, D.i v.1.2, D.v (.bool v.2), D.i v.3, D.v (.string v.4), D.sl (cellsL args)] = [D.i op_1, D.i sub_1, D.i t_2.1, D.i t_2.2, D.i v_1.1.1, D.i v_1.1.2, D.v (.bool v_1.2), D.i v_1.3, D.v (.string v_1.4), D.sl (cellsL args_1)] ∧ (op_1 = (10 : Int) ∨ op_1 = (11 : Int)) ∧ args_1.length = 2 ∧ (∀ (e : EX), e ∈ args_1 → SubOk row_1 n e) ∧ RowOk row_1 ∧ row_1.length ≤ 4398046511104 ∧ ∀ (w : AV) (ok : Bool), Is (logicV op_1 (evL row_1 args_1)) w ok → Q [.agg [.i w.1.1, .i w.1.2, .v (.bool w.2), .i w.3, .v (.string w.4)], .d (.v (.bool ok))] []) ∧ ((op == 11) = false → ((op == 12) = true → ∃ (es : List (List D)), D.sl (cellsL args) = D.sl es ∧ ((0 : Int) ≤ 0 ∧ 0 < (↑es.length : Int)) ∧ ∃ (cells : List D), es[Int.toNat (0 : Int)]? = some cells ∧ cells.length = 10 ∧ ∃ (n_1 n_2 n_3 n_4 n_5 n_6 : Int), ∃ (b : Bool), ∃ (n_7 : Int), ∃ (b_1 : ByteArray), ∃ (es : List (List D)), cut 0 10 cells = some [D.i n_1, D.i n_2, D.i n_3, D.i n_4, D.i n_5, D.i n_6, D.v (.bool b), D.i n_7, D.v (.string b_1), D.sl es] ∧ ∃ (e : EX), ∃ (row_1 : List AV), List.map AV.cs row = List.map AV.cs row_1 ∧ List.map Ty.cs (typesV row) = List.map Ty.cs (typesV row_1) ∧ [D.i n_1, D.i n_2, D.i n_3, D.i n_4, D.i n_5, D.i n_6, D.v (.bool b), D.i n_7, D.v (.string b_1), D.sl es] = Ex.cells e ∧ SubOk row_1 n e ∧ RowOk row_1 ∧ row_1.length ≤ 4398046511104 ∧ ∀ (tr : Int) (ok : Bool), Is (trE row_1 e) tr ok → Q [.agg [.v (.int .i64 (liftV (s118_0 tr)).1.1), .v (.int .i64 (liftV (s118_0 tr)).1.2), .v (.bool (liftV (s118_0 tr)).2), .v (.int .i64 (liftV (s118_0 tr)).3), .v (.string (liftV (s118_0 tr)).4)], .d (.v (.bool ok))] []) ∧ ((op == 12) = false → ((op == 16) = true → ∃ (es : List (List D)), D.sl (cellsL args) = D.sl es ∧ ((0 : Int) ≤ 0 ∧ 0 < (↑es.length : Int)) ∧ ∃ (cells : List D), es[Int.toNat (0 : Int)]? = some cells ∧ cells.length = 10 ∧ ∃ (n_1 n_2 n_3 n_4 n_5 n_6 : Int), ∃ (b : Bool), ∃ (n_7 : Int), ∃ (b_1 : ByteArray), ∃ (es : List (List D)), cut 0 10 cells = some [D.i n_1, D.i n_2, D.i n_3, D.i n_4, D.i n_5, D.i n_6, D.v (.bool b), D.i n_7, D.v (.string b_1), D.sl es] ∧ ∃ (e : EX), ∃ (row_1 : List AV), ∃ (t_2 : Ty), List.map AV.cs row = List.map AV.cs row_1 ∧ List.map Ty.cs (typesV row) = List.map Ty.cs (typesV row_1) ∧ [D.i n_1, D.i n_2, D.i n_3, D.i n_4, D.i n_5, D.i n_6, D.v (.bool b), D.i n_7, D.v (.string b_1), D.sl es] = Ex.cells e ∧ [D.i t.1, D.i t.2] = t_2.cs ∧ SubOk row_1 n e ∧ RowOk row_1 ∧ row_1.length ≤ 4398046511104 ∧ ∀ (w : AV) (ok : Bool), Is (asE row_1 t_2 e) w ok → Q [.agg [.i w.1.1, .i w.1.2, .v (.bool w.2), .i w.3, .v (.string w.4)], .d (.v (.bool ok))] []) ∧ ((op == 16) = false → ((op == 14) = true → ∃ (x0 : Nat), ({ tm := [(0, .dptr [.sl (List.map AV.cs row), .sl (List.map Ty.cs (typesV row))]), (3, .ref 3 0), (4, .ref 4 0), (5, .d (.v (.bool false))), (6, .ref 6 0), (10, .i 0)], hp := [(3, .box [.i op, .i sub, .i t.1, .i t.2, .i v.1.1, .i v.1.2, .d (.v (.bool v.2)), .i v.3, .d (.v (.string v.4)), .d (.sl (cellsL args))]), (4, .box [.i 0, .i 0, .d (.v (.bool false)), .i 0, .d (.v (.string ⟨⟨[]⟩⟩))]), (6, .box [.i t_1.1, .i t_1.2])], kn := [], gd := [] : St } = { tm := [(0, .dptr [.sl (List.map AV.cs row), .sl (List.map Ty.cs (typesV row))]), (3, .ref 3 0), (4, .ref 4 0), (5, .d (.v (.bool false))), (6, .ref 6 0), (10, .i ((2 : Int) * (↑x0 : Int)))], hp := [(3, .box [.i op, .i sub, .i t.1, .i t.2, .i v.1.1, .i v.1.2, .d (.v (.bool v.2)), .i v.3, .d (.v (.string v.4)), .d (.sl (cellsL args))]), (4, .box [.i 0, .i 0, .d (.v (.bool false)), .i 0, .d (.v (.string ⟨⟨[]⟩⟩))]), (6, .box [.i ty.1, .i ty.2])], kn := [], gd := [] : St } ∧ ∃ (n : Nat), inv_57a row args ty n x0) ∧ ∀ (n_1 : Nat) (x : Nat), inv_57a row args ty n_1 x → ∃ (es : List (List D)), D.sl (cellsL args) = D.sl es ∧ (decide (IntKind.i64.wrap ((2 : Int) * (↑x : Int) + 1) < (↑es.length : Int)) = true → ∃ (es : List (List D)), D.sl (cellsL args) = D.sl es ∧ ((0 : Int) ≤ 2 * (↑x : Int) ∧ (2 : Int) * (↑x : Int) < (↑es.length : Int)) ∧ ∃ (cells : List D), es[((2 : Int) * (↑x : Int)).toNat]? = some cells ∧ cells.length = 10 ∧ ∃ (n_2 n_3 n_4 n_5 n_6 n_7 : Int), ∃ (b : Bool), ∃ (n_8 : Int), ∃ (b_1 : ByteArray), ∃ (es : List (List D)), cut 0 10 cells = some [D.i n_2, D.i n_3, D.i n_4, D.i n_5, D.i n_6, D.i n_7, D.v (.bool b), D.i n_8, D.v (.string b_1), D.sl es] ∧ ∃ (e : EX), ∃ (row_1 : List AV), List.map AV.cs row = List.map AV.cs row_1 ∧ List.map Ty.cs (typesV row) = List.map Ty.cs (typesV row_1) ∧ [D.i n_2, D.i n_3, D.i n_4, D.i n_5, D.i n_6, D.i n_7, D.v (.bool b), D.i n_8, D.v (.string b_1), D.sl es] = Ex.cells e ∧ SubOk row_1 n e ∧ RowOk row_1 ∧ row_1.length ≤ 4398046511104 ∧ ∀ (tr : Int) (ok : Bool), Is (trE row_1 e) tr ok → ((!ok) = true → Q [.agg [.i 0, .i 0, .v (.bool false), .i 0, .v (.string ⟨⟨[]⟩⟩)], .d (.v (.bool false))] []) ∧ ((!ok) = false → ((tr == 1) = true → ∃ (es : List (List D)), D.sl (cellsL args) = D.sl es ∧ ((0 : Int) ≤ IntKind.i64.wrap ((2 : Int) * (↑x : Int) + 1) ∧ IntKind.i64.wrap ((2 : Int) * (↑x : Int) + 1) < (↑es.length : Int)) ∧ ∃ (cells : List D), es[(IntKind.i64.wrap ((2 : Int) * (↑x : Int) + 1)).toNat]? = some cells ∧ cells.length = 10 ∧ ∃ (n_9 n_10 n_11 n_12 n_13 n_14 : Int), ∃ (b : Bool), ∃ (n_15 : Int), ∃ (b_2 : ByteArray), ∃ (es : List (List D)), cut 0 10 cells = some [D.i n_9, D.i n_10, D.i n_11, D.i n_12, D.i n_13, D.i n_14, D.v (.bool b), D.i n_15, D.v (.string b_2), D.sl es] ∧ ∃ (e : EX), ∃ (row_2 : List AV), ∃ (t : Ty), List.map AV.cs row = List.map AV.cs row_2 ∧ List.map Ty.cs (typesV row) = List.map Ty.cs (typesV row_2) ∧ [D.i n_9, D.i n_10, D.i n_11, D.i n_12, D.i n_13, D.i n_14, D.v (.bool b), D.i n_15, D.v (.string b_2), D.sl es] = Ex.cells e ∧ [D.i ty.1, D.i ty.2] = t.cs ∧ SubOk row_2 n e ∧ RowOk row_2 ∧ row_2.length ≤ 4398046511104 ∧ ∀ (w : AV) (ok : Bool), Is (asE row_2 t e) w ok → Q [.agg [.i w.1.1, .i w.1.2, .v (.bool w.2), .i w.3, .v (.string w.4)], .d (.v (.bool ok))] []) ∧ ((tr == 1) = false → ∃ (m x' : Nat), m < n_1 ∧ { tm := [(0, .dptr [.sl (List.map AV.cs row), .sl (List.map Ty.cs (typesV row))]), (3, .ref 3 0), (4, .ref 4 0), (5, .d (.v (.bool false))), (6, .ref 6 0), (10, .i (IntKind.i64.wrap ((2 : Int) * (↑x : Int) + 2)))], hp := [(3, .box [.i op, .i sub, .i t.1, .i t.2, .i v.1.1, .i v.1.2, .d (.v (.bool v.2)), .i v.3, .d (.v (.string v.4)), .d (.sl (cellsL args))]), (4, .box [.i 0, .i 0, .d (.v (.bool false)), .i 0, .d (.v (.string ⟨⟨[]⟩⟩))]), (6, .box [.i ty.1, .i ty.2])], kn := [], gd := [] : St } = { tm := [(0, .dptr [.sl (List.map AV.cs row), .sl (List.map Ty.cs (typesV row))]), (3, .ref 3 0), (4, .ref 4 0), (5, .d (.v (.bool false))), (6, .ref 6 0), (10, .i ((2 : Int) * (↑x' : Int)))], hp := [(3, .box [.i op, .i sub, .i t.1, .i t.2, .i v.1.1, .i v.1.2, .d (.v (.bool v.2)), .i v.3, .d (.v (.string v.4)), .d (.sl (cellsL args))]), (4, .box [.i 0, .i 0, .d (.v (.bool false)), .i 0, .d (.v (.string ⟨⟨[]⟩⟩))]), (6, .box [.i ty.1, .i ty.2])], kn := [], gd := [] : St } ∧ inv_57a row args ty m x'))) ∧ (decide (IntKind.i64.wrap ((2 : Int) * (↑x : Int) + 1) < (↑es.length : Int)) = false → ∃ (es : List (List D)), D.sl (cellsL args) = D.sl es ∧ ∃ (es_1 : List (List D)), D.sl (cellsL args) = D.sl es_1 ∧ ((0 : Int) ≤ IntKind.i64.wrap ((↑es.length : Int) - 1) ∧ IntKind.i64.wrap ((↑es.length : Int) - 1) < (↑es_1.length : Int)) ∧ ∃ (cells : List D), es_1[(IntKind.i64.wrap ((↑es.length : Int) - 1)).toNat]? = some cells ∧ cells.length = 10 ∧ ∃ (n_2 n_3 n_4 n_5 n_6 n_7 : Int), ∃ (b : Bool), ∃ (n_8 : Int), ∃ (b_1 : ByteArray), ∃ (es : List (List D)), cut 0 10 cells = some [D.i n_2, D.i n_3, D.i n_4, D.i n_5, D.i n_6, D.i n_7, D.v (.bool b), D.i n_8, D.v (.string b_1), D.sl es] ∧ ∃ (e : EX), ∃ (row_1 : List AV), ∃ (t : Ty), List.map AV.cs row = List.map AV.cs row_1 ∧ List.map Ty.cs (typesV row) = List.map Ty.cs (typesV row_1) ∧ [D.i n_2, D.i n_3, D.i n_4, D.i n_5, D.i n_6, D.i n_7, D.v (.bool b), D.i n_8, D.v (.string b_1), D.sl es] = Ex.cells e ∧ [D.i ty.1, D.i ty.2] = t.cs ∧ SubOk row_1 n e ∧ RowOk row_1 ∧ row_1.length ≤ 4398046511104 ∧ ∀ (w : AV) (ok : Bool), Is (asE row_1 t e) w ok → Q [.agg [.i w.1.1, .i w.1.2, .v (.bool w.2), .i w.3, .v (.string w.4)], .d (.v (.bool ok))] [])) ∧ ((op == 14) = false → ((op == 15) = true → ∃ (es : List (List D)), D.sl (cellsL args) = D.sl es ∧ ∃ (x0 : Nat), ({ tm := [(0, .dptr [.sl (List.map AV.cs row), .sl (List.map Ty.cs (typesV row))]), (3, .ref 3 0), (4, .ref 4 0), (5, .d (.v (.bool false))), (6, .ref 6 0), (135, .d (.sl (cellsL args))), (136, .i (↑es.length : Int)), (137, .i 0)], hp := [(3, .box [.i op, .i sub, .i t.1, .i t.2, .i v.1.1, .i v.1.2, .d (.v (.bool v.2)), .i v.3, .d (.v (.string v.4)), .d (.sl (cellsL args))]), (4, .box [.i 0, .i 0, .d (.v (.bool false)), .i 0, .d (.v (.string ⟨⟨[]⟩⟩))]), (6, .box [.i t_1.1, .i t_1.2])], kn := [], gd := [] : St } = { tm := [(0, .dptr [.sl (List.map AV.cs row), .sl (List.map Ty.cs (typesV row))]), (3, .ref 3 0), (4, .ref 4 0), (5, .d (.v (.bool false))), (6, .ref 6 0), (135, .d (.sl (cellsL args))), (136, .i (↑(cellsL args).length : Int)), (137, .i (↑x0 : Int))], hp := [(3, .box [.i op, .i sub, .i t.1, .i t.2, .i v.1.1, .i v.1.2, .d (.v (.bool v.2)), .i v.3, .d (.v (.string v.4)), .d (.sl (cellsL args))]), (4, .box [.i 0, .i 0, .d (.v (.bool false)), .i 0, .d (.v (.string ⟨⟨[]⟩⟩))]), (6, .box [.i ty.1, .i ty.2])], kn := [], gd := [] : St } ∧ ∃ (n : Nat), inv_57b row args ty n x0) ∧ ∀ (n_1 : Nat) (x : Nat), inv_57b row args ty n_1 x → (decide ((↑x : Int) < (↑(cellsL args).length : Int)) = true → ∃ (es : List (List D)), D.sl (cellsL args) = D.sl es ∧ (0 ≤ (↑x : Int) ∧ (↑x : Int) < (↑es.length : Int)) ∧ ∃ (cells : List D), es[(↑x : Int).toNat]? = some cells ∧ cells.length = 10 ∧ ∃ (n_2 n_3 n_4 n_5 n_6 n_7 : Int), ∃ (b : Bool), ∃ (n_8 : Int), ∃ (b_1 : ByteArray), ∃ (es : List (List D)), cut 0 10 cells = some [D.i n_2, D.i n_3, D.i n_4, D.i n_5, D.i n_6, D.i n_7, D.v (.bool b), D.i n_8, D.v (.string b_1), D.sl es] ∧ ∃ (e : EX), ∃ (row_1 : List AV), ∃ (t_2 : Ty), List.map AV.cs row = List.map AV.cs row_1 ∧ List.map Ty.cs (typesV row) = List.map Ty.cs (typesV row_1) ∧ [D.i n_2, D.i n_3, D.i n_4, D.i n_5, D.i n_6, D.i n_7, D.v (.bool b), D.i n_8, D.v (.string b_1), D.sl es] = Ex.cells e ∧ [D.i ty.1, D.i ty.2] = t_2.cs ∧ SubOk row_1 n e ∧ RowOk row_1 ∧ row_1.length ≤ 4398046511104 ∧ ∀ (w : AV) (ok : Bool), Is (asE row_1 t_2 e) w ok → ((bif !ok then true else !w.2) = true → Q [.agg [.i w.1.1, .i w.1.2, .v (.bool w.2), .i w.3, .v (.string w.4)], .d (.v (.bool ok))] []) ∧ ((bif !ok then true else !w.2) = false → ∃ (m x' : Nat), m < n_1 ∧ { tm := [(0, .dptr [.sl (List.map AV.cs row), .sl (List.map Ty.cs (typesV row))]), (3, .ref 3 0), (4, .ref 4 0), (5, .d (.v (.bool false))), (6, .ref 6 0), (135, .d (.sl (cellsL args))), (136, .i (↑(cellsL args).length : Int)), (137, .i (IntKind.i64.wrap ((↑x : Int) + 1)))], hp := [(3, .box [.i op, .i sub, .i t.1, .i t.2, .i v.1.1, .i v.1.2, .d (.v (.bool v.2)), .i v.3, .d (.v (.string v.4)), .d (.sl (cellsL args))]), (4, .box [.i 0, .i 0, .d (.v (.bool false)), .i 0, .d (.v (.string ⟨⟨[]⟩⟩))]), (6, .box [.i ty.1, .i ty.2])], kn := [], gd := [] : St } = { tm := [(0, .dptr [.sl (List.map AV.cs row), .sl (List.map Ty.cs (typesV row))]), (3, .ref 3 0), (4, .ref 4 0), (5, .d (.v (.bool false))), (6, .ref 6 0), (135, .d (.sl (cellsL args))), (136, .i (↑(cellsL args).length : Int)), (137, .i (↑x' : Int))], hp := [(3, .box [.i op, .i sub, .i t.1, .i t.2, .i v.1.1, .i v.1.2, .d (.v (.bool v.2)), .i v.3, .d (.v (.string v.4)), .d (.sl (cellsL args))]), (4, .box [.i 0, .i 0, .d (.v (.bool false)), .i 0, .d (.v (.string ⟨⟨[]⟩⟩))]), (6, .box [.i ty.1, .i ty.2])], kn := [], gd := [] : St } ∧ inv_57b row args ty m x')) ∧ (decide ((↑x : Int) < (↑(cellsL args).length : Int)) = false → Q [.agg [.i ty.1, .i ty.2, .v (.bool true), .i 0, .v (.string ⟨⟨[]⟩⟩)], .d (.v (.bool true))] [])) ∧ ((op == 15) = false → ∃ (es : List (List D)), D.sl (cellsL args) = D.sl es ∧ 0 ≤ (↑es.length : Int) ∧ (↑es.length : Int) ≤ (↑es.length : Int) ∧ (↑es.length : Int) * (↑(48 : Nat) : Int) ≤ 140737488355328 ∧ (↑es.length : Int) ≤ 140737488355328 ∧ ∃ (es_1 : List (List D)), D.sl (cellsL args) = D.sl es_1 ∧ ∃ (x0 : VX), ({ tm := [(0, .dptr [.sl (List.map AV.cs row), .sl (List.map Ty.cs (typesV row))]), (3, .ref 3 0), (4, .ref 4 0), (5, .d (.v (.bool false))), (6, .ref 6 0), (17, .own 163), (18, .d (.v (.bool false))), (165, .d (.sl (cellsL args))), (166, .i (↑es_1.length : Int)), (167, .i 0)], hp := [(3, .box [.i op, .i sub, .i t.1, .i t.2, .i v.1.1, .i v.1.2, .d (.v (.bool v.2)), .i v.3, .d (.v (.string v.4)), .d (.sl (cellsL args))]), (4, .box [.i 0, .i 0, .d (.v (.bool false)), .i 0, .d (.v (.string ⟨⟨[]⟩⟩))]), (6, .box [.i t_1.1, .i t_1.2]), (163, .lst 25 5 (List.replicate (↑es.length : Int).toNat [.i 0, .i 0, .v (.bool false), .i 0, .v (.string ⟨⟨[]⟩⟩)]))], kn := [], gd := [] : St } = { tm := [(0, .dptr [.sl (List.map AV.cs row), .sl (List.map Ty.cs (typesV row))]), (3, .ref 3 0), (4, .ref 4 0), (5, .d (.v (.bool false))), (6, .ref 6 0), (17, .own 163), (18, .d (.v (.bool (x0.2.any fun (v : AV) => v.nul)))), (165, .d (.sl (cellsL args))), (166, .i (↑(cellsL args).length : Int)), (167, .i (↑x0.1 : Int))], hp := [(3, .box [.i op, .i sub, .i t.1, .i t.2, .i v.1.1, .i v.1.2, .d (.v (.bool v.2)), .i v.3, .d (.v (.string v.4)), .d (.sl (cellsL args))]), (4, .box [.i 0, .i 0, .d (.v (.bool false)), .i 0, .d (.v (.string ⟨⟨[]⟩⟩))]), (6, .box [.d (.v (.int .i64 (typedE (typesV row) (EX.mk op sub t v args)).1.1)), .d (.v (.int .i64 (typedE (typesV row) (EX.mk op sub t v args)).1.2))]), (163, .lst 25 5 (List.map AV.cs x0.2 ++ List.replicate (args.length - x0.1) zeroV.cs))], kn := [], gd := [] : St } ∧ ∃ (n : Nat), inv_57c row args n x0) ∧ ∀ (n_1 : Nat) (x : VX), inv_57c row args n_1 x → (decide ((↑x.1 : Int) < (↑(cellsL args).length : Int)) = true → ∃ (es : List (List D)), D.sl (cellsL args) = D.sl es ∧ (0 ≤ (↑x.1 : Int) ∧ (↑x.1 : Int) < (↑es.length : Int)) ∧ ∃ (cells : List D), es[(↑x.1 : Int).toNat]? = some cells ∧ cells.length = 10 ∧ ∃ (n_2 n_3 n_4 n_5 n_6 n_7 : Int), ∃ (b : Bool), ∃ (n_8 : Int), ∃ (b_1 : ByteArray), ∃ (es : List (List D)), cut 0 10 cells = some [D.i n_2, D.i n_3, D.i n_4, D.i n_5, D.i n_6, D.i n_7, D.v (.bool b), D.i n_8, D.v (.string b_1), D.sl es] ∧ ∃ (e : EX), ∃ (row_1 : List AV), List.map AV.cs row = List.map AV.cs row_1 ∧ List.map Ty.cs (typesV row) = List.map Ty.cs (typesV row_1) ∧ [D.i n_2, D.i n_3, D.i n_4, D.i n_5, D.i n_6, D.i n_7, D.v (.bool b), D.i n_8, D.v (.string b_1), D.sl es] = Ex.cells e ∧ SubOk row_1 n e ∧ RowOk row_1 ∧ row_1.length ≤ 4398046511104 ∧ ∀ (w : AV) (ok : Bool), Is (evE row_1 e) w ok → ((!ok) = true → Q [.agg [.i 0, .i 0, .v (.bool false), .i 0, .v (.string ⟨⟨[]⟩⟩)], .d (.v (.bool false))] []) ∧ ((!ok) = false → (0 ≤ (↑x.1 : Int) ∧ (↑x.1 : Int) < (↑(List.map AV.cs x.2 ++ List.replicate (args.length - x.1) zeroV.cs).length : Int)) ∧ (5 : Nat) = (5 : Nat) ∧ ∃ (cells : List D), (List.map AV.cs x.2 ++ List.replicate (args.length - x.1) zeroV.cs)[(↑x.1 : Int).toNat]? = some cells ∧ ∃ (cells' : List D), over (0 : Nat) [D.i w.1.1, D.i w.1.2, D.v (.bool w.2), D.i w.3, D.v (.string w.4)] cells = some cells' ∧ ∃ (m : Nat), ∃ (x' : VX), m < n_1 ∧ { tm := [(0, .dptr [.sl (List.map AV.cs row), .sl (List.map Ty.cs (typesV row))]), (3, .ref 3 0), (4, .ref 4 0), (5, .d (.v (.bool false))), (6, .ref 6 0), (17, .own 163), (18, .d (.v (.bool (bif x.2.any fun (v : AV) => v.nul then true else w.2)))), (165, .d (.sl (cellsL args))), (166, .i (↑(cellsL args).length : Int)), (167, .i (IntKind.i64.wrap ((↑x.1 : Int) + 1)))], hp := [(3, .box [.i op, .i sub, .i t.1, .i t.2, .i v.1.1, .i v.1.2, .d (.v (.bool v.2)), .i v.3, .d (.v (.string v.4)), .d (.sl (cellsL args))]), (4, .box [.i 0, .i 0, .d (.v (.bool false)), .i 0, .d (.v (.string ⟨⟨[]⟩⟩))]), (6, .box [.d (.v (.int .i64 (typedE (typesV row) (EX.mk op sub t v args)).1.1)), .d (.v (.int .i64 (typedE (typesV row) (EX.mk op sub t v args)).1.2))]), (163, .lst 25 5 ((List.map AV.cs x.2 ++ List.replicate (args.length - x.1) zeroV.cs).set (↑x.1 : Int).toNat cells'))], kn := [], gd := [] : St } = { tm := [(0, .dptr [.sl (List.map AV.cs row), .sl (List.map Ty.cs (typesV row))]), (3, .ref 3 0), (4, .ref 4 0), (5, .d (.v (.bool false))), (6, .ref 6 0), (17, .own 163), (18, .d (.v (.bool (x'.2.any fun (v : AV) => v.nul)))), (165, .d (.sl (cellsL args))), (166, .i (↑(cellsL args).length : Int)), (167, .i (↑x'.1 : Int))], hp := [(3, .box [.i op, .i sub, .i t.1, .i t.2, .i v.1.1, .i v.1.2, .d (.v (.bool v.2)), .i v.3, .d (.v (.string v.4)), .d (.sl (cellsL args))]), (4, .box [.i 0, .i 0, .d (.v (.bool false)), .i 0, .d (.v (.string ⟨⟨[]⟩⟩))]), (6, .box [.d (.v (.int .i64 (typedE (typesV row) (EX.mk op sub t v args)).1.1)), .d (.v (.int .i64 (typedE (typesV row) (EX.mk op sub t v args)).1.2))]), (163, .lst 25 5 (List.map AV.cs x'.2 ++ List.replicate (args.length - x'.1) zeroV.cs))], kn := [], gd := [] : St } ∧ inv_57c row args m x')) ∧ (decide ((↑x.1 : Int) < (↑(cellsL args).length : Int)) = false → ((op == 13) = true → Q [.agg [.i 1, .i 0, .v (.bool false), .i (bif x.2.any fun (v : AV) => v.nul then (1 : Int) else (0 : Int)), .v (.string eB)], .d (.v (.bool true))] []) ∧ ((op == 13) = false → ((x.2.any fun (v : AV) => v.nul) = true → Q [.agg [.v (.int .i64 (typedE (typesV row) (EX.mk op sub t v args)).1.1), .v (.int .i64 (typedE (typesV row) (EX.mk op sub t v args)).1.2), .v (.bool true), .i 0, .v (.string ⟨⟨[]⟩⟩)], .d (.v (.bool true))] []) ∧ ((x.2.any fun (v : AV) => v.nul) = false → ∃ (op_1 sub_1 : Int), ∃ (y : Ty), ∃ (w : AV), ∃ (args_1 : List EX), ∃ (a : AV), ∃ (b : AV), [D.i op, D.i sub, D.i t.1, D.i t.2, D.i v.1.1, D.i v.1.2, D.v (.bool v.2), D.i v.3, D.v (.string v.4), D.sl (cellsL args)] = [D.i op_1, D.i sub_1, D.i y.1, D.i y.2, D.i w.1.1, D.i w.1.2, D.v (.bool w.2), D.i w.3, D.v (.string w.4), D.sl (cellsL args_1)] ∧ ValP a ∧ ValP b ∧ in64 a.3 ∧ in64 b.3 ∧ (List.map AV.cs x.2 ++ List.replicate (args.length - x.1) zeroV.cs)[(0 : Nat)]? = some a.cs ∧ (List.map AV.cs x.2 ++ List.replicate (args.length - x.1) zeroV.cs)[(List.map AV.cs x.2 ++ List.replicate (args.length - x.1) zeroV.cs).length - (1 : Nat)]? = some b.cs ∧ (List.map AV.cs x.2 ++ List.replicate (args.length - x.1) zeroV.cs).length ≤ 1000 ∧ Q [.agg [.v (.int .i64 (reckonV op_1 sub_1 { k := (typedE (typesV row) (EX.mk op sub t v args)).1.1, sc := (typedE (typesV row) (EX.mk op sub t v args)).1.2 : Ty } a b).1.1.1), .v (.int .i64 (reckonV op_1 sub_1 { k := (typedE (typesV row) (EX.mk op sub t v args)).1.1, sc := (typedE (typesV row) (EX.mk op sub t v args)).1.2 : Ty } a b).1.1.2), .v (.bool (reckonV op_1 sub_1 { k := (typedE (typesV row) (EX.mk op sub t v args)).1.1, sc := (typedE (typesV row) (EX.mk op sub t v args)).1.2 : Ty } a b).1.2), .v (.int .i64 (reckonV op_1 sub_1 { k := (typedE (typesV row) (EX.mk op sub t v args)).1.1, sc := (typedE (typesV row) (EX.mk op sub t v args)).1.2 : Ty } a b).1.3), .v (.string (reckonV op_1 sub_1 { k := (typedE (typesV row) (EX.mk op sub t v args)).1.1, sc := (typedE (typesV row) (EX.mk op sub t v args)).1.2 : Ty } a b).1.4)], .d (.v (.bool (reckonV op_1 sub_1 { k := (typedE (typesV row) (EX.mk op sub t v args)).1.1, sc := (typedE (typesV row) (EX.mk op sub t v args)).1.2 : Ty } a b).2))] [])))))))))))) ∧ ∃ (e : EX), ∃ (cols : List Ty), [D.i op, D.i sub, D.i t.1, D.i t.2, D.i v.1.1, D.i v.1.2, D.v (.bool v.2), D.i v.3, D.v (.string v.4), D.sl (cellsL args)] = cells e ∧ es = List.map Ty.cs cols ∧ fits e ∧ mayE (↑cols.length : Int) e = true ∧ cols.length ≤ 4398046511104 ∧ ∀ (t_1 : Ty) (ok : Bool), typedE cols e = (t_1, ok) → P_1 ∧ ((op == 1) = false → ((op == 2) = true → Q [.agg [.i v.1.1, .i v.1.2, .v (.bool v.2), .i v.3, .v (.string v.4)], .d (.v (.bool true))] []) ∧ ((op == 2) = false → ((op == 10) = true → ∃ (op_1 sub_1 : Int), ∃ (t_2 : Ty), ∃ (v_1 : AV), ∃ (args_1 : List EX), ∃ (row_1 : List AV), List.map AV.cs row = List.map AV.cs row_1 ∧ List.map Ty.cs (typesV row) = List.map Ty.cs (typesV row_1) ∧ [D.i op, D.i sub, D.i t.1, D.i t.2, D.i v.1.1, D.i v.1.2, D.v (.bool v.2), D.i v.3, D.v (.string v.4), D.sl (cellsL args)] = [D.i op_1, D.i sub_1, D.i t_2.1, D.i t_2.2, D.i v_1.1.1, D.i v_1.1.2, D.v (.bool v_1.2), D.i v_1.3, D.v (.string v_1.4), D.sl (cellsL args_1)] ∧ (op_1 = (10 : Int) ∨ op_1 = (11 : Int)) ∧ args_1.length = 2 ∧ (∀ (e : EX), e ∈ args_1 → SubOk row_1 n e) ∧ RowOk row_1 ∧ row_1.length ≤ 4398046511104 ∧ ∀ (w : AV) (ok : Bool), Is (logicV op_1 (evL row_1 args_1)) w ok → Q [.agg [.i w.1.1, .i w.1.2, .v (.bool w.2), .i w.3, .v (.string w.4)], .d (.v (.bool ok))] []) ∧ ((op == 10) = false → ((op == 11) = true → ∃ (op_1 sub_1 : Int), ∃ (t_2 : Ty), ∃ (v_1 : AV), ∃ (args_1 : List EX), ∃ (row_1 : List AV), List.map AV.cs row = List.map AV.cs row_1 ∧ List.map Ty.cs (typesV row) = List.map Ty.cs (typesV row_1) ∧ [D.i op, D.i sub, D.i t.1, D.i t.2, D.i v.1.1, D.i v.1.2, D.v (.bool v.2), D.i v.3, D.v (.string v.4), D.sl (cellsL args)] = [D.i op_1, D.i sub_1, D.i t_2.1, D.i t_2.2, D.i v_1.1.1, D.i v_1.1.2, D.v (.bool v_1.2), D.i v_1.3, D.v (.string v_1.4), D.sl (cellsL args_1)] ∧ (op_1 = (10 : Int) ∨ op_1 = (11 : Int)) ∧ args_1.length = 2 ∧ (∀ (e : EX), e ∈ args_1 → SubOk row_1 n e) ∧ RowOk row_1 ∧ row_1.length ≤ 4398046511104 ∧ ∀ (w : AV) (ok : Bool), Is (logicV op_1 (evL row_1 args_1)) w ok → Q [.agg [.i w.1.1, .i w.1.2, .v (.bool w.2), .i w.3, .v (.string w.4)], .d (.v (.bool ok))] []) ∧ ((op == 11) = false → ((op == 12) = true → ∃ (es : List (List D)), D.sl (cellsL args) = D.sl es ∧ ((0 : Int) ≤ 0 ∧ 0 < (↑es.length : Int)) ∧ ∃ (cells : List D), es[Int.toNat (0 : Int)]? = some cells ∧ cells.length = 10 ∧ ∃ (n_1 n_2 n_3 n_4 n_5 n_6 : Int), ∃ (b : Bool), ∃ (n_7 : Int), ∃ (b_1 : ByteArray), ∃ (es : List (List D)), cut 0 10 cells = some [D.i n_1, D.i n_2, D.i n_3, D.i n_4, D.i n_5, D.i n_6, D.v (.bool b), D.i n_7, D.v (.string b_1), D.sl es] ∧ ∃ (e : EX), ∃ (row_1 : List AV), List.map AV.cs row = List.map AV.cs row_1 ∧ List.map Ty.cs (typesV row) = List.map Ty.cs (typesV row_1) ∧ [D.i n_1, D.i n_2, D.i n_3, D.i n_4, D.i n_5, D.i n_6, D.v (.bool b), D.i n_7, D.v (.string b_1), D.sl es] = Ex.cells e ∧ SubOk row_1 n e ∧ RowOk row_1 ∧ row_1.length ≤ 4398046511104 ∧ ∀ (tr : Int) (ok : Bool), Is (trE row_1 e) tr ok → Q [.agg [.v (.int .i64 (liftV (s118_0 tr)).1.1), .v (.int .i64 (liftV (s118_0 tr)).1.2), .v (.bool (liftV (s118_0 tr)).2), .v (.int .i64 (liftV (s118_0 tr)).3), .v (.string (liftV (s118_0 tr)).4)], .d (.v (.bool ok))] []) ∧ ((op == 12) = false → ((op == 16) = true → ∃ (es : List (List D)), D.sl (cellsL args) = D.sl es ∧ ((0 : Int) ≤ 0 ∧ 0 < (↑es.length : Int)) ∧ ∃ (cells : List D), es[Int.toNat (0 : Int)]? = some cells ∧ cells.length = 10 ∧ ∃ (n_1 n_2 n_3 n_4 n_5 n_6 : Int), ∃ (b : Bool), ∃ (n_7 : Int), ∃ (b_1 : ByteArray), ∃ (es : List (List D)), cut 0 10 cells = some [D.i n_1, D.i n_2, D.i n_3, D.i n_4, D.i n_5, D.i n_6, D.v (.bool b), D.i n_7, D.v (.string b_1), D.sl es] ∧ ∃ (e : EX), ∃ (row_1 : List AV), ∃ (t_2 : Ty), List.map AV.cs row = List.map AV.cs row_1 ∧ List.map Ty.cs (typesV row) = List.map Ty.cs (typesV row_1) ∧ [D.i n_1, D.i n_2, D.i n_3, D.i n_4, D.i n_5, D.i n_6, D.v (.bool b), D.i n_7, D.v (.string b_1), D.sl es] = Ex.cells e ∧ [D.i t.1, D.i t.2] = t_2.cs ∧ SubOk row_1 n e ∧ RowOk row_1 ∧ row_1.length ≤ 4398046511104 ∧ ∀ (w : AV) (ok : Bool), Is (asE row_1 t_2 e) w ok → Q [.agg [.i w.1.1, .i w.1.2, .v (.bool w.2), .i w.3, .v (.string w.4)], .d (.v (.bool ok))] []) ∧ ((op == 16) = false → ((op == 14) = true → ∃ (x0 : Nat), ({ tm := [(0, .dptr [.sl (List.map AV.cs row), .sl (List.map Ty.cs (typesV row))]), (3, .ref 3 0), (4, .ref 4 0), (5, .d (.v (.bool false))), (6, .ref 6 0), (10, .i 0)], hp := [(3, .box [.i op, .i sub, .i t.1, .i t.2, .i v.1.1, .i v.1.2, .d (.v (.bool v.2)), .i v.3, .d (.v (.string v.4)), .d (.sl (cellsL args))]), (4, .box [.i 0, .i 0, .d (.v (.bool false)), .i 0, .d (.v (.string ⟨⟨[]⟩⟩))]), (6, .box [.i t_1.1, .i t_1.2])], kn := [], gd := [] : St } = { tm := [(0, .dptr [.sl (List.map AV.cs row), .sl (List.map Ty.cs (typesV row))]), (3, .ref 3 0), (4, .ref 4 0), (5, .d (.v (.bool false))), (6, .ref 6 0), (10, .i ((2 : Int) * (↑x0 : Int)))], hp := [(3, .box [.i op, .i sub, .i t.1, .i t.2, .i v.1.1, .i v.1.2, .d (.v (.bool v.2)), .i v.3, .d (.v (.string v.4)), .d (.sl (cellsL args))]), (4, .box [.i 0, .i 0, .d (.v (.bool false)), .i 0, .d (.v (.string ⟨⟨[]⟩⟩))]), (6, .box [.i ty.1, .i ty.2])], kn := [], gd := [] : St } ∧ ∃ (n : Nat), inv_57a row args ty n x0) ∧ ∀ (n_1 : Nat) (x : Nat), inv_57a row args ty n_1 x → ∃ (es : List (List D)), D.sl (cellsL args) = D.sl es ∧ (decide (IntKind.i64.wrap ((2 : Int) * (↑x : Int) + 1) < (↑es.length : Int)) = true → ∃ (es : List (List D)), D.sl (cellsL args) = D.sl es ∧ ((0 : Int) ≤ 2 * (↑x : Int) ∧ (2 : Int) * (↑x : Int) < (↑es.length : Int)) ∧ ∃ (cells : List D), es[((2 : Int) * (↑x : Int)).toNat]? = some cells ∧ cells.length = 10 ∧ ∃ (n_2 n_3 n_4 n_5 n_6 n_7 : Int), ∃ (b : Bool), ∃ (n_8 : Int), ∃ (b_1 : ByteArray), ∃ (es : List (List D)), cut 0 10 cells = some [D.i n_2, D.i n_3, D.i n_4, D.i n_5, D.i n_6, D.i n_7, D.v (.bool b), D.i n_8, D.v (.string b_1), D.sl es] ∧ ∃ (e : EX), ∃ (row_1 : List AV), List.map AV.cs row = List.map AV.cs row_1 ∧ List.map Ty.cs (typesV row) = List.map Ty.cs (typesV row_1) ∧ [D.i n_2, D.i n_3, D.i n_4, D.i n_5, D.i n_6, D.i n_7, D.v (.bool b), D.i n_8, D.v (.string b_1), D.sl es] = Ex.cells e ∧ SubOk row_1 n e ∧ RowOk row_1 ∧ row_1.length ≤ 4398046511104 ∧ ∀ (tr : Int) (ok : Bool), Is (trE row_1 e) tr ok → ((!ok) = true → Q [.agg [.i 0, .i 0, .v (.bool false), .i 0, .v (.string ⟨⟨[]⟩⟩)], .d (.v (.bool false))] []) ∧ ((!ok) = false → ((tr == 1) = true → ∃ (es : List (List D)), D.sl (cellsL args) = D.sl es ∧ ((0 : Int) ≤ IntKind.i64.wrap ((2 : Int) * (↑x : Int) + 1) ∧ IntKind.i64.wrap ((2 : Int) * (↑x : Int) + 1) < (↑es.length : Int)) ∧ ∃ (cells : List D), es[(IntKind.i64.wrap ((2 : Int) * (↑x : Int) + 1)).toNat]? = some cells ∧ cells.length = 10 ∧ ∃ (n_9 n_10 n_11 n_12 n_13 n_14 : Int), ∃ (b : Bool), ∃ (n_15 : Int), ∃ (b_2 : ByteArray), ∃ (es : List (List D)), cut 0 10 cells = some [D.i n_9, D.i n_10, D.i n_11, D.i n_12, D.i n_13, D.i n_14, D.v (.bool b), D.i n_15, D.v (.string b_2), D.sl es] ∧ ∃ (e : EX), ∃ (row_2 : List AV), ∃ (t : Ty), List.map AV.cs row = List.map AV.cs row_2 ∧ List.map Ty.cs (typesV row) = List.map Ty.cs (typesV row_2) ∧ [D.i n_9, D.i n_10, D.i n_11, D.i n_12, D.i n_13, D.i n_14, D.v (.bool b), D.i n_15, D.v (.string b_2), D.sl es] = Ex.cells e ∧ [D.i ty.1, D.i ty.2] = t.cs ∧ SubOk row_2 n e ∧ RowOk row_2 ∧ row_2.length ≤ 4398046511104 ∧ ∀ (w : AV) (ok : Bool), Is (asE row_2 t e) w ok → Q [.agg [.i w.1.1, .i w.1.2, .v (.bool w.2), .i w.3, .v (.string w.4)], .d (.v (.bool ok))] []) ∧ ((tr == 1) = false → ∃ (m x' : Nat), m < n_1 ∧ { tm := [(0, .dptr [.sl (List.map AV.cs row), .sl (List.map Ty.cs (typesV row))]), (3, .ref 3 0), (4, .ref 4 0), (5, .d (.v (.bool false))), (6, .ref 6 0), (10, .i (IntKind.i64.wrap ((2 : Int) * (↑x : Int) + 2)))], hp := [(3, .box [.i op, .i sub, .i t.1, .i t.2, .i v.1.1, .i v.1.2, .d (.v (.bool v.2)), .i v.3, .d (.v (.string v.4)), .d (.sl (cellsL args))]), (4, .box [.i 0, .i 0, .d (.v (.bool false)), .i 0, .d (.v (.string ⟨⟨[]⟩⟩))]), (6, .box [.i ty.1, .i ty.2])], kn := [], gd := [] : St } = { tm := [(0, .dptr [.sl (List.map AV.cs row), .sl (List.map Ty.cs (typesV row))]), (3, .ref 3 0), (4, .ref 4 0), (5, .d (.v (.bool false))), (6, .ref 6 0), (10, .i ((2 : Int) * (↑x' : Int)))], hp := [(3, .box [.i op, .i sub, .i t.1, .i t.2, .i v.1.1, .i v.1.2, .d (.v (.bool v.2)), .i v.3, .d (.v (.string v.4)), .d (.sl (cellsL args))]), (4, .box [.i 0, .i 0, .d (.v (.bool false)), .i 0, .d (.v (.string ⟨⟨[]⟩⟩))]), (6, .box [.i ty.1, .i ty.2])], kn := [], gd := [] : St } ∧ inv_57a row args ty m x'))) ∧ (decide (IntKind.i64.wrap ((2 : Int) * (↑x : Int) + 1) < (↑es.length : Int)) = false → ∃ (es : List (List D)), D.sl (cellsL args) = D.sl es ∧ ∃ (es_1 : List (List D)), D.sl (cellsL args) = D.sl es_1 ∧ ((0 : Int) ≤ IntKind.i64.wrap ((↑es.length : Int) - 1) ∧ IntKind.i64.wrap ((↑es.length : Int) - 1) < (↑es_1.length : Int)) ∧ ∃ (cells : List D), es_1[(IntKind.i64.wrap ((↑es.length : Int) - 1)).toNat]? = some cells ∧ cells.length = 10 ∧ ∃ (n_2 n_3 n_4 n_5 n_6 n_7 : Int), ∃ (b : Bool), ∃ (n_8 : Int), ∃ (b_1 : ByteArray), ∃ (es : List (List D)), cut 0 10 cells = some [D.i n_2, D.i n_3, D.i n_4, D.i n_5, D.i n_6, D.i n_7, D.v (.bool b), D.i n_8, D.v (.string b_1), D.sl es] ∧ ∃ (e : EX), ∃ (row_1 : List AV), ∃ (t : Ty), List.map AV.cs row = List.map AV.cs row_1 ∧ List.map Ty.cs (typesV row) = List.map Ty.cs (typesV row_1) ∧ [D.i n_2, D.i n_3, D.i n_4, D.i n_5, D.i n_6, D.i n_7, D.v (.bool b), D.i n_8, D.v (.string b_1), D.sl es] = Ex.cells e ∧ [D.i ty.1, D.i ty.2] = t.cs ∧ SubOk row_1 n e ∧ RowOk row_1 ∧ row_1.length ≤ 4398046511104 ∧ ∀ (w : AV) (ok : Bool), Is (asE row_1 t e) w ok → Q [.agg [.i w.1.1, .i w.1.2, .v (.bool w.2), .i w.3, .v (.string w.4)], .d (.v (.bool ok))] [])) ∧ ((op == 14) = false → ((op == 15) = true → ∃ (es : List (List D)), D.sl (cellsL args) = D.sl es ∧ ∃ (x0 : Nat), ({ tm := [(0, .dptr [.sl (List.map AV.cs row), .sl (List.map Ty.cs (typesV row))]), (3, .ref 3 0), (4, .ref 4 0), (5, .d (.v (.bool false))), (6, .ref 6 0), (135, .d (.sl (cellsL args))), (136, .i (↑es.length : Int)), (137, .i 0)], hp := [(3, .box [.i op, .i sub, .i t.1, .i t.2, .i v.1.1, .i v.1.2, .d (.v (.bool v.2)), .i v.3, .d (.v (.string v.4)), .d (.sl (cellsL args))]), (4, .box [.i 0, .i 0, .d (.v (.bool false)), .i 0, .d (.v (.string ⟨⟨[]⟩⟩))]), (6, .box [.i t_1.1, .i t_1.2])], kn := [], gd := [] : St } = { tm := [(0, .dptr [.sl (List.map AV.cs row), .sl (List.map Ty.cs (typesV row))]), (3, .ref 3 0), (4, .ref 4 0), (5, .d (.v (.bool false))), (6, .ref 6 0), (135, .d (.sl (cellsL args))), (136, .i (↑(cellsL args).length : Int)), (137, .i (↑x0 : Int))], hp := [(3, .box [.i op, .i sub, .i t.1, .i t.2, .i v.1.1, .i v.1.2, .d (.v (.bool v.2)), .i v.3, .d (.v (.string v.4)), .d (.sl (cellsL args))]), (4, .box [.i 0, .i 0, .d (.v (.bool false)), .i 0, .d (.v (.string ⟨⟨[]⟩⟩))]), (6, .box [.i ty.1, .i ty.2])], kn := [], gd := [] : St } ∧ ∃ (n : Nat), inv_57b row args ty n x0) ∧ ∀ (n_1 : Nat) (x : Nat), inv_57b row args ty n_1 x → (decide ((↑x : Int) < (↑(cellsL args).length : Int)) = true → ∃ (es : List (List D)), D.sl (cellsL args) = D.sl es ∧ (0 ≤ (↑x : Int) ∧ (↑x : Int) < (↑es.length : Int)) ∧ ∃ (cells : List D), es[(↑x : Int).toNat]? = some cells ∧ cells.length = 10 ∧ ∃ (n_2 n_3 n_4 n_5 n_6 n_7 : Int), ∃ (b : Bool), ∃ (n_8 : Int), ∃ (b_1 : ByteArray), ∃ (es : List (List D)), cut 0 10 cells = some [D.i n_2, D.i n_3, D.i n_4, D.i n_5, D.i n_6, D.i n_7, D.v (.bool b), D.i n_8, D.v (.string b_1), D.sl es] ∧ ∃ (e : EX), ∃ (row_1 : List AV), ∃ (t_2 : Ty), List.map AV.cs row = List.map AV.cs row_1 ∧ List.map Ty.cs (typesV row) = List.map Ty.cs (typesV row_1) ∧ [D.i n_2, D.i n_3, D.i n_4, D.i n_5, D.i n_6, D.i n_7, D.v (.bool b), D.i n_8, D.v (.string b_1), D.sl es] = Ex.cells e ∧ [D.i ty.1, D.i ty.2] = t_2.cs ∧ SubOk row_1 n e ∧ RowOk row_1 ∧ row_1.length ≤ 4398046511104 ∧ ∀ (w : AV) (ok : Bool), Is (asE row_1 t_2 e) w ok → ((bif !ok then true else !w.2) = true → Q [.agg [.i w.1.1, .i w.1.2, .v (.bool w.2), .i w.3, .v (.string w.4)], .d (.v (.bool ok))] []) ∧ ((bif !ok then true else !w.2) = false → ∃ (m x' : Nat), m < n_1 ∧ { tm := [(0, .dptr [.sl (List.map AV.cs row), .sl (List.map Ty.cs (typesV row))]), (3, .ref 3 0), (4, .ref 4 0), (5, .d (.v (.bool false))), (6, .ref 6 0), (135, .d (.sl (cellsL args))), (136, .i (↑(cellsL args).length : Int)), (137, .i (IntKind.i64.wrap ((↑x : Int) + 1)))], hp := [(3, .box [.i op, .i sub, .i t.1, .i t.2, .i v.1.1, .i v.1.2, .d (.v (.bool v.2)), .i v.3, .d (.v (.string v.4)), .d (.sl (cellsL args))]), (4, .box [.i 0, .i 0, .d (.v (.bool false)), .i 0, .d (.v (.string ⟨⟨[]⟩⟩))]), (6, .box [.i ty.1, .i ty.2])], kn := [], gd := [] : St } = { tm := [(0, .dptr [.sl (List.map AV.cs row), .sl (List.map Ty.cs (typesV row))]), (3, .ref 3 0), (4, .ref 4 0), (5, .d (.v (.bool false))), (6, .ref 6 0), (135, .d (.sl (cellsL args))), (136, .i (↑(cellsL args).length : Int)), (137, .i (↑x' : Int))], hp := [(3, .box [.i op, .i sub, .i t.1, .i t.2, .i v.1.1, .i v.1.2, .d (.v (.bool v.2)), .i v.3, .d (.v (.string v.4)), .d (.sl (cellsL args))]), (4, .box [.i 0, .i 0, .d (.v (.bool false)), .i 0, .d (.v (.string ⟨⟨[]⟩⟩))]), (6, .box [.i ty.1, .i ty.2])], kn := [], gd := [] : St } ∧ inv_57b row args ty m x')) ∧ (decide ((↑x : Int) < (↑(cellsL args).length : Int)) = false → Q [.agg [.i ty.1, .i ty.2, .v (.bool true), .i 0, .v (.string ⟨⟨[]⟩⟩)], .d (.v (.bool true))] [])) ∧ ((op == 15) = false → ∃ (es : List (List D)), D.sl (cellsL args) = D.sl es ∧ 0 ≤ (↑es.length : Int) ∧ (↑es.length : Int) ≤ (↑es.length : Int) ∧ (↑es.length : Int) * (↑(48 : Nat) : Int) ≤ 140737488355328 ∧ (↑es.length : Int) ≤ 140737488355328 ∧ ∃ (es_1 : List (List D)), D.sl (cellsL args) = D.sl es_1 ∧ ∃ (x0 : VX), ({ tm := [(0, .dptr [.sl (List.map AV.cs row), .sl (List.map Ty.cs (typesV row))]), (3, .ref 3 0), (4, .ref 4 0), (5, .d (.v (.bool false))), (6, .ref 6 0), (17, .own 163), (18, .d (.v (.bool false))), (165, .d (.sl (cellsL args))), (166, .i (↑es_1.length : Int)), (167, .i 0)], hp := [(3, .box [.i op, .i sub, .i t.1, .i t.2, .i v.1.1, .i v.1.2, .d (.v (.bool v.2)), .i v.3, .d (.v (.string v.4)), .d (.sl (cellsL args))]), (4, .box [.i 0, .i 0, .d (.v (.bool false)), .i 0, .d (.v (.string ⟨⟨[]⟩⟩))]), (6, .box [.i t_1.1, .i t_1.2]), (163, .lst 25 5 (List.replicate (↑es.length : Int).toNat [.i 0, .i 0, .v (.bool false), .i 0, .v (.string ⟨⟨[]⟩⟩)]))], kn := [], gd := [] : St } = { tm := [(0, .dptr [.sl (List.map AV.cs row), .sl (List.map Ty.cs (typesV row))]), (3, .ref 3 0), (4, .ref 4 0), (5, .d (.v (.bool false))), (6, .ref 6 0), (17, .own 163), (18, .d (.v (.bool (x0.2.any fun (v : AV) => v.nul)))), (165, .d (.sl (cellsL args))), (166, .i (↑(cellsL args).length : Int)), (167, .i (↑x0.1 : Int))], hp := [(3, .box [.i op, .i sub, .i t.1, .i t.2, .i v.1.1, .i v.1.2, .d (.v (.bool v.2)), .i v.3, .d (.v (.string v.4)), .d (.sl (cellsL args))]), (4, .box [.i 0, .i 0, .d (.v (.bool false)), .i 0, .d (.v (.string ⟨⟨[]⟩⟩))]), (6, .box [.d (.v (.int .i64 (typedE (typesV row) (EX.mk op sub t v args)).1.1)), .d (.v (.int .i64 (typedE (typesV row) (EX.mk op sub t v args)).1.2))]), (163, .lst 25 5 (List.map AV.cs x0.2 ++ List.replicate (args.length - x0.1) zeroV.cs))], kn := [], gd := [] : St } ∧ ∃ (n : Nat), inv_57c row args n x0) ∧ ∀ (n_1 : Nat) (x : VX), inv_57c row args n_1 x → (decide ((↑x.1 : Int) < (↑(cellsL args).length : Int)) = true → ∃ (es : List (List D)), D.sl (cellsL args) = D.sl es ∧ (0 ≤ (↑x.1 : Int) ∧ (↑x.1 : Int) < (↑es.length : Int)) ∧ ∃ (cells : List D), es[(↑x.1 : Int).toNat]? = some cells ∧ cells.length = 10 ∧ ∃ (n_2 n_3 n_4 n_5 n_6 n_7 : Int), ∃ (b : Bool), ∃ (n_8 : Int), ∃ (b_1 : ByteArray), ∃ (es : List (List D)), cut 0 10 cells = some [D.i n_2, D.i n_3, D.i n_4, D.i n_5, D.i n_6, D.i n_7, D.v (.bool b), D.i n_8, D.v (.string b_1), D.sl es] ∧ ∃ (e : EX), ∃ (row_1 : List AV), List.map AV.cs row = List.map AV.cs row_1 ∧ List.map Ty.cs (typesV row) = List.map Ty.cs (typesV row_1) ∧ [D.i n_2, D.i n_3, D.i n_4, D.i n_5, D.i n_6, D.i n_7, D.v (.bool b), D.i n_8, D.v (.string b_1), D.sl es] = Ex.cells e ∧ SubOk row_1 n e ∧ RowOk row_1 ∧ row_1.length ≤ 4398046511104 ∧ ∀ (w : AV) (ok : Bool), Is (evE row_1 e) w ok → ((!ok) = true → Q [.agg [.i 0, .i 0, .v (.bool false), .i 0, .v (.string ⟨⟨[]⟩⟩)], .d (.v (.bool false))] []) ∧ ((!ok) = false → (0 ≤ (↑x.1 : Int) ∧ (↑x.1 : Int) < (↑(List.map AV.cs x.2 ++ List.replicate (args.length - x.1) zeroV.cs).length : Int)) ∧ (5 : Nat) = (5 : Nat) ∧ ∃ (cells : List D), (List.map AV.cs x.2 ++ List.replicate (args.length - x.1) zeroV.cs)[(↑x.1 : Int).toNat]? = some cells ∧ ∃ (cells' : List D), over (0 : Nat) [D.i w.1.1, D.i w.1.2, D.v (.bool w.2), D.i w.3, D.v (.string w.4)] cells = some cells' ∧ ∃ (m : Nat), ∃ (x' : VX), m < n_1 ∧ { tm := [(0, .dptr [.sl (List.map AV.cs row), .sl (List.map Ty.cs (typesV row))]), (3, .ref 3 0), (4, .ref 4 0), (5, .d (.v (.bool false))), (6, .ref 6 0), (17, .own 163), (18, .d (.v (.bool (bif x.2.any fun (v : AV) => v.nul then true else w.2)))), (165, .d (.sl (cellsL args))), (166, .i (↑(cellsL args).length : Int)), (167, .i (IntKind.i64.wrap ((↑x.1 : Int) + 1)))], hp := [(3, .box [.i op, .i sub, .i t.1, .i t.2, .i v.1.1, .i v.1.2, .d (.v (.bool v.2)), .i v.3, .d (.v (.string v.4)), .d (.sl (cellsL args))]), (4, .box [.i 0, .i 0, .d (.v (.bool false)), .i 0, .d (.v (.string ⟨⟨[]⟩⟩))]), (6, .box [.d (.v (.int .i64 (typedE (typesV row) (EX.mk op sub t v args)).1.1)), .d (.v (.int .i64 (typedE (typesV row) (EX.mk op sub t v args)).1.2))]), (163, .lst 25 5 ((List.map AV.cs x.2 ++ List.replicate (args.length - x.1) zeroV.cs).set (↑x.1 : Int).toNat cells'))], kn := [], gd := [] : St } = { tm := [(0, .dptr [.sl (List.map AV.cs row), .sl (List.map Ty.cs (typesV row))]), (3, .ref 3 0), (4, .ref 4 0), (5, .d (.v (.bool false))), (6, .ref 6 0), (17, .own 163), (18, .d (.v (.bool (x'.2.any fun (v : AV) => v.nul)))), (165, .d (.sl (cellsL args))), (166, .i (↑(cellsL args).length : Int)), (167, .i (↑x'.1 : Int))], hp := [(3, .box [.i op, .i sub, .i t.1, .i t.2, .i v.1.1, .i v.1.2, .d (.v (.bool v.2)), .i v.3, .d (.v (.string v.4)), .d (.sl (cellsL args))]), (4, .box [.i 0, .i 0, .d (.v (.bool false)), .i 0, .d (.v (.string ⟨⟨[]⟩⟩))]), (6, .box [.d (.v (.int .i64 (typedE (typesV row) (EX.mk op sub t v args)).1.1)), .d (.v (.int .i64 (typedE (typesV row) (EX.mk op sub t v args)).1.2))]), (163, .lst 25 5 (List.map AV.cs x'.2 ++ List.replicate (args.length - x'.1) zeroV.cs))], kn := [], gd := [] : St } ∧ inv_57c row args m x')) ∧ (decide ((↑x.1 : Int) < (↑(cellsL args).length : Int)) = false → ((op == 13) = true → Q [.agg [.i 1, .i 0, .v (.bool false), .i (bif x.2.any fun (v : AV) => v.nul then (1 : Int) else (0 : Int)), .v (.string eB)], .d (.v (.bool true))] []) ∧ ((op == 13) = false → ((x.2.any fun (v : AV) => v.nul) = true → Q [.agg [.v (.int .i64 (typedE (typesV row) (EX.mk op sub t v args)).1.1), .v (.int .i64 (typedE (typesV row) (EX.mk op sub t v args)).1.2), .v (.bool true), .i 0, .v (.string ⟨⟨[]⟩⟩)], .d (.v (.bool true))] []) ∧ ((x.2.any fun (v : AV) => v.nul) = false → ∃ (op_1 sub_1 : Int), ∃ (y : Ty), ∃ (w : AV), ∃ (args_1 : List EX), ∃ (a : AV), ∃ (b : AV), [D.i op, D.i sub, D.i t.1, D.i t.2, D.i v.1.1, D.i v.1.2, D.v (.bool v.2), D.i v.3, D.v (.string v.4), D.sl (cellsL args)] = [D.i op_1, D.i sub_1, D.i y.1, D.i y.2, D.i w.1.1, D.i w.1.2, D.v (.bool w.2), D.i w.3, D.v (.string w.4), D.sl (cellsL args_1)] ∧ ValP a ∧ ValP b ∧ in64 a.3 ∧ in64 b.3 ∧ (List.map AV.cs x.2 ++ List.replicate (args.length - x.1) zeroV.cs)[(0 : Nat)]? = some a.cs ∧ (List.map AV.cs x.2 ++ List.replicate (args.length - x.1) zeroV.cs)[(List.map AV.cs x.2 ++ List.replicate (args.length - x.1) zeroV.cs).length - (1 : Nat)]? = some b.cs ∧ (List.map AV.cs x.2 ++ List.replicate (args.length - x.1) zeroV.cs).length ≤ 1000 ∧ Q [.agg [.v (.int .i64 (reckonV op_1 sub_1 { k := (typedE (typesV row) (EX.mk op sub t v args)).1.1, sc := (typedE (typesV row) (EX.mk op sub t v args)).1.2 : Ty } a b).1.1.1), .v (.int .i64 (reckonV op_1 sub_1 { k := (typedE (typesV row) (EX.mk op sub t v args)).1.1, sc := (typedE (typesV row) (EX.mk op sub t v args)).1.2 : Ty } a b).1.1.2), .v (.bool (reckonV op_1 sub_1 { k := (typedE (typesV row) (EX.mk op sub t v args)).1.1, sc := (typedE (typesV row) (EX.mk op sub t v args)).1.2 : Ty } a b).1.2), .v (.int .i64 (reckonV op_1 sub_1 { k := (typedE (typesV row) (EX.mk op sub t v args)).1.1, sc := (typedE (typesV row) (EX.mk op sub t v args)).1.2 : Ty } a b).1.3), .v (.string (reckonV op_1 sub_1 { k := (typedE (typesV row) (EX.mk op sub t v args)).1.1, sc := (typedE (typesV row) (EX.mk op sub t v args)).1.2 : Ty } a b).1.4)], .d (.v (.bool (reckonV op_1 sub_1 { k := (typedE (typesV row) (EX.mk op sub t v args)).1.1, sc := (typedE (typesV row) (EX.mk op sub t v args)).1.2 : Ty } a b).2))] []))))))))))))) ((op == 1) = true → ∃ (es : List (List D)), some [D.sl (List.map AV.cs row)] = some [D.sl es] ∧ ∃ (es_1 : List (List D)), D.sl es = D.sl es_1 ∧ (0 ≤ sub ∧ sub < (↑es_1.length : Int)) ∧ ∃ (cells : List D), es_1[sub.toNat]? = some cells ∧ cells.length = 5 ∧ ∃ (n n_1 : Int), ∃ (b : Bool), ∃ (n_2 : Int), ∃ (b_1 : ByteArray), cut 0 5 cells = some [D.i n, D.i n_1, D.v (.bool b), D.i n_2, D.v (.string b_1)] ∧ Q [.agg [.i n, .i n_1, .v (.bool b), .i n_2, .v (.string b_1)], .d (.v (.bool true))] [])) := by kernel_rfl
theorem size_mem2 {e : EX} {l : List EX} (h : e ∈ l) : size e ≤ sizeL l := by
  induction l with
  | nil => cases h
  | cons a r ih =>
    simp only [sizeL]
    cases h with
    | head => omega
    | tail _ h => have := ih h; omega
theorem typedL_mem {cols : List Ty} : ∀ {l : List EX} {tl : List Ty}, typedL cols l = some tl → ∀ e ∈ l, (typedE cols e).2 = true
  | a :: l, tl, h, e, he => by
    simp only [typedL] at h
    rcases hh : typedE cols a with ⟨u, _ | _⟩
    · rw [hh] at h; cases h
    · rw [hh] at h
      rcases hl : typedL cols l with _ | r
      · rw [hl] at h; cases h
      · rcases List.mem_cons.1 he with rfl | he
        · rw [hh]
        · exact typedL_mem hl e he
theorem mayL_mem {c : Int} {l : List EX} (h : mayL c l = true) : ∀ e ∈ l, mayE c e = true := by
  rw [mayL_all, List.all_eq_true] at h
  exact h
theorem arg_get2 {l : List EX} {i : Nat} (hi : i < l.length) : ∃ op sub t v a, l[i] = .mk op sub t v a ∧ (cellsL l)[i]? = some (encX op sub t v (cellsL a)) := by
  obtain ⟨op, sub, t, v, a, h1, h2⟩ := arg_get hi
  exact ⟨op, sub, t, v, a, h1, by rw [Int.toNat_natCast] at h2; exact h2⟩
theorem ev_get {row : List Go.Ex.AV} {l : List EX} {i : Nat} (hi : i < l.length) : (evL row l).getD i none = evE row l[i] := by
  rw [evL_map, List.getD_eq_getElem?_getD, List.getElem?_map, List.getElem?_eq_getElem hi]; rfl
theorem ev_drop {row : List Go.Ex.AV} {l : List EX} {i : Nat} (hi : i < l.length) : evL row (l.drop i) = evE row l[i] :: evL row (l.drop (i + 1)) := by
  rw [List.drop_eq_getElem_cons hi]
  simp only [evL]
theorem all_map : ∀ l : List Go.Ex.AV, allV (l.map some) = some l
  | [] => rfl
  | a :: r => by simp only [List.map_cons, allV, all_map r]
theorem all_none {row : List Go.Ex.AV} : ∀ {l : List EX} {i : Nat} (hi : i < l.length), evE row l[i] = none → allV (evL row l) = none
  | a :: l, 0, hi, h => by
    simp only [evL]
    have h : evE row a = none := h
    rw [h]; rfl
  | a :: l, i + 1, hi, h => by
    simp only [evL]
    have := all_none (l := l) (i := i) (by simpa using hi) h
    cases hx : evE row a with
    | none => rfl
    | some b => simp only [allV, this]
theorem may_small {op sub : Int} {t : Ty} {v : Go.Ex.AV} {m c : Int} (h : mayHd op sub t v m c = true) (h14 : op ≠ 14) (h15 : op ≠ 15) : m ≤ 2 := by
  unfold mayHd at h
  rw [show (op == 14) = false by simpa using h14, show (op == 15) = false by simpa using h15] at h
  simp only [cond_false] at h
  cases e1 : op == 1
  · cases e2 : op == 2
    · cases e9 : op == 9
      · cases e16 : op == 16
        · cases e8 : (op == 8 || op == 12 || op == 13 || op == 18)
          · cases e3 : (op == 3 || op == 4 || op == 5 || op == 6 || op == 7 || op == 10 || op == 11 || op == 17)
            · rw [e1, e2, e9, e16, e8, e3] at h; cases h
            · rw [e1, e2, e9, e16, e8, e3] at h
              have := eq_of_beq (bt (bt (bt h).1).1).1
              omega
          · rw [e1, e2, e9, e16, e8] at h
            have := eq_of_beq (bt (bt (bt h).1).1).1
            omega
        · rw [e1, e2, e9, e16] at h
          have := eq_of_beq (bt (bt (bt h).1).1).1
          omega
      · rw [e1, e2, e9] at h
        have := eq_of_beq (bt (bt (bt h).1).1).1
        omega
    · rw [e1, e2] at h
      have := eq_of_beq (bt (bt (bt h).1).1).1
      omega
  · rw [e1] at h
    have := eq_of_beq (bt (bt (bt h).1).1).1
    omega
theorem may_and {op sub : Int} {t : Ty} {v : Go.Ex.AV} {m c : Int} (h : mayHd op sub t v m c = true) (ho : op = 10 ∨ op = 11) : m = 2 := by
  unfold mayHd at h
  rcases ho with rfl | rfl
  · exact eq_of_beq (bt (bt (bt h).1).1).1
  · exact eq_of_beq (bt (bt (bt h).1).1).1
theorem may_case {sub : Int} {t : Ty} {v : Go.Ex.AV} {m c : Int} (h : mayHd 14 sub t v m c = true) : 3 ≤ m ∧ m.tmod 2 ≠ 0 := by
  unfold mayHd at h
  have h1 := bt (bt (bt (bt h).1).1).1
  exact ⟨of_decide_eq_true h1.1, by simpa using h1.2⟩
theorem set_map {l : List Go.Ex.AV} {n : Nat} {z : List D} {w : Go.Ex.AV} {i : Nat} (hi : l.length = i) (h : i < n) : (l.map Go.Ex.AV.cs ++ List.replicate (n - i) z).set i w.cs = (l ++ [w]).map Go.Ex.AV.cs ++ List.replicate (n - (i + 1)) z := by
  subst hi; exact set_next h
theorem ct57v (G : GlOk gl) : ∀ (n : Nat) (e : EX) (row : List Go.Ex.AV), SubOk row n e → RowOk row → row.length ≤ 4398046511104 →
    Ct prog gl 20 [.ptr [.sl (row.map Go.Ex.AV.cs), .sl ((typesV row).map Ty.cs)], .agg (cells e)] (fun res fin => fin = [] ∧ ∃ (w : Go.Ex.AV) (ok : Bool), Is (evE row e) w ok ∧ res = [.agg w.cs, .d (.v (.bool ok))])
  | 0, e, row, h, _, _ => absurd h.1 (Nat.not_lt_zero _)
  | n + 1, .mk op sub t v args, row, hs, hr, hrl => by
    have hC57 : ∀ a K, c_57v n a K → Ct prog gl 20 a K := fun a K hk => by
      unfold c_57v at hk
      split at hk
      · obtain ⟨e, row, rfl, rfl, rfl, h1, h2, h3, h4⟩ := hk
        exact (ct57v G n e row h1 h2 h3).mono fun res fin ⟨e1, w, ok, hi, e2⟩ => by subst e1; subst e2; exact h4 w ok hi
      · exact hk.elim
    have hCv : CallsOk prog gl (C_v57 n) := addC_ok (C_t122r_ok G) hC57
    have hC16 : ∀ a K, c_116v n a K → Ct prog gl 37 a K := c_116v_ok G n hCv
    have hCv16 : CallsOk prog gl (C_v116 n) := addC_ok (C_t122r_ok G) hC16
    have hC : CallsOk prog gl (C_w57 n) := addC_ok (addC_ok (addC_ok (addC_ok (C_t122r_ok G) hC57) hC16) (c_119v_ok G n hCv)) (c_115v_ok G n hCv16)
    obtain ⟨h1, h2, h3, h4⟩ := hs
    have hc : encX op sub t v (cellsL args) = cells (.mk op sub t v args) := (cells_mk _ _ _ _ _).symm
    rw [cells_mk]
    obtain ⟨tl, htl⟩ := typedE_args h4
    obtain ⟨hm, hml⟩ := may_mk h3
    obtain ⟨_, hal, hfl⟩ := fits_mk h2
    simp only [size] at h1
    have hsub : ∀ e ∈ args, SubOk row n e := fun e he => ⟨by have := size_mem2 he; omega, fitsL_mem hfl he, mayL_mem hml e he, typedL_mem htl e he⟩
    have hgood : ∀ (i : Nat) (hi : i < args.length) (a : Go.Ex.AV), evE row args[i] = some a → ValP a ∧ in64 a.n := fun i hi a ha => by
      have := hsub _ (List.getElem_mem hi)
      exact (evE_ok hr this.2.1 this.2.2.1 this.2.2.2 ha).2
    have hev : evE row (.mk op sub t v args) = evN row op sub t v (typedE (typesV row) (.mk op sub t v args)).1 (evL row args) := by simp only [evE]
    refine ct_of_vc (E := E_9) ⟨E_ok.te⟩ hC ioK_no (fun _ _ _ h => h.elim) mixed (fn := f20) (body := f20.body.getD .skip) (by kernel_rfl) (by kernel_rfl) (by kernel_rfl) (fi := fx_57v op sub t v args row (typedE (typesV row) (.mk op sub t v args)).1) (by kernel_rfl) (by kernel_rfl) (let ⟨w, ok, h⟩ := is_ex (evE row (.mk op sub t v args)) zeroV; ⟨_, _, rfl, w, ok, h, rfl⟩) ?_
    rw [vc57v]
    rw [hev]
    refine ⟨_, rfl, ?_⟩
    refine (and_self_iff).2 ?_
    refine ⟨.mk op sub t v args, typesV row, hc, rfl, h2, by rw [typesV_len]; exact h3, by rw [typesV_len]; exact hrl, fun ty ok ht => ?_⟩
    obtain rfl : ty = (typedE (typesV row) (.mk op sub t v args)).1 := by rw [ht]
    refine ⟨fun o => ?_, fun n1 => ⟨fun o => ?_, fun n2 => ⟨fun o => ?_, fun n10 => ⟨fun o => ?_, fun n11 => ⟨fun o => ?_, fun n12 => ⟨fun o => ?_, fun n16 => ⟨fun o => ?_, fun n14 => ⟨fun o => ?_, fun n15 => ?_⟩⟩⟩⟩⟩⟩⟩⟩
    · have o : op = 1 := eq_of_beq o
      have hs := may_col (by rw [o] at hm; exact hm)
      have hlt : sub.toNat < row.length := by omega
      refine ⟨_, rfl, _, rfl, ⟨hs.1, by rw [List.length_map]; exact hs.2⟩, (row[sub.toNat]).cs, by rw [List.getElem?_map, List.getElem?_eq_getElem hlt]; rfl, rfl, _, _, _, _, _, rfl, rfl, row[sub.toNat], true, ?_, rfl⟩
      unfold evN
      rw [if_pos o, List.getElem?_eq_getElem hlt]
      exact is_yes _
    · have o : op = 2 := eq_of_beq o
      refine ⟨rfl, v, true, ?_, rfl⟩
      unfold evN
      rw [if_neg (by omega), if_pos o]
      exact is_yes _
    · have o : op = 10 := eq_of_beq o
      refine ⟨op, sub, t, v, args, row, rfl, rfl, rfl, .inl o, by have := may_and hm (.inl o); omega, hsub, hr, hrl, fun w ok hi => ⟨rfl, w, ok, ?_, rfl⟩⟩
      unfold evN
      rw [if_neg (by omega), if_neg (by omega), if_pos (.inl o)]
      exact hi
    · have o : op = 11 := eq_of_beq o
      refine ⟨op, sub, t, v, args, row, rfl, rfl, rfl, .inr o, by have := may_and hm (.inr o); omega, hsub, hr, hrl, fun w ok hi => ⟨rfl, w, ok, ?_, rfl⟩⟩
      unfold evN
      rw [if_neg (by omega), if_neg (by omega), if_pos (.inr o)]
      exact hi
    · have o : op = 12 := eq_of_beq o
      have hp := may_pos hm (by omega) (by omega)
      have hp : 0 < args.length := by omega
      obtain ⟨o0, s0, t0, v0, a0, e0, g0⟩ := arg_get2 hp
      refine ⟨cellsL args, rfl, ⟨by omega, by rw [cellsL_len]; omega⟩, _, g0, rfl, o0, s0, t0.k, t0.sc, v0.t.k, v0.t.sc, v0.nul, v0.n, v0.s, cellsL a0, rfl, args[0], row, rfl, rfl, by rw [e0, cells_mk]; rfl, hsub _ (List.getElem_mem _), hr, hrl, fun tr ok hi => ⟨rfl, liftV (s118_0 tr), ok, ?_, rfl⟩⟩
      unfold evN
      rw [if_neg (by omega), if_neg (by omega), if_neg (by omega), if_pos o, ev_get hp]
      have := is_map (f := fun x => liftV (s118_0 x)) hi
      unfold trE at this
      rw [Option.map_map] at this
      exact this
    · have o : op = 16 := eq_of_beq o
      have hp := may_pos hm (by omega) (by omega)
      have hp : 0 < args.length := by omega
      obtain ⟨o0, s0, t0, v0, a0, e0, g0⟩ := arg_get2 hp
      refine ⟨cellsL args, rfl, ⟨by omega, by rw [cellsL_len]; omega⟩, _, g0, rfl, o0, s0, t0.k, t0.sc, v0.t.k, v0.t.sc, v0.nul, v0.n, v0.s, cellsL a0, rfl, args[0], row, t, rfl, rfl, by rw [e0, cells_mk]; rfl, rfl, hsub _ (List.getElem_mem _), hr, hrl, fun w ok hi => ⟨rfl, w, ok, ?_, rfl⟩⟩
      unfold evN
      rw [if_neg (by omega), if_neg (by omega), if_neg (by omega), if_neg (by omega), if_pos o, ev_get hp]
      exact hi
    · have o : op = 14 := eq_of_beq o
      have hcs := may_case (by rw [o] at hm; exact hm)
      rw [Int.tmod_eq_emod_of_nonneg (by omega)] at hcs
      have hE : evN row op sub t v (typedE (typesV row) (.mk op sub t v args)).1 (evL row args) = caseV (typedE (typesV row) (.mk op sub t v args)).1 (evL row args) := by
        unfold evN
        rw [if_neg (by omega), if_neg (by omega), if_neg (by omega), if_neg (by omega), if_neg (by omega), if_pos o]
      rw [hE]
      generalize (typedE (typesV row) (.mk op sub t v args)).1 = ty at *
      refine ⟨(0 : Nat), ⟨rfl, args.length, by omega, rfl, by rw [Nat.mul_zero, List.drop_zero]⟩, fun m (j : Nat) hj => ?_⟩
      obtain ⟨j1, j2, j3⟩ := hj
      rw [wrap_i64_of (n := 2 * (j : Int) + 1) (by omega) (by omega)]
      have q0 : (2 * (j : Int)).toNat = 2 * j := by omega
      have q1 : (2 * (j : Int) + 1).toNat = 2 * j + 1 := by omega
      obtain ⟨o0, s0, t0, v0, a0, e0, g0⟩ := arg_get2 j1
      rw [ev_drop j1] at j3
      refine ⟨cellsL args, rfl, fun hi => ?_, fun hi => ?_⟩
      · have hi := of_decide_eq_true hi
        rw [cellsL_len] at hi
        have hi : 2 * j + 1 < args.length := by omega
        obtain ⟨o1, s1, t1, v1, a1, e1, g1⟩ := arg_get2 hi
        rw [ev_drop hi] at j3
        refine ⟨cellsL args, rfl, ⟨by omega, by rw [cellsL_len]; omega⟩, _, by rw [q0]; exact g0, rfl, o0, s0, t0.k, t0.sc, v0.t.k, v0.t.sc, v0.nul, v0.n, v0.s, cellsL a0, rfl, args[2 * j], row, rfl, rfl, by rw [e0, cells_mk]; rfl, hsub _ (List.getElem_mem _), hr, hrl, fun tr ok hq => ⟨fun h => ?_, fun h => ⟨fun hk => ?_, fun hk => ?_⟩⟩⟩
        · have : ok = false := by simpa using h
          subst this
          have hn := is_none hq
          unfold trE at hn
          have hn : evE row args[2 * j] = none := by
            cases hx : evE row args[2 * j] with
            | none => rfl
            | some a => rw [hx] at hn; cases hn
          refine ⟨rfl, zeroV, false, ?_, rfl⟩
          rw [j3, hn]
          exact is_no _
        · have : ok = true := by simpa using h
          subst this
          have hn := is_some hq
          unfold trE at hn
          obtain ⟨c, hcx, hct⟩ := Option.map_eq_some_iff.1 hn
          refine ⟨cellsL args, rfl, ⟨by omega, by rw [cellsL_len]; omega⟩, _, by rw [q1]; exact g1, rfl, o1, s1, t1.k, t1.sc, v1.t.k, v1.t.sc, v1.nul, v1.n, v1.s, cellsL a1, rfl, args[2 * j + 1], row, ty, rfl, rfl, by rw [e1, cells_mk]; rfl, rfl, hsub _ (List.getElem_mem _), hr, hrl, fun w ok2 hw => ⟨rfl, w, ok2, ?_, rfl⟩⟩
          rw [j3, hcx]
          simp only [caseV]
          rw [hct, hk]
          exact hw
        · have : ok = true := by simpa using h
          subst this
          have hn := is_some hq
          unfold trE at hn
          obtain ⟨c, hcx, hct⟩ := Option.map_eq_some_iff.1 hn
          refine ⟨args.length - (j + 1), j + 1, by omega, ?_, by omega, rfl, ?_⟩
          · rw [wrap_i64_of (by omega) (by omega), show 2 * (j : Int) + 2 = 2 * ((j + 1 : Nat) : Int) by omega]
          · rw [j3, hcx]
            simp only [caseV]
            rw [hct, hk]
            rfl
      · have hi := of_decide_eq_false hi
        rw [cellsL_len] at hi
        have hl : args.length = 2 * j + 1 := by omega
        have q2 : IntKind.i64.wrap (((cellsL args).length : Int) - 1) = ((2 * j : Nat) : Int) := by rw [cellsL_len, wrap_i64_of (by omega) (by omega)]; omega
        refine ⟨cellsL args, rfl, cellsL args, rfl, ?_⟩
        rw [q2]
        refine ⟨⟨by omega, by rw [cellsL_len]; omega⟩, _, by rw [Int.toNat_natCast]; exact g0, rfl, o0, s0, t0.k, t0.sc, v0.t.k, v0.t.sc, v0.nul, v0.n, v0.s, cellsL a0, rfl, args[2 * j], row, ty, rfl, rfl, by rw [e0, cells_mk]; rfl, rfl, hsub _ (List.getElem_mem _), hr, hrl, fun w ok hw => ⟨rfl, w, ok, ?_, rfl⟩⟩
        rw [j3, List.drop_eq_nil_of_le (by omega)]
        simp only [evL, caseV]
        exact hw
    · have o : op = 15 := eq_of_beq o
      have hE : evN row op sub t v (typedE (typesV row) (.mk op sub t v args)).1 (evL row args) = coalV (typedE (typesV row) (.mk op sub t v args)).1 (evL row args) := by
        unfold evN
        rw [if_neg (by omega), if_neg (by omega), if_neg (by omega), if_neg (by omega), if_neg (by omega), if_neg (by omega), if_pos o]
      rw [hE]
      generalize (typedE (typesV row) (.mk op sub t v args)).1 = ty at *
      refine ⟨cellsL args, rfl, (0 : Nat), ⟨rfl, args.length, Nat.zero_le _, rfl, by rw [List.drop_zero]⟩, fun m (j : Nat) hj => ?_⟩
      obtain ⟨j1, j2, j3⟩ := hj
      refine ⟨fun hi => ?_, fun hi => ?_⟩
      · have hi := of_decide_eq_true hi
        rw [cellsL_len] at hi
        have hi : j < args.length := by omega
        obtain ⟨o0, s0, t0, v0, a0, e0, g0⟩ := arg_get2 hi
        rw [ev_drop hi] at j3
        refine ⟨cellsL args, rfl, ⟨by omega, by rw [cellsL_len]; omega⟩, _, by rw [Int.toNat_natCast]; exact g0, rfl, o0, s0, t0.k, t0.sc, v0.t.k, v0.t.sc, v0.nul, v0.n, v0.s, cellsL a0, rfl, args[j], row, ty, rfl, rfl, by rw [e0, cells_mk]; rfl, rfl, hsub _ (List.getElem_mem _), hr, hrl, fun w ok hw => ⟨fun h => ⟨rfl, w, ok, ?_, rfl⟩, fun h => ?_⟩⟩
        · rw [j3]
          simp only [coalV]
          unfold asE at hw
          cases ok with
          | false => rw [is_none hw]; exact is_no _
          | true =>
            rw [is_some hw]
            have : w.nul = false := by simpa using h
            dsimp only
            rw [this]
            exact is_yes _
        · have hok : ok = true ∧ w.nul = true := by
            revert h
            cases ok <;> cases w.nul <;> simp
          obtain ⟨rfl, hz⟩ := hok
          refine ⟨args.length - (j + 1), j + 1, by omega, ?_, by omega, rfl, ?_⟩
          · rw [wrap_next (by omega)]
          · rw [j3]
            simp only [coalV]
            unfold asE at hw
            rw [is_some hw]
            dsimp only
            rw [hz]
            rfl
      · have hi := of_decide_eq_false hi
        rw [cellsL_len] at hi
        refine ⟨rfl, noneV ty, true, ?_, rfl⟩
        rw [j3, List.drop_eq_nil_of_le (by omega)]
        simp only [evL, coalV]
        exact is_yes _
    · have n1 : op ≠ 1 := ne_of_beq_false n1
      have n2 : op ≠ 2 := ne_of_beq_false n2
      have n10 : op ≠ 10 := ne_of_beq_false n10
      have n11 : op ≠ 11 := ne_of_beq_false n11
      have n12 : op ≠ 12 := ne_of_beq_false n12
      have n16 : op ≠ 16 := ne_of_beq_false n16
      have n14 : op ≠ 14 := ne_of_beq_false n14
      have n15 : op ≠ 15 := ne_of_beq_false n15
      have hE : ∀ ty, evN row op sub t v ty (evL row args) = match allV (evL row args) with
          | none => none
          | some vs => if op = 13 then some (boolV (vs.any fun v => v.nul)) else bif vs.any (fun v => v.nul) then some (noneV ty) else recV op sub ty vs := fun ty => by
        unfold evN
        rw [if_neg n1, if_neg n2, if_neg (by omega), if_neg n12, if_neg n16, if_neg n14, if_neg n15]
        rfl
      rw [hE]
      have hp := may_pos hm n1 n2
      have hsm := may_small hm n14 n15
      have hcl : (cellsL args).length = args.length := cellsL_len _
      refine ⟨cellsL args, rfl, by omega, by omega, by rw [hcl]; omega, by rw [hcl]; omega, cellsL args, rfl, (⟨0, []⟩ : VX), ⟨by simp only [List.map_nil, List.nil_append, List.any_nil, Nat.sub_zero, Int.toNat_natCast, hcl]; rfl, args.length, Nat.zero_le _, rfl, rfl, by simp only [List.take_zero, evL, List.map_nil]⟩, fun m (x : VX) hx => ⟨fun hi => ?_, fun hi => ?_⟩⟩
      · obtain ⟨i, l⟩ := x
        obtain ⟨x1, x2, x3, x4⟩ := hx
        dsimp only at x1 x2 x3 x4 hi ⊢
        have hi := of_decide_eq_true hi
        rw [hcl] at hi
        have hi : i < args.length := by omega
        obtain ⟨o0, s0, t0, v0, a0, e0, g0⟩ := arg_get2 hi
        refine ⟨cellsL args, rfl, ⟨by omega, by rw [cellsL_len]; omega⟩, _, by rw [Int.toNat_natCast]; exact g0, rfl, o0, s0, t0.k, t0.sc, v0.t.k, v0.t.sc, v0.nul, v0.n, v0.s, cellsL a0, rfl, args[i], row, rfl, rfl, by rw [e0, cells_mk]; rfl, hsub _ (List.getElem_mem _), hr, hrl, fun w ok hw => ⟨fun h => ?_, fun h => ?_⟩⟩
        · have : ok = false := by simpa using h
          subst this
          refine ⟨rfl, zeroV, false, ?_, rfl⟩
          rw [all_none hi (is_none hw)]
          exact is_no _
        · have : ok = true := by simpa using h
          subst this
          refine ⟨⟨by omega, by simp; omega⟩, rfl, zeroV.cs, ?_, w.cs, rfl, args.length - (i + 1), ⟨i + 1, l ++ [w]⟩, by omega, ?_, hi, rfl, by simp [x3], ?_⟩
          · rw [Int.toNat_natCast, List.getElem?_append_right (by simp; omega), List.getElem?_replicate, if_pos (by simp; omega)]
          · dsimp only
            rw [wrap_next (by omega), Int.toNat_natCast]
            have := set_map (z := zeroV.cs) (w := w) x3 hi
            rw [this, List.any_append]
            simp only [List.any_cons, List.any_nil, Bool.or_false]
            cases l.any (fun v => v.nul) <;> cases w.nul <;> rfl
          · rw [List.take_add_one, List.getElem?_eq_getElem hi, evL_map, List.map_append, ← evL_map, x4]
            simp only [Option.toList_some, List.map_cons, List.map_nil, is_some hw, List.map_append]
      · obtain ⟨i, l⟩ := x
        obtain ⟨x1, x2, x3, x4⟩ := hx
        dsimp only at x1 x2 x3 x4 hi ⊢
        have hi := of_decide_eq_false hi
        rw [hcl] at hi
        have hi : i = args.length := by omega
        subst hi
        rw [List.take_of_length_le (Nat.le_refl _)] at x4
        rw [x4, all_map]
        dsimp only
        refine ⟨fun o => ⟨rfl, boolV (l.any fun v => v.nul), true, ?_, rfl⟩, fun n13 => ⟨fun hn => ⟨rfl, noneV _, true, ?_, rfl⟩, fun hn => ?_⟩⟩
        · rw [if_pos (eq_of_beq o)]; exact is_yes _
        · rw [if_neg (ne_of_beq_false n13), hn]; exact is_yes _
        · rw [if_neg (ne_of_beq_false n13), hn, Nat.sub_self, List.replicate_zero, List.append_nil]
          have hp0 : 0 < l.length := by omega
          have hgl : ∀ (k : Nat) (hk : k < l.length), ValP l[k] ∧ in64 l[k].n := fun k hk => by
            have hka : k < args.length := by omega
            refine hgood k hka _ ?_
            have := congrArg (fun z => z[k]?) x4
            simp only [evL_map, List.getElem?_map] at this
            rw [List.getElem?_eq_getElem hka, List.getElem?_eq_getElem hk] at this
            simpa using this
          have hl1 : l.length - 1 < l.length := by omega
          refine ⟨op, sub, t, v, args, l.getD 0 zeroV, l.getD (l.length - 1) zeroV, rfl, ?_, ?_, ?_, ?_, ?_, ?_, by rw [List.length_map]; omega, rfl, _, _, ?_, rfl⟩
          · rw [List.getD_eq_getElem?_getD, List.getElem?_eq_getElem hp0]; exact (hgl 0 hp0).1
          · rw [List.getD_eq_getElem?_getD, List.getElem?_eq_getElem hl1]; exact (hgl _ hl1).1
          · rw [List.getD_eq_getElem?_getD, List.getElem?_eq_getElem hp0]; exact (hgl 0 hp0).2
          · rw [List.getD_eq_getElem?_getD, List.getElem?_eq_getElem hl1]; exact (hgl _ hl1).2
          · rw [List.getElem?_map, List.getD_eq_getElem?_getD, List.getElem?_eq_getElem hp0]; rfl
          · rw [List.length_map, List.getElem?_map, List.getD_eq_getElem?_getD, List.getElem?_eq_getElem hl1]; rfl
          · simp only [cond_false]
            unfold recV
            refine ⟨?_, fun a ha => ?_⟩
            · cases hq : (reckonV op sub (typedE (typesV row) (EX.mk op sub t v args)).1 (l.getD 0 zeroV) (l.getD (l.length - 1) zeroV)).2 <;> rfl
            · cases hq : (reckonV op sub (typedE (typesV row) (EX.mk op sub t v args)).1 (l.getD 0 zeroV) (l.getD (l.length - 1) zeroV)).2
              · rw [hq] at ha; cases ha
              · rw [hq] at ha
                simp only [cond_true, Option.some.injEq] at ha
                exact ha
end Go.Proofs.Tryz
