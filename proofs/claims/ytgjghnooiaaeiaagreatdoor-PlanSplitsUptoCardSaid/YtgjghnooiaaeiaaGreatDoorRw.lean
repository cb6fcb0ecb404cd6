/- A part of the proof: contracts of functions, by a verified generator of conditions; no condition of its own. -/
import Derived.Test.YtgjghnooiaaeiaaGreatDoorR6
import Derived.Test.YtgjghnooiaaeiaaGreatDoorB1
import Derived.Test.YtgjghnooiaaeiaaGreatDoorDm22
namespace Go.Proofs.Tryz
open Go Go.Dm Go.Ex
set_option maxRecDepth 100000
variable {gl : Nat → Option Obj}
def c_96 (a : List R) (K : KT) : Prop := match a with
 | [.d (.sl x)] => ∃ (a : Ty) (r : List Ty), x = (a :: r).map Ty.cs ∧ r.length < 4611686018427387904 ∧ K [.agg (comR a r).1.cs, .d (.v (.bool (comR a r).2))] []
 | _ => False
theorem c_96_ok (a : List R) (K : KT) (h : c_96 a K) : Ct prog gl 24 a K := by
 unfold c_96 at h
 split at h
 · obtain ⟨a, r, rfl, h1, h2⟩ := h
   exact (ct96 a r h1).gives h2
 · exact h.elim
def c_224 (a : List R) (K : KT) : Prop := match a with
 | [.d (.v (.int .i64 op)), .d (.v (.int .i64 n))] => ∃ m : Nat, n = (m : Int) ∧ m ≤ 1353245080300 ∧ K [.d (.sl (encW (resN op m m)))] []
 | _ => False
theorem c_224_ok (a : List R) (K : KT) (h : c_224 a K) : Ct prog gl 130 a K := by
 unfold c_224 at h
 split at h
 · obtain ⟨m, rfl, h1, h2⟩ := h
   exact (ct224 _ m h1).gives h2
 · exact h.elim
def c_151 (a : List R) (K : KT) : Prop := match a with
 | [.d (.sl x), .d (.v (.int .i64 k))] => ∃ l : List Ty, x = l.map Ty.cs ∧ l.length < 4611686018427387904 ∧ K [.d (.v (.bool (!l.any (offK k))))] []
 | _ => False
theorem c_151_ok (a : List R) (K : KT) (h : c_151 a K) : Ct prog gl 68 a K := by
 unfold c_151 at h
 split at h
 · obtain ⟨l, rfl, h1, h2⟩ := h
   exact (ct151 l _ h1).gives h2
 · exact h.elim
def c_154 (a : List R) (K : KT) : Prop := match a with
 | [.d (.v (.int .i64 op)), .d (.sl y)] => ∃ (l : List Ty) (u w : Ty), y = l.map Ty.cs ∧ l[0]? = some u ∧ l[l.length - 1]? = some w ∧ l.length ≤ 1353245080300 ∧ K [.agg (arithR op u w).1.cs, .d (.v (.bool (arithR op u w).2))] []
 | _ => False
theorem c_154_ok (a : List R) (K : KT) (h : c_154 a K) : Ct prog gl 71 a K := by
 unfold c_154 at h
 split at h
 · obtain ⟨l, u, w, rfl, h1, h2, h3, h4⟩ := h
   exact (ct154 _ l u w h1 h2 h3).gives h4
 · exact h.elim
def selT (l : List Ty) (is : List Nat) : List Ty := is.map fun i => l.getD i ⟨0, 0⟩
def okK (l : List Ty) (j : Nat) : Bool := (List.range j).all fun k => (l.getD (2 * k) ⟨0, 0⟩).k == 1
def C_152 : CallT := addC (addC C_4e 24 c_96) 130 c_224
def st_152 (op sub : Int) (t : Ty) (v : Go.Ex.AV) (args : List EX) (l : List Ty) (x : Nat) : St := { tm := [(1, .d (.sl (l.map Ty.cs))), (2, .ref 2 0), (4, .ref 4 0), (5, .d (.v (.bool false))), (6, .d (.sl (encW (resN op l.length l.length)))), (7, .own 50007), (8, .d (.v (.int .i64 (x : Int))))], hp := [(2, .box [.d (.v (.int .i64 op)), .d (.v (.int .i64 sub)), .d (.v (.int .i64 t.k)), .d (.v (.int .i64 t.sc)), .d (.v (.int .i64 v.t.k)), .d (.v (.int .i64 v.t.sc)), .d (.v (.bool v.nul)), .d (.v (.int .i64 v.n)), .d (.v (.string v.s)), .d (.sl (cellsL args))]), (4, .box [.d (.v (.int .i64 0)), .d (.v (.int .i64 0))]), (50007, .lst 23 2 ((selT l ((resN op l.length l.length).take x)).map Ty.cs))], kn := [], gd := [] }
def inv_152 (op : Int) (l : List Ty) (m : Nat) (x : Nat) : Prop := x ≤ (resN op l.length l.length).length ∧ m = (resN op l.length l.length).length - x
structure RY where
 t : Ty
 ok : Bool
 j : Nat
def st_152b (op sub : Int) (t : Ty) (v : Go.Ex.AV) (args : List EX) (l : List Ty) (y : RY) : St := { tm := [(1, .d (.sl (l.map Ty.cs))), (2, .ref 2 0), (4, .ref 4 0), (5, .d (.v (.bool false))), (9, .ref 9 0), (10, .d (.v (.bool (bif y.ok then okK l y.j else false)))), (11, .d (.v (.int .i64 (2 * (y.j : Int)))))], hp := [(2, .box [.d (.v (.int .i64 op)), .d (.v (.int .i64 sub)), .d (.v (.int .i64 t.k)), .d (.v (.int .i64 t.sc)), .d (.v (.int .i64 v.t.k)), .d (.v (.int .i64 v.t.sc)), .d (.v (.bool v.nul)), .d (.v (.int .i64 v.n)), .d (.v (.string v.s)), .d (.sl (cellsL args))]), (4, .box [.d (.v (.int .i64 0)), .d (.v (.int .i64 0))]), (9, .box [.d (.v (.int .i64 y.t.k)), .d (.v (.int .i64 y.t.sc))])], kn := [], gd := [] }
def inv_152b (op : Int) (l : List Ty) (y0 : RY) (m : Nat) (y : RY) : Prop := y.t = y0.t ∧ y.ok = y0.ok ∧ y.j ≤ l.length / 2 ∧ m = l.length - y.j ∧ (op = 14 ∨ y.j = 0)
def fx_152 (op sub : Int) (t : Ty) (v : Go.Ex.AV) (args : List EX) (l : List Ty) : Fi := { fi69 with lp := [(4, ([1, 2, 4, 5, 6, 7, 8], [31, 32])), (9, ([1, 2, 4, 5, 9, 10, 11], [50007]))], cv := [(4, [⟨none, 7, 50007, 23, 2⟩])], lx := [(4, { X := Nat, sh := st_152 op sub t v args l, P := fun _ => inv_152 op l }), (9, { X := RY, sh := st_152b op sub t v args l, P := inv_152b op l })] }
def Zbq (a0 : List Ty) (a1 : RY) (a2 a3 : Int) (a4 : Ty) (a5 : Go.Ex.AV) (a6 : List EX) : St := { tm := [(1, .d (.sl (List.map Ty.cs a0))), (2, .ref 2 0), (4, .ref 4 0), (5, .d (.v (.bool false))), (9, .ref 9 0), (10, .d (.v (.bool (bif a1.2 then okK a0 a1.3 else false)))), (11, .i ((2 : Int) * (↑a1.3 : Int)))], hp := [(2, .box [.i a2, .i a3, .i a4.1, .i a4.2, .i a5.1.1, .i a5.1.2, .d (.v (.bool a5.2)), .i a5.3, .d (.v (.string a5.4)), .d (.sl (cellsL a6))]), (4, .box [.i 0, .i 0]), (9, .box [.i a1.1.1, .i a1.1.2])], kn := [], gd := [] : St }
theorem vc152 (op sub : Int) (t : Ty) (v : Go.Ex.AV) (args : List EX) (l : List Ty) (Q : KT) : vc E_0 C_152 noI (fx_152 op sub t v args l) (f69.body.getD .skip) f69.results.toList [.agg (encX op sub t v (cellsL args)), .d (.sl (l.map Ty.cs))] Q = ( Zbh l fun es => ∃ (m : Nat), (↑es.length : Int) = (↑m : Int) ∧ m ≤ (1353245080300 : Nat) ∧ ∃ (x0 : Nat), ({ tm := [(1, .d (.sl (List.map Ty.cs l))), (2, .ref 2 0), (4, .ref 4 0), (5, .d (.v (.bool false))), (6, .d (.sl (List.map (fun (i : Nat) => (Zea i)) (resN op m m)))), (7, .own 50007), (8, .i 0)], hp := [(2, .box [.i op, .i sub, .i t.1, .i t.2, .i v.1.1, .i v.1.2, .d (.v (.bool v.2)), .i v.3, .d (.v (.string v.4)), .d (.sl (cellsL args))]), (4, .box [.i 0, .i 0]), (50007, .lst 23 2 [])], kn := [], gd := [] : St } = { tm := [(1, .d (.sl (List.map Ty.cs l))), (2, .ref 2 0), (4, .ref 4 0), (5, .d (.v (.bool false))), (6, .d (.sl (List.map (fun (i : Nat) => (Zea i)) (resN op l.length l.length)))), (7, .own 50007), (8, .i (↑x0 : Int))], hp := [(2, .box [.i op, .i sub, .i t.1, .i t.2, .i v.1.1, .i v.1.2, .d (.v (.bool v.2)), .i v.3, .d (.v (.string v.4)), .d (.sl (cellsL args))]), (4, .box [.i 0, .i 0]), (50007, .lst 23 2 (List.map Ty.cs (selT l (List.take x0 (resN op l.length l.length)))))], kn := [], gd := [] : St } ∧ ∃ (n : Nat), inv_152 op l n x0) ∧ ∀ (n : Nat) (x : Nat), inv_152 op l n x → Zbt fun es => D.sl (List.map (fun (i : Nat) => (Zea i)) (resN op l.length l.length)) = D.sl es ∧ (Zec x es (Zbt fun es => D.sl (List.map (fun (i : Nat) => (Zea i)) (resN op l.length l.length)) = D.sl es ∧ Zf5 x es (1 : Nat) fun n_1 => Zc0 l n_1 fun n_2 n_3 => (Zf4 n_2 n_3) ∧ (23 : Nat) = (23 : Nat) ∧ (2 : Nat) = (2 : Nat) ∧ (↑(List.map Ty.cs (selT l (List.take x (resN op l.length l.length)))).length.succ : Int) * (↑(16 : Nat) : Int) ≤ 140737488355328 ∧ Zdq n fun m x' => { tm := [(1, .d (.sl (List.map Ty.cs l))), (2, .ref 2 0), (4, .ref 4 0), (5, .d (.v (.bool false))), (6, .d (.sl (List.map (fun (i : Nat) => (Zea i)) (resN op l.length l.length)))), (7, .own 50007), (8, .i (IntKind.i64.wrap ((↑x : Int) + 1)))], hp := [(2, .box [.i op, .i sub, .i t.1, .i t.2, .i v.1.1, .i v.1.2, .d (.v (.bool v.2)), .i v.3, .d (.v (.string v.4)), .d (.sl (cellsL args))]), (4, .box [.i 0, .i 0]), (50007, .lst 23 2 (List.map Ty.cs (selT l (List.take x (resN op l.length l.length))) ++ [(Ze0 n_2 n_3)]))], kn := [], gd := [] : St } = { tm := [(1, .d (.sl (List.map Ty.cs l))), (2, .ref 2 0), (4, .ref 4 0), (5, .d (.v (.bool false))), (6, .d (.sl (List.map (fun (i : Nat) => (Zea i)) (resN op l.length l.length)))), (7, .own 50007), (8, .i (↑x' : Int))], hp := [(2, .box [.i op, .i sub, .i t.1, .i t.2, .i v.1.1, .i v.1.2, .d (.v (.bool v.2)), .i v.3, .d (.v (.string v.4)), .d (.sl (cellsL args))]), (4, .box [.i 0, .i 0]), (50007, .lst 23 2 (List.map Ty.cs (selT l (List.take x' (resN op l.length l.length)))))], kn := [], gd := [] : St } ∧ inv_152 op l m x')) ∧ (Zdp x es (∃ (a : Ty), ∃ (r : List Ty), List.map Ty.cs (selT l (List.take x (resN op l.length l.length))) = a.cs :: List.map Ty.cs r ∧ r.length < 4611686018427387904 ∧ ∃ (x0 : RY), ({ tm := [(1, .d (.sl (List.map Ty.cs l))), (2, .ref 2 0), (4, .ref 4 0), (5, .d (.v (.bool false))), (9, .ref 9 0), (10, .d (.v (.bool (comR a r).2))), (11, .i 0)], hp := [(2, .box [.i op, .i sub, .i t.1, .i t.2, .i v.1.1, .i v.1.2, .d (.v (.bool v.2)), .i v.3, .d (.v (.string v.4)), .d (.sl (cellsL args))]), (4, .box [.i 0, .i 0]), (9, .box [.d (.v (.int .i64 (comR a r).1.1)), .d (.v (.int .i64 (comR a r).1.2))])], kn := [], gd := [] : St } = (Zbq l x0 op sub t v args) ∧ ∃ (n : Nat), inv_152b op l x0 n x0) ∧ ∀ (n : Nat) (x : RY), inv_152b op l x0 n x → Zbh l fun es => ((bif decide ((2 : Int) * (↑x.3 : Int) < IntKind.i64.wrap ((↑es.length : Int) - 1)) then op == 14 else false) = true → ((bif x.2 then okK l x.3 else false) = true → Zbh l fun es => ((0 : Int) ≤ 2 * (↑x.3 : Int) ∧ (2 : Int) * (↑x.3 : Int) < (↑es.length : Int)) ∧ ∃ (cells : List D), es[((2 : Int) * (↑x.3 : Int)).toNat]? = some cells ∧ Zf0 cells (2 : Nat) fun n_1 => ∃ (m : Nat), ∃ (x' : RY), m < n ∧ { tm := [(1, .d (.sl (List.map Ty.cs l))), (2, .ref 2 0), (4, .ref 4 0), (5, .d (.v (.bool false))), (9, .ref 9 0), (10, .d (.v (.bool (n_1 == 1)))), (11, .i (IntKind.i64.wrap ((2 : Int) * (↑x.3 : Int) + 2)))], hp := [(2, .box [.i op, .i sub, .i t.1, .i t.2, .i v.1.1, .i v.1.2, .d (.v (.bool v.2)), .i v.3, .d (.v (.string v.4)), .d (.sl (cellsL args))]), (4, .box [.i 0, .i 0]), (9, .box [.i x.1.1, .i x.1.2])], kn := [], gd := [] : St } = (Zbq l x' op sub t v args) ∧ inv_152b op l x0 m x') ∧ ((bif x.2 then okK l x.3 else false) = !true → ∃ (m : Nat), ∃ (x' : RY), m < n ∧ { tm := [(1, .d (.sl (List.map Ty.cs l))), (2, .ref 2 0), (4, .ref 4 0), (5, .d (.v (.bool false))), (9, .ref 9 0), (10, .d (.v (.bool false))), (11, .i (IntKind.i64.wrap ((2 : Int) * (↑x.3 : Int) + 2)))], hp := [(2, .box [.i op, .i sub, .i t.1, .i t.2, .i v.1.1, .i v.1.2, .d (.v (.bool v.2)), .i v.3, .d (.v (.string v.4)), .d (.sl (cellsL args))]), (4, .box [.i 0, .i 0]), (9, .box [.i x.1.1, .i x.1.2])], kn := [], gd := [] : St } = (Zbq l x' op sub t v args) ∧ inv_152b op l x0 m x')) ∧ ((bif decide ((2 : Int) * (↑x.3 : Int) < IntKind.i64.wrap ((↑es.length : Int) - 1)) then op == 14 else false) = false → Q [.agg [.i x.1.1, .i x.1.2], .d (.v (.bool (bif x.2 then okK l x.3 else false)))] [])))) := by kernel_rfl
theorem okK_next {l : List Ty} {j : Nat} (hj : 2 * j < l.length) : okK l (j + 1) = (okK l j && l[2 * j].k == 1) := by
 unfold okK
 rw [List.range_succ, List.all_append]
 simp [List.getD_eq_getElem?_getD, hj]
theorem resN_mem {op : Int} {n i : Nat} (h : i ∈ resN op n n) : i < n := by
 unfold resN at h
 exact List.mem_range.1 (List.mem_filter.1 h).1
theorem resN_len (op : Int) (n : Nat) : (resN op n n).length ≤ n := by
 unfold resN
 have := List.length_filter_le (fun i => op == 15 || i % 2 == 1 || i == n - 1) (List.range n)
 rw [List.length_range] at this; exact this
theorem encW_get {l : List Nat} {x : Nat} (h : x < l.length) : (encW l)[x]? = some [.v (.int .i64 (l[x] : Int))] := by
 unfold encW
 rw [List.getElem?_map, List.getElem?_eq_getElem h]; rfl
theorem C_152_ok : CallsOk prog gl C_152 := addC_ok (addC_ok C_4e_ok c_96_ok) c_224_ok
theorem ct152 (op sub : Int) (t : Ty) (v : Go.Ex.AV) (args : List EX) (l : List Ty) (hl : l.length ≤ 1353245080300) (a : Ty) (r : List Ty) (hsel : selT l (resN op l.length l.length) = a :: r) : Ct prog gl 69 [.agg (encX op sub t v (cellsL args)), .d (.sl (l.map Ty.cs))] (gives [.agg (comR a r).1.cs, .d (.v (.bool (bif (comR a r).2 then okK l (if op = 14 then l.length / 2 else 0) else false)))]) := by
 refine ct_of_vc E_ok C_152_ok ioK_no it_ok mixed (fn := f69) (body := f69.body.getD .skip) (by kernel_rfl) (by kernel_rfl) (by kernel_rfl) (fi := fx_152 op sub t v args l) (by kernel_rfl) (by kernel_rfl) ⟨_, _, rfl, rfl⟩ ?_
 rw [vc152]; dsimp -eta -iota -proj only [Zbh, Zbt, Zea, Zec, Zf5, Zba, Zds, Zc0, Zft, Zbc, Ze0, Zf4, Zdq, Zdp, Zbq, Zf0]
 have hrl := resN_len op l.length
 refine ⟨_, rfl, l.length, by rw [List.length_map], hl, (0 : Nat), ⟨by simp only [List.take_zero, selT, List.map_nil]; rfl, _, Nat.zero_le _, rfl⟩, fun m (x : Nat) hx => ⟨_, rfl, fun hi => ?_, fun hi => ?_⟩⟩
 · have hi : x < (resN op l.length l.length).length := by
     have h := of_decide_eq_true hi
     rw [List.length_map] at h; omega
   have hm := hx.2
   have hlt := resN_mem (List.getElem_mem hi)
   refine ⟨_, rfl, ⟨by omega, by rw [List.length_map]; omega⟩, _, encW_get hi, rfl, _, rfl, _, rfl, ⟨by omega, by rw [List.length_map]; omega⟩, _, ty_get hlt, rfl, _, _, rfl, by simp, rfl, rfl, ?_, (resN op l.length l.length).length - (x + 1), x + 1, by omega, ?_, hi, rfl⟩
   · rw [List.length_map]; simp only [selT, List.length_map, List.length_take, Nat.succ_eq_add_one]; omega
   · rw [wrap_next (by omega), take_succ_get _ hi]
     simp only [selT, List.map_append, List.map_cons, List.map_nil, List.getD_eq_getElem?_getD, List.getElem?_eq_getElem hlt, Option.getD_some]
 · have hi : ¬ x < (resN op l.length l.length).length := by
     have h := of_decide_eq_false hi
     rw [List.length_map] at h; omega
   rw [List.take_of_length_le (by omega), hsel]
   have hrr : r.length < l.length + 1 := by
     have := congrArg List.length hsel
     simp only [selT, List.length_map, List.length_cons] at this
     omega
   refine ⟨a, r, rfl, by omega, ⟨(comR a r).1, (comR a r).2, 0⟩, ⟨by
     have : (bif (comR a r).2 then okK l 0 else false) = (comR a r).2 := by cases (comR a r).2 <;> rfl
     dsimp only
     rw [this]
     rfl, l.length, rfl, rfl, Nat.zero_le _, rfl, .inr rfl⟩, fun m2 y hy => ?_⟩
   obtain ⟨yt, yok, yj⟩ := y
   obtain ⟨e2, e3, hj, hm2, hz⟩ := hy
   dsimp only at e2 e3 hj hm2 hz ⊢
   subst e2; subst e3
   refine ⟨_, rfl, fun hc => ?_, fun hc => ?_⟩
   · have hc2 : op = 14 ∧ 2 * yj + 1 < l.length := by
       by_cases h14 : op = 14
       · rw [show (op == 14) = true by simpa using h14, List.length_map] at hc
         by_cases hd : decide (2 * (yj : Int) < IntKind.i64.wrap ((l.length : Int) - 1)) = true
         · have := of_decide_eq_true hd
           rw [wrap64_of (by omega) (by omega)] at this
           exact ⟨h14, by omega⟩
         · rw [Bool.eq_false_iff.2 hd] at hc; cases hc
       · rw [show (op == 14) = false by simpa using h14] at hc
         revert hc
         cases decide (2 * (yj : Int) < IntKind.i64.wrap (((List.map Ty.cs l).length : Int) - 1)) <;> intro hc <;> cases hc
     have h2j : 2 * yj < l.length := by omega
     have w : IntKind.i64.wrap (2 * ((yj : Nat) : Int) + 2) = 2 * ((yj + 1 : Nat) : Int) := by rw [wrap64_of (by omega) (by omega)]; omega
     have hg := ty_get h2j
     have e : (bif (comR a r).2 then okK l (yj + 1) else false) = (bif (bif (comR a r).2 then okK l yj else false) then l[2 * yj].k == 1 else false) := by
       rw [okK_next h2j]; cases (comR a r).2 <;> cases okK l yj <;> rfl
     refine ⟨fun hk => ⟨_, rfl, ⟨by omega, by rw [List.length_map]; omega⟩, _, (by rw [show (2 * ((yj : Nat) : Int)).toNat = 2 * yj by omega]; exact hg), rfl, l[2 * yj].k, rfl, l.length - (yj + 1), ⟨(comR a r).1, (comR a r).2, yj + 1⟩, by omega, ?_, rfl, rfl, by show yj + 1 ≤ l.length / 2; omega, rfl, .inl hc2.1⟩, fun hk => ⟨l.length - (yj + 1), ⟨(comR a r).1, (comR a r).2, yj + 1⟩, by omega, ?_, rfl, rfl, by show yj + 1 ≤ l.length / 2; omega, rfl, .inl hc2.1⟩⟩
     · rw [hk, cond_true] at e
       dsimp only
       rw [e, w]
     · have hk' : (bif (comR a r).2 then okK l yj else false) = false := hk
       rw [hk', cond_false] at e
       dsimp only
       rw [e, w]
   · have hj' : yj = (if op = 14 then l.length / 2 else 0) := by
       by_cases h14 : op = 14
       · rw [if_pos h14]
         rw [show (op == 14) = true by simpa using h14, List.length_map] at hc
         by_cases hd : decide (2 * (yj : Int) < IntKind.i64.wrap ((l.length : Int) - 1)) = true
         · rw [hd] at hc; cases hc
         · have := of_decide_eq_false (Bool.eq_false_iff.2 hd)
           rw [wrap64_of (by omega) (by omega)] at this
           omega
       · rw [if_neg h14]
         rcases hz with h | h
         · exact absurd h h14
         · exact h
     rw [← hj']
     exact ⟨rfl, rfl⟩
def c_152 (a : List R) (K : KT) : Prop := match a with
 | [.agg x, .d (.sl y)] => ∃ (op sub : Int) (t : Ty) (v : Go.Ex.AV) (args : List EX) (l : List Ty) (a : Ty) (r : List Ty), x = encX op sub t v (cellsL args) ∧ y = l.map Ty.cs ∧ l.length ≤ 1353245080300 ∧ selT l (resN op l.length l.length) = a :: r ∧ K [.agg (comR a r).1.cs, .d (.v (.bool (bif (comR a r).2 then okK l (if op = 14 then l.length / 2 else 0) else false)))] []
 | _ => False
theorem c_152_ok (a : List R) (K : KT) (h : c_152 a K) : Ct prog gl 69 a K := by
 unfold c_152 at h
 split at h
 · obtain ⟨op, sub, t, v, args, l, a, r, rfl, rfl, h1, h2, h3⟩ := h
   exact (ct152 op sub t v args l h1 a r h2).gives h3
 · exact h.elim
end Go.Proofs.Tryz
namespace Go.Proofs.Tryz
open Go Go.Dm Go.Ex
set_option maxRecDepth 100000
variable {gl : Nat → Option Obj}
def goodT (t : Ty) : Prop := s60_0 t.k t.sc = 0
theorem good_iff {t : Ty} : goodT t ↔ 1 ≤ t.k ∧ t.k ≤ 5 ∧ 0 ≤ t.sc ∧ t.sc ≤ 18 ∧ (t.sc ≠ 0 → t.k = 3) := by
 unfold goodT s60_0 s124_0
 simp only [bne]
 by_cases h1 : t.k < 1
 · rw [decide_eq_true h1]; constructor
   · intro h; cases h
   · intro h; omega
 rw [decide_eq_false h1]
 by_cases h2 : t.k > 5
 · rw [decide_eq_true h2]; constructor
   · intro h; cases h
   · intro h; omega
 rw [decide_eq_false h2]
 by_cases h3 : t.sc ≥ 0
 · rw [decide_eq_true h3]
   by_cases h4 : t.sc ≤ 18
   · rw [decide_eq_true h4]
     by_cases h5 : t.sc = 0
     · rw [show (t.sc == 0) = true by simpa using h5]
       constructor
       · intro _; omega
       · intro _; rfl
     · rw [show (t.sc == 0) = false by simpa using h5]
       by_cases h6 : t.k = 3
       · rw [show (t.k == 3) = true by simpa using h6]
         constructor
         · intro _; omega
         · intro _; rfl
       · rw [show (t.k == 3) = false by simpa using h6]
         constructor
         · intro h; cases h
         · intro h; omega
   · rw [decide_eq_false h4]; constructor
     · intro h; cases h
     · intro h; omega
 · rw [decide_eq_false h3]; constructor
   · intro h; cases h
   · intro h; omega
theorem good_ty {t : Ty} (h : goodT t) {k : Int} (hk : k ≠ 3) : (t.k == k && (t.sc == 0 && true)) = (t.k == k) := by
 have h := good_iff.1 h
 by_cases h1 : t.k = k
 · have : t.sc = 0 := by
     by_cases h2 : t.sc = 0
     · exact h2
     · exact absurd (h.2.2.2.2 h2) (by omega)
   rw [this]; simp
 · rw [show (t.k == k) = false by simpa using h1]; rfl
theorem good_eq {t : Ty} (h : goodT t) {k : Int} (hk : k ≠ 3) (h1 : t.k = k) : t = ⟨k, 0⟩ := by
 have h := good_iff.1 h
 obtain ⟨a, b⟩ := t
 dsimp only at h h1
 subst h1
 have : b = 0 := by
   by_cases h2 : b = 0
   · exact h2
   · exact absurd (h.2.2.2.2 h2) hk
 rw [this]
theorem arith_agree {op : Int} {x y : Ty} (hx : goodT x) (hy : goodT y) (h8 : op = 8 → x = y) : agree (arithE op x y (bif x.k == 2 then y.k == 2 else false)) (arithR op x y) := by
 by_cases hi : x.k = 2 ∧ y.k = 2
 · have ex := good_eq hx (by decide) hi.1
   have ey := good_eq hy (by decide) hi.2
   subst ex; subst ey
   have : arithE op ⟨2, 0⟩ ⟨2, 0⟩ (bif (2 : Int) == 2 then (2 : Int) == 2 else false) = (⟨2, 0⟩, true) := rfl
   dsimp only
   rw [this]
   unfold arithR
   cases op == 6 <;> cases op == 7 <;> cases op == 8 <;> cases op == 5 <;> exact ⟨rfl, fun _ => rfl⟩
 have hI : (bif x.k == 2 then y.k == 2 else false) = false := by
   by_cases h1 : x.k = 2
   · have h2 : ¬ y.k = 2 := fun h => hi ⟨h1, h⟩
     rw [show (y.k == 2) = false by simpa using h2]; cases x.k == 2 <;> rfl
   · rw [show (x.k == 2) = false by simpa using h1]; rfl
 rw [hI]
 unfold arithE arithR
 rw [hI, good_ty hx (k := 5) (by decide), good_ty hy (k := 5) (by decide), good_ty hx (k := 2) (by decide), good_ty hy (k := 2) (by decide)]
 have hs : ∀ k sc, s179_0 k sc = s130_0 k sc := fun _ _ => rfl
 rw [hs, hs]
 cases op == 6
 · cases op == 7
   · by_cases o8 : op = 8
     · have e := h8 o8
       subst e
       rw [show (op == 8) = true by simpa using o8]
       cases s130_0 x.k x.sc <;> exact ⟨rfl, fun _ => rfl⟩
     · rw [show (op == 8) = false by simpa using o8]
       cases op == 5
       · cases (bif s130_0 x.k x.sc then s130_0 y.k y.sc else false)
         · cases op == 4 <;> cases x.k == 5 <;> cases y.k == 5 <;> cases y.k == 2 <;> cases op == 3 <;> cases x.k == 2 <;> exact ⟨rfl, fun _ => rfl⟩
         · exact ⟨rfl, fun _ => rfl⟩
       · cases (bif s130_0 x.k x.sc then s130_0 y.k y.sc else false)
         · exact ⟨rfl, fun h => by cases h⟩
         · exact ⟨rfl, fun _ => rfl⟩
   · exact ⟨rfl, fun h => by cases h⟩
 · exact ⟨rfl, fun h => by cases h⟩
theorem arith_good {op : Int} {x y : Ty} {b : Bool} (hx : goodT x) (hy : goodT y) {t : Ty} (h : arithE op x y b = (t, true)) : goodT t := by
 unfold arithE at h
 have g2 : goodT ⟨2, 0⟩ := rfl
 have g5 : goodT ⟨5, 0⟩ := rfl
 cases b
 case true => injection h with h _; subst h; exact g2
 cases h6 : (bif op == 6 then true else op == 7)
 case true => rw [h6] at h; injection h with _ h; cases h
 rw [h6] at h
 cases h8 : op == 8
 case true => rw [h8] at h; injection h with h _; subst h; exact hx
 rw [h8] at h
 have kx := good_iff.1 hx
 have ky := good_iff.1 hy
 cases hb : (bif s130_0 x.k x.sc then s130_0 y.k y.sc else false)
 · rw [hb] at h
   cases h5 : op == 5
   case true => rw [h5] at h; injection h with _ h; cases h
   rw [h5] at h
   cases hd : (bif (bif op == 4 then x.k == 5 && (x.sc == 0 && true) else false) then y.k == 5 && (y.sc == 0 && true) else false)
   · rw [hd] at h; injection h with h _; subst h; exact g5
   · rw [hd] at h; injection h with h _; subst h; exact g2
 · rw [hb] at h
   cases h5 : op == 5
   · rw [h5] at h; injection h with h _; subst h
     refine good_iff.2 ⟨(by show (1 : Int) ≤ 3; decide), (by show (3 : Int) ≤ 5; decide), ?_, ?_, fun _ => rfl⟩ <;> (show _ ≤ _; dsimp only; split <;> omega)
   · rw [h5] at h; injection h with h h3; subst h
     have := of_decide_eq_true h3
     rw [wrap64_of (by omega) (by omega)] at this ⊢
     exact good_iff.2 ⟨(by show (1 : Int) ≤ 3; decide), (by show (3 : Int) ≤ 5; decide), by show 0 ≤ x.sc + y.sc; omega, this, fun _ => rfl⟩
theorem cfold_good {a : Ty} {r : List Ty} (ha : goodT a) (hr : ∀ t ∈ r, goodT t) : goodT (cfold a r).1 := by
 have key : ∀ (r : List Ty) (p : Ty × Bool), goodT p.1 → (∀ t ∈ r, goodT t) → goodT (r.foldl cstep p).1 := by
   intro r
   induction r with
   | nil => intro p h _; exact h
   | cons u r ih =>
     intro p h hr
     refine ih _ ?_ (fun t ht => hr t (List.mem_cons_of_mem _ ht))
     have hu := good_iff.1 (hr u List.mem_cons_self)
     have hp := good_iff.1 h
     unfold cstep
     cases (u.k == p.1.k && (u.sc == p.1.sc && true))
     · cases (bif s130_0 u.k u.sc then s130_0 p.1.k p.1.sc else false)
       · exact h
       · refine good_iff.2 ⟨(by show (1 : Int) ≤ 3; decide), (by show (3 : Int) ≤ 5; decide), ?_, ?_, fun _ => rfl⟩ <;> (show _ ≤ _; dsimp only [cond_true, cond_false]; split <;> omega)
     · exact h
 exact key r (a, true) ha hr
theorem may_const {sub : Int} {t : Ty} {v : Go.Ex.AV} {m c : Int} (h : mayHd 2 sub t v m c = true) : goodT v.t := by
 have h2 : s56_0 v.1.1 v.1.2 v.2 v.3 v.4 = 0 := by
   have e : mayHd 2 sub t v m c = (bif (bif bif m == 0 then sub == 0 else false then tyZ t else false) then s56_0 v.1.1 v.1.2 v.2 v.3 v.4 == 0 else false) := rfl
   rw [e] at h
   revert h
   cases (bif bif m == 0 then sub == 0 else false then tyZ t else false) <;> intro h
   · cases h
   · simpa using h
 unfold goodT
 by_cases h3 : s60_0 v.t.k v.t.sc = 0
 · exact h3
 · exfalso
   apply h3
   unfold s56_0 at h2
   rw [show (s60_0 v.1.1 v.1.2 != 0) = true by simpa using h3, cond_true] at h2
   exact h2
theorem may_cast {sub : Int} {t : Ty} {v : Go.Ex.AV} {m c : Int} (h : mayHd 16 sub t v m c = true) : goodT t := by
 have e : mayHd 16 sub t v m c = (bif (bif bif m == 1 then sub == 0 else false then s60_0 t.1 t.2 == 0 else false) then valZ v else false) := rfl
 rw [e] at h
 unfold goodT
 revert h
 cases m == 1 <;> cases sub == 0 <;> cases h : (s60_0 t.1 t.2 == 0) <;> cases valZ v <;> intro h2 <;> first | (cases h2; done) | (simpa using h)
theorem may_case {sub : Int} {t : Ty} {v : Go.Ex.AV} {m c : Int} (h : mayHd 14 sub t v m c = true) : 3 ≤ m ∧ m.tmod 2 ≠ 0 := by
 have e : mayHd 14 sub t v m c = (bif (bif bif (bif decide (m ≥ 3) then m.tmod 2 != 0 else false) then sub == 0 else false then tyZ t else false) then valZ v else false) := rfl
 rw [e] at h
 revert h
 cases h1 : decide (m ≥ 3) <;> cases h2 : (m.tmod 2 != 0) <;> cases sub == 0 <;> cases tyZ t <;> cases valZ v <;> intro h <;> first | (cases h; done) | exact ⟨of_decide_eq_true h1, by simpa using h2⟩
theorem may_arith {op sub : Int} {t : Ty} {v : Go.Ex.AV} {m c : Int} (h : mayHd op sub t v m c = true) (n1 : op ≠ 1) (n2 : op ≠ 2) (n9 : op ≠ 9) (n16 : op ≠ 16) (n12 : op ≠ 12) (n13 : op ≠ 13) (n18 : op ≠ 18) (n14 : op ≠ 14) (n15 : op ≠ 15) : (op = 8 ∧ m = 1) ∨ (op ≠ 8 ∧ m = 2) := by
 unfold mayHd at h
 rw [show (op == 1) = false by simpa using n1, show (op == 2) = false by simpa using n2, show (op == 9) = false by simpa using n9, show (op == 16) = false by simpa using n16, show (op == 12) = false by simpa using n12, show (op == 13) = false by simpa using n13, show (op == 18) = false by simpa using n18, show (op == 14) = false by simpa using n14, show (op == 15) = false by simpa using n15] at h
 simp only [cond_false, Bool.or_false] at h
 by_cases o8 : op = 8
 · rw [show (op == 8) = true by simpa using o8, cond_true] at h
   refine .inl ⟨o8, ?_⟩
   by_cases hm : m = 1
   · exact hm
   · rw [show (m == 1) = false by simpa using hm] at h; cases h
 · rw [show (op == 8) = false by simpa using o8, cond_false] at h
   refine .inr ⟨o8, ?_⟩
   by_cases hm : m = 2
   · exact hm
   · rw [show (m == 2) = false by simpa using hm] at h
     revert h
     cases (op == 3 || op == 4 || op == 5 || op == 6 || op == 7 || op == 10 || op == 11 || op == 17) <;> intro h <;> cases h
theorem results_mem {op : Int} {l : List Ty} (hne : l ≠ []) {t : Ty} (h : t ∈ resultsE op l) : t ∈ l := by
 have hp := List.length_pos_iff.2 hne
 unfold resultsE at h
 split at h
 · exact h
 · rcases List.mem_append.1 h with h | h
   · unfold oddsT at h
     obtain ⟨k, hk, rfl⟩ := List.mem_map.1 h
     have hk := List.mem_range.1 hk
     have hlt : 2 * k + 1 < l.length := by omega
     rw [List.getD_eq_getElem?_getD, List.getElem?_eq_getElem hlt]
     exact List.getElem_mem hlt
   · have h := List.mem_singleton.1 h
     have hlt : l.length - 1 < l.length := by omega
     rw [List.getD_eq_getElem?_getD, List.getElem?_eq_getElem hlt] at h
     rw [h]; exact List.getElem_mem hlt
theorem get_good {l : List Ty} (hl : ∀ t ∈ l, goodT t) {i : Nat} (h : i < l.length) : goodT (l.getD i ⟨0, 0⟩) := by
 rw [List.getD_eq_getElem?_getD, List.getElem?_eq_getElem h]
 exact hl _ (List.getElem_mem h)
theorem typedN_good {cols : List Ty} (hc : ∀ t ∈ cols, goodT t) {op sub : Int} {t : Ty} {v : Go.Ex.AV} {l : List Ty} (hl : ∀ t ∈ l, goodT t) (hm : mayHd op sub t v (l.length : Int) cols.length = true) {t' : Ty} (h : typedN cols op sub t v l = (t', true)) : goodT t' := by
 have g1 : goodT ⟨1, 0⟩ := rfl
 have g2 : goodT ⟨2, 0⟩ := rfl
 have g4 : goodT ⟨4, 0⟩ := rfl
 unfold typedN at h
 split at h
 · rename_i o; subst o
   obtain ⟨h1, h2⟩ := may_col hm
   injection h with h _
   rw [← h]; exact get_good hc (by omega)
 split at h
 · rename_i o; subst o
   injection h with h _
   rw [← h]; exact may_const hm
 rename_i n1 n2
 have hpos := may_pos hm n1 n2
 have hne : l ≠ [] := by intro h; rw [h] at hpos; simp at hpos
 split at h
 · injection h with h _; subst h; exact g1
 split at h
 · injection h with h _; subst h; exact g1
 split at h
 · injection h with h _; subst h; exact g1
 split at h
 · injection h with h _; subst h; exact g4
 split at h
 · injection h with h _; subst h; exact g2
 split at h
 · rename_i o; subst o
   injection h with h _; subst h; exact may_cast hm
 split at h
 · obtain ⟨a, r, hr, _⟩ := results_ne (op := op) hne
   rw [hr] at h
   injection h with h _
   rw [← h]
   have hmem : ∀ t ∈ a :: r, goodT t := fun t ht => hl t (results_mem hne (hr ▸ ht))
   exact cfold_good (hmem _ List.mem_cons_self) (fun t ht => hmem t (List.mem_cons_of_mem _ ht))
 · exact arith_good (get_good hl (by omega)) (get_good hl (by omega)) h
theorem typedL_len {cols : List Ty} : ∀ {l : List EX} {tl : List Ty}, typedL cols l = some tl → tl.length = l.length
 | [], tl, h => by simp only [typedL, Option.some.injEq] at h; subst h; rfl
 | a :: l, tl, h => by
   simp only [typedL] at h
   rcases hh : typedE cols a with ⟨u, _ | _⟩
   · rw [hh] at h; cases h
   · rw [hh] at h
     rcases hl : typedL cols l with _ | r
     · rw [hl] at h; cases h
     · rw [hl] at h
       simp only [Option.some.injEq] at h
       subst h
       simp only [List.length_cons, typedL_len hl]
mutual
theorem typedE_good {cols : List Ty} (hc : ∀ t ∈ cols, goodT t) : ∀ (e : EX), mayE cols.length e = true → ∀ t, typedE cols e = (t, true) → goodT t
 | .mk op sub t v args, hm, t', h => by
   have hmm : mayHd op sub t v ((cellsL args).length : Int) cols.length = true ∧ mayL cols.length args = true := by
     have : (mayHd op sub t v ((cellsL args).length : Int) cols.length && mayL cols.length args) = true := by simpa only [mayE] using hm
     simpa using this
   simp only [typedE] at h
   rcases hl : typedL cols args with _ | l
   · rw [hl] at h; injection h with _ h; cases h
   · rw [hl] at h
     have hlen := typedL_len hl
     refine typedN_good hc (typedL_good hc args hmm.2 l hl) ?_ h
     rw [hlen, ← cellsL_len]; exact hmm.1
theorem typedL_good {cols : List Ty} (hc : ∀ t ∈ cols, goodT t) : ∀ (l : List EX), mayL cols.length l = true → ∀ tl, typedL cols l = some tl → ∀ t ∈ tl, goodT t
 | [], _, tl, h => by simp only [typedL, Option.some.injEq] at h; subst h; intro t ht; cases ht
 | e :: l, hm, tl, h => by
   have hmm : mayE cols.length e = true ∧ mayL cols.length l = true := by
     have : (mayE cols.length e && mayL cols.length l) = true := by simpa only [mayL] using hm
     simpa using this
   simp only [typedL] at h
   rcases hh : typedE cols e with ⟨u, _ | _⟩
   · rw [hh] at h; cases h
   · rw [hh] at h
     rcases hl : typedL cols l with _ | r
     · rw [hl] at h; cases h
     · rw [hl] at h
       simp only [Option.some.injEq] at h
       subst h
       intro t ht
       cases ht with
       | head => exact typedE_good hc e hmm.1 _ hh
       | tail _ ht => exact typedL_good hc l hmm.2 r hl t ht
end
end Go.Proofs.Tryz
namespace Go.Proofs.Tryz
open Go Go.Dm Go.Ex
set_option maxRecDepth 100000
variable {gl : Nat → Option Obj}
def c_77 (n : Nat) (a : List R) (K : KT) : Prop := match a with
 | [.agg x, .d (.sl y)] => ∃ (e : EX) (cols : List Ty), x = cells e ∧ y = cols.map Ty.cs ∧ size e < n ∧ fits e ∧ mayE cols.length e = true ∧ (∀ t ∈ cols, goodT t) ∧ cols.length ≤ 8796093022208 ∧
     (∀ (t : Ty) (ok : Bool), agree (typedE cols e) (t, ok) → K [.agg t.cs, .d (.v (.bool ok))] [])
 | _ => False
def C_r77 (n : Nat) : CallT := addC (addC (addC (addC C_4e 68 c_151) 69 c_152) 71 c_154) 36 (c_77 n)
def st_77 (op sub : Int) (t : Ty) (v : Go.Ex.AV) (args : List EX) (cols : List Ty) (x : TX) : St := { tm := [(1, .d (.sl (cols.map Ty.cs))), (2, .ref 2 0), (4, .ref 4 0), (5, .d (.v (.bool false))), (6, .own 50006), (7, .d (.v (.int .i64 (x.i : Int))))], hp := [(2, .box [.d (.v (.int .i64 op)), .d (.v (.int .i64 sub)), .d (.v (.int .i64 t.k)), .d (.v (.int .i64 t.sc)), .d (.v (.int .i64 v.t.k)), .d (.v (.int .i64 v.t.sc)), .d (.v (.bool v.nul)), .d (.v (.int .i64 v.n)), .d (.v (.string v.s)), .d (.sl (cellsL args))]), (4, .box [.d (.v (.int .i64 0)), .d (.v (.int .i64 0))]), (50006, .lst 23 2 (x.l.map Ty.cs))], kn := [], gd := [] }
def fx_77 (op sub : Int) (t : Ty) (v : Go.Ex.AV) (args : List EX) (cols : List Ty) : Fi := { fi36 with cv := [(3, [⟨none, 6, 50006, 23, 2⟩])], lx := [(3, { X := TX, sh := st_77 op sub t v args cols, P := fun _ => inv_64 cols args })] }
def Zc3 (a0 : List Ty) (a1 : TX) (a2 a3 : Int) (a4 : Ty) (a5 : Go.Ex.AV) (a6 : List EX) : St := { tm := [(1, .d (.sl (List.map Ty.cs a0))), (2, .ref 2 0), (4, .ref 4 0), (5, .d (.v (.bool false))), (6, .own 50006), (7, .i (↑a1.1 : Int))], hp := [(2, .box [.i a2, .i a3, .i a4.1, .i a4.2, .i a5.1.1, .i a5.1.2, .d (.v (.bool a5.2)), .i a5.3, .d (.v (.string a5.4)), .d (.sl (cellsL a6))]), (4, .box [.i 0, .i 0]), (50006, .lst 23 2 (List.map Ty.cs a1.2))], kn := [], gd := [] : St }
def Zcf (a0 a1 : Int) (a2 : Ty) (a3 : Go.Ex.AV) (a4 : List EX) (a5 : TX) (a6 : KT) : Prop := ∃ (op_1 sub_1 : Int), ∃ (t_1 : Ty), ∃ (v_1 : AV), ∃ (args_1 : List EX), ∃ (l : List Ty), ∃ (a : Ty), ∃ (r : List Ty), Ze3 a0 a1 a2 a3 a4 op_1 sub_1 t_1 v_1 args_1 a5 l (selT l (resN op_1 l.length l.length) = a :: r ∧ a6 [.agg [.v (.int .i64 (comR a r).1.1), .v (.int .i64 (comR a r).1.2)], .d (.v (.bool (bif (comR a r).2 then okK l (if op_1 = (14 : Int) then l.length / (2 : Nat) else (0 : Nat)) else false)))] [])
def Zch (a0 a1 a2 : Int) (a3 : Ty) (a4 : Go.Ex.AV) (a5 : List EX) (a6 : TX) (a7 : KT) : Prop := (a0 == a1) = true → Zcf a0 a2 a3 a4 a5 a6 a7
def Zcm (a0 a1 a2 : Int) (a3 : Ty) (a4 : Go.Ex.AV) (a5 : List EX) (a6 : TX) (a7 : KT) (k : Prop) : Prop := (Zch a0 a1 a2 a3 a4 a5 a6 a7) ∧ k
def Zcn (a0 a1 a2 a3 : Int) (a4 : Ty) (a5 : Go.Ex.AV) (a6 : List EX) (a7 : TX) (a8 : KT) (k : Prop) : Prop := (a0 == a1) = false → Zcm a0 a2 a3 a4 a5 a6 a7 a8 (k)
theorem vc77 (n : Nat) (op sub : Int) (t : Ty) (v : Go.Ex.AV) (args : List EX) (cols : List Ty) (Q : KT) : vc E_0 (C_r77 n) noI (fx_77 op sub t v args cols) (f36.body.getD .skip) f36.results.toList [.agg (encX op sub t v (cellsL args)), .d (.sl (cols.map Ty.cs))] Q = ( ∃ (x0 : TX), ({ tm := [(1, .d (.sl (List.map Ty.cs cols))), (2, .ref 2 0), (4, .ref 4 0), (5, .d (.v (.bool false))), (6, .own 50006), (7, .i 0)], hp := [(2, .box [.i op, .i sub, .i t.1, .i t.2, .i v.1.1, .i v.1.2, .d (.v (.bool v.2)), .i v.3, .d (.v (.string v.4)), .d (.sl (cellsL args))]), (4, .box [.i 0, .i 0]), (50006, .lst 23 2 [])], kn := [], gd := [] : St } = (Zc3 cols x0 op sub t v args) ∧ ∃ (n : Nat), inv_64 cols args n x0) ∧ ∀ (n_1 : Nat) (x : TX), inv_64 cols args n_1 x → Zby args fun es => (decide ((↑x.1 : Int) < (↑es.length : Int)) = true → Zb7 args x cols n fun e cols_1 => (∀ (t : Ty), t ∈ cols_1 → goodT t) ∧ cols_1.length ≤ 8796093022208 ∧ ∀ (t_1 : Ty) (ok : Bool), agree (typedE cols_1 e) (t_1, ok) → ((!ok) = true → Ze8 Q) ∧ (Zfw ok t_1 x n_1 fun m x' => { tm := [(1, .d (.sl (List.map Ty.cs cols))), (2, .ref 2 0), (4, .ref 4 0), (5, .d (.v (.bool false))), (6, .own 50006), (7, .i (IntKind.i64.wrap ((↑x.1 : Int) + 1)))], hp := [(2, .box [.i op, .i sub, .i t.1, .i t.2, .i v.1.1, .i v.1.2, .d (.v (.bool v.2)), .i v.3, .d (.v (.string v.4)), .d (.sl (cellsL args))]), (4, .box [.i 0, .i 0]), (50006, .lst 23 2 (List.map Ty.cs x.2 ++ [(Zde t_1)]))], kn := [], gd := [] : St } = (Zc3 cols x' op sub t v args) ∧ inv_64 cols args m x')) ∧ (decide ((↑x.1 : Int) < (↑es.length : Int)) = false → Zed op cols sub Q (((op == 1) = false → ((op == 2) = true → Q [.agg [.i v.1.1, .i v.1.2], .d (.v (.bool true))] []) ∧ ((op == 2) = false → (Zdj op x fun n n_2 n_3 n_4 => Q [.agg (Zda (1 : Int)), .d (.v (.bool (s111_0 n n_2 n_3 n_4)))] []) ∧ (Zbi op (9 : Int) (10 : Int) x Q (1 : Int) (1 : Int) ((Zbi op (10 : Int) (11 : Int) x Q (1 : Int) (1 : Int) ((Zbi op (11 : Int) (12 : Int) x Q (1 : Int) (1 : Int) (((op == 12) = false → ((op == 13) = true → Zd6 Q (1 : Int)) ∧ (Zcn op (13 : Int) (14 : Int) sub t v args x Q ((Zcn op (14 : Int) (15 : Int) sub t v args x Q (((op == 15) = false → (Zcq op (16 : Int) x fun n n_2 => Q [.agg (Zde t), .d (.v (.bool (s153_0 n n_2 t.1)))] []) ∧ (Zbi op (16 : Int) (17 : Int) x Q (4 : Int) (4 : Int) ((Zbi op (17 : Int) (18 : Int) x Q (2 : Int) (4 : Int) (((op == 18) = false → ∃ (l : List Ty), ∃ (u w : Ty), List.map Ty.cs x.2 = List.map Ty.cs l ∧ l[(0 : Nat)]? = some u ∧ l[l.length - (1 : Nat)]? = some w ∧ l.length ≤ 1353245080300 ∧ Q [.agg [.v (.int .i64 (arithR op u w).1.1), .v (.int .i64 (arithR op u w).1.2)], .d (.v (.bool (arithR op u w).2))] [])))))))))))))))))))))) := by kernel_rfl
theorem res_15 (n x : Nat) : resN 15 n x = List.range x := by
 unfold resN
 rw [List.filter_eq_self]
 intro i _; rfl
theorem selT_range (l : List Ty) : selT l (List.range l.length) = l := by
 unfold selT
 apply List.ext_getElem?
 intro i
 rw [List.getElem?_map]
 by_cases h : i < l.length
 · rw [List.getElem?_eq_getElem (by simpa using h), List.getElem_range, List.getElem?_eq_getElem h]
   simp [List.getD_eq_getElem?_getD, h]
 · rw [List.getElem?_eq_none (by simpa using h), List.getElem?_eq_none (by omega)]; rfl
theorem res_14 (h : Nat) : ∀ j, j ≤ h → resN 14 (2 * h + 1) (2 * j) = (List.range j).map fun k => 2 * k + 1
 | 0, _ => rfl
 | j + 1, hj => by
   rw [show 2 * (j + 1) = 2 * j + 1 + 1 by omega, resN_next, resN_next, res_14 h j (by omega)]
   have e1 : ((14 : Int) == 15 || (2 * j) % 2 == 1 || 2 * j == 2 * h + 1 - 1) = false := by
     rw [Bool.eq_false_iff]; intro hh
     simp only [Bool.or_eq_true, beq_iff_eq] at hh
     rcases hh with (hh | hh) | hh
     · cases hh
     · omega
     · omega
   have e2 : ((14 : Int) == 15 || (2 * j + 1) % 2 == 1 || 2 * j + 1 == 2 * h + 1 - 1) = true := by
     rw [show (2 * j + 1) % 2 = 1 by omega]; rfl
   rw [e1, e2, if_pos rfl, if_neg (by decide), List.append_nil, List.range_succ, List.map_append]
   rfl
theorem sel_results {op : Int} {l : List Ty} (h : op = 15 ∨ (op = 14 ∧ l.length % 2 = 1)) : selT l (resN op l.length l.length) = resultsE op l := by
 rcases h with rfl | ⟨rfl, h⟩
 · rw [res_15, selT_range]; rfl
 · obtain ⟨m, hm⟩ : ∃ m, l.length = 2 * m + 1 := ⟨l.length / 2, by omega⟩
   have e : resN 14 l.length l.length = ((List.range m).map fun k => 2 * k + 1) ++ [2 * m] := by
     rw [hm, resN_next, res_14 m m (Nat.le_refl _)]
     have : ((14 : Int) == 15 || (2 * m) % 2 == 1 || 2 * m == 2 * m + 1 - 1) = true := by
       rw [show 2 * m + 1 - 1 = 2 * m by omega]; simp
     rw [this, if_pos rfl]
   rw [e]
   unfold resultsE selT oddsT
   rw [if_neg (by decide), hm, show (2 * m + 1) / 2 = m by omega, show 2 * m + 1 - 1 = 2 * m by omega, List.map_append, List.map_map]
   rfl
theorem okJK {l : List Ty} (hl : ∀ t ∈ l, goodT t) {j : Nat} (hj : 2 * j ≤ l.length) : okJ l j = okK l j := by
 unfold okJ okK
 rw [Bool.eq_iff_iff, List.all_eq_true, List.all_eq_true]
 have key : ∀ k, k ∈ List.range j → truthT (l.getD (2 * k) ⟨0, 0⟩) = ((l.getD (2 * k) ⟨0, 0⟩).k == 1) := by
   intro k hk
   have hk := List.mem_range.1 hk
   exact good_ty (get_good hl (by omega)) (by decide)
 constructor
 · intro h k hk; rw [← key k hk]; exact h k hk
 · intro h k hk; rw [key k hk]; exact h k hk
theorem case_agree {op : Int} (ho : op = 14 ∨ op = 15) {l : List Ty} (hl : ∀ t ∈ l, goodT t) {a : Ty} {r : List Ty} (ha : goodT a) : agree ((cfold a r).1, (cfold a r).2 && (decide (op = 15) || okJ l (l.length / 2))) ((comR a r).1, bif (comR a r).2 then okK l (if op = 14 then l.length / 2 else 0) else false) := by
 obtain ⟨h1, h2⟩ := com_agree a (good_iff.1 ha).2.2.1 r
 have h3 : (bif (comR a r).2 then okK l (if op = 14 then l.length / 2 else 0) else false) = ((cfold a r).2 && (decide (op = 15) || okJ l (l.length / 2))) := by
   rw [h1]
   rcases ho with rfl | rfl
   · rw [if_pos rfl, okJK hl (by omega)]
     cases (cfold a r).2 <;> rfl
   · cases (cfold a r).2 <;> rfl
 refine ⟨h3, fun h => h2 ?_⟩
 dsimp only at h
 revert h
 cases (cfold a r).2 <;> simp
theorem alike_eq (a b c d : Int) : s111_0 a b c d = s129_0 a b c d := by
 have e : ∀ k, s188_0 k = s209_0 k := fun _ => rfl
 unfold s111_0 s129_0
 rw [e, e]
 cases decide (a ≥ 1) <;> cases decide (a ≤ 5) <;> cases s209_0 a == s209_0 c <;> rfl
theorem any_two : ∀ {tl : List Ty}, (tl.length = 1 ∨ tl.length = 2) → ∀ (h1 : 0 < tl.length) (h2 : tl.length - 1 < tl.length), (!tl.any (offK 2)) = (bif tl[0].k == 2 then tl[tl.length - 1].k == 2 else false)
 | [x], _, _, _ => by
   show (!(x.k != 2 || false)) = (bif x.k == 2 then x.k == 2 else false)
   simp only [bne]
   cases x.k == 2 <;> rfl
 | [x, y], _, _, _ => by
   show (!(x.k != 2 || (y.k != 2 || false))) = (bif x.k == 2 then y.k == 2 else false)
   simp only [bne]
   cases x.k == 2 <;> cases y.k == 2 <;> rfl
 | [], h, _, _ => by simp at h
 | _ :: _ :: _ :: _, h, _, _ => by simp at h
theorem ct77 : ∀ (n : Nat) (e : EX) (cols : List Ty), size e < n → fits e → mayE cols.length e = true → (∀ t ∈ cols, goodT t) → cols.length ≤ 8796093022208 → Ct prog gl 36 [.agg (cells e), .d (.sl (cols.map Ty.cs))] (fun res fin => fin = [] ∧ ∃ (t : Ty) (ok : Bool), agree (typedE cols e) (t, ok) ∧ res = [.agg t.cs, .d (.v (.bool ok))])
 | 0, _, _, h, _, _, _, _ => absurd h (Nat.not_lt_zero _)
 | n + 1, .mk op sub t v args, cols, hs, hf, hm, hgc, hcl => by
   have hC : CallsOk prog gl (C_r77 n) := addC_ok (addC_ok (addC_ok (addC_ok C_4e_ok c_151_ok) c_152_ok) c_154_ok) (fun a K hk => by
     unfold c_77 at hk
     split at hk
     · obtain ⟨e, cols, rfl, rfl, h1, h2, h3, h4, h5, h6⟩ := hk
       exact (ct77 n e cols h1 h2 h3 h4 h5).mono fun res fin ⟨e1, t, ok, e2, e3⟩ => by subst e1; subst e3; exact h6 t ok e2
     · exact hk.elim)
   rw [cells_mk]
   refine ct_of_vc E_ok hC ioK_no it_ok mixed (fn := f36) (body := f36.body.getD .skip) (by kernel_rfl) (by kernel_rfl) (by kernel_rfl) (fi := fx_77 op sub t v args cols) (by kernel_rfl) (by kernel_rfl) ⟨_, _, rfl, (typedE cols (.mk op sub t v args)).1, (typedE cols (.mk op sub t v args)).2, agree_refl _, rfl⟩ ?_
   rw [vc77]; dsimp -eta -iota -proj only [Zc3, Zby, Zbt, Zb7, Zbo, Zk, Z1, Z4, Ze8, Zev, Zda, Zfw, Zfp, Zfo, Zfn, Zfm, Zde, Zed, Zd5, Zc0, Zbh, Zft, Zbc, Ze0, Zdj, Zcq, Zbw, Zbi, Zd6, Zd2, Zcn, Zcm, Zch, Zcf, Ze3, Zz, Zbb]
   obtain ⟨_, hl, hfl⟩ := fits_mk hf
   simp only [size] at hs
   have hmm : mayHd op sub t v ((cellsL args).length : Int) cols.length = true ∧ mayL cols.length args = true := by
     have : (mayHd op sub t v ((cellsL args).length : Int) cols.length && mayL cols.length args) = true := by simpa only [mayE] using hm
     simpa using this
   obtain ⟨hh, hml'⟩ := hmm
   have hml := hml'
   rw [mayL_all, List.all_eq_true] at hml
   refine ⟨⟨0, []⟩, ⟨rfl, args.length, ⟨Nat.zero_le _, rfl⟩, by simp only [List.take_zero, typedL], rfl⟩, fun m (x : TX) hx => ⟨cellsL args, rfl, fun hi => ?_, fun hi => ?_⟩⟩
   · obtain ⟨i, tl⟩ := x
     obtain ⟨⟨h1, h2⟩, h4, h5⟩ := hx
     dsimp only at h1 h2 h4 h5 hi ⊢
     have hi : i < args.length := by simpa [cellsL_len] using hi
     obtain ⟨op1, sub1, t1, v1, a1, e1, g1⟩ := arg_get hi
     have hsz := size_mem (List.getElem_mem hi)
     refine ⟨cellsL args, rfl, ⟨by omega, by rw [cellsL_len]; omega⟩, _, g1, rfl, op1, sub1, t1.k, t1.sc, v1.t.k, v1.t.sc, v1.nul, v1.n, v1.s, cellsL a1, rfl, args[i], cols, by rw [e1, cells_mk]; rfl, rfl, by omega, fitsL_mem hfl (List.getElem_mem hi), hml _ (List.getElem_mem hi), hgc, hcl, fun t2 ok he => ⟨fun ho => ?_, fun ho => ⟨by simp, rfl, rfl, ?_, args.length - (i + 1), ⟨i + 1, tl ++ [t2]⟩, by omega, ?_, ⟨hi, rfl⟩, ?_, by simp [h5]⟩⟩⟩
     · have : ok = false := by simpa using ho
       subst this
       have e2 : (typedE cols args[i]).2 = false := he.1.symm
       refine ⟨rfl, ⟨0, 0⟩, false, ?_, rfl⟩
       rw [typedE_none (typedL_none (List.getElem_mem hi) e2)]
       exact agree_refl _
     · rw [List.length_map, h5]; simp only [Nat.succ_eq_add_one]; omega
     · dsimp only
       rw [wrap_next (by omega), List.map_append]
       rfl
     · have : ok = true := by simpa using ho
       subst this
       rw [List.take_add_one, List.getElem?_eq_getElem hi]
       refine typedL_snoc h4 ?_
       have e2 : (typedE cols args[i]).2 = true := he.1.symm
       have e3 := he.2 e2
       rcases hte : typedE cols args[i] with ⟨u, b⟩
       rw [hte] at e2 e3
       dsimp only at e2 e3
       rw [e2, e3]
   · obtain ⟨i, tl⟩ := x
     obtain ⟨⟨h1, h2⟩, h4, h5⟩ := hx
     dsimp only at h1 h2 h4 h5 hi ⊢
     have hi : ¬ i < args.length := by simpa [cellsL_len] using hi
     rw [List.take_of_length_le (by omega)] at h4
     have htl : tl.length = args.length := by omega
     rw [cellsL_len] at hh
     have hgl := typedL_good hgc args hml' tl h4
     have fin : ∀ (a a' : Int) (c : Bool), agree (typedN cols op sub t v tl) (⟨a, a'⟩, c) → (([] : List (List D)) = [] ∧ ∃ (t' : Ty) (ok : Bool), agree (typedE cols (.mk op sub t v args)) (t', ok) ∧ [R.agg [D.v (Value.int IntKind.i64 a), D.v (Value.int IntKind.i64 a')], R.d (D.v (Value.bool c))] = [.agg t'.cs, .d (.v (.bool ok))]) := fun a a' c h => ⟨rfl, ⟨a, a'⟩, c, by rw [typedE_some h4]; exact h, rfl⟩
     have same : ∀ (p : Ty × Bool) (a a' : Int) (c : Bool), p = (⟨a, a'⟩, c) → agree p (⟨a, a'⟩, c) := fun p a a' c h => by rw [h]; exact agree_refl _
     have g0 : ∀ (h : 0 < tl.length), (tl.map Ty.cs)[Int.toNat 0]? = some (Ty.cs tl[0]) := fun h => ty_get h
     have g1 : ∀ (h : 1 < tl.length), (tl.map Ty.cs)[Int.toNat 1]? = some (Ty.cs tl[1]) := fun h => ty_get h
     have d0 : ∀ (h : 0 < tl.length), tl.getD 0 ⟨0, 0⟩ = tl[0] := fun h => by rw [List.getD_eq_getElem?_getD, List.getElem?_eq_getElem h]; rfl
     have d1 : ∀ (h : 1 < tl.length), tl.getD 1 ⟨0, 0⟩ = tl[1] := fun h => by rw [List.getD_eq_getElem?_getD, List.getElem?_eq_getElem h]; rfl
     refine ⟨fun o1 => ?_, fun o1 => ⟨fun o2 => ?_, fun o2 => ⟨fun o9 => ?_, fun o9 => ⟨fun o10 => ?_, fun o10 => ⟨fun o11 => ?_, fun o11 => ⟨fun o12 => ?_, fun o12 => ⟨fun o13 => ?_, fun o13 => ⟨fun o14 => ?_, fun o14 => ⟨fun o15 => ?_, fun o15 => ⟨fun o16 => ?_, fun o16 => ⟨fun o17 => ?_, fun o17 => ⟨fun o18 => ?_, fun o18 => ?_⟩⟩⟩⟩⟩⟩⟩⟩⟩⟩⟩⟩
     · have o1 : op = 1 := by simpa using o1
       subst o1
       obtain ⟨c1, c2⟩ := may_col hh
       have hlt : sub.toNat < cols.length := by omega
       refine ⟨_, rfl, ⟨c1, by rw [List.length_map]; exact c2⟩, _, ty_get hlt, rfl, _, _, rfl, fin _ _ _ (same _ _ _ _ ?_)⟩
       unfold typedN
       rw [if_pos rfl, List.getD_eq_getElem?_getD, List.getElem?_eq_getElem hlt]
       rfl
     all_goals have n1 : op ≠ 1 := by simpa using o1
     · have o2 : op = 2 := by simpa using o2
       refine fin _ _ _ (same _ _ _ _ ?_)
       unfold typedN
       rw [if_neg n1, if_pos o2]
     all_goals have n2 : op ≠ 2 := by simpa using o2
     all_goals have hpos : 1 ≤ args.length := by have := may_pos hh n1 n2; omega
     all_goals have hne : tl ≠ [] := by intro h; rw [h] at htl; simp at htl; omega
     · have o9 : op = 9 := by simpa using o9
       subst o9
       have h2 := may_two hh
       refine ⟨⟨by decide, by rw [List.length_map]; omega⟩, rfl, _, g0 (by omega), _, _, rfl, ⟨by decide, by rw [List.length_map]; omega⟩, rfl, _, g1 (by omega), _, _, rfl, fin _ _ _ (same _ _ _ _ ?_)⟩
       unfold typedN
       rw [if_neg n1, if_neg n2, if_pos rfl, d0 (by omega), d1 (by omega), alike_eq]
     all_goals have n9 : op ≠ 9 := by simpa using o9
     · have o10 : op = 10 := by simpa using o10
       refine ⟨tl, rfl, by omega, fin _ _ _ (same _ _ _ _ ?_)⟩
       unfold typedN
       rw [if_neg n1, if_neg n2, if_neg n9, if_pos (.inl o10)]
     all_goals have n10 : op ≠ 10 := by simpa using o10
     · have o11 : op = 11 := by simpa using o11
       refine ⟨tl, rfl, by omega, fin _ _ _ (same _ _ _ _ ?_)⟩
       unfold typedN
       rw [if_neg n1, if_neg n2, if_neg n9, if_pos (.inr (.inl o11))]
     all_goals have n11 : op ≠ 11 := by simpa using o11
     · have o12 : op = 12 := by simpa using o12
       refine ⟨tl, rfl, by omega, fin _ _ _ (same _ _ _ _ ?_)⟩
       unfold typedN
       rw [if_neg n1, if_neg n2, if_neg n9, if_pos (.inr (.inr o12))]
     all_goals have n12 : op ≠ 12 := by simpa using o12
     all_goals have nn : ¬ (op = 10 ∨ op = 11 ∨ op = 12) := by omega
     · have o13 : op = 13 := by simpa using o13
       refine fin _ _ _ (same _ _ _ _ ?_)
       unfold typedN
       rw [if_neg n1, if_neg n2, if_neg n9, if_neg nn, if_pos o13]
     all_goals have n13 : op ≠ 13 := by simpa using o13
     · have o14 : op = 14 := by simpa using o14
       obtain ⟨a, r, hr, hrl⟩ := results_ne (op := op) hne
       have hodd : op = 15 ∨ (op = 14 ∧ tl.length % 2 = 1) := by
         refine .inr ⟨o14, ?_⟩
         subst o14
         have := (may_case hh).2
         rw [Int.tmod_eq_emod_of_nonneg (by omega)] at this
         omega
       have ha : goodT a := hgl _ (results_mem hne (hr ▸ List.mem_cons_self))
       refine ⟨op, sub, t, v, args, tl, a, r, rfl, rfl, by omega, by rw [sel_results hodd, hr], fin _ _ _ ?_⟩
       have n17 : op ≠ 17 := by omega
       have n18 : op ≠ 18 := by omega
       have n16 : op ≠ 16 := by omega
       unfold typedN
       rw [if_neg n1, if_neg n2, if_neg n9, if_neg nn, if_neg n13, if_neg n17, if_neg n18, if_neg n16, if_pos (.inl o14), hr]
       exact case_agree (.inl o14) hgl ha
     all_goals have n14 : op ≠ 14 := by simpa using o14
     · have o15 : op = 15 := by simpa using o15
       obtain ⟨a, r, hr, hrl⟩ := results_ne (op := op) hne
       have ha : goodT a := hgl _ (results_mem hne (hr ▸ List.mem_cons_self))
       refine ⟨op, sub, t, v, args, tl, a, r, rfl, rfl, by omega, by rw [sel_results (.inl o15), hr], fin _ _ _ ?_⟩
       have n17 : op ≠ 17 := by omega
       have n18 : op ≠ 18 := by omega
       have n16 : op ≠ 16 := by omega
       unfold typedN
       rw [if_neg n1, if_neg n2, if_neg n9, if_neg nn, if_neg n13, if_neg n17, if_neg n18, if_neg n16, if_pos (.inr o15), hr]
       exact case_agree (.inr o15) hgl ha
     all_goals have n15 : op ≠ 15 := by simpa using o15
     · have o16 : op = 16 := by simpa using o16
       refine ⟨⟨by decide, by rw [List.length_map]; omega⟩, rfl, _, g0 (by omega), _, _, rfl, fin _ _ _ (same _ _ _ _ ?_)⟩
       have n17 : op ≠ 17 := by omega
       have n18 : op ≠ 18 := by omega
       unfold typedN
       rw [if_neg n1, if_neg n2, if_neg n9, if_neg nn, if_neg n13, if_neg n17, if_neg n18, if_pos o16, d0 (by omega)]
       unfold s153_0
       rw [BEq.comm (a := tl[0].k) (b := t.k)]
       have hs : ∀ k sc, s179_0 k sc = s130_0 k sc := fun _ _ => rfl
       rw [hs, show s130_0 t.k t.sc = (bif t.k == 2 then true else t.k == 3) from rfl]
       cases t.k == tl[0].k <;> cases tl[0].k == 4 <;> cases t.k == 4 <;> rfl
     all_goals have n16 : op ≠ 16 := by simpa using o16
     · have o17 : op = 17 := by simpa using o17
       refine ⟨tl, rfl, by omega, fin _ _ _ (same _ _ _ _ ?_)⟩
       unfold typedN
       rw [if_neg n1, if_neg n2, if_neg n9, if_neg nn, if_neg n13, if_pos o17]
     all_goals have n17 : op ≠ 17 := by simpa using o17
     · have o18 : op = 18 := by simpa using o18
       refine ⟨tl, rfl, by omega, fin _ _ _ (same _ _ _ _ ?_)⟩
       unfold typedN
       rw [if_neg n1, if_neg n2, if_neg n9, if_neg nn, if_neg n13, if_neg n17, if_pos o18]
     all_goals have n18 : op ≠ 18 := by simpa using o18
     have hlast : tl.length - 1 < tl.length := by omega
     have har := may_arith hh n1 n2 n9 n16 n12 n13 n18 n14 n15
     refine ⟨tl, tl[0], tl[tl.length - 1], rfl, List.getElem?_eq_getElem _, List.getElem?_eq_getElem _, by omega, fin _ _ _ ?_⟩
     unfold typedN
     rw [if_neg n1, if_neg n2, if_neg n9, if_neg nn, if_neg n13, if_neg n17, if_neg n18, if_neg n16, if_neg (by omega), d0 (by omega), List.getD_eq_getElem?_getD, List.getElem?_eq_getElem hlast, Option.getD_some]
     have hany : (!tl.any (offK 2)) = (bif tl[0].k == 2 then tl[tl.length - 1].k == 2 else false) := by
       exact any_two (by rcases har with ⟨_, h⟩ | ⟨_, h⟩ <;> omega) _ _
     rw [hany]
     refine arith_agree (hgl _ (List.getElem_mem _)) (hgl _ (List.getElem_mem _)) (fun o8 => ?_)
     rcases har with ⟨_, hm1⟩ | ⟨h8, _⟩
     · have : tl.length - 1 = 0 := by omega
       simp only [this]
     · exact absurd o8 h8
def c_77g (a : List R) (K : KT) : Prop := match a with
 | [.agg x, .d (.sl y)] => ∃ (e : EX) (cols : List Ty), x = cells e ∧ y = cols.map Ty.cs ∧ fits e ∧ mayE cols.length e = true ∧ (∀ t ∈ cols, goodT t) ∧ cols.length ≤ 8796093022208 ∧
     (∀ (t : Ty) (ok : Bool), agree (typedE cols e) (t, ok) → K [.agg t.cs, .d (.v (.bool ok))] [])
 | _ => False
theorem c_77g_ok (a : List R) (K : KT) (h : c_77g a K) : Ct prog gl 36 a K := by
 unfold c_77g at h
 split at h
 · obtain ⟨e, cols, rfl, rfl, h2, h3, h4, h5, h6⟩ := h
   exact (ct77 (size e + 1) e cols (Nat.lt_succ_self _) h2 h3 h4 h5).mono fun res fin ⟨e1, t, ok, e2, e3⟩ => by subst e1; subst e3; exact h6 t ok e2
 · exact h.elim
end Go.Proofs.Tryz
namespace Go.Proofs.Tryz
open Go Go.Dm Go.Ex
set_option maxRecDepth 100000
variable {gl : Nat → Option Obj}
def C_r23 : CallT := addC (addC (addC (addC C_4e 33 c_61h) 34 c_62h) 35 c_76g) 36 c_77g
def st_23 (op sub : Int) (t : Ty) (v : Go.Ex.AV) (args : List EX) (cols : List Ty) (x : Nat) : St := { tm := [(1, .d (.sl (cols.map Ty.cs))), (2, .ref 2 0), (4, .ref 4 0), (5, .d (.v (.int .i64 0))), (6, .d (.v (.int .i64 (x : Int))))], hp := [(2, .box [.d (.v (.int .i64 op)), .d (.v (.int .i64 sub)), .d (.v (.int .i64 t.k)), .d (.v (.int .i64 t.sc)), .d (.v (.int .i64 v.t.k)), .d (.v (.int .i64 v.t.sc)), .d (.v (.bool v.nul)), .d (.v (.int .i64 v.n)), .d (.v (.string v.s)), .d (.sl (cellsL args))]), (4, .box [.d (.v (.int .i64 0)), .d (.v (.int .i64 0))])], kn := [], gd := [] }
def inv_23 (cols : List Ty) (m : Nat) (x : Nat) : Prop := x ≤ cols.length ∧ m = cols.length - x ∧ (cols.take x).any badT = false
def fx_23 (op sub : Int) (t : Ty) (v : Go.Ex.AV) (args : List EX) (cols : List Ty) : Fi := { fi9 with lx := [(2, { X := Nat, sh := st_23 op sub t v args cols, P := fun _ => inv_23 cols })] }
def Zdn (a0 : List Ty) (a1 : Nat) (a2 a3 : Int) (a4 : Ty) (a5 : Go.Ex.AV) (a6 : List EX) : St := { tm := [(1, .d (.sl (List.map Ty.cs a0))), (2, .ref 2 0), (4, .ref 4 0), (5, .i 0), (6, .i (↑a1 : Int))], hp := [(2, .box [.i a2, .i a3, .i a4.1, .i a4.2, .i a5.1.1, .i a5.1.2, .d (.v (.bool a5.2)), .i a5.3, .d (.v (.string a5.4)), .d (.sl (cellsL a6))]), (4, .box [.i 0, .i 0])], kn := [], gd := [] : St }
theorem vc23 (op sub : Int) (t : Ty) (v : Go.Ex.AV) (args : List EX) (cols : List Ty) (Q : KT) : vc E_0 C_r23 noI (fx_23 op sub t v args cols) (f9.body.getD .skip) f9.results.toList [.agg (encX op sub t v (cellsL args)), .d (.sl (cols.map Ty.cs))] Q = ( ∃ (x0 : Nat), ({ tm := [(1, .d (.sl (List.map Ty.cs cols))), (2, .ref 2 0), (4, .ref 4 0), (5, .i 0), (6, .i 0)], hp := [(2, .box [.i op, .i sub, .i t.1, .i t.2, .i v.1.1, .i v.1.2, .d (.v (.bool v.2)), .i v.3, .d (.v (.string v.4)), .d (.sl (cellsL args))]), (4, .box [.i 0, .i 0])], kn := [], gd := [] : St } = (Zdn cols x0 op sub t v args) ∧ ∃ (n : Nat), inv_23 cols n x0) ∧ ∀ (n : Nat) (x : Nat), inv_23 cols n x → Zbh cols fun es => (Zec x es (Zb5 cols x fun n_1 n_2 => ((s67_0 n_1 n_2 != (0 : Int)) = true → Zfc Q (140 : Int)) ∧ ((s67_0 n_1 n_2 != (0 : Int)) = false → Zdq n fun m x' => { tm := [(1, .d (.sl (List.map Ty.cs cols))), (2, .ref 2 0), (4, .ref 4 0), (5, .i 0), (6, .i (IntKind.i64.wrap ((↑x : Int) + 1)))], hp := [(2, .box [.i op, .i sub, .i t.1, .i t.2, .i v.1.1, .i v.1.2, .d (.v (.bool v.2)), .i v.3, .d (.v (.string v.4)), .d (.sl (cellsL args))]), (4, .box [.i 0, .i 0])], kn := [], gd := [] : St } = (Zdn cols x' op sub t v args) ∧ inv_23 cols m x'))) ∧ (Zdp x es (Zd8 op sub t v args fun e e_1 => Zbh cols fun es => Zbx op sub t v args fun e_2 => ((bif bif decide (nodes e > 256) then true else decide (deep e_1 > 24) then true else !mayE (↑es.length : Int) e_2) = true → Zfc Q (140 : Int)) ∧ ((bif bif decide (nodes e > 256) then true else decide (deep e_1 > 24) then true else !mayE (↑es.length : Int) e_2) = false → Zc1 op sub t v args fun e cols_1 => List.map Ty.cs cols = List.map Ty.cs cols_1 ∧ fits e ∧ mayE (↑cols_1.length : Int) e = true ∧ (∀ (t : Ty), t ∈ cols_1 → goodT t) ∧ cols_1.length ≤ 8796093022208 ∧ ∀ (t : Ty) (ok : Bool), agree (typedE cols_1 e) (t, ok) → ((!ok) = true → Zfc Q (21 : Int)) ∧ ((!ok) = false → Q [.agg (Zde t), .d (.i 0)] []))))) := by kernel_rfl
theorem bad_eq (t : Ty) : badT t = (s67_0 t.k t.sc != 0) := by rw [s67_60]; rfl
theorem good_all {cols : List Ty} (h : cols.any badT = false) : ∀ t ∈ cols, goodT t := by
 intro t ht
 have h2 : badT t = false := by
   rw [Bool.eq_false_iff]; intro h3
   have : cols.any badT = true := List.any_eq_true.2 ⟨t, ht, h3⟩
   rw [h] at this; cases this
 unfold badT s59_0 at h2
 unfold goodT
 simpa [bne] using h2
theorem ct23 : ∀ (e : EX) (cols : List Ty), fits e → cols.length ≤ 8796093022208 → Ct prog gl 9 [.agg (cells e), .d (.sl (cols.map Ty.cs))] (gives [.agg (checkE cols e).1.cs, .d (.v (.int .i64 (checkE cols e).2))])
 | .mk op sub t v args, cols, hf, hcl => by
   have hC : CallsOk prog gl C_r23 := addC_ok (addC_ok (addC_ok (addC_ok C_4e_ok c_61h_ok) c_62h_ok) c_76g_ok) c_77g_ok
   rw [cells_mk]
   refine ct_of_vc E_ok hC ioK_no it_ok mixed (fn := f9) (body := f9.body.getD .skip) (by kernel_rfl) (by kernel_rfl) (by kernel_rfl) (fi := fx_23 op sub t v args cols) (by kernel_rfl) (by kernel_rfl) ⟨_, _, rfl, rfl⟩ ?_
   rw [vc23]; dsimp -eta -iota -proj only [Zdn, Zbh, Zbt, Zec, Zb5, Zbp, Zba, Zbc, Ze0, Zfc, Ze1, Zda, Zdq, Zdp, Zd8, Zbx, Zbm, Z2, Zz, Zc1, Zca, Zde]
   have hc : encX op sub t v (cellsL args) = cells (.mk op sub t v args) := (cells_mk _ _ _ _ _).symm
   refine ⟨(0 : Nat), ⟨rfl, cols.length, Nat.zero_le _, rfl, by simp⟩, fun m (x : Nat) hx => ⟨_, rfl, fun hi => ?_, fun hi => ?_⟩⟩
   · have hi : x < cols.length := by simpa using hi
     have hg := ty_get hi
     have hm := hx.2.1
     refine ⟨_, rfl, ⟨by omega, by rw [List.length_map]; omega⟩, _, hg, rfl, _, _, rfl, fun h => ?_, fun h => ⟨cols.length - (x + 1), x + 1, by omega, ?_, hi, rfl, ?_⟩⟩
     · have : cols.any badT = true := List.any_eq_true.2 ⟨cols[x], List.getElem_mem hi, by rw [bad_eq]; exact h⟩
       unfold checkE
       rw [this]; exact ⟨rfl, rfl⟩
     · rw [wrap_next (by omega)]
     · rw [take_succ_get cols hi, List.any_append, hx.2.2]
       simp only [List.any_cons, List.any_nil, Bool.false_or, Bool.or_false]
       rw [bad_eq]; exact h
   · have hi : ¬ x < cols.length := by simpa using hi
     have h2 := hx.2.2
     rw [List.take_of_length_le (by omega)] at h2
     have hgc := good_all h2
     refine ⟨.mk op sub t v args, hc, hf, .mk op sub t v args, hc, hf, _, rfl, .mk op sub t v args, hc, hf, fun h => ?_, fun h => ?_⟩
     · rw [List.length_map] at h
       unfold checkE
       rw [h2, cond_false, h]; exact ⟨rfl, rfl⟩
     · rw [List.length_map] at h
       refine ⟨.mk op sub t v args, cols, hc, rfl, hf, ?_, hgc, hcl, fun t' ok ht => ⟨fun h3 => ?_, fun h3 => ?_⟩⟩
       · revert h
         cases mayE (cols.length : Int) (.mk op sub t v args) <;> cases decide (nodes (EX.mk op sub t v args) > 256) <;> cases decide (deep (EX.mk op sub t v args) > 24) <;> simp
       · have hok : ok = false := by simpa using h3
         have h4 : (typedE cols (.mk op sub t v args)).2 = false := by rw [← hok]; exact ht.1.symm
         unfold checkE
         rw [h2, cond_false, h, cond_false, h4]
         exact ⟨rfl, rfl⟩
       · have hok : ok = true := by simpa using h3
         have h4 : (typedE cols (.mk op sub t v args)).2 = true := by rw [← hok]; exact ht.1.symm
         have h5 : t' = (typedE cols (.mk op sub t v args)).1 := ht.2 h4
         unfold checkE
         rw [h2, cond_false, h, cond_false, h4, h5]
         exact ⟨rfl, rfl⟩
def c_23 (a : List R) (K : KT) : Prop := match a with
 | [.agg x, .d (.sl y)] => ∃ (e : EX) (cols : List Ty), x = cells e ∧ y = cols.map Ty.cs ∧ fits e ∧ cols.length ≤ 8796093022208 ∧ (∀ (t : Ty) (f : Int), checkE cols e = (t, f) → K [.agg t.cs, .d (.v (.int .i64 f))] [])
 | _ => False
theorem c_23_ok (a : List R) (K : KT) (h : c_23 a K) : Ct prog gl 9 a K := by
 unfold c_23 at h
 split at h
 · obtain ⟨e, cols, rfl, rfl, h1, h2, h3⟩ := h
   exact (ct23 e cols h1 h2).gives (h3 _ _ rfl)
 · exact h.elim
end Go.Proofs.Tryz
namespace Go.Ex
open Go Go.Dm
mutual
def partsE : EX → List EX
 | .mk op sub t v args => if op = 10 ∧ args.length = 2 then partsL args else [.mk op sub t v args]
def partsL : List EX → List EX
 | [] => []
 | e :: r => partsE e ++ partsL r
end
mutual
theorem partsE_len : ∀ e : EX, (partsE e).length ≤ size e
 | .mk op sub t v args => by
   simp only [partsE, size]
   split
   · have := partsL_len args; omega
   · simp
theorem partsL_len : ∀ l : List EX, (partsL l).length ≤ sizeL l
 | [] => by simp [partsL, sizeL]
 | e :: r => by
   simp only [partsL, sizeL, List.length_append]
   have := partsE_len e; have := partsL_len r; omega
end
mutual
theorem partsE_fits : ∀ e : EX, fits e → fitsL (partsE e)
 | .mk op sub t v args, h => by
   simp only [partsE]
   split
   · exact partsL_fits args (by simp only [fits] at h; exact h.2.2)
   · simp only [fitsL]; exact ⟨h, trivial⟩
theorem partsL_fits : ∀ l : List EX, fitsL l → fitsL (partsL l)
 | [], h => by simp only [partsL, fitsL]
 | e :: r, h => by
   simp only [fitsL] at h
   simp only [partsL]
   exact fitsL_append (partsE_fits e h.1) (partsL_fits r h.2)
theorem fitsL_append : ∀ {a b : List EX}, fitsL a → fitsL b → fitsL (a ++ b)
 | [], b, _, h => h
 | x :: a, b, h1, h2 => by
   simp only [fitsL, List.cons_append] at h1 ⊢
   exact ⟨h1.1, fitsL_append h1.2 h2⟩
end
def andE (a b : EX) : EX := .mk 10 0 ⟨0, 0⟩ ⟨⟨0, 0⟩, false, 0, { data := { toList := [] : Array UInt8 } : ByteArray }⟩ [a, b]
end Go.Ex
