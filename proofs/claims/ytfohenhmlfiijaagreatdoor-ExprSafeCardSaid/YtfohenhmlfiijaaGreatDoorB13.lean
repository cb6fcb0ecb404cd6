/- From the library's contracts to contracts over data. -/
import Derived.Test.YtfohenhmlfiijaaGreatDoorDm21
import Derived.Below
import Derived.Sort.Grow
import Derived.Deep.Draws
import Derived.Test.YtfohenhmlfiijaaGreatDoorB10
import Derived.Test.YtfohenhmlfiijaaGreatDoorSh
namespace Go.Dm
variable {P : Program}

theorem fnOk_of {f : Nat} {fn : Func} (h : P.funcs[f]? = some fn) (h1 : (fn.name == "runtime.NumGoroutine") = false) (h2 : fn.body.isNone = false) : FnOk P f := ⟨fn, h, h1, h2⟩

/-- A function of plain values that leaves what there was. -/
theorem ct_vals {gl : Nat → Option Obj} {f : Nat} (hf : FnOk P f) {xs : List Value} {y : Value} (hy : plain y = true)
    (h : ∀ w : World, (∀ b o, gl b = some o → w.heap[b]? = some o) → Calls P f xs.toArray w fun e w' => e = .returned y ∧ Upd [] w.heap.size w w') :
    Ct P gl f (xs.map fun x => R.d (.v x)) (gives [.d (.v y)]) := by
  refine ⟨hf, ⟨_, _, rfl, rfl⟩, fun w ok vs bs h0 h1 h2 h3 h4 => ?_⟩
  have inv : ∀ (xs : List Value) (bs : List Nat) (vs : List Value), ArgsR ok w bs (xs.map fun x => R.d (.v x)) vs → vs = xs ∧ bs = [] := by
    intro xs
    induction xs with
    | nil => intro bs vs h; cases h; exact ⟨rfl, rfl⟩
    | cons x r ih =>
      intro bs vs h
      cases h with
      | d hd hr =>
        obtain ⟨e1, e2⟩ := ih _ _ hr
        cases hd with
        | v _ => exact ⟨by rw [e1], e2⟩
  obtain ⟨rfl, rfl⟩ := inv xs bs vs h4
  refine (h w fun b o hb => (h0 b o hb).2).mono fun e w' ⟨he, hu⟩ => ?_
  exact ⟨[.d (.v y)], [], [y], ok, [], he, ⟨rfl, rfl⟩, fun _ h => h, fun _ h => .inl h, fun b hb => Nat.lt_of_lt_of_le (h1 b hb) hu.size, hu, .d (.v hy) .nil, List.nodup_nil, (by intro b hb; cases hb), rfl, (by intro i n cs h; simp at h)⟩

theorem Below.upd {w w' : World} (h : Go.RowKit.Below w.heap.size w w') : Upd [] w.heap.size w w' := ⟨h.os, h.tape, h.output, h.size, fun k hk _ => h.block k hk⟩

/-- A function of a list of texts, that is not empty, and a text. -/
theorem ct_texts {gl : Nat → Option Obj} {f : Nat} (hf : FnOk P f) {xs : List ByteArray} {sep y : ByteArray} (hne : xs ≠ [])
    (h : ∀ (w : World) (bk o c : Nat), (∀ (j : Nat) x, xs[j]? = some x → w.cell? ⟨bk, o + j, none⟩ = some (.string x)) → bk < w.heap.size → xs.length ≤ c →
      Calls P f #[.slice (some ⟨bk, o, none⟩) xs.length c, .string sep] w fun e w' => e = .returned (.string y) ∧ Upd [] w.heap.size w w') :
    Ct P gl f [.d (.sl (xs.map fun x => [.v (.string x)])), .d (.v (.string sep))] (gives [.d (.v (.string y))]) := by
  refine ⟨hf, ⟨_, _, rfl, rfl⟩, fun w ok vs bs h0 h1 h2 h3 h4 => ?_⟩
  obtain ⟨bk, o, c, rfl, rfl, hc, hb, hl⟩ : ∃ bk o c, vs = [.slice (some ⟨bk, o, none⟩) xs.length c, .string sep] ∧ bs = [] ∧ (∀ (j : Nat) x, xs[j]? = some x → w.cell? ⟨bk, o + j, none⟩ = some (.string x)) ∧ bk < w.heap.size ∧ xs.length ≤ c := by
    cases h4 with
    | d hd hr =>
      cases hr with
      | d hd2 hr2 =>
        cases hr2
        cases hd2
        generalize hes : (xs.map fun x => [D.v (Value.string x)]) = es at hd
        have hl : es.length = xs.length := by rw [← hes]; simp
        have hpos : 0 < xs.length := List.length_pos_iff.2 hne
        cases hd with
        | nil => simp at hl; omega
        | nul => simp at hl; omega
        | @sl b off cap es sz x hcap hok hsz hcc hrr =>
          have hn : es ≠ [] := by intro h; subst h; simp at hl; omega
          have h1s : sz = 1 := by
            have : [D.v (Value.string xs[0])] ∈ es := by rw [← hes]; exact List.mem_map.2 ⟨_, List.getElem_mem hpos, rfl⟩
            exact (hsz _ this).symm
          subst h1s
          refine ⟨b, off, cap, by rw [hl], rfl, fun j y hj => ?_, h1 _ (hok hn), by omega⟩
          have hjl : j < xs.length := by
            rcases List.getElem?_eq_some_iff.1 hj with ⟨h, _⟩; exact h
          have e1 := hcc j 0 (by omega) (by omega)
          have e2 := hrr j 0 (by omega) (by omega)
          rw [← hes, List.getD_eq_getElem?_getD (l := List.map _ _), List.getElem?_map, hj] at e2
          simp only [Nat.mul_one, Nat.add_zero] at e1
          rw [e1]
          have e3 : Rd ok w (x j 0) (.v (.string y)) := e2
          generalize x j 0 = z at e3 ⊢
          cases e3
          rfl
  refine (h w bk o c hc hb hl).mono fun e w' ⟨he, hu⟩ => ?_
  exact ⟨[.d (.v (.string y))], [], [.string y], ok, [], he, ⟨rfl, rfl⟩, fun _ h => h, fun _ h => .inl h, fun b hb => Nat.lt_of_lt_of_le (h1 b hb) hu.size, hu, .d (.v rfl) .nil, List.nodup_nil, (by intro b hb; cases hb), rfl, (by intro i n cs h; simp at h)⟩
end Go.Dm
namespace Go.Proofs.Tryz
open Go Go.Dm Go.Ex
set_option maxRecDepth 100000
variable {gl : Nat → Option Obj}
def decB (i : Nat) : ByteArray := ⟨(Go.Lib.decDigits i).toArray⟩
theorem ct210 (i : Nat) (hi : i < 100) : Ct prog gl 77 [.d (.v (.int .i64 (i : Int))), .d (.v (.int .i64 10))] (gives [.d (.v (.string (decB i)))]) :=
  ct_vals (fnOk_of func77 (by kernel_rfl) (by kernel_rfl)) (xs := [.int .i64 (i : Int), .int .i64 10]) rfl fun w _ => (strconv_FormatInt_10_small i hi w).mono fun e w' ⟨h1, h2⟩ => ⟨h1, by rw [h2]; exact Upd.refl _ _ _⟩
def c_210 (a : List R) (K : List R → List (List D) → Prop) : Prop := match a with
  | [.d (.v (.int .i64 n)), .d (.v (.int .i64 10))] => ∃ i : Nat, n = (i : Int) ∧ i < 100 ∧ K [.d (.v (.string (decB i)))] []
  | _ => False
theorem c_210_ok (a : List R) (K : List R → List (List D) → Prop) (h : c_210 a K) : Ct prog gl 77 a K := by
  unfold c_210 at h
  split at h
  · obtain ⟨i, rfl, h1, h2⟩ := h
    exact (ct210 i h1).gives h2
  · exact h.elim
def joinB (l : List ByteArray) (sep : ByteArray) : ByteArray := ⟨(Go.Lib.join (l.map (·.data.toList)) sep.data.toList).toArray⟩
theorem ct137 (l : List ByteArray) (sep : ByteArray) (hne : l ≠ []) (hl : l.length ≤ 140737488355328) (hs : (joinB l sep).size ≤ 140737488355328) : Ct prog gl 58 [.d (.sl (l.map fun x => [.v (.string x)])), .d (.v (.string sep))] (gives [.d (.v (.string (joinB l sep)))]) :=
  ct_texts (fnOk_of func58 (by kernel_rfl) (by kernel_rfl)) hne fun w bk o c h1 h2 h3 => (strings_Join bk o c l sep w h1 h2 hl h3 (by simpa [joinB, ByteArray.size] using hs)).mono fun e w' ⟨h1, h2⟩ => ⟨h1, Below.upd h2⟩
def c_137 (a : List R) (K : List R → List (List D) → Prop) : Prop := match a with
  | [.d (.sl x), .d (.v (.string sep))] => ∃ l : List ByteArray, x = l.map (fun s => [.v (.string s)]) ∧ l ≠ [] ∧ l.length ≤ 140737488355328 ∧ (joinB l sep).size ≤ 140737488355328 ∧ K [.d (.v (.string (joinB l sep)))] []
  | _ => False
theorem c_137_ok (a : List R) (K : List R → List (List D) → Prop) (h : c_137 a K) : Ct prog gl 58 a K := by
  unfold c_137 at h
  split at h
  · obtain ⟨l, rfl, h1, h2, h3, h4⟩ := h
    exact (ct137 l _ h1 h2 h3).gives h4
  · exact h.elim
def C_h1 : CallT := addC (addC C_g6 77 c_210) 58 c_137
theorem C_h1_ok : CallsOk prog gl C_h1 := addC_ok (addC_ok C_g6_ok c_210_ok) c_137_ok
theorem vc134 (n : Int) (Q : List R → List (List D) → Prop) : vc E_0 C_h1 noI fi55 (f55.body.getD .skip) f55.results.toList [.d (.v (.int .i64 n))] Q = ( ∃ (i : Nat), n = (↑i : Int) ∧ i < (100 : Nat) ∧ Q [.d (.v (.string (decB i)))] []) := by kernel_rfl
theorem ct134 (i : Nat) (hi : i < 100) : Ct prog gl 55 [.d (.v (.int .i64 (i : Int)))] (gives [.d (.v (.string (decB i)))]) :=
  ct_of_vc E_ok C_h1_ok ioK_no it_ok mixed (fn := f55) (body := f55.body.getD .skip) (by kernel_rfl) (by kernel_rfl) (by kernel_rfl) (fi := fi55) (by kernel_rfl) (by kernel_rfl) ⟨_, _, rfl, rfl⟩ (by
    rw [vc134]
    exact ⟨i, rfl, hi, rfl, rfl⟩)
def c_134 (a : List R) (K : List R → List (List D) → Prop) : Prop := match a with
  | [.d (.v (.int .i64 n))] => ∃ i : Nat, n = (i : Int) ∧ i < 100 ∧ K [.d (.v (.string (decB i)))] []
  | _ => False
theorem c_134_ok (a : List R) (K : List R → List (List D) → Prop) (h : c_134 a K) : Ct prog gl 55 a K := by
  unfold c_134 at h
  split at h
  · obtain ⟨i, rfl, h1, h2⟩ := h
    exact (ct134 i h1).gives h2
  · exact h.elim
def C_h2 : CallT := addC C_h1 55 c_134
theorem C_h2_ok : CallsOk prog gl C_h2 := addC_ok C_h1_ok c_134_ok
def colE (i : Nat) : EX := .mk 1 (i : Int) ⟨0, 0⟩ zeroV []
theorem vc136 (args : List EX) (Q : List R → List (List D) → Prop) : vc E_0 C_h2 noI fi57 (f57.body.getD .skip) f57.results.toList [.agg (encX 3 0 ⟨0, 0⟩ zeroV (cellsL args))] Q = ( ((bif bif (3 : Int) == 9 then decide ((0 : Int) ≥ 1) else false then decide ((0 : Int) ≤ 6) else false) = true → ((0 : Int) ≤ 0 ∧ 0 < (↑(7 : Nat) : Int)) ∧ (({ data := { toList := [] : Array UInt8 } : ByteArray } == { data := { toList := [] : Array UInt8 } : ByteArray }) = true → Q [.d (.v (.string { data := { toList := [(63 : UInt8)] : Array UInt8 } : ByteArray }))] []) ∧ (({ data := { toList := [] : Array UInt8 } : ByteArray } == { data := { toList := [] : Array UInt8 } : ByteArray }) = false → Q [.d (.v (.string ⟨⟨[]⟩⟩))] [])) ∧ ((bif bif (3 : Int) == 9 then decide ((0 : Int) ≥ 1) else false then decide ((0 : Int) ≤ 6) else false) = false → (((3 : Int) == 16) = true → ∃ (i : Nat), (0 : Int) = (↑i : Int) ∧ i < (100 : Nat) ∧ { data := { toList := [(99 : UInt8), (97 : UInt8), (115 : UInt8), (116 : UInt8), (58 : UInt8)] : Array UInt8 } : ByteArray }.size.add (decB i).size ≤ (9223372036854775807 : Nat) ∧ (((0 : Int) == 3) = true → ∃ (i_1 : Nat), (0 : Int) = (↑i_1 : Int) ∧ i_1 < (100 : Nat) ∧ { data := { toList := [(46 : UInt8)] : Array UInt8 } : ByteArray }.size.add (decB i_1).size ≤ (9223372036854775807 : Nat) ∧ (({ data := { toList := [(99 : UInt8), (97 : UInt8), (115 : UInt8), (116 : UInt8), (58 : UInt8)] : Array UInt8 } : ByteArray } ++ decB i).size.add ([].append (Lib.decDigits i_1)).length).succ ≤ (9223372036854775807 : Nat) ∧ (({ data := { toList := [(99 : UInt8), (97 : UInt8), (115 : UInt8), (116 : UInt8), (58 : UInt8)] : Array UInt8 } : ByteArray } ++ decB i ++ ({ data := { toList := [(46 : UInt8)] : Array UInt8 } : ByteArray } ++ decB i_1) == { data := { toList := [] : Array UInt8 } : ByteArray }) = true → Q [.d (.v (.string { data := { toList := [(63 : UInt8)] : Array UInt8 } : ByteArray }))] []) ∧ (({ data := { toList := [(99 : UInt8), (97 : UInt8), (115 : UInt8), (116 : UInt8), (58 : UInt8)] : Array UInt8 } : ByteArray } ++ decB i ++ ({ data := { toList := [(46 : UInt8)] : Array UInt8 } : ByteArray } ++ decB i_1) == { data := { toList := [] : Array UInt8 } : ByteArray }) = false → Q [.d (.v (.string ({ data := { toList := [(99 : UInt8), (97 : UInt8), (115 : UInt8), (116 : UInt8), (58 : UInt8)] : Array UInt8 } : ByteArray } ++ decB i ++ ({ data := { toList := [(46 : UInt8)] : Array UInt8 } : ByteArray } ++ decB i_1))))] [])) ∧ (((0 : Int) == 3) = false → (({ data := { toList := [(99 : UInt8), (97 : UInt8), (115 : UInt8), (116 : UInt8), (58 : UInt8)] : Array UInt8 } : ByteArray } ++ decB i == { data := { toList := [] : Array UInt8 } : ByteArray }) = true → Q [.d (.v (.string { data := { toList := [(63 : UInt8)] : Array UInt8 } : ByteArray }))] []) ∧ (({ data := { toList := [(99 : UInt8), (97 : UInt8), (115 : UInt8), (116 : UInt8), (58 : UInt8)] : Array UInt8 } : ByteArray } ++ decB i == { data := { toList := [] : Array UInt8 } : ByteArray }) = false → Q [.d (.v (.string ({ data := { toList := [(99 : UInt8), (97 : UInt8), (115 : UInt8), (116 : UInt8), (58 : UInt8)] : Array UInt8 } : ByteArray } ++ decB i)))] []))) ∧ (((3 : Int) == 16) = false → ((bif decide ((3 : Int) ≥ 0) then decide ((3 : Int) < 19) else false) = true → ((0 : Int) ≤ 3 ∧ 3 < (↑(19 : Nat) : Int)) ∧ (({ data := { toList := [(43 : UInt8)] : Array UInt8 } : ByteArray } == { data := { toList := [] : Array UInt8 } : ByteArray }) = true → Q [.d (.v (.string { data := { toList := [(63 : UInt8)] : Array UInt8 } : ByteArray }))] []) ∧ (({ data := { toList := [(43 : UInt8)] : Array UInt8 } : ByteArray } == { data := { toList := [] : Array UInt8 } : ByteArray }) = false → Q [.d (.v (.string { data := { toList := [(43 : UInt8)] : Array UInt8 } : ByteArray }))] [])) ∧ ((bif decide ((3 : Int) ≥ 0) then decide ((3 : Int) < 19) else false) = false → (({ data := { toList := [] : Array UInt8 } : ByteArray } == { data := { toList := [] : Array UInt8 } : ByteArray }) = true → Q [.d (.v (.string { data := { toList := [(63 : UInt8)] : Array UInt8 } : ByteArray }))] []) ∧ (({ data := { toList := [] : Array UInt8 } : ByteArray } == { data := { toList := [] : Array UInt8 } : ByteArray }) = false → Q [.d (.v (.string ⟨⟨[]⟩⟩))] []))))) := by kernel_rfl
theorem vc66c (i : Nat) (Q : List R → List (List D) → Prop) : vc E_0 C_h2 noI { fi29 with lp := [] } (f29.body.getD .skip) f29.results.toList [.agg (encX 1 (i : Int) ⟨0, 0⟩ zeroV (cellsL []))] Q = ( (((1 : Int) == 1) = true → ∃ (i_1 : Nat), (↑i : Int) = (↑i_1 : Int) ∧ i_1 < (100 : Nat) ∧ { data := { toList := [(36 : UInt8)] : Array UInt8 } : ByteArray }.size.add (decB i_1).size ≤ (9223372036854775807 : Nat) ∧ Q [.d (.v (.string ({ data := { toList := [(36 : UInt8)] : Array UInt8 } : ByteArray } ++ decB i_1)))] []) ∧ (((1 : Int) == 1) = false → (((1 : Int) == 2) = true → False) ∧ (((1 : Int) == 2) = false → False))) := by kernel_rfl
def plusB : ByteArray := { data := { toList := [(43 : UInt8)] : Array UInt8 } : ByteArray }
theorem ct136 (args : List EX) : Ct prog gl 57 [.agg (encX 3 0 ⟨0, 0⟩ zeroV (cellsL args))] (gives [.d (.v (.string plusB))]) :=
  ct_of_vc E_ok C_h2_ok ioK_no it_ok mixed (fn := f57) (body := f57.body.getD .skip) (by kernel_rfl) (by kernel_rfl) (by kernel_rfl) (fi := fi57) (by kernel_rfl) (by kernel_rfl) ⟨_, _, rfl, rfl⟩ (by
    rw [vc136]
    repeat' (first | (refine And.intro ?_ ?_) | (intro h; first | (exact absurd h (by decide)) | skip) | rfl | decide))
def c_136 (a : List R) (K : List R → List (List D) → Prop) : Prop := match a with
  | [.agg x] => ∃ args : List EX, x = encX 3 0 ⟨0, 0⟩ zeroV (cellsL args) ∧ K [.d (.v (.string plusB))] []
  | _ => False
theorem c_136_ok (a : List R) (K : List R → List (List D) → Prop) (h : c_136 a K) : Ct prog gl 57 a K := by
  unfold c_136 at h
  split at h
  · obtain ⟨args, rfl, h1⟩ := h
    exact (ct136 args).gives h1
  · exact h.elim
def colB (i : Nat) : ByteArray := { data := { toList := [(36 : UInt8)] : Array UInt8 } : ByteArray } ++ decB i
theorem ct66c (i : Nat) (hi : i < 100) (hs : (decB i).size ≤ 100) : Ct prog gl 29 [.agg (cells (colE i))] (gives [.d (.v (.string (colB i)))]) := by
  rw [show cells (colE i) = encX 1 (i : Int) ⟨0, 0⟩ zeroV (cellsL []) from cells_mk _ _ _ _ _]
  refine ct_of_vc E_ok C_h2_ok ioK_no it_ok mixed (fn := f29) (body := f29.body.getD .skip) (by kernel_rfl) (by kernel_rfl) (by kernel_rfl) (fi := { fi29 with lp := [] }) (by kernel_rfl) (by kernel_rfl) ⟨_, _, rfl, rfl⟩ ?_
  rw [vc66c]
  refine ⟨fun _ => ⟨i, rfl, hi, ?_, rfl, rfl⟩, fun h => absurd h (by decide)⟩
  show 1 + (decB i).size ≤ _
  omega
def c_66c (a : List R) (K : List R → List (List D) → Prop) : Prop := match a with
  | [.agg x] => ∃ i : Nat, x = cells (colE i) ∧ i < 100 ∧ (decB i).size ≤ 100 ∧ K [.d (.v (.string (colB i)))] []
  | _ => False
theorem c_66c_ok (a : List R) (K : List R → List (List D) → Prop) (h : c_66c a K) : Ct prog gl 29 a K := by
  unfold c_66c at h
  split at h
  · obtain ⟨i, rfl, h1, h2, h3⟩ := h
    exact (ct66c i h1 h2).gives h3
  · exact h.elim
def C_h3 : CallT := addC (addC C_h2 57 c_136) 29 c_66c
theorem C_h3_ok : CallsOk prog gl C_h3 := addC_ok (addC_ok C_h2_ok c_136_ok) c_66c_ok
structure WX where
  i : Nat
  l : List ByteArray
def st_66 (x : WX) : St := { tm := [(2, .d (.v (.string { data := { toList := [] : Array UInt8 } : ByteArray }))), (3, .own 21), (23, .d (.sl (cellsL [colE 0, colE 1]))), (24, .d (.v (.int .i64 ((cellsL [colE 0, colE 1]).length : Int)))), (25, .d (.v (.int .i64 (x.i : Int))))], hp := [(1, .box [.d (.v (.int .i64 3)), .d (.v (.int .i64 0)), .d (.v (.int .i64 0)), .d (.v (.int .i64 0)), .d (.v (.int .i64 0)), .d (.v (.int .i64 0)), .d (.v (.bool false)), .d (.v (.int .i64 0)), .d (.v (.string { data := { toList := [] : Array UInt8 } : ByteArray })), .d (.sl (cellsL [colE 0, colE 1]))]), (21, .lst 9 1 (x.l.map fun s => [.v (.string s)]))], kn := [], gd := [] }
def inv_66 (m : Nat) (x : WX) : Prop := x.i ≤ 2 ∧ m = 2 - x.i ∧ x.l = [plusB, colB 0, colB 1].take (x.i + 1)
def fx_66 : Fi := { fi29 with lx := [(8, { X := WX, sh := st_66, P := fun _ => inv_66 })] }
theorem vc66 (u : Nat) (Q : List R → List (List D) → Prop) : vc E_0 C_h3 noI fx_66 (f29.body.getD .skip) f29.results.toList [.agg (encX 3 0 ⟨0, 0⟩ zeroV (cellsL [colE 0, colE 1]))] Q = ( (((3 : Int) == 1) = true → ∃ (i : Nat), (0 : Int) = (↑i : Int) ∧ i < (100 : Nat) ∧ { data := { toList := [(36 : UInt8)] : Array UInt8 } : ByteArray }.size.add (decB i).size ≤ (9223372036854775807 : Nat) ∧ Q [.d (.v (.string ({ data := { toList := [(36 : UInt8)] : Array UInt8 } : ByteArray } ++ decB i)))] []) ∧ (((3 : Int) == 1) = false → (((3 : Int) == 2) = true → False) ∧ (((3 : Int) == 2) = false → ∃ (args : List EX), [D.i 3, D.i 0, D.i 0, D.i 0, D.i 0, D.i 0, D.v (.bool false), D.i 0, D.v (.string ⟨⟨[]⟩⟩), D.sl (cellsL [colE (0 : Nat), colE (1 : Nat)])] = [D.i 3, D.i 0, D.i 0, D.i 0, D.i 0, D.i 0, D.v (.bool false), D.i 0, D.v (.string ⟨⟨[]⟩⟩), D.sl (cellsL args)] ∧ ∃ (es : List (List D)), D.sl (cellsL [colE (0 : Nat), colE (1 : Nat)]) = D.sl es ∧ ∃ (x0 : WX), ({ tm := [(2, .d (.v (.string ⟨⟨[]⟩⟩))), (3, .own 21), (23, .d (.sl (cellsL [colE (0 : Nat), colE (1 : Nat)]))), (24, .i (↑es.length : Int)), (25, .i 0)], hp := [(1, .box [.i 3, .i 0, .i 0, .i 0, .i 0, .i 0, .d (.v (.bool false)), .i 0, .d (.v (.string ⟨⟨[]⟩⟩)), .d (.sl (cellsL [colE (0 : Nat), colE (1 : Nat)]))]), (21, .lst 9 1 [[.v (.string plusB)]])], kn := [], gd := [] : St } = { tm := [(2, .d (.v (.string ⟨⟨[]⟩⟩))), (3, .own 21), (23, .d (.sl (cellsL [colE (0 : Nat), colE (1 : Nat)]))), (24, .i (↑(2 : Nat) : Int)), (25, .i (↑x0.1 : Int))], hp := [(1, .box [.i 3, .i 0, .i 0, .i 0, .i 0, .i 0, .d (.v (.bool false)), .i 0, .d (.v (.string ⟨⟨[]⟩⟩)), .d (.sl (cellsL [colE (0 : Nat), colE (1 : Nat)]))]), (21, .lst 9 1 (List.map (fun (s : ByteArray) => [.v (.string s)]) x0.2))], kn := [], gd := [] : St } ∧ ∃ (n : Nat), inv_66 n x0) ∧ ∀ (n : Nat) (x : WX), inv_66 n x → (decide ((↑x.1 : Int) < (↑(2 : Nat) : Int)) = true → ∃ (es : List (List D)), D.sl (cellsL [colE (0 : Nat), colE (1 : Nat)]) = D.sl es ∧ (0 ≤ (↑x.1 : Int) ∧ (↑x.1 : Int) < (↑es.length : Int)) ∧ ∃ (cells : List D), es[(↑x.1 : Int).toNat]? = some cells ∧ cells.length = 10 ∧ ∃ (n_1 n_2 n_3 n_4 n_5 n_6 : Int), ∃ (b : Bool), ∃ (n_7 : Int), ∃ (b_1 : ByteArray), ∃ (es : List (List D)), cut 0 10 cells = some [D.i n_1, D.i n_2, D.i n_3, D.i n_4, D.i n_5, D.i n_6, D.v (.bool b), D.i n_7, D.v (.string b_1), D.sl es] ∧ ∃ (i : Nat), [D.i n_1, D.i n_2, D.i n_3, D.i n_4, D.i n_5, D.i n_6, D.v (.bool b), D.i n_7, D.v (.string b_1), D.sl es] = Ex.cells (colE i) ∧ i < (100 : Nat) ∧ (decB i).size ≤ (100 : Nat) ∧ (∀ (c : List D), c ∈ [[D.v (.string (colB i))]] → c.length = 1) ∧ (9 : Nat) = (9 : Nat) ∧ (1 : Nat) = (1 : Nat) ∧ (↑(List.map (fun (s : ByteArray) => [D.v (.string s)]) x.2).length.succ : Int) * (↑(16 : Nat) : Int) ≤ 140737488355328 ∧ ∃ (m : Nat), ∃ (x' : WX), m < n ∧ { tm := [(2, .d (.v (.string ⟨⟨[]⟩⟩))), (3, .own 21), (23, .d (.sl (cellsL [colE (0 : Nat), colE (1 : Nat)]))), (24, .i (↑(2 : Nat) : Int)), (25, .i (IntKind.i64.wrap ((↑x.1 : Int) + 1)))], hp := [(1, .box [.i 3, .i 0, .i 0, .i 0, .i 0, .i 0, .d (.v (.bool false)), .i 0, .d (.v (.string ⟨⟨[]⟩⟩)), .d (.sl (cellsL [colE (0 : Nat), colE (1 : Nat)]))]), (21, .lst 9 1 (List.map (fun (s : ByteArray) => [.v (.string s)]) x.2 ++ [[.v (.string (colB i))]]))], kn := [], gd := [] : St } = { tm := [(2, .d (.v (.string ⟨⟨[]⟩⟩))), (3, .own 21), (23, .d (.sl (cellsL [colE (0 : Nat), colE (1 : Nat)]))), (24, .i (↑(2 : Nat) : Int)), (25, .i (↑x'.1 : Int))], hp := [(1, .box [.i 3, .i 0, .i 0, .i 0, .i 0, .i 0, .d (.v (.bool false)), .i 0, .d (.v (.string ⟨⟨[]⟩⟩)), .d (.sl (cellsL [colE (0 : Nat), colE (1 : Nat)]))]), (21, .lst 9 1 (List.map (fun (s : ByteArray) => [.v (.string s)]) x'.2))], kn := [], gd := [] : St } ∧ inv_66 m x') ∧ (decide ((↑x.1 : Int) < (↑(2 : Nat) : Int)) = false → ∃ (l : List ByteArray), List.map (fun (s : ByteArray) => [D.v (.string s)]) x.2 = List.map (fun (s : ByteArray) => [D.v (.string s)]) l ∧ l ≠ [] ∧ l.length ≤ 140737488355328 ∧ (joinB l { data := { toList := [(32 : UInt8)] : Array UInt8 } : ByteArray }).size ≤ (140737488355328 : Nat) ∧ { data := { toList := [(40 : UInt8)] : Array UInt8 } : ByteArray }.size.add (joinB l { data := { toList := [(32 : UInt8)] : Array UInt8 } : ByteArray }).size ≤ (9223372036854775807 : Nat) ∧ ({ data := { toList := [(40 : UInt8)] : Array UInt8 } : ByteArray } ++ joinB l { data := { toList := [(32 : UInt8)] : Array UInt8 } : ByteArray }).size.succ ≤ (9223372036854775807 : Nat) ∧ Q [.d (.v (.string ({ data := { toList := [(40 : UInt8)] : Array UInt8 } : ByteArray } ++ joinB l { data := { toList := [(32 : UInt8)] : Array UInt8 } : ByteArray } ++ { data := { toList := [(41 : UInt8)] : Array UInt8 } : ByteArray })))] [])))) := by kernel_rfl
def showB : ByteArray := { data := { toList := [(40 : UInt8)] : Array UInt8 } : ByteArray } ++ joinB [plusB, colB 0, colB 1] { data := { toList := [(32 : UInt8)] : Array UInt8 } : ByteArray } ++ { data := { toList := [(41 : UInt8)] : Array UInt8 } : ByteArray }
theorem dec0 : decB 0 = { data := { toList := [(48 : UInt8)] : Array UInt8 } : ByteArray } := by
  unfold decB
  rw [Go.Lib.decDigits]; rfl
theorem dec1 : decB 1 = { data := { toList := [(49 : UInt8)] : Array UInt8 } : ByteArray } := by
  unfold decB
  rw [Go.Lib.decDigits]; rfl
theorem join_val : joinB [plusB, colB 0, colB 1] { data := { toList := [(32 : UInt8)] : Array UInt8 } : ByteArray } = { data := { toList := [(43 : UInt8), 32, 36, 48, 32, 36, 49] : Array UInt8 } : ByteArray } := by
  unfold colB
  rw [dec0, dec1]
  rfl
theorem dec01 : ∀ i, i < 2 → (decB i).size ≤ 100 := by
  intro i hi
  match i, hi with
  | 0, _ => rw [dec0]; decide
  | 1, _ => rw [dec1]; decide
theorem ct66s : Ct prog gl 29 [.agg (encX 3 0 ⟨0, 0⟩ zeroV (cellsL [colE 0, colE 1]))] (gives [.d (.v (.string showB))]) := by
  refine ct_of_vc E_ok C_h3_ok ioK_no it_ok mixed (fn := f29) (body := f29.body.getD .skip) (by kernel_rfl) (by kernel_rfl) (by kernel_rfl) (fi := fx_66) (by kernel_rfl) (by kernel_rfl) ⟨_, _, rfl, rfl⟩ ?_
  rw [vc66 0]
  refine ⟨fun h => absurd h (by decide), fun _ => ⟨fun h => absurd h (by decide), fun _ => ⟨_, rfl, _, rfl, (⟨0, [plusB]⟩ : WX), ⟨rfl, 2, by decide, rfl, rfl⟩, fun m (x : WX) hx => ⟨fun hi => ?_, fun hi => ?_⟩⟩⟩⟩
  · obtain ⟨i, l⟩ := x
    obtain ⟨h1, h2, h3⟩ := hx
    dsimp only at h1 h2 h3 hi ⊢
    have hi : i < 2 := by have := of_decide_eq_true hi; omega
    have hl : l.length = i + 1 := by rw [h3]; simp; omega
    have hg : (cellsL [colE 0, colE 1])[((i : Nat) : Int).toNat]? = some (cells (colE i)) := by
      match i, hi with
      | 0, _ => rfl
      | 1, _ => rfl
    refine ⟨_, rfl, ⟨by omega, by show (i : Int) < 2; omega⟩, cells (colE i), hg, rfl, _, _, _, _, _, _, _, _, _, _, rfl, i, rfl, by omega, dec01 i hi, by simp, rfl, rfl, ?_, 2 - (i + 1), ⟨i + 1, l ++ [colB i]⟩, by omega, ?_, by show i + 1 ≤ 2; omega, rfl, ?_⟩
    · rw [Nat.succ_eq_add_one, List.length_map, hl]; omega
    · dsimp only
      rw [wrap_next (by omega), List.map_append]
      rfl
    · show l ++ [colB i] = _
      rw [h3]
      match i, hi with
      | 0, _ => rfl
      | 1, _ => rfl
  · obtain ⟨i, l⟩ := x
    obtain ⟨h1, h2, h3⟩ := hx
    dsimp only at h1 h2 h3 hi ⊢
    have hi : ¬ (i : Int) < 2 := of_decide_eq_false hi
    have : i = 2 := by omega
    subst this
    refine ⟨l, rfl, ?_, ?_, ?_, ?_, ?_, ?_⟩
    · rw [h3]; exact List.cons_ne_nil _ _
    · rw [h3]; decide
    all_goals rw [h3, show [plusB, colB 0, colB 1].take (2 + 1) = [plusB, colB 0, colB 1] from rfl]
    · rw [join_val]; decide
    · rw [join_val]; decide
    · rw [join_val]; decide
    · exact ⟨rfl, rfl⟩
end Go.Proofs.Tryz
namespace Go.Proofs.Tryz
open Go Go.Dm Go.Ex
set_option maxRecDepth 100000
variable {gl : Nat → Option Obj}
def c_66s (a : List R) (K : List R → List (List D) → Prop) : Prop := match a with
  | [.agg x] => x = encX 3 0 ⟨0, 0⟩ zeroV (cellsL [colE 0, colE 1]) ∧ K [.d (.v (.string showB))] []
  | _ => False
theorem c_66s_ok (a : List R) (K : List R → List (List D) → Prop) (h : c_66s a K) : Ct prog gl 29 a K := by
  unfold c_66s at h
  split at h
  · obtain ⟨rfl, h1⟩ := h
    exact ct66s.gives h1
  · exact h.elim
def sumE : EX := .mk 3 0 ⟨0, 0⟩ zeroV [colE 0, colE 0]
def quoE : EX := .mk 6 0 ⟨0, 0⟩ zeroV [colE 0, colE 1]
def rowP : List Go.Ex.AV := [ofI 1, ofI 0]
theorem fits_col (i : Nat) (h : i < 100) : fits (colE i) := by
  simp only [colE, fits, zeroV, fitsL, in64, List.length_nil]
  refine ⟨⟨?_, ?_, ?_, ?_, ?_, ?_, ?_⟩, ?_, trivial⟩ <;> omega
theorem fits_sum : fits sumE := by
  simp only [sumE, fits, zeroV, fitsL, in64, List.length_cons, List.length_nil, fits_col 0 (by decide)]
  refine ⟨⟨?_, ?_, ?_, ?_, ?_, ?_, ?_⟩, ?_, ?_⟩ <;> simp
theorem fits_quo : fits quoE := by
  simp only [quoE, fits, zeroV, fitsL, in64, List.length_cons, List.length_nil, fits_col 0 (by decide), fits_col 1 (by decide)]
  refine ⟨⟨?_, ?_, ?_, ?_, ?_, ?_, ?_⟩, ?_, ?_⟩ <;> simp
theorem show_val : showB = { data := { toList := [(40 : UInt8), (43 : UInt8), (32 : UInt8), (36 : UInt8), (48 : UInt8), (32 : UInt8), (36 : UInt8), (49 : UInt8), (41 : UInt8)] : Array UInt8 } : ByteArray } := by
  unfold showB
  rw [join_val]
  rfl
end Go.Proofs.Tryz
namespace Go.Proofs.Tryz
open Go Go.Dm Go.Ex
set_option maxRecDepth 100000
variable {gl : Nat → Option Obj}
end Go.Proofs.Tryz
