/- A part of the proof: contracts of functions, by a verified generator of conditions; no condition of its own. -/
import Derived.Test.YtgjghnooiaaeiaaGreatDoorDt4
import Derived.Shelf.LaysM
import Derived.Shelf.Strings.OnBuilder
import Derived.Shelf.Strconv.Itoa4
import Derived.Ground.NamesProg
import Derived.Test.YtgjghnooiaaeiaaGreatDoorProg
import Derived.Test.YtgjghnooiaaeiaaGreatDoorB1
import Derived.Test.YtgjghnooiaaeiaaGreatDoorSb
import Derived.Test.YtgjghnooiaaeiaaGreatDoorDm25
namespace Go.Proofs
open Go.Shelf
def Tryz.lays156_ren : Go.Shelf.Ren := ⟨fun | 156 => 65 | 165 => 127 | 166 => 128 | 169 => 129 | 240 => 176 | 241 => 177 | 276 => 246 | 277 => 247 | n => n, fun | 31 => 82 | 9 => 9 | 3 => 3 | 4 => 4 | 0 => 0 | 20 => 20 | 72 => 206 | 76 => 210 | 70 => 203 | 37 => 204 | 75 => 209 | 127 => 264 | 164 => 331 | 5 => 5 | 80 => 173 | n => n, fun | n => n⟩
theorem Tryz.lays156 : Go.Proofs.Lays.n156 Tryz.prog Tryz.lays156_ren := {
 mixed := by kernel_rfl
 f156 := Tryz.func65.trans (congrArg some (by kernel_rfl))
 f165 := Tryz.func127.trans (congrArg some (by kernel_rfl))
 f166 := Tryz.func128.trans (congrArg some (by kernel_rfl))
 f169 := Tryz.func129.trans (congrArg some (by kernel_rfl))
 f240 := Tryz.func176.trans (congrArg some (by kernel_rfl))
 f241 := Tryz.func177.trans (congrArg some (by kernel_rfl))
 f276 := Tryz.func246.trans (congrArg some (by kernel_rfl))
 f277 := Tryz.func247.trans (congrArg some (by kernel_rfl))
 t0 := Tryz.underlying0
 a0 := Tryz.isAgg0
 z0 := Tryz.sizeOf0
 v0 := Tryz.zeroValue0
 t3 := Tryz.underlying3
 a3 := Tryz.isAgg3
 z3 := Tryz.sizeOf3
 v3 := Tryz.zeroValue3
 t4 := Tryz.underlying4
 a4 := Tryz.isAgg4
 z4 := Tryz.sizeOf4
 v4 := Tryz.zeroValue4
 t9 := Tryz.underlying9
 a9 := Tryz.isAgg9
 z9 := Tryz.sizeOf9
 v9 := Tryz.zeroValue9
 t20 := Tryz.underlying20
 a20 := Tryz.isAgg20
 z20 := Tryz.sizeOf20
 v20 := Tryz.zeroValue20
 t31 := Tryz.underlying82
 a31 := Tryz.isAgg82
 z31 := Tryz.sizeOf82
 v31 := Tryz.zeroValue82
 t37 := Tryz.underlying204
 a37 := Tryz.isAgg204
 z37 := Tryz.sizeOf204
 v37 := Tryz.zeroValue204
 t70 := Tryz.underlying203
 a70 := Tryz.isAgg203
 z70 := Tryz.sizeOf203
 v70 := Tryz.zeroValue203
 t72 := Tryz.underlying206
 a72 := Tryz.isAgg206
 z72 := Tryz.sizeOf206
 v72 := Tryz.zeroValue206
 t75 := Tryz.underlying209
 a75 := Tryz.isAgg209
 z75 := Tryz.sizeOf209
 v75 := Tryz.zeroValue209
 t76 := Tryz.underlying210
 a76 := Tryz.isAgg210
 z76 := Tryz.sizeOf210
 v76 := Tryz.zeroValue210
 t127 := Tryz.underlying264
 a127 := Tryz.isAgg264
 z127 := Tryz.sizeOf264
 v127 := Tryz.zeroValue264
 t164 := Tryz.underlying331
 a164 := Tryz.isAgg331
 z164 := Tryz.sizeOf331
 v164 := Tryz.zeroValue331 }
theorem Tryz.Builder_Extra_156 : Builder.Extra Tryz.prog Tryz.lays156_ren := {
 sizeBuilder := by kernel_rfl
 liesBuilder := by kernel_rfl
 t5 := Tryz.underlying5
 a5 := Tryz.isAgg5
 z5 := Tryz.sizeOf5
 v5 := Tryz.zeroValue5
 infoByte := by kernel_rfl
 cellsByte := by kernel_rfl
 sizeByte := by kernel_rfl
 neB5 := by decide }
open Go.RowKit in
theorem Tryz.strings_Join (bk o c : Nat) (xs : List ByteArray) (sep : ByteArray) (w : World) (hcells : ∀ (j : Nat) x, xs[j]? = some x → w.cell? ⟨bk, o + j, none⟩ = some (.string x)) (hbk : bk < w.heap.size) (hN : xs.length ≤ 140737488355328) (hcap : xs.length ≤ c) (hlen : (Lib.join (xs.map (·.data.toList)) sep.data.toList).length ≤ 140737488355328) :
 Calls Tryz.prog 65 #[.slice (some ⟨bk, o, none⟩) xs.length c, .string sep] w fun e w' => e = .returned (.string ⟨(Lib.join (xs.map (·.data.toList)) sep.data.toList).toArray⟩) ∧ Below w.heap.size w w' := Any.strings_Join Tryz.lays156 Tryz.Builder_Extra_156 bk o c xs sep w hcells hbk hN hcap hlen
def Tryz.lays173_ren : Go.Shelf.Ren := ⟨fun | 173 => 126 | 246 => 175 | 283 => 242 | 284 => 243 | 285 => 244 | 286 => 245 | 129 => 265 | 317 => 298 | 318 => 299 | 319 => 300 | 320 => 301 | 337 => 326 | 338 => 327 | n => n, fun | 2 => 2 | 3 => 3 | 9 => 9 | 4 => 4 | 171 => 326 | 0 => 0 | 53 => 150 | 37 => 204 | 5 => 5 | 173 => 329 | 212 => 367 | 51 => 346 | 20 => 20 | 213 => 368 | 46 => 269 | 232 => 398 | 233 => 399 | n => n, fun | 17 => 0 | 18 => 4 | 19 => 5 | n => n⟩
theorem Tryz.lays173 : Go.Proofs.Lays.n173 Tryz.prog Tryz.lays173_ren := {
 mixed := by kernel_rfl
 f129 := Tryz.func265.trans (congrArg some (by kernel_rfl))
 f173 := Tryz.func126.trans (congrArg some (by kernel_rfl))
 f246 := Tryz.func175.trans (congrArg some (by kernel_rfl))
 f283 := Tryz.func242.trans (congrArg some (by kernel_rfl))
 f284 := Tryz.func243.trans (congrArg some (by kernel_rfl))
 f285 := Tryz.func244.trans (congrArg some (by kernel_rfl))
 f286 := Tryz.func245.trans (congrArg some (by kernel_rfl))
 f317 := Tryz.func298.trans (congrArg some (by kernel_rfl))
 f318 := Tryz.func299.trans (congrArg some (by kernel_rfl))
 f319 := Tryz.func300.trans (congrArg some (by kernel_rfl))
 f320 := Tryz.func301.trans (congrArg some (by kernel_rfl))
 f337 := Tryz.func326.trans (congrArg some (by kernel_rfl))
 f338 := Tryz.func327.trans (congrArg some (by kernel_rfl))
 t0 := Tryz.underlying0
 a0 := Tryz.isAgg0
 z0 := Tryz.sizeOf0
 v0 := Tryz.zeroValue0
 t2 := Tryz.underlying2
 a2 := Tryz.isAgg2
 z2 := Tryz.sizeOf2
 v2 := Tryz.zeroValue2
 t3 := Tryz.underlying3
 a3 := Tryz.isAgg3
 z3 := Tryz.sizeOf3
 v3 := Tryz.zeroValue3
 t4 := Tryz.underlying4
 a4 := Tryz.isAgg4
 z4 := Tryz.sizeOf4
 v4 := Tryz.zeroValue4
 t5 := Tryz.underlying5
 a5 := Tryz.isAgg5
 z5 := Tryz.sizeOf5
 v5 := Tryz.zeroValue5
 t9 := Tryz.underlying9
 a9 := Tryz.isAgg9
 z9 := Tryz.sizeOf9
 v9 := Tryz.zeroValue9
 t20 := Tryz.underlying20
 a20 := Tryz.isAgg20
 z20 := Tryz.sizeOf20
 v20 := Tryz.zeroValue20
 t37 := Tryz.underlying204
 a37 := Tryz.isAgg204
 z37 := Tryz.sizeOf204
 v37 := Tryz.zeroValue204
 t46 := Tryz.underlying269
 a46 := Tryz.isAgg269
 z46 := Tryz.sizeOf269
 v46 := Tryz.zeroValue269
 t51 := Tryz.underlying346
 a51 := Tryz.isAgg346
 z51 := Tryz.sizeOf346
 v51 := Tryz.zeroValue346
 t53 := Tryz.underlying150
 a53 := Tryz.isAgg150
 z53 := Tryz.sizeOf150
 v53 := Tryz.zeroValue150
 t171 := Tryz.underlying326
 a171 := Tryz.isAgg326
 z171 := Tryz.sizeOf326
 v171 := Tryz.zeroValue326
 t173 := Tryz.underlying329
 a173 := Tryz.isAgg329
 z173 := Tryz.sizeOf329
 v173 := Tryz.zeroValue329
 t212 := Tryz.underlying367
 a212 := Tryz.isAgg367
 z212 := Tryz.sizeOf367
 v212 := Tryz.zeroValue367
 t213 := Tryz.underlying368
 a213 := Tryz.isAgg368
 z213 := Tryz.sizeOf368
 t232 := Tryz.underlying398
 a232 := Tryz.isAgg398
 z232 := Tryz.sizeOf398
 v232 := Tryz.zeroValue398
 t233 := Tryz.underlying399
 a233 := Tryz.isAgg399
 z233 := Tryz.sizeOf399
 v233 := Tryz.zeroValue399
 g17 := by kernel_rfl
 g18 := by kernel_rfl
 g19 := by kernel_rfl }
open Go.RowKit Go.Sort Go.Lib in
theorem Tryz.strconv_FormatInt_10_small (i : Nat) (hi : i < 100) (w : World) :
 Calls Tryz.prog 126 #[.int .i64 i, .int .i64 10] w fun e w' => e = .returned (.string ⟨(Lib.decDigits i).toArray⟩) ∧ w' = w := Any.strconv_FormatInt_10_small Tryz.lays173 i hi w
end Go.Proofs
namespace Go.Proofs.Tryz
open Go Go.Dm
set_option maxRecDepth 100000
variable {gl : Nat → Option Obj}
theorem fmt_ct (i : Nat) (hi : i < 100) (b : ByteArray) (hb : (⟨(Go.Lib.decDigits i).toArray⟩ : ByteArray) = b) : Ct prog gl 126 [.d (.v (.int .i64 (i : Int))), .d (.v (.int .i64 10))] (gives [.d (.v (.string b))]) := by
 rw [← hb]
 exact ct_vals (fnOk_of func126 (by kernel_rfl) (by kernel_rfl)) (xs := [.int .i64 (i : Int), .int .i64 10]) rfl fun w _ => (strconv_FormatInt_10_small i hi w).mono fun e w' ⟨h1, h2⟩ => ⟨h1, by rw [h2]; exact Upd.refl _ _ _⟩
def joinT (l : List ByteArray) (sep : ByteArray) : ByteArray := ⟨(Go.Lib.join (l.map (·.data.toList)) sep.data.toList).toArray⟩
theorem join_ct (l : List ByteArray) (sep b : ByteArray) (hne : l ≠ []) (hl : l.length ≤ 140737488355328) (hb : joinT l sep = b) (hs : b.size ≤ 140737488355328) : Ct prog gl 65 [.d (.sl (l.map fun x => [.v (.string x)])), .d (.v (.string sep))] (gives [.d (.v (.string b))]) := by
 subst hb
 exact ct_texts (fnOk_of func65 (by kernel_rfl) (by kernel_rfl)) hne fun w bk o c h1 h2 h3 => (strings_Join bk o c l sep w h1 h2 hl h3 (by simpa [joinT, ByteArray.size] using hs)).mono fun e w' ⟨h1, h2⟩ => ⟨h1, Below.upd h2⟩
end Go.Proofs.Tryz
namespace Go.Dm
open Go
def sameV : Value → Value → Bool
 | .int k n, .int k' n' => k == k' && n == n'
 | .bool a, .bool b => a == b
 | .string a, .string b => a.data.toList == b.data.toList
 | _, _ => false
theorem sameV_sound : ∀ {a b : Value}, sameV a b = true → a = b := by
 intro a b h
 unfold sameV at h
 split at h
 · simp only [Bool.and_eq_true, beq_iff_eq] at h
   obtain ⟨rfl, rfl⟩ := h
   rfl
 · simp only [beq_iff_eq] at h
   rw [h]
 · simp only [beq_iff_eq] at h
   rename_i a b
   obtain ⟨⟨a⟩⟩ := a
   obtain ⟨⟨b⟩⟩ := b
   have h : a = b := h
   rw [h]
 · cases h
mutual
def sameD : D → D → Bool
 | .v x, .v y => sameV x y
 | .sl a, .sl b => sameLL a b
 | .opq, .opq => true
 | _, _ => false
def sameL : List D → List D → Bool
 | [], [] => true
 | a :: r, b :: s => sameD a b && sameL r s
 | _, _ => false
def sameLL : List (List D) → List (List D) → Bool
 | [], [] => true
 | a :: r, b :: s => sameL a b && sameLL r s
 | _, _ => false
end
mutual
theorem sameD_sound : ∀ {a b : D}, sameD a b = true → a = b
 | .v x, .v y, h => congrArg D.v (sameV_sound (by simpa only [sameD] using h))
 | .sl a, .sl b, h => congrArg D.sl (sameLL_sound (by simpa only [sameD] using h))
 | .opq, .opq, _ => rfl
 | .v _, .sl _, h => by simp [sameD] at h
 | .v _, .opq, h => by simp [sameD] at h
 | .sl _, .v _, h => by simp [sameD] at h
 | .sl _, .opq, h => by simp [sameD] at h
 | .opq, .v _, h => by simp [sameD] at h
 | .opq, .sl _, h => by simp [sameD] at h
theorem sameL_sound : ∀ {a b : List D}, sameL a b = true → a = b
 | [], [], _ => rfl
 | a :: r, b :: s, h => by
   simp only [sameL, Bool.and_eq_true] at h
   rw [sameD_sound h.1, sameL_sound h.2]
 | [], _ :: _, h => by simp [sameL] at h
 | _ :: _, [], h => by simp [sameL] at h
theorem sameLL_sound : ∀ {a b : List (List D)}, sameLL a b = true → a = b
 | [], [], _ => rfl
 | a :: r, b :: s, h => by
   simp only [sameLL, Bool.and_eq_true] at h
   rw [sameL_sound h.1, sameLL_sound h.2]
 | [], _ :: _, h => by simp [sameLL] at h
 | _ :: _, [], h => by simp [sameLL] at h
end
def sameR : R → R → Bool
 | .d x, .d y => sameD x y
 | .agg a, .agg b => sameL a b
 | .ptr a, .ptr b => sameL a b
 | .lst e s a, .lst e' s' b => e == e' && s == s' && sameLL a b
 | _, _ => false
theorem sameR_sound {a b : R} (h : sameR a b = true) : a = b := by
 unfold sameR at h
 split at h
 · rw [sameD_sound h]
 · rw [sameL_sound h]
 · rw [sameL_sound h]
 · simp only [Bool.and_eq_true, beq_iff_eq] at h
   obtain ⟨⟨rfl, rfl⟩, h⟩ := h
   rw [sameLL_sound h]
 · cases h
def sameRs : List R → List R → Bool
 | [], [] => true
 | a :: r, b :: s => sameR a b && sameRs r s
 | _, _ => false
theorem sameRs_sound : ∀ {a b : List R}, sameRs a b = true → a = b
 | [], [], _ => rfl
 | a :: r, b :: s, h => by
   simp only [sameRs, Bool.and_eq_true] at h
   rw [sameR_sound h.1, sameRs_sound h.2]
 | [], _ :: _, h => by simp [sameRs] at h
 | _ :: _, [], h => by simp [sameRs] at h
def runsTo (x : M (List R × List (List D))) (r : List R) : Bool := match x with | .ok (q, []) => sameRs q r | _ => false
theorem runsTo_sound {x : M (List R × List (List D))} {r : List R} (h : runsTo x r = true) : x = .ok (r, []) := by
 unfold runsTo at h
 split at h
 · rw [sameRs_sound h]
 · cases h
def libAdd (lib : XL) (f : Nat) (a r : List R) : XL := fun g b => bif g == f && sameRs b a then some (r, []) else lib g b
variable {P : Program} {gl : Nat → Option Obj}
theorem libAdd_ok {lib : XL} {f : Nat} {a r : List R} (h : LibOk P gl lib) (hc : Ct P gl f a (gives r)) : LibOk P gl (libAdd lib f a r) := by
 intro g b q hq
 unfold libAdd at hq
 cases e : g == f && sameRs b a with
 | false => rw [e, cond_false] at hq; exact h g b q hq
 | true =>
   rw [e, cond_true] at hq
   simp only [Bool.and_eq_true, beq_iff_eq] at e
   obtain ⟨rfl, e2⟩ := e
   rw [sameRs_sound e2]
   cases hq
   exact hc
end Go.Dm
