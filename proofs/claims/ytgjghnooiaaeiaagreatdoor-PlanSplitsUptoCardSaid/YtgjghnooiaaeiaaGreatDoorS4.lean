/- A part of the proof: contracts of functions, by a verified generator of conditions; no condition of its own. -/
import Derived.Test.YtgjghnooiaaeiaaGreatDoorLk
import Derived.Shelf.SlIterI.Nil
import Derived.Shelf.SortM.Plain
import Derived.Shelf.SortM.SortNone
import Derived.Ground.GgzProg
import Derived.Ground.SlgmProg
import Derived.Test.YtgjghnooiaaeiaaGreatDoorProg
import Derived.Test.YtgjghnooiaaeiaaGreatDoorSb
import Derived.Test.YtgjghnooiaaeiaaGreatDoorR6
import Derived.Test.YtgjghnooiaaeiaaGreatDoorRw
namespace Go.Proofs
open Go.Shelf
def Tryz.keysA_ren : Go.Shelf.Ren := ⟨fun | 7 => 103 | 10 => 143 | n => n, fun | 23 => 162 | 26 => 3 | 3 => 4 | 28 => 166 | 0 => 0 | 27 => 165 | 33 => 155 | 4 => 4 | n => n, fun | n => n⟩
theorem Tryz.keysA : Go.Proofs.SlLaysZI.n7 Tryz.prog Tryz.keysA_ren := {
 mixed := by kernel_rfl
 f7 := ⟨Tryz.f103.name, by decide, Tryz.func103.trans (congrArg some (by kernel_rfl))⟩
 f10 := ⟨Tryz.f143.name, by decide, Tryz.func143.trans (congrArg some (by kernel_rfl))⟩
 t0 := Tryz.underlying0
 a0 := Tryz.isAgg0
 z0 := Tryz.sizeOf0
 v0 := Tryz.zeroValue0
 t4 := Tryz.underlying4
 a4 := Tryz.isAgg4
 z4 := Tryz.sizeOf4
 v4 := Tryz.zeroValue4
 t23 := Tryz.underlying162
 a23 := Tryz.isAgg162
 z23 := Tryz.sizeOf162
 v23 := Tryz.zeroValue162
 t26 := Tryz.underlying3
 a26 := Tryz.isAgg3
 z26 := Tryz.sizeOf3
 v26 := Tryz.zeroValue3
 t27 := Tryz.underlying165
 a27 := Tryz.isAgg165
 z27 := Tryz.sizeOf165
 v27 := Tryz.zeroValue165
 t28 := Tryz.underlying166
 a28 := Tryz.isAgg166
 z28 := Tryz.sizeOf166
 v28 := Tryz.zeroValue166
 t33 := Tryz.underlying155
 a33 := Tryz.isAgg155
 z33 := Tryz.sizeOf155
 v33 := Tryz.zeroValue155 }
def Tryz.sortedA_ren : Go.Shelf.Ren := ⟨fun | 6 => 102 | 8 => 141 | 9 => 142 | 11 => 188 | 13 => 190 | 12 => 189 | 23 => 264 | 24 => 265 | 14 => 255 | 15 => 256 | 16 => 257 | 17 => 258 | 18 => 259 | 19 => 260 | 20 => 261 | 21 => 262 | 22 => 263 | 25 => 305 | 26 => 306 | 27 => 307 | 28 => 308 | 29 => 309 | 30 => 310 | 31 => 330 | n => n, fun | 26 => 3 | 28 => 166 | 24 => 50 | 0 => 0 | 3 => 3 | 37 => 269 | 48 => 346 | 50 => 150 | 4 => 4 | 40 => 340 | 39 => 339 | 45 => 40 | 5 => 5 | 9 => 9 | 51 => 371 | 55 => 375 | 57 => 388 | 58 => 389 | 33 => 155 | n => n, fun | n => n⟩
theorem Tryz.sortedA : Go.Proofs.SlLaysZI.n6 Tryz.prog Tryz.sortedA_ren := {
 mixed := by kernel_rfl
 f6 := ⟨Tryz.f102.name, by decide, Tryz.func102.trans (congrArg some (by kernel_rfl))⟩
 f8 := ⟨Tryz.f141.name, by decide, Tryz.func141.trans (congrArg some (by kernel_rfl))⟩
 f11 := ⟨Tryz.f188.name, by decide, Tryz.func188.trans (congrArg some (by kernel_rfl))⟩
 t0 := Tryz.underlying0
 a0 := Tryz.isAgg0
 z0 := Tryz.sizeOf0
 v0 := Tryz.zeroValue0
 t24 := Tryz.underlying50
 a24 := Tryz.isAgg50
 z24 := Tryz.sizeOf50
 v24 := Tryz.zeroValue50
 t26 := Tryz.underlying3
 a26 := Tryz.isAgg3
 z26 := Tryz.sizeOf3
 v26 := Tryz.zeroValue3
 t28 := Tryz.underlying166
 a28 := Tryz.isAgg166
 z28 := Tryz.sizeOf166
 v28 := Tryz.zeroValue166
 i26 := by kernel_rfl }
def Tryz.sortA_ren : Go.Shelf.Ren := ⟨fun | 5 => 142 | 8 => 190 | 7 => 189 | 19 => 264 | 20 => 265 | 10 => 255 | 11 => 256 | 12 => 257 | 13 => 258 | 14 => 259 | 15 => 260 | 16 => 261 | 17 => 262 | 18 => 263 | 30 => 305 | 31 => 306 | 32 => 307 | 33 => 308 | 34 => 309 | 35 => 310 | 40 => 330 | n => n, fun | 23 => 50 | 25 => 3 | 3 => 3 | 32 => 269 | 22 => 50 | 0 => 0 | 44 => 346 | 46 => 150 | 4 => 4 | 36 => 340 | 35 => 339 | 41 => 40 | 5 => 5 | 9 => 9 | 53 => 371 | 57 => 375 | 63 => 388 | 64 => 389 | n => n, fun | n => n⟩
theorem Tryz.sortA : Go.Proofs.SlLaysM.n5 Tryz.prog Tryz.sortA_ren := {
 mixed := by kernel_rfl
 f5 := ⟨Tryz.f142.name, by decide, Tryz.func142.trans (congrArg some (by kernel_rfl))⟩
 f7 := ⟨Tryz.f189.name, by decide, Tryz.func189.trans (congrArg some (by kernel_rfl))⟩
 f8 := Tryz.func190.trans (congrArg some (by kernel_rfl))
 f10 := ⟨Tryz.f255.name, by decide, Tryz.func255.trans (congrArg some (by kernel_rfl))⟩
 f11 := ⟨Tryz.f256.name, by decide, Tryz.func256.trans (congrArg some (by kernel_rfl))⟩
 f12 := ⟨Tryz.f257.name, by decide, Tryz.func257.trans (congrArg some (by kernel_rfl))⟩
 f13 := ⟨Tryz.f258.name, by decide, Tryz.func258.trans (congrArg some (by kernel_rfl))⟩
 f14 := ⟨Tryz.f259.name, by decide, Tryz.func259.trans (congrArg some (by kernel_rfl))⟩
 f15 := ⟨Tryz.f260.name, by decide, Tryz.func260.trans (congrArg some (by kernel_rfl))⟩
 f16 := ⟨Tryz.f261.name, by decide, Tryz.func261.trans (congrArg some (by kernel_rfl))⟩
 f17 := ⟨Tryz.f262.name, by decide, Tryz.func262.trans (congrArg some (by kernel_rfl))⟩
 f18 := ⟨Tryz.f263.name, by decide, Tryz.func263.trans (congrArg some (by kernel_rfl))⟩
 f19 := Tryz.func264.trans (congrArg some (by kernel_rfl))
 f20 := Tryz.func265.trans (congrArg some (by kernel_rfl))
 f30 := ⟨Tryz.f305.name, by decide, Tryz.func305.trans (congrArg some (by kernel_rfl))⟩
 f31 := Tryz.func306.trans (congrArg some (by kernel_rfl))
 f32 := Tryz.func307.trans (congrArg some (by kernel_rfl))
 f33 := ⟨Tryz.f308.name, by decide, Tryz.func308.trans (congrArg some (by kernel_rfl))⟩
 f34 := ⟨Tryz.f309.name, by decide, Tryz.func309.trans (congrArg some (by kernel_rfl))⟩
 f35 := ⟨Tryz.f310.name, by decide, Tryz.func310.trans (congrArg some (by kernel_rfl))⟩
 f40 := ⟨Tryz.f330.name, by decide, Tryz.func330.trans (congrArg some (by kernel_rfl))⟩
 t0 := Tryz.underlying0
 a0 := Tryz.isAgg0
 z0 := Tryz.sizeOf0
 v0 := Tryz.zeroValue0
 t3 := Tryz.underlying3
 a3 := Tryz.isAgg3
 z3 := Tryz.sizeOf3
 v3 := Tryz.zeroValue3
 t4 := Tryz.underlying4
 a4 := Tryz.isAgg4
 z4 := Tryz.sizeOf4
 v4 := Tryz.zeroValue4
 t5 := Tryz.underlying5
 a5 := Tryz.isAgg5
 z5 := Tryz.sizeOf5
 v5 := Tryz.zeroValue5
 t9 := Tryz.underlying9
 a9 := Tryz.isAgg9
 z9 := Tryz.sizeOf9
 v9 := Tryz.zeroValue9
 t22 := Tryz.underlying50
 a22 := Tryz.isAgg50
 z22 := Tryz.sizeOf50
 v22 := Tryz.zeroValue50
 t23 := Tryz.underlying50
 a23 := Tryz.isAgg50
 z23 := Tryz.sizeOf50
 v23 := Tryz.zeroValue50
 t25 := Tryz.underlying3
 a25 := Tryz.isAgg3
 z25 := Tryz.sizeOf3
 v25 := Tryz.zeroValue3
 t32 := Tryz.underlying269
 a32 := Tryz.isAgg269
 z32 := Tryz.sizeOf269
 v32 := Tryz.zeroValue269
 t35 := Tryz.underlying339
 a35 := Tryz.isAgg339
 z35 := Tryz.sizeOf339
 v35 := Tryz.zeroValue339
 t36 := Tryz.underlying340
 a36 := Tryz.isAgg340
 z36 := Tryz.sizeOf340
 v36 := Tryz.zeroValue340
 t41 := Tryz.underlying40
 a41 := Tryz.isAgg40
 z41 := Tryz.sizeOf40
 v41 := Tryz.zeroValue40
 t44 := Tryz.underlying346
 a44 := Tryz.isAgg346
 z44 := Tryz.sizeOf346
 v44 := Tryz.zeroValue346
 t46 := Tryz.underlying150
 a46 := Tryz.isAgg150
 z46 := Tryz.sizeOf150
 v46 := Tryz.zeroValue150
 t53 := Tryz.underlying371
 a53 := Tryz.isAgg371
 z53 := Tryz.sizeOf371
 v53 := Tryz.zeroValue371
 t57 := Tryz.underlying375
 a57 := Tryz.isAgg375
 z57 := Tryz.sizeOf375
 v57 := Tryz.zeroValue375
 t63 := Tryz.underlying388
 a63 := Tryz.isAgg388
 z63 := Tryz.sizeOf388
 v63 := Tryz.zeroValue388
 t64 := Tryz.underlying389
 a64 := Tryz.isAgg389
 z64 := Tryz.sizeOf389
 v64 := Tryz.zeroValue389 }
end Go.Proofs
namespace Go.Proofs.Tryz
open Go Go.Dm Go.Ex Go.RowKit Go.Lib Go.Sort Go.Proofs Go.Maps Go.Shelf
theorem sortsA (m : Nat) : AnyZI.SortsIn prog sortedA_ren Fence.wide m :=
 ⟨fun blk off cap ss W hH hblk hsz => callsIn_wide.2 (AnyM.slices_Sort_int sortA blk off cap ss W hH hblk hsz),
  fun p cap W => callsIn_wide.2 (AnyM.slices_Sort_int_none sortA p cap W)⟩
theorem keys_call (mb : Nat) (W : World) : Calls prog 103 #[.map (some mb)] W fun e w' => e = .returned (.func (.func 143) #[] #[.pointer (some ⟨W.heap.size, 0, none⟩)]) ∧ w' = W.alloc (.cells #[.map (some mb)] 162) :=
 (callsIn_wide (n := 5)).1 (AnyZI.keys_in keysA Fence.wide 5 trivial rfl (some mb) W)
theorem sorted_call {N : Nat} (hN : N ≤ 17592186044416) (W : World) (mb : Nat) (D0 : DataW Unit) {R : Value → Option (DataW Unit × List MemPlace)} (hown : W.ownsMap prog 3 R mb N D0) :
   Calls prog 102 #[.func (.func 143) #[] #[.pointer (some ⟨W.heap.size, 0, none⟩)]] (W.alloc (.cells #[.map (some mb)] 162)) fun e w' => ∃ (v : Value) (ss : List Int), e = .returned v ∧ ss.Perm (intKeys D0) ∧
     w'.ownsRow (W.heap.size + 1) 3 1 v ss.length ((ss.mergeSort (fun x y => decide (x ≤ y))).map encZ) ∧ Below (W.heap.size + 1) (W.alloc (.cells #[.map (some mb)] 162)) w' := by
 have hbl := hown.lt
 have hsz := hown.size_le
 have hmax : Maps.size D0 ≤ maxLen := Nat.le_trans hsz (Nat.le_trans hN (by decide))
 have hseq : SeqGives Fence.wide 2 prog 143 #[.pointer (some ⟨W.heap.size, 0, none⟩)] encZ (fun ss => ss.Perm (intKeys D0)) (Maps.size D0) (W.alloc (.cells #[.map (some mb)] 162)) :=
   AnyZI.keys_gives (ρ := keysA_ren) { keysA with } Fence.wide _ trivial rfl (by omega) W.heap.size mb N D0 _ (by simp) (by simp) (by
     obtain ⟨es, clock, hb, Ft, hs, hD⟩ := hown
     exact ⟨es, clock, (Below.heap_alloc _ _ mb hbl).trans hb, Ft, hs, hD⟩)
 have cS := AnyZI.sorted_in sortedA Fence.wide 5 trivial trivial trivial trivial rfl (by omega) (sortsA _) (enters_of func142 (by kernel_rfl) rfl) 143 #[.pointer (some ⟨W.heap.size, 0, none⟩)] trivial (enters_of func143 (by kernel_rfl) rfl) _ _ hmax (by omega) _ hseq
 have e1 : (W.alloc (.cells #[.map (some mb)] 162)).heap.size = W.heap.size + 1 := by show (W.heap.push _).size = _; simp
 rw [e1] at cS
 exact ((callsIn_wide (n := 5)).1 cS).mono fun e w' ⟨v, ss, h1, h2, h3, _, h4⟩ => ⟨v, ss, h1, h2, h3, h4⟩
theorem mem_intKeys {w : World} {mb N : Nat} {D0 : DataW Unit} (h : w.ownsMap prog 3 (plainElem prog 4) mb N D0) (x : Int) : x ∈ intKeys D0 ↔ has D0 (.int .i64 x) = true := by
 obtain ⟨es, rfl, hko⟩ := h.keysOf
 rw [has_eq, List.any_eq_true]
 show x ∈ es.map (fun p => Go.intOf p.1) ↔ _
 rw [List.mem_map]
 constructor
 · rintro ⟨p, hp, rfl⟩
   obtain ⟨v, hv⟩ := hko p hp
   obtain ⟨y, _, hy, _⟩ := Maps.keyOf_i64 underlying3 hv
   exact ⟨p, hp, by rw [hy]; simp [Lit.sameKey, Go.intOf]⟩
 · rintro ⟨p, hp, hs⟩
   obtain ⟨v, hv⟩ := hko p hp
   obtain ⟨y, _, hy, _⟩ := Maps.keyOf_i64 underlying3 hv
   rw [hy] at hs
   exact ⟨p, hp, by rw [hy]; simpa [Lit.sameKey, Go.intOf] using hs⟩
theorem len_intKeys (D0 : DataW Unit) : (intKeys D0).length ≤ Maps.size D0 := by
 cases D0 <;> simp [intKeys, Maps.size]
set_option maxHeartbeats 4000000 in
set_option maxRecDepth 1000000 in
theorem columns_walk (N : Nat) (hN : N ≤ 17592186044416) (e : EX) (hf : fits e) (hc : ∀ x ∈ colsE e, 0 ≤ x ∧ x < N) (ok : Nat → Prop) (w : World) (xs : Array Value) (hx : xs.size = 10)
   (hrd : ∀ (i : Nat) x v, (cells e)[i]? = some x → xs[i]? = some v → Rd ok w v x) (hok : ∀ b, ok b → b < w.heap.size) :
   Calls prog 51 #[.agg xs] w fun r w' => ∃ (v : Value) (ss : List Int), r = .returned v ∧ (∀ x, x ∈ ss ↔ x ∈ colsE e) ∧ ss.length ≤ N ∧ w'.ownsRow w.heap.size 3 1 v ss.length ((ss.mergeSort (fun x y => decide (x ≤ y))).map encZ) ∧ Upd [] w.heap.size w w' := by
 obtain ⟨x0, x1, x2, x3, x4, x5, x6, x7, x8, x9, rfl⟩ := ten hx
 obtain ⟨op, sub, t, va, args⟩ := e
 have hrd0 := hrd
 simp only [cells] at hrd
 obtain rfl := rd_v (hrd 0 _ x0 rfl rfl)
 obtain rfl := rd_v (hrd 1 _ x1 rfl rfl)
 obtain rfl := rd_v (hrd 2 _ x2 rfl rfl)
 obtain rfl := rd_v (hrd 3 _ x3 rfl rfl)
 obtain rfl := rd_v (hrd 4 _ x4 rfl rfl)
 obtain rfl := rd_v (hrd 5 _ x5 rfl rfl)
 obtain rfl := rd_v (hrd 6 _ x6 rfl rfl)
 obtain rfl := rd_v (hrd 7 _ x7 rfl rfl)
 obtain rfl := rd_v (hrd 8 _ x8 rfl rfl)
 obtain ⟨ad, cap, hA⟩ := argM_of (hrd 9 _ x9 rfl rfl)
 obtain rfl := hA.eq
 clear hrd hA
 generalize hV : #[Value.int .i64 op, .int .i64 sub, .int .i64 t.k, .int .i64 t.sc, .int .i64 va.t.k, .int .i64 va.t.sc, .bool va.nul, .int .i64 va.n, .string va.s, .slice ad args.length cap] = V at hrd0
 generalize hW1 : (w.alloc (Obj.cells V 28)).alloc (.map #[] 0) = W1
 have hz : W1.heap.size = w.heap.size + 2 := by rw [← hW1]; show ((w.heap.push _).push _).size = _; simp
 have hmap : MapI W1 (w.heap.size + 1) N (fun _ => False) := by
   rw [← hW1]
   have h0 := World.ownsMap_made (H := Unit) (w.alloc (Obj.cells V 28)) prog 3 (plainElem prog 4)
   have e1 : (w.alloc (Obj.cells V 28)).heap.size = w.heap.size + 1 := by show (w.heap.push _).size = _; simp
   rw [e1] at h0
   exact ⟨.map [], h0.mono (Nat.zero_le _), fun x => by simp [has], fun x h => h.elim⟩
 have hU1 : Upd [w.heap.size + 1] w.heap.size w W1 := by
   rw [← hW1]
   exact upd_then (alloc_upd _) (alloc_upd _)
 have hlook := look_walk N (by omega) _ (.mk op sub t va args) (Nat.lt_succ_self _) hf hc ok W1 (w.heap.size + 1) _ V (by rw [← hV]; rfl) (fun i x y h1 h2 => (hrd0 i x y h1 h2).mono (fun _ h => h) (fun b hb => hU1.block b (hok b hb) (by have := hok b hb; simp; omega)))
   (fun b hb => by have := hok b hb; omega) (fun h => by have := hok _ h; omega) hmap
 subst hV
 subst hW1
 clear hmap
 have AU1 : Aside (Upd [w.heap.size + 1] w.heap.size w ((w.alloc (Obj.cells #[Value.int .i64 op, .int .i64 sub, .int .i64 t.k, .int .i64 t.sc, .int .i64 va.t.k, .int .i64 va.t.sc, .bool va.nul, .int .i64 va.n, .string va.s, .slice ad args.length cap] 28)).alloc (.map #[] 0))) := hU1
 clear hU1 hrd0 hx
 have hmm := @run_makeMap prog
 go_enter func51, (show f51.ntmps = 11 from by kernel_rfl)
 go_wp2_with (first
   | (go_at_call 101; refine hlook.mono ?_; rintro e w3 ⟨rfl, ⟨D3, hown3, hh3, hr3⟩, hU3⟩; have A3 : Aside (Upd [w.heap.size + 1] w.heap.size w w3) := upd_then AU1.out hU3; have B3 : Aside (∀ x, has D3 (.int .i64 x) = true ↔ False ∨ x ∈ colsE (.mk op sub t va args)) := hh3; clear hh3 hr3 hU3)
   | (go_at_call 103; refine (keys_call _ _).mono ?_; rintro e w4 ⟨rfl, rfl⟩)
   | (go_at_call 102; refine (sorted_call hN _ _ _ hown3).mono ?_; rintro e w5 ⟨v, ss, rfl, hp, hrow, hbl⟩))
 go_ret
 have hm : ∀ x, x ∈ ss ↔ x ∈ colsE (EX.mk op sub t va args) := fun x => by rw [hp.mem_iff, mem_intKeys hown3, B3.out]; simp
 have hU := A3.out
 have hsz : (w3.alloc (Obj.cells #[Value.map (some (w.heap.size + 1))] 162)).heap.size = w3.heap.size + 1 := by show (w3.heap.push _).size = _; simp
 refine ⟨v, ss, rfl, hm, ?_, ownsRow_base_a hrow (by have := hU.size; omega), ?_, ?_, ?_, ?_, fun k hk _ => ?_⟩
 · rw [hp.length_eq]; exact Nat.le_trans (len_intKeys D3) hown3.size_le
 · exact hbl.os.trans hU.os
 · exact hbl.tape.trans hU.tape
 · exact hbl.output.trans hU.output
 · have h1 := hbl.size; have h2 := hU.size; rw [hsz] at h1; omega
 · have h2 := hU.size
   rw [hbl.block k (by omega), Below.heap_alloc _ _ _ (by omega)]
   exact hU.block k hk (by simp; omega)
def colsS (N : Nat) (e : EX) : List Int := ((List.range N).filter fun (n : Nat) => decide ((n : Int) ∈ colsE e)).map fun (n : Nat) => (n : Int)
theorem colsS_pw (N : Nat) (e : EX) : (colsS N e).Pairwise (· ≤ ·) := by
 unfold colsS
 rw [List.pairwise_map]
 exact (List.pairwise_lt_range.filter _).imp fun h => by omega
theorem colsS_mem {N : Nat} {e : EX} (hc : ∀ x ∈ colsE e, 0 ≤ x ∧ x < N) (x : Int) : x ∈ colsS N e ↔ x ∈ colsE e := by
 unfold colsS
 simp only [List.mem_map, List.mem_filter, List.mem_range, decide_eq_true_eq]
 constructor
 · rintro ⟨n, ⟨_, h⟩, rfl⟩; exact h
 · intro h
   have := hc x h
   exact ⟨x.toNat, ⟨by omega, by rw [Int.toNat_of_nonneg this.1]; exact h⟩, by omega⟩
theorem colsS_len (N : Nat) (e : EX) : (colsS N e).length ≤ N := by
 unfold colsS
 rw [List.length_map]
 exact Nat.le_trans (List.length_filter_le _ _) (by simp)
abbrev intsD (l : List Int) : List (List D) := l.map fun x => [.v (.int .i64 x)]
theorem ct177 {gl : Nat → Option Obj} (N : Nat) (hN : N ≤ 17592186044416) (e : EX) (hf : fits e) (hc : ∀ x ∈ colsE e, 0 ≤ x ∧ x < N) :
   Ct prog gl 51 [.agg (cells e)] (fun res fin => fin = [] ∧ ∃ L : List Int, L.Pairwise (· ≤ ·) ∧ (∀ x, x ∈ L ↔ x ∈ colsE e) ∧ L.length ≤ N ∧ res = [.d (.sl (intsD L))]) := by
 have tr : ∀ a b c : Int, leI a b = true → leI b c = true → leI a c = true := fun a b c h1 h2 => by simp only [leI, decide_eq_true_eq] at *; exact Int.le_trans h1 h2
 have to : ∀ a b : Int, (leI a b || leI b a) = true := fun a b => by simp only [leI, Bool.or_eq_true, decide_eq_true_eq]; exact Int.le_total a b
 have hfn : FnOk prog 51 := fnOk_of func51 (by kernel_rfl) (by kernel_rfl)
 have run : ∀ (w : World) (ok : Nat → Prop) (vs : List Value) (bs : List Nat), (∀ b, ok b → b < w.heap.size) → ArgsR ok w bs [.agg (cells e)] vs → Calls prog 51 vs.toArray w (CtPost ok bs w (fun res fin => fin = [] ∧ ∃ L : List Int, L.Pairwise (· ≤ ·) ∧ (∀ x, x ∈ L ↔ x ∈ colsE e) ∧ L.length ≤ N ∧ res = [.d (.sl (intsD L))])) := by
   intro w ok vs bs h1 h4
   cases h4 with
   | agg hs hr hrest =>
   cases hrest
   rename_i xs
   have h10 : (cells e).length = 10 := cellsL_all (l := [e]) _ (by simp [cellsL])
   refine (columns_walk N hN e hf hc ok w xs (by omega) hr h1).mono fun r w' ⟨v, ss, h5, h6, h7, h8, h9⟩ => ?_
   subst h5
   generalize hL : (ss.mergeSort (fun x y => decide (x ≤ y))) = L at h8
   have hlen : L.length = ss.length := by rw [← hL]; exact List.length_mergeSort ss
   have hmem : ∀ x, x ∈ L ↔ x ∈ colsE e := fun x => by rw [← hL, List.mem_mergeSort]; exact h6 x
   have hpw : L.Pairwise (· ≤ ·) := by
     have := List.pairwise_mergeSort tr to ss
     rw [show ss.mergeSort leI = L from hL] at this
     exact this.imp fun h => by simpa [leI] using h
   obtain ⟨hxl, hv⟩ := h8
   rcases hv with ⟨rfl, h0⟩ | ⟨g, cap, cur, rfl, hg, hgb, hnc, _, hcs, htk⟩
   · obtain rfl : L = [] := List.eq_nil_of_length_eq_zero (by omega)
     exact ⟨[.d (.sl [])], [], [.slice none 0 0], ok, [], rfl, ⟨rfl, [], .nil, hmem, by simp, rfl⟩, fun _ h => h, fun _ h => .inl h, fun b hb => Nat.lt_of_lt_of_le (h1 b hb) h9.size, h9, .d .nil .nil, List.nodup_nil, (by intro b hb; cases hb), rfl, (by intro i n cs h; simp at h)⟩
   · have hglt : g < w'.heap.size := (Array.getElem?_eq_some_iff.1 hgb).1
     rw [← hlen]
     refine ⟨[.d (.sl (intsD L))], [], [.slice (some ⟨g, 0, none⟩) L.length cap], fun b => ok b ∨ b = g, [], rfl, ⟨rfl, L, hpw, hmem, by omega, rfl⟩, fun _ h => .inl h, fun b h => h.elim .inl (fun e => .inr (by omega)),
       fun b hb => hb.elim (fun hb => Nat.lt_of_lt_of_le (h1 b hb) h9.size) (fun e => e ▸ hglt), h9, .d ?_ .nil, List.nodup_nil, (by intro b hb; cases hb), rfl, (by intro i n cs h; simp at h)⟩
     have := Rd.sl (ok := fun b => ok b ∨ b = g) (w := w') (b := g) (off := 0) (cap := cap) (es := intsD L) 1 (fun i _ => .int .i64 (L.getD i 0)) (by simp; omega) (fun _ => .inr rfl) (fun c hc => by obtain ⟨x, _, rfl⟩ := List.mem_map.1 hc; rfl)
       (fun i j hi hj => ?_) (fun i j hi hj => ?_)
     · simp only [List.length_map] at this; exact this
     · simp only [List.length_map] at hi
       obtain rfl : j = 0 := by omega
       have e1 : cur[i]? = some (.int .i64 (L.getD i 0)) := by
         have e2 : (cur.toList.take (ss.length * 1))[i]? = (L.map encZ)[i]? := by rw [htk]
         rw [List.getElem?_take, if_pos (by omega), List.getElem?_map, List.getElem?_eq_getElem hi] at e2
         rw [← Array.getElem?_toList, e2, List.getD_eq_getElem?_getD, List.getElem?_eq_getElem hi]; rfl
       show World.cell? w' ⟨g, 0 + (i * 1 + 0), none⟩ = _
       rw [World.cell?, hgb]
       simpa using e1
     · simp only [List.length_map] at hi
       obtain rfl : j = 0 := by omega
       have : ((intsD L).getD i []).getD 0 default = D.v (.int .i64 (L.getD i 0)) := by
         have e3 : (intsD L).getD i [] = [D.v (.int .i64 (L.getD i 0))] := by
           rw [List.getD_eq_getElem?_getD, List.getElem?_map, List.getElem?_eq_getElem hi, List.getD_eq_getElem?_getD, List.getElem?_eq_getElem hi]; rfl
         rw [e3]; rfl
       rw [this]
       exact .v rfl
 exact ⟨hfn, ⟨_, _, rfl, colsS N e, colsS_pw N e, colsS_mem hc, colsS_len N e, rfl⟩, fun w ok vs bs _ h1 _ _ h4 => run w ok vs bs h1 h4⟩
def c_177 (a : List R) (K : KT) : Prop := match a with
 | [.agg x] => ∃ (e : EX) (N : Nat), x = cells e ∧ fits e ∧ N ≤ 17592186044416 ∧ (∀ y ∈ colsE e, 0 ≤ y ∧ y < N) ∧ ∀ L : List Int, L.Pairwise (· ≤ ·) → (∀ y, y ∈ L ↔ y ∈ colsE e) → L.length ≤ N → K [.d (.sl (intsD L))] []
 | _ => False
theorem c_177_ok {gl : Nat → Option Obj} (a : List R) (K : KT) (h : c_177 a K) : Ct prog gl 51 a K := by
 unfold c_177 at h
 split at h
 · obtain ⟨e, N, rfl, h1, h2, h3, h4⟩ := h
   exact (ct177 N h2 e h1 h3).mono fun r f ⟨e1, L, e2, e3, e4, e5⟩ => by subst e1; subst e5; exact h4 L e2 e3 e4
 · exact h.elim
end Go.Proofs.Tryz
namespace Go.Proofs.Tryz
open Go Go.Dm Go.Ex
set_option maxRecDepth 100000
variable {gl : Nat → Option Obj}
def I_89 : Nat → List V → List V → St → (V → St → Prop) → Prop := growI noI 42 23 2 16 24
theorem I_89_ok : IOk prog gl I_89 := growI_lay (ρ := grow42_ren) grow42 E_ok (key := 24) (ei := tiAt te_0 23) rfl rfl (by kernel_rfl) (fnOk_of (f := 42) (fn := f42) (by kernel_rfl) (by kernel_rfl) (by kernel_rfl))
def E_c89 : Env := { E_0 with inl := [42] }
def st_89a (ls : List (List (List D))) (x : Nat) : St := { tm := [(0, .d (.sl (encL2 ls))), (2, .nil), (3, .d (.v (.int .i64 (tot (ls.take x) : Int)))), (9, .d (.sl (encL2 ls))), (10, .d (.v (.int .i64 ((encL2 ls).length : Int)))), (11, .d (.v (.int .i64 (x : Int))))], hp := [], kn := [], gd := [] }
def st_89b (ls : List (List (List D))) (x : Nat) : St := { tm := [(2, .nil), (6, .own 24), (25, .d (.sl (encL2 ls))), (26, .d (.v (.int .i64 ((encL2 ls).length : Int)))), (27, .d (.v (.int .i64 (x : Int))))], hp := [(24, .lst 23 2 (ls.take x).flatten)], kn := [], gd := [] }
def inv_89 (ls : List (List (List D))) (m : Nat) (x : Nat) : Prop := x ≤ ls.length ∧ m = ls.length - x
def fx_89 (ls : List (List (List D))) : Fi := { fi15 with lx := [(3, { X := Nat, sh := st_89a ls, P := fun _ => inv_89 ls }), (11, { X := Nat, sh := st_89b ls, P := fun _ => inv_89 ls })], cv := [(11, [{ box := none, ix := 6, key := 24, e := 23, sz := 2 }])] }
def Z8 (a0 : List (List (List D))) (a1 : KT) : Prop := Zbt fun es => D.sl (encL2 a0) = D.sl es ∧ ∃ (x0 : Nat), (Zdy a0 es (23 : Nat) (2 : Nat) x0 fun n => inv_89 a0 n x0) ∧ ∀ (n : Nat) (x : Nat), inv_89 a0 n x → (Z0 x a0 (2 : Nat) (23 : Nat) (16 : Nat) n fun m x' => inv_89 a0 m x') ∧ (decide ((↑x : Int) < (↑(encL2 a0).length : Int)) = false → a1 [.lst (23 : Nat) (2 : Nat) (List.take x a0).flatten] [])
theorem vc89 (ls : List (List (List D))) (Q : KT) : vcO E_c89 C_0 I_89 (fx_89 ls) (f15.body.getD .skip) f15.results.toList [.d (.sl (encL2 ls))] Q = ( Zbt fun es => D.sl (encL2 ls) = D.sl es ∧ ∃ (x0 : Nat), (Zdh ls es x0 fun n => inv_89 ls n x0) ∧ ∀ (n : Nat) (x : Nat), inv_89 ls n x → (Zc6 x ls fun es_1 => (Zcp x ls es_1 n fun m x' => inv_89 ls m x')) ∧ (Zfb x ls (16 : Nat) (((↑(tot (List.take x ls)) : Int) = (0 : Int) → Z8 ls Q) ∧ ((↑(tot (List.take x ls)) : Int) ≠ (0 : Int) → Z8 ls Q)))) := by kernel_rfl
theorem ct89 (ls : List (List (List D))) (hl : ls.length ≤ 1353245080300) (hz : ∀ l ∈ ls, ∀ c ∈ l, c.length = 2) (ht : tot ls * 16 ≤ 140737488355328) (ht2 : tot ls ≤ 140737488355328) : Ct prog gl 15 [.d (.sl (encL2 ls))] (gives [.lst 23 2 ls.flatten]) := by
 refine ct_of_vcO (E := E_c89) ⟨E_ok.te⟩ C_0_ok I_89_ok (fun _ _ _ h => h.elim) mixed (fn := f15) (body := f15.body.getD .skip) (by kernel_rfl) (by kernel_rfl) (by kernel_rfl) (fi := fx_89 ls) (by kernel_rfl) (by kernel_rfl) ⟨_, _, rfl, rfl⟩ ?_
 rw [vc89]; dsimp -eta -iota -proj only [Zbt, Zdh, Zdf, Zb8, Zc6, Zci, Zba, Zcp, Zdq, Zfb, Z8, Zdy, Zdw, Zc7, Z0, Ze7, Zee]
 refine ⟨encL2 ls, rfl, (0 : Nat), ⟨rfl, ls.length, Nat.zero_le _, rfl⟩, fun m (x : Nat) hx => ⟨fun hi => ?_, fun hi => ?_⟩⟩
 · obtain ⟨hx1, hx2⟩ := hx
   have hi : x < ls.length := by simpa [encL2] using hi
   have hs := tot_next hi
   have hle := tot_le ls (x + 1)
   have hle2 := tot_le ls x
   have hw : IntKind.i64.wrap ((tot (ls.take x) : Int) + (ls[x].length : Int)) = ((tot (ls.take (x + 1)) : Nat) : Int) := by
     rw [hs, wrap64_of (by omega) (by omega)]; omega
   refine ⟨encL2 ls, rfl, ⟨by omega, by rw [encL2_len]; omega⟩, [.sl ls[x]], by simpa using encL2_get hi, rfl, ls[x], rfl, ls[x], rfl, fun h => ?_, fun _ => ⟨ls.length - (x + 1), x + 1, by omega, ?_, by omega, rfl⟩⟩
   · rw [hw] at h
     have := of_decide_eq_true h
     omega
   · rw [hw, wrap64_of (n := (x : Int) + 1) (by omega) (by omega)]
     rfl
 · obtain ⟨hx1, hx2⟩ := hx
   have hi : ¬ x < ls.length := by simpa [encL2] using hi
   have hxe : ls.take x = ls := List.take_of_length_le (by omega)
   rw [hxe]
   refine ⟨Int.natCast_nonneg _, by rw [← Int.natCast_mul]; omega, by omega, fun _ => ?_, fun _ => ?_⟩
   all_goals
     refine ⟨encL2 ls, rfl, (0 : Nat), ⟨rfl, ls.length, Nat.zero_le _, rfl⟩, fun m (y : Nat) hy => ⟨fun hj => ?_, fun hj => ?_⟩⟩
     · obtain ⟨hy1, hy2⟩ := hy
       have hj : y < ls.length := by simpa [encL2] using hj
       have hs := tot_next hj
       have hle := tot_le ls (y + 1)
       refine ⟨encL2 ls, rfl, ⟨by omega, by rw [encL2_len]; omega⟩, [.sl ls[y]], by simpa using encL2_get hj, rfl, ls[y], rfl, ls[y], rfl, hz _ (List.getElem_mem hj), rfl, rfl, ?_, ls.length - (y + 1), y + 1, by omega, ?_, by omega, rfl⟩
       · have : (Nat.add (ls.take y).flatten.length ls[y].length) = tot (ls.take (y + 1)) := by rw [hs, flat_len]; rfl
         rw [this, ← Int.natCast_mul]
         have := Nat.mul_le_mul_right 16 hle
         omega
       · rw [wrap64_of (n := (y : Int) + 1) (by omega) (by omega), flat_next hj]
         rfl
     · have hj : ¬ y < ls.length := by simpa [encL2] using hj
       rw [List.take_of_length_le (by omega)]
       exact ⟨rfl, rfl⟩
def c_89 (a : List R) (K : KT) : Prop := match a with
 | [.d (.sl x)] => ∃ ls : List (List (List D)), x = encL2 ls ∧ okTot ls 16 ∧ (∀ l ∈ ls, ∀ c ∈ l, c.length = 2) ∧ K [.lst 23 2 ls.flatten] []
 | _ => False
theorem c_89_ok (a : List R) (K : KT) (h : c_89 a K) : Ct prog gl 15 a K := by
 unfold c_89 at h
 split at h
 · obtain ⟨ls, rfl, h1, h2, h5⟩ := h
   exact (ct89 ls h1.1 h2 h1.2.1 h1.2.2).gives h5
 · exact h.elim
def c_90 (n : Nat) (a : List R) (K : KT) : Prop := match a with
 | [.agg x] => ∃ (e : EX) (c : Int), x = cells e ∧ size e < n ∧ fits e ∧ mayE c e = true ∧ size e ≤ 1000000000 ∧ K [.lst 28 10 (cellsL (partsE e))] []
 | _ => False
def C_f90 (n : Nat) : CallT := addC (addC C_0 50 c_80) 17 (c_90 n)
def Zfy (a0 a1 : Int) (a2 : Ty) (a3 : Go.Ex.AV) (a4 : List EX) : List R := [.lst (28 : Nat) (10 : Nat) [(Zz a0 a1 a2 a3 a4)]]
def Zu (a0 : Int) (a1 : List (List D)) (k : Int → Int → Int → Int → Int → Int → Bool → Int → ByteArray → (List (List D)) → Prop) : Prop := Zey a0 a1 fun cells => Zk cells fun n_1 n_2 n_3 n_4 n_5 n_6 b n_7 b_1 es => k n_1 n_2 n_3 n_4 n_5 n_6 b n_7 b_1 es
def Zdm (a0 : List EX) (a1 : Int) (k : Int → Int → Int → Int → Int → Int → Bool → Int → ByteArray → (List (List D)) → Prop) : Prop := Zby a0 fun es => Zu a1 es fun n_1 n_2 n_3 n_4 n_5 n_6 b n_7 b_1 es => k n_1 n_2 n_3 n_4 n_5 n_6 b n_7 b_1 es
def Zbf (a0 : Int) (a1 : List EX) (a2 : Nat) (k : EX → EX → Prop) : Prop := (a0 != (10 : Int)) = false → Zdm a1 (0 : Int) fun n_1 n_2 n_3 n_4 n_5 n_6 b n_7 b_1 es => Zdm a1 (1 : Int) fun n_8 n_9 n_10 n_11 n_12 n_13 b_2 n_14 b_3 es_2 => ∃ (e : EX), ∃ (c : Int), Zep n_1 n_2 n_3 n_4 n_5 n_6 b n_7 b_1 es e a2 (mayE c e = true ∧ size e ≤ (1000000000 : Nat) ∧ ∃ (e_1 : EX), ∃ (c : Int), Zep n_8 n_9 n_10 n_11 n_12 n_13 b_2 n_14 b_3 es_2 e_1 a2 (mayE c e_1 = true ∧ size e_1 ≤ (1000000000 : Nat) ∧ k e e_1))
theorem vc90 (n : Nat) (op sub : Int) (t : Ty) (v : Go.Ex.AV) (args : List EX) (Q : KT) : vcO E_0 (C_f90 n) noI fi17 (f17.body.getD .skip) f17.results.toList [.agg (encX op sub t v (cellsL args))] Q = ( ((op != (10 : Int)) = true → Q (Zfy op sub t v args) []) ∧ (Zbf op args n fun e e_1 => ∃ (ls : List (List (List D))), [[D.sl (cellsL (partsE e))], [D.sl (cellsL (partsE e_1))]] = encL2 ls ∧ okTot ls (104 : Nat) ∧ (∀ (l : List (List D)), l ∈ ls → Zee l (10 : Nat)) ∧ Q [.lst (28 : Nat) (10 : Nat) ls.flatten] [])) := by kernel_rfl
def C_f94 (n : Nat) : CallT := addC C_0 22 (c_90 n)
theorem vc94 (n : Nat) (op sub : Int) (t : Ty) (v : Go.Ex.AV) (args : List EX) (Q : KT) : vcO E_0 (C_f94 n) noI fi22 (f22.body.getD .skip) f22.results.toList [.agg (encX op sub t v (cellsL args))] Q = ( ((op != (10 : Int)) = true → Q (Zfy op sub t v args) []) ∧ (Zbf op args n fun e e_1 => (∀ (c : List D), c ∈ cellsL (partsE e_1) → c.length = 10) ∧ (28 : Nat) = (28 : Nat) ∧ (10 : Nat) = (10 : Nat) ∧ (↑((cellsL (partsE e)).length.add (cellsL (partsE e_1)).length) : Int) * (↑(104 : Nat) : Int) ≤ 140737488355328 ∧ Q [.lst (28 : Nat) (10 : Nat) (cellsL (partsE e) ++ cellsL (partsE e_1))] [])) := by kernel_rfl
theorem may_mk2 {c : Int} {op sub : Int} {t : Ty} {v : Go.Ex.AV} {args : List EX} (h : mayE c (.mk op sub t v args) = true) : mayHd op sub t v (args.length : Int) c = true ∧ mayL c args = true := by
 simp only [mayE, Bool.and_eq_true] at h
 rw [cellsL_len] at h
 exact h
theorem parts_and {sub : Int} {t : Ty} {v : Go.Ex.AV} {a b : EX} : partsE (.mk 10 sub t v [a, b]) = partsE a ++ partsE b := by
 simp [partsE, partsL]
theorem parts_one {op sub : Int} {t : Ty} {v : Go.Ex.AV} {args : List EX} (h : ¬ (op = 10 ∧ args.length = 2)) : partsE (.mk op sub t v args) = [.mk op sub t v args] := by
 simp only [partsE, if_neg h]
theorem ct90 : ∀ (n : Nat) (e : EX) (c : Int), size e < n → fits e → mayE c e = true → size e ≤ 1000000000 → Ct prog gl 17 [.agg (cells e)] (gives [.lst 28 10 (cellsL (partsE e))])
 | 0, _, _, h, _, _, _ => absurd h (Nat.not_lt_zero _)
 | n + 1, .mk op sub t v args, c, hs, hf, hm, hb => by
   have hC : CallsOk prog gl (C_f90 n) := addC_ok (addC_ok C_0_ok c_80_ok) (fun a K hk => by
     unfold c_90 at hk
     split at hk
     · obtain ⟨e, c, rfl, h1, h2, h3, h4, h5⟩ := hk
       exact (ct90 n e c h1 h2 h3 h4).gives h5
     · exact hk.elim)
   rw [cells_mk]
   refine ct_of_vcO E_ok hC ioK_no it_ok mixed (fn := f17) (body := f17.body.getD .skip) (by kernel_rfl) (by kernel_rfl) (by kernel_rfl) (fi := fi17) (by kernel_rfl) (by kernel_rfl) ⟨_, _, rfl, rfl⟩ ?_
   rw [vc90]; dsimp -eta -iota -proj only [Zfy, Zz, Zbf, Zdm, Zby, Zbt, Zu, Zey, Zk, Z1, Zep, Z4, Zee]
   obtain ⟨_, hl, hfl⟩ := fits_mk hf
   obtain ⟨hm1, hm2⟩ := may_mk2 hm
   simp only [size] at hs hb
   refine ⟨fun h => ?_, fun h => ?_⟩
   · have h : ¬ (op = 10 ∧ args.length = 2) := fun hh => by rw [hh.1] at h; cases h
     rw [parts_one h]
     simp only [cellsL, cells_mk]
     exact ⟨rfl, rfl⟩
   · have ho : op = 10 := by simpa using h
     subst ho
     have ha : args.length = 2 := by
       unfold mayHd at hm1
       simp at hm1
       omega
     obtain ⟨a, b, rfl⟩ : ∃ a b, args = [a, b] := by
       match args, ha with
       | [a, b], _ => exact ⟨a, b, rfl⟩
     obtain ⟨op1, sub1, t1, v1, a1, e1, g1⟩ := arg_get (l := [a, b]) (i := 0) (by simp)
     obtain ⟨op2, sub2, t2, v2, a2, e2, g2⟩ := arg_get (l := [a, b]) (i := 1) (by simp)
     have e1 : a = .mk op1 sub1 t1 v1 a1 := e1
     have e2 : b = .mk op2 sub2 t2 v2 a2 := e2
     simp only [fitsL] at hfl
     simp only [sizeL] at hs hb
     simp only [mayL, Bool.and_eq_true] at hm2
     have l1 := partsE_len a
     have l2 := partsE_len b
     refine ⟨cellsL [a, b], rfl, by simp [cellsL], _, g1, rfl, op1, sub1, t1.k, t1.sc, v1.t.k, v1.t.sc, v1.nul, v1.n, v1.s, cellsL a1, rfl, cellsL [a, b], rfl, by simp [cellsL], _, g2, rfl, op2, sub2, t2.k, t2.sc, v2.t.k, v2.t.sc, v2.nul, v2.n, v2.s, cellsL a2, rfl, a, c, by rw [e1, cells_mk]; rfl, by omega, hfl.1, hm2.1, by omega, b, c, by rw [e2, cells_mk]; rfl, by omega, hfl.2.1, hm2.2.1, by omega,
       [cellsL (partsE a), cellsL (partsE b)], rfl, ?_, ?_, ?_⟩
     · unfold okTot tot
       simp only [List.map_cons, List.map_nil, List.sum_cons, List.sum_nil, cellsL_len, List.length_cons, List.length_nil]
       omega
     · intro l hl c hc
       rcases List.mem_cons.1 hl with rfl | hl
       · exact cellsL_all c hc
       · rcases List.mem_cons.1 hl with rfl | hl
         · exact cellsL_all c hc
         · cases hl
     · rw [parts_and, cellsL_append]
       simp only [List.flatten_cons, List.flatten_nil, List.append_nil]
       exact ⟨rfl, rfl⟩
def c_90g (a : List R) (K : KT) : Prop := match a with
 | [.agg x] => ∃ (e : EX) (c : Int), x = cells e ∧ fits e ∧ mayE c e = true ∧ size e ≤ 1000000000 ∧ K [.lst 28 10 (cellsL (partsE e))] []
 | _ => False
theorem c_90g_ok (a : List R) (K : KT) (h : c_90g a K) : Ct prog gl 17 a K := by
 unfold c_90g at h
 split at h
 · obtain ⟨e, c, rfl, h1, h2, h3, h4⟩ := h
   exact (ct90 _ e c (Nat.lt_succ_self _) h1 h2 h3).gives h4
 · exact h.elim
theorem ct94 : ∀ (n : Nat) (e : EX) (c : Int), size e < n → fits e → mayE c e = true → size e ≤ 1000000000 → Ct prog gl 22 [.agg (cells e)] (gives [.lst 28 10 (cellsL (partsE e))])
 | 0, _, _, h, _, _, _ => absurd h (Nat.not_lt_zero _)
 | n + 1, .mk op sub t v args, c, hs, hf, hm, hb => by
   have hC : CallsOk prog gl (C_f94 n) := addC_ok C_0_ok (fun a K hk => by
     unfold c_90 at hk
     split at hk
     · obtain ⟨e, c, rfl, h1, h2, h3, h4, h5⟩ := hk
       exact (ct94 n e c h1 h2 h3 h4).gives h5
     · exact hk.elim)
   rw [cells_mk]
   refine ct_of_vcO E_ok hC ioK_no it_ok mixed (fn := f22) (body := f22.body.getD .skip) (by kernel_rfl) (by kernel_rfl) (by kernel_rfl) (fi := fi22) (by kernel_rfl) (by kernel_rfl) ⟨_, _, rfl, rfl⟩ ?_
   rw [vc94]; dsimp -eta -iota -proj only [Zfy, Zz, Zbf, Zdm, Zby, Zbt, Zu, Zey, Zk, Z1, Zep, Z4]
   obtain ⟨_, hl, hfl⟩ := fits_mk hf
   obtain ⟨hm1, hm2⟩ := may_mk2 hm
   simp only [size] at hs hb
   refine ⟨fun h => ?_, fun h => ?_⟩
   · have h : ¬ (op = 10 ∧ args.length = 2) := fun hh => by rw [hh.1] at h; cases h
     rw [parts_one h]
     simp only [cellsL, cells_mk]
     exact ⟨rfl, rfl⟩
   · have ho : op = 10 := by simpa using h
     subst ho
     have ha : args.length = 2 := by
       unfold mayHd at hm1
       simp at hm1
       omega
     obtain ⟨a, b, rfl⟩ : ∃ a b, args = [a, b] := by
       match args, ha with
       | [a, b], _ => exact ⟨a, b, rfl⟩
     obtain ⟨op1, sub1, t1, v1, a1, e1, g1⟩ := arg_get (l := [a, b]) (i := 0) (by simp)
     obtain ⟨op2, sub2, t2, v2, a2, e2, g2⟩ := arg_get (l := [a, b]) (i := 1) (by simp)
     have e1 : a = .mk op1 sub1 t1 v1 a1 := e1
     have e2 : b = .mk op2 sub2 t2 v2 a2 := e2
     simp only [fitsL] at hfl
     simp only [sizeL] at hs hb
     simp only [mayL, Bool.and_eq_true] at hm2
     have l1 := partsE_len a
     have l2 := partsE_len b
     refine ⟨cellsL [a, b], rfl, by simp [cellsL], _, g1, rfl, op1, sub1, t1.k, t1.sc, v1.t.k, v1.t.sc, v1.nul, v1.n, v1.s, cellsL a1, rfl, cellsL [a, b], rfl, by simp [cellsL], _, g2, rfl, op2, sub2, t2.k, t2.sc, v2.t.k, v2.t.sc, v2.nul, v2.n, v2.s, cellsL a2, rfl, a, c, by rw [e1, cells_mk]; rfl, by omega, hfl.1, hm2.1, by omega, b, c, by rw [e2, cells_mk]; rfl, by omega, hfl.2.1, hm2.2.1, by omega,
       cellsL_all, rfl, rfl, ?_, ?_⟩
     · have : Nat.add (cellsL (partsE a)).length (cellsL (partsE b)).length = (partsE a).length + (partsE b).length := by rw [cellsL_len, cellsL_len]; rfl
       rw [this]; omega
     · rw [parts_and, cellsL_append]
       exact ⟨rfl, rfl⟩
def c_94g (a : List R) (K : KT) : Prop := match a with
 | [.agg x] => ∃ (e : EX) (c : Int), x = cells e ∧ fits e ∧ mayE c e = true ∧ size e ≤ 1000000000 ∧ K [.lst 28 10 (cellsL (partsE e))] []
 | _ => False
theorem c_94g_ok (a : List R) (K : KT) (h : c_94g a K) : Ct prog gl 22 a K := by
 unfold c_94g at h
 split at h
 · obtain ⟨e, c, rfl, h1, h2, h3, h4⟩ := h
   exact (ct94 _ e c (Nat.lt_succ_self _) h1 h2 h3).gives h4
 · exact h.elim
end Go.Proofs.Tryz
namespace Go.Proofs.Tryz
open Go Go.Dm Go.Ex
set_option maxRecDepth 100000
variable {gl : Nat → Option Obj}
def asE (e : EX) (a b : Ty) : EX := if a = b then e else .mk 16 0 b ⟨⟨0, 0⟩, false, 0, { data := { toList := [] : Array UInt8 } : ByteArray }⟩ [e]
theorem ty_eqb (a b : Ty) : (a.k == b.k && (a.sc == b.sc && true)) = decide (a = b) := by
 rcases a with ⟨x, y⟩; rcases b with ⟨z, w⟩
 by_cases h : x = z <;> by_cases h2 : y = w <;> simp [h, h2]
theorem vc93 (op sub : Int) (t : Ty) (v : Go.Ex.AV) (args : List EX) (a b : Ty) (Q : KT) : vc E_0 C_0 noI fi21 (f21.body.getD .skip) f21.results.toList [.agg (encX op sub t v (cellsL args)), .agg a.cs, .agg b.cs] Q = ( ((a.1 == b.1 && (a.2 == b.2 && true)) = true → Q [.agg [.i op, .i sub, .i t.1, .i t.2, .i v.1.1, .i v.1.2, .v (.bool v.2), .i v.3, .v (.string v.4), .sl (cellsL args)]] []) ∧ ((a.1 == b.1 && (a.2 == b.2 && true)) = false → Q [.agg [.i 16, .i 0, .i b.1, .i b.2, .i 0, .i 0, .v (.bool false), .i 0, .v (.string ⟨⟨[]⟩⟩), .sl [[.i op, .i sub, .i t.1, .i t.2, .i v.1.1, .i v.1.2, .v (.bool v.2), .i v.3, .v (.string v.4), .sl (cellsL args)]]]] [])) := by kernel_rfl
theorem vc97 (op sub : Int) (t : Ty) (v : Go.Ex.AV) (args : List EX) (a b : Ty) (Q : KT) : vc E_0 C_0 noI fi26 (f26.body.getD .skip) f26.results.toList [.agg (encX op sub t v (cellsL args)), .agg a.cs, .agg b.cs] Q = ( ((a.1 == b.1 && (a.2 == b.2 && true)) = true → Q [.agg [.i op, .i sub, .i t.1, .i t.2, .i v.1.1, .i v.1.2, .v (.bool v.2), .i v.3, .v (.string v.4), .sl (cellsL args)]] []) ∧ ((a.1 == b.1 && (a.2 == b.2 && true)) = false → Q [.agg [.i 16, .i 0, .i b.1, .i b.2, .i 0, .i 0, .v (.bool false), .i 0, .v (.string ⟨⟨[]⟩⟩), .sl [[.i op, .i sub, .i t.1, .i t.2, .i v.1.1, .i v.1.2, .v (.bool v.2), .i v.3, .v (.string v.4), .sl (cellsL args)]]]] [])) := by kernel_rfl
theorem ct93 (a b : Ty) : ∀ e : EX, Ct prog gl 21 [.agg (cells e), .agg a.cs, .agg b.cs] (gives [.agg (cells (asE e a b))])
 | .mk op sub t v args => by
   rw [cells_mk]
   refine ctv C_0_ok f21 fi21 ⟨_, _, rfl, rfl⟩ ?_
   rw [vc93, ty_eqb]
   refine ⟨fun h => ?_, fun h => ?_⟩
   · unfold asE
     rw [if_pos (of_decide_eq_true h), cells_mk]
     exact ⟨rfl, rfl⟩
   · unfold asE
     rw [if_neg (of_decide_eq_false h)]
     simp only [cells_mk, cells, cellsL]
     exact ⟨rfl, rfl⟩
def c_93 (a : List R) (K : KT) : Prop := match a with
 | [.agg x, .agg y, .agg z] => ∃ (e : EX) (a b : Ty), x = cells e ∧ y = a.cs ∧ z = b.cs ∧ ∀ (op sub : Int) (t : Ty) (v : Go.Ex.AV) (l : List EX), asE e a b = .mk op sub t v l → K [.agg (encX op sub t v (cellsL l))] []
 | _ => False
theorem c_93_ok (a : List R) (K : KT) (h : c_93 a K) : Ct prog gl 21 a K := by
 unfold c_93 at h
 split at h
 · obtain ⟨e, a, b, rfl, rfl, rfl, h1⟩ := h
   have hc := ct93 (gl := gl) a b e
   rcases hr : asE e a b with ⟨op, sub, t, v, l⟩
   rw [hr, cells_mk] at hc
   exact hc.gives (h1 _ _ _ _ _ hr)
 · exact h.elim
theorem ct97 (a b : Ty) : ∀ e : EX, Ct prog gl 26 [.agg (cells e), .agg a.cs, .agg b.cs] (gives [.agg (cells (asE e a b))])
 | .mk op sub t v args => by
   rw [cells_mk]
   refine ctv C_0_ok f26 fi26 ⟨_, _, rfl, rfl⟩ ?_
   rw [vc97, ty_eqb]
   refine ⟨fun h => ?_, fun h => ?_⟩
   · unfold asE
     rw [if_pos (of_decide_eq_true h), cells_mk]
     exact ⟨rfl, rfl⟩
   · unfold asE
     rw [if_neg (of_decide_eq_false h)]
     simp only [cells_mk, cells, cellsL]
     exact ⟨rfl, rfl⟩
def c_97 (a : List R) (K : KT) : Prop := match a with
 | [.agg x, .agg y, .agg z] => ∃ (e : EX) (a b : Ty), x = cells e ∧ y = a.cs ∧ z = b.cs ∧ ∀ (op sub : Int) (t : Ty) (v : Go.Ex.AV) (l : List EX), asE e a b = .mk op sub t v l → K [.agg (encX op sub t v (cellsL l))] []
 | _ => False
theorem c_97_ok (a : List R) (K : KT) (h : c_97 a K) : Ct prog gl 26 a K := by
 unfold c_97 at h
 split at h
 · obtain ⟨e, a, b, rfl, rfl, rfl, h1⟩ := h
   have hc := ct97 (gl := gl) a b e
   rcases hr : asE e a b with ⟨op, sub, t, v, l⟩
   rw [hr, cells_mk] at hc
   exact hc.gives (h1 _ _ _ _ _ hr)
 · exact h.elim
def colX (i : Nat) : EX := .mk 1 i ⟨0, 0⟩ ⟨⟨0, 0⟩, false, 0, { data := { toList := [] : Array UInt8 } : ByteArray }⟩ []
def colsX (n : Nat) : List EX := (List.range n).map colX
def coalX (n : Nat) : EX := .mk 15 0 ⟨0, 0⟩ ⟨⟨0, 0⟩, false, 0, { data := { toList := [] : Array UInt8 } : ByteArray }⟩ (colsX n)
def st_92 (s t : Ty) (x : Nat) : St := { tm := [(0, .d (.sl [s.cs, t.cs])), (2, .ref 2 0), (3, .d (.v (.bool false))), (4, .ref 4 0), (10, .d (.v (.int .i64 2))), (11, .d (.v (.int .i64 (x : Int))))], hp := [(2, .box [.d (.v (.int .i64 0)), .d (.v (.int .i64 0))]), (4, .box [.d (.v (.int .i64 15)), .d (.v (.int .i64 0)), .d (.v (.int .i64 0)), .d (.v (.int .i64 0)), .d (.v (.int .i64 0)), .d (.v (.int .i64 0)), .d (.v (.bool false)), .d (.v (.int .i64 0)), .d (.v (.string { data := { toList := [] : Array UInt8 } : ByteArray })), .own 200]), (200, .lst 28 10 (cellsL (colsX x)))], kn := [], gd := [] }
def inv_92 (m : Nat) (x : Nat) : Prop := x ≤ 2 ∧ m = 2 - x
def fx_92 (s t : Ty) : Fi := { fi19 with cv := [(3, [⟨some 4, 9, 200, 28, 10⟩])], lx := [(3, { X := Nat, sh := st_92 s t, P := fun _ => inv_92 })] }
def C_s92 : CallT := addC C_0 16 c_15
def Zcu (a0 a1 : Ty) (a2 : Nat) : St := { tm := [(0, .d (.sl [a0.cs, a1.cs])), (2, .ref 2 0), (3, .d (.v (.bool false))), (4, .ref 4 0), (10, .i 2), (11, .i (↑a2 : Int))], hp := [(2, .box [.i 0, .i 0]), (4, .box [.i 15, .i 0, .i 0, .i 0, .i 0, .i 0, .d (.v (.bool false)), .i 0, .d (.v (.string ⟨⟨[]⟩⟩)), .own 200]), (200, .lst 28 10 (cellsL (colsX a2)))], kn := [], gd := [] : St }
def Zeq (a0 : Nat) : List D := [.i 1, .i (↑a0 : Int), .i 0, .i 0, .i 0, .i 0, .v (.bool false), .i 0, .v (.string ⟨⟨[]⟩⟩), .sl []]
def Zef (a0 : EX) (a1 : List Ty) (k : Ty → Int → Prop) : Prop := fits a0 ∧ a1.length ≤ 8796093022208 ∧ ∀ (t : Ty) (f : Int), checkE a1 a0 = (t, f) → k t f
theorem vc92 (s t : Ty) (Q : KT) : vc E_0 C_s92 noI (fx_92 s t) (f19.body.getD .skip) f19.results.toList [.d (.sl [s.cs, t.cs])] Q = ( Zbt fun es => D.sl [s.cs, t.cs] = D.sl es ∧ ∃ (x0 : Nat), ({ tm := [(0, .d (.sl [s.cs, t.cs])), (2, .ref 2 0), (3, .d (.v (.bool false))), (4, .ref 4 0), (10, .i (↑es.length : Int)), (11, .i 0)], hp := [(2, .box [.i 0, .i 0]), (4, .box [.i 15, .i 0, .i 0, .i 0, .i 0, .i 0, .d (.v (.bool false)), .i 0, .d (.v (.string ⟨⟨[]⟩⟩)), .own 200]), (200, .lst 28 10 [])], kn := [], gd := [] : St } = (Zcu s t x0) ∧ ∃ (n : Nat), inv_92 n x0) ∧ ∀ (n : Nat) (x : Nat), inv_92 n x → (decide ((↑x : Int) < 2) = true → (∀ (c : List D), c ∈ [(Zeq x)] → c.length = 10) ∧ (28 : Nat) = (28 : Nat) ∧ (10 : Nat) = (10 : Nat) ∧ (↑(cellsL (colsX x)).length.succ : Int) * (↑(104 : Nat) : Int) ≤ 140737488355328 ∧ Zdq n fun m x' => { tm := [(0, .d (.sl [s.cs, t.cs])), (2, .ref 2 0), (3, .d (.v (.bool false))), (4, .ref 4 0), (10, .i 2), (11, .i (IntKind.i64.wrap ((↑x : Int) + 1)))], hp := [(2, .box [.i 0, .i 0]), (4, .box [.i 15, .i 0, .i 0, .i 0, .i 0, .i 0, .d (.v (.bool false)), .i 0, .d (.v (.string ⟨⟨[]⟩⟩)), .own 200]), (200, .lst 28 10 (cellsL (colsX x) ++ [(Zeq x)]))], kn := [], gd := [] : St } = (Zcu s t x') ∧ inv_92 m x') ∧ (decide ((↑x : Int) < 2) = false → ∃ (e : EX), ∃ (cols : List Ty), [D.i 15, D.i 0, D.i 0, D.i 0, D.i 0, D.i 0, D.v (.bool false), D.i 0, D.v (.string ⟨⟨[]⟩⟩), D.sl (cellsL (colsX x))] = cells e ∧ [s.cs, t.cs] = List.map Ty.cs cols ∧ Zef e cols fun t f => Q [.agg (Zde t), .d (.v (.bool (f == 0)))] [])) := by kernel_rfl
theorem colsX_next (x : Nat) : colsX (x + 1) = colsX x ++ [colX x] := by
 unfold colsX
 rw [List.range_succ, List.map_append]; rfl
theorem coalX_fits : fits (coalX 2) := by
 unfold coalX colsX
 have z : in64 0 := ⟨by decide, by decide⟩
 have o : in64 1 := ⟨by decide, by decide⟩
 simp only [List.range_succ, List.range_zero, List.nil_append, List.map_append, List.map_cons, List.map_nil, List.cons_append, colX, fits, fitsL]
 exact ⟨⟨⟨by decide, by decide⟩, z, z, z, z, z, z⟩, by decide, ⟨⟨o, z, z, z, z, z, z⟩, by decide, trivial⟩, ⟨⟨o, o, z, z, z, z, z⟩, by decide, trivial⟩, trivial⟩
theorem ct92 (s t : Ty) : Ct prog gl 19 [.d (.sl [s.cs, t.cs])] (gives [.agg (checkE [s, t] (coalX 2)).1.cs, .d (.v (.bool ((checkE [s, t] (coalX 2)).2 == 0)))]) := by
 have hC : CallsOk prog gl C_s92 := addC_ok C_0_ok c_15_ok
 refine ct_of_vc E_ok hC ioK_no it_ok mixed (fn := f19) (body := f19.body.getD .skip) (by kernel_rfl) (by kernel_rfl) (by kernel_rfl) (fi := fx_92 s t) (by kernel_rfl) (by kernel_rfl) ⟨_, _, rfl, rfl⟩ ?_
 rw [vc92]; dsimp -eta -iota -proj only [Zbt, Zcu, Zeq, Zdq, Zef, Zde]
 refine ⟨_, rfl, (0 : Nat), ⟨rfl, 2, Nat.zero_le _, rfl⟩, fun n (x : Nat) hx => ⟨fun hi => ?_, fun hi => ?_⟩⟩
 · obtain ⟨hx1, hx2⟩ := hx
   have hi := of_decide_eq_true hi
   refine ⟨fun c hc => by rw [List.mem_singleton.1 hc]; rfl, rfl, rfl, ?_, n - 1, x + 1, by omega, ?_, by omega, by omega⟩
   · rw [cellsL_len]
     have : (colsX x).length = x := by simp [colsX]
     rw [this]; omega
   · rw [wrap64_of (n := (x : Int) + 1) (by omega) (by omega), colsX_next, cellsL_append]
     simp only [cellsL, cells, colX]
     rfl
 · obtain ⟨hx1, hx2⟩ := hx
   have hi := of_decide_eq_false hi
   obtain rfl : x = 2 := by omega
   refine ⟨coalX 2, [s, t], by rw [coalX]; simp only [cells], rfl, coalX_fits, by simp, fun t' f h => ?_⟩
   rw [h]
   exact ⟨rfl, rfl⟩
theorem coal_check (s t : Ty) (hs : goodT s) (ht : goodT t) : ((checkE [s, t] (coalX 2)).2 == 0) = (cfold s [t]).2 ∧ ((cfold s [t]).2 = true → (checkE [s, t] (coalX 2)).1 = (cfold s [t]).1) := by
 have h1 : [s, t].any badT = false := by
   have a1 : badT s = false := by rw [bad_eq, s67_60, show s60_0 s.k s.sc = 0 from hs]; rfl
   have a2 : badT t = false := by rw [bad_eq, s67_60, show s60_0 t.k t.sc = 0 from ht]; rfl
   simp [a1, a2]
 have h2 : nodes (coalX 2) = 3 := by
   simp only [coalX, colsX, List.range_succ, List.range_zero, List.nil_append, List.map_append, List.map_cons, List.map_nil, List.cons_append, colX, nodes, nodesL]; rfl
 have h3 : deep (coalX 2) = 2 := by
   simp only [coalX, colsX, List.range_succ, List.range_zero, List.nil_append, List.map_append, List.map_cons, List.map_nil, List.cons_append, colX, deep, deepL]; rfl
 have h4 : mayE (([s, t] : List Ty).length : Int) (coalX 2) = true := by
   simp only [coalX, colsX, List.range_succ, List.range_zero, List.nil_append, List.map_append, List.map_cons, List.map_nil, List.cons_append, colX, mayE, mayL]; rfl
 have h5 : typedE [s, t] (coalX 2) = ((cfold s [t]).1, (cfold s [t]).2) := by
   simp only [coalX, colsX, List.range_succ, List.range_zero, List.nil_append, List.map_append, List.map_cons, List.map_nil, List.cons_append, colX, typedE, typedL, typedN]
   simp [resultsE]
 unfold checkE
 rw [h1, h2, h3, h4, h5]
 cases (cfold s [t]).2 <;> simp
def c_92 (a : List R) (K : KT) : Prop := match a with
 | [.d (.sl y)] => ∃ s t : Ty, y = [s.cs, t.cs] ∧ goodT s ∧ goodT t ∧ ∀ (u : Ty) (ok : Bool), ok = (cfold s [t]).2 → (ok = true → u = (cfold s [t]).1) → K [.agg u.cs, .d (.v (.bool ok))] []
 | _ => False
theorem c_92_ok (a : List R) (K : KT) (h : c_92 a K) : Ct prog gl 19 a K := by
 unfold c_92 at h
 split at h
 · obtain ⟨s, t, rfl, h1, h2, h3⟩ := h
   have hc := coal_check s t h1 h2
   exact (ct92 s t).gives (h3 _ _ hc.1 (fun h => hc.2 (by rw [← hc.1]; exact h)))
 · exact h.elim
def c_96s (a : List R) (K : KT) : Prop := match a with
 | [.d (.sl y)] => ∃ s t : Ty, y = [s.cs, t.cs] ∧ goodT s ∧ goodT t ∧ ∀ (u : Ty) (ok : Bool), ok = (cfold s [t]).2 → (ok = true → u = (cfold s [t]).1) → K [.agg u.cs, .d (.v (.bool ok))] []
 | _ => False
theorem c_96s_ok (a : List R) (K : KT) (h : c_96s a K) : Ct prog gl 24 a K := by
 unfold c_96s at h
 split at h
 · obtain ⟨s, t, rfl, h1, h2, h3⟩ := h
   have ha := com_agree s (good_iff.1 h1).2.2.1 [t]
   exact (ct96 s [t] (by simp)).gives (h3 _ _ ha.1 (fun h => ha.2 (by rw [← ha.1]; exact h)))
 · exact h.elim
end Go.Proofs.Tryz
namespace Go.Proofs.Tryz
open Go Go.Dm Go.Ex
set_option maxRecDepth 100000
variable {gl : Nat → Option Obj}
def E_9s : Env := { E_0 with con := true }
def c_178 (n : Nat) (a : List R) (K : KT) : Prop := match a with
 | [.agg x] => ∃ e : EX, x = cells e ∧ size e < n ∧ fits e ∧ size e ≤ 1000000000 ∧ ∀ L : List Int, L.Pairwise (· < ·) → (∀ y, y ∈ L ↔ y ∈ colsE e) → L.length ≤ size e → K [.d (.sl (intsD L))] []
 | _ => False
def C_f178 (n : Nat) : CallT := addC C_0 52 (c_178 n)
structure CLX where
 i : Nat
 all : List Int
def st_178a (op sub : Int) (t : Ty) (v : Go.Ex.AV) (args : List EX) (x : CLX) : St := { tm := [(1, .ref 1 0), (2, .nil), (3, .own 14), (4, .d (.v (.int .i64 (x.i : Int))))], hp := [(1, .box [.d (.v (.int .i64 op)), .d (.v (.int .i64 sub)), .d (.v (.int .i64 t.k)), .d (.v (.int .i64 t.sc)), .d (.v (.int .i64 v.t.k)), .d (.v (.int .i64 v.t.sc)), .d (.v (.bool v.nul)), .d (.v (.int .i64 v.n)), .d (.v (.string v.s)), .d (.sl (cellsL args))]), (14, .lst 3 1 (intsD x.all))], kn := [], gd := [] }
def inv_178a (op sub : Int) (args : List EX) (m : Nat) (x : CLX) : Prop := x.i ≤ args.length ∧ m = args.length - x.i ∧ (∀ y, y ∈ x.all ↔ (op = 1 ∧ y = sub) ∨ y ∈ colsL (args.take x.i)) ∧ x.all.length ≤ sizeL (args.take x.i) + 1
structure CBX where
 all : List Int
 i : Nat
 out : List Int
 k : Nat
def st_178b (op sub : Int) (t : Ty) (v : Go.Ex.AV) (args : List EX) (x : CBX) : St := { tm := [(2, .nil), (3, .own 14), (5, .d (.sl (intsD x.out))), (6, .d (.v (.int .i64 (x.i : Int))))], hp := [(1, .box [.d (.v (.int .i64 op)), .d (.v (.int .i64 sub)), .d (.v (.int .i64 t.k)), .d (.v (.int .i64 t.sc)), .d (.v (.int .i64 v.t.k)), .d (.v (.int .i64 v.t.sc)), .d (.v (.bool v.nul)), .d (.v (.int .i64 v.n)), .d (.v (.string v.s)), .d (.sl (cellsL args))]), (14, .lst 3 1 (intsD x.all))], kn := [], gd := [] }
def inv_178b (y0 : CBX) (m : Nat) (y : CBX) : Prop := y.all = y0.all ∧ y.i ≤ y.all.length ∧ m = y.all.length - y.i ∧ y.out.Pairwise (· < ·) ∧ (∀ z, z ∈ y.out ↔ z ∈ y.all.take y.i) ∧ y.out.length ≤ y.i
def st_178c (op sub : Int) (t : Ty) (v : Go.Ex.AV) (args : List EX) (x : CBX) : St := { tm := [(2, .nil), (3, .own 14), (5, .d (.sl (intsD x.out))), (6, .d (.v (.int .i64 (x.i : Int)))), (7, .d (.v (.int .i64 (x.k : Int)))), (33, .d (.v (.bool (decide ((x.i : Int) < ((intsD x.all).length : Int))))))], hp := [(1, .box [.d (.v (.int .i64 op)), .d (.v (.int .i64 sub)), .d (.v (.int .i64 t.k)), .d (.v (.int .i64 t.sc)), .d (.v (.int .i64 v.t.k)), .d (.v (.int .i64 v.t.sc)), .d (.v (.bool v.nul)), .d (.v (.int .i64 v.n)), .d (.v (.string v.s)), .d (.sl (cellsL args))]), (14, .lst 3 1 (intsD x.all))], kn := [], gd := [] }
def inv_178c (y0 : CBX) (m : Nat) (y : CBX) : Prop := y.all = y0.all ∧ y.i = y0.i ∧ y.out = y0.out ∧ y.k ≤ y.out.length ∧ m = y.out.length - y.k ∧ ∀ z ∈ y.out.take y.k, z < y.all.getD y.i 0
def Zcd (a0 : CLX) (a1 a2 : Int) (a3 : Ty) (a4 : Go.Ex.AV) (a5 : List EX) : St := { tm := [(1, .ref 1 0), (2, .nil), (3, .own 14), (4, .i (↑a0.1 : Int))], hp := [(1, .box [.i a1, .i a2, .i a3.1, .i a3.2, .i a4.1.1, .i a4.1.2, .d (.v (.bool a4.2)), .i a4.3, .d (.v (.string a4.4)), .d (.sl (cellsL a5))]), (14, .lst 3 1 (intsD a0.2))], kn := [], gd := [] : St }
def Zeu (a0 : List Int) (k : (List (List D)) → Prop) : Prop := Zbt fun es => D.sl (intsD a0) = D.sl es ∧ k es
def Ze9 (a0 : EX) (k : (List Int) → (List (List D)) → Prop) : Prop := size a0 ≤ (1000000000 : Nat) ∧ ∀ (L : List Int), List.Pairwise (fun (x1 x2 : Int) => x1 < x2) L → (∀ (y : Int), y ∈ L ↔ y ∈ colsE a0) → L.length ≤ size a0 → Zeu L fun es => k L es
def Zbr (a0 : CBX) (a1 a2 : Int) (a3 : Ty) (a4 : Go.Ex.AV) (a5 : List EX) : St := { tm := [(2, .nil), (3, .own 14), (5, .d (.sl (intsD a0.3))), (6, .i (↑a0.2 : Int))], hp := [(1, .box [.i a1, .i a2, .i a3.1, .i a3.2, .i a4.1.1, .i a4.1.2, .d (.v (.bool a4.2)), .i a4.3, .d (.v (.string a4.4)), .d (.sl (cellsL a5))]), (14, .lst 3 1 (intsD a0.1))], kn := [], gd := [] : St }
def Zcz (a0 : CBX) (a1 a2 : Int) (a3 : Ty) (a4 : Go.Ex.AV) (a5 : List EX) : St := { tm := [(2, .nil), (3, .own 14), (5, .d (.sl (intsD a0.3))), (6, .i (↑a0.2 : Int)), (7, .i (↑a0.4 : Int)), (33, .d (.v (.bool (decide ((↑a0.i : Int) < (↑(intsD a0.all).length : Int))))))], hp := [(1, .box [.i a1, .i a2, .i a3.1, .i a3.2, .i a4.1.1, .i a4.1.2, .d (.v (.bool a4.2)), .i a4.3, .d (.v (.string a4.4)), .d (.sl (cellsL a5))]), (14, .lst 3 1 (intsD a0.1))], kn := [], gd := [] : St }
def Zfs (a0 : CBX) (k : (List (List D)) → Prop) : Prop := Zbt fun es => D.sl (intsD a0.3) = D.sl es ∧ k es
def Ze4 (a0 : CBX) (k : Int → Prop) : Prop := (0 ≤ (↑a0.2 : Int) ∧ (↑a0.2 : Int) < (↑(intsD a0.1).length : Int)) ∧ (1 : Nat) = (1 : Nat) ∧ ∃ (cells : List D), (intsD a0.1)[(↑a0.2 : Int).toNat]? = some cells ∧ Zds cells fun n_4 => k n_4
def Zc4 (a0 : CBX) (k : Int → Int → Prop) : Prop := Zfs a0 fun es => (0 ≤ (↑a0.4 : Int) ∧ (↑a0.4 : Int) < (↑es.length : Int)) ∧ ∃ (cells : List D), es[(↑a0.4 : Int).toNat]? = some cells ∧ Zf0 cells (1 : Nat) fun n_3 => Ze4 a0 fun n_4 => k n_3 n_4
def Zbu (a0 : Nat) (a1 : CBX) (a2 a3 : Int) (a4 : Ty) (a5 : Go.Ex.AV) (a6 : List EX) (a7 : CBX) : Prop := ∃ (m : Nat), ∃ (x' : CBX), m < a0 ∧ { tm := [(2, .nil), (3, .own 14), (5, .d (.sl (intsD a1.3))), (6, .i (↑a1.2 : Int)), (7, .i (IntKind.i64.wrap ((↑a1.4 : Int) + 1))), (33, .d (.v (.bool (decide ((↑a1.i : Int) < (↑(intsD a1.all).length : Int))))))], hp := [(1, .box [.i a2, .i a3, .i a4.1, .i a4.2, .i a5.1.1, .i a5.1.2, .d (.v (.bool a5.2)), .i a5.3, .d (.v (.string a5.4)), .d (.sl (cellsL a6))]), (14, .lst 3 1 (intsD a1.1))], kn := [], gd := [] : St } = (Zcz x' a2 a3 a4 a5 a6) ∧ inv_178c a7 m x'
def Z5 (a0 : CBX) (a1 : Nat) (a2 a3 : Int) (a4 : Ty) (a5 : Go.Ex.AV) (a6 : List EX) (a7 : CBX) : Prop := Zfs a0 fun es => ∃ (l h : Nat), l = (0 : Nat) ∧ V.i (↑a0.4 : Int) = V.i (↑h : Int) ∧ l ≤ h ∧ h ≤ es.length ∧ Ze7 es (1 : Nat) (Zbt fun es_1 => D.sl (List.drop l (List.take h es)) = D.sl es_1 ∧ Ze7 es_1 (1 : Nat) ((↑es_1.length : Int) * (↑(8 : Nat) : Int) ≤ 140737488355328 ∧ Ze4 a0 fun n_7 => Zfs a0 fun es => ∃ (l h : Nat), V.i (↑a0.4 : Int) = V.i (↑l : Int) ∧ h = es.length ∧ l ≤ h ∧ h ≤ es.length ∧ Ze7 es (1 : Nat) ((∀ (c : List D), c ∈ [[D.i n_7]] → c.length = 1) ∧ (3 : Nat) = (3 : Nat) ∧ (1 : Nat) = (1 : Nat) ∧ (↑es_1.length.succ : Int) * (↑(8 : Nat) : Int) ≤ 140737488355328 ∧ Zbt fun es_2 => D.sl (List.drop l (List.take h es)) = D.sl es_2 ∧ Ze7 es_2 (1 : Nat) ((3 : Nat) = (3 : Nat) ∧ (1 : Nat) = (1 : Nat) ∧ (↑((es_1 ++ [[D.i n_7]]).length.add es_2.length) : Int) * (↑(8 : Nat) : Int) ≤ 140737488355328 ∧ ∃ (m : Nat), ∃ (x' : CBX), m < a1 ∧ { tm := [(2, .nil), (3, .own 14), (5, .d (.sl (es_1 ++ [[.i n_7]] ++ es_2))), (6, .i (IntKind.i64.wrap ((↑a0.2 : Int) + 1)))], hp := [(1, .box [.i a2, .i a3, .i a4.1, .i a4.2, .i a5.1.1, .i a5.1.2, .d (.v (.bool a5.2)), .i a5.3, .d (.v (.string a5.4)), .d (.sl (cellsL a6))]), (14, .lst 3 1 (intsD a0.1))], kn := [], gd := [] : St } = (Zbr x' a2 a3 a4 a5 a6) ∧ inv_178b a7 m x'))))
def Zb4 (a0 : Nat) (a1 : CBX) (a2 a3 : Int) (a4 : Ty) (a5 : Go.Ex.AV) (a6 : List EX) (a7 : CBX) : Prop := ∃ (m : Nat), ∃ (x' : CBX), m < a0 ∧ { tm := [(2, .nil), (3, .own 14), (5, .d (.sl (intsD a1.3))), (6, .i (IntKind.i64.wrap ((↑a1.2 : Int) + 1)))], hp := [(1, .box [.i a2, .i a3, .i a4.1, .i a4.2, .i a5.1.1, .i a5.1.2, .d (.v (.bool a5.2)), .i a5.3, .d (.v (.string a5.4)), .d (.sl (cellsL a6))]), (14, .lst 3 1 (intsD a1.1))], kn := [], gd := [] : St } = (Zbr x' a2 a3 a4 a5 a6) ∧ inv_178b a7 m x'
def Zr (a0 : CBX) (a1 : Nat) (a2 a3 : Int) (a4 : Ty) (a5 : Go.Ex.AV) (a6 : List EX) (a7 : CBX) : Prop := Zfs a0 fun es => (((↑a0.4 : Int) == (↑es.length : Int)) = false → Zc4 a0 fun n_5 n_6 => ((n_5 != n_6) = true → Z5 a0 a1 a2 a3 a4 a5 a6 a7) ∧ ((n_5 != n_6) = false → Zb4 a1 a0 a2 a3 a4 a5 a6 a7)) ∧ (((↑a0.4 : Int) == (↑es.length : Int)) = !false → (true = true → Z5 a0 a1 a2 a3 a4 a5 a6 a7) ∧ (true = false → Zb4 a1 a0 a2 a3 a4 a5 a6 a7))
def Zh (a0 a1 : Int) (a2 : List EX) (a3 : Nat) (a4 : Ty) (a5 : Go.Ex.AV) (a6 : KT) : Prop := ∀ (n_1 : Nat) (x : CLX), inv_178a a0 a1 a2 n_1 x → Zby a2 fun es => (decide ((↑x.1 : Int) < (↑es.length : Int)) = true → Zby a2 fun es => (0 ≤ (↑x.1 : Int) ∧ (↑x.1 : Int) < (↑es.length : Int)) ∧ ∃ (cells : List D), es[(↑x.1 : Int).toNat]? = some cells ∧ Zbo cells fun n_2 n_3 n_4 n_5 n_6 n_7 b n_8 b_1 es e => Zep n_2 n_3 n_4 n_5 n_6 n_7 b n_8 b_1 es e a3 (Ze9 e fun _ es => Ze7 es (1 : Nat) ((3 : Nat) = (3 : Nat) ∧ (1 : Nat) = (1 : Nat) ∧ (↑((intsD x.2).length.add es.length) : Int) * (↑(8 : Nat) : Int) ≤ 140737488355328 ∧ ∃ (m : Nat), ∃ (x' : CLX), m < n_1 ∧ { tm := [(1, .ref 1 0), (2, .nil), (3, .own 14), (4, .i (IntKind.i64.wrap ((↑x.1 : Int) + 1)))], hp := [(1, .box [.i a0, .i a1, .i a4.1, .i a4.2, .i a5.1.1, .i a5.1.2, .d (.v (.bool a5.2)), .i a5.3, .d (.v (.string a5.4)), .d (.sl (cellsL a2))]), (14, .lst 3 1 (intsD x.2 ++ es))], kn := [], gd := [] : St } = (Zcd x' a0 a1 a4 a5 a2) ∧ inv_178a a0 a1 a2 m x'))) ∧ (decide ((↑x.1 : Int) < (↑es.length : Int)) = false → ∃ (x0 : CBX), ({ tm := [(2, .nil), (3, .own 14), (5, .d (.sl [])), (6, .i 0)], hp := [(1, .box [.i a0, .i a1, .i a4.1, .i a4.2, .i a5.1.1, .i a5.1.2, .d (.v (.bool a5.2)), .i a5.3, .d (.v (.string a5.4)), .d (.sl (cellsL a2))]), (14, .lst 3 1 (intsD x.2))], kn := [], gd := [] : St } = (Zbr x0 a0 a1 a4 a5 a2) ∧ ∃ (n : Nat), inv_178b x0 n x0) ∧ ∀ (n : Nat) (x : CBX), inv_178b x0 n x → (decide ((↑x.2 : Int) < (↑(intsD x.1).length : Int)) = true → ∃ (x0_1 : CBX), ({ tm := [(2, .nil), (3, .own 14), (5, .d (.sl (intsD x.3))), (6, .i (↑x.2 : Int)), (7, .i 0), (33, .d (.v (.bool (decide ((↑x.2 : Int) < (↑(intsD x.1).length : Int))))))], hp := [(1, .box [.i a0, .i a1, .i a4.1, .i a4.2, .i a5.1.1, .i a5.1.2, .d (.v (.bool a5.2)), .i a5.3, .d (.v (.string a5.4)), .d (.sl (cellsL a2))]), (14, .lst 3 1 (intsD x.1))], kn := [], gd := [] : St } = (Zcz x0_1 a0 a1 a4 a5 a2) ∧ ∃ (n : Nat), inv_178c x0_1 n x0_1) ∧ ∀ (n_2 : Nat) (x : CBX), inv_178c x0_1 n_2 x → Zfs x fun es => (decide ((↑x.4 : Int) < (↑es.length : Int)) = true → Zc4 x fun n_3 n_4 => (decide (n_3 < n_4) = true → Zbu n_2 x a0 a1 a4 a5 a2 x0_1) ∧ (decide (n_3 < n_4) = false → Zr x n a0 a1 a4 a5 a2 x0)) ∧ (decide ((↑x.4 : Int) < (↑es.length : Int)) = !true → (false = true → Zbu n_2 x a0 a1 a4 a5 a2 x0_1) ∧ (false = false → Zr x n a0 a1 a4 a5 a2 x0))) ∧ (decide ((↑x.2 : Int) < (↑(intsD x.1).length : Int)) = false → a6 [.d (.sl (intsD x.3))] []))
theorem vc178 (n : Nat) (op sub : Int) (t : Ty) (v : Go.Ex.AV) (args : List EX) (Q : KT) : vc E_9s (C_f178 n) noI { fi52 with lp := [(5, ([1, 2, 3, 4], [28, 29])), (10, ([2, 3, 5, 6], [77, 78, 82])), (13, ([2, 3, 5, 6, 7, 30, 31, 32, 33], []))], lx := [(5, { X := CLX, sh := st_178a op sub t v args, P := fun _ => inv_178a op sub args }), (10, { X := CBX, sh := st_178b op sub t v args, P := inv_178b }), (13, { X := CBX, sh := st_178c op sub t v args, P := inv_178c })], cv := [(5, [⟨none, 3, 14, 3, 1⟩]), (10, [⟨none, 5, 50005, 3, 1⟩, ⟨none, 0, 50005, 0, 0⟩, ⟨none, 0, 71, 0, 0⟩])] } (f52.body.getD .skip) f52.results.toList [.agg (encX op sub t v (cellsL args))] Q = ( ((op == 1) = true → ∃ (x0 : CLX), ({ tm := [(1, .ref 1 0), (2, .nil), (3, .own 14), (4, .i 0)], hp := [(1, .box [.i op, .i sub, .i t.1, .i t.2, .i v.1.1, .i v.1.2, .d (.v (.bool v.2)), .i v.3, .d (.v (.string v.4)), .d (.sl (cellsL args))]), (14, .lst 3 1 [[.i sub]])], kn := [], gd := [] : St } = (Zcd x0 op sub t v args) ∧ ∃ (n : Nat), inv_178a op sub args n x0) ∧ Zh op sub args n t v Q) ∧ ((op == 1) = false → ∃ (x0 : CLX), ({ tm := [(1, .ref 1 0), (2, .nil), (3, .own 14), (4, .i 0)], hp := [(1, .box [.i op, .i sub, .i t.1, .i t.2, .i v.1.1, .i v.1.2, .d (.v (.bool v.2)), .i v.3, .d (.v (.string v.4)), .d (.sl (cellsL args))]), (14, .lst 3 1 [])], kn := [], gd := [] : St } = (Zcd x0 op sub t v args) ∧ ∃ (n : Nat), inv_178a op sub args n x0) ∧ Zh op sub args n t v Q)) := by kernel_rfl
theorem sizeL_snoc (l : List EX) (e : EX) : sizeL (l ++ [e]) = sizeL l + size e := by
 induction l with
 | nil => simp [sizeL]
 | cons a r ih => simp only [List.cons_append, sizeL, ih]; omega
theorem sizeL_take (l : List EX) (i : Nat) : sizeL (l.take i) ≤ sizeL l := by
 induction l generalizing i with
 | nil => simp [sizeL]
 | cons a r ih =>
   cases i with
   | zero => simp [sizeL]
   | succ i => simp only [List.take_succ_cons, sizeL]; have := ih i; omega
theorem ints_all (l : List Int) : ∀ c ∈ intsD l, c.length = 1 := by
 intro c hc
 obtain ⟨x, _, rfl⟩ := List.mem_map.1 hc
 rfl
theorem ints_get {l : List Int} {i : Nat} (h : i < l.length) : (intsD l)[((i : Nat) : Int).toNat]? = some [D.v (.int .i64 l[i])] := by
 rw [Int.toNat_natCast, List.getElem?_map, List.getElem?_eq_getElem h]; rfl
theorem ints_take (l : List Int) (k : Nat) : List.drop 0 (List.take k (intsD l)) = intsD (l.take k) := by simp [List.map_take]
theorem ints_drop (l : List Int) (k : Nat) : List.drop k (List.take (intsD l).length (intsD l)) = intsD (l.drop k) := by rw [List.take_length]; exact List.map_drop.symm
theorem ins_pw {out : List Int} {k : Nat} {v : Int} (hp : out.Pairwise (· < ·)) (h1 : ∀ z ∈ out.take k, z < v) (h2 : ∀ z ∈ out.drop k, v < z) : (out.take k ++ [v] ++ out.drop k).Pairwise (· < ·) := by
 rw [← List.take_append_drop k out, List.pairwise_append] at hp
 obtain ⟨p1, p2, p3⟩ := hp
 rw [List.append_assoc, List.pairwise_append]
 refine ⟨p1, ?_, fun a ha b hb => ?_⟩
 · rw [List.singleton_append, List.pairwise_cons]
   exact ⟨h2, p2⟩
 · rw [List.singleton_append] at hb
   rcases List.mem_cons.1 hb with rfl | hb
   · exact h1 a ha
   · exact p3 a ha b hb
theorem drop_gt {out : List Int} {k : Nat} {v : Int} (hp : out.Pairwise (· < ·)) (hk : k < out.length) (h : v < out[k]) : ∀ z ∈ out.drop k, v < z := by
 intro z hz
 rw [List.drop_eq_getElem_cons hk] at hz
 have hp2 := hp.drop (i := k)
 rw [List.drop_eq_getElem_cons hk, List.pairwise_cons] at hp2
 rcases List.mem_cons.1 hz with rfl | hz
 · exact h
 · have := hp2.1 z hz; omega
theorem inv_ins {y0 y : CBX} {m : Nat} (hy : inv_178b y0 m y) (hi : y.i < y.all.length) {k : Nat} (hk : k ≤ y.out.length) (h1 : ∀ z ∈ y.out.take k, z < y.all[y.i]) (h2 : ∀ z ∈ y.out.drop k, y.all[y.i] < z) :
   inv_178b y0 (m - 1) ⟨y.all, y.i + 1, y.out.take k ++ [y.all[y.i]] ++ y.out.drop k, 0⟩ := by
 obtain ⟨a1, a2, a3, a4, a5, a6⟩ := hy
 refine ⟨a1, hi, by show m - 1 = y.all.length - (y.i + 1); omega, ins_pw a4 h1 h2, fun z => ?_, ?_⟩
 · show z ∈ y.out.take k ++ [y.all[y.i]] ++ y.out.drop k ↔ z ∈ y.all.take (y.i + 1)
   rw [List.take_succ_eq_append_getElem hi]
   have := a5 z
   rw [← List.take_append_drop k y.out] at this
   simp only [List.mem_append, List.mem_singleton] at this ⊢
   rw [← this]
   constructor
   · rintro ((h | h) | h)
     · exact .inl (.inl h)
     · exact .inr h
     · exact .inl (.inr h)
   · rintro ((h | h) | h)
     · exact .inl (.inl h)
     · exact .inr h
     · exact .inl (.inr h)
 · show (y.out.take k ++ [y.all[y.i]] ++ y.out.drop k).length ≤ y.i + 1
   simp only [List.length_append, List.length_take, List.length_drop, List.length_singleton]
   omega
theorem inv_same {y0 y : CBX} {m : Nat} (hy : inv_178b y0 m y) (hi : y.i < y.all.length) (h : y.all[y.i] ∈ y.out) : inv_178b y0 (m - 1) ⟨y.all, y.i + 1, y.out, 0⟩ := by
 obtain ⟨a1, a2, a3, a4, a5, a6⟩ := hy
 refine ⟨a1, hi, by show m - 1 = y.all.length - (y.i + 1); omega, a4, fun z => ?_, by show y.out.length ≤ y.i + 1; omega⟩
 show z ∈ y.out ↔ z ∈ y.all.take (y.i + 1)
 rw [List.take_succ_eq_append_getElem hi, List.mem_append, List.mem_singleton, ← a5 z]
 exact ⟨.inl, fun h' => h'.elim id (fun e => e ▸ h)⟩
theorem sorted_ex : ∀ l : List Int, ∃ L : List Int, L.Pairwise (· < ·) ∧ (∀ y, y ∈ L ↔ y ∈ l) ∧ L.length ≤ l.length
 | [] => ⟨[], .nil, fun _ => Iff.rfl, Nat.le_refl _⟩
 | v :: r => by
   obtain ⟨L, h1, h2, h3⟩ := sorted_ex r
   by_cases hv : v ∈ L
   · refine ⟨L, h1, fun y => ?_, by simp only [List.length_cons]; omega⟩
     rw [List.mem_cons, ← h2 y]
     exact ⟨.inr, fun h => h.elim (fun e => e ▸ hv) id⟩
   · refine ⟨L.filter (fun z => decide (z < v)) ++ [v] ++ L.filter (fun z => decide (v < z)), ?_, fun y => ?_, ?_⟩
     · rw [List.append_assoc, List.pairwise_append]
       refine ⟨h1.filter _, ?_, fun a ha b hb => ?_⟩
       · rw [List.singleton_append, List.pairwise_cons]
         exact ⟨fun b hb => by simpa using (List.mem_filter.1 hb).2, h1.filter _⟩
       · have ha : a < v := by simpa using (List.mem_filter.1 ha).2
         rw [List.singleton_append] at hb
         rcases List.mem_cons.1 hb with rfl | hb
         · exact ha
         · have : v < b := by simpa using (List.mem_filter.1 hb).2
           omega
     · rw [List.mem_cons, ← h2 y]
       simp only [List.mem_append, List.mem_filter, List.mem_singleton, decide_eq_true_eq]
       constructor
       · rintro ((⟨h, _⟩ | h) | ⟨h, _⟩)
         · exact .inr h
         · exact .inl h
         · exact .inr h
       · rintro (h | h)
         · exact .inl (.inr h)
         · by_cases e : y < v
           · exact .inl (.inl ⟨h, e⟩)
           · have : y ≠ v := fun e2 => hv (e2 ▸ h)
             exact .inr ⟨h, by omega⟩
     · have a1 := List.length_filter_le (fun z => decide (z < v)) L
       have key : (L.filter (fun z => decide (z < v))).length + (L.filter (fun z => decide (v < z))).length ≤ L.length := by
         clear h1 h2 h3 hv a1
         induction L with
         | nil => simp
         | cons a t ih =>
           simp only [List.filter_cons, List.length_cons]
           by_cases e1 : a < v
           · have e2 : ¬ v < a := by omega
             simp only [e1, e2, decide_true, decide_false, if_true, Bool.false_eq_true, if_false, List.length_cons]; omega
           · by_cases e2 : v < a
             · simp only [e1, e2, decide_true, decide_false, if_true, Bool.false_eq_true, if_false, List.length_cons]; omega
             · simp only [e1, e2, decide_false, Bool.false_eq_true, if_false]; omega
       have e0 : ([v] : List Int).length = 1 := rfl
       rw [List.length_append, List.length_append, e0, List.length_cons]
       omega
mutual
theorem colsE_len : ∀ e : EX, (colsE e).length ≤ size e
 | .mk op sub t v args => by
   have := colsL_len args
   simp only [colsE, size, List.length_append]
   split <;> simp <;> omega
theorem colsL_len : ∀ l : List EX, (colsL l).length ≤ sizeL l
 | [] => by simp [colsL]
 | e :: r => by
   have := colsE_len e; have := colsL_len r
   simp only [colsL, sizeL, List.length_append]; omega
end
theorem ct178 : ∀ (n : Nat) (e : EX), size e < n → fits e → size e ≤ 1000000000 → Ct prog gl 52 [.agg (cells e)] (fun res fin => fin = [] ∧ ∃ L : List Int, L.Pairwise (· < ·) ∧ (∀ y, y ∈ L ↔ y ∈ colsE e) ∧ L.length ≤ size e ∧ res = [.d (.sl (intsD L))])
 | 0, _, h, _, _ => absurd h (Nat.not_lt_zero _)
 | n + 1, .mk op sub t v args, hs, hf, hb => by
   have hC : CallsOk prog gl (C_f178 n) := addC_ok C_0_ok (fun a K hk => by
     unfold c_178 at hk
     split at hk
     · obtain ⟨e, rfl, h1, h2, h3, h4⟩ := hk
       exact (ct178 n e h1 h2 h3).mono fun r f ⟨e1, L, e2, e3, e4, e5⟩ => by subst e1; subst e5; exact h4 L e2 e3 e4
     · exact hk.elim)
   rw [cells_mk]
   obtain ⟨_, hl, hfl⟩ := fits_mk hf
   simp only [size] at hs hb
   have hcE : colsE (.mk op sub t v args) = (if op = 1 then [sub] else []) ++ colsL args := rfl
   refine ct_of_vc (E := E_9s) ⟨E_ok.te⟩ hC ioK_no (fun _ _ _ h => h.elim) mixed (fn := f52) (body := f52.body.getD .skip) (by kernel_rfl) (by kernel_rfl) (by kernel_rfl) (fi := { fi52 with lp := [(5, ([1, 2, 3, 4], [28, 29])), (10, ([2, 3, 5, 6], [77, 78, 82])), (13, ([2, 3, 5, 6, 7, 30, 31, 32, 33], []))], lx := [(5, { X := CLX, sh := st_178a op sub t v args, P := fun _ => inv_178a op sub args }), (10, { X := CBX, sh := st_178b op sub t v args, P := inv_178b }), (13, { X := CBX, sh := st_178c op sub t v args, P := inv_178c })], cv := [(5, [⟨none, 3, 14, 3, 1⟩]), (10, [⟨none, 5, 50005, 3, 1⟩, ⟨none, 0, 50005, 0, 0⟩, ⟨none, 0, 71, 0, 0⟩])] }) (by kernel_rfl) (by kernel_rfl) (by
     obtain ⟨L, l1, l2, l3⟩ := sorted_ex (colsE (.mk op sub t v args))
     exact ⟨_, _, rfl, L, l1, l2, Nat.le_trans l3 (colsE_len _), rfl⟩) ?_
   rw [vc178]; dsimp -eta -iota -proj only [Zcd, Zh, Zby, Zbt, Zbo, Zk, Z1, Zep, Z4, Ze9, Zeu, Ze7, Zee, Zbr, Zcz, Zfs, Zc4, Zf0, Zds, Ze4, Zbu, Zr, Z5, Zb4]
   refine ⟨fun ho => ⟨⟨0, [sub]⟩, ⟨rfl, args.length, ?a⟩, fun m x hx => ?b⟩, fun ho => ⟨⟨0, []⟩, ⟨rfl, args.length, ?c⟩, fun m x hx => ?d⟩⟩
   case a =>
     have ho : op = 1 := by simpa using ho
     exact ⟨Nat.zero_le _, rfl, fun y => by simp [ho, colsL], by simp [sizeL]⟩
   case c =>
     have ho : op ≠ 1 := by simpa using ho
     exact ⟨Nat.zero_le _, rfl, fun y => by simp [ho, colsL], by simp [sizeL]⟩
   all_goals
     obtain ⟨hx1, hx2, hx3, hx4⟩ := hx
     have htk := sizeL_take args x.i
     refine ⟨_, rfl, fun hi => ?_, fun hi => ?_⟩
     · have hi := of_decide_eq_true hi
       rw [cellsL_len] at hi
       have hlt : x.i < args.length := by omega
       obtain ⟨o1, s1, t1, v1, a1, e1, g1⟩ := arg_get hlt
       have hsm := size_mem (List.getElem_mem hlt)
       have htn : args.take (x.i + 1) = args.take x.i ++ [args[x.i]] := List.take_succ_eq_append_getElem hlt
       refine ⟨_, rfl, ⟨by omega, by rw [cellsL_len]; omega⟩, _, g1, rfl, o1, s1, t1.k, t1.sc, v1.t.k, v1.t.sc, v1.nul, v1.n, v1.s, cellsL a1, rfl, args[x.i], by rw [e1, cells_mk]; rfl, by omega, fitsL_mem hfl (List.getElem_mem hlt), by omega, fun L h1 h2 h3 => ⟨_, rfl, ints_all L, rfl, rfl, ?_, m - 1, ⟨x.i + 1, x.all ++ L⟩, by omega, ?_, ?_⟩⟩
       · have : Nat.add (intsD x.all).length (intsD L).length = x.all.length + L.length := by rw [List.length_map, List.length_map]; rfl
         rw [this]; omega
       · rw [wrap64_of (n := (x.i : Int) + 1) (by omega) (by omega)]
         show _ = St.mk _ _ _ _ _
         rw [show intsD (x.all ++ L) = intsD x.all ++ intsD L from List.map_append]
         rfl
       · refine ⟨hlt, by show m - 1 = args.length - (x.i + 1); omega, fun y => ?_, ?_⟩
         · show y ∈ x.all ++ L ↔ _
           rw [List.mem_append, hx3 y, h2 y, htn, colsL_append]
           simp [colsL, or_assoc]
         · show (x.all ++ L).length ≤ sizeL (args.take (x.i + 1)) + 1
           rw [htn, sizeL_snoc, List.length_append]; omega
     · have hi := of_decide_eq_false hi
       rw [cellsL_len] at hi
       have hxe : x.i = args.length := by omega
       rw [hxe, List.take_length] at hx3 hx4
       refine ⟨⟨x.all, 0, [], 0⟩, ⟨rfl, x.all.length, rfl, Nat.zero_le _, rfl, .nil, fun z => by simp, Nat.zero_le _⟩, fun p y hy => ⟨fun hj => ?_, fun hj => ?_⟩⟩
       · obtain ⟨b1, b2, b3, b4, b5, b6⟩ := hy
         have hj := of_decide_eq_true hj
         rw [List.length_map] at hj
         have hjl : y.i < y.all.length := by omega
         have hall : y.all.length ≤ 1000000001 := by rw [b1]; show x.all.length ≤ _; omega
         have hy : inv_178b ⟨x.all, 0, [], 0⟩ p y := ⟨b1, b2, b3, b4, b5, b6⟩
         refine ⟨⟨y.all, y.i, y.out, 0⟩, ⟨rfl, y.out.length, rfl, rfl, rfl, Nat.zero_le _, rfl, fun z hz => by simp at hz⟩, fun q z hz => ?_⟩
         obtain ⟨c1, c2, c3, c4, c5, c6⟩ := hz
         rcases z with ⟨za, zi, zo, zk⟩
         dsimp only at c1 c2 c3 c4 c5 c6 ⊢
         subst c1; subst c2; subst c3
         have hgd : y.all.getD y.i 0 = y.all[y.i] := by rw [List.getD_eq_getElem?_getD, List.getElem?_eq_getElem hjl]; rfl
         rw [hgd] at c6
         have hol : y.out.length ≤ 1000000001 := by omega
         refine ⟨_, rfl, fun hk => ?_, fun hk => ?_⟩
         · have hk := of_decide_eq_true hk
           rw [List.length_map] at hk
           have hkl : zk < y.out.length := by omega
           refine ⟨_, rfl, ⟨by omega, by rw [List.length_map]; omega⟩, _, ints_get hkl, rfl, y.out[zk], rfl, ⟨by omega, by rw [List.length_map]; omega⟩, rfl, _, ints_get hjl, y.all[y.i], rfl, fun hlt => ?_, fun hge => ⟨_, rfl, fun he => ?_, fun he => ?_⟩⟩
           · have hlt := of_decide_eq_true hlt
             refine ⟨q - 1, ⟨y.all, y.i, y.out, zk + 1⟩, by omega, ?_, rfl, rfl, rfl, hkl, by show q - 1 = y.out.length - (zk + 1); omega, fun z hz => ?_⟩
             · rw [wrap64_of (n := (zk : Int) + 1) (by omega) (by omega)]
               rfl
             · show z < y.all.getD y.i 0
               rw [hgd]
               have hz : z ∈ y.out.take (zk + 1) := hz
               rw [List.take_succ_eq_append_getElem hkl] at hz
               rcases List.mem_append.1 hz with hz | hz
               · exact c6 z hz
               · rw [List.mem_singleton.1 hz]; exact hlt
           · have hge := of_decide_eq_false hge
             refine ⟨_, rfl, ⟨by omega, by rw [List.length_map]; omega⟩, _, ints_get hkl, rfl, y.out[zk], rfl, ⟨by omega, by rw [List.length_map]; omega⟩, rfl, _, ints_get hjl, y.all[y.i], rfl, fun hne => ?_, fun hne => ?_⟩
             · have hne : y.out[zk] ≠ y.all[y.i] := by simpa using hne
               have HH := drop_gt b4 hkl (v := y.all[y.i]) (by omega)
               exact ⟨_, rfl, 0, zk, rfl, rfl, Nat.zero_le _, by rw [List.length_map]; omega, ints_all _, intsD (y.out.take zk), by rw [ints_take], ints_all _, by rw [List.length_map, List.length_take]; omega, ⟨by omega, by rw [List.length_map]; omega⟩, rfl, _, ints_get hjl, y.all[y.i], rfl, _, rfl, zk, _, rfl, rfl, by rw [List.length_map]; omega, Nat.le_refl _, ints_all _, (fun c hc => by rw [List.mem_singleton.1 hc]; rfl), rfl, rfl, by rw [List.length_map, List.length_take]; omega, intsD (y.out.drop zk), by rw [ints_drop], ints_all _, rfl, rfl, by
             have e : Nat.add (intsD (y.out.take zk) ++ [[D.v (.int .i64 y.all[y.i])]]).length (intsD (y.out.drop zk)).length = y.out.length + 1 := by
               show (intsD (y.out.take zk) ++ [[D.v (.int .i64 y.all[y.i])]]).length + (intsD (y.out.drop zk)).length = _
               simp; omega
             rw [e]; omega, p - 1, ⟨y.all, y.i + 1, y.out.take zk ++ [y.all[y.i]] ++ y.out.drop zk, 0⟩, by omega, by
             rw [wrap64_of (n := (y.i : Int) + 1) (by omega) (by omega)]
             show _ = St.mk _ _ _ _ _
             rw [show intsD (y.out.take zk ++ [y.all[y.i]] ++ y.out.drop zk) = intsD (y.out.take zk) ++ [[D.v (.int .i64 y.all[y.i])]] ++ intsD (y.out.drop zk) by simp]
             rfl, inv_ins hy hjl c4 c6 HH⟩
             · have hne : y.out[zk] = y.all[y.i] := by simpa using hne
               have MM : y.all[y.i] ∈ y.out := by rw [← hne]; exact List.getElem_mem _
               exact ⟨p - 1, ⟨y.all, y.i + 1, y.out, 0⟩, by omega, by
             rw [wrap64_of (n := (y.i : Int) + 1) (by omega) (by omega)]
             rfl, inv_same hy hjl MM⟩
           · rw [List.length_map] at he
             have he : (zk : Int) = (y.out.length : Int) := by simpa using he
             omega
         · have hk := of_decide_eq_false hk
           rw [List.length_map] at hk
           have hkl : zk = y.out.length := by omega
           have HH : ∀ z ∈ y.out.drop zk, y.all[y.i] < z := fun z hz => by rw [hkl, List.drop_length] at hz; cases hz
           refine ⟨fun h => (by cases h), fun _ => ⟨_, rfl, fun he => ?_, fun he => ⟨fun _ => ⟨_, rfl, 0, zk, rfl, rfl, Nat.zero_le _, by rw [List.length_map]; omega, ints_all _, intsD (y.out.take zk), by rw [ints_take], ints_all _, by rw [List.length_map, List.length_take]; omega, ⟨by omega, by rw [List.length_map]; omega⟩, rfl, _, ints_get hjl, y.all[y.i], rfl, _, rfl, zk, _, rfl, rfl, by rw [List.length_map]; omega, Nat.le_refl _, ints_all _, (fun c hc => by rw [List.mem_singleton.1 hc]; rfl), rfl, rfl, by rw [List.length_map, List.length_take]; omega, intsD (y.out.drop zk), by rw [ints_drop], ints_all _, rfl, rfl, by
             have e : Nat.add (intsD (y.out.take zk) ++ [[D.v (.int .i64 y.all[y.i])]]).length (intsD (y.out.drop zk)).length = y.out.length + 1 := by
               show (intsD (y.out.take zk) ++ [[D.v (.int .i64 y.all[y.i])]]).length + (intsD (y.out.drop zk)).length = _
               simp; omega
             rw [e]; omega, p - 1, ⟨y.all, y.i + 1, y.out.take zk ++ [y.all[y.i]] ++ y.out.drop zk, 0⟩, by omega, by
             rw [wrap64_of (n := (y.i : Int) + 1) (by omega) (by omega)]
             show _ = St.mk _ _ _ _ _
             rw [show intsD (y.out.take zk ++ [y.all[y.i]] ++ y.out.drop zk) = intsD (y.out.take zk) ++ [[D.v (.int .i64 y.all[y.i])]] ++ intsD (y.out.drop zk) by simp]
             rfl, inv_ins hy hjl c4 c6 HH⟩, fun h => (by cases h)⟩⟩⟩
           rw [List.length_map, hkl, beq_self_eq_true] at he
           cases he
       · obtain ⟨b1, b2, b3, b4, b5, b6⟩ := hy
         have hj := of_decide_eq_false hj
         rw [List.length_map] at hj
         have hji : y.i = y.all.length := by omega
         rw [hji, List.take_length] at b5
         have b1 : y.all = x.all := b1
         refine ⟨rfl, y.out, b4, fun z => ?_, ?_, rfl⟩
         · rw [b5 z, b1, hx3 z, hcE, List.mem_append]
           by_cases h1 : op = 1 <;> simp [h1]
         · simp only [size]
           rw [b1] at hji
           omega
def c_178g (a : List R) (K : KT) : Prop := match a with
 | [.agg x] => ∃ e : EX, x = cells e ∧ fits e ∧ size e ≤ 1000000000 ∧ ∀ L : List Int, L.Pairwise (· < ·) → (∀ y, y ∈ L ↔ y ∈ colsE e) → L.length ≤ size e → K [.d (.sl (intsD L))] []
 | _ => False
theorem c_178g_ok (a : List R) (K : KT) (h : c_178g a K) : Ct prog gl 52 a K := by
 unfold c_178g at h
 split at h
 · obtain ⟨e, rfl, h1, h2, h3⟩ := h
   exact (ct178 _ e (Nat.lt_succ_self _) h1 h2).mono fun r f ⟨e1, L, e2, e3, e4, e5⟩ => by subst e1; subst e5; exact h3 L e2 e3 e4
 · exact h.elim
end Go.Proofs.Tryz
