/- A part of the proof: contracts of functions, by a verified generator of conditions; no condition of its own. -/
import Derived.Test.YtgjghnooiaaeiaaGreatDoorGrowI
import Derived.Test.YtgjghnooiaaeiaaGreatDoorDm21
import Derived.Below
import Derived.Sort.Grow
import Derived.Deep.Draws
namespace Go.Dm
variable {P : Program}
theorem fnOk_of {f : Nat} {fn : Func} (h : P.funcs[f]? = some fn) (h1 : (fn.name == "runtime.NumGoroutine") = false) (h2 : fn.body.isNone = false) : FnOk P f := ⟨fn, h, h1, h2⟩
theorem ct_vals {gl : Nat → Option Obj} {f : Nat} (hf : FnOk P f) {xs : List Value} {y : Value} (hy : plain y = true)
   (h : ∀ w : World, (∀ b o, gl b = some o → w.heap[b]? = some o) → Calls P f xs.toArray w fun e w' => e = .returned y ∧ Upd [] w.heap.size w w') :
   Ct P gl f (xs.map fun x => R.d (.v x)) (gives [.d (.v y)]) := by
 refine ⟨hf, ⟨_, _, rfl, rfl⟩, fun w ok vs bs h0 h1 h2 h3 h4 => ?_⟩
 have inv : ∀ (xs : List Value) (bs : List Nat) (vs : List Value), ArgsR ok w bs (xs.map fun x => R.d (.v x)) vs → vs = xs ∧ bs = [] := by
   intro xs
   induction xs with
   | nil => intro bs vs h; cases h; exact ⟨rfl, rfl⟩
   | cons x r ih =>
     intro bs vs h
     cases h with
     | d hd hr =>
       obtain ⟨e1, e2⟩ := ih _ _ hr
       cases hd with
       | v _ => exact ⟨by rw [e1], e2⟩
 obtain ⟨rfl, rfl⟩ := inv xs bs vs h4
 refine (h w fun b o hb => (h0 b o hb).2).mono fun e w' ⟨he, hu⟩ => ?_
 exact ⟨[.d (.v y)], [], [y], ok, [], he, ⟨rfl, rfl⟩, fun _ h => h, fun _ h => .inl h, fun b hb => Nat.lt_of_lt_of_le (h1 b hb) hu.size, hu, .d (.v hy) .nil, List.nodup_nil, (by intro b hb; cases hb), rfl, (by intro i n cs h; simp at h)⟩
theorem Below.upd {w w' : World} (h : Go.RowKit.Below w.heap.size w w') : Upd [] w.heap.size w w' := ⟨h.os, h.tape, h.output, h.size, fun k hk _ => h.block k hk⟩
theorem ct_texts {gl : Nat → Option Obj} {f : Nat} (hf : FnOk P f) {xs : List ByteArray} {sep y : ByteArray} (hne : xs ≠ [])
   (h : ∀ (w : World) (bk o c : Nat), (∀ (j : Nat) x, xs[j]? = some x → w.cell? ⟨bk, o + j, none⟩ = some (.string x)) → bk < w.heap.size → xs.length ≤ c →
     Calls P f #[.slice (some ⟨bk, o, none⟩) xs.length c, .string sep] w fun e w' => e = .returned (.string y) ∧ Upd [] w.heap.size w w') :
   Ct P gl f [.d (.sl (xs.map fun x => [.v (.string x)])), .d (.v (.string sep))] (gives [.d (.v (.string y))]) := by
 refine ⟨hf, ⟨_, _, rfl, rfl⟩, fun w ok vs bs h0 h1 h2 h3 h4 => ?_⟩
 obtain ⟨bk, o, c, rfl, rfl, hc, hb, hl⟩ : ∃ bk o c, vs = [.slice (some ⟨bk, o, none⟩) xs.length c, .string sep] ∧ bs = [] ∧ (∀ (j : Nat) x, xs[j]? = some x → w.cell? ⟨bk, o + j, none⟩ = some (.string x)) ∧ bk < w.heap.size ∧ xs.length ≤ c := by
   cases h4 with
   | d hd hr =>
     cases hr with
     | d hd2 hr2 =>
       cases hr2
       cases hd2
       generalize hes : (xs.map fun x => [D.v (Value.string x)]) = es at hd
       have hl : es.length = xs.length := by rw [← hes]; simp
       have hpos : 0 < xs.length := List.length_pos_iff.2 hne
       cases hd with
       | nil => simp at hl; omega
       | nul => simp at hl; omega
       | @sl b off cap es sz x hcap hok hsz hcc hrr =>
         have hn : es ≠ [] := by intro h; subst h; simp at hl; omega
         have h1s : sz = 1 := by
           have : [D.v (Value.string xs[0])] ∈ es := by rw [← hes]; exact List.mem_map.2 ⟨_, List.getElem_mem hpos, rfl⟩
           exact (hsz _ this).symm
         subst h1s
         refine ⟨b, off, cap, by rw [hl], rfl, fun j y hj => ?_, h1 _ (hok hn), by omega⟩
         have hjl : j < xs.length := by
           rcases List.getElem?_eq_some_iff.1 hj with ⟨h, _⟩; exact h
         have e1 := hcc j 0 (by omega) (by omega)
         have e2 := hrr j 0 (by omega) (by omega)
         rw [← hes, List.getD_eq_getElem?_getD (l := List.map _ _), List.getElem?_map, hj] at e2
         simp only [Nat.mul_one, Nat.add_zero] at e1
         rw [e1]
         have e3 : Rd ok w (x j 0) (.v (.string y)) := e2
         generalize x j 0 = z at e3 ⊢
         cases e3
         rfl
 refine (h w bk o c hc hb hl).mono fun e w' ⟨he, hu⟩ => ?_
 exact ⟨[.d (.v (.string y))], [], [.string y], ok, [], he, ⟨rfl, rfl⟩, fun _ h => h, fun _ h => .inl h, fun b hb => Nat.lt_of_lt_of_le (h1 b hb) hu.size, hu, .d (.v rfl) .nil, List.nodup_nil, (by intro b hb; cases hb), rfl, (by intro i n cs h; simp at h)⟩
end Go.Dm
