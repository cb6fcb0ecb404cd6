/- A part of the proof: contracts of functions, by a verified generator of conditions; no condition of its own. -/
import Derived.RangeFuncBox
import Derived.RangeFuncLeaves
import Derived.Shelf.Abstract
import Derived.Shelf.RegionOpen
import Derived.WalkKit
import Derived.OwnWalkIn
import Derived.TacticsInMore
import Derived.LoopNIn
import Derived.LoopIn
import Derived.Test.YtlacgjmbabghaaaTe
namespace Go.Proofs.Try
open Go Go.RowKit Go.Shelf Go.Dm
attribute [local go_sem] Oper.semAt_some
set_option maxRecDepth 100000
set_option maxHeartbeats 2000000
theorem mixedT : prog.follows .mixedOrders = true := by kernel_rfl

theorem chunk1 (l Bs Bn o1 o2 : Nat) (ad : Option Addr) (len cap nn : Nat) (hn : 1 ≤ nn) (hs : len + nn ≤ 9223372036854775807) (hlc : len ≤ cap)
    (T : Nat → Nat → Prop) (hT0 : T 0 0) (hT1 : ∀ k i, T k i → T (k + 1) (i + nn))
    (J : Nat → World → Prop) (X : World → Prop) (Kp : World → Prop) (hKs : ∀ W, Kp W → W.cell? ⟨Bs, o1, none⟩ = some (.slice ad len cap)) (hKn : ∀ W, Kp W → W.cell? ⟨Bn, o2, none⟩ = some (.int .i64 nn))
    (hJd : ∀ i W, J i W → J i W.drew) (hKd : ∀ W, Kp W → Kp W.drew)
    (hY : ∀ (k i c : Nat) (v : Value) (W : World), T k i → J k W → Kp W → i < len → c = min nn (len - i) → v = .slice (ad.map (·.add (i * 8))) c c → Dm.YieldAt prog l v W fun b W' => Kp W' ∧ (b = true → J (k + 1) W') ∧ (b = false → X W'))
    (W : World) (hK : Kp W) (h0 : J 0 W) :
    CallsIn Fence.wide 0 prog 35 #[.func (.yield l) #[] #[], .pointer (some ⟨Bs, o1, none⟩), .pointer (some ⟨Bn, o2, none⟩)] W fun e W' => (∃ v, e = .returned v) ∧ ((∃ k i, T k i ∧ len ≤ i ∧ i < len + nn ∧ J k W') ∨ X W') := by
  have hbs := hKs W hK
  have hbn := hKn W hK
  have mixedT := mixedT
  refine callsIn_of_wp func35 rfl trivial ?_ rfl
  simp only [ntmps35, List.size_toArray, List.length_cons, List.length_nil, Nat.reduceAdd, Nat.reduceSub, Array.replicate_succ, Array.replicate_zero, List.push_toArray, List.append_toArray, List.nil_append, List.cons_append]
  gi_wp2
  gi_loopw [4] (fun v wr => ∃ k i : Nat, v = .int .i64 (i : Int) ∧ T k i ∧ i < len + nn ∧ J k wr ∧ Kp wr)
    (fun i _ => len + nn - (intOf i).toNat)
  case atStart => exact ⟨0, 0, by simp, hT0, by omega, h0, hK⟩
  case round =>
    obtain ⟨k, i, rfl, hik, hk, hJs, hKs'⟩ := hrel
    have hbs := hKs _ hKs'
    have hbn := hKn _ hKs'
    have hYk := hY k i
    have hJd' : J k wr.drew := hJd k wr hJs
    have hKd' : Kp wr.drew := hKd wr hKs'
    by_cases hlt : i < len
    · have hlt' : (i : Int) < (len : Int) := by omega
      gi_wp2
      gi_region
      gi_wp2
      case inl =>
        have hv : ((i : Int) + ((len - i : Nat) : Int)).toNat - i = len - i := by omega
        obtain ⟨fn, tmps, assign, body, hy, hR⟩ := hYk (len - i) _ wr.drew hik hJd' hKd' hlt (by omega) rfl
        rw [hv, hy]
        refine ⟨fun h => by simp [Fence.wide] at h, hR.mono ?_⟩
        rintro e W3 ⟨b, rfl, hK3, ht, hf⟩
        have hbn3 := hKn _ hK3
        cases b
        · gi_wp2
          refine bodyPost_ret (results_none rfl _ _ _) rfl ?_
          exact ⟨⟨_, rfl⟩, .inr (hf (by simp))⟩
        · gi_wp2
          go_roundw
          case rel => exact ⟨k + 1, i + nn, by simp, hT1 k i hik, by omega, ht (by simp), hK3⟩
          case measure => simp [intOf]; omega
      case inr =>
        have hv : ((i : Int) + (nn : Int)).toNat - i = nn := by omega
        obtain ⟨fn, tmps, assign, body, hy, hR⟩ := hYk nn _ wr.drew hik hJd' hKd' hlt (by omega) rfl
        rw [hv, hy]
        refine ⟨fun h => by simp [Fence.wide] at h, hR.mono ?_⟩
        rintro e W3 ⟨b, rfl, hK3, ht, hf⟩
        have hbn3 := hKn _ hK3
        cases b
        · gi_wp2
          refine bodyPost_ret (results_none rfl _ _ _) rfl ?_
          exact ⟨⟨_, rfl⟩, .inr (hf (by simp))⟩
        · gi_wp2
          go_roundw
          case rel => exact ⟨k + 1, i + nn, by simp, hT1 k i hik, by omega, ht (by simp), hK3⟩
          case measure => simp [intOf]; omega
    · gi_wp2
      go_end0
      exact ⟨⟨_, rfl⟩, .inl ⟨k, i, hik, by omega, hk, hJs⟩⟩

def chunkL (es : List (List D)) (nn : Nat) : List R := (List.range ((es.length + nn - 1) / nn)).map fun k => R.d (.sl ((es.drop (k * nn)).take nn))

theorem rd_sub {ok : Nat → Prop} {w : World} {es : List (List D)} {ad : Option Addr} {cap sz i c nn : Nat} (h : Rd ok w (.slice ad es.length cap) (.sl es)) (hsz : ∀ c ∈ es, c.length = sz) (hi : i < es.length) (hc : c = min nn (es.length - i)) :
    Rd ok w (.slice (ad.map (·.add (i * sz))) c c) (.sl ((es.drop i).take nn)) := by
  generalize hv : Value.slice ad es.length cap = v at h
  generalize hd : D.sl es = d at h
  cases h with
  | v h => cases hd
  | nil => cases hd; simp at hi
  | nul => cases hd; simp at hi
  | @sl b off cap' es' sz' x hcap hok hsz' hcc hr =>
    cases hd
    simp only [Value.slice.injEq] at hv
    obtain ⟨rfl, _, rfl⟩ := hv
    have hs : sz' = sz := by rw [← hsz' _ (List.getElem_mem hi), hsz _ (List.getElem_mem hi)]
    subst hs
    have hlen : ((es.drop i).take nn).length = c := by simp; omega
    have hget : ∀ j, j < c → ((es.drop i).take nn).getD j [] = es.getD (i + j) [] := by
      intro j hj
      rw [List.getD_eq_getElem?_getD, List.getElem?_take, List.getElem?_drop, if_pos (by omega), List.getD_eq_getElem?_getD]
    have ha : (some (⟨b, off, none⟩ : Addr)).map (·.add (i * sz')) = some ⟨b, off + i * sz', none⟩ := by simp [addr_add]
    rw [ha]
    have := Rd.sl (ok := ok) (w := w) (b := b) (off := off + i * sz') (cap := c) (es := (es.drop i).take nn) sz' (fun p j => x (i + p) j) (by omega) (fun _ => hok (by rintro rfl; simp at hi))
      (fun c hc => hsz' c (List.mem_of_mem_drop (List.mem_of_mem_take hc))) (fun p j hp hj => ?_) (fun p j hp hj => ?_)
    · rw [hlen] at this; exact this
    · rw [hlen] at hp
      have := hcc (i + p) j (by omega) hj
      have e : off + i * sz' + (p * sz' + j) = off + ((i + p) * sz' + j) := by rw [Nat.add_mul]; omega
      rw [e]; exact this
    · rw [hlen] at hp
      rw [hget p hp]
      exact hr (i + p) j (by omega) hj

theorem its35 (es : List (List D)) (nn : Nat) (hn : 1 ≤ nn) (hs : es.length + nn ≤ 9223372036854775807) (h8 : ∀ c ∈ es, c.length = 8) : Its prog 35 [.ptr [.sl es], .ptr [.v (.int .i64 nn)]] (chunkL es nn) := by
  refine ⟨⟨f35, func35, by decide, rfl⟩, fun w ok vs l hok hl hvs J X h0 hJ hX hround => ?_⟩
  match vs, hl with
  | [v1, v2], _ =>
  have r1 := hvs 0 _ v1 rfl rfl
  have r2 := hvs 1 _ v2 rfl rfl
  cases r1 with
  | @dptr b1 o1 cs1 x1 hok1 hc1 hr1 =>
  cases r2 with
  | @dptr b2 o2 cs2 x2 hok2 hc2 hr2 =>
  have c1 := hc1 0 (by simp)
  have c2 := hc2 0 (by simp)
  have d1 := hr1 0 (by simp)
  have d2 := hr2 0 (by simp)
  rw [Nat.add_zero] at c1 c2
  have e2 : x2 0 = .int .i64 nn := by
    have : Rd ok w (x2 0) (.v (.int .i64 nn)) := d2
    generalize x2 0 = v at this
    cases this; rfl
  rw [e2] at c2
  obtain ⟨ad, cap, e1, hcap⟩ : ∃ ad cap, x1 0 = .slice ad es.length cap ∧ es.length ≤ cap := by
    have : Rd ok w (x1 0) (.sl es) := d1
    generalize x1 0 = v at this
    cases this with
    | nil => exact ⟨none, 0, rfl, Nat.le_refl _⟩
    | @nul a cap => exact ⟨some a, cap, rfl, Nat.zero_le _⟩
    | sl sz x hcap => exact ⟨_, _, rfl, hcap⟩
  have d1 : Rd ok w (.slice ad es.length cap) (.sl es) := by rw [← e1]; exact d1
  rw [e1] at c1
  have hb1 := hok1 (by simp)
  have hb2 := hok2 (by simp)
  let Kp : World → Prop := fun W => ∀ b, ok b → W.heap[b]? = w.heap[b]?
  have hdiv : ∀ k, es.length ≤ k * nn → k * nn < es.length + nn → (es.length + nn - 1) / nn = k := by
    intro k h1 h2
    refine Nat.div_eq_of_lt_le (by omega) ?_
    rw [Nat.add_mul, Nat.one_mul]; omega
  have := chunk1 l b1 b2 o1 o2 ad es.length cap nn hn hs hcap (fun k i => i = k * nn) (by simp) (fun k i h => by rw [h, Nat.add_mul, Nat.one_mul]) J X Kp
    (fun W hW => (World.cell?_of_block (hW _ hb1)).trans c1) (fun W hW => (World.cell?_of_block (hW _ hb2)).trans c2) (fun i W h => hJ i W _ h) (fun W h => h)
    (fun k i c v W hT hJk hK hi hc hv => ?_) w (fun _ _ => rfl) h0
  · refine (callsIn_wide.1 this).mono ?_
    rintro e W ⟨he, hW⟩
    refine ⟨he, hW.imp ?_ id⟩
    rintro ⟨k, i, rfl, h1, h2, hj⟩
    have : (chunkL es nn).length = k := by simp [chunkL, hdiv k h1 h2]
    rw [this]; exact hj
  · subst hT
    have hx : (chunkL es nn)[k]? = some (.d (.sl ((es.drop (k * nn)).take nn))) := by
      have : k < (es.length + nn - 1) / nn := by
        rw [Nat.lt_div_iff_mul_lt (by omega)]; omega
      simp [chunkL, this]
    have hrd := rd_sub d1 h8 hi hc
    rw [← hv] at hrd
    have := hround k _ W v hx hJk hK (.d (hrd.mono (fun _ h => h) (fun b hb => hK b hb)) .nil)
    obtain ⟨fn, tmps, assign, body, hy, hR⟩ := this
    refine ⟨fn, tmps, assign, body, hy, hR.mono ?_⟩
    rintro e W' ⟨b, he, h1, h2, h3⟩
    exact ⟨b, he, fun b hb => (h1 b hb).trans (hK b hb), h2, h3⟩
end Go.Proofs.Try
