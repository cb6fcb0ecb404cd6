/- A part of the proof: contracts of functions, by a verified generator of conditions; no condition of its own. -/
import Derived.Test.YtgjghnooiaaeiaaGreatDoorDm25
import Derived.Shelf.Spec.SlicesGrow
namespace Go.Dm
open Go.Shelf Go.Proofs
theorem growI_lay {P : Program} {gl : Nat → Option Obj} {E : Env} {ρ : Ren} (L : Lays8.n4 P ρ) (hE : EnvOk P E) {e g key : Nat} {ei : TI} (he : ρ.t 25 = e) (hg : ρ.f 4 = g) (hei : E.ti e = some ei) (hf : FnOk P g) :
   IOk P gl (growI noI g e ei.ck.length ei.bytes key) := by
 have hT := hE.ti hei
 obtain ⟨inf, z, hi, hsz, hbi, hz, hzB, _⟩ := hT.info
 have hpos := hT.pos
 have hzs : z.cells.size = ei.ck.length := by simpa using (zB_vr (ok := fun _ => True) (φ := fun _ => undef) (w := default) (hp := []) hzB).1
 refine growI_ok ioK_no hpos hf (fun w => ?_) (fun n w hn hb h6 => ?_)
 · have := Any8.slices_Grow_room L none 0 0 0 w (Nat.le_refl _) (by decide) (by decide) (Nat.le_refl _)
   rw [hg] at this
   exact this
 · have := Any8.slices_Grow_grow L inf z (by rw [he]; exact hi) hz (by rw [hsz]; exact hpos) none 0 0 n [] w (Nat.le_refl _) (by omega) (by rw [hbi]; simpa using hb) (by omega) (by simp) (fun _ => rfl) (fun a h => by cases h)
   rw [hg, he] at this
   refine this.mono fun en w' ⟨e1, e2⟩ => ⟨grownCap w (0 + n) 0 e, _, ?_, ?_, ?_, e1, e2⟩
   · have := grownCap_ge w (0 + n) 0 e; omega
   · exact grownCap_le_maxLen w (0 + n) 0 e (by unfold maxLen; omega)
   · have hge := grownCap_ge w (0 + n) 0 e
     simp only [Array.size_append, size_zeroCells, hzs, List.size_toArray, List.length_nil, Nat.zero_add, Nat.sub_zero, ← Nat.add_mul] at hge ⊢
     congr 1
     omega
theorem GrowOk.lay {P : Program} {E : Env} {ρ : Ren} {gw : GrowT} (h : GrowOk P gw) (L : Lays8.n4 P ρ) (hE : EnvOk P E) {e g sz by_ : Nat} {ei : TI} (he : ρ.t 25 = e) (hg : ρ.f 4 = g) (hei : E.ti e = some ei) (hsz : ei.ck.length = sz) (hby : ei.bytes = by_) (hf : FnOk P g) :
   GrowOk P ((g, (e, sz, by_)) :: gw) := by
 subst hsz; subst hby
 have hT := hE.ti hei
 obtain ⟨inf, z, hi, hsz, hbi, hz, hzB, _⟩ := hT.info
 have hpos := hT.pos
 have hzs : z.cells.size = ei.ck.length := by simpa using (zB_vr (ok := fun _ => True) (φ := fun _ => undef) (w := default) (hp := []) hzB).1
 refine h.cons hpos hf (fun w => ?_) (fun n w hn hb h6 => ?_)
 · have := Any8.slices_Grow_room L none 0 0 0 w (Nat.le_refl _) (by decide) (by decide) (Nat.le_refl _)
   rw [hg] at this
   exact this
 · have := Any8.slices_Grow_grow L inf z (by rw [he]; exact hi) hz (by rw [hsz]; exact hpos) none 0 0 n [] w (Nat.le_refl _) (by omega) (by rw [hbi]; simpa using hb) (by omega) (by simp) (fun _ => rfl) (fun a h => by cases h)
   rw [hg, he] at this
   refine this.mono fun en w' ⟨e1, e2⟩ => ⟨grownCap w (0 + n) 0 e, _, ?_, ?_, ?_, e1, e2⟩
   · have := grownCap_ge w (0 + n) 0 e; omega
   · exact grownCap_le_maxLen w (0 + n) 0 e (by unfold maxLen; omega)
   · have hge := grownCap_ge w (0 + n) 0 e
     simp only [Array.size_append, size_zeroCells, hzs, List.size_toArray, List.length_nil, Nat.zero_add, Nat.sub_zero, ← Nat.add_mul] at hge ⊢
     congr 1
     omega
end Go.Dm
