/- A part of the proof: contracts of functions, by a verified generator of conditions; no condition of its own. -/
import Derived.Test.YtgjghnooiaaeiaaGreatDoorDm18
namespace Go.Dm
variable {P : Program} {E : Env} {C : CallT} {I : Nat → List V → List V → St → (V → St → Prop) → Prop}
def numV : Nat → List V → List (Nat × V)
 | _, [] => []
 | t, v :: r => (t, v) :: numV (t + 1) r
theorem lk_numV (l : List V) : ∀ (t j : Nat) (x : V), lk (numV t l) j = some x → t ≤ j ∧ l[j - t]? = some x := by
 induction l with
 | nil => intro t j x h; simp [numV, lk] at h
 | cons v r ih =>
   intro t j x h
   simp only [numV, lk] at h
   split at h
   · rename_i e
     have : t = j := Nat.eq_of_beq_eq_true e
     subst this
     simp at h; subst h
     exact ⟨Nat.le_refl _, by simp⟩
   · obtain ⟨h1, h2⟩ := ih (t + 1) j x h
     refine ⟨by omega, ?_⟩
     have : j - t = (j - (t + 1)) + 1 := by omega
     rw [this]; simpa using h2
def lenV {α : Type} : List α → Nat
 | [] => 0
 | _ :: r => lenV r + 1
theorem lenV_eq {α : Type} (l : List α) : lenV l = l.length := by
 induction l with
 | nil => rfl
 | cons _ _ ih => simp [lenV, ih]
abbrev Fis := List (Nat × (Nat × Nat × Code × List ResultVar × Fi))
def inl (E : Env) (C : CallT) (I : Nat → List V → List V → St → (V → St → Prop) → Prop) (fis : Fis) (f : Nat) (args caps : List V) (s : St) (K : V → St → Prop) : Prop :=
 match lk fis f with
 | none => False
 | some (off, nt, body, res, fi) =>
   match Nat.ble (lenV (app args caps)) nt with
   | false => False
   | true =>
     awp { E with off := off } C I fi body { tm := numV 0 (app args caps), hp := s.hp, kn := [], gd := [], rt := s.tm :: s.rt } fun e s' =>
       match e with
       | .exit _ => False
       | _ => (match resV E s' res with | none => False | some vs => K (oneV vs) { tm := (bak s').tm, hp := s'.hp, kn := s.kn, gd := [], rt := (bak s').rt })
def FisOk (P : Program) (fis : Fis) : Prop := ∀ f off nt body res fi, lk fis f = some (off, nt, body, res, fi) →
 ∃ fn, P.funcs[f]? = some fn ∧ fn.body = some body ∧ fn.results.toList = res ∧ fn.ntmps = nt ∧ (fn.name == "runtime.NumGoroutine") = false ∧ codeB nt fi.sc false body = true
theorem fisOk_nil : FisOk P [] := fun f off nt body res fi h => by simp [lk] at h
theorem FisOk.cons {fis : Fis} (h : FisOk P fis) {f off : Nat} {fn : Func} {body : Code} {fi : Fi} (hf : P.funcs[f]? = some fn) (hb : fn.body = some body) (hn : (fn.name == "runtime.NumGoroutine") = false) (hc : codeB fn.ntmps fi.sc false body = true) :
   FisOk P ((f, (off, fn.ntmps, body, fn.results.toList, fi)) :: fis) := by
 intro f' off' nt' body' res' fi' h'
 simp only [lk] at h'
 split at h'
 · rename_i e
   have : f = f' := Nat.eq_of_beq_eq_true e
   subst this
   simp only [Option.some.injEq, Prod.mk.injEq] at h'
   obtain ⟨rfl, rfl, rfl, rfl, rfl⟩ := h'
   exact ⟨fn, hf, hb, rfl, rfl, hn, hc⟩
 · exact h _ _ _ _ _ _ h'
theorem mem_allKeys (hp : List (Nat × B)) (k : Nat) (b : B) (h : lk hp k = some b) : k ∈ allKeys hp := by
 induction hp with
 | nil => simp [lk] at h
 | cons p r ih =>
   obtain ⟨a, x⟩ := p
   simp only [lk] at h
   simp only [allKeys, List.mem_cons]
   split at h
   · rename_i e; exact .inl (Nat.eq_of_beq_eq_true e).symm
   · exact .inr (ih h)
theorem oneV_tupled {ok : Nat → Prop} {φ : Nat → Value} {hp : List (Nat × B)} {w : World} {vs : List V} {ys : List Value} (hl : ys.length = vs.length) (h : ∀ (i : Nat) (c : V) (x : Value), vs[i]? = some c → ys[i]? = some x → VR ok φ hp w c x) : VR ok φ hp w (oneV vs) (tupled ys) := by
 match vs, ys, hl with
 | [], [], _ => exact .tup (by simp) (fun i c x h1 h2 => h i c x h1 (by simp at h2))
 | [v], [y], _ => exact h 0 v y rfl rfl
 | v :: v' :: r, y :: y' :: q, hl => exact .tup (by simp at hl ⊢; omega) (fun i c x h1 h2 => h i c x h1 (by simpa using h2))
open Classical in
theorem ioK_inl {gl : Nat → Option Obj} (hE : EnvOk P E) (hC : CallsOk P gl C) (hI : IOk P gl I) (hT : ItOk P E) (hm : P.follows .mixedOrders = true) {fis : Fis} (hF : FisOk P fis) : IOk P gl (inl E C I fis) := by
 intro B0 bx W0 ok0 Z N ok φ s a w f args caps K vs cs hgl r h hlv hvs hlc hcs
 subst hgl
 unfold inl at h
 split at h
 · exact h.elim
 rename_i off nt body res fi hlk
 split at h
 · exact h.elim
 rename_i hle
 have hle' : args.length + caps.length ≤ nt := by
   have := Nat.le_of_ble_eq_true hle
   rw [lenV_eq, app_eq] at this
   simpa using this
 rw [app_eq] at h
 obtain ⟨fn, hf, hb, hres, hnt, hname, hcode⟩ := hF _ _ _ _ _ _ hlk
 refine ⟨⟨fn, hf, hname, by rw [hb]; rfl⟩, callsIn_wide.1 (callsIn_of_wp_marks (F := Fence.wide) (n := 0) hf hb trivial ?_)⟩
 have hE' : EnvOk P { E with off := off } := ⟨hE.te⟩
 have hT' : ItOk P { E with off := off } := fun f cps K h => hT f cps K h
 let okz : Nat → Prop := fun b => ok b ∨ (B0 ≤ b ∧ b < w.heap.size ∧ ∀ k b', lk s.hp k = some b' → b'.active = true → blockOf (φ k) ≠ some b)
 let Z' : Zr := ⟨w.heap.size, fun b => if okz b then w.heap[b]? else none, fun d t => match d with | 0 => a.tmps.getD t undef | d + 1 => Z.ro d t, Z.gl, fun b o h => by
   have := r.kz b o (Z.sub b o h)
   rw [if_pos (.inl this.1)]; exact this.2⟩
 have hZ' : ∀ b o, Z'.z b = some o → okz b ∧ w.heap[b]? = some o := fun b o h => by
   simp only [Z'] at h
   split at h
   · rename_i hb; exact ⟨hb, h⟩
   · cases h
 have rz : Rel B0 bx W0 ok0 Z N okz φ s a w := r.addOk (fun b hb => .inl hb) (fun b hb => by
     rcases hb with hb | hb
     · exact r.okl b hb
     · exact hb.2.1) (fun b hb => by
     rcases hb with hb | hb
     · exact r.oks b hb
     · exact .inr hb.1) (fun k b g hk ha hg => by
     rintro (hx | hx)
     · exact (r.act k b g hk ha hg).1 hx
     · exact hx.2.2 k b hk ha hg)
 let tm0 : Array Value := (vs ++ cs).toArray ++ Array.replicate (fn.ntmps - (vs ++ cs).toArray.size) undef
 have htm0 : ∀ (i : Nat) (v : Value), (vs ++ cs)[i]? = some v → tm0.getD i undef = v := by
   intro i v hv
   have hlt := (List.getElem?_eq_some_iff.1 hv).1
   simp only [tm0]
   rw [Array.getD_eq_getD_getElem?, Array.getElem?_append_left (by simpa using hlt)]
   simp only [List.getElem?_toArray, hv, Option.getD_some]
 have rc : Rel B0 bx W0 ok0 Z' fn.ntmps okz φ { tm := numV 0 (args ++ caps), hp := s.hp, kn := [], gd := [], rt := s.tm :: s.rt } { tmps := tm0, defers := [] } w := by
   refine rz.reZ Z' hZ' (Nat.le_refl _) rfl rfl ?_ (fun t x hx => ?_) (fun t b hb => by simp [lk] at hb) (fun d l t x hd hx => ?_) ⟨[], by simp, rfl, by simp⟩
   · simp only [tm0]; simp; omega
   · obtain ⟨_, h2⟩ := lk_numV _ 0 t x hx
     rw [Nat.sub_zero] at h2
     have hlt : t < (vs ++ cs).length := by have := (List.getElem?_eq_some_iff.1 h2).1; simp at this ⊢; omega
     have hv : (vs ++ cs)[t]? = some (vs ++ cs)[t] := List.getElem?_eq_getElem hlt
     rw [htm0 t _ hv]
     rw [List.getElem?_append] at h2 hv
     rw [hlv] at hv
     have key : VR ok φ s.hp w x (vs ++ cs)[t] := by
       split at h2
       · rename_i h3
         rw [if_pos h3] at hv
         exact hvs t x _ h2 hv
       · rename_i h3
         rw [if_neg h3] at hv
         exact hcs _ x _ h2 hv
     exact key.cmono (fun b hb => .inl hb) (fun _ => rfl)
   · cases d with
     | zero => simp only [nth, Option.some.injEq] at hd; subst hd; exact rz.tm t x hx
     | succ d => exact rz.rt d l t x hd hx
 refine wpIn_mono (awp_sound hE' hC hI hT' hm fi body false (by rw [hnt]; exact hcode) Fence.wide (.inl rfl) Z' rfl _ okz φ _ _ w rc h) fun e a' w' hq => ?_
 obtain ⟨ok2, φ2, s2, r2, hk⟩ := hq
 have fin : (match resV E s2 res with | none => False | some vs => K (oneV vs) { tm := (bak s2).tm, hp := s2.hp, kn := s.kn, gd := [], rt := (bak s2).rt }) →
     LeavesInM Fence.wide 0 P fn a'.tmps (fun e w'' => ∃ v, e = .returned v ∧ Pst B0 bx W0 ok0 Z N a (Frm (allKeys s.hp) φ s w) K v w'') a'.defers .returning w' := by
   intro hk
   split at hk
   · exact hk.elim
   rename_i rvs hrv
   obtain ⟨Ds, _, hDd, _⟩ := r2.df
   rw [hDd]
   refine leaves_marks (Z := Z') (fun b o h => ?_) (fun a'' w3 r3 hta hde => ?_) Ds a' w' r2 rfl hDd
   · obtain ⟨hz, _⟩ := hZ' b o h
     exact rz.okl b hz
   obtain ⟨ys, hrun, hyl, hyr⟩ := resV_sound hE r3 _ _ hrv
   rw [hta] at hrun
   refine ⟨tupled ys, run_results (by rw [hres]; exact hrun), _, rfl, oneV rvs, _, ok2, φ2, hk, ?_, oneV_tupled hyl hyr, ?_⟩
   · refine r3.reZ Z (fun b o hz => ?_) (Nat.le_trans r.zs r3.zs) rfl rfl r.sz (fun t x hx => ?_) r.kn (fun d l t x hd hx => ?_) ?_
     · obtain ⟨e1, e2⟩ := r.kz b o hz
       have : Z'.z b = some o := by simp only [Z']; rw [if_pos (.inl e1)]; exact e2
       exact r3.kz b o this
     · simp only [bak] at hx
       split at hx
       · rename_i tm rt hrt
         exact r3.rt 0 tm t x (by rw [hrt]; rfl) hx
       · simp [lk] at hx
     · simp only [bak] at hd
       split at hd
       · rename_i tm rt hrt
         exact r3.rt (d + 1) l t x (by rw [hrt]; exact hd) hx
       · simp [nth] at hd
     · obtain ⟨Ds0, e1, e2, e3⟩ := r.df
       refine ⟨Ds0, e1, e2, fun D hD => ?_⟩
       obtain ⟨f1, f2, f3⟩ := e3 D hD
       have : Z'.z D = some (.deferred (some [])) := by simp only [Z']; rw [if_pos (.inl f2)]; exact f3
       exact ⟨f1, r3.kz D _ this⟩
   · refine ⟨r3.zs, fun g hg hn => ?_, fun k b' g h1 h2 h3 hlt => ?_⟩
     · by_cases hz : okz g
       · have : Z'.z g = some w.heap[g] := by simp only [Z']; rw [if_pos hz]; simp [hg]
         rw [(r3.kz g _ this).2]; simp [hg]
       · have hB : g < B0 := by
           rcases Nat.lt_or_ge g B0 with h | h
           · exact h
           · exact (hz (.inr ⟨h, hg, fun k b' hk ha he => hn k b' (mem_allKeys _ k b' hk) hk ha he⟩)).elim
         have hbx : g ∉ bx := fun hm => by
           obtain ⟨i, hi⟩ := List.getElem?_of_mem hm
           obtain ⟨p1, cs', p2⟩ := r.pin i g hi
           exact hn _ _ (mem_allKeys _ _ _ p2) p2 rfl (by rw [p1]; rfl)
         exact (r3.upd.block g hB hbx).trans (r.upd.block g hB hbx).symm
     · by_cases hx : ∃ k0 b, lk s.hp k0 = some b ∧ b.active = true ∧ blockOf (φ k0) = some g
       · obtain ⟨k0, b, e1, e2, e3⟩ := hx
         exact ⟨k0, b, e1, e2, e3, .inr (mem_allKeys _ k0 b e1)⟩
       · exfalso
         obtain ⟨hno, hB⟩ := r3.act k b' g h1 h2 h3
         rcases hB with hB | hB
         · have hz : okz g := .inr ⟨hB, hlt, fun k b' hk ha he => hx ⟨k, b', hk, ha, he⟩⟩
           have : Z'.z g = some w.heap[g] := by simp only [Z']; rw [if_pos hz]; simp [hlt]
           exact hno (r3.kz g _ this).1
         · obtain ⟨i, hi⟩ := List.getElem?_of_mem hB
           obtain ⟨p1, cs', p2⟩ := r.pin i g hi
           exact hx ⟨_, _, p2, rfl, by rw [p1]; rfl⟩
 cases e with
 | normal => exact fin hk
 | ret => exact fin hk
 | exit i => exact hk.elim
 | goto l => exact hk.elim
 | panic ch => exact hk.elim
 | outgrown => exact hk.elim
end Go.Dm
