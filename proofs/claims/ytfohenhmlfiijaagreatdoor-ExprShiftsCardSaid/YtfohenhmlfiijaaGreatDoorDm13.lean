/- One operation that is carried out. -/
import Derived.Test.YtfohenhmlfiijaaGreatDoorDm12
namespace Go.Dm

variable {P : Program} {E : Env} {C : CallT} {I : Nat → List V → List V → St → (V → St → Prop) → Prop}
variable {B0 : Nat} {bx : List Nat} {W0 : World} {ok0 : Nat → Prop} {Z : Zr} {N : Nat}
variable {ok : Nat → Prop} {φ : Nat → Value} {s : St} {a : Act} {w : World}

theorem Frm.same_hp {T : List Nat} {s' : St} (h : s'.hp = s.hp) : Frm T φ s w φ s' w :=
  ⟨Nat.le_refl _, fun _ _ _ => rfl, fun k b' g h1 h2 h3 _ => ⟨k, b', by rw [← h]; exact h1, h2, h3, .inl rfl⟩⟩

/-- Closures that are walked in place are what is asked of them. -/
def IOk (P : Program) (gl : Nat → Option Obj) (I : Nat → List V → List V → St → (V → St → Prop) → Prop) : Prop :=
  ∀ (B0 : Nat) (bx : List Nat) (W0 : World) (ok0 : Nat → Prop) (Z : Zr) (N : Nat) (ok : Nat → Prop) (φ : Nat → Value) (s : St) (a : Act) (w : World) (f : Nat) (args caps : List V) (K : V → St → Prop) (vs cs : List Value),
    Z.gl = gl → Rel B0 bx W0 ok0 Z N ok φ s a w → I f args caps s K → vs.length = args.length → (∀ (i : Nat) (c : V) (x : Value), args[i]? = some c → vs[i]? = some x → VR ok φ s.hp w c x) →
    cs.length = caps.length → (∀ (i : Nat) (c : V) (x : Value), caps[i]? = some c → cs[i]? = some x → VR ok φ s.hp w c x) →
    FnOk P f ∧ Calls P f (vs ++ cs).toArray w (fun e w'' => ∃ v, e = .returned v ∧ Pst B0 bx W0 ok0 Z N a (Frm (allKeys s.hp) φ s w) K v w'')

theorem ioK_no {gl : Nat → Option Obj} : IOk P gl noI := by
  intro B0 bx W0 ok0 Z N ok φ s a w f args caps K vs cs _ _ h
  exact h.elim

theorem OpRun.mono {x : Sem Next} {post post' : Value → World → Prop} (h : OpRun P x w post) (hp : ∀ v w', post v w' → post' v w') : OpRun P x w post' := by
  unfold OpRun at *
  generalize x.run P w = r at *
  cases r with
  | ok n w' =>
    cases n <;> simp only at h ⊢
    · exact hp _ _ h
    · exact hp _ _ h
    · exact h.mono fun e w'' ⟨v, he, hq⟩ => ⟨v, he, hp _ _ hq⟩
  | halt x w' => exact h.elim

theorem Pst.mono {F : (Nat → Value) → St → World → Prop} {K K' : V → St → Prop} {v' : Value} {w' : World} (h : Pst B0 bx W0 ok0 Z N a F K v' w') (hk : ∀ v s, K v s → K' v s) : Pst B0 bx W0 ok0 Z N a F K' v' w' := by
  obtain ⟨v, s', ok', φ', h1, h2⟩ := h
  exact ⟨v, s', ok', φ', hk _ _ h1, h2⟩

theorem opRun_val (hE : EnvOk P E) (r : Rel B0 bx W0 ok0 Z N ok φ s a w) {g : List (Nat × Bool)} (hg : Holds a g) {o : Oper} {K : V → St → Prop} {T : List Nat} (h : aVal E s g o.op fun v => K v s) :
    OpRun P (execOp a.eval o) w (Pst B0 bx W0 ok0 Z N a (Frm T φ s w) K) := by
  obtain ⟨v, v', h1, h2, h3⟩ := aVal_sound hE r hg (o := o) (A := fun w₂ => w₂ = w) (fun _ _ _ w₂ hw _ _ => by rw [hw]) h
  unfold OpRun
  rw [h1 w rfl]
  exact ⟨v, s, ok, φ, h2, r, h3, Frm.same_hp rfl⟩

theorem aPick_sound (r : Rel B0 bx W0 ok0 Z N ok φ s a w) {g : List (Nat × Bool)} (hg : Holds a g) {c x y : Operand} {K : V → St → Prop} (h : aPick s g c x y K) :
    ∃ b, a.eval c = .bool b ∧ ∃ v s', K v s' ∧ Rel B0 bx W0 ok0 Z N ok φ s' a w ∧ VR ok φ s'.hp w v (if b then a.eval x else a.eval y) ∧ s'.hp = s.hp := by
  unfold aPick at h
  split at h
  · rename_i t
    split at h
    · rename_i hk
      exact ⟨true, r.kn t _ hk, _, s, h, r, vr_ev r hg x, rfl⟩
    · rename_i hk
      exact ⟨false, r.kn t _ hk, _, s, h, r, by simpa using vr_ev r hg y, rfl⟩
    · split at h
      · rename_i b1 b2 b3 h1 h2 h3
        have e1 : a.tmps.getD t undef = .bool b1 := by have := vr_evT r hg t; rw [h1] at this; exact vr_v this
        refine ⟨b1, e1, _, s, h, r, ?_, rfl⟩
        have hgT : ∀ b, b1 = b → Holds a ((t, b) :: g) := fun b hb u c hm => by
          rcases List.mem_cons.1 hm with hm | hm
          · simp at hm; obtain ⟨rfl, rfl⟩ := hm; rw [e1, hb]
          · exact hg u c hm
        cases b1
        · have := vr_ev r (hgT false rfl) y; rw [h3] at this; simp only [cond_false, if_false, Bool.false_eq_true]; exact this
        · have := vr_ev r (hgT true rfl) x; rw [h2] at this; simp only [cond_true, if_true]; exact this
      · rename_i va vb b1 h1 _
        have e1 : a.tmps.getD t undef = .bool b1 := by have := vr_evT r hg t; rw [h1] at this; exact vr_v this
        have hgT : ∀ b, b1 = b → Holds a ((t, b) :: g) := fun b hb u c hm => by
          rcases List.mem_cons.1 hm with hm | hm
          · simp at hm; obtain ⟨rfl, rfl⟩ := hm; rw [e1, hb]
          · exact hg u c hm
        refine ⟨b1, e1, ?_⟩
        cases b1
        · have hr := r.know e1
          exact ⟨_, _, h.2 rfl, hr, by simp only [if_false, Bool.false_eq_true]; exact vr_ev r (hgT false rfl) y, rfl⟩
        · have hr := r.know e1
          exact ⟨_, _, h.1 rfl, hr, by simp only [if_true]; exact vr_ev r (hgT true rfl) x, rfl⟩
      · exact h.elim
  · exact ⟨true, rfl, _, s, h, r, vr_ev r hg x, rfl⟩
  · exact ⟨false, rfl, _, s, h, r, by simpa using vr_ev r hg y, rfl⟩
  · exact h.elim

theorem evs_two {g : List (Nat × Bool)} {args : Array Operand} {x y : V} (h : evs s g args.toList = [x, y]) : ∃ o1 o2, args = #[o1, o2] ∧ ev s g o1 = x ∧ ev s g o2 = y := by
  have := evs_length s g args.toList
  rw [h] at this
  match hl : args.toList, this with
  | [o1, o2], _ =>
    rw [hl] at h
    simp [evs] at h
    exact ⟨o1, o2, by apply Array.ext'; simpa using hl, h.1, h.2⟩

theorem run_append_call {o : Oper} {x y : Operand} {t : TypeId} {v : Value} {w' : World} (h : (Builtin.append_ #[t, t] o.type #[a.eval x, a.eval y]).run P w = .ok v w') :
    (do let d ← resolve a.eval { callee := .builtin .append, args := #[x, y], argTypes := #[t, t] } o.type; invoke d.target d.args : Sem Next).run P w = .ok (.value v) w' := by
  simp only [resolve, invoke, builtin, Sem.run_bind, Sem.run_pure, Result.andThen_ok, List.map_toArray, List.map_cons, List.map_nil, h]

theorem OpRun.of_run {x : Sem Next} {post : Value → World → Prop} {v : Value} {w' : World} (h : x.run P w = .ok (.value v) w') (hp : post v w') : OpRun P x w post := by
  unfold OpRun; rw [h]; exact hp

theorem aHeap_sound (hE : EnvOk P E) (hC : CallsOk P Z.gl C) (hI : IOk P Z.gl I) (r : Rel B0 bx W0 ok0 Z N ok φ s a w) {g : List (Nat × Bool)} (hg : Holds a g) {o : Oper} {key : Nat} {K : V → St → Prop} (h : aHeap E C I s g key o.op K) :
    OpRun P (execOp a.eval o) w (Pst B0 bx W0 ok0 Z N a (Frm (opKeys E s g o.op) φ s w) K) := by
  unfold execOp
  generalize o.op = op at h
  cases op with
  | alloc t =>
    simp only [aHeap] at h
    split at h
    · rename_i ti hti hk
      exact OpRun.of_value (aAlloc_sound (hE.ti hti) r hk h)
    · exact h.elim
  | box t x =>
    simp only [aHeap] at h
    split at h
    · rename_i ti cs hti hk hcs
      split at h
      · exact OpRun.of_value (aBox_sound r hk (vr_ev r hg x) hcs h)
      · exact h.elim
    · exact h.elim
  | store t x y =>
    simp only [aHeap] at h
    split at h
    · rename_i ti hti
      obtain ⟨w', h1, s', ok', φ', h2, h3, h4⟩ := aStore_sound (hE.ti hti) r (vr_ev r hg x) (vr_ev r hg y) h
      exact OpRun.of_unit ⟨w', h1, .dead, s', ok', φ', h2, h3, .dead _, h4⟩
    · exact h.elim
  | buildSlice t len parts =>
    simp only [aHeap] at h
    split at h
    rotate_left
    · exact h.elim
    rename_i e hti hk
    split at h
    rotate_left
    · exact h.elim
    rename_i ei hei
    split at h
    rotate_left
    · exact h.elim
    rename_i cs hle hfill
    split at h
    rotate_left
    · exact h.elim
    rename_i ds s1 hds
    split at h
    rotate_left
    · exact h.elim
    rename_i es hes
    exact OpRun.of_value (aBuildSlice_sound (hE.ti hti) rfl (hE.ti hei) r hg hk (Nat.le_of_ble_eq_true hle) hfill hds hes h)
  | makeSlice t n c =>
    simp only [aHeap] at h
    split at h
    rotate_left
    · exact h.elim
    rename_i e n' c' hti hk hn hc
    split at h
    rotate_left
    · exact h.elim
    rename_i ei hei
    obtain ⟨h0, hnc, hby, hc1, h⟩ := h
    split at h
    rotate_left
    · exact h.elim
    rename_i z hz
    have e1 := ev_int r hg hn
    have e2 := ev_int r hg hc
    simp only [e1, e2]
    exact OpRun.of_value (aMakeSlice_sound (hE.ti hti) rfl (hE.ti hei) r hk h0 hnc hby hc1 hz h .i64 .i64)
  | call c =>
    obtain ⟨callee, args, tys⟩ := c
    cases callee with
    | invoke x m => exact (h : False).elim
    | builtin b =>
      cases b <;> first | exact (h : False).elim | skip
      simp only [aHeap] at h
      split at h
      rotate_left
      · exact h.elim
      rename_i va vb t t' hargs htys
      split at h
      rotate_left
      · exact h.elim
      rename_i e hti hbeq
      have ht : tys = #[t, t] := by
        have : t = t' := Nat.eq_of_beq_eq_true hbeq
        subst this
        apply Array.ext'; simpa using htys
      subst ht
      split at h
      rotate_left
      · exact h.elim
      rename_i ei hei
      split at h
      · exact h.elim
      rename_i hb1
      have hb1' : 1 ≤ ei.bytes := Nat.le_of_ble_eq_true hb1
      have hml2 : ∀ n : Nat, n * ei.bytes ≤ 140737488355328 → n ≤ maxLen := fun n h => by
        have : n ≤ n * ei.bytes := Nat.le_mul_of_pos_right _ hb1'
        unfold maxLen; omega
      obtain ⟨o1, o2, rfl, hv1, hv2⟩ := evs_two hargs
      have hvr2 := vr_ev r hg o2
      rw [hv2] at hvr2
      obtain ⟨new, ad, cap, ⟨hall, hk⟩, hv, hC', hnil, hsp⟩ := aList_sound r hvr2 h
      have hvr1 := vr_ev r hg o1
      rw [hv1] at hvr1
      have hopk : opKeys E s g (.call { callee := .builtin .append, args := #[o1, o2], argTypes := #[t, t] }) = ownKey va := by
        simp only [opKeys, hargs]
      rw [hopk]
      clear hopk h hargs hv1
      have hpos := (hE.ti hei).pos
      have hml : ∀ n : Nat, (n : Int) * (ei.bytes : Int) ≤ 140737488355328 → n * ei.bytes ≤ 140737488355328 := fun n h => by
        rw [← Int.natCast_mul] at h
        omega
      generalize hgx : a.eval o1 = x1 at hvr1
      split at hk
      · split at hk
        rotate_left
        · exact hk.elim
        rename_i hkey
        obtain ⟨hby, hk⟩ := hk
        cases hvr1
        obtain ⟨v', w', h1, h2⟩ := aAppendNil_sound (K := K) (hE.ti hti) rfl (hE.ti hei) r hkey hC' (fun e => by rw [← hv]; exact hnil e) hsp hall o.type (hml _ hby) (hml2 _ (hml _ hby)) hk
        refine OpRun.of_run (run_append_call ?_) h2
        rw [hgx, hv]; exact h1
      · rename_i k
        split at hk
        rotate_left
        · exact hk.elim
        rename_i e' sz es hb
        obtain ⟨rfl, rfl, hby, hk⟩ := hk
        cases hvr1
        rename_i sz0 es0 hb0 hφ
        obtain ⟨v', w', h1, h2⟩ := aAppendOwn_sound (K := K) (hE.ti hti) rfl (hE.ti hei) r hb hC' (fun e => by rw [← hv]; exact hnil e) hsp hall o.type (hml _ hby) (hml2 _ (hml _ hby)) hk
        refine OpRun.of_run (run_append_call ?_) h2
        rw [hgx, ← hφ, hv]; exact h1
      · exact hk.elim
    | value f =>
      simp only [aHeap] at h
      have hf := vr_ev r hg f
      generalize hfe' : a.eval f = fv at hf
      split at h
      rotate_left
      · exact h.elim
      rename_i fid caps hfe
      rw [hfe] at hf
      cases hf
      rename_i xs hs hr
      rw [app_eq] at h
      have hl : ((args.map a.eval).toList ++ xs.toList).length = (evs s g args.toList ++ caps).length := by simp [evs_length, hs]
      have hvs : ∀ (i : Nat) (c : V) (x : Value), (evs s g args.toList ++ caps)[i]? = some c → ((args.map a.eval).toList ++ xs.toList)[i]? = some x → VR ok φ s.hp w c x := fun i c x h1 h2 => by
        have hel : (evs s g args.toList).length = (args.map a.eval).toList.length := by rw [evs_length]; simp
        rw [List.getElem?_append] at h1 h2
        rw [hel] at h1
        split at h1
        · rename_i hlt
          rw [if_pos hlt] at h2
          exact vr_evs r hg args.toList i c x h1 (by simpa using h2)
        · rename_i hge
          rw [if_neg hge] at h2
          exact hr _ c x h1 (by simpa using h2)
      have e0 : ((args.map a.eval).toList ++ xs.toList).toArray = args.map a.eval ++ xs := by apply Array.ext'; simp only [Array.toList_append]
      split at h
      · rename_i hbw
        have hopk : opKeys E s g (.call { callee := .value f, args := args, argTypes := tys }) = [] := by
          simp only [opKeys, hfe, hbw]
        rw [hopk]
        obtain ⟨h1, _, h2⟩ := aCallB_sound hC r h
        have h2 := h2 _ hl hvs
        unfold OpRun
        rw [run_call_value h1 hfe', ← e0]
        exact h2.mono fun e w'' ⟨v', he, v, hK, hR, hV, hF⟩ => ⟨v', he, v, s, ok, φ, hK, hR, hV, hF⟩
      · rename_i hbw
        split at h
        · rename_i hin
          have hopk : opKeys E s g (.call { callee := .value f, args := args, argTypes := tys }) = allKeys s.hp := by
            simp only [opKeys, hfe, hbw, hin]
          rw [hopk]
          obtain ⟨h1, h2⟩ := hI B0 bx W0 ok0 Z N ok φ s a w fid (evs s g args.toList) caps K (args.map a.eval).toList xs.toList rfl r h (by rw [evs_length]; simp) (fun i c x h1 h2 => vr_evs r hg args.toList i c x h1 (by simpa using h2)) (by simpa using hs) (fun i c x h1 h2 => hr i c x h1 (by simpa using h2))
          unfold OpRun
          rw [run_call_value h1 hfe', ← e0]
          exact h2
        · rename_i hin
          have hopk : opKeys E s g (.call { callee := .value f, args := args, argTypes := tys }) = argKeys (evs s g args.toList ++ caps) := by
            simp only [opKeys, hfe, hbw, hin, app_eq]
          rw [hopk]
          obtain ⟨h1, h2⟩ := aCallAny_sound hC r h hl hvs
          unfold OpRun
          rw [run_call_value h1 hfe', ← e0]
          exact h2
  | _ => exact (h : False).elim

end Go.Dm
