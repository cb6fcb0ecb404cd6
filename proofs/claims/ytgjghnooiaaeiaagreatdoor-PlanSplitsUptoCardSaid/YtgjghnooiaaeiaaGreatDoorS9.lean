/- A part of the proof: contracts of functions, by a verified generator of conditions; no condition of its own. -/
import Derived.Test.YtgjghnooiaaeiaaGreatDoorS5
namespace Go.Proofs.Tryz
open Go Go.Dm Go.Ex
set_option maxRecDepth 100000
variable {gl : Nat → Option Obj}
theorem within0 {n len : Nat} {e : EX} (h : ∀ x ∈ colsE e, 0 ≤ x ∧ x < len) : withinE 0 n e = decide (sideE n e = 0) := by
 unfold withinE sideE
 rw [Bool.eq_iff_iff]
 cases h1 : (colsE e).isEmpty
 · simp only [Bool.not_false, Bool.true_and, cond_false, decide_eq_true_eq]
   have e1 : ((colsE e).all fun x => decide (0 ≤ x) && decide (x < (n : Int))) = (colsE e).all fun x => decide (x < (n : Int)) := by
     rw [Bool.eq_iff_iff, List.all_eq_true, List.all_eq_true]
     constructor
     · intro h2 x hx; have := h2 x hx; simp at this ⊢; exact this.2
     · intro h2 x hx; have := h2 x hx; have h3 := h x hx; simp at this ⊢; exact ⟨h3.1, this⟩
   rw [e1]
   cases (colsE e).all fun x => decide (x < (n : Int)) <;> simp
   cases (colsE e).all fun x => decide ((n : Int) ≤ x) <;> simp
 · simp
theorem within1 {n len : Nat} {e : EX} (h : ∀ x ∈ colsE e, 0 ≤ x ∧ x < len) : withinE n len e = decide (sideE n e = 1) := by
 unfold withinE sideE
 rw [Bool.eq_iff_iff]
 cases h1 : (colsE e).isEmpty
 · simp only [Bool.not_false, Bool.true_and, cond_false, decide_eq_true_eq]
   have e1 : ((colsE e).all fun x => decide ((n : Int) ≤ x) && decide (x < (len : Int))) = (colsE e).all fun x => decide ((n : Int) ≤ x) := by
     rw [Bool.eq_iff_iff, List.all_eq_true, List.all_eq_true]
     constructor
     · intro h2 x hx; have := h2 x hx; simp at this ⊢; exact this.1
     · intro h2 x hx; have := h2 x hx; have h3 := h x hx; simp at this ⊢; exact ⟨this, h3.2⟩
   rw [e1]
   have hne : ∃ x, x ∈ colsE e := by
     cases hc : colsE e with
     | nil => rw [hc] at h1; cases h1
     | cons a r => exact ⟨a, by simp⟩
   obtain ⟨y, hy⟩ := hne
   cases h2 : (colsE e).all fun x => decide (x < (n : Int)) <;> cases h3 : (colsE e).all fun x => decide ((n : Int) ≤ x) <;> simp
   have a1 := List.all_eq_true.1 h2 y hy
   have a2 := List.all_eq_true.1 h3 y hy
   simp at a1 a2
   omega
 · simp
theorem toP_len (n x len : Nat) : (toP n x len).length = len := by simp [toP]
theorem toP_get (n x len : Nat) (h : x < len) : (toP n x len)[x]? = some 0 := by
 unfold toP
 rw [List.getElem?_map, List.getElem?_range h]
 simp
theorem toP_set (n x len : Nat) (hn : n ≤ x) (h : x < len) : (intsD (toP n x len)).set x [D.v (.int .i64 ((x - n : Nat) : Int))] = intsD (toP n (x + 1) len) := by
 apply List.ext_getElem?
 intro i
 rw [List.getElem?_set]
 unfold toP
 simp only [List.map_map, List.length_map, List.length_range]
 by_cases e : x = i
 · subst e
   rw [if_pos rfl, if_pos h, List.getElem?_map, List.getElem?_range h]
   simp [hn]
 · rw [if_neg e, List.getElem?_map, List.getElem?_map]
   by_cases hi : i < len
   · rw [List.getElem?_range hi]
     have : (n ≤ i ∧ i < x) ↔ (n ≤ i ∧ i < x + 1) := by omega
     simp [this]
   · rw [List.getElem?_eq_none (by simpa using hi)]; rfl
theorem sides_cmp {n : Int} {t : Ty} {v : Go.Ex.AV} {a b : EX} : sidesE n (.mk 9 1 t v [a, b]) = if sideE n a = 0 ∧ sideE n b = 1 then some (a, b) else if sideE n a = 1 ∧ sideE n b = 0 then some (b, a) else none := rfl
def retS (s : SP) : List R := [.d (.sl (cellsL s.a)), .d (.sl (cellsL s.b)), .d (.sl (cellsL s.rest))]
theorem ct42 (l r : List Ty) (hlr : l.length + r.length ≤ 1000000000) : ∀ e : EX, fits e → size e ≤ 1000000000 → Ct prog gl 5 [.agg (cells e), .d (.sl (l.map Ty.cs)), .d (.sl (r.map Ty.cs))] (gives (retS (splitE l r e)))
 | .mk op sub t v args, hf, hs => by
   have hC : CallsOk prog gl C_s42 := addC_ok (addC_ok (addC_ok (addC_ok (addC_ok (addC_ok (addC_ok C_0_ok c_89t_ok) c_15_ok) c_90g_ok) c_91_ok) c_92_ok) c_25g_ok) c_93_ok
   have hcc : encX op sub t v (cellsL args) = cells (.mk op sub t v args) := (cells_mk _ _ _ _ _).symm
   have hlen : (l ++ r).length = l.length + r.length := List.length_append
   rw [cells_mk]
   refine ct_of_vc (E := E_9s) ⟨E_ok.te⟩ hC ioK_no (fun _ _ _ h => h.elim) mixed (fn := f5) (body := f5.body.getD .skip) (by kernel_rfl) (by kernel_rfl) (by kernel_rfl) (fi := fx_42 op sub t v args l r) (by kernel_rfl) (by kernel_rfl) ⟨_, _, rfl, rfl⟩ ?_
   rw [vc42]; dsimp -eta -iota -proj only [Zbh, Zbt, Zc1, Zca, Z2, Zz, Zfj, Zef, Zfl, Zc2, Zec, Zdq, Zfg, Zdp, Zbm, Zbs, Zfz, Zdx, Zk, Z1, Zd, Z9, Zy, Zu, Zey, Zc, Ze5, Z4, Zb, Zw, Zdd, Zdc, Zdb]
   refine ⟨l, r, rfl, by show l.length + r.length ≤ _; omega, _, rfl, .mk op sub t v args, l ++ r, hcc, rfl, hf, by omega, fun t1 f hk => ⟨fun h => ?_, fun h => ?_⟩⟩
   · have : splitE l r (.mk op sub t v args) = ⟨[], [], [.mk op sub t v args]⟩ := by
       unfold splitE
       rw [hk]
       have : (f == 0) = false := by simpa using h
       dsimp only
       rw [this]; rfl
     rw [this]
     simp only [retS, cellsL, cells]
     exact ⟨rfl, rfl⟩
   · have hf0 : f = 0 := by simpa using h
     subst hf0
     have hP : PartOk (l ++ r) (.mk op sub t v args) := ⟨hf, hs, by rw [hk]⟩
     have hsp : splitE l r (.mk op sub t v args) = (partsE (.mk op sub t v args)).foldl (stepS (l ++ r) l.length) ⟨[], [], []⟩ := by
       unfold splitE
       rw [hk]; rfl
     generalize hps : partsE (.mk op sub t v args) = ps at hsp ⊢
     have hpo : ∀ p ∈ ps, PartOk (l ++ r) p := by rw [← hps]; exact parts_ok _ hP
     have hpl : ps.length ≤ 1000000000 := by have := partsE_len (.mk op sub t v args); rw [hps] at this; omega
     refine ⟨by omega, Int.le_refl _, by rw [List.length_map, hlen]; omega, by rw [List.length_map, hlen]; omega, l.length, ⟨?_, r.length, Nat.le_refl _, by omega, by omega⟩, fun m (x : Nat) hx => ⟨_, rfl, fun hi => ?_, fun hi => ?_⟩⟩
     · have e1 : List.replicate (((List.map Ty.cs (l ++ r)).length : Nat) : Int).toNat [D.v (Value.int .i64 0)] = intsD (toP l.length l.length (l ++ r).length) := by
         rw [Int.toNat_natCast, List.length_map]
         apply List.ext_getElem?
         intro i
         unfold toP
         by_cases hi : i < (l ++ r).length
         · rw [List.getElem?_replicate, if_pos hi, List.getElem?_map, List.getElem?_map, List.getElem?_range hi]
           have : ¬ (l.length ≤ i ∧ i < l.length) := by omega
           simp [this]
         · rw [List.getElem?_eq_none (by simpa using hi), List.getElem?_eq_none (by simpa using hi)]
       rw [e1]
       show St.mk _ _ _ _ _ = St.mk _ _ _ _ _
       rw [List.length_map]
     · obtain ⟨h1, h2, h3⟩ := hx
       have hi := of_decide_eq_true hi
       rw [List.length_map, hlen] at hi
       have hxl : x < (l ++ r).length := by omega
       refine ⟨⟨by omega, by rw [List.length_map, toP_len]; omega⟩, rfl, [D.v (.int .i64 0)], by rw [Int.toNat_natCast, List.getElem?_map, toP_get _ _ _ hxl]; rfl, _, rfl, m - 1, x + 1, by omega, ?_, by omega, by omega, by omega⟩
       have ew : IntKind.i64.wrap ((x : Int) - ((l.map Ty.cs).length : Int)) = ((x - l.length : Nat) : Int) := by rw [List.length_map, wrap64_of (by omega) (by omega)]; omega
       rw [wrap64_of (n := (x : Int) + 1) (by omega) (by omega), ew, Int.toNat_natCast, toP_set _ _ _ h1 hxl]
       rfl
     · obtain ⟨h1, h2, h3⟩ := hx
       have hi := of_decide_eq_false hi
       rw [List.length_map, hlen] at hi
       have hxe : x = (l ++ r).length := by omega
       subst hxe
       refine ⟨.mk op sub t v args, ((l ++ r).length : Int), hcc, hf, hP.may, hs, ⟨0, [], [], []⟩, ⟨?_, ps.length, Nat.zero_le _, rfl, rfl, Nat.le_refl _, Nat.le_refl _⟩, fun m2 x hx => ⟨fun hi => ?_, fun hi => ?_⟩⟩
       · rw [hps]; rfl
       · obtain ⟨i1, i2, i3, i4, i5⟩ := hx
         have hi := of_decide_eq_true hi
         rw [cellsL_len] at hi
         have hlt : x.i < ps.length := by omega
         have hpk := hpo _ (List.getElem_mem hlt)
         obtain ⟨o1, s1, t2, v1, a1, e1, g1⟩ := arg_get hlt
         rw [e1] at hpk
         have hnx : ∀ s : SP, stepS (l ++ r) l.length ⟨x.a, x.b, x.rest⟩ (.mk o1 s1 t2 v1 a1) = s → s = (ps.take (x.i + 1)).foldl (stepS (l ++ r) l.length) ⟨[], [], []⟩ := fun s hs => by
           rw [List.take_succ_eq_append_getElem hlt, List.foldl_append, ← i3, e1]
           exact hs.symm
         refine ⟨_, rfl, ⟨by omega, by rw [cellsL_len]; omega⟩, _, g1, rfl, o1, s1, t2.k, t2.sc, v1.t.k, v1.t.sc, v1.nul, v1.n, v1.s, cellsL a1, rfl, fun h9 => ⟨fun hs1 => ?_, fun hs1 => ?_⟩, fun h9 => ⟨fun h => (by cases h), fun _ => ?_⟩⟩
         · have h9 : o1 = 9 := by simpa using h9
           have hs1 : s1 = 1 := by simpa using hs1
           subst h9; subst hs1
           obtain ⟨p0, p1, rfl, hp0, hp1⟩ := cmp_args hpk
           obtain ⟨o8, s8, t8, v8, a8, c8, g8⟩ := arg_get (l := [p0, p1]) (i := 0) (by simp)
           obtain ⟨o9, s9, t9, v9, a9, c9, g9⟩ := arg_get (l := [p0, p1]) (i := 1) (by simp)
           have c8 : p0 = .mk o8 s8 t8 v8 a8 := c8
           have c9 : p1 = .mk o9 s9 t9 v9 a9 := c9
           have w0 := within0 (n := l.length) hp0.cols
           have w1 := within0 (n := l.length) hp1.cols
           have x0 := within1 (n := l.length) hp0.cols
           have x1 := within1 (n := l.length) hp1.cols
           refine ⟨_, rfl, ⟨by omega, by simp [cellsL]⟩, _, g8, rfl, o8, s8, t8.k, t8.sc, v8.t.k, v8.t.sc, v8.nul, v8.n, v8.s, cellsL a8, rfl, _, rfl, ⟨by omega, by simp [cellsL]⟩, _, g9, rfl, o9, s9, t9.k, t9.sc, v9.t.k, v9.t.sc, v9.nul, v9.n, v9.s, cellsL a9, rfl, ?_, ?_⟩
           all_goals
             refine ⟨p1, (l ++ r).length, by rw [c9, cells_mk]; rfl, hp1.fit, by omega, hp1.cols, fun hw => ?_, fun hw => ?_⟩
             · have hs1p : sideE l.length p1 = 0 := by
                 rw [List.length_map, w1] at hw
                 exact of_decide_eq_true hw
               refine ⟨p1, l ++ r, by rw [c9, cells_mk]; rfl, rfl, hp1.fit, by omega, fun tP fP hkP => ⟨p0, l ++ r, by rw [c8, cells_mk]; rfl, rfl, hp0.fit, by omega, fun tQ fQ hkQ => ⟨tP, tQ, rfl, by have := hp1.good; rw [hkP] at this; exact this, by have := hp0.good; rw [hkQ] at this; exact this, fun u ok hok hu => ⟨fun hoT => ?_, fun hoF => ?_⟩⟩⟩⟩
               · subst hok
                 have hu := hu hoT
                 have hkP1 : (checkE (l ++ r) p1).1 = tP := by rw [hkP]
                 have hkQ1 : (checkE (l ++ r) p0).1 = tQ := by rw [hkQ]
                 have hTf : (cfold tP [tQ]).2 = false → stepS (l ++ r) l.length ⟨x.a, x.b, x.rest⟩ (.mk 9 1 t2 v1 [p0, p1]) = ⟨x.a, x.b, restE (.mk 9 1 t2 v1 [p0, p1]) x.rest⟩ := fun hc => by
                   rcases hS : sidesE l.length (.mk 9 1 t2 v1 [p0, p1]) with _ | ⟨p, q⟩
                   · simp only [stepS, hS]
                   · have : p = p1 ∧ q = p0 := by
                       rw [sides_cmp] at hS
                       rw [hs1p] at hS
                       by_cases hq : sideE l.length p0 = 1
                       · simp [hq] at hS; exact ⟨hS.1.symm, hS.2.symm⟩
                       · simp [hq] at hS
                     obtain ⟨rfl, rfl⟩ := this
                     simp only [stepS, hS]
                     rw [hkP1, hkQ1, hc]; rfl
                 refine ⟨p1, (l ++ r).length, by rw [c9, cells_mk]; rfl, hp1.fit, by omega, hp1.cols, fun hw2 => ⟨_, rfl, p0, (l ++ r).length, by rw [c8, cells_mk]; rfl, hp0.fit, by omega, hp0.cols, fun hx => ?_, fun hx => ?_⟩, fun hw2 => ⟨fun h => (by cases h), fun _ => ?_⟩⟩
                 · rw [List.length_map, w1] at hw2
                   rw [List.length_map, List.length_map, x0] at hx
                   have hw2 := of_decide_eq_true hw2
                   have hx := of_decide_eq_true hx
                   have hS : sidesE l.length (.mk 9 1 t2 v1 [p0, p1]) = some (p1, p0) := by simp [sidesE, hw2, hx]
                   have hA : stepS (l ++ r) l.length ⟨x.a, x.b, x.rest⟩ (.mk 9 1 t2 v1 [p0, p1]) = ⟨x.a ++ [asE p1 tP u], x.b ++ [asE (shR (shiftE (toP l.length (l ++ r).length (l ++ r).length) p0)).1 tQ u], x.rest⟩ := by
                     simp only [stepS, hS]
                     rw [hkP1, hkQ1, hoT, hu]; rfl
                   refine ⟨p0, toP l.length (l ++ r).length (l ++ r).length, by rw [c8, cells_mk]; rfl, rfl, hp0.fit, by rw [toP_len]; omega, fun o4 s4 t4 v4 a4 w4 hsh => ⟨p1, tP, u, by rw [c9, cells_mk]; rfl, rfl, rfl, fun o5 s5 t5 v5 a5 has => ⟨fun c hc => by rw [List.mem_singleton.1 hc]; rfl, rfl, rfl, ?_, EX.mk o4 s4 t4 v4 a4, tQ, u, by rw [cells_mk]; rfl, rfl, rfl, fun o6 s6 t6 v6 a6 hbs => ⟨fun c hc => by rw [List.mem_singleton.1 hc]; rfl, rfl, rfl, ?_, m2 - 1, ⟨x.i + 1, x.a ++ [EX.mk o5 s5 t5 v5 a5], x.b ++ [EX.mk o6 s6 t6 v6 a6], x.rest⟩, by omega, ?_, by show x.i + 1 ≤ _; omega, by show m2 - 1 = _ - (x.i + 1); omega, hnx _ ?_, by show (x.a ++ [_]).length ≤ x.i + 1; rw [List.length_append]; simp; omega, by show (x.b ++ [_]).length ≤ x.i + 1; rw [List.length_append]; simp; omega⟩⟩⟩⟩
                   · rw [cellsL_len]; omega
                   · rw [cellsL_len]; omega
                   · rw [wrap64_of (n := (x.i : Int) + 1) (by omega) (by omega)]
                     show _ = St.mk _ _ _ _ _
                     rw [cellsL_append, cellsL_append]
                     simp only [cellsL, cells]
                     rfl
                   · rw [hA, hsh, has]
                     dsimp only
                     rw [hbs]
                 · rw [List.length_map, w1] at hw2
                   rw [List.length_map, List.length_map, x0] at hx
                   have hw2 := of_decide_eq_true hw2
                   have hx := of_decide_eq_false hx
                   have hS : sidesE l.length (.mk 9 1 t2 v1 [p0, p1]) = none := by simp [sidesE, hw2, hx]
                   refine ⟨_, rfl, fun hr => ?_, fun hr => ?_⟩
                   · rw [cellsL_len] at hr
                     obtain ⟨y, yr, hyr⟩ : ∃ y yr, x.rest = y :: yr := by
                       cases hxr : x.rest with
                       | nil => rw [hxr] at hr; simp at hr
                       | cons y yr => exact ⟨y, yr, rfl⟩
                     obtain ⟨o3, s3, t3, v3, a3⟩ := y
                     have hg3 : (cellsL x.rest)[Int.toNat 0]? = some (encX o3 s3 t3 v3 (cellsL a3)) := by rw [hyr]; simp only [cellsL, cells_mk]; rfl
                     refine ⟨_, rfl, ⟨by omega, by rw [cellsL_len, hyr]; simp⟩, _, hg3, rfl, o3, s3, t3.k, t3.sc, v3.t.k, v3.t.sc, v3.nul, v3.n, v3.s, cellsL a3, rfl, m2 - 1, ⟨x.i + 1, x.a, x.b, restE (.mk 9 1 t2 v1 [p0, p1]) x.rest⟩, by omega, ?_, by show x.i + 1 ≤ _; omega, by show m2 - 1 = _ - (x.i + 1); omega, hnx _ (by simp only [stepS, hS]), by show x.a.length ≤ x.i + 1; omega, by show x.b.length ≤ x.i + 1; omega⟩
                     rw [wrap64_of (n := (x.i : Int) + 1) (by omega) (by omega)]
                     show _ = St.mk _ _ _ _ _
                     rw [hyr]
                     simp only [restE, andE, cellsL, cells]
                     rfl
                   · rw [cellsL_len] at hr
                     have hyr : x.rest = [] := by
                       cases hxr : x.rest with
                       | nil => rfl
                       | cons y yr => rw [hxr] at hr; simp at hr
                     refine ⟨m2 - 1, ⟨x.i + 1, x.a, x.b, restE (.mk 9 1 t2 v1 [p0, p1]) x.rest⟩, by omega, ?_, by show x.i + 1 ≤ _; omega, by show m2 - 1 = _ - (x.i + 1); omega, hnx _ (by simp only [stepS, hS]), by show x.a.length ≤ x.i + 1; omega, by show x.b.length ≤ x.i + 1; omega⟩
                     rw [wrap64_of (n := (x.i : Int) + 1) (by omega) (by omega)]
                     show _ = St.mk _ _ _ _ _
                     rw [hyr]
                     simp only [restE, cellsL, cells]
                     rfl
                 · rw [hw] at hw2; cases hw2
               · refine ⟨fun h => (by cases h), fun _ => ⟨fun h => (by cases h), fun _ => ?_⟩⟩
                 subst hok
                 have hoF : (cfold tP [tQ]).2 = false := by simpa using hoF
                 have hkP1 : (checkE (l ++ r) p1).1 = tP := by rw [hkP]
                 have hkQ1 : (checkE (l ++ r) p0).1 = tQ := by rw [hkQ]
                 have hTf : (cfold tP [tQ]).2 = false → stepS (l ++ r) l.length ⟨x.a, x.b, x.rest⟩ (.mk 9 1 t2 v1 [p0, p1]) = ⟨x.a, x.b, restE (.mk 9 1 t2 v1 [p0, p1]) x.rest⟩ := fun hc => by
                   rcases hS : sidesE l.length (.mk 9 1 t2 v1 [p0, p1]) with _ | ⟨p, q⟩
                   · simp only [stepS, hS]
                   · have : p = p1 ∧ q = p0 := by
                       rw [sides_cmp] at hS
                       rw [hs1p] at hS
                       by_cases hq : sideE l.length p0 = 1
                       · simp [hq] at hS; exact ⟨hS.1.symm, hS.2.symm⟩
                       · simp [hq] at hS
                     obtain ⟨rfl, rfl⟩ := this
                     simp only [stepS, hS]
                     rw [hkP1, hkQ1, hc]; rfl
                 refine ⟨_, rfl, fun hr => ?_, fun hr => ?_⟩
                 · rw [cellsL_len] at hr
                   obtain ⟨y, yr, hyr⟩ : ∃ y yr, x.rest = y :: yr := by
                     cases hxr : x.rest with
                     | nil => rw [hxr] at hr; simp at hr
                     | cons y yr => exact ⟨y, yr, rfl⟩
                   obtain ⟨o3, s3, t3, v3, a3⟩ := y
                   have hg3 : (cellsL x.rest)[Int.toNat 0]? = some (encX o3 s3 t3 v3 (cellsL a3)) := by rw [hyr]; simp only [cellsL, cells_mk]; rfl
                   refine ⟨_, rfl, ⟨by omega, by rw [cellsL_len, hyr]; simp⟩, _, hg3, rfl, o3, s3, t3.k, t3.sc, v3.t.k, v3.t.sc, v3.nul, v3.n, v3.s, cellsL a3, rfl, m2 - 1, ⟨x.i + 1, x.a, x.b, restE (.mk 9 1 t2 v1 [p0, p1]) x.rest⟩, by omega, ?_, by show x.i + 1 ≤ _; omega, by show m2 - 1 = _ - (x.i + 1); omega, hnx _ (hTf hoF), by show x.a.length ≤ x.i + 1; omega, by show x.b.length ≤ x.i + 1; omega⟩
                   rw [wrap64_of (n := (x.i : Int) + 1) (by omega) (by omega)]
                   show _ = St.mk _ _ _ _ _
                   rw [hyr]
                   simp only [restE, andE, cellsL, cells]
                   rfl
                 · rw [cellsL_len] at hr
                   have hyr : x.rest = [] := by
                     cases hxr : x.rest with
                     | nil => rfl
                     | cons y yr => rw [hxr] at hr; simp at hr
                   refine ⟨m2 - 1, ⟨x.i + 1, x.a, x.b, restE (.mk 9 1 t2 v1 [p0, p1]) x.rest⟩, by omega, ?_, by show x.i + 1 ≤ _; omega, by show m2 - 1 = _ - (x.i + 1); omega, hnx _ (hTf hoF), by show x.a.length ≤ x.i + 1; omega, by show x.b.length ≤ x.i + 1; omega⟩
                   rw [wrap64_of (n := (x.i : Int) + 1) (by omega) (by omega)]
                   show _ = St.mk _ _ _ _ _
                   rw [hyr]
                   simp only [restE, cellsL, cells]
                   rfl
             · have hs1p : ¬ sideE l.length p1 = 0 := by
                 rw [List.length_map, w1] at hw
                 exact of_decide_eq_false hw
               refine ⟨p0, l ++ r, by rw [c8, cells_mk]; rfl, rfl, hp0.fit, by omega, fun tP fP hkP => ⟨p1, l ++ r, by rw [c9, cells_mk]; rfl, rfl, hp1.fit, by omega, fun tQ fQ hkQ => ⟨tP, tQ, rfl, by have := hp0.good; rw [hkP] at this; exact this, by have := hp1.good; rw [hkQ] at this; exact this, fun u ok hok hu => ⟨fun hoT => ?_, fun hoF => ?_⟩⟩⟩⟩
               · subst hok
                 have hu := hu hoT
                 have hkP1 : (checkE (l ++ r) p0).1 = tP := by rw [hkP]
                 have hkQ1 : (checkE (l ++ r) p1).1 = tQ := by rw [hkQ]
                 have hTf : (cfold tP [tQ]).2 = false → stepS (l ++ r) l.length ⟨x.a, x.b, x.rest⟩ (.mk 9 1 t2 v1 [p0, p1]) = ⟨x.a, x.b, restE (.mk 9 1 t2 v1 [p0, p1]) x.rest⟩ := fun hc => by
                   rcases hS : sidesE l.length (.mk 9 1 t2 v1 [p0, p1]) with _ | ⟨p, q⟩
                   · simp only [stepS, hS]
                   · have : p = p0 ∧ q = p1 := by
                       rw [sides_cmp] at hS
                       by_cases hq : sideE l.length p0 = 0 ∧ sideE l.length p1 = 1
                       · rw [if_pos hq] at hS; simp at hS; exact ⟨hS.1.symm, hS.2.symm⟩
                       · rw [if_neg hq, if_neg (fun h => hs1p h.2)] at hS; cases hS
                     obtain ⟨rfl, rfl⟩ := this
                     simp only [stepS, hS]
                     rw [hkP1, hkQ1, hc]; rfl
                 refine ⟨p0, (l ++ r).length, by rw [c8, cells_mk]; rfl, hp0.fit, by omega, hp0.cols, fun hw2 => ⟨_, rfl, p1, (l ++ r).length, by rw [c9, cells_mk]; rfl, hp1.fit, by omega, hp1.cols, fun hx => ?_, fun hx => ?_⟩, fun hw2 => ⟨fun h => (by cases h), fun _ => ?_⟩⟩
                 · rw [List.length_map, w0] at hw2
                   rw [List.length_map, List.length_map, x1] at hx
                   have hw2 := of_decide_eq_true hw2
                   have hx := of_decide_eq_true hx
                   have hS : sidesE l.length (.mk 9 1 t2 v1 [p0, p1]) = some (p0, p1) := by simp [sidesE, hw2, hx]
                   have hA : stepS (l ++ r) l.length ⟨x.a, x.b, x.rest⟩ (.mk 9 1 t2 v1 [p0, p1]) = ⟨x.a ++ [asE p0 tP u], x.b ++ [asE (shR (shiftE (toP l.length (l ++ r).length (l ++ r).length) p1)).1 tQ u], x.rest⟩ := by
                     simp only [stepS, hS]
                     rw [hkP1, hkQ1, hoT, hu]; rfl
                   refine ⟨p1, toP l.length (l ++ r).length (l ++ r).length, by rw [c9, cells_mk]; rfl, rfl, hp1.fit, by rw [toP_len]; omega, fun o4 s4 t4 v4 a4 w4 hsh => ⟨p0, tP, u, by rw [c8, cells_mk]; rfl, rfl, rfl, fun o5 s5 t5 v5 a5 has => ⟨fun c hc => by rw [List.mem_singleton.1 hc]; rfl, rfl, rfl, ?_, EX.mk o4 s4 t4 v4 a4, tQ, u, by rw [cells_mk]; rfl, rfl, rfl, fun o6 s6 t6 v6 a6 hbs => ⟨fun c hc => by rw [List.mem_singleton.1 hc]; rfl, rfl, rfl, ?_, m2 - 1, ⟨x.i + 1, x.a ++ [EX.mk o5 s5 t5 v5 a5], x.b ++ [EX.mk o6 s6 t6 v6 a6], x.rest⟩, by omega, ?_, by show x.i + 1 ≤ _; omega, by show m2 - 1 = _ - (x.i + 1); omega, hnx _ ?_, by show (x.a ++ [_]).length ≤ x.i + 1; rw [List.length_append]; simp; omega, by show (x.b ++ [_]).length ≤ x.i + 1; rw [List.length_append]; simp; omega⟩⟩⟩⟩
                   · rw [cellsL_len]; omega
                   · rw [cellsL_len]; omega
                   · rw [wrap64_of (n := (x.i : Int) + 1) (by omega) (by omega)]
                     show _ = St.mk _ _ _ _ _
                     rw [cellsL_append, cellsL_append]
                     simp only [cellsL, cells]
                     rfl
                   · rw [hA, hsh, has]
                     dsimp only
                     rw [hbs]
                 · rw [List.length_map, w0] at hw2
                   rw [List.length_map, List.length_map, x1] at hx
                   have hw2 := of_decide_eq_true hw2
                   have hx := of_decide_eq_false hx
                   have hS : sidesE l.length (.mk 9 1 t2 v1 [p0, p1]) = none := by simp [sidesE, hw2, hx]
                   refine ⟨_, rfl, fun hr => ?_, fun hr => ?_⟩
                   · rw [cellsL_len] at hr
                     obtain ⟨y, yr, hyr⟩ : ∃ y yr, x.rest = y :: yr := by
                       cases hxr : x.rest with
                       | nil => rw [hxr] at hr; simp at hr
                       | cons y yr => exact ⟨y, yr, rfl⟩
                     obtain ⟨o3, s3, t3, v3, a3⟩ := y
                     have hg3 : (cellsL x.rest)[Int.toNat 0]? = some (encX o3 s3 t3 v3 (cellsL a3)) := by rw [hyr]; simp only [cellsL, cells_mk]; rfl
                     refine ⟨_, rfl, ⟨by omega, by rw [cellsL_len, hyr]; simp⟩, _, hg3, rfl, o3, s3, t3.k, t3.sc, v3.t.k, v3.t.sc, v3.nul, v3.n, v3.s, cellsL a3, rfl, m2 - 1, ⟨x.i + 1, x.a, x.b, restE (.mk 9 1 t2 v1 [p0, p1]) x.rest⟩, by omega, ?_, by show x.i + 1 ≤ _; omega, by show m2 - 1 = _ - (x.i + 1); omega, hnx _ (by simp only [stepS, hS]), by show x.a.length ≤ x.i + 1; omega, by show x.b.length ≤ x.i + 1; omega⟩
                     rw [wrap64_of (n := (x.i : Int) + 1) (by omega) (by omega)]
                     show _ = St.mk _ _ _ _ _
                     rw [hyr]
                     simp only [restE, andE, cellsL, cells]
                     rfl
                   · rw [cellsL_len] at hr
                     have hyr : x.rest = [] := by
                       cases hxr : x.rest with
                       | nil => rfl
                       | cons y yr => rw [hxr] at hr; simp at hr
                     refine ⟨m2 - 1, ⟨x.i + 1, x.a, x.b, restE (.mk 9 1 t2 v1 [p0, p1]) x.rest⟩, by omega, ?_, by show x.i + 1 ≤ _; omega, by show m2 - 1 = _ - (x.i + 1); omega, hnx _ (by simp only [stepS, hS]), by show x.a.length ≤ x.i + 1; omega, by show x.b.length ≤ x.i + 1; omega⟩
                     rw [wrap64_of (n := (x.i : Int) + 1) (by omega) (by omega)]
                     show _ = St.mk _ _ _ _ _
                     rw [hyr]
                     simp only [restE, cellsL, cells]
                     rfl
                 · rw [List.length_map, w0] at hw2
                   have hw2 := of_decide_eq_false hw2
                   have hS : sidesE l.length (.mk 9 1 t2 v1 [p0, p1]) = none := by simp [sidesE, hw2, hs1p]
                   refine ⟨_, rfl, fun hr => ?_, fun hr => ?_⟩
                   · rw [cellsL_len] at hr
                     obtain ⟨y, yr, hyr⟩ : ∃ y yr, x.rest = y :: yr := by
                       cases hxr : x.rest with
                       | nil => rw [hxr] at hr; simp at hr
                       | cons y yr => exact ⟨y, yr, rfl⟩
                     obtain ⟨o3, s3, t3, v3, a3⟩ := y
                     have hg3 : (cellsL x.rest)[Int.toNat 0]? = some (encX o3 s3 t3 v3 (cellsL a3)) := by rw [hyr]; simp only [cellsL, cells_mk]; rfl
                     refine ⟨_, rfl, ⟨by omega, by rw [cellsL_len, hyr]; simp⟩, _, hg3, rfl, o3, s3, t3.k, t3.sc, v3.t.k, v3.t.sc, v3.nul, v3.n, v3.s, cellsL a3, rfl, m2 - 1, ⟨x.i + 1, x.a, x.b, restE (.mk 9 1 t2 v1 [p0, p1]) x.rest⟩, by omega, ?_, by show x.i + 1 ≤ _; omega, by show m2 - 1 = _ - (x.i + 1); omega, hnx _ (by simp only [stepS, hS]), by show x.a.length ≤ x.i + 1; omega, by show x.b.length ≤ x.i + 1; omega⟩
                     rw [wrap64_of (n := (x.i : Int) + 1) (by omega) (by omega)]
                     show _ = St.mk _ _ _ _ _
                     rw [hyr]
                     simp only [restE, andE, cellsL, cells]
                     rfl
                   · rw [cellsL_len] at hr
                     have hyr : x.rest = [] := by
                       cases hxr : x.rest with
                       | nil => rfl
                       | cons y yr => rw [hxr] at hr; simp at hr
                     refine ⟨m2 - 1, ⟨x.i + 1, x.a, x.b, restE (.mk 9 1 t2 v1 [p0, p1]) x.rest⟩, by omega, ?_, by show x.i + 1 ≤ _; omega, by show m2 - 1 = _ - (x.i + 1); omega, hnx _ (by simp only [stepS, hS]), by show x.a.length ≤ x.i + 1; omega, by show x.b.length ≤ x.i + 1; omega⟩
                     rw [wrap64_of (n := (x.i : Int) + 1) (by omega) (by omega)]
                     show _ = St.mk _ _ _ _ _
                     rw [hyr]
                     simp only [restE, cellsL, cells]
                     rfl
               · refine ⟨fun h => (by cases h), fun _ => ⟨fun h => (by cases h), fun _ => ?_⟩⟩
                 subst hok
                 have hoF : (cfold tP [tQ]).2 = false := by simpa using hoF
                 have hkP1 : (checkE (l ++ r) p0).1 = tP := by rw [hkP]
                 have hkQ1 : (checkE (l ++ r) p1).1 = tQ := by rw [hkQ]
                 have hTf : (cfold tP [tQ]).2 = false → stepS (l ++ r) l.length ⟨x.a, x.b, x.rest⟩ (.mk 9 1 t2 v1 [p0, p1]) = ⟨x.a, x.b, restE (.mk 9 1 t2 v1 [p0, p1]) x.rest⟩ := fun hc => by
                   rcases hS : sidesE l.length (.mk 9 1 t2 v1 [p0, p1]) with _ | ⟨p, q⟩
                   · simp only [stepS, hS]
                   · have : p = p0 ∧ q = p1 := by
                       rw [sides_cmp] at hS
                       by_cases hq : sideE l.length p0 = 0 ∧ sideE l.length p1 = 1
                       · rw [if_pos hq] at hS; simp at hS; exact ⟨hS.1.symm, hS.2.symm⟩
                       · rw [if_neg hq, if_neg (fun h => hs1p h.2)] at hS; cases hS
                     obtain ⟨rfl, rfl⟩ := this
                     simp only [stepS, hS]
                     rw [hkP1, hkQ1, hc]; rfl
                 refine ⟨_, rfl, fun hr => ?_, fun hr => ?_⟩
                 · rw [cellsL_len] at hr
                   obtain ⟨y, yr, hyr⟩ : ∃ y yr, x.rest = y :: yr := by
                     cases hxr : x.rest with
                     | nil => rw [hxr] at hr; simp at hr
                     | cons y yr => exact ⟨y, yr, rfl⟩
                   obtain ⟨o3, s3, t3, v3, a3⟩ := y
                   have hg3 : (cellsL x.rest)[Int.toNat 0]? = some (encX o3 s3 t3 v3 (cellsL a3)) := by rw [hyr]; simp only [cellsL, cells_mk]; rfl
                   refine ⟨_, rfl, ⟨by omega, by rw [cellsL_len, hyr]; simp⟩, _, hg3, rfl, o3, s3, t3.k, t3.sc, v3.t.k, v3.t.sc, v3.nul, v3.n, v3.s, cellsL a3, rfl, m2 - 1, ⟨x.i + 1, x.a, x.b, restE (.mk 9 1 t2 v1 [p0, p1]) x.rest⟩, by omega, ?_, by show x.i + 1 ≤ _; omega, by show m2 - 1 = _ - (x.i + 1); omega, hnx _ (hTf hoF), by show x.a.length ≤ x.i + 1; omega, by show x.b.length ≤ x.i + 1; omega⟩
                   rw [wrap64_of (n := (x.i : Int) + 1) (by omega) (by omega)]
                   show _ = St.mk _ _ _ _ _
                   rw [hyr]
                   simp only [restE, andE, cellsL, cells]
                   rfl
                 · rw [cellsL_len] at hr
                   have hyr : x.rest = [] := by
                     cases hxr : x.rest with
                     | nil => rfl
                     | cons y yr => rw [hxr] at hr; simp at hr
                   refine ⟨m2 - 1, ⟨x.i + 1, x.a, x.b, restE (.mk 9 1 t2 v1 [p0, p1]) x.rest⟩, by omega, ?_, by show x.i + 1 ≤ _; omega, by show m2 - 1 = _ - (x.i + 1); omega, hnx _ (hTf hoF), by show x.a.length ≤ x.i + 1; omega, by show x.b.length ≤ x.i + 1; omega⟩
                   rw [wrap64_of (n := (x.i : Int) + 1) (by omega) (by omega)]
                   show _ = St.mk _ _ _ _ _
                   rw [hyr]
                   simp only [restE, cellsL, cells]
                   rfl
         · have hN : sidesE l.length (.mk o1 s1 t2 v1 a1) = none := by
             have : s1 ≠ 1 := by simpa using hs1
             unfold sidesE
             split
             · rename_i he; injection he with q1 q2; exact absurd q2 this
             · rfl
           refine ⟨_, rfl, fun hr => ?_, fun hr => ?_⟩
           · rw [cellsL_len] at hr
             obtain ⟨y, yr, hyr⟩ : ∃ y yr, x.rest = y :: yr := by
               cases hxr : x.rest with
               | nil => rw [hxr] at hr; simp at hr
               | cons y yr => exact ⟨y, yr, rfl⟩
             obtain ⟨o3, s3, t3, v3, a3⟩ := y
             have hg3 : (cellsL x.rest)[Int.toNat 0]? = some (encX o3 s3 t3 v3 (cellsL a3)) := by rw [hyr]; simp only [cellsL, cells_mk]; rfl
             refine ⟨_, rfl, ⟨by omega, by rw [cellsL_len, hyr]; simp⟩, _, hg3, rfl, o3, s3, t3.k, t3.sc, v3.t.k, v3.t.sc, v3.nul, v3.n, v3.s, cellsL a3, rfl, m2 - 1, ⟨x.i + 1, x.a, x.b, restE (.mk o1 s1 t2 v1 a1) x.rest⟩, by omega, ?_, by show x.i + 1 ≤ _; omega, by show m2 - 1 = _ - (x.i + 1); omega, hnx _ (by simp only [stepS, hN]), by show x.a.length ≤ x.i + 1; omega, by show x.b.length ≤ x.i + 1; omega⟩
             rw [wrap64_of (n := (x.i : Int) + 1) (by omega) (by omega)]
             show _ = St.mk _ _ _ _ _
             rw [hyr]
             simp only [restE, andE, cellsL, cells]
             rfl
           · rw [cellsL_len] at hr
             have hyr : x.rest = [] := by
               cases hxr : x.rest with
               | nil => rfl
               | cons y yr => rw [hxr] at hr; simp at hr
             refine ⟨m2 - 1, ⟨x.i + 1, x.a, x.b, restE (.mk o1 s1 t2 v1 a1) x.rest⟩, by omega, ?_, by show x.i + 1 ≤ _; omega, by show m2 - 1 = _ - (x.i + 1); omega, hnx _ (by simp only [stepS, hN]), by show x.a.length ≤ x.i + 1; omega, by show x.b.length ≤ x.i + 1; omega⟩
             rw [wrap64_of (n := (x.i : Int) + 1) (by omega) (by omega)]
             show _ = St.mk _ _ _ _ _
             rw [hyr]
             simp only [restE, cellsL, cells]
             rfl
         · have hN : sidesE l.length (.mk o1 s1 t2 v1 a1) = none := by
             have : o1 ≠ 9 := by simpa using h9
             unfold sidesE
             split
             · rename_i he; injection he with q1 q2; exact absurd q1 this
             · rfl
           refine ⟨_, rfl, fun hr => ?_, fun hr => ?_⟩
           · rw [cellsL_len] at hr
             obtain ⟨y, yr, hyr⟩ : ∃ y yr, x.rest = y :: yr := by
               cases hxr : x.rest with
               | nil => rw [hxr] at hr; simp at hr
               | cons y yr => exact ⟨y, yr, rfl⟩
             obtain ⟨o3, s3, t3, v3, a3⟩ := y
             have hg3 : (cellsL x.rest)[Int.toNat 0]? = some (encX o3 s3 t3 v3 (cellsL a3)) := by rw [hyr]; simp only [cellsL, cells_mk]; rfl
             refine ⟨_, rfl, ⟨by omega, by rw [cellsL_len, hyr]; simp⟩, _, hg3, rfl, o3, s3, t3.k, t3.sc, v3.t.k, v3.t.sc, v3.nul, v3.n, v3.s, cellsL a3, rfl, m2 - 1, ⟨x.i + 1, x.a, x.b, restE (.mk o1 s1 t2 v1 a1) x.rest⟩, by omega, ?_, by show x.i + 1 ≤ _; omega, by show m2 - 1 = _ - (x.i + 1); omega, hnx _ (by simp only [stepS, hN]), by show x.a.length ≤ x.i + 1; omega, by show x.b.length ≤ x.i + 1; omega⟩
             rw [wrap64_of (n := (x.i : Int) + 1) (by omega) (by omega)]
             show _ = St.mk _ _ _ _ _
             rw [hyr]
             simp only [restE, andE, cellsL, cells]
             rfl
           · rw [cellsL_len] at hr
             have hyr : x.rest = [] := by
               cases hxr : x.rest with
               | nil => rfl
               | cons y yr => rw [hxr] at hr; simp at hr
             refine ⟨m2 - 1, ⟨x.i + 1, x.a, x.b, restE (.mk o1 s1 t2 v1 a1) x.rest⟩, by omega, ?_, by show x.i + 1 ≤ _; omega, by show m2 - 1 = _ - (x.i + 1); omega, hnx _ (by simp only [stepS, hN]), by show x.a.length ≤ x.i + 1; omega, by show x.b.length ≤ x.i + 1; omega⟩
             rw [wrap64_of (n := (x.i : Int) + 1) (by omega) (by omega)]
             show _ = St.mk _ _ _ _ _
             rw [hyr]
             simp only [restE, cellsL, cells]
             rfl
       · obtain ⟨i1, i2, i3, i4, i5⟩ := hx
         have hi := of_decide_eq_false hi
         rw [cellsL_len] at hi
         have hxe : x.i = ps.length := by omega
         rw [hxe, List.take_length] at i3
         rw [hsp, ← i3]
         exact ⟨rfl, rfl⟩
end Go.Proofs.Tryz
namespace Go.Proofs.Tryz
open Go Go.Dm Go.Ex
set_option maxRecDepth 100000
variable {gl : Nat → Option Obj}
def C_s43 : CallT := addC (addC (addC (addC (addC (addC C_0 9 c_23) 22 c_94g) 23 c_95) 24 c_96s) 25 c_25g) 26 c_97
def toR (n x : Nat) : List Int := (List.range x).map fun i => ((i - n : Nat) : Int)
def st_43a (op sub : Int) (t : Ty) (v : Go.Ex.AV) (args : List EX) (l r : List Ty) (x : Nat) : St := { tm := [(1, .d (.sl (l.map Ty.cs))), (3, .ref 3 0), (6, .nil), (7, .nil), (8, .nil), (9, .d (.sl ((l ++ r).map Ty.cs))), (12, .own 50012), (13, .d (.v (.int .i64 (x : Int))))], hp := [(3, .box [.d (.v (.int .i64 op)), .d (.v (.int .i64 sub)), .d (.v (.int .i64 t.k)), .d (.v (.int .i64 t.sc)), .d (.v (.int .i64 v.t.k)), .d (.v (.int .i64 v.t.sc)), .d (.v (.bool v.nul)), .d (.v (.int .i64 v.n)), .d (.v (.string v.s)), .d (.sl (cellsL args))]), (50012, .lst 3 1 (intsD (toR l.length x)))], kn := [], gd := [] }
def inv_43a (l r : List Ty) (m : Nat) (x : Nat) : Prop := x ≤ l.length + r.length ∧ m = l.length + r.length - x
def st_43b (op sub : Int) (t : Ty) (v : Go.Ex.AV) (args : List EX) (l r : List Ty) (x : SX42) : St := { tm := [(1, .d (.sl (l.map Ty.cs))), (6, .nil), (7, .nil), (8, .nil), (9, .d (.sl ((l ++ r).map Ty.cs))), (12, .d (.sl (intsD (toR l.length (l ++ r).length)))), (14, .own 50014), (15, .own 50015), (16, .d (.sl (cellsL x.rest))), (17, .d (.sl (cellsL (partsE (.mk op sub t v args))))), (18, .d (.v (.int .i64 (x.i : Int))))], hp := [(50014, .lst 28 10 (cellsL x.a)), (50015, .lst 28 10 (cellsL x.b))], kn := [], gd := [] }
def fx_43 (op sub : Int) (t : Ty) (v : Go.Ex.AV) (args : List EX) (l r : List Ty) : Fi := { fi6 with lp := [(7, ([1, 3, 6, 7, 8, 9, 12, 13], [10, 54, 55])), (13, ([1, 6, 7, 8, 9, 12, 14, 15, 16, 17, 18], [3, 19, 20, 21, 22, 24, 26, 83, 90, 105, 118, 124, 130, 131, 138, 145, 146, 147, 152, 153, 154, 164]))], cv := [(7, [⟨none, 0, 29, 0, 0⟩, ⟨none, 12, 50012, 3, 1⟩]), (13, [⟨none, 0, 50012, 0, 0⟩, ⟨none, 0, 57, 0, 0⟩, ⟨none, 14, 50014, 28, 10⟩, ⟨none, 15, 50015, 28, 10⟩, ⟨none, 16, 50016, 28, 10⟩, ⟨none, 0, 50016, 0, 0⟩, ⟨none, 0, 159, 0, 0⟩, ⟨none, 0, 166, 0, 0⟩])], lx := [(7, { X := Nat, sh := st_43a op sub t v args l r, P := fun _ => inv_43a l r }), (13, { X := SX42, sh := st_43b op sub t v args l r, P := fun _ => inv_42b (l ++ r) l.length (partsE (.mk op sub t v args)) })] }
def Zc9 (a0 a1 : List Ty) (a2 : Nat) (a3 a4 : Int) (a5 : Ty) (a6 : Go.Ex.AV) (a7 : List EX) : St := { tm := [(1, .d (.sl (List.map Ty.cs a0))), (3, .ref 3 0), (6, .nil), (7, .nil), (8, .nil), (9, .d (.sl (List.map Ty.cs (a0 ++ a1)))), (12, .own 50012), (13, .i (↑a2 : Int))], hp := [(3, .box [.i a3, .i a4, .i a5.1, .i a5.2, .i a6.1.1, .i a6.1.2, .d (.v (.bool a6.2)), .i a6.3, .d (.v (.string a6.4)), .d (.sl (cellsL a7))]), (50012, .lst 3 1 (intsD (toR a0.length a2)))], kn := [], gd := [] : St }
def Zfv (a0 : Nat) (a1 : List (List D)) : List D := [.i (if IntKind.i64.wrap ((↑a0 : Int) - (↑a1.length : Int)) > (0 : Int) then IntKind.i64.wrap ((↑a0 : Int) - (↑a1.length : Int)) else (0 : Int))]
def Zbn (a0 a1 : List Ty) (a2 : SX42) (a3 a4 : Int) (a5 : Ty) (a6 : Go.Ex.AV) (a7 : List EX) : St := { tm := [(1, .d (.sl (List.map Ty.cs a0))), (6, .nil), (7, .nil), (8, .nil), (9, .d (.sl (List.map Ty.cs (a0 ++ a1)))), (12, .d (.sl (intsD (toR a0.length (a0 ++ a1).length)))), (14, .own 50014), (15, .own 50015), (16, .d (.sl (cellsL a2.4))), (17, .d (.sl (cellsL (partsE (EX.mk a3 a4 a5 a6 a7))))), (18, .i (↑a2.1 : Int))], hp := [(50014, .lst 28 10 (cellsL a2.2)), (50015, .lst 28 10 (cellsL a2.3))], kn := [], gd := [] : St }
def Zdl (a0 : List (List D)) (a1 : Int) (a2 : List Ty) (k : Int → Int → Int → Int → Int → Int → Bool → Int → ByteArray → (List (List D)) → (List (List D)) → Prop) : Prop := Zy a0 a1 fun n_8 n_9 n_10 n_11 n_12 n_13 b_2 n_14 b_3 es_3 => Zbh a2 fun es_4 => k n_8 n_9 n_10 n_11 n_12 n_13 b_2 n_14 b_3 es_3 es_4
def Zfr (a0 a1 a2 a3 a4 a5 : Int) (a6 : Bool) (a7 : Int) (a8 : ByteArray) (a9 : List (List D)) (k : EX → Prop) : Prop := ∃ (e : EX), Ze5 a0 a1 a2 a3 a4 a5 a6 a7 a8 a9 e (size e ≤ (1000000000 : Nat) ∧ k e)
def Zd4 (a0 a1 a2 a3 : Ty) (a4 : EX) (k : Int → Int → Ty → AV → (List EX) → Prop) : Prop := (Zde a0) = a1.cs ∧ (Zde a2) = a3.cs ∧ ∀ (op_2 sub_2 : Int) (t_6 : Ty) (v_2 : AV) (l_1 : List EX), asE a4 a1 a3 = EX.mk op_2 sub_2 t_6 v_2 l_1 → Zcs op_2 sub_2 t_6 v_2 l_1 (k op_2 sub_2 t_6 v_2 l_1)
def Zm (a0 : SX42) (a1 : Nat) (a2 a3 : List Ty) (a4 a5 a6 a7 a8 a9 : Int) (a10 : Bool) (a11 : Int) (a12 : ByteArray) (a13 : List (List D)) (a14 a15 : Int) (a16 : Ty) (a17 : Go.Ex.AV) (a18 : List EX) : Prop := Zbt fun es_17 => D.sl (cellsL a0.4) = D.sl es_17 ∧ (((↑es_17.length : Int) == 0) = true → ∃ (m : Nat), ∃ (x' : SX42), m < a1 ∧ { tm := [(1, .d (.sl (List.map Ty.cs a2))), (6, .nil), (7, .nil), (8, .nil), (9, .d (.sl (List.map Ty.cs (a2 ++ a3)))), (12, .d (.sl (intsD (toR a2.length (a2 ++ a3).length)))), (14, .own 50014), (15, .own 50015), (16, .d (.sl [(Z1 a4 a5 a6 a7 a8 a9 a10 a11 a12 a13)])), (17, .d (.sl (cellsL (partsE (EX.mk a14 a15 a16 a17 a18))))), (18, .i (IntKind.i64.wrap ((↑a0.1 : Int) + 1)))], hp := [(50014, .lst 28 10 (cellsL a0.2)), (50015, .lst 28 10 (cellsL a0.3))], kn := [], gd := [] : St } = (Zbn a2 a3 x' a14 a15 a16 a17 a18) ∧ Zfz a2 a3 a14 a15 a16 a17 a18 m x') ∧ (((↑es_17.length : Int) == 0) = false → Zdd a0 a1 fun n_50 n_51 n_52 n_53 n_54 n_55 b_14 n_56 b_15 es_19 m x' => { tm := [(1, .d (.sl (List.map Ty.cs a2))), (6, .nil), (7, .nil), (8, .nil), (9, .d (.sl (List.map Ty.cs (a2 ++ a3)))), (12, .d (.sl (intsD (toR a2.length (a2 ++ a3).length)))), (14, .own 50014), (15, .own 50015), (16, .d (.sl [[.i 10, .i 0, .i 0, .i 0, .i 0, .i 0, .v (.bool false), .i 0, .v (.string ⟨⟨[]⟩⟩), .sl [(Z1 n_50 n_51 n_52 n_53 n_54 n_55 b_14 n_56 b_15 es_19), (Z1 a4 a5 a6 a7 a8 a9 a10 a11 a12 a13)]]])), (17, .d (.sl (cellsL (partsE (EX.mk a14 a15 a16 a17 a18))))), (18, .i (IntKind.i64.wrap ((↑a0.1 : Int) + 1)))], hp := [(50014, .lst 28 10 (cellsL a0.2)), (50015, .lst 28 10 (cellsL a0.3))], kn := [], gd := [] : St } = (Zbn a2 a3 x' a14 a15 a16 a17 a18) ∧ Zfz a2 a3 a14 a15 a16 a17 a18 m x')
def Zq (a0 a1 a2 a3 a4 a5 : Int) (a6 : Bool) (a7 : Int) (a8 : ByteArray) (a9 : List (List D)) (a10 a11 : List Ty) (a12 a13 a14 a15 a16 a17 : Int) (a18 : Bool) (a19 : Int) (a20 : ByteArray) (a21 : List (List D)) (a22 : SX42) (a23 : Nat) (a24 a25 : Int) (a26 : Ty) (a27 : Go.Ex.AV) (a28 : List EX) (a29 a30 a31 a32 a33 a34 : Int) (a35 : Bool) (a36 : Int) (a37 : ByteArray) (a38 : List (List D)) : Prop := ∃ (e : EX), ∃ (cols : List Ty), Z4 a0 a1 a2 a3 a4 a5 a6 a7 a8 a9 e (Zfj a10 a11 cols e fun t_2 f => ∃ (e : EX), ∃ (cols : List Ty), Z4 a12 a13 a14 a15 a16 a17 a18 a19 a20 a21 e (Zfj a10 a11 cols e fun t_3 f => ∃ (s t_4 : Ty), [(Zde t_2), (Zde t_3)] = [s.cs, t_4.cs] ∧ goodT s ∧ goodT t_4 ∧ ∀ (u : Ty) (ok : Bool), ok = (cfold s [t_4]).2 → (ok = true → u = (cfold s [t_4]).1) → (ok = true → ∃ (e : EX), ∃ (to : List Int), Z4 a12 a13 a14 a15 a16 a17 a18 a19 a20 a21 e (intsD (toR a10.length (a10 ++ a11).length) = intsD to ∧ fits e ∧ to.length ≤ 17592186043904 ∧ ∀ (op_1 sub_1 : Int) (t_5 : Ty) (v_1 : AV) (args_1 : List EX) (f : Int), shR (shiftE to e) = (EX.mk op_1 sub_1 t_5 v_1 args_1, f) → ∃ (e : EX), ∃ (a b : Ty), Z4 a0 a1 a2 a3 a4 a5 a6 a7 a8 a9 e (Zd4 t_2 a u b e fun op_2 sub_2 t_6 v_2 l_1 => (↑(cellsL a22.2).length.succ : Int) * (↑(104 : Nat) : Int) ≤ 140737488355328 ∧ ∃ (e : EX), ∃ (a b : Ty), (Zbb op_1 sub_1 t_5 v_1 args_1) = Ex.cells e ∧ Zd4 t_3 a u b e fun op_3 sub_3 t_7 v_3 l_2 => (↑(cellsL a22.3).length.succ : Int) * (↑(104 : Nat) : Int) ≤ 140737488355328 ∧ ∃ (m : Nat), ∃ (x' : SX42), m < a23 ∧ { tm := [(1, .d (.sl (List.map Ty.cs a10))), (6, .nil), (7, .nil), (8, .nil), (9, .d (.sl (List.map Ty.cs (a10 ++ a11)))), (12, .d (.sl (intsD (toR a10.length (a10 ++ a11).length)))), (14, .own 50014), (15, .own 50015), (16, .d (.sl (cellsL a22.4))), (17, .d (.sl (cellsL (partsE (EX.mk a24 a25 a26 a27 a28))))), (18, .i (IntKind.i64.wrap ((↑a22.1 : Int) + 1)))], hp := [(50014, .lst 28 10 (cellsL a22.2 ++ [(Zbb op_2 sub_2 t_6 v_2 l_1)])), (50015, .lst 28 10 (cellsL a22.3 ++ [(Zbb op_3 sub_3 t_7 v_3 l_2)]))], kn := [], gd := [] : St } = (Zbn a10 a11 x' a24 a25 a26 a27 a28) ∧ Zfz a10 a11 a24 a25 a26 a27 a28 m x'))) ∧ (ok = false → Zm a22 a23 a10 a11 a29 a30 a31 a32 a33 a34 a35 a36 a37 a38 a24 a25 a26 a27 a28)))
def Ze (a0 : List (List D)) (a1 a2 : List Ty) (a3 : SX42) (a4 : Nat) (a5 a6 : Int) (a7 : Ty) (a8 : Go.Ex.AV) (a9 : List EX) (a10 a11 a12 a13 a14 a15 : Int) (a16 : Bool) (a17 : Int) (a18 : ByteArray) : Prop := Z9 a0 (0 : Int) (1 : Int) fun n_22 n_23 n_24 n_25 n_26 n_27 b_6 n_28 b_7 es_9 n_29 n_30 n_31 n_32 n_33 n_34 b_8 n_35 b_9 es_11 => Zbh a1 fun es_12 => Zfr n_22 n_23 n_24 n_25 n_26 n_27 b_6 n_28 b_7 es_9 fun e => ((sideE (↑es_12.length : Int) e == 1) = true → Z9 a0 (1 : Int) (0 : Int) fun n_36 n_37 n_38 n_39 n_40 n_41 b_10 n_42 b_11 es_14 n_43 n_44 n_45 n_46 n_47 n_48 b_12 n_49 b_13 es_16 => Zq n_36 n_37 n_38 n_39 n_40 n_41 b_10 n_42 b_11 es_14 a1 a2 n_43 n_44 n_45 n_46 n_47 n_48 b_12 n_49 b_13 es_16 a3 a4 a5 a6 a7 a8 a9 a10 a11 a12 a13 a14 a15 a16 a17 a18 a0) ∧ ((sideE (↑es_12.length : Int) e == 1) = false → Zq n_22 n_23 n_24 n_25 n_26 n_27 b_6 n_28 b_7 es_9 a1 a2 n_29 n_30 n_31 n_32 n_33 n_34 b_8 n_35 b_9 es_11 a3 a4 a5 a6 a7 a8 a9 a10 a11 a12 a13 a14 a15 a16 a17 a18 a0)
def Zf (a0 : List (List D)) (a1 a2 : List Ty) (a3 : SX42) (a4 : Nat) (a5 a6 : Int) (a7 : Ty) (a8 : Go.Ex.AV) (a9 : List EX) (a10 a11 a12 a13 a14 a15 : Int) (a16 : Bool) (a17 : Int) (a18 : ByteArray) : Prop := Zdl a0 (0 : Int) a1 fun n_8 n_9 n_10 n_11 n_12 n_13 b_2 n_14 b_3 es_3 es_4 => Zdl a0 (1 : Int) a1 fun n_15 n_16 n_17 n_18 n_19 n_20 b_4 n_21 b_5 es_6 es_7 => Zfr n_8 n_9 n_10 n_11 n_12 n_13 b_2 n_14 b_3 es_3 fun e => Zfr n_15 n_16 n_17 n_18 n_19 n_20 b_4 n_21 b_5 es_6 fun e_1 => ((IntKind.i64.wrap (sideE (↑es_4.length : Int) e + sideE (↑es_7.length : Int) e_1) == (1 : Int)) = true → Ze a0 a1 a2 a3 a4 a5 a6 a7 a8 a9 a10 a11 a12 a13 a14 a15 a16 a17 a18) ∧ ((IntKind.i64.wrap (sideE (↑es_4.length : Int) e + sideE (↑es_7.length : Int) e_1) == (1 : Int)) = false → Zm a3 a4 a1 a2 a10 a11 a12 a13 a14 a15 a16 a17 a18 a0 a5 a6 a7 a8 a9)
def Zg (a0 : List (List D)) (a1 a2 : List Ty) (a3 : SX42) (a4 : Nat) (a5 a6 : Int) (a7 : Ty) (a8 : Go.Ex.AV) (a9 : List EX) (a10 a11 a12 a13 a14 a15 : Int) (a16 : Bool) (a17 : Int) (a18 : ByteArray) : Prop := (false = true → Ze a0 a1 a2 a3 a4 a5 a6 a7 a8 a9 a10 a11 a12 a13 a14 a15 a16 a17 a18) ∧ (false = false → Zm a3 a4 a1 a2 a10 a11 a12 a13 a14 a15 a16 a17 a18 a0 a5 a6 a7 a8 a9)
theorem vc43 (op sub : Int) (t : Ty) (v : Go.Ex.AV) (args : List EX) (l r : List Ty) (Q : KT) : vc E_9s C_s43 noI (fx_43 op sub t v args l r) (f6.body.getD .skip) f6.results.toList [.agg (encX op sub t v (cellsL args)), .d (.sl (l.map Ty.cs)), .d (.sl (r.map Ty.cs))] Q = ( Zbh l fun es => Ze7 es (2 : Nat) ((↑es.length : Int) * (↑(16 : Nat) : Int) ≤ 140737488355328 ∧ Zbh r fun es_1 => Ze7 es_1 (2 : Nat) ((23 : Nat) = (23 : Nat) ∧ (2 : Nat) = (2 : Nat) ∧ (↑(es.length.add es_1.length) : Int) * (↑(16 : Nat) : Int) ≤ 140737488355328 ∧ Zc1 op sub t v args fun e cols => es ++ es_1 = List.map Ty.cs cols ∧ Zef e cols fun _ f => ((f != (0 : Int)) = true → Q (Zfl op sub t v args) []) ∧ ((f != (0 : Int)) = false → ∃ (x0 : Nat), ({ tm := [(1, .d (.sl (List.map Ty.cs l))), (3, .ref 3 0), (6, .nil), (7, .nil), (8, .nil), (9, .d (.sl (es ++ es_1))), (12, .own 50012), (13, .i 0)], hp := [(3, .box [.i op, .i sub, .i t.1, .i t.2, .i v.1.1, .i v.1.2, .d (.v (.bool v.2)), .i v.3, .d (.v (.string v.4)), .d (.sl (cellsL args))]), (50012, .lst 3 1 [])], kn := [], gd := [] : St } = (Zc9 l r x0 op sub t v args) ∧ ∃ (n : Nat), inv_43a l r n x0) ∧ ∀ (n : Nat) (x : Nat), inv_43a l r n x → Zbt fun es => D.sl (List.map Ty.cs (l ++ r)) = D.sl es ∧ (Zec x es (Zbh l fun es => (∀ (c : List D), c ∈ [(Zfv x es)] → c.length = 1) ∧ (3 : Nat) = (3 : Nat) ∧ (1 : Nat) = (1 : Nat) ∧ (↑(intsD (toR l.length x)).length.succ : Int) * (↑(8 : Nat) : Int) ≤ 140737488355328 ∧ Zdq n fun m x' => { tm := [(1, .d (.sl (List.map Ty.cs l))), (3, .ref 3 0), (6, .nil), (7, .nil), (8, .nil), (9, .d (.sl (List.map Ty.cs (l ++ r)))), (12, .own 50012), (13, .i (IntKind.i64.wrap ((↑x : Int) + 1)))], hp := [(3, .box [.i op, .i sub, .i t.1, .i t.2, .i v.1.1, .i v.1.2, .d (.v (.bool v.2)), .i v.3, .d (.v (.string v.4)), .d (.sl (cellsL args))]), (50012, .lst 3 1 (intsD (toR l.length x) ++ [(Zfv x es)]))], kn := [], gd := [] : St } = (Zc9 l r x' op sub t v args) ∧ inv_43a l r m x')) ∧ (Zfg x es op sub t v args fun e x0 => ({ tm := [(1, .d (.sl (List.map Ty.cs l))), (6, .nil), (7, .nil), (8, .nil), (9, .d (.sl (List.map Ty.cs (l ++ r)))), (12, .d (.sl (intsD (toR l.length x)))), (14, .own 50014), (15, .own 50015), (16, .d (.sl [])), (17, .d (.sl (cellsL (partsE e)))), (18, .i 0)], hp := [(50014, .lst 28 10 []), (50015, .lst 28 10 [])], kn := [], gd := [] : St } = (Zbn l r x0 op sub t v args) ∧ ∃ (n : Nat), Zfz l r op sub t v args n x0) ∧ ∀ (n : Nat) (x : SX42), inv_42b (l ++ r) l.length (partsE (EX.mk op sub t v args)) n x → Zbt fun es => D.sl (cellsL (partsE (EX.mk op sub t v args))) = D.sl es ∧ (decide ((↑x.1 : Int) < (↑es.length : Int)) = true → Zdx op sub t v args x fun n_1 n_2 n_3 n_4 n_5 n_6 b n_7 b_1 es => ((n_1 == 9) = true → ((n_2 == 1) = true → Zf es l r x n op sub t v args n_1 n_2 n_3 n_4 n_5 n_6 b n_7 b_1) ∧ ((n_2 == 1) = !true → Zg es l r x n op sub t v args n_1 n_2 n_3 n_4 n_5 n_6 b n_7 b_1)) ∧ ((n_1 == 9) = !true → (false = true → Zf es l r x n op sub t v args n_1 n_2 n_3 n_4 n_5 n_6 b n_7 b_1) ∧ (false = !true → Zg es l r x n op sub t v args n_1 n_2 n_3 n_4 n_5 n_6 b n_7 b_1))) ∧ (decide ((↑x.1 : Int) < (↑es.length : Int)) = false → Q [.d (.sl (cellsL x.2)), .d (.sl (cellsL x.3)), .d (.sl (cellsL x.4))] [])))))) := by kernel_rfl
end Go.Proofs.Tryz
namespace Go.Proofs.Tryz
open Go Go.Dm Go.Ex
set_option maxRecDepth 100000
variable {gl : Nat → Option Obj}
theorem toR_len (n x : Nat) : (toR n x).length = x := by simp [toR]
theorem toR_P (n len : Nat) : toR n len = toP n len len := by
 unfold toR toP
 apply List.map_congr_left
 intro i hi
 have := List.mem_range.1 hi
 by_cases h : n ≤ i
 · rw [if_pos ⟨h, this⟩]
 · rw [if_neg (fun h2 => h h2.1)]; simp; omega
theorem toR_next (n x : Nat) : toR n (x + 1) = toR n x ++ [((x - n : Nat) : Int)] := by
 unfold toR
 rw [List.range_succ, List.map_append]; rfl
theorem side_rng (n : Int) (e : EX) : sideE n e = 0 ∨ sideE n e = 1 ∨ sideE n e = 2 := by
 unfold sideE
 cases (colsE e).isEmpty <;> cases (colsE e).all (fun x => decide (x < n)) <;> cases (colsE e).all (fun x => decide (n ≤ x)) <;> simp
theorem ty_list {l r : List Ty} : ∀ c ∈ l.map Ty.cs, c.length = 2 := by
 intro c hc
 obtain ⟨t, _, rfl⟩ := List.mem_map.1 hc
 rfl
theorem ct43 (l r : List Ty) (hlr : l.length + r.length ≤ 1000000000) : ∀ e : EX, fits e → size e ≤ 1000000000 → Ct prog gl 6 [.agg (cells e), .d (.sl (l.map Ty.cs)), .d (.sl (r.map Ty.cs))] (gives (retS (splitE l r e)))
 | .mk op sub t v args, hf, hs => by
   have hC : CallsOk prog gl C_s43 := addC_ok (addC_ok (addC_ok (addC_ok (addC_ok (addC_ok C_0_ok c_23_ok) c_94g_ok) c_95_ok) c_96s_ok) c_26g_ok) c_97_ok
   have hcc : encX op sub t v (cellsL args) = cells (.mk op sub t v args) := (cells_mk _ _ _ _ _).symm
   have hlen : (l ++ r).length = l.length + r.length := List.length_append
   rw [cells_mk]
   refine ct_of_vc (E := E_9s) ⟨E_ok.te⟩ hC ioK_no (fun _ _ _ h => h.elim) mixed (fn := f6) (body := f6.body.getD .skip) (by kernel_rfl) (by kernel_rfl) (by kernel_rfl) (fi := fx_43 op sub t v args l r) (by kernel_rfl) (by kernel_rfl) ⟨_, _, rfl, rfl⟩ ?_
   rw [vc43]; dsimp -eta -iota -proj only [Zbh, Zbt, Ze7, Zee, Zc1, Zca, Z2, Zz, Zef, Zfl, Zc9, Zec, Zfv, Zdq, Zfg, Zdp, Zbm, Zbn, Zfz, Zdx, Zk, Z1, Zf, Zdl, Zy, Zu, Zey, Zfr, Ze5, Z4, Ze, Z9, Zq, Zfj, Zde, Zd4, Zcs, Zbb, Zm, Zdd, Zdc, Zdb, Zg]
   have hadd : Nat.add (l.map Ty.cs).length (r.map Ty.cs).length = l.length + r.length := by rw [List.length_map, List.length_map]; rfl
   refine ⟨_, rfl, ty_list (r := l), by rw [List.length_map]; omega, _, rfl, ty_list (r := l), rfl, rfl, by rw [hadd]; omega, .mk op sub t v args, l ++ r, hcc, List.map_append.symm, hf, by omega, fun t1 f hk => ⟨fun h => ?_, fun h => ?_⟩⟩
   · have : splitE l r (.mk op sub t v args) = ⟨[], [], [.mk op sub t v args]⟩ := by
       unfold splitE
       rw [hk]
       have : (f == 0) = false := by simpa using h
       dsimp only
       rw [this]; rfl
     rw [this]
     simp only [retS, cellsL, cells]
     exact ⟨rfl, rfl⟩
   · have hf0 : f = 0 := by simpa using h
     subst hf0
     have hP : PartOk (l ++ r) (.mk op sub t v args) := ⟨hf, hs, by rw [hk]⟩
     have hsp : splitE l r (.mk op sub t v args) = (partsE (.mk op sub t v args)).foldl (stepS (l ++ r) l.length) ⟨[], [], []⟩ := by
       unfold splitE
       rw [hk]; rfl
     generalize hps : partsE (.mk op sub t v args) = ps at hsp ⊢
     have hpo : ∀ p ∈ ps, PartOk (l ++ r) p := by rw [← hps]; exact parts_ok _ hP
     have hpl : ps.length ≤ 1000000000 := by have := partsE_len (.mk op sub t v args); rw [hps] at this; omega
     refine ⟨(0 : Nat), ⟨?_, l.length + r.length, Nat.zero_le _, by omega⟩, fun m (x : Nat) hx => ⟨_, rfl, fun hi => ?_, fun hi => ?_⟩⟩
     · show St.mk _ _ _ _ _ = St.mk _ _ _ _ _
       rw [List.map_append]
       rfl
     · obtain ⟨h1, h2⟩ := hx
       have hi := of_decide_eq_true hi
       rw [List.length_map, hlen] at hi
       refine ⟨_, rfl, fun c hc => by rw [List.mem_singleton.1 hc]; rfl, rfl, rfl, ?_, m - 1, x + 1, by omega, ?_, by omega, by omega⟩
       · rw [List.length_map, toR_len]; omega
       · have ew : (if IntKind.i64.wrap ((x : Int) - ((l.map Ty.cs).length : Int)) > 0 then IntKind.i64.wrap ((x : Int) - ((l.map Ty.cs).length : Int)) else 0) = ((x - l.length : Nat) : Int) := by
           rw [List.length_map, wrap64_of (by omega) (by omega)]
           split <;> omega
         rw [wrap64_of (n := (x : Int) + 1) (by omega) (by omega), ew]
         show St.mk _ _ _ _ _ = St.mk _ _ _ _ _
         rw [toR_next, show intsD (toR l.length x ++ [((x - l.length : Nat) : Int)]) = intsD (toR l.length x) ++ [[D.v (.int .i64 ((x - l.length : Nat) : Int))]] from List.map_append]
         rfl
     · obtain ⟨h1, h2⟩ := hx
       have hi := of_decide_eq_false hi
       rw [List.length_map, hlen] at hi
       have hxe : x = (l ++ r).length := by omega
       subst hxe
       refine ⟨.mk op sub t v args, ((l ++ r).length : Int), hcc, hf, hP.may, hs, ⟨0, [], [], []⟩, ⟨?_, ps.length, Nat.zero_le _, rfl, rfl, Nat.le_refl _, Nat.le_refl _⟩, fun m2 x hx => ⟨_, rfl, fun hi => ?_, fun hi => ?_⟩⟩
       · rw [hps]; rfl
       · obtain ⟨i1, i2, i3, i4, i5⟩ := hx
         have hi := of_decide_eq_true hi
         rw [cellsL_len] at hi
         have hlt : x.i < ps.length := by omega
         have hpk := hpo _ (List.getElem_mem hlt)
         obtain ⟨o1, s1, t2, v1, a1, e1, g1⟩ := arg_get hlt
         rw [e1] at hpk
         have hnx : ∀ s : SP, stepS (l ++ r) l.length ⟨x.a, x.b, x.rest⟩ (.mk o1 s1 t2 v1 a1) = s → s = (ps.take (x.i + 1)).foldl (stepS (l ++ r) l.length) ⟨[], [], []⟩ := fun s hs => by
           rw [List.take_succ_eq_append_getElem hlt, List.foldl_append, ← i3, e1]
           exact hs.symm
         refine ⟨_, rfl, ⟨by omega, by rw [cellsL_len]; omega⟩, _, g1, rfl, o1, s1, t2.k, t2.sc, v1.t.k, v1.t.sc, v1.nul, v1.n, v1.s, cellsL a1, rfl, fun h9 => ⟨fun hs1 => ?_, fun hs1 => ⟨fun h => (by cases h), fun _ => ?_⟩⟩, fun h9 => ⟨fun h => (by cases h), fun _ => ⟨fun h => (by cases h), fun _ => ?_⟩⟩⟩
         · have h9 : o1 = 9 := by simpa using h9
           have hs1 : s1 = 1 := by simpa using hs1
           subst h9; subst hs1
           obtain ⟨p0, p1, rfl, hp0, hp1⟩ := cmp_args hpk
           obtain ⟨o8, s8, t8, v8, a8, c8, g8⟩ := arg_get (l := [p0, p1]) (i := 0) (by simp)
           obtain ⟨o9, s9, t9, v9, a9, c9, g9⟩ := arg_get (l := [p0, p1]) (i := 1) (by simp)
           have c8 : p0 = .mk o8 s8 t8 v8 a8 := c8
           have c9 : p1 = .mk o9 s9 t9 v9 a9 := c9
           have q0 := side_rng l.length p0
           have q1 := side_rng l.length p1
           refine ⟨_, rfl, ⟨by omega, by simp [cellsL]⟩, _, g8, rfl, o8, s8, t8.k, t8.sc, v8.t.k, v8.t.sc, v8.nul, v8.n, v8.s, cellsL a8, rfl, _, rfl, _, rfl, ⟨by omega, by simp [cellsL]⟩, _, g9, rfl, o9, s9, t9.k, t9.sc, v9.t.k, v9.t.sc, v9.nul, v9.n, v9.s, cellsL a9, rfl, _, rfl, p0, by rw [c8, cells_mk]; rfl, hp0.fit, hp0.size, p1, by rw [c9, cells_mk]; rfl, hp1.fit, hp1.size, fun hw => ?_, fun hw => ?_⟩
           · rw [List.length_map] at hw
             have hw : sideE l.length p0 + sideE l.length p1 = 1 := by
               rw [wrap64_of (by omega) (by omega)] at hw
               simpa using hw
             refine ⟨_, rfl, ⟨by omega, by simp [cellsL]⟩, _, g8, rfl, o8, s8, t8.k, t8.sc, v8.t.k, v8.t.sc, v8.nul, v8.n, v8.s, cellsL a8, rfl, _, rfl, ⟨by omega, by simp [cellsL]⟩, _, g9, rfl, o9, s9, t9.k, t9.sc, v9.t.k, v9.t.sc, v9.nul, v9.n, v9.s, cellsL a9, rfl, _, rfl, p0, by rw [c8, cells_mk]; rfl, hp0.fit, hp0.size, fun hz => ?_, fun hz => ?_⟩
             · rw [List.length_map] at hz
               have hz : sideE l.length p0 = 1 := by simpa using hz
               have hz2 : sideE l.length p1 = 0 := by omega
               have hS : sidesE l.length (.mk 9 1 t2 v1 [p0, p1]) = some (p1, p0) := by simp [sidesE, hz, hz2]
               refine ⟨_, rfl, ⟨by omega, by simp [cellsL]⟩, _, g9, rfl, o9, s9, t9.k, t9.sc, v9.t.k, v9.t.sc, v9.nul, v9.n, v9.s, cellsL a9, rfl, _, rfl, ⟨by omega, by simp [cellsL]⟩, _, g8, rfl, o8, s8, t8.k, t8.sc, v8.t.k, v8.t.sc, v8.nul, v8.n, v8.s, cellsL a8, rfl, ?_⟩
               refine ⟨p1, l ++ r, by rw [c9, cells_mk]; rfl, rfl, hp1.fit, by omega, fun tP fP hkP => ⟨p0, l ++ r, by rw [c8, cells_mk]; rfl, rfl, hp0.fit, by omega, fun tQ fQ hkQ => ⟨tP, tQ, rfl, by have := hp1.good; rw [hkP] at this; exact this, by have := hp0.good; rw [hkQ] at this; exact this, fun u ok hok hu => ⟨fun hoT => ?_, fun hoF => ?_⟩⟩⟩⟩
               · have hu := hu hoT
                 rw [hok] at hoT
                 have hkP1 : (checkE (l ++ r) p1).1 = tP := by rw [hkP]
                 have hkQ1 : (checkE (l ++ r) p0).1 = tQ := by rw [hkQ]
                 have hA : stepS (l ++ r) l.length ⟨x.a, x.b, x.rest⟩ (.mk 9 1 t2 v1 [p0, p1]) = ⟨x.a ++ [asE p1 tP u], x.b ++ [asE (shR (shiftE (toR l.length (l ++ r).length) p0)).1 tQ u], x.rest⟩ := by
                   simp only [stepS, hS]
                   rw [hkP1, hkQ1, hoT, hu, toR_P]; rfl
                 refine ⟨p0, toR l.length (l ++ r).length, by rw [c8, cells_mk]; rfl, rfl, hp0.fit, by rw [toR_len]; omega, fun o4 s4 t4 v4 a4 w4 hsh => ⟨p1, tP, u, by rw [c9, cells_mk]; rfl, rfl, rfl, fun o5 s5 t5 v5 a5 has => ⟨fun c hc => by rw [List.mem_singleton.1 hc]; rfl, rfl, rfl, ?_, EX.mk o4 s4 t4 v4 a4, tQ, u, by rw [cells_mk]; rfl, rfl, rfl, fun o6 s6 t6 v6 a6 hbs => ⟨fun c hc => by rw [List.mem_singleton.1 hc]; rfl, rfl, rfl, ?_, m2 - 1, ⟨x.i + 1, x.a ++ [EX.mk o5 s5 t5 v5 a5], x.b ++ [EX.mk o6 s6 t6 v6 a6], x.rest⟩, by omega, ?_, by show x.i + 1 ≤ _; omega, by show m2 - 1 = _ - (x.i + 1); omega, hnx _ ?_, by show (x.a ++ [_]).length ≤ x.i + 1; rw [List.length_append]; simp; omega, by show (x.b ++ [_]).length ≤ x.i + 1; rw [List.length_append]; simp; omega⟩⟩⟩⟩
                 · rw [cellsL_len]; omega
                 · rw [cellsL_len]; omega
                 · rw [wrap64_of (n := (x.i : Int) + 1) (by omega) (by omega)]
                   show _ = St.mk _ _ _ _ _
                   rw [cellsL_append, cellsL_append]
                   simp only [cellsL, cells]
                   rfl
                 · rw [hA, hsh, has]
                   dsimp only
                   rw [hbs]
               · rw [hok] at hoF
                 have hkP1 : (checkE (l ++ r) p1).1 = tP := by rw [hkP]
                 have hkQ1 : (checkE (l ++ r) p0).1 = tQ := by rw [hkQ]
                 have hA : stepS (l ++ r) l.length ⟨x.a, x.b, x.rest⟩ (.mk 9 1 t2 v1 [p0, p1]) = ⟨x.a, x.b, restE (.mk 9 1 t2 v1 [p0, p1]) x.rest⟩ := by
                   simp only [stepS, hS]
                   rw [hkP1, hkQ1, hoF]; rfl
                 refine ⟨_, rfl, fun hr => ?_, fun hr => ?_⟩
                 · rw [cellsL_len] at hr
                   have hyr : x.rest = [] := by
                     cases hxr : x.rest with
                     | nil => rfl
                     | cons y yr => rw [hxr] at hr; simp at hr; omega
                   refine ⟨m2 - 1, ⟨x.i + 1, x.a, x.b, restE (.mk 9 1 t2 v1 [p0, p1]) x.rest⟩, by omega, ?_, by show x.i + 1 ≤ _; omega, by show m2 - 1 = _ - (x.i + 1); omega, hnx _ hA, by show x.a.length ≤ x.i + 1; omega, by show x.b.length ≤ x.i + 1; omega⟩
                   rw [wrap64_of (n := (x.i : Int) + 1) (by omega) (by omega)]
                   show _ = St.mk _ _ _ _ _
                   rw [hyr]
                   simp only [restE, cellsL, cells]
                   rfl
                 · rw [cellsL_len] at hr
                   obtain ⟨y, yr, hyr⟩ : ∃ y yr, x.rest = y :: yr := by
                     cases hxr : x.rest with
                     | nil => rw [hxr] at hr; simp at hr
                     | cons y yr => exact ⟨y, yr, rfl⟩
                   obtain ⟨o3, s3, t3, v3, a3⟩ := y
                   have hg3 : (cellsL x.rest)[Int.toNat 0]? = some (encX o3 s3 t3 v3 (cellsL a3)) := by rw [hyr]; simp only [cellsL, cells_mk]; rfl
                   refine ⟨_, rfl, ⟨by omega, by rw [cellsL_len, hyr]; simp⟩, _, hg3, rfl, o3, s3, t3.k, t3.sc, v3.t.k, v3.t.sc, v3.nul, v3.n, v3.s, cellsL a3, rfl, m2 - 1, ⟨x.i + 1, x.a, x.b, restE (.mk 9 1 t2 v1 [p0, p1]) x.rest⟩, by omega, ?_, by show x.i + 1 ≤ _; omega, by show m2 - 1 = _ - (x.i + 1); omega, hnx _ hA, by show x.a.length ≤ x.i + 1; omega, by show x.b.length ≤ x.i + 1; omega⟩
                   rw [wrap64_of (n := (x.i : Int) + 1) (by omega) (by omega)]
                   show _ = St.mk _ _ _ _ _
                   rw [hyr]
                   simp only [restE, andE, cellsL, cells]
                   rfl
             · rw [List.length_map] at hz
               have hz : ¬ sideE l.length p0 = 1 := by simpa using hz
               have hz1 : sideE l.length p0 = 0 := by omega
               have hz2 : sideE l.length p1 = 1 := by omega
               have hS : sidesE l.length (.mk 9 1 t2 v1 [p0, p1]) = some (p0, p1) := by simp [sidesE, hz1, hz2]
               refine ⟨p0, l ++ r, by rw [c8, cells_mk]; rfl, rfl, hp0.fit, by omega, fun tP fP hkP => ⟨p1, l ++ r, by rw [c9, cells_mk]; rfl, rfl, hp1.fit, by omega, fun tQ fQ hkQ => ⟨tP, tQ, rfl, by have := hp0.good; rw [hkP] at this; exact this, by have := hp1.good; rw [hkQ] at this; exact this, fun u ok hok hu => ⟨fun hoT => ?_, fun hoF => ?_⟩⟩⟩⟩
               · have hu := hu hoT
                 rw [hok] at hoT
                 have hkP1 : (checkE (l ++ r) p0).1 = tP := by rw [hkP]
                 have hkQ1 : (checkE (l ++ r) p1).1 = tQ := by rw [hkQ]
                 have hA : stepS (l ++ r) l.length ⟨x.a, x.b, x.rest⟩ (.mk 9 1 t2 v1 [p0, p1]) = ⟨x.a ++ [asE p0 tP u], x.b ++ [asE (shR (shiftE (toR l.length (l ++ r).length) p1)).1 tQ u], x.rest⟩ := by
                   simp only [stepS, hS]
                   rw [hkP1, hkQ1, hoT, hu, toR_P]; rfl
                 refine ⟨p1, toR l.length (l ++ r).length, by rw [c9, cells_mk]; rfl, rfl, hp1.fit, by rw [toR_len]; omega, fun o4 s4 t4 v4 a4 w4 hsh => ⟨p0, tP, u, by rw [c8, cells_mk]; rfl, rfl, rfl, fun o5 s5 t5 v5 a5 has => ⟨fun c hc => by rw [List.mem_singleton.1 hc]; rfl, rfl, rfl, ?_, EX.mk o4 s4 t4 v4 a4, tQ, u, by rw [cells_mk]; rfl, rfl, rfl, fun o6 s6 t6 v6 a6 hbs => ⟨fun c hc => by rw [List.mem_singleton.1 hc]; rfl, rfl, rfl, ?_, m2 - 1, ⟨x.i + 1, x.a ++ [EX.mk o5 s5 t5 v5 a5], x.b ++ [EX.mk o6 s6 t6 v6 a6], x.rest⟩, by omega, ?_, by show x.i + 1 ≤ _; omega, by show m2 - 1 = _ - (x.i + 1); omega, hnx _ ?_, by show (x.a ++ [_]).length ≤ x.i + 1; rw [List.length_append]; simp; omega, by show (x.b ++ [_]).length ≤ x.i + 1; rw [List.length_append]; simp; omega⟩⟩⟩⟩
                 · rw [cellsL_len]; omega
                 · rw [cellsL_len]; omega
                 · rw [wrap64_of (n := (x.i : Int) + 1) (by omega) (by omega)]
                   show _ = St.mk _ _ _ _ _
                   rw [cellsL_append, cellsL_append]
                   simp only [cellsL, cells]
                   rfl
                 · rw [hA, hsh, has]
                   dsimp only
                   rw [hbs]
               · rw [hok] at hoF
                 have hkP1 : (checkE (l ++ r) p0).1 = tP := by rw [hkP]
                 have hkQ1 : (checkE (l ++ r) p1).1 = tQ := by rw [hkQ]
                 have hA : stepS (l ++ r) l.length ⟨x.a, x.b, x.rest⟩ (.mk 9 1 t2 v1 [p0, p1]) = ⟨x.a, x.b, restE (.mk 9 1 t2 v1 [p0, p1]) x.rest⟩ := by
                   simp only [stepS, hS]
                   rw [hkP1, hkQ1, hoF]; rfl
                 refine ⟨_, rfl, fun hr => ?_, fun hr => ?_⟩
                 · rw [cellsL_len] at hr
                   have hyr : x.rest = [] := by
                     cases hxr : x.rest with
                     | nil => rfl
                     | cons y yr => rw [hxr] at hr; simp at hr; omega
                   refine ⟨m2 - 1, ⟨x.i + 1, x.a, x.b, restE (.mk 9 1 t2 v1 [p0, p1]) x.rest⟩, by omega, ?_, by show x.i + 1 ≤ _; omega, by show m2 - 1 = _ - (x.i + 1); omega, hnx _ hA, by show x.a.length ≤ x.i + 1; omega, by show x.b.length ≤ x.i + 1; omega⟩
                   rw [wrap64_of (n := (x.i : Int) + 1) (by omega) (by omega)]
                   show _ = St.mk _ _ _ _ _
                   rw [hyr]
                   simp only [restE, cellsL, cells]
                   rfl
                 · rw [cellsL_len] at hr
                   obtain ⟨y, yr, hyr⟩ : ∃ y yr, x.rest = y :: yr := by
                     cases hxr : x.rest with
                     | nil => rw [hxr] at hr; simp at hr
                     | cons y yr => exact ⟨y, yr, rfl⟩
                   obtain ⟨o3, s3, t3, v3, a3⟩ := y
                   have hg3 : (cellsL x.rest)[Int.toNat 0]? = some (encX o3 s3 t3 v3 (cellsL a3)) := by rw [hyr]; simp only [cellsL, cells_mk]; rfl
                   refine ⟨_, rfl, ⟨by omega, by rw [cellsL_len, hyr]; simp⟩, _, hg3, rfl, o3, s3, t3.k, t3.sc, v3.t.k, v3.t.sc, v3.nul, v3.n, v3.s, cellsL a3, rfl, m2 - 1, ⟨x.i + 1, x.a, x.b, restE (.mk 9 1 t2 v1 [p0, p1]) x.rest⟩, by omega, ?_, by show x.i + 1 ≤ _; omega, by show m2 - 1 = _ - (x.i + 1); omega, hnx _ hA, by show x.a.length ≤ x.i + 1; omega, by show x.b.length ≤ x.i + 1; omega⟩
                   rw [wrap64_of (n := (x.i : Int) + 1) (by omega) (by omega)]
                   show _ = St.mk _ _ _ _ _
                   rw [hyr]
                   simp only [restE, andE, cellsL, cells]
                   rfl
           · rw [List.length_map] at hw
             have hw : ¬ sideE l.length p0 + sideE l.length p1 = 1 := by
               rw [wrap64_of (by omega) (by omega)] at hw
               simpa using hw
             have hS : sidesE l.length (.mk 9 1 t2 v1 [p0, p1]) = none := by
               rw [sides_cmp, if_neg (by omega), if_neg (by omega)]
             refine ⟨_, rfl, fun hr => ?_, fun hr => ?_⟩
             · rw [cellsL_len] at hr
               have hyr : x.rest = [] := by
                 cases hxr : x.rest with
                 | nil => rfl
                 | cons y yr => rw [hxr] at hr; simp at hr; omega
               refine ⟨m2 - 1, ⟨x.i + 1, x.a, x.b, restE (.mk 9 1 t2 v1 [p0, p1]) x.rest⟩, by omega, ?_, by show x.i + 1 ≤ _; omega, by show m2 - 1 = _ - (x.i + 1); omega, hnx _ (by simp only [stepS, hS]), by show x.a.length ≤ x.i + 1; omega, by show x.b.length ≤ x.i + 1; omega⟩
               rw [wrap64_of (n := (x.i : Int) + 1) (by omega) (by omega)]
               show _ = St.mk _ _ _ _ _
               rw [hyr]
               simp only [restE, cellsL, cells]
               rfl
             · rw [cellsL_len] at hr
               obtain ⟨y, yr, hyr⟩ : ∃ y yr, x.rest = y :: yr := by
                 cases hxr : x.rest with
                 | nil => rw [hxr] at hr; simp at hr
                 | cons y yr => exact ⟨y, yr, rfl⟩
               obtain ⟨o3, s3, t3, v3, a3⟩ := y
               have hg3 : (cellsL x.rest)[Int.toNat 0]? = some (encX o3 s3 t3 v3 (cellsL a3)) := by rw [hyr]; simp only [cellsL, cells_mk]; rfl
               refine ⟨_, rfl, ⟨by omega, by rw [cellsL_len, hyr]; simp⟩, _, hg3, rfl, o3, s3, t3.k, t3.sc, v3.t.k, v3.t.sc, v3.nul, v3.n, v3.s, cellsL a3, rfl, m2 - 1, ⟨x.i + 1, x.a, x.b, restE (.mk 9 1 t2 v1 [p0, p1]) x.rest⟩, by omega, ?_, by show x.i + 1 ≤ _; omega, by show m2 - 1 = _ - (x.i + 1); omega, hnx _ (by simp only [stepS, hS]), by show x.a.length ≤ x.i + 1; omega, by show x.b.length ≤ x.i + 1; omega⟩
               rw [wrap64_of (n := (x.i : Int) + 1) (by omega) (by omega)]
               show _ = St.mk _ _ _ _ _
               rw [hyr]
               simp only [restE, andE, cellsL, cells]
               rfl
         · have hN : sidesE l.length (.mk o1 s1 t2 v1 a1) = none := by
             have : s1 ≠ 1 := by simpa using hs1
             unfold sidesE
             split
             · rename_i he; injection he with q1 q2; exact absurd q2 this
             · rfl
           refine ⟨_, rfl, fun hr => ?_, fun hr => ?_⟩
           · rw [cellsL_len] at hr
             have hyr : x.rest = [] := by
               cases hxr : x.rest with
               | nil => rfl
               | cons y yr => rw [hxr] at hr; simp at hr; omega
             refine ⟨m2 - 1, ⟨x.i + 1, x.a, x.b, restE (.mk o1 s1 t2 v1 a1) x.rest⟩, by omega, ?_, by show x.i + 1 ≤ _; omega, by show m2 - 1 = _ - (x.i + 1); omega, hnx _ (by simp only [stepS, hN]), by show x.a.length ≤ x.i + 1; omega, by show x.b.length ≤ x.i + 1; omega⟩
             rw [wrap64_of (n := (x.i : Int) + 1) (by omega) (by omega)]
             show _ = St.mk _ _ _ _ _
             rw [hyr]
             simp only [restE, cellsL, cells]
             rfl
           · rw [cellsL_len] at hr
             obtain ⟨y, yr, hyr⟩ : ∃ y yr, x.rest = y :: yr := by
               cases hxr : x.rest with
               | nil => rw [hxr] at hr; simp at hr
               | cons y yr => exact ⟨y, yr, rfl⟩
             obtain ⟨o3, s3, t3, v3, a3⟩ := y
             have hg3 : (cellsL x.rest)[Int.toNat 0]? = some (encX o3 s3 t3 v3 (cellsL a3)) := by rw [hyr]; simp only [cellsL, cells_mk]; rfl
             refine ⟨_, rfl, ⟨by omega, by rw [cellsL_len, hyr]; simp⟩, _, hg3, rfl, o3, s3, t3.k, t3.sc, v3.t.k, v3.t.sc, v3.nul, v3.n, v3.s, cellsL a3, rfl, m2 - 1, ⟨x.i + 1, x.a, x.b, restE (.mk o1 s1 t2 v1 a1) x.rest⟩, by omega, ?_, by show x.i + 1 ≤ _; omega, by show m2 - 1 = _ - (x.i + 1); omega, hnx _ (by simp only [stepS, hN]), by show x.a.length ≤ x.i + 1; omega, by show x.b.length ≤ x.i + 1; omega⟩
             rw [wrap64_of (n := (x.i : Int) + 1) (by omega) (by omega)]
             show _ = St.mk _ _ _ _ _
             rw [hyr]
             simp only [restE, andE, cellsL, cells]
             rfl
         · have hN : sidesE l.length (.mk o1 s1 t2 v1 a1) = none := by
             have : o1 ≠ 9 := by simpa using h9
             unfold sidesE
             split
             · rename_i he; injection he with q1 q2; exact absurd q1 this
             · rfl
           refine ⟨_, rfl, fun hr => ?_, fun hr => ?_⟩
           · rw [cellsL_len] at hr
             have hyr : x.rest = [] := by
               cases hxr : x.rest with
               | nil => rfl
               | cons y yr => rw [hxr] at hr; simp at hr; omega
             refine ⟨m2 - 1, ⟨x.i + 1, x.a, x.b, restE (.mk o1 s1 t2 v1 a1) x.rest⟩, by omega, ?_, by show x.i + 1 ≤ _; omega, by show m2 - 1 = _ - (x.i + 1); omega, hnx _ (by simp only [stepS, hN]), by show x.a.length ≤ x.i + 1; omega, by show x.b.length ≤ x.i + 1; omega⟩
             rw [wrap64_of (n := (x.i : Int) + 1) (by omega) (by omega)]
             show _ = St.mk _ _ _ _ _
             rw [hyr]
             simp only [restE, cellsL, cells]
             rfl
           · rw [cellsL_len] at hr
             obtain ⟨y, yr, hyr⟩ : ∃ y yr, x.rest = y :: yr := by
               cases hxr : x.rest with
               | nil => rw [hxr] at hr; simp at hr
               | cons y yr => exact ⟨y, yr, rfl⟩
             obtain ⟨o3, s3, t3, v3, a3⟩ := y
             have hg3 : (cellsL x.rest)[Int.toNat 0]? = some (encX o3 s3 t3 v3 (cellsL a3)) := by rw [hyr]; simp only [cellsL, cells_mk]; rfl
             refine ⟨_, rfl, ⟨by omega, by rw [cellsL_len, hyr]; simp⟩, _, hg3, rfl, o3, s3, t3.k, t3.sc, v3.t.k, v3.t.sc, v3.nul, v3.n, v3.s, cellsL a3, rfl, m2 - 1, ⟨x.i + 1, x.a, x.b, restE (.mk o1 s1 t2 v1 a1) x.rest⟩, by omega, ?_, by show x.i + 1 ≤ _; omega, by show m2 - 1 = _ - (x.i + 1); omega, hnx _ (by simp only [stepS, hN]), by show x.a.length ≤ x.i + 1; omega, by show x.b.length ≤ x.i + 1; omega⟩
             rw [wrap64_of (n := (x.i : Int) + 1) (by omega) (by omega)]
             show _ = St.mk _ _ _ _ _
             rw [hyr]
             simp only [restE, andE, cellsL, cells]
             rfl
       · obtain ⟨i1, i2, i3, i4, i5⟩ := hx
         have hi := of_decide_eq_false hi
         rw [cellsL_len] at hi
         have hxe : x.i = ps.length := by omega
         rw [hxe, List.take_length] at i3
         rw [hsp, ← i3]
         exact ⟨rfl, rfl⟩
end Go.Proofs.Tryz
namespace Go.Proofs.Tryz
open Go Go.Dm Go.Ex
set_option maxRecDepth 100000
variable {gl : Nat → Option Obj}
def c_22s (a : List R) (K : KT) : Prop := match a with
 | [.agg x, .agg y] => ∃ a b : EX, x = cells a ∧ y = cells b ∧ fits a ∧ fits b ∧ K [.d (.v (.bool (sameE a b)))] []
 | _ => False
theorem c_22s_ok (a : List R) (K : KT) (h : c_22s a K) : Ct prog gl 31 a K := by
 unfold c_22s at h
 split at h
 · obtain ⟨a, b, rfl, rfl, h1, h2, h3⟩ := h
   exact (ct22 (size a + 1) a b (Nat.lt_succ_self _) h1 h2).gives h3
 · exact h.elim
def C_s44 : CallT := addC C_0 31 c_22s
def st_44 (l : List EX) (x : Nat) : St := { tm := [(0, .d (.sl (cellsL l))), (1, .d (.sl (cellsL l))), (4, .d (.v (.bool false))), (5, .d (.v (.int .i64 (x : Int))))], hp := [], kn := [], gd := [] }
def inv_44 (l : List EX) (m : Nat) (x : Nat) : Prop := x ≤ l.length ∧ m = l.length - x
def fx_44 (l : List EX) : Fi := { fi8 with lx := [(4, { X := Nat, sh := st_44 l, P := fun _ => inv_44 l })] }
def Zfa (a0 : List EX) (a1 : Nat) : St := { tm := [(0, .d (.sl (cellsL a0))), (1, .d (.sl (cellsL a0))), (4, .d (.v (.bool false))), (5, .i (↑a1 : Int))], hp := [], kn := [], gd := [] : St }
theorem vc44 (l : List EX) (Q : KT) : vc E_0 C_s44 noI (fx_44 l) (f8.body.getD .skip) f8.results.toList [.d (.sl (cellsL l)), .d (.sl (cellsL l))] Q = ( Zby l fun es => Zby l fun es_1 => (((↑es.length : Int) != (↑es_1.length : Int)) = true → Zcr Q) ∧ (((↑es.length : Int) != (↑es_1.length : Int)) = false → ∃ (x0 : Nat), ({ tm := [(0, .d (.sl (cellsL l))), (1, .d (.sl (cellsL l))), (4, .d (.v (.bool false))), (5, .i 0)], hp := [], kn := [], gd := [] : St } = (Zfa l x0) ∧ ∃ (n : Nat), inv_44 l n x0) ∧ ∀ (n : Nat) (x : Nat), inv_44 l n x → Zby l fun es => (Zdg x es l fun n_1 n_2 n_3 n_4 n_5 n_6 b n_7 b_1 es => Zcg l x n_1 n_2 n_3 n_4 n_5 n_6 b n_7 b_1 es fun a b_4 => fits a ∧ fits b_4 ∧ ((!sameE a b_4) = true → Zcr Q) ∧ ((!sameE a b_4) = false → Zdq n fun m x' => { tm := [(0, .d (.sl (cellsL l))), (1, .d (.sl (cellsL l))), (4, .d (.v (.bool false))), (5, .i (IntKind.i64.wrap ((↑x : Int) + 1)))], hp := [], kn := [], gd := [] : St } = (Zfa l x') ∧ inv_44 l m x')) ∧ Ze2 x es Q)) := by kernel_rfl
theorem same_self (a : EX) : sameE a a = true := by unfold sameE; simp
theorem ct44 (l : List EX) (hf : fitsL l) (hl : l.length ≤ 1353245080300) : Ct prog gl 8 [.d (.sl (cellsL l)), .d (.sl (cellsL l))] (gives [.d (.v (.bool true))]) := by
 have hC : CallsOk prog gl C_s44 := addC_ok C_0_ok c_22s_ok
 refine ct_of_vc E_ok hC ioK_no it_ok mixed (fn := f8) (body := f8.body.getD .skip) (by kernel_rfl) (by kernel_rfl) (by kernel_rfl) (fi := fx_44 l) (by kernel_rfl) (by kernel_rfl) ⟨_, _, rfl, rfl⟩ ?_
 rw [vc44]; dsimp -eta -iota -proj only [Zby, Zbt, Zcr, Zfa, Zdg, Zec, Zv, Zk, Z1, Zcg, Zbz, Z4, Zdq, Ze2, Zdp]
 refine ⟨_, rfl, _, rfl, fun h => ?_, fun _ => ⟨(0 : Nat), ⟨rfl, l.length, Nat.zero_le _, rfl⟩, fun n (x : Nat) hx => ⟨_, rfl, fun hi => ?_, fun _ => ⟨rfl, rfl⟩⟩⟩⟩
 · rw [bne_self_eq_false] at h; cases h
 · obtain ⟨h1, h2⟩ := hx
   have hi := of_decide_eq_true hi
   rw [cellsL_len] at hi
   have hlt : x < l.length := by omega
   obtain ⟨o1, s1, t1, v1, a1, e1, g1⟩ := arg_get hlt
   have hfx := fitsL_mem hf (List.getElem_mem hlt)
   refine ⟨_, rfl, ⟨by omega, by rw [cellsL_len]; omega⟩, _, g1, rfl, o1, s1, t1.k, t1.sc, v1.t.k, v1.t.sc, v1.nul, v1.n, v1.s, cellsL a1, rfl, _, rfl, ⟨by omega, by rw [cellsL_len]; omega⟩, _, g1, rfl, o1, s1, t1.k, t1.sc, v1.t.k, v1.t.sc, v1.nul, v1.n, v1.s, cellsL a1, rfl, l[x], l[x], by rw [e1, cells_mk]; rfl, by rw [e1, cells_mk]; rfl, hfx, hfx, fun h => ?_, fun _ => ⟨n - 1, x + 1, by omega, ?_, hlt, by omega⟩⟩
   · rw [same_self] at h; cases h
   · rw [wrap64_of (n := (x : Int) + 1) (by omega) (by omega)]
     rfl
def c_44 (a : List R) (K : KT) : Prop := match a with
 | [.d (.sl x), .d (.sl y)] => ∃ l : List EX, x = cellsL l ∧ y = cellsL l ∧ fitsL l ∧ l.length ≤ 1353245080300 ∧ K [.d (.v (.bool true))] []
 | _ => False
theorem c_44_ok (a : List R) (K : KT) (h : c_44 a K) : Ct prog gl 8 a K := by
 unfold c_44 at h
 split at h
 · obtain ⟨l, rfl, rfl, h1, h2, h3⟩ := h
   exact (ct44 l h1 h2).gives h3
 · exact h.elim
theorem z64 : in64 0 := ⟨by decide, by decide⟩
theorem good64 {t : Ty} (h : goodT t) : in64 t.k ∧ in64 t.sc := by
 have := good_iff.1 h
 exact ⟨⟨by omega, by omega⟩, by omega, by omega⟩
theorem as_fits {e : EX} {a b : Ty} (he : fits e) (hb : goodT b) : fits (asE e a b) := by
 unfold asE
 split
 · exact he
 · simp only [fits, fitsL]
   exact ⟨⟨⟨by decide, by decide⟩, z64, (good64 hb).1, (good64 hb).2, z64, z64, z64⟩, by simp, he, trivial⟩
theorem and_fits {a b : EX} (ha : fits a) (hb : fits b) : fits (andE a b) := by
 unfold andE
 simp only [fits, fitsL]
 exact ⟨⟨⟨by decide, by decide⟩, z64, z64, z64, z64, z64, z64⟩, by simp, ha, hb, trivial⟩
theorem empty_fits : fits emptyE := by
 unfold emptyE
 simp only [fits, fitsL]
 exact ⟨⟨z64, z64, z64, z64, z64, z64, z64⟩, by decide, trivial⟩
theorem newSub_in {to : List Int} {op sub s : Int} (hs : in64 sub) (ht : ∀ x ∈ to, in64 x) (h : newSub to op sub = some s) : in64 s := by
 unfold newSub at h
 split at h
 · split at h
   · cases h
   · split at h
     · cases h
     · rename_i s' hg
       split at h
       · cases h
       · injection h with h
         subst h
         exact ht _ (List.mem_of_getElem? hg)
 · injection h with h
   subst h; exact hs
mutual
theorem shift_fits {to : List Int} (ht : ∀ x ∈ to, in64 x) : ∀ (e : EX) (x : EX), fits e → shiftE to e = some x → fits x
 | .mk op sub t v args, x, hf, h => by
   obtain ⟨g1, g2, g3⟩ := fits_mk hf
   simp only [shiftE] at h
   rcases hn : newSub to op sub with _ | s
   · rw [hn] at h; cases h
   · rcases hl : shiftL to args with _ | l
     · rw [hn, hl] at h; cases h
     · rw [hn, hl] at h
       injection h with h
       subst h
       obtain ⟨a1, a2⟩ := shiftL_fits ht args l g3 hl
       simp only [fits]
       exact ⟨⟨g1.1, newSub_in g1.2.1 ht hn, g1.2.2⟩, by rw [a2]; exact g2, a1⟩
theorem shiftL_fits {to : List Int} (ht : ∀ x ∈ to, in64 x) : ∀ (l : List EX) (x : List EX), fitsL l → shiftL to l = some x → fitsL x ∧ x.length = l.length
 | [], x, _, h => by
   simp only [shiftL] at h
   injection h with h
   subst h
   exact ⟨trivial, rfl⟩
 | e :: r, x, hf, h => by
   simp only [fitsL] at hf
   simp only [shiftL] at h
   rcases he : shiftE to e with _ | y
   · rw [he] at h; cases h
   · rcases hr : shiftL to r with _ | l
     · rw [he, hr] at h; cases h
     · rw [he, hr] at h
       injection h with h
       subst h
       obtain ⟨a1, a2⟩ := shiftL_fits ht r l hf.2 hr
       simp only [fitsL]
       exact ⟨⟨shift_fits ht e y hf.1 he, a1⟩, by simp [a2]⟩
end
theorem shR_fits {to : List Int} (ht : ∀ x ∈ to, in64 x) {e : EX} (he : fits e) : fits (shR (shiftE to e)).1 := by
 rcases h : shiftE to e with _ | x
 · exact empty_fits
 · exact shift_fits ht e x he h
theorem sides_parts {cols : List Ty} {n : Int} {x p q : EX} (hx : PartOk cols x) (h : sidesE n x = some (p, q)) : PartOk cols p ∧ PartOk cols q := by
 unfold sidesE at h
 split at h
 · rename_i t v a b
   have ha := hx.arg (a := a) (by simp)
   have hb := hx.arg (a := b) (by simp)
   split at h
   · injection h with h; injection h with h1 h2; subst h1; subst h2; exact ⟨ha, hb⟩
   · split at h
     · injection h with h; injection h with h1 h2; subst h1; subst h2; exact ⟨hb, ha⟩
     · cases h
 · cases h
def SPok (s : SP) (k : Nat) : Prop := (fitsL s.a ∧ fitsL s.b ∧ fitsL s.rest) ∧ s.a.length ≤ k ∧ s.b.length ≤ k ∧ s.rest.length ≤ 1
theorem rest_fits {x : EX} {r : List EX} (hx : fits x) (hr : fitsL r) : fitsL (restE x r) ∧ (restE x r).length ≤ 1 := by
 cases r with
 | nil => exact ⟨by simp only [restE, fitsL]; exact ⟨hx, trivial⟩, by simp [restE]⟩
 | cons y r =>
   simp only [fitsL] at hr
   exact ⟨by simp only [restE, fitsL]; exact ⟨and_fits hr.1 hx, trivial⟩, by simp [restE]⟩
theorem step_ok {cols : List Ty} {n k : Nat} {s : SP} {x : EX} (hx : PartOk cols x) (hc : cols.length ≤ 1000000000) (hs : SPok s k) : SPok (stepS cols n s x) (k + 1) := by
 obtain ⟨⟨a1, a2, a3⟩, b1, b2, b3⟩ := hs
 obtain ⟨r1, r2⟩ := rest_fits hx.fit a3
 unfold stepS
 split
 · exact ⟨⟨a1, a2, r1⟩, by show s.a.length ≤ _; omega, by show s.b.length ≤ _; omega, r2⟩
 · rename_i p q hS
   obtain ⟨hp, hq⟩ := sides_parts hx hS
   have ht : ∀ y ∈ toP n cols.length cols.length, in64 y := by
     intro y hy
     unfold toP at hy
     obtain ⟨i, hi, rfl⟩ := List.mem_map.1 hy
     have := List.mem_range.1 hi
     split
     · exact ⟨by omega, by omega⟩
     · exact z64
   have hg : goodT (cfold (checkE cols p).1 [(checkE cols q).1]).1 := cfold_good hp.good (fun t ht => by rw [List.mem_singleton.1 ht]; exact hq.good)
   cases (cfold (checkE cols p).1 [(checkE cols q).1]).2
   · rw [cond_false]
     exact ⟨⟨a1, a2, r1⟩, by show s.a.length ≤ _; omega, by show s.b.length ≤ _; omega, r2⟩
   · rw [cond_true]
     refine ⟨⟨fitsL_append a1 ?_, fitsL_append a2 ?_, a3⟩, ?_, ?_, b3⟩
     · simp only [fitsL]; exact ⟨as_fits hp.fit hg, trivial⟩
     · simp only [fitsL]; exact ⟨as_fits (shR_fits ht hq.fit) hg, trivial⟩
     · show (s.a ++ [_]).length ≤ _; rw [List.length_append]; simp; omega
     · show (s.b ++ [_]).length ≤ _; rw [List.length_append]; simp; omega
theorem fold_ok {cols : List Ty} {n : Nat} (hc : cols.length ≤ 1000000000) : ∀ (ps : List EX) (s : SP) (k : Nat), (∀ p ∈ ps, PartOk cols p) → SPok s k → SPok (ps.foldl (stepS cols n) s) (k + ps.length)
 | [], s, k, _, hs => hs
 | x :: r, s, k, h, hs => by
   rw [List.foldl_cons, List.length_cons, show k + (r.length + 1) = (k + 1) + r.length by omega]
   exact fold_ok hc r _ _ (fun p hp => h p (by simp [hp])) (step_ok (h x (by simp)) hc hs)
theorem split_ok {l r : List Ty} {e : EX} (hlr : l.length + r.length ≤ 1000000000) (hf : fits e) (hs : size e ≤ 1000000000) : SPok (splitE l r e) 1000000000 := by
 unfold splitE
 cases h : (checkE (l ++ r) e).2 == 0
 · rw [cond_false]
   refine ⟨⟨?_, ?_, ?_⟩, by simp, by simp, by simp⟩
   · simp only [fitsL]
   · simp only [fitsL]
   · simp only [fitsL]; exact ⟨hf, trivial⟩
 · rw [cond_true]
   have hP : PartOk (l ++ r) e := ⟨hf, hs, by simpa using h⟩
   have := fold_ok (n := l.length) (by rw [List.length_append]; exact hlr) (partsE e) ⟨[], [], []⟩ 0 (parts_ok e hP) ⟨⟨by simp only [fitsL], by simp only [fitsL], by simp only [fitsL]⟩, by simp, by simp, by simp⟩
   have hl := partsE_len e
   obtain ⟨c1, c2, c3, c4⟩ := this
   exact ⟨c1, by omega, by omega, c4⟩
end Go.Proofs.Tryz
