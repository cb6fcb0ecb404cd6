/- A part of the proof: contracts of functions, by a verified generator of conditions; no condition of its own. -/
import Derived.Test.YtgjghnooiaaeiaaGreatDoorDm22
namespace Go.Dm
abbrev XC := Nat → List R → M (List R × List (List D))
abbrev XI := Nat → List V → List V → St → M (List (V × St))
def CX (xC : XC) : CallT := fun f args K => ∃ r, xC f args = .ok r ∧ K r.1 r.2
def IX (xI : XI) : Nat → List V → List V → St → (V → St → Prop) → Prop := fun f args caps s K => ∃ l, xI f args caps s = .ok l ∧ ∀ o ∈ l, K o.1 o.2
def xCallB (xC : XC) (s : St) (f : Nat) (args : List V) : M V :=
 match viewRs s args with
 | none => .no 200
 | some rs => match xC f rs with
   | .no w => .no w
   | .ok (res, fin) => (match fin, plainRes res with | [], some vs => .ok (oneV vs) | _, _ => .no 201)
theorem xCallB_sound {xC : XC} {s : St} {f : Nat} {args : List V} {v : V} {K : V → Prop} (h : xCallB xC s f args = .ok v) (hk : K v) : aCallB (CX xC) s f args K := by
 unfold xCallB at h
 split at h
 · cases h
 rename_i rs hrs
 split at h
 · cases h
 rename_i res fin hC
 split at h
 · rename_i h1
   simp only [M.ok.injEq] at h; subst h
   simp only [aCallB, hrs]
   refine ⟨_, hC, ?_⟩
   simp only [h1]; exact hk
 · cases h
def xCallPure (xC : XC) (s : St) (f : Nat) (args : List V) : M V :=
 match pureVs args with
 | false => .no 202
 | true =>
   match toRs s args with
   | none => .no 203
   | some (rs, _, _) => match xC f rs with
     | .no w => .no w
     | .ok (res, fin) => (match fin, noBox res with
       | [], true => (match ofResults s 0 res with | some (v, _) => .ok v | none => .no 204)
       | _, _ => .no 205)
def xCallAny (xC : XC) (s : St) (key : Nat) (f : Nat) (args : List V) : M (V × St) :=
 match toRs s args with
 | none => .no 206
 | some (rs, ks, s) =>
   match nodupB ks with
   | false => .no 207
   | true => match xC f rs with
     | .no w => .no w
     | .ok (res, fin) =>
       (match setBoxes s ks fin with
        | none => .no 208
        | some s => (match ofResults s key res with | some (v, s) => .ok (v, s) | none => .no 209))
theorem xCallAny_sound {xC : XC} {s : St} {key f : Nat} {args : List V} {o : V × St} {K : V → St → Prop} (h : xCallAny xC s key f args = .ok o) (hk : K o.1 o.2) : aCallAny (CX xC) s key f args K := by
 unfold xCallAny at h
 split at h
 · cases h
 rename_i rs ks s1 hrs
 split at h
 · cases h
 rename_i hn
 split at h
 · cases h
 rename_i res fin hC
 split at h
 · cases h
 rename_i s2 hs
 split at h
 · rename_i v s3 ho
   simp only [M.ok.injEq] at h; subst h
   simp only [aCallAny, hrs, hn]
   refine ⟨_, hC, ?_⟩
   simp only [hs, ho]; exact hk
 · cases h
def xAppend (E : Env) (s : St) (g : List (Nat × Bool)) (key : Nat) (args : Array Operand) (tys : Array TypeId) : M (V × St) :=
 match evs s g args.toList, tys.toList with
 | [a, b], [t, t'] =>
   (match E.ti t, Nat.beq t t' with
    | some { td := .slice e, .. }, true =>
      (match E.ti e with
       | some ei =>
         (match Nat.ble 1 ei.bytes with
          | false => .no 220
          | true => match xList b s with
            | .no w => .no w
            | .ok new =>
              (match allLen ei.ck.length new with
               | false => .no 221
               | true =>
                 (match a with
                  | .nil => (match lk s.hp key, Nat.ble (new.length * ei.bytes) 140737488355328 with
                    | none, true => .ok (.own key, s.setB key (.lst e ei.ck.length new))
                    | _, _ => .no 222)
                  | .own k => (match lk s.hp k with
                    | some (.lst e' sz es) => (match Nat.beq e' e, Nat.beq sz ei.ck.length, Nat.ble ((es.length + new.length) * ei.bytes) 140737488355328 with
                      | true, true, true => .ok (.own k, (s.strike k).setB k (.lst e sz (es ++ new)))
                      | _, _, _ => .no 223)
                    | _ => .no 224)
                  | _ => .no 225)))
       | none => .no 226)
    | _, _ => .no 227)
 | _, _ => .no 228
theorem xAppend_sound {E : Env} {C : CallT} {I : Nat → List V → List V → St → (V → St → Prop) → Prop} {s : St} {g : List (Nat × Bool)} {key : Nat} {args : Array Operand} {tys : Array TypeId} {o : V × St} {K : V → St → Prop} (h : xAppend E s g key args tys = .ok o) (hk : K o.1 o.2) : aHeap E C I s g key (.call { callee := .builtin .append, args := args, argTypes := tys }) K := by
 unfold xAppend at h
 simp only [aHeap]
 split at h
 rotate_left
 · cases h
 rename_i a b t t' h1 h2
 simp only [h1, h2]
 split at h
 rotate_left
 · cases h
 rename_i e hti hb
 simp only [hti, hb]
 split at h
 rotate_left
 · cases h
 rename_i ei hei
 simp only [hei]
 split at h
 · cases h
 rename_i hb1
 simp only [hb1]
 split at h
 · cases h
 rename_i new hnew
 refine xList_sound hnew ?_
 split at h
 · cases h
 rename_i hal
 refine ⟨allLen_sound hal, ?_⟩
 split at h
 · split at h
   · rename_i h3 h4
     simp only [M.ok.injEq] at h; subst h
     simp only [h3]
     have := Nat.le_of_ble_eq_true h4
     exact ⟨by rw [← Int.natCast_mul]; omega, hk⟩
   · cases h
 · split at h
   · rename_i hlk
     split at h
     · rename_i h3 h4 h5
       simp only [M.ok.injEq] at h; subst h
       simp only [hlk]
       have := Nat.le_of_ble_eq_true h5
       have e1 := Nat.eq_of_beq_eq_true h3
       have e2 := Nat.eq_of_beq_eq_true h4
       refine ⟨e1, e2, by rw [← Int.natCast_mul]; omega, ?_⟩
       subst e2
       exact hk
     · cases h
   · cases h
 · cases h
def xFind (k : Value) : List (Value × V) → Option (Option V)
 | [] => some none
 | (a, v) :: r =>
   match k, a with
   | .string y, .string x => (match y == x with | true => some (some v) | false => xFind k r)
   | .int q y, .int q' x => (match Nat.beq (ikNum q) (ikNum q') with | true => (match y == x with | true => some (some v) | false => xFind k r) | false => none)
   | _, _ => none
theorem xFind_sound {k : Value} : ∀ {es : List (Value × V)} {o : Option V} {Y : V → Prop} {Nn : Prop}, xFind k es = some o → (match o with | some v => Y v | none => Nn) → aFind k es Y Nn
 | [], o, Y, Nn, h, hk => by simp only [xFind, Option.some.injEq] at h; subst h; exact hk
 | (a, v) :: r, o, Y, Nn, h, hk => by
   unfold xFind at h
   unfold aFind
   split at h
   · rename_i y x
     cases hb : y == x
     · rw [hb] at h; exact ⟨fun e => (by first | (rw [hb] at e; cases e; done) | cases e), fun _ => xFind_sound h hk⟩
     · rw [hb] at h; simp only [Option.some.injEq] at h; subst h; exact ⟨fun _ => hk, fun e => (by first | (rw [hb] at e; cases e; done) | cases e)⟩
   · rename_i q y q' x
     split at h
     · rename_i hq
       simp only [hq]
       cases hb : y == x
       · rw [hb] at h; exact ⟨fun e => (by first | (rw [hb] at e; cases e; done) | cases e), fun _ => xFind_sound h hk⟩
       · rw [hb] at h; simp only [Option.some.injEq] at h; subst h; exact ⟨fun _ => hk, fun e => (by first | (rw [hb] at e; cases e; done) | cases e)⟩
     · cases h
   · cases h
def xPut (k : Value) (v : V) (pre : List (Value × V)) : List (Value × V) → Option (List (Value × V))
 | [] => some (app pre [(k, v)])
 | (a, y) :: r =>
   match k, a with
   | .string u, .string x => (match u == x with | true => some (app pre ((k, v) :: r)) | false => xPut k v (app pre [(a, y)]) r)
   | .int q u, .int q' x => (match Nat.beq (ikNum q) (ikNum q') with | true => (match u == x with | true => some (app pre ((k, v) :: r)) | false => xPut k v (app pre [(a, y)]) r) | false => none)
   | _, _ => none
theorem xPut_sound {k : Value} {v : V} : ∀ {es : List (Value × V)} {pre o : List (Value × V)} {K : List (Value × V) → Prop}, xPut k v pre es = some o → K o → aPut k v pre es K
 | [], pre, o, K, h, hk => by simp only [xPut, Option.some.injEq] at h; subst h; exact hk
 | (a, y) :: r, pre, o, K, h, hk => by
   unfold xPut at h
   unfold aPut
   split at h
   · rename_i u x
     cases hb : u == x
     · rw [hb] at h; exact ⟨fun e => (by first | (rw [hb] at e; cases e; done) | cases e), fun _ => xPut_sound h hk⟩
     · rw [hb] at h; simp only [Option.some.injEq] at h; subst h; exact ⟨fun _ => hk, fun e => (by first | (rw [hb] at e; cases e; done) | cases e)⟩
   · rename_i q u q' x
     split at h
     · rename_i hq
       simp only [hq]
       cases hb : u == x
       · rw [hb] at h; exact ⟨fun e => (by first | (rw [hb] at e; cases e; done) | cases e), fun _ => xPut_sound h hk⟩
       · rw [hb] at h; simp only [Option.some.injEq] at h; subst h; exact ⟨fun _ => hk, fun e => (by first | (rw [hb] at e; cases e; done) | cases e)⟩
     · cases h
   · cases h
def one1 {α : Type} (x : M α) : M (List α) := match x with | .ok a => .ok [a] | .no w => .no w
def xHeap (E : Env) (xC : XC) (xI : XI) (s : St) (g : List (Nat × Bool)) (key : Nat) (op : Op) : M (List (V × St)) :=
 match op with
 | .alloc t =>
   (match E.ti t, lk s.hp key with
    | some ti, none => .ok [(.ref key 0, s.setB key (.box (zeros ti.ck)))]
    | _, _ => .no 230)
 | .box t x =>
   (match E.ti t, lk s.hp key, cellsOf (ev s g x) with
    | some ti, none, some cs => (match Nat.beq cs.length ti.ck.length with | true => .ok [(.ref key 0, s.setB key (.box cs))] | false => .no 231)
    | _, _, _ => .no 232)
 | .store t a x => (match E.ti t with | some ti => (match xStore ti s (ev s g a) (ev s g x) with | .ok s => .ok [(.dead, s)] | .no w => .no w) | none => .no 233)
 | .buildSlice t len parts =>
   (match E.ti t, lk s.hp key with
    | some { td := .slice e, .. }, none =>
      (match E.ti e with
       | some ei =>
         (match Nat.ble (len * ei.ck.length) 16777216, aVal.fillA s g ei.ck.length (rep len (zeros ei.ck)) parts.toList with
          | true, some cs =>
            (match toDs s cs with
             | some (ds, s) => (match chunks ei.ck.length len ds with | some es => .ok [(.own key, s.setB key (.lst e ei.ck.length es))] | none => .no 234)
             | none => .no 235)
          | _, _ => .no 236)
       | none => .no 237)
    | _, _ => .no 238)
 | .makeSlice t n c =>
   (match E.ti t, lk s.hp key, ev s g n, ev s g c with
    | some { td := .slice e, .. }, none, .d (.v (.int .i64 (.ofNat n))), .d (.v (.int .i64 (.ofNat c))) =>
      (match E.ti e with
       | some ei => (match Nat.ble n c, Nat.ble (c * ei.bytes) 140737488355328, Nat.ble c 140737488355328, dZeros ei.ck with
         | true, true, true, some z => .ok [(.own key, s.setB key (.lst e ei.ck.length (List.replicate n z)))]
         | _, _, _, _ => .no 239)
       | none => .no 240)
    | _, _, _, _ => .no 241)
 | .call { callee := .builtin .append, args := args, argTypes := tys } => one1 (xAppend E s g key args tys)
 | .makeMap t none =>
   (match E.ti t, lk s.hp key with
    | some { td := .map _ _, .. }, none => .ok [(.mref key, s.setB key (.mp []))]
    | _, _ => .no 244)
 | .lookup t x ix cok =>
   (match E.ti t, ev s g x, ev s g ix with
    | some { td := .map kt et, .. }, .mref j, .d (.v k) =>
      (match E.ti kt, E.ti et, lk s.hp j with
       | some ki, some ei, some (.mp es) =>
         (match keyB ki k, ei.agg, zeros ei.ck, xFind k es with
          | true, false, [z], some o =>
            (match cok, o with
             | true, some v => .ok [(.tup [v, vbool true], s)]
             | true, none => .ok [(.tup [z, vbool false], s)]
             | false, some v => .ok [(v, s)]
             | false, none => .ok [(z, s)])
          | _, _, _, _ => .no 245)
       | _, _, _ => .no 246)
    | _, _, _ => .no 247)
 | .mapUpdate t m k x =>
   (match E.ti t, ev s g m, ev s g k with
    | some { td := .map kt et, .. }, .mref j, .d (.v kv) =>
      (match E.ti kt, E.ti et, lk s.hp j, cellV (ev s g x) with
       | some ki, some ei, some (.mp es), true =>
         (match keyB ki kv, ei.agg, xPut kv (ev s g x) [] es with
          | true, false, some es' => .ok [(.dead, s.setB j (.mp es'))]
          | _, _, _ => .no 248)
       | _, _, _, _ => .no 249)
    | _, _, _ => .no 250)
 | .insert t m k x =>
   (match E.ti t, ev s g m, ev s g k with
    | some { td := .map kt et, .. }, .mref j, .d (.v kv) =>
      (match E.ti kt, E.ti et, lk s.hp j, cellV (ev s g x) with
       | some ki, some ei, some (.mp es), true =>
         (match keyB ki kv, ei.agg, xPut kv (ev s g x) [] es with
          | true, false, some es' => .ok [(.dead, s.setB j (.mp es'))]
          | _, _, _ => .no 248)
       | _, _, _, _ => .no 249)
    | _, _, _ => .no 250)
 | .call { callee := .value f, args := args, .. } =>
   (match ev s g f with
    | .fn f caps =>
      (match mem E.bw f with
       | true => (match xCallB xC s f (app (evs s g args.toList) caps) with | .ok v => .ok [(v, s)] | .no w => .no w)
       | false => (match mem E.inl f with
         | true => xI f (evs s g args.toList) caps s
         | false => one1 (xCallAny xC s key f (app (evs s g args.toList) caps))))
    | _ => .no 242)
 | _ => .no 243
theorem xHeap_sound {E : Env} {xC : XC} {xI : XI} {s : St} {g : List (Nat × Bool)} {key : Nat} {op : Op} {l : List (V × St)} {K : V → St → Prop} (h : xHeap E xC xI s g key op = .ok l) (hk : ∀ o ∈ l, K o.1 o.2) : aHeap E (CX xC) (IX xI) s g key op K := by
 unfold xHeap at h
 split at h
 · simp only [aHeap]
   split at h
   · rename_i h1 h2; simp only [M.ok.injEq] at h; subst h; simp only [h1, h2]; exact hk _ (List.mem_singleton.2 rfl)
   · cases h
 · simp only [aHeap]
   split at h
   · rename_i h1 h2 h3
     split at h
     · rename_i h4; simp only [M.ok.injEq] at h; subst h; simp only [h1, h2, h3, h4]; exact hk _ (List.mem_singleton.2 rfl)
     · cases h
   · cases h
 · simp only [aHeap]
   split at h
   · rename_i h1
     split at h
     · rename_i h2; simp only [M.ok.injEq] at h; subst h; simp only [h1]; exact xStore_sound h2 (hk _ (List.mem_singleton.2 rfl))
     · cases h
   · cases h
 · simp only [aHeap]
   split at h
   rotate_left
   · cases h
   rename_i h1 h2
   simp only [h1, h2]
   split at h
   rotate_left
   · cases h
   rename_i h3
   simp only [h3]
   split at h
   rotate_left
   · cases h
   rename_i h4 h5
   simp only [h4, h5]
   split at h
   rotate_left
   · cases h
   rename_i h6
   simp only [h6]
   split at h
   rotate_left
   · cases h
   rename_i h7
   simp only [M.ok.injEq] at h; subst h
   simp only [h7]; exact hk _ (List.mem_singleton.2 rfl)
 · simp only [aHeap]
   split at h
   rotate_left
   · cases h
   rename_i n c h1 h2 h3 h4
   simp only [h1, h2, h3, h4]
   split at h
   rotate_left
   · cases h
   rename_i h5
   simp only [h5]
   split at h
   rotate_left
   · cases h
   rename_i h6 h7 h8 h9
   simp only [M.ok.injEq] at h; subst h
   have e1 := Nat.le_of_ble_eq_true h6
   have e2 := Nat.le_of_ble_eq_true h7
   have e3 := Nat.le_of_ble_eq_true h8
   refine ⟨Int.natCast_nonneg _, by simp; omega, by simp only [Int.ofNat_eq_natCast]; rw [← Int.natCast_mul]; omega, by simp; omega, ?_⟩
   simp only [h9]; exact hk _ (List.mem_singleton.2 rfl)
 · unfold one1 at h
   split at h
   · rename_i o ho
     simp only [M.ok.injEq] at h; subst h
     exact xAppend_sound ho (hk _ (List.mem_singleton.2 rfl))
   · cases h
 · simp only [aHeap]
   split at h
   · rename_i h1 h2; simp only [M.ok.injEq] at h; subst h; simp only [h1, h2]; exact hk _ (List.mem_singleton.2 rfl)
   · cases h
 · simp only [aHeap]
   split at h
   rotate_left
   · cases h
   rename_i h1 h2 h3
   simp only [h1, h2, h3]
   split at h
   rotate_left
   · cases h
   rename_i h4 h5 h6
   simp only [h4, h5, h6]
   split at h
   rotate_left
   · cases h
   rename_i o h7 h8 h9 h10
   simp only [h7, h8, h9]
   split at h <;> (simp only [M.ok.injEq] at h; subst h; exact xFind_sound h10 (hk _ (List.mem_singleton.2 rfl)))
 · simp only [aHeap]
   split at h
   rotate_left
   · cases h
   rename_i h1 h2 h3
   simp only [h1, h2, h3]
   split at h
   rotate_left
   · cases h
   rename_i h4 h5 h6 h7
   simp only [h4, h5, h6, h7]
   split at h
   rotate_left
   · cases h
   rename_i es' h8 h9 h10
   simp only [h8, h9]
   simp only [M.ok.injEq] at h; subst h
   exact xPut_sound h10 (hk _ (List.mem_singleton.2 rfl))
 · simp only [aHeap]
   split at h
   rotate_left
   · cases h
   rename_i h1 h2 h3
   simp only [h1, h2, h3]
   split at h
   rotate_left
   · cases h
   rename_i h4 h5 h6 h7
   simp only [h4, h5, h6, h7]
   split at h
   rotate_left
   · cases h
   rename_i es' h8 h9 h10
   simp only [h8, h9]
   simp only [M.ok.injEq] at h; subst h
   exact xPut_sound h10 (hk _ (List.mem_singleton.2 rfl))
 · simp only [aHeap]
   split at h
   rotate_left
   · cases h
   rename_i f caps hf
   simp only [hf]
   split at h
   · rename_i h1
     simp only [h1]
     split at h
     · rename_i v hv; simp only [M.ok.injEq] at h; subst h; exact xCallB_sound hv (hk _ (List.mem_singleton.2 rfl))
     · cases h
   · rename_i h1
     simp only [h1]
     split at h
     · rename_i h2
       simp only [h2]
       exact ⟨l, h, hk⟩
     · rename_i h2
       simp only [h2]
       unfold one1 at h
       split at h
       · rename_i o ho
         simp only [M.ok.injEq] at h; subst h
         exact xCallAny_sound ho (hk _ (List.mem_singleton.2 rfl))
       · cases h
 · cases h
def xSplitG : Nat → St → Nat → Bool → M (Bool × St)
 | 0, _, _, _ => .no 250
 | n + 1, s, t, want =>
   match lk s.kn t with
   | some b => (match b, want with | true, true => .ok (true, s) | false, false => .ok (true, s) | _, _ => .ok (false, s))
   | none =>
     match lk s.tm t with
     | some (.d (.v (.bool b))) => (match b, want with
       | true, true => .ok (true, s.know t want)
       | false, false => .ok (true, s.know t want)
       | _, _ => .ok (false, s.know t (!want)))
     | some _ => .no 251
     | none =>
       match lk s.gd t with
       | some (t', w', .d (.v (.bool b))) =>
         (match xSplitG n s t' w' with
          | .ok (true, s) => (match b, want with
            | true, true => .ok (true, s.know t want)
            | false, false => .ok (true, s.know t want)
            | _, _ => .ok (false, s.know t (!want)))
          | .ok (false, s) => .ok (false, s)
          | .no w => .no w)
       | _ => .no 252
theorem xSplitG_sound : ∀ (n : Nat) {s : St} {t : Nat} {want b : Bool} {s' : St} {Y N : St → Prop}, xSplitG n s t want = .ok (b, s') → (b = true → Y s') → (b = false → N s') → splitG n s t want Y N
 | 0, s, t, want, b, s', Y, N, h, _, _ => by simp only [xSplitG, reduceCtorEq] at h
 | n + 1, s, t, want, b, s', Y, N, h, hy, hn => by
   simp only [xSplitG] at h
   simp only [splitG]
   split at h
   · rename_i c hc
     simp only [hc]
     cases c <;> cases want <;> (simp only [M.ok.injEq, Prod.mk.injEq] at h; obtain ⟨rfl, rfl⟩ := h; first | exact hy rfl | exact hn rfl)
   · rename_i hc
     simp only [hc]
     split at h
     · rename_i c hc2
       simp only [hc2]
       cases c <;> cases want <;> (simp only [M.ok.injEq, Prod.mk.injEq] at h; obtain ⟨rfl, rfl⟩ := h; refine ⟨fun e => ?_, fun e => ?_⟩ <;> first | exact hy rfl | exact hn rfl | cases e)
     · cases h
     · rename_i hc2
       simp only [hc2]
       split at h
       · rename_i t' w' c hc3
         simp only [hc3]
         split at h
         · rename_i s1 hs
           refine xSplitG_sound n hs (fun _ => ?_) (fun e => by cases e)
           cases c <;> cases want <;> (simp only [M.ok.injEq, Prod.mk.injEq] at h; obtain ⟨rfl, rfl⟩ := h; refine ⟨fun e => ?_, fun e => ?_⟩ <;> first | exact hy rfl | exact hn rfl | cases e)
         · rename_i s1 hs
           simp only [M.ok.injEq, Prod.mk.injEq] at h; obtain ⟨rfl, rfl⟩ := h
           exact xSplitG_sound n hs (fun e => by cases e) (fun _ => hn rfl)
         · cases h
       · cases h
def xPick (s : St) (g : List (Nat × Bool)) (c a b : Operand) : M (V × St) :=
 match c with
 | .tmp t =>
   (match lk s.kn t with
    | some true => .ok (ev s g a, s)
    | some false => .ok (ev s g b, s)
    | none =>
      match evT s g t, ev s ((t, true) :: g) a, ev s ((t, false) :: g) b with
      | .d (.v (.bool x)), .d (.v (.bool y)), .d (.v (.bool z)) => .ok (vbool (cond x y z), s)
      | .d (.v (.bool true)), va, _ => .ok (va, s.know t true)
      | .d (.v (.bool false)), _, vb => .ok (vb, s.know t false)
      | _, _, _ => .no 260)
 | .const (.bool true) => .ok (ev s g a, s)
 | .const (.bool false) => .ok (ev s g b, s)
 | _ => .no 261
theorem xPick_sound {s : St} {g : List (Nat × Bool)} {c a b : Operand} {o : V × St} {K : V → St → Prop} (h : xPick s g c a b = .ok o) (hk : K o.1 o.2) : aPick s g c a b K := by
 unfold xPick at h
 split at h
 · simp only [aPick]
   split at h
   · rename_i hc; simp only [M.ok.injEq] at h; subst h; simp only [hc]; exact hk
   · rename_i hc; simp only [M.ok.injEq] at h; subst h; simp only [hc]; exact hk
   · rename_i hc
     simp only [hc]
     split at h
     · rename_i h1 h2 h3; simp only [M.ok.injEq] at h; subst h; simp only [h1, h2, h3]; exact hk
     · rename_i h1 h2; simp only [M.ok.injEq] at h; subst h
       simp only [h1]
       exact ⟨fun _ => hk, fun e => by cases e⟩
     · rename_i h1 h2; simp only [M.ok.injEq] at h; subst h
       simp only [h1]
       exact ⟨fun e => (by cases e), fun _ => hk⟩
     · cases h
 · simp only [M.ok.injEq] at h; subst h; exact hk
 · simp only [M.ok.injEq] at h; subst h; exact hk
 · cases h
def withS (s : St) (x : M V) : M (List (V × St)) := match x with | .ok v => .ok [(v, s)] | .no w => .no w
def xOp (E : Env) (xC : XC) (xI : XI) (s : St) (g : List (Nat × Bool)) (o : Oper) : M (List (V × St)) :=
 match o.op with
 | .pick c a b => one1 (xPick s g c a b)
 | .alloc .. | .box .. | .store .. | .buildSlice .. | .makeSlice .. => xHeap E xC xI s g (freshK s.hp (E.off + o.dst.getD 0)) o.op
 | .call { callee := .builtin .append, .. } => xHeap E xC xI s g (freshK s.hp (E.off + o.dst.getD 0)) o.op
 | .call { callee := .builtin .clear, .. } => xHeap E xC xI s g (freshK s.hp (E.off + o.dst.getD 0)) o.op
 | .call { callee := .builtin .copy, .. } => xHeap E xC xI s g (freshK s.hp (E.off + o.dst.getD 0)) o.op
 | .makeMap .. | .lookup .. | .mapUpdate .. | .insert .. => xHeap E xC xI s g (freshK s.hp (E.off + o.dst.getD 0)) o.op
 | .call { callee := .value _, .. } => xHeap E xC xI s g (freshK s.hp (E.off + o.dst.getD 0)) o.op
 | op => withS s (xVal E s g op)
theorem xOp_sound {E : Env} {xC : XC} {xI : XI} {s : St} {g : List (Nat × Bool)} {o : Oper} {l : List (V × St)} {K : V → St → Prop} (h : xOp E xC xI s g o = .ok l) (hk : ∀ o ∈ l, K o.1 o.2) : aOp E (CX xC) (IX xI) s g o K := by
 unfold xOp at h
 unfold aOp
 split at h
 · rename_i hop
   unfold one1 at h
   split at h
   · rename_i r hr
     simp only [M.ok.injEq] at h; subst h
     simp only [hop]
     exact xPick_sound hr (hk _ (List.mem_singleton.2 rfl))
   · cases h
 all_goals first
   | (rename_i hop; simp only [hop] at h ⊢; exact xHeap_sound h hk)
   | skip
 · rename_i h1 h2 h3 h4 h5 h6 h7 h7x h7y h7a h7b h7c h7d h8
   unfold withS at h
   split at h
   · rename_i v hv
     simp only [M.ok.injEq] at h; subst h
     split
     all_goals first
       | exact xVal_sound hv (hk _ (List.mem_singleton.2 rfl))
       | (rename_i hop; first | exact (h1 _ _ _ hop).elim | exact (h2 _ hop).elim | exact (h3 _ _ hop).elim | exact (h4 _ _ _ hop).elim | exact (h5 _ _ _ hop).elim | exact (h6 _ _ _ hop).elim | exact (h7 _ _ hop).elim | exact (h7x _ _ hop).elim | exact (h7y _ _ hop).elim | exact (h7a _ _ hop).elim | exact (h7b _ _ _ _ hop).elim | exact (h7c _ _ _ _ hop).elim | exact (h7d _ _ _ _ hop).elim | exact (h8 _ _ _ hop).elim)
   · cases h
end Go.Dm
namespace Go.Dm
def eqVal : Value → Value → Bool
 | .bool a, .bool b => a == b
 | .int k a, .int k' b => (match Nat.beq (ikNum k) (ikNum k') with | true => a == b | false => false)
 | .string a, .string b => a.data == b.data
 | .pointer none, .pointer none => true
 | .nilIface, .nilIface => true
 | .nilFunc, .nilFunc => true
 | .map none, .map none => true
 | _, _ => false
theorem eqVal_sound {a b : Value} (h : eqVal a b = true) : a = b := by
 unfold eqVal at h
 split at h <;> first | rfl | cases h | skip
 · rw [eq_of_beq h]
 · split at h
   · rename_i hk; rw [ikNum_inj (Nat.eq_of_beq_eq_true hk), eq_of_beq h]
   · cases h
 · rename_i x y
   have : x.data = y.data := eq_of_beq h
   cases x; cases y; simp only at this; rw [this]
mutual
def seqD : D → D → Bool
 | .v x, .v y => eqVal x y
 | .sl a, .sl b => seqDLL a b
 | _, _ => false
def seqDL : List D → List D → Bool
 | [], [] => true
 | a :: l, b :: r => (match seqD a b with | true => seqDL l r | false => false)
 | _, _ => false
def seqDLL : List (List D) → List (List D) → Bool
 | [], [] => true
 | a :: l, b :: r => (match seqDL a b with | true => seqDLL l r | false => false)
 | _, _ => false
end
mutual
theorem seqD_sound : ∀ {a b : D}, seqD a b = true → a = b
 | .v x, .v y, h => congrArg D.v (eqVal_sound (by simpa only [seqD] using h))
 | .sl a, .sl b, h => congrArg D.sl (seqDLL_sound (by simpa only [seqD] using h))
 | .v _, .sl _, h => by simp only [seqD, reduceCtorEq] at h
 | .sl _, .v _, h => by simp only [seqD, reduceCtorEq] at h
theorem seqDL_sound : ∀ {a b : List D}, seqDL a b = true → a = b
 | [], [], _ => rfl
 | a :: l, b :: r, h => by
   simp only [seqDL] at h
   split at h
   · rename_i h1; rw [seqD_sound h1, seqDL_sound h]
   · cases h
 | [], _ :: _, h => by simp only [seqDL, reduceCtorEq] at h
 | _ :: _, [], h => by simp only [seqDL, reduceCtorEq] at h
theorem seqDLL_sound : ∀ {a b : List (List D)}, seqDLL a b = true → a = b
 | [], [], _ => rfl
 | a :: l, b :: r, h => by
   simp only [seqDLL] at h
   split at h
   · rename_i h1; rw [seqDL_sound h1, seqDLL_sound h]
   · cases h
 | [], _ :: _, h => by simp only [seqDLL, reduceCtorEq] at h
 | _ :: _, [], h => by simp only [seqDLL, reduceCtorEq] at h
end
mutual
def seqV : V → V → Bool
 | .dead, .dead => true
 | .d x, .d y => seqD x y
 | .nil, .nil => true
 | .agg a, .agg b => seqVL a b
 | .tup a, .tup b => seqVL a b
 | .ref k o, .ref k' o' => (match Nat.beq k k' with | true => Nat.beq o o' | false => false)
 | .own k, .own k' => Nat.beq k k'
 | .optr k i o, .optr k' i' o' => (match Nat.beq k k', Nat.beq i i' with | true, true => Nat.beq o o' | _, _ => false)
 | .dptr a, .dptr b => seqDL a b
 | .fn f a, .fn g b => (match Nat.beq f g with | true => seqVL a b | false => false)
 | .yld l, .yld l' => Nat.beq l l'
 | _, _ => false
def seqVL : List V → List V → Bool
 | [], [] => true
 | a :: l, b :: r => (match seqV a b with | true => seqVL l r | false => false)
 | _, _ => false
end
mutual
theorem seqV_sound : ∀ {a b : V}, seqV a b = true → a = b
 | .dead, b, h => by cases b <;> simp only [seqV, reduceCtorEq] at h; rfl
 | .nil, b, h => by cases b <;> simp only [seqV, reduceCtorEq] at h; rfl
 | .d x, b, h => by
   cases b <;> simp only [seqV, reduceCtorEq] at h
   rw [seqD_sound h]
 | .agg x, b, h => by
   cases b <;> simp only [seqV, reduceCtorEq] at h
   rw [seqVL_sound h]
 | .tup x, b, h => by
   cases b <;> simp only [seqV, reduceCtorEq] at h
   rw [seqVL_sound h]
 | .ref k o, b, h => by
   cases b <;> simp only [seqV, reduceCtorEq] at h
   split at h
   · rename_i h1; rw [Nat.eq_of_beq_eq_true h1, Nat.eq_of_beq_eq_true h]
   · cases h
 | .own k, b, h => by
   cases b <;> simp only [seqV, reduceCtorEq] at h
   rw [Nat.eq_of_beq_eq_true h]
 | .optr k i o, b, h => by
   cases b <;> simp only [seqV, reduceCtorEq] at h
   split at h
   · rename_i h1 h2; rw [Nat.eq_of_beq_eq_true h1, Nat.eq_of_beq_eq_true h2, Nat.eq_of_beq_eq_true h]
   · cases h
 | .dptr x, b, h => by
   cases b <;> simp only [seqV, reduceCtorEq] at h
   rw [seqDL_sound h]
 | .fn f x, b, h => by
   cases b <;> simp only [seqV, reduceCtorEq] at h
   split at h
   · rename_i h1; rw [Nat.eq_of_beq_eq_true h1, seqVL_sound h]
   · cases h
 | .yld l, b, h => by
   cases b <;> simp only [seqV, reduceCtorEq] at h
   rw [Nat.eq_of_beq_eq_true h]
theorem seqVL_sound : ∀ {a b : List V}, seqVL a b = true → a = b
 | [], [], _ => rfl
 | a :: l, b :: r, h => by
   simp only [seqVL] at h
   split at h
   · rename_i h1; rw [seqV_sound h1, seqVL_sound h]
   · cases h
 | [], _ :: _, h => by simp only [seqVL, reduceCtorEq] at h
 | _ :: _, [], h => by simp only [seqVL, reduceCtorEq] at h
end
def seqB : B → B → Bool
 | .box a, .box b => seqVL a b
 | .lst e z a, .lst e' z' b => (match Nat.beq e e', Nat.beq z z' with | true, true => seqDLL a b | _, _ => false)
 | .fro z a, .fro z' b => (match Nat.beq z z' with | true => seqDLL a b | false => false)
 | _, _ => false
theorem seqB_sound {a b : B} (h : seqB a b = true) : a = b := by
 cases a <;> cases b <;> simp only [seqB, reduceCtorEq] at h
 · rw [seqVL_sound h]
 · split at h
   · rename_i h1 h2; rw [Nat.eq_of_beq_eq_true h1, Nat.eq_of_beq_eq_true h2, seqDLL_sound h]
   · cases h
 · split at h
   · rename_i h1; rw [Nat.eq_of_beq_eq_true h1, seqDLL_sound h]
   · cases h
def seqA {α : Type} (eq : α → α → Bool) : List (Nat × α) → List (Nat × α) → Bool
 | [], [] => true
 | (k, a) :: l, (k', b) :: r => (match Nat.beq k k', eq a b with | true, true => seqA eq l r | _, _ => false)
 | _, _ => false
theorem seqA_sound {α : Type} {eq : α → α → Bool} (he : ∀ a b, eq a b = true → a = b) : ∀ {a b : List (Nat × α)}, seqA eq a b = true → a = b
 | [], [], _ => rfl
 | (k, a) :: l, (k', b) :: r, h => by
   simp only [seqA] at h
   split at h
   · rename_i h1 h2; rw [Nat.eq_of_beq_eq_true h1, he _ _ h2, seqA_sound he h]
   · cases h
 | [], _ :: _, h => by simp only [seqA, reduceCtorEq] at h
 | _ :: _, [], h => by simp only [seqA, reduceCtorEq] at h
def seqRt : List (List (Nat × V)) → List (List (Nat × V)) → Bool
 | [], [] => true
 | a :: l, b :: r => (match seqA seqV a b with | true => seqRt l r | false => false)
 | _, _ => false
theorem seqRt_sound : ∀ {a b : List (List (Nat × V))}, seqRt a b = true → a = b
 | [], [], _ => rfl
 | a :: l, b :: r, h => by
   simp only [seqRt] at h
   split at h
   · rename_i h1; rw [seqA_sound (fun _ _ => seqV_sound) h1, seqRt_sound h]
   · cases h
 | [], _ :: _, h => by simp only [seqRt, reduceCtorEq] at h
 | _ :: _, [], h => by simp only [seqRt, reduceCtorEq] at h
def seqGd (a b : Nat × Bool × V) : Bool := match Nat.beq a.1 b.1, a.2.1 == b.2.1 with | true, true => seqV a.2.2 b.2.2 | _, _ => false
theorem seqGd_sound (a b : Nat × Bool × V) (h : seqGd a b = true) : a = b := by
 obtain ⟨a1, a2, a3⟩ := a
 obtain ⟨b1, b2, b3⟩ := b
 unfold seqGd at h
 split at h
 · rename_i h1 h2
   have h1 := Nat.eq_of_beq_eq_true h1
   have h2 := eq_of_beq h2
   have h3 := seqV_sound h
   simp only at h1 h2 h3
   rw [h1, h2, h3]
 · cases h
def eqSt (a b : St) : Bool :=
 match seqA seqV a.tm b.tm with
 | false => false
 | true => match seqA seqB a.hp b.hp with
   | false => false
   | true => match seqA (fun x y => x == y) a.kn b.kn with
     | false => false
     | true => match seqA seqGd a.gd b.gd with
       | false => false
       | true => seqRt a.rt b.rt
theorem eqSt_sound {a b : St} (h : eqSt a b = true) : a = b := by
 unfold eqSt at h
 split at h
 · cases h
 rename_i h1
 split at h
 · cases h
 rename_i h2
 split at h
 · cases h
 rename_i h3
 split at h
 · cases h
 rename_i h4
 cases a; cases b
 simp only at h1 h2 h3 h4 h
 rw [seqA_sound (fun _ _ => seqV_sound) h1, seqA_sound (fun _ _ => seqB_sound) h2, seqA_sound (fun _ _ h => eq_of_beq h) h3, seqA_sound seqGd_sound h4, seqRt_sound h]
def hasSt (s : St) : List St → Bool
 | [] => false
 | x :: r => match eqSt x s with | true => true | false => hasSt s r
theorem hasSt_sound {s : St} : ∀ {l : List St}, hasSt s l = true → s ∈ l
 | x :: r, h => by
   simp only [hasSt] at h
   split at h
   · rename_i h1; rw [eqSt_sound h1]; exact List.mem_cons_self
   · exact List.mem_cons_of_mem _ (hasSt_sound h)
def mergeSt (l : List St) : List St → List St
 | [] => l
 | x :: r => match hasSt x l with | true => mergeSt l r | false => mergeSt (x :: l) r
theorem mem_mergeSt : ∀ {r l : List St} {s : St}, s ∈ l ∨ s ∈ r → s ∈ mergeSt l r
 | [], l, s, h => by simpa [mergeSt] using h
 | x :: r, l, s, h => by
   simp only [mergeSt]
   split
   · rename_i h1
     refine mem_mergeSt ?_
     rcases h with h | h
     · exact .inl h
     · rcases List.mem_cons.1 h with rfl | h
       · exact .inl (hasSt_sound h1)
       · exact .inr h
   · refine mem_mergeSt ?_
     rcases h with h | h
     · exact .inl (List.mem_cons_of_mem _ h)
     · rcases List.mem_cons.1 h with rfl | h
       · exact .inl List.mem_cons_self
       · exact .inr h
def xBind {α β : Type} (f : α → M (List β)) : List α → M (List β)
 | [] => .ok []
 | [a] => f a
 | a :: r => match f a with
   | .no w => .no w
   | .ok x => (match xBind f r with | .ok y => .ok (app x y) | .no w => .no w)
theorem xBind_ok {α β : Type} {f : α → M (List β)} : ∀ {l : List α} {o : List β}, xBind f l = .ok o → ∀ a ∈ l, ∃ x, f a = .ok x ∧ ∀ b ∈ x, b ∈ o
 | [], o, h, a, ha => by cases ha
 | [x], o, h, a, ha => by
   rcases List.mem_singleton.1 ha with rfl
   exact ⟨o, h, fun _ h => h⟩
 | x :: y :: r, o, h, a, ha => by
   simp only [xBind] at h
   split at h
   · cases h
   rename_i z hz
   split at h
   rotate_left
   · cases h
   rename_i q hq
   simp only [M.ok.injEq] at h; subst h
   rcases List.mem_cons.1 ha with rfl | ha
   · exact ⟨z, hz, fun b hb => by rw [app_eq]; exact List.mem_append_left _ hb⟩
   · obtain ⟨u, h1, h2⟩ := xBind_ok hq a ha
     exact ⟨u, h1, fun b hb => by rw [app_eq]; exact List.mem_append_right _ (h2 b hb)⟩
def stepped (ks : List Nat) (d : Option Nat) : List (V × St) → List (List Nat × St)
 | [] => []
 | (v, s) :: r => (ks, putO s d v) :: stepped ks d r
theorem mem_stepped {ks : List Nat} {d : Option Nat} : ∀ {l : List (V × St)} {o : V × St}, o ∈ l → (ks, putO o.2 d o.1) ∈ stepped ks d l
 | (v, s) :: r, o, h => by
   simp only [stepped]
   rcases List.mem_cons.1 h with rfl | h
   · exact List.mem_cons_self
   · exact List.mem_cons_of_mem _ (mem_stepped h)
def xStep (E : Env) (xC : XC) (xI : XI) (ops : List Oper) (o : Oper) (s : St) : M (List (List Nat × St)) :=
 match o.guard with
 | none => (match xOp E xC xI s [] o with | .ok l => .ok (stepped (useKeys E s [] o.op) o.dst l) | .no w => .no w)
 | some (j, want) =>
   match guardSlot ops j with
   | none => .no 300
   | some t =>
     match E.con with
     | false => .no 301
     | true =>
       match lk s.kn t with
       | some b => (match b, want with
         | true, true => (match xOp E xC xI s [(t, want)] o with | .ok l => .ok (stepped (useKeys E s [(t, want)] o.op) o.dst l) | .no w => .no w)
         | false, false => (match xOp E xC xI s [(t, want)] o with | .ok l => .ok (stepped (useKeys E s [(t, want)] o.op) o.dst l) | .no w => .no w)
         | _, _ => .ok [([], putGO s o.dst (t, want) (vbool false))])
       | none => match xSplitG 12 s t want with
         | .ok (true, s) => (match xOp E xC xI s [(t, want)] o with | .ok l => .ok (stepped (useKeys E s [(t, want)] o.op) o.dst l) | .no w => .no w)
         | .ok (false, s) => .ok [([], putGO s o.dst (t, want) (vbool false))]
         | .no w => .no w
theorem xStep_sound {E : Env} {xC : XC} {xI : XI} {ops : List Oper} {o : Oper} {s : St} {l : List (List Nat × St)} {next : List Nat → St → Prop} (h : xStep E xC xI ops o s = .ok l) (hk : ∀ x ∈ l, next x.1 x.2) : aStep E (CX xC) (IX xI) ops o s next := by
 unfold xStep at h
 unfold aStep
 have key : ∀ {s1 : St} {g : List (Nat × Bool)}, (match xOp E xC xI s1 g o with | .ok l => M.ok (stepped (useKeys E s1 g o.op) o.dst l) | .no w => .no w) = M.ok l → aOp E (CX xC) (IX xI) s1 g o fun v s' => next (useKeys E s1 g o.op) (putO s' o.dst v) := fun {s1 g} h => by
   split at h
   · rename_i l1 hl
     simp only [M.ok.injEq] at h; subst h
     exact xOp_sound hl fun x hx => hk _ (mem_stepped hx)
   · cases h
 split at h
 · rename_i hg
   simp only [hg]
   exact key h
 · rename_i j want hg
   simp only [hg]
   split at h
   · cases h
   rename_i t ht
   simp only [ht]
   split at h
   · cases h
   rename_i hcon
   simp only [hcon]
   split at h
   · rename_i b hb
     simp only [hb]
     split at h
     · exact key h
     · exact key h
     · rename_i h1 h2
       simp only [M.ok.injEq] at h; subst h
       cases b <;> cases want <;> first | exact (h1 rfl rfl).elim | exact (h2 rfl rfl).elim | (simp only [hcon]; exact hk _ (List.mem_singleton.2 rfl))
   · rename_i hb
     simp only [hb]
     split at h
     · rename_i s1 hs
       exact xSplitG_sound 12 hs (fun _ => key h) (fun e => by cases e)
     · rename_i s1 hs
       simp only [M.ok.injEq] at h; subst h
       exact xSplitG_sound 12 hs (fun e => by cases e) (fun _ => hk _ (List.mem_singleton.2 rfl))
     · cases h
def xOps (E : Env) (xC : XC) (xI : XI) (ops : List Oper) : List Oper → St → M (List St)
 | [], s => .ok [s]
 | o :: rest, s => match xStep E xC xI ops o s with
   | .ok l => xBind (fun x => xOps E xC xI ops rest x.2) l
   | .no w => .no w
theorem xOps_sound {E : Env} {xC : XC} {xI : XI} {ops : List Oper} : ∀ {l : List Oper} {s : St} {r : List St} {K : St → Prop}, xOps E xC xI ops l s = .ok r → (∀ x ∈ r, K x) → aOps E (CX xC) (IX xI) ops l s K
 | [], s, r, K, h, hk => by
   simp only [xOps, M.ok.injEq] at h; subst h
   exact hk s (List.mem_singleton.2 rfl)
 | o :: rest, s, r, K, h, hk => by
   simp only [xOps] at h
   split at h
   rotate_left
   · cases h
   rename_i l hl
   refine xStep_sound hl fun x hx => ?_
   obtain ⟨y, h1, h2⟩ := xBind_ok h x hx
   exact xOps_sound h1 fun z hz => hk z (h2 z hz)
def xAny (E : Env) (xC : XC) (xI : XI) (ops : List Oper) : Sched → List (Nat × List Nat) → St → M (List St)
 | .done, _, s => .ok [s]
 | .q i k, rs, s => (match nth ops i with
   | none => .no 310
   | some o => match xStep E xC xI ops o s with
     | .ok l => xBind (fun x => xAny E xC xI ops k ((i, x.1) :: rs) x.2) l
     | .no w => .no w)
 | .one i drop k, rs, s => (match nth ops i with
   | none => .no 311
   | some o => match xStep E xC xI ops o s with
     | .ok l => xBind (fun x => match disj x.1 (dropR drop rs) with | true => xAny E xC xI ops k (dropR drop rs) x.2 | false => .no 312) l
     | .no w => .no w)
 | .alt i drop k rest, rs, s => (match nth ops i with
   | none => .no 313
   | some o => match xStep E xC xI ops o s with
     | .ok l => (match xBind (fun x => match disj x.1 (dropR drop rs) with | true => xAny E xC xI ops k (dropR drop rs) x.2 | false => .no 314) l with
       | .ok a => (match xAny E xC xI ops rest rs s with | .ok b => .ok (mergeSt a b) | .no w => .no w)
       | .no w => .no w)
     | .no w => .no w)
theorem xAny_sound {E : Env} {xC : XC} {xI : XI} {ops : List Oper} {K : St → Prop} : ∀ {sch : Sched} {rs : List (Nat × List Nat)} {s : St} {r : List St}, xAny E xC xI ops sch rs s = .ok r → (∀ x ∈ r, K x) → aAny E (CX xC) (IX xI) ops K sch rs s
 | .done, rs, s, r, h, hk => by
   simp only [xAny, M.ok.injEq] at h; subst h
   exact hk s (List.mem_singleton.2 rfl)
 | .q i k, rs, s, r, h, hk => by
   simp only [xAny] at h
   simp only [aAny]
   split at h
   · cases h
   rename_i o ho
   simp only [ho]
   split at h
   rotate_left
   · cases h
   rename_i l hl
   refine xStep_sound hl fun x hx => ?_
   obtain ⟨y, h1, h2⟩ := xBind_ok h x hx
   exact xAny_sound h1 fun z hz => hk z (h2 z hz)
 | .one i drop k, rs, s, r, h, hk => by
   simp only [xAny] at h
   simp only [aAny]
   split at h
   · cases h
   rename_i o ho
   simp only [ho]
   split at h
   rotate_left
   · cases h
   rename_i l hl
   refine xStep_sound hl fun x hx => ?_
   obtain ⟨y, h1, h2⟩ := xBind_ok h x hx
   split at h1
   · rename_i hd
     simp only [hd]
     exact xAny_sound h1 fun z hz => hk z (h2 z hz)
   · cases h1
 | .alt i drop k rest, rs, s, r, h, hk => by
   simp only [xAny] at h
   simp only [aAny]
   split at h
   · cases h
   rename_i o ho
   simp only [ho]
   split at h
   rotate_left
   · cases h
   rename_i l hl
   split at h
   rotate_left
   · cases h
   rename_i a ha
   split at h
   rotate_left
   · cases h
   rename_i b hb
   simp only [M.ok.injEq] at h; subst h
   refine ⟨xStep_sound hl fun x hx => ?_, xAny_sound hb fun z hz => hk z (mem_mergeSt (.inr hz))⟩
   obtain ⟨y, h1, h2⟩ := xBind_ok ha x hx
   split at h1
   · rename_i hd
     simp only [hd]
     exact xAny_sound h1 fun z hz => hk z (mem_mergeSt (.inl (h2 z hz)))
   · cases h1
def xCond (s : St) (c : Operand) : M (Bool × St) :=
 match c with
 | .tmp t =>
   (match lk s.kn t with
    | some true => .ok (true, s)
    | some false => .ok (false, s)
    | none =>
      match lk s.tm t with
      | some (.d (.v (.bool true))) => .ok (true, s.know t true)
      | some (.d (.v (.bool false))) => .ok (false, s.know t false)
      | _ => .no 320)
 | .const (.bool true) => .ok (true, s)
 | .const (.bool false) => .ok (false, s)
 | _ => .no 321
theorem xCond_sound {s s' : St} {c : Operand} {b : Bool} {X Y : St → Prop} (h : xCond s c = .ok (b, s')) (hx : b = true → X s') (hy : b = false → Y s') : aCond s c X Y := by
 unfold xCond at h
 unfold aCond
 split at h
 · split at h
   · rename_i hc; simp only [M.ok.injEq, Prod.mk.injEq] at h; obtain ⟨rfl, rfl⟩ := h; simp only [hc]; exact hx rfl
   · rename_i hc; simp only [M.ok.injEq, Prod.mk.injEq] at h; obtain ⟨rfl, rfl⟩ := h; simp only [hc]; exact hy rfl
   · rename_i hc
     simp only [hc]
     split at h
     · rename_i hc2; simp only [M.ok.injEq, Prod.mk.injEq] at h; obtain ⟨rfl, rfl⟩ := h; simp only [hc2]; exact ⟨fun _ => hx rfl, fun e => by cases e⟩
     · rename_i hc2; simp only [M.ok.injEq, Prod.mk.injEq] at h; obtain ⟨rfl, rfl⟩ := h; simp only [hc2]; exact ⟨fun e => (by cases e), fun _ => hy rfl⟩
     · cases h
 · simp only [M.ok.injEq, Prod.mk.injEq] at h; obtain ⟨rfl, rfl⟩ := h; exact hx rfl
 · simp only [M.ok.injEq, Prod.mk.injEq] at h; obtain ⟨rfl, rfl⟩ := h; exact hy rfl
 · cases h
def endAll (keep : List Nat) (ops : List Oper) : List St → List (Ex × St)
 | [] => []
 | s :: r => (.normal, endRegion keep ops s) :: endAll keep ops r
theorem mem_endAll {keep : List Nat} {ops : List Oper} : ∀ {l : List St} {s : St}, s ∈ l → (Ex.normal, endRegion keep ops s) ∈ endAll keep ops l
 | x :: r, s, h => by
   simp only [endAll]
   rcases List.mem_cons.1 h with rfl | h
   · exact List.mem_cons_self
   · exact List.mem_cons_of_mem _ (mem_endAll h)
def exitX (id : Nat) : List (Ex × St) → List (Ex × St)
 | [] => []
 | (e, s) :: r => (match e with | .exit i => (match Nat.beq i id with | true => (.normal, s) | false => (.exit i, s)) | e => (e, s)) :: exitX id r
theorem mem_exitX {id : Nat} : ∀ {l : List (Ex × St)} {o : Ex × St}, o ∈ l → (match o.1 with | .exit i => (match Nat.beq i id with | true => (Ex.normal, o.2) | false => (.exit i, o.2)) | e => (e, o.2)) ∈ exitX id l
 | (e, s) :: r, o, h => by
   simp only [exitX]
   rcases List.mem_cons.1 h with rfl | h
   · exact List.mem_cons_self
   · exact List.mem_cons_of_mem _ (mem_exitX h)
def xLoop (prep : St → St) (body : St → M (List (Ex × St))) : Nat → St → M (List (Ex × St))
 | 0, _ => .no 330
 | n + 1, s => match body s with
   | .no w => .no w
   | .ok l => xBind (fun x => match x.1 with | .normal => xLoop prep body n (prep x.2) | e => .ok [(e, x.2)]) l
def xCode (n : Nat) (E : Env) (xC : XC) (xI : XI) (fi : Fi) : Code → St → M (List (Ex × St))
 | .skip, s => .ok [(.normal, s)]
 | .region _ ops false, s => (match xOps E xC xI ops.toList ops.toList s with | .ok l => .ok (endAll fi.keep ops.toList l) | .no w => .no w)
 | .region id ops true, s => (match lk fi.sc id with
   | none => .no 331
   | some sch => match xAny E xC xI ops.toList sch [] s with | .ok l => .ok (endAll fi.keep ops.toList l) | .no w => .no w)
 | .seq a b, s => (match xCode n E xC xI fi a s with
   | .no w => .no w
   | .ok l => xBind (fun x => match x.1 with | .normal => xCode n E xC xI fi b x.2 | e => .ok [(e, x.2)]) l)
 | .cond c a b, s => (match xCond s c with
   | .ok (true, s) => xCode n E xC xI fi a s
   | .ok (false, s) => xCode n E xC xI fi b s
   | .no w => .no w)
 | .block id b, s => (match xCode n E xC xI fi b s with | .ok l => .ok (exitX id l) | .no w => .no w)
 | .loop b, s => (match lk fi.lp (codeId b), lk fi.lx (codeId b) with
   | some (live, dk), none => xLoop (fun s => nilOwn (match lk fi.cv (codeId b) with | some cv => cv | none => []) (clean live dk s)) (fun s => xCode n E xC xI fi b s) n
       (nilOwn (match lk fi.cv (codeId b) with | some cv => cv | none => []) (clean live dk s))
   | _, _ => .no 332)
 | .exit id, s => .ok [(.exit id, s)]
 | .ret, s => .ok [(.ret, s)]
 | _, _ => .no 333
theorem xCode_sound {n : Nat} {E : Env} {xC : XC} {xI : XI} {fi : Fi} : ∀ (c : Code) {s : St} {l : List (Ex × St)} {K : Ex → St → Prop}, xCode n E xC xI fi c s = .ok l → (∀ x ∈ l, K x.1 x.2) → awp E (CX xC) (IX xI) fi c s K := by
 intro c
 induction c with
 | skip => intro s l K h hk; simp only [xCode, M.ok.injEq] at h; subst h; exact hk _ (List.mem_singleton.2 rfl)
 | region id ops any =>
   intro s l K h hk
   cases any with
   | false =>
     simp only [xCode] at h
     split at h
     · rename_i r hr
       simp only [M.ok.injEq] at h; subst h
       simp only [awp]
       exact xOps_sound hr fun x hx => hk _ (mem_endAll hx)
     · cases h
   | true =>
     simp only [xCode] at h
     simp only [awp]
     split at h
     · cases h
     rename_i sch hs
     simp only [hs]
     split at h
     · rename_i r hr
       simp only [M.ok.injEq] at h; subst h
       exact xAny_sound hr fun x hx => hk _ (mem_endAll hx)
     · cases h
 | seq a b iha ihb =>
   intro s l K h hk
   simp only [xCode] at h
   simp only [awp]
   split at h
   · cases h
   rename_i r hr
   refine iha hr fun x hx => ?_
   obtain ⟨y, h1, h2⟩ := xBind_ok h x hx
   obtain ⟨e, s'⟩ := x
   cases e with
   | normal => exact ihb h1 fun z hz => hk z (h2 z hz)
   | exit i => simp only [M.ok.injEq] at h1; subst h1; exact hk _ (h2 _ (List.mem_singleton.2 rfl))
   | ret => simp only [M.ok.injEq] at h1; subst h1; exact hk _ (h2 _ (List.mem_singleton.2 rfl))
 | cond c a b iha ihb =>
   intro s l K h hk
   simp only [xCode] at h
   simp only [awp]
   split at h
   · rename_i s1 hc; exact xCond_sound hc (fun _ => iha h hk) (fun e => by cases e)
   · rename_i s1 hc; exact xCond_sound hc (fun e => by cases e) (fun _ => ihb h hk)
   · cases h
 | block id b ih =>
   intro s l K h hk
   simp only [xCode] at h
   simp only [awp]
   split at h
   rotate_left
   · cases h
   rename_i r hr
   simp only [M.ok.injEq] at h; subst h
   refine ih hr fun x hx => ?_
   have := hk _ (mem_exitX (id := id) hx)
   obtain ⟨e, s'⟩ := x
   cases e with
   | normal => exact this
   | ret => exact this
   | exit i =>
     simp only at this ⊢
     split at this
     · rename_i hb; simp only [hb]; exact this
     · rename_i hb; simp only [hb]; exact this
 | loop b ih =>
   intro s l K h hk
   simp only [xCode] at h
   simp only [awp]
   split at h
   rotate_left
   · cases h
   rename_i live dk h1 h2
   simp only [h1, h2]
   refine ⟨fun m s' => ∃ o, xLoop (fun s => nilOwn (match lk fi.cv (codeId b) with | some cv => cv | none => []) (clean live dk s)) (fun s => xCode n E xC xI fi b s) m s' = .ok o ∧ ∀ x ∈ o, K x.1 x.2, ⟨n, l, h, hk⟩, ?_⟩
   rintro m s' ⟨o, ho, hko⟩
   cases m with
   | zero => simp only [xLoop, reduceCtorEq] at ho
   | succ m =>
     simp only [xLoop] at ho
     split at ho
     · cases ho
     rename_i r hr
     refine ih hr fun x hx => ?_
     obtain ⟨y, h3, h4⟩ := xBind_ok ho x hx
     obtain ⟨e, s''⟩ := x
     cases e with
     | normal => exact ⟨m, Nat.lt_succ_self m, y, h3, fun z hz => hko z (h4 z hz)⟩
     | exit i => simp only [M.ok.injEq] at h3; subst h3; exact hko _ (h4 _ (List.mem_singleton.2 rfl))
     | ret => simp only [M.ok.injEq] at h3; subst h3; exact hko _ (h4 _ (List.mem_singleton.2 rfl))
 | exit id => intro s l K h hk; simp only [xCode, M.ok.injEq] at h; subst h; exact hk _ (List.mem_singleton.2 rfl)
 | ret => intro s l K h hk; simp only [xCode, M.ok.injEq] at h; subst h; exact hk _ (List.mem_singleton.2 rfl)
 | _ => intro s l K h hk; simp only [xCode, reduceCtorEq] at h
end Go.Dm
namespace Go.Dm
def xFin (E : Env) (res : List ResultVar) (bk : List Nat) (e : Ex) (s : St) : M (List R × List (List D)) :=
 match e with
 | .exit _ => .no 400
 | _ =>
   match resV E s res with
   | none => .no 401
   | some vs =>
     match toRsO s vs with
     | none => .no 402
     | some (rs, ks, s) => match nodupB (app ks bk), finals s bk with | true, some (fin, s') => (match actAll s'.hp ks with | true => .ok (rs, fin) | false => .no 406) | _, _ => .no 403
theorem xFin_sound {E : Env} {res : List ResultVar} {bk : List Nat} {e : Ex} {s : St} {r : List R × List (List D)} {Q : KT} (h : xFin E res bk e s = .ok r) (hq : Q r.1 r.2) : finKO E res bk Q e s := by
 unfold xFin at h
 have key : (match resV E s res with | none => M.no 401 | some vs => match toRsO s vs with | none => .no 402 | some (rs, ks, s) => match nodupB (app ks bk), finals s bk with | true, some (fin, s') => (match actAll s'.hp ks with | true => .ok (rs, fin) | false => .no 406) | _, _ => .no 403) = M.ok r →
     (match resV E s res with | none => False | some vs => match toRsO s vs with | none => False | some (rs, ks, s) => match nodupB (app ks bk), finals s bk with | true, some (fin, s') => (match actAll s'.hp ks with | true => Q rs fin | false => False) | _, _ => False) := fun h => by
   split at h
   · cases h
   rename_i vs hvs
   split at h
   · cases h
   rename_i rs ks s1 hrs
   split at h
   · rename_i h1 h2
     split at h
     · rename_i h3
       simp only [M.ok.injEq] at h; subst h
       first | exact hq | (simp only [h1, h2, h3]; exact hq)
     · cases h
   · cases h
 cases e with
 | exit i => cases h
 | normal => exact key h
 | ret => exact key h
def sR : R → R → Bool
 | .d a, .d b => seqD a b
 | .agg a, .agg b => seqDL a b
 | .box a, .box b => seqDL a b
 | .ptr a, .ptr b => seqDL a b
 | .lst e z a, .lst e' z' b => (match Nat.beq e e', Nat.beq z z' with | true, true => seqDLL a b | _, _ => false)
 | _, _ => false
theorem sR_sound {a b : R} (h : sR a b = true) : a = b := by
 cases a <;> cases b <;> simp only [sR, reduceCtorEq] at h
 · rw [seqD_sound h]
 · rw [seqDL_sound h]
 · rw [seqDL_sound h]
 · rw [seqDL_sound h]
 · split at h
   · rename_i h1 h2; rw [Nat.eq_of_beq_eq_true h1, Nat.eq_of_beq_eq_true h2, seqDLL_sound h]
   · cases h
def sRs : List R → List R → Bool
 | [], [] => true
 | a :: l, b :: r => (match sR a b with | true => sRs l r | false => false)
 | _, _ => false
theorem sRs_sound : ∀ {a b : List R}, sRs a b = true → a = b
 | [], [], _ => rfl
 | a :: l, b :: r, h => by
   simp only [sRs] at h
   split at h
   · rename_i h1; rw [sR_sound h1, sRs_sound h]
   · cases h
 | [], _ :: _, h => by simp only [sRs, reduceCtorEq] at h
 | _ :: _, [], h => by simp only [sRs, reduceCtorEq] at h
def xFins (E : Env) (res : List ResultVar) (bk : List Nat) : List (Ex × St) → M (List R × List (List D))
 | [] => .no 404
 | [(e, s)] => xFin E res bk e s
 | (e, s) :: r => match xFin E res bk e s with
   | .no w => .no w
   | .ok a => (match xFins E res bk r with
     | .no w => .no w
     | .ok b => (match sRs a.1 b.1, seqDLL a.2 b.2 with | true, true => .ok a | _, _ => .no 405))
theorem xFins_sound {E : Env} {res : List ResultVar} {bk : List Nat} : ∀ {l : List (Ex × St)} {r : List R × List (List D)}, xFins E res bk l = .ok r → ∀ x ∈ l, xFin E res bk x.1 x.2 = .ok r
 | [(e, s)], r, h, x, hx => by rcases List.mem_singleton.1 hx with rfl; exact h
 | (e, s) :: y :: q, r, h, x, hx => by
   simp only [xFins] at h
   split at h
   · cases h
   rename_i a ha
   split at h
   · cases h
   rename_i b hb
   split at h
   rotate_left
   · cases h
   rename_i h1 h2
   simp only [M.ok.injEq] at h; subst h
   rcases List.mem_cons.1 hx with rfl | hx
   · exact ha
   · have := xFins_sound hb x hx
     rw [this]
     obtain ⟨a1, a2⟩ := a
     obtain ⟨b1, b2⟩ := b
     have e1 := sRs_sound h1
     have e2 := seqDLL_sound h2
     simp only at e1 e2
     rw [e1, e2]
def backTo (s0 : St) (E : Env) (res : List ResultVar) : List (Ex × St) → M (List (V × St))
 | [] => .ok []
 | (e, s') :: r => match e with
   | .exit _ => .no 410
   | _ => (match resV E s' res, backTo s0 E res r with
     | some vs, .ok l => .ok ((oneV vs, { tm := (bak s').tm, hp := s'.hp, kn := s0.kn, gd := [], rt := (bak s').rt }) :: l)
     | none, _ => .no 411
     | _, .no w => .no w)
def tagNo (f w : Nat) : Nat := match Nat.ble w 999 with | true => 1000 * f + w | false => w
abbrev XL := Nat → List R → Option (List R × List (List D))
def LibOk (P : Program) (gl : Nat → Option Obj) (lib : XL) : Prop := ∀ f args r, lib f args = some r → Ct P gl f args (fun a b => a = r.1 ∧ b = r.2)
abbrev GrowT := List (Nat × (Nat × Nat × Nat))
def GrowOk (P : Program) (gw : GrowT) : Prop := ∀ f e sz by_, lk gw f = some (e, sz, by_) → 0 < sz ∧ FnOk P f ∧
 (∀ w, Calls P f #[.slice none 0 0, .int .i64 (0 : Nat)] w fun e w' => e = .returned (.slice none 0 0) ∧ w' = w) ∧
 (∀ (n : Nat) (w : World), 0 < n → n * by_ ≤ 140737488355328 → n ≤ 4611686018427387904 → Calls P f #[.slice none 0 0, .int .i64 n] w fun en w' => ∃ cap cells, n ≤ cap ∧ cap ≤ maxLen ∧ cells.size = cap * sz ∧
     en = .returned (.slice (some ⟨w.heap.size, 0, none⟩) 0 cap) ∧ w' = w.drew.alloc (.cells cells e))
theorem growOk_no {P : Program} : GrowOk P [] := fun _ _ _ _ h => by cases h
theorem GrowOk.cons {P : Program} {gw : GrowT} {f e sz by_ : Nat} (h : GrowOk P gw) (hpos : 0 < sz) (hf : FnOk P f)
   (h0 : ∀ w, Calls P f #[.slice none 0 0, .int .i64 (0 : Nat)] w fun e w' => e = .returned (.slice none 0 0) ∧ w' = w)
   (hn : ∀ (n : Nat) (w : World), 0 < n → n * by_ ≤ 140737488355328 → n ≤ 4611686018427387904 → Calls P f #[.slice none 0 0, .int .i64 n] w fun en w' => ∃ cap cells, n ≤ cap ∧ cap ≤ maxLen ∧ cells.size = cap * sz ∧
     en = .returned (.slice (some ⟨w.heap.size, 0, none⟩) 0 cap) ∧ w' = w.drew.alloc (.cells cells e)) : GrowOk P ((f, (e, sz, by_)) :: gw) := fun f' e' sz' by' hk => by
 simp only [lk] at hk
 split at hk
 · rename_i he
   have := Nat.eq_of_beq_eq_true he
   subst this
   simp only [Option.some.injEq, Prod.mk.injEq] at hk
   obtain ⟨rfl, rfl, rfl⟩ := hk
   exact ⟨hpos, hf, h0, hn⟩
 · exact h _ _ _ _ hk
def xGrow (e sz by_ key : Nat) (args caps : List V) (s : St) : M (List (V × St)) :=
 match args, caps with
 | [.nil, .d (.v (.int .i64 (.ofNat n)))], [] =>
   (match Nat.ble (n * by_) 140737488355328, Nat.ble n 4611686018427387904 with
    | true, true => (match n with
      | 0 => .ok [(.nil, s)]
      | _ + 1 => .ok [(.own (freshK s.hp key), s.setB (freshK s.hp key) (.lst e sz []))])
    | _, _ => .no 424)
 | _, _ => .no 425
theorem xGrow_sound {e sz by_ key f : Nat} {args caps : List V} {s : St} {l : List (V × St)} {K : V → St → Prop} (h : xGrow e sz by_ key args caps s = .ok l) (hk : ∀ o ∈ l, K o.1 o.2) : growI noI f e sz by_ key f args caps s K := by
 unfold xGrow at h
 unfold growI
 rw [show Nat.beq f f = true from Nat.beq_refl f]
 split at h
 rotate_left
 · cases h
 rename_i n
 split at h
 rotate_left
 · cases h
 rename_i h1 h2
 have h1 := Nat.le_of_ble_eq_true h1
 have h2 := Nat.le_of_ble_eq_true h2
 refine ⟨Int.natCast_nonneg _, by simp only [Int.ofNat_eq_natCast]; rw [← Int.natCast_mul]; omega, by simp only [Int.ofNat_eq_natCast]; omega, fun e0 => ?_, fun e0 => ?_⟩
 · have : n = 0 := by simp only [Int.ofNat_eq_natCast] at e0; omega
   subst this
   simp only [M.ok.injEq] at h; subst h
   exact hk _ (List.mem_singleton.2 rfl)
 · cases n with
   | zero => exact (e0 rfl).elim
   | succ n =>
     simp only [M.ok.injEq] at h; subst h
     exact hk _ (List.mem_singleton.2 rfl)
def xBoth (E : Env) (lib : XL) (gw : GrowT) (fis : Fis) : Nat → XC × XI
 | 0 => (fun _ _ => .no 420, fun _ _ _ _ => .no 421)
 | n + 1 => (
   fun f args => match lib f args with
     | some r => .ok r
     | none => match lk fis f with
       | none => .no (100000 + f)
       | some (_, nt, body, res, fi) => match Nat.ble args.length nt with
         | false => .no 422
         | true => match xCode n E (xBoth E lib gw fis n).1 (xBoth E lib gw fis n).2 fi body (argsSt args 0 100000 { tm := [], hp := [], kn := [], gd := [] }) with
           | .no w => .no (tagNo f w)
           | .ok l => (match xFins E res (boxKeys args 100000) l with | .ok r => .ok r | .no w => .no (tagNo f w)),
   fun f args caps s => match lk gw f with
   | some (e, sz, by_) => xGrow e sz by_ 60000 args caps s
   | none => match lk fis f with
     | none => .no (100000 + f)
     | some (off, nt, body, res, fi) => match Nat.ble (lenV (app args caps)) nt with
       | false => .no 423
       | true => match xCode n { E with off := off } (xBoth E lib gw fis n).1 (xBoth E lib gw fis n).2 fi body { tm := numV 0 (app args caps), hp := s.hp, kn := [], gd := [], rt := s.tm :: s.rt } with
         | .no w => .no (tagNo f w)
         | .ok l => (match backTo s E res l with | .ok r => .ok r | .no w => .no (tagNo f w)))
theorem backTo_sound {s0 : St} {E : Env} {res : List ResultVar} : ∀ {l : List (Ex × St)} {r : List (V × St)}, backTo s0 E res l = .ok r → ∀ x ∈ l, (match x.1 with | .exit _ => False | _ => True) ∧ ∃ vs, resV E x.2 res = some vs ∧ (oneV vs, { tm := (bak x.2).tm, hp := x.2.hp, kn := s0.kn, gd := [], rt := (bak x.2).rt }) ∈ r
 | [], r, h, x, hx => by cases hx
 | (e, s') :: q, r, h, x, hx => by
   simp only [backTo] at h
   split at h
   · cases h
   rename_i hne
   split at h
   · rename_i vs l hv hl
     simp only [M.ok.injEq] at h; subst h
     rcases List.mem_cons.1 hx with rfl | hx
     · refine ⟨?_, vs, hv, List.mem_cons_self⟩
       cases e with
       | exit i => exact (hne i rfl).elim
       | _ => trivial
     · obtain ⟨h1, vs', h2, h3⟩ := backTo_sound hl x hx
       exact ⟨h1, vs', h2, List.mem_cons_of_mem _ h3⟩
   · cases h
   · cases h
variable {P : Program} {gl : Nat → Option Obj} {E : Env} {lib : XL} {gw : GrowT} {fis : Fis}
theorem IOk.of {I I' : Nat → List V → List V → St → (V → St → Prop) → Prop} (h : IOk P gl I) (hi : ∀ f args caps s K, I' f args caps s K → I f args caps s K) : IOk P gl I' :=
 fun B0 bx W0 ok0 Z N ok φ s a w f args caps K vs cs h1 h2 h3 => h B0 bx W0 ok0 Z N ok φ s a w f args caps K vs cs h1 h2 (hi _ _ _ _ _ h3)
def growOr (gw : GrowT) (I : Nat → List V → List V → St → (V → St → Prop) → Prop) (f : Nat) (args caps : List V) (s : St) (K : V → St → Prop) : Prop :=
 match lk gw f with
 | some (e, sz, by_) => growI noI f e sz by_ 60000 f args caps s K
 | none => I f args caps s K
theorem growOr_ok (hG : GrowOk P gw) {I : Nat → List V → List V → St → (V → St → Prop) → Prop} (hI : IOk P gl I) : IOk P gl (growOr gw I) := by
 intro B0 bx W0 ok0 Z N ok φ s a w f args caps K vs cs hgl r h
 unfold growOr at h
 split at h
 · rename_i e sz by_ hlk
   obtain ⟨h1, h2, h3, h4⟩ := hG _ _ _ _ hlk
   exact growI_ok ioK_no h1 h2 h3 h4 B0 bx W0 ok0 Z N ok φ s a w f args caps K vs cs hgl r h
 · exact hI B0 bx W0 ok0 Z N ok φ s a w f args caps K vs cs hgl r h
theorem xBoth_ok (hE : EnvOk P E) (hlib : LibOk P gl lib) (hT : ItOk P E) (hm : P.follows .mixedOrders = true) (hF : FisOk P fis) (hG : GrowOk P gw) : ∀ n, CallsOk P gl (CX (xBoth E lib gw fis n).1) ∧ IOk P gl (IX (xBoth E lib gw fis n).2)
 | 0 => ⟨fun f args K ⟨r, h, _⟩ => (by cases h), fun B0 bx W0 ok0 Z N ok φ s a w f args caps K vs cs h1 h2 ⟨l, h, _⟩ => (by cases h)⟩
 | n + 1 => by
   obtain ⟨hC, hI⟩ := xBoth_ok hE hlib hT hm hF hG n
   refine ⟨fun f args K ⟨r, h, hk⟩ => ?_, (growOr_ok hG (ioK_inl hE hC hI hT hm hF)).of fun f args caps s K ⟨l, h, hk⟩ => ?_⟩
   · simp only [xBoth] at h
     split at h
     · rename_i r' hr
       simp only [M.ok.injEq] at h; subst h
       exact (hlib f args _ hr).mono fun a b ⟨e1, e2⟩ => by subst e1; subst e2; exact hk
     split at h
     · cases h
     rename_i off nt body res fi hlk
     split at h
     · cases h
     rename_i hle
     split at h
     · cases h
     rename_i l hl
     split at h
     rotate_left
     · cases h
     rename_i r0 hr0
     simp only [M.ok.injEq] at h; subst h
     obtain ⟨fn, h1, h2, h3, h4, h5, h6⟩ := hF _ _ _ _ _ _ hlk
     subst h3; subst h4
     refine ct_of_vcO hE hC hI hT hm h1 h2 h5 hle h6 (fi := fi) ⟨_, _, hk⟩ ?_
     exact xCode_sound body hl fun x hx => xFin_sound (xFins_sound hr0 x hx) hk
   · simp only [xBoth] at h
     unfold growOr
     split at h
     · exact xGrow_sound h hk
     unfold inl
     split at h
     · cases h
     rename_i off nt body res fi hlk
     simp only [hlk]
     split at h
     · cases h
     rename_i hle
     simp only [hle]
     split at h
     · cases h
     rename_i r hr
     split at h
     rotate_left
     · cases h
     rename_i l0 hl0
     simp only [M.ok.injEq] at h; subst h
     refine xCode_sound body hr fun x hx => ?_
     obtain ⟨h1, vs, h2, h3⟩ := backTo_sound hl0 x hx
     obtain ⟨e, s'⟩ := x
     have := hk _ h3
     simp only at this h2
     cases e with
     | exit i => exact h1.elim
     | normal => simp only [h2]; exact this
     | ret => simp only [h2]; exact this
theorem ct_run (hE : EnvOk P E) (hlib : LibOk P gl lib) (hT : ItOk P E) (hm : P.follows .mixedOrders = true) (hF : FisOk P fis) (hG : GrowOk P gw) (n : Nat) {f : Nat} {args : List R} {r : List R} (h : (xBoth E lib gw fis n).1 f args = .ok (r, [])) : Ct P gl f args (gives r) :=
 (xBoth_ok hE hlib hT hm hF hG n).1 f args (gives r) ⟨_, h, rfl, rfl⟩
def noDkL : List (Nat × (List Nat × List Nat)) → List (Nat × (List Nat × List Nat))
 | [] => []
 | (i, (l, _)) :: r => (i, (l, [])) :: noDkL r
def noDk (fi : Fi) : Fi := { fi with lp := noDkL fi.lp, cv := [], lx := [] }
def runsTrue (x : M (List R × List (List D))) : Bool := match x with | .ok ([.d (.v (.bool true))], []) => true | _ => false
theorem runsTrue_sound {x : M (List R × List (List D))} (h : runsTrue x = true) : x = .ok ([.d (.v (.bool true))], []) := by
 unfold runsTrue at h
 split at h
 · rfl
 · cases h
theorem libOk_no : LibOk P gl (fun _ _ => none) := fun f args r h => by cases h
end Go.Dm
