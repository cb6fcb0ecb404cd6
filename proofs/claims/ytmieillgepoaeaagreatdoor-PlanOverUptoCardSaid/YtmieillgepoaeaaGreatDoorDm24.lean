/- Functions at known data: the abstract weakest precondition as a program. -/
import Derived.Test.YtmieillgepoaeaaGreatDoorDm21
namespace Go.Dm

/-- What a run comes to, or a number that tells why it stops. -/
inductive M (α : Type) where
  | ok (a : α)
  | no (w : Nat)
  deriving Inhabited

def xInt (op : BinOp) (k : IntKind) (a b : Int) : M V :=
  match op with
  | .add => .ok (.d (.v (.int k (k.wrap (a + b)))))
  | .sub => .ok (.d (.v (.int k (k.wrap (a - b)))))
  | .mul => .ok (.d (.v (.int k (k.wrap (a * b)))))
  | .quo => match decide (b = 0) with | true => .no 1 | false => .ok (.d (.v (.int k (k.wrap (a.tdiv b)))))
  | .rem => match decide (b = 0) with | true => .no 1 | false => .ok (.d (.v (.int k (a.tmod b))))
  | .and => .ok (.d (.v (.int k (aInt.bits .and k a b))))
  | .or => .ok (.d (.v (.int k (aInt.bits .or k a b))))
  | .xor => .ok (.d (.v (.int k (aInt.bits .xor k a b))))
  | .shl => match decide (0 ≤ b) with | true => .ok (.d (.v (.int k (aInt.shl k a b)))) | false => .no 2
  | .shr => match decide (0 ≤ b) with | true => .ok (.d (.v (.int k (aInt.shr k a b)))) | false => .no 2
  | .eql => .ok (vbool (a == b))
  | .neq => .ok (vbool (a != b))
  | .lss => .ok (vbool (decide (a < b)))
  | .leq => .ok (vbool (decide (a ≤ b)))
  | .gtr => .ok (vbool (decide (a > b)))
  | .geq => .ok (vbool (decide (a ≥ b)))
  | _ => .no 3

theorem xInt_sound {op : BinOp} {k : IntKind} {a b : Int} {v : V} {K : V → Prop} (h : xInt op k a b = .ok v) (hk : K v) : aInt op k a b K := by
  cases op <;> simp only [xInt, M.ok.injEq, reduceCtorEq] at h <;> simp only [aInt]
  all_goals first
    | (subst h; exact hk)
    | (split at h
       · cases h
       · rename_i hb; simp only [M.ok.injEq] at h; subst h; exact ⟨of_decide_eq_false hb, hk⟩)
    | (split at h
       · rename_i hb; simp only [M.ok.injEq] at h; subst h; exact ⟨of_decide_eq_true hb, hk⟩
       · cases h)

/-- Are cells of these kinds? -/
def okK : List CK → List D → Bool
  | [], [] => true
  | .int k :: r, .v (.int k' _) :: l => (match Nat.beq (ikNum k) (ikNum k') with | true => okK r l | false => false)
  | .bool :: r, .v (.bool _) :: l => okK r l
  | .str :: r, .v (.string _) :: l => okK r l
  | .sl :: r, .sl _ :: l => okK r l
  | .ptr :: r, _ :: l => okK r l
  | .fn :: r, _ :: l => okK r l
  | .iface :: r, _ :: l => okK r l
  | .map :: r, _ :: l => okK r l
  | .other :: r, _ :: l => okK r l
  | _, _ => false

theorem ikNum_inj {a b : IntKind} (h : ikNum a = ikNum b) : a = b := by cases a <;> cases b <;> first | rfl | (exact absurd h (by decide))

theorem okK_sound : ∀ {ck : List CK} {l : List D} {F : List D → Prop}, okK ck l = true → F l → exK ck F
  | [], [], F, _, h => h
  | .int k :: r, .v (.int k' n) :: l, F, h, hf => by
    simp only [okK] at h
    split at h
    · rename_i hb
      have := ikNum_inj (Nat.eq_of_beq_eq_true hb)
      subst this
      exact ⟨n, okK_sound h hf⟩
    · cases h
  | .bool :: r, .v (.bool b) :: l, F, h, hf => ⟨b, okK_sound (F := fun l => F (.v (.bool b) :: l)) (by simpa only [okK] using h) hf⟩
  | .str :: r, .v (.string b) :: l, F, h, hf => ⟨b, okK_sound (F := fun l => F (.v (.string b) :: l)) (by simpa only [okK] using h) hf⟩
  | .sl :: r, .sl es :: l, F, h, hf => ⟨es, okK_sound (F := fun l => F (.sl es :: l)) (by simpa only [okK] using h) hf⟩
  | .ptr :: r, x :: l, F, h, hf => ⟨x, okK_sound (F := fun l => F (x :: l)) (by simpa only [okK] using h) hf⟩
  | .fn :: r, x :: l, F, h, hf => ⟨x, okK_sound (F := fun l => F (x :: l)) (by simpa only [okK] using h) hf⟩
  | .iface :: r, x :: l, F, h, hf => ⟨x, okK_sound (F := fun l => F (x :: l)) (by simpa only [okK] using h) hf⟩
  | .map :: r, x :: l, F, h, hf => ⟨x, okK_sound (F := fun l => F (x :: l)) (by simpa only [okK] using h) hf⟩
  | .other :: r, x :: l, F, h, hf => ⟨x, okK_sound (F := fun l => F (x :: l)) (by simpa only [okK] using h) hf⟩

def xLoadC (ti : TI) (cells : List D) (off : Nat) : M V :=
  match cut off ti.ck.length cells with
  | none => .no 10
  | some l => match okK ti.ck l with
    | false => .no 11
    | true => match ofCells ti.agg (vd l) with | some v => .ok v | none => .no 12

theorem xLoadC_sound {ti : TI} {cells : List D} {off : Nat} {v : V} {K : V → Prop} (h : xLoadC ti cells off = .ok v) (hk : K v) : loadC ti cells off K := by
  unfold xLoadC at h
  split at h
  · cases h
  rename_i l hl
  split at h
  · cases h
  rename_i ho
  split at h
  · rename_i v' hv
    simp only [M.ok.injEq] at h; subst h
    exact okK_sound ho ⟨hl, by rw [hv]; exact hk⟩
  · cases h

def xLoad (ti : TI) (s : St) (a : V) : M V :=
  match a with
  | .ref k off =>
    match lk s.hp k with
    | some (.box cs) =>
      (match cut off ti.ck.length cs with
       | some l => (match ofCells ti.agg l with | some v => .ok v | none => .no 13)
       | none => .no 14)
    | _ => .no 15
  | .optr k i off =>
    match lk s.hp k with
    | some (.lst _ _ es) => (match nth es i with | some cells => xLoadC ti cells off | none => .no 16)
    | some (.fro _ es) => (match nth es i with | some cells => xLoadC ti cells off | none => .no 16)
    | _ => .no 17
  | .dptr cs => xLoadC ti cs 0
  | _ => .no 18

theorem xLoad_sound {ti : TI} {s : St} {a : V} {v : V} {K : V → Prop} (h : xLoad ti s a = .ok v) (hk : K v) : aLoad ti s a K := by
  unfold xLoad at h
  split at h
  · split at h
    · rename_i cs hb
      split at h
      · rename_i l hl
        split at h
        · rename_i v' hv
          simp only [M.ok.injEq] at h; subst h
          simp only [aLoad, hb, hl, hv]; exact hk
        · cases h
      · cases h
    · cases h
  · split at h
    · rename_i es hb
      split at h
      · rename_i cells hn
        rw [nth_get] at hn
        simp only [aLoad, hb]
        exact ⟨cells, hn, xLoadC_sound h hk⟩
      · cases h
    · rename_i es hb
      split at h
      · rename_i cells hn
        rw [nth_get] at hn
        simp only [aLoad, hb]
        exact ⟨cells, hn, xLoadC_sound h hk⟩
      · cases h
    · cases h
  · exact xLoadC_sound h hk
  · cases h

def xStore (ti : TI) (s : St) (a x : V) : M St :=
  match cellsOf x with
  | none => .no 20
  | some xs =>
    match cellVs xs, Nat.beq xs.length ti.ck.length with
    | false, _ => .no 21
    | true, false => .no 22
    | true, true =>
    match a with
    | .ref k off =>
      match lk s.hp k with
      | some (.box cs) => (match over off xs cs with | some cs' => .ok (s.setB k (.box cs')) | none => .no 23)
      | _ => .no 24
    | .optr k i off =>
      match toDs s xs with
      | none => .no 25
      | some (ds, s) =>
        match lk s.hp k with
        | some (.lst e sz es) => (match nth es i with
          | some cells => (match over off ds cells with | some cells' => .ok (s.setB k (.lst e sz (es.set i cells'))) | none => .no 26)
          | none => .no 27)
        | _ => .no 28
    | _ => .no 29

theorem xStore_sound {ti : TI} {s : St} {a x : V} {s' : St} {K : St → Prop} (h : xStore ti s a x = .ok s') (hk : K s') : aStore ti s a x K := by
  unfold xStore at h
  unfold aStore
  split at h
  · cases h
  rename_i xs hxs
  rw [hxs]
  dsimp only
  split at h
  · cases h
  · cases h
  rename_i h1 h2
  rw [h1, h2]
  dsimp only
  split at h
  · split at h
    · rename_i cs hb
      split at h
      · rename_i cs' ho
        simp only [M.ok.injEq] at h; subst h
        simp only [hb, ho]; exact hk
      · cases h
    · cases h
  · split at h
    · cases h
    rename_i ds s1 hds
    simp only [hds]
    split at h
    · rename_i e sz es hb
      split at h
      · rename_i cells hn
        split at h
        · rename_i cells' ho
          simp only [M.ok.injEq] at h; subst h
          rw [nth_get] at hn
          simp only [hb]
          exact ⟨cells, hn, cells', ho, hk⟩
        · cases h
      · cases h
    · cases h
  · cases h

def xList (x : V) (s : St) : M (List (List D)) :=
  match x with
  | .nil => .ok []
  | .own k => (match lk s.hp k with | some (.lst _ _ es) => .ok es | some (.fro _ es) => .ok es | _ => .no 30)
  | .d (.sl es) => .ok es
  | _ => .no 31

theorem xList_sound {x : V} {s : St} {es : List (List D)} {K : List (List D) → Prop} (h : xList x s = .ok es) (hk : K es) : aList x s K := by
  unfold xList at h
  split at h
  · simp only [M.ok.injEq] at h; subst h; exact hk
  · split at h
    · rename_i hb; simp only [M.ok.injEq] at h; subst h; simp only [aList, hb]; exact hk
    · rename_i hb; simp only [M.ok.injEq] at h; subst h; simp only [aList, hb]; exact hk
    · cases h
  · simp only [M.ok.injEq] at h; subst h; exact ⟨_, rfl, hk⟩
  · cases h

def isStr (E : Env) (t : Nat) : Bool := match E.ti t with | some { ck := [.str], td := .plain, .. } => true | _ => false

def xBin (E : Env) (op : BinOp) (t : Nat) (x y : V) : M V :=
  match x, y with
  | .d (.v (.int k a)), .d (.v (.int k' b)) =>
    (match op, Nat.beq (ikNum k) (ikNum k') with
     | .shl, _ => xInt op k a b
     | .shr, _ => xInt op k a b
     | _, true => xInt op k a b
     | _, false => .no 40)
  | .d (.v (.string a)), .d (.v (.string b)) =>
    (match op with
     | .add => (match decide (a.size + b.size ≤ 9223372036854775807) with | true => .ok (.d (.v (.string (a ++ b)))) | false => .no 41)
     | .eql => .ok (vbool (a == b))
     | .neq => .ok (vbool (!(a == b)))
     | .lss => .ok (vbool (Op.bytesLess a.toList b.toList))
     | .leq => .ok (vbool (Op.bytesLess a.toList b.toList || a == b))
     | .gtr => .ok (vbool (!(Op.bytesLess a.toList b.toList || a == b)))
     | .geq => .ok (vbool (!Op.bytesLess a.toList b.toList))
     | _ => .no 42)
  | .d (.v (.bool a)), .d (.v (.bool b)) =>
    (match E.ti t with
     | some { ck := [.bool], td := .plain, .. } => (match op with | .eql => .ok (vbool (a == b)) | .neq => .ok (vbool (!(a == b))) | _ => .no 43)
     | _ => .no 44)
  | .d (.v (.pointer none)), .d (.v (.pointer none)) =>
    (match E.ti t with
     | some { td := .ptr _, .. } => (match op with | .eql => .ok (vbool true) | .neq => .ok (vbool false) | _ => .no 45)
     | _ => .no 46)
  | .dptr _, .d (.v (.pointer none)) =>
    (match E.ti t with
     | some { td := .ptr _, .. } => (match op with | .eql => .ok (vbool false) | .neq => .ok (vbool true) | _ => .no 45)
     | _ => .no 46)
  | .ref _ _, .d (.v (.pointer none)) =>
    (match E.ti t with
     | some { td := .ptr _, .. } => (match op with | .eql => .ok (vbool false) | .neq => .ok (vbool true) | _ => .no 45)
     | _ => .no 46)
  | .d (.sl es), .nil =>
    (match E.ti t with
     | some { td := .slice _, .. } => (match op, es with | .eql, _ :: _ => .ok (vbool false) | .neq, _ :: _ => .ok (vbool true) | _, _ => .no 51)
     | _ => .no 52)
  | .nil, .nil =>
    (match E.ti t with
     | some { td := .slice _, .. } => (match op with | .eql => .ok (vbool true) | .neq => .ok (vbool false) | _ => .no 53)
     | _ => .no 54)
  | .agg xs, .agg ys =>
    (match E.ti t with
     | some ti =>
       (match ti.agg, ti.eq, eqCells ti.ck xs ys with
        | true, true, some b => (match op with | .eql => .ok (vbool b) | .neq => .ok (vbool (!b)) | _ => .no 47)
        | _, _, _ => .no 48)
     | none => .no 49)
  | _, _ => .no 50

theorem xBin_sound {E : Env} {op : BinOp} {t : Nat} {x y v : V} {K : V → Prop} (h : xBin E op t x y = .ok v) (hk : K v) : aBin E op t x y K := by
  unfold xBin at h
  split at h
  · simp only [aBin]
    split at h
    · exact xInt_sound h hk
    · exact xInt_sound h hk
    · rename_i o1 o2 x1 h1 h2 h3
      rw [h3]
      cases o1 <;> first | exact xInt_sound h hk | (exact (h1 rfl).elim) | (exact (h2 rfl).elim)
    · cases h
  · simp only [aBin]
    split at h
    · split at h
      · rename_i hb; simp only [M.ok.injEq] at h; subst h; exact ⟨of_decide_eq_true hb, hk⟩
      · cases h
    all_goals first | (simp only [M.ok.injEq] at h; subst h; exact hk) | cases h
  all_goals first
    | (simp only [aBin]
       split at h
       · rename_i hti
         simp only [hti]
         intro b hb
         split at h <;> first | (simp only [M.ok.injEq] at h; subst h; cases b with | false => exact hk | true => cases hb rfl) | cases h
       · cases h)
    | (simp only [aBin]
       split at h
       · rename_i hti
         simp only [hti]
         split at h <;> first | (simp only [M.ok.injEq] at h; subst h; exact hk) | cases h
       · cases h)
    | (simp only [aBin]
       split at h
       · rename_i ti hti
         simp only [hti]
         split at h
         · rename_i h1 h2 h3
           simp only [h1, h2, h3]
           split at h <;> first | (simp only [M.ok.injEq] at h; subst h; exact hk) | cases h
         · cases h
       · cases h)
    | cases h

/-- Bounds of a slice: an operand of kind i64 that is not below nought, or what stands for none. -/
def xBound (s : St) (g : List (Nat × Bool)) (o : Option Operand) (dflt : Nat) : M Nat :=
  match o with
  | none => .ok dflt
  | some o => match ev s g o with
    | .d (.v (.int .i64 (.ofNat n))) => .ok n
    | _ => .no 60

theorem xBound_sound {s : St} {g : List (Nat × Bool)} {o : Option Operand} {d n : Nat} (h : xBound s g o d = .ok n) : (match (generalizing := false) o with | some o => ev s g o = .d (.v (.int .i64 n)) | none => n = d) := by
  cases o with
  | none => simp only [xBound, M.ok.injEq] at h; exact h.symm
  | some o =>
    simp only [xBound] at h
    split at h
    · rename_i hv; simp only [M.ok.injEq] at h; subst h; exact hv
    · cases h

def allLen (n : Nat) : List (List D) → Bool
  | [] => true
  | c :: r => match Nat.beq c.length n with | true => allLen n r | false => false
theorem allLen_sound {n : Nat} : ∀ {l : List (List D)}, allLen n l = true → ∀ c ∈ l, c.length = n
  | [], _, c, hc => by cases hc
  | x :: l, h, c, hc => by
    simp only [allLen] at h
    split at h
    · rename_i hb
      rcases List.mem_cons.1 hc with rfl | hc
      · exact Nat.eq_of_beq_eq_true hb
      · exact allLen_sound h c hc
    · cases h

/-- Is an index within? -/
def inB (n : Int) (len : Nat) : Option Nat :=
  match n with
  | .ofNat m => (match Nat.ble (Nat.succ m) len with | true => some m | false => none)
  | _ => none
theorem inB_sound {n : Int} {len m : Nat} (h : inB n len = some m) : n = (m : Int) ∧ m < len := by
  unfold inB at h
  split at h
  · split at h
    · rename_i hb
      simp only [Option.some.injEq] at h; subst h
      exact ⟨rfl, Nat.le_of_ble_eq_true hb⟩
    · cases h
  · cases h

def xIndexAddr (E : Env) (s : St) (g : List (Nat × Bool)) (t : Nat) (x i : Operand) : M V :=
  match E.ti t, ev s g i with
  | some { td := .slice e, .. }, .d (.v (.int _ n)) =>
    (match E.ti e with
     | some ei =>
       (match ev s g x with
        | .own k =>
          (match lk s.hp k with
           | some (.lst _ sz es) => (match inB n es.length, Nat.beq sz ei.ck.length with | some m, true => .ok (.optr k m 0) | _, _ => .no 61)
           | some (.fro sz es) => (match inB n es.length, Nat.beq sz ei.ck.length with | some m, true => .ok (.optr k m 0) | _, _ => .no 61)
           | _ => .no 62)
        | .d (.sl es) => (match inB n es.length with
          | some m => (match nth es m with
            | some cells => (match Nat.beq cells.length ei.ck.length with | true => .ok (.dptr cells) | false => .no 63)
            | none => .no 64)
          | none => .no 65)
        | _ => .no 66)
     | none => .no 67)
  | some { td := .arr len e, .. }, .d (.v (.int _ n)) =>
    (match E.ti e with
     | some ei =>
       (match inB n len with
        | some m =>
          (match ev s g x with
           | .ref k off => .ok (.ref k (off + m * ei.ck.length))
           | .optr k i off => .ok (.optr k i (off + m * ei.ck.length))
           | .dptr cs => .ok (.dptr (dropN (m * ei.ck.length) cs))
           | _ => .no 68)
        | none => .no 65)
     | none => .no 67)
  | _, _ => .no 69

def xIndex (E : Env) (s : St) (g : List (Nat × Bool)) (t : Nat) (x i : Operand) : M V :=
  match ev s g x, ev s g i with
  | .d (.v (.string b)), .d (.v (.int _ (.ofNat n))) => (match isStr E t, b[n]? with | true, some c => .ok (.d (.v (.int .u8 c.toNat))) | _, _ => .no 70)
  | .agg cs, .d (.v (.int _ n)) =>
    (match E.ti t with
     | some { td := .arr len e, .. } =>
       (match E.ti e with
        | some ei => (match inB n len with
          | some m =>
            (match cut (m * ei.ck.length) ei.ck.length cs with
             | some l => (match ofCells ei.agg l with | some v => .ok v | none => .no 71)
             | none => .no 72)
          | none => .no 73)
        | none => .no 74)
     | _ => .no 75)
  | _, _ => .no 76

def elemLen (E : Env) (t : Nat) : Option Nat := match E.ti t with | some { td := .slice e, .. } => (match E.ti e with | some ei => some ei.ck.length | none => none) | _ => none

def xSlice (E : Env) (s : St) (g : List (Nat × Bool)) (t : Nat) (x : Operand) (lo hi mx : Option Operand) : M V :=
  match mx with
  | none =>
    (match ev s g x with
     | .d (.v (.string b)) =>
       (match xBound s g lo 0, xBound s g hi b.size with
        | .ok l, .ok h => (match Nat.ble l h, Nat.ble h b.size, isStr E t with | true, true, true => .ok (.d (.v (.string (b.extract l h)))) | _, _, _ => .no 80)
        | _, _ => .no 81)
     | .d (.sl es) =>
       (match xBound s g lo 0, xBound s g hi es.length, elemLen E t with
        | .ok l, .ok h, some n => (match Nat.ble l h, Nat.ble h es.length, allLen n es with | true, true, true => .ok (.d (.sl ((es.take h).drop l))) | _, _, _ => .no 82)
        | _, _, _ => .no 83)
     | .ref k 0 =>
       (match lo, hi, E.ti t with
        | none, none, some { td := .arr n e, .. } => (match E.ti e with | some ei => .ok (.arrv k n ei.ck.length) | none => .no 85)
        | _, _, _ => .no 86)
     | _ => .no 84)
  | some mx =>
    (match ev s g x with
     | .d (.sl es) =>
       (match xBound s g lo 0, hi, xBound s g (some mx) 0, elemLen E t with
        | .ok l, some hi, .ok m, some n =>
          (match xBound s g (some hi) 0 with
           | .ok h => (match Nat.ble l h, Nat.ble h m, Nat.ble m es.length, allLen n es with | true, true, true, true => .ok (.d (.sl ((es.take h).drop l))) | _, _, _, _ => .no 85)
           | _ => .no 86)
        | _, _, _, _ => .no 87)
     | _ => .no 88)

def bytesOf : List (List D) → Option (List UInt8)
  | [] => some []
  | [.v (.int .u8 (.ofNat n))] :: r => (match Nat.ble n 255, bytesOf r with | true, some l => some (UInt8.ofNat n :: l) | _, _ => none)
  | _ => none
theorem bytesOf_sound : ∀ {es : List (List D)} {l : List UInt8}, bytesOf es = some l → es = bytesL l
  | [], l, h => by simp only [bytesOf, Option.some.injEq] at h; subst h; rfl
  | e :: r, l, h => by
    unfold bytesOf at h
    split at h
    · rename_i h0; cases h0
    · rename_i n r' h0
      obtain ⟨rfl, rfl⟩ := List.cons.inj h0
      split at h
      · rename_i l' h1 h2
        simp only [Option.some.injEq] at h; subst h
        have hn := Nat.le_of_ble_eq_true h1
        simp only [bytesL]
        rw [bytesOf_sound h2]
        have : (UInt8.ofNat n).toNat = n := by simp; omega
        rw [this]
        rfl
      · cases h
    · cases h

def xIfn (E : Env) (op : BinOp) (t : Nat) (x : V) : M V :=
  match E.ti t with
  | some { td := .iface, .. } =>
    (match op, x with
     | .eql, .d .opq => .ok (vbool false)
     | .neq, .d .opq => .ok (vbool true)
     | .eql, .d (.v .nilIface) => .ok (vbool true)
     | .neq, .d (.v .nilIface) => .ok (vbool false)
     | _, _ => .no 130)
  | _ => .no 131
theorem xIfn_sound {E : Env} {op : BinOp} {t : Nat} {x v : V} {K : V → Prop} (h : xIfn E op t x = .ok v) (hk : K v) : aIfn E op t x K := by
  unfold xIfn at h
  unfold aIfn
  split at h
  · rename_i he
    rw [he]
    dsimp only
    split at h <;> first | (cases h; exact hk) | (cases h; done)
  · cases h

/-- The operations that leave the own blocks as they are. -/
def xVal (E : Env) (s : St) (g : List (Nat × Bool)) (op : Op) : M V :=
  match op with
  | .move x => .ok (ev s g x)
  | .assign x => .ok (ev s g x)
  | .pick c a b =>
    (match ev s g c, ev s g a, ev s g b with
     | .d (.v (.bool t)), .d (.v (.bool x)), .d (.v (.bool y)) => .ok (vbool (cond t x y))
     | _, _, _ => .no 90)
  | .load t a => (match E.ti t with | some ti => xLoad ti s (ev s g a) | none => .no 91)
  | .nilCheck x =>
    (match ev s g x with
     | .ref k o => .ok (.ref k o)
     | .optr k i o => .ok (.optr k i o)
     | .dptr cs => .ok (.dptr cs)
     | .fn f cs => .ok (.fn f cs)
     | _ => .no 92)
  | .binOp op t x y _ => (match isNilC y with | true => xIfn E op t (ev s g x) | false => xBin E op t (ev s g x) (ev s g y))
  | .unOp op _ x =>
    (match op, ev s g x with
     | .not, .d (.v (.bool b)) => .ok (vbool (!b))
     | .neg, .d (.v (.int k n)) => .ok (.d (.v (.int k (k.wrap (0 - n)))))
     | .xor, .d (.v (.int k n)) => .ok (.d (.v (.int k (aInt.bits .xor k (if k.signed then -1 else k.max) n))))
     | _, _ => .no 93)
  | .convert t0 t x =>
    (match E.ti t0, E.ti t, ev s g x with
     | some { td := .plain, .. }, some { ck := [.int k], td := .plain, .. }, .d (.v (.int _ n)) => .ok (.d (.v (.int k (k.wrap n))))
     | some { td := .plain, .. }, some { ck := [.str], td := .plain, .. }, .d (.v (.string b)) => .ok (.d (.v (.string b)))
     | some { td := .slice e, .. }, some { ck := [.str], td := .plain, .. }, v =>
       (match E.ti e with
        | some { ck := [.int .u8], td := .plain, .. } => (match xList v s with
          | .no w => .no w
          | .ok es => (match bytesOf es with | some l => .ok (.d (.v (.string ⟨l.toArray⟩))) | none => .no 93))
        | _ => .no 89)
     | _, _, _ => .no 94)
  | .extract x i =>
    (match ev s g x with
     | .tup vs => (match nth vs i with | some v => .ok v | none => .no 95)
     | _ => .no 96)
  | .fieldAddr t x f =>
    (match E.ti t with
     | some { td := .struct fs, .. } =>
       (match nth fs f with
        | some (o, ft) =>
          (match E.ti ft, ev s g x with
           | some _, .ref k off => .ok (.ref k (off + o))
           | some _, .optr k i off => .ok (.optr k i (off + o))
           | some _, .dptr cs => .ok (.dptr (dropN o cs))
           | _, _ => .no 97)
        | none => .no 98)
     | _ => .no 99)
  | .field t x f =>
    (match E.ti t with
     | some { td := .struct fs, .. } =>
       (match nth fs f with
        | some (o, ft) =>
          (match E.ti ft, ev s g x with
           | some fi, .agg cs =>
             (match cut o fi.ck.length cs with
              | some l => (match ofCells fi.agg l with | some v => .ok v | none => .no 100)
              | none => .no 101)
           | _, _ => .no 102)
        | none => .no 103)
     | _ => .no 104)
  | .indexAddr t x i => xIndexAddr E s g t x i
  | .index t x i => xIndex E s g t x i
  | .slice t x lo hi mx => xSlice E s g t x lo hi mx
  | .build t parts =>
    (match E.ti t with
     | some { agg := true, ck := ck, td := .struct fs, .. } =>
       (match aVal.fillS E s g fs (zeros ck) parts.toList with | some cs => .ok (.agg cs) | none => .no 105)
     | some { agg := true, ck := ck, td := .arr _ e, .. } =>
       (match E.ti e with
        | some ei => (match aVal.fillA s g ei.ck.length (zeros ck) parts.toList with | some cs => .ok (.agg cs) | none => .no 106)
        | none => .no 107)
     | _ => .no 108)
  | .makeFunc (.func f) first caps =>
    (match first.toList with
     | [] => .ok (.fn f (evs s g caps.toList))
     | _ => .no 109)
  | .call { callee := .builtin .len, args := args, argTypes := tys } =>
    (match args.toList, tys.toList with
     | [x], [t] =>
       (match ev s g x, E.ti t with
        | .d (.v (.string b)), some { ck := [.str], td := .plain, .. } => .ok (.d (.v (.int .i64 b.size)))
        | .d (.v (.string _)), _ => .no 110
        | v, some { td := .slice _, .. } => (match xList v s with | .ok es => .ok (.d (.v (.int .i64 es.length))) | .no w => .no w)
        | _, _ => .no 111)
     | _, _ => .no 112)
  | .call { callee := .builtin .min, args := args, .. } =>
    (match evs s g args.toList with
     | [.d (.v (.int k a)), .d (.v (.int _ b))] => .ok (.d (.v (.int k (if b < a then b else a))))
     | _ => .no 113)
  | .call { callee := .builtin .max, args := args, .. } =>
    (match evs s g args.toList with
     | [.d (.v (.int k a)), .d (.v (.int _ b))] => .ok (.d (.v (.int k (if b > a then b else a))))
     | _ => .no 114)
  | _ => .no 115

theorem isStr_sound {E : Env} {t : Nat} (h : isStr E t = true) : (match E.ti t with | some { ck := [.str], td := .plain, .. } => True | _ => False) := by
  unfold isStr at h
  split at h
  · rename_i hti; first | trivial | (rw [hti]; trivial)
  · cases h

theorem elemLen_sound {E : Env} {t n : Nat} (h : elemLen E t = some n) {es : List (List D)} (hl : allLen n es = true) :
    (match E.ti t with | some { td := .slice e, .. } => (match E.ti e with | some ei => (∀ c ∈ es, c.length = ei.ck.length) | none => False) | _ => False) := by
  unfold elemLen at h
  split at h
  · rename_i hti
    split at h
    · rename_i ei hei
      simp only [Option.some.injEq] at h; subst h
      first | exact allLen_sound hl | (simp only [hei]; exact allLen_sound hl) | (simp only [hti, hei]; exact allLen_sound hl)
    · cases h
  · cases h

theorem xIndexAddr_sound {E : Env} {s : St} {g : List (Nat × Bool)} {t : Nat} {x i : Operand} {v : V} {K : V → Prop} (h : xIndexAddr E s g t x i = .ok v) (hk : K v) : aVal E s g (.indexAddr t x i) K := by
  unfold xIndexAddr at h
  simp only [aVal]
  split at h
  · rename_i e kk n hti hi
    simp only [hti, hi]
    split at h
    rotate_left
    · cases h
    rename_i ei hei
    simp only [hei]
    split at h
    · rename_i k hx
      simp only [hx]
      split at h
      · rename_i e' sz es hb
        simp only [hb]
        split at h
        · rename_i m h1 h2
          simp only [M.ok.injEq] at h; subst h
          obtain ⟨rfl, hlt⟩ := inB_sound h1
          exact ⟨⟨Int.natCast_nonneg _, by omega⟩, Nat.eq_of_beq_eq_true h2, by simpa using hk⟩
        · cases h
      · rename_i sz es hb
        simp only [hb]
        split at h
        · rename_i m h1 h2
          simp only [M.ok.injEq] at h; subst h
          obtain ⟨rfl, hlt⟩ := inB_sound h1
          exact ⟨⟨Int.natCast_nonneg _, by omega⟩, Nat.eq_of_beq_eq_true h2, by simpa using hk⟩
        · cases h
      · cases h
    · rename_i es hx
      simp only [hx]
      split at h
      rotate_left
      · cases h
      rename_i m h1
      split at h
      rotate_left
      · cases h
      rename_i cells hn
      split at h
      rotate_left
      · cases h
      rename_i h2
      simp only [M.ok.injEq] at h; subst h
      obtain ⟨rfl, hlt⟩ := inB_sound h1
      rw [nth_get] at hn
      exact ⟨es, rfl, ⟨Int.natCast_nonneg _, by omega⟩, cells, by simpa using hn, Nat.eq_of_beq_eq_true h2, hk⟩
    · cases h
  · rename_i len e kk n hti hi
    simp only [hti, hi]
    split at h
    rotate_left
    · cases h
    rename_i ei hei
    simp only [hei]
    split at h
    rotate_left
    · cases h
    rename_i m h1
    obtain ⟨rfl, hlt⟩ := inB_sound h1
    refine ⟨⟨Int.natCast_nonneg _, by omega⟩, ?_⟩
    split at h
    all_goals first
      | (rename_i hx; simp only [M.ok.injEq] at h; subst h; simp only [hx]; simpa using hk)
      | cases h
  · cases h

theorem xIndex_sound {E : Env} {s : St} {g : List (Nat × Bool)} {t : Nat} {x i : Operand} {v : V} {K : V → Prop} (h : xIndex E s g t x i = .ok v) (hk : K v) : aVal E s g (.index t x i) K := by
  unfold xIndex at h
  simp only [aVal]
  split at h
  · rename_i b kk n hx hi
    simp only [hx, hi]
    split at h
    rotate_left
    · cases h
    rename_i c h1 h2
    simp only [M.ok.injEq] at h; subst h
    exact ⟨Int.natCast_nonneg _, isStr_sound h1, c, by simpa using h2, hk⟩
  · rename_i cs kk n hx hi
    simp only [hx, hi]
    split at h
    rotate_left
    · cases h
    rename_i len e hti
    simp only [hti]
    split at h
    rotate_left
    · cases h
    rename_i ei hei
    simp only [hei]
    split at h
    rotate_left
    · cases h
    rename_i m h1
    obtain ⟨rfl, hlt⟩ := inB_sound h1
    split at h
    rotate_left
    · cases h
    rename_i l hl
    split at h
    rotate_left
    · cases h
    rename_i v' hv
    simp only [M.ok.injEq] at h; subst h
    refine ⟨⟨Int.natCast_nonneg _, by omega⟩, aIdx_of hlt ?_⟩
    simp only [hl, hv]; exact hk
  · cases h

theorem xSlice_sound {E : Env} {s : St} {g : List (Nat × Bool)} {t : Nat} {x : Operand} {lo hi mx : Option Operand} {v : V} {K : V → Prop} (h : xSlice E s g t x lo hi mx = .ok v) (hk : K v) : aVal E s g (.slice t x lo hi mx) K := by
  unfold xSlice at h
  cases mx with
  | none =>
    simp only [aVal]
    dsimp only at h
    split at h
    · rename_i b hx
      simp only [hx]
      split at h
      rotate_left
      · cases h
      rename_i l m h1 h2
      split at h
      rotate_left
      · cases h
      rename_i h3 h4 h5
      simp only [M.ok.injEq] at h; subst h
      exact ⟨l, m, xBound_sound h1, xBound_sound h2, Nat.le_of_ble_eq_true h3, Nat.le_of_ble_eq_true h4, isStr_sound h5, hk⟩
    · rename_i es hx
      simp only [hx]
      split at h
      rotate_left
      · cases h
      rename_i l m n h1 h2 h6
      split at h
      rotate_left
      · cases h
      rename_i h3 h4 h5
      simp only [M.ok.injEq] at h; subst h
      exact ⟨es, rfl, l, m, xBound_sound h1, xBound_sound h2, Nat.le_of_ble_eq_true h3, Nat.le_of_ble_eq_true h4, elemLen_sound h6 h5, hk⟩
    · rename_i k hx
      simp only [hx]
      split at h
      rotate_left
      · cases h
      rename_i hti
      simp only [hti]
      split at h
      rotate_left
      · cases h
      rename_i ei hei
      simp only [M.ok.injEq] at h; subst h
      simp only [hei]; exact hk
    · cases h
  | some mx =>
    simp only [aVal]
    dsimp only at h
    split at h
    · rename_i es hx
      simp only [hx]
      split at h
      rotate_left
      · cases h
      rename_i l hi' m n h1 h2 h6
      split at h
      rotate_left
      · cases h
      rename_i hh h7
      split at h
      rotate_left
      · cases h
      rename_i h3 h4 h5 h8
      simp only [M.ok.injEq] at h; subst h
      exact ⟨es, rfl, l, hh, m, xBound_sound h1, xBound_sound h7, xBound_sound h2, Nat.le_of_ble_eq_true h3, Nat.le_of_ble_eq_true h4, Nat.le_of_ble_eq_true h5, elemLen_sound h6 h8, hk⟩
    · cases h

theorem xVal_sound {E : Env} {s : St} {g : List (Nat × Bool)} {op : Op} {v : V} {K : V → Prop} (h : xVal E s g op = .ok v) (hk : K v) : aVal E s g op K := by
  unfold xVal at h
  split at h
  · simp only [M.ok.injEq] at h; subst h; exact hk
  · simp only [M.ok.injEq] at h; subst h; exact hk
  · simp only [aVal]
    split at h
    · rename_i h1 h2 h3; simp only [M.ok.injEq] at h; subst h; simp only [h1, h2, h3]; exact hk
    · cases h
  · simp only [aVal]
    split at h
    · rename_i ti hti; simp only [hti]; exact xLoad_sound h hk
    · cases h
  · simp only [aVal]
    split at h
    all_goals first
      | (rename_i hx; simp only [M.ok.injEq] at h; subst h; simp only [hx]; exact hk)
      | cases h
  · simp only [aVal]
    split at h
    · rename_i hc; rw [hc]; exact xIfn_sound h hk
    · rename_i hc; rw [hc]; exact xBin_sound h hk
  · simp only [aVal]
    split at h
    all_goals first
      | (rename_i hx; simp only [M.ok.injEq] at h; subst h; simp only [hx]; exact hk)
      | cases h
  · simp only [aVal]
    split at h
    · rename_i h1 h2 h3; simp only [M.ok.injEq] at h; subst h; simp only [h1, h2, h3]; exact hk
    · rename_i h1 h2 h3; simp only [M.ok.injEq] at h; subst h; simp only [h1, h2, h3]; exact hk
    · rename_i h1 h2
      simp only [h1, h2]
      split at h
      · rename_i h3
        simp only [h3]
        split at h
        · cases h
        rename_i es hes
        split at h
        · rename_i l hl
          simp only [M.ok.injEq] at h; subst h
          exact xList_sound hes ⟨⟨l.toArray⟩, by simpa using bytesOf_sound hl, hk⟩
        · cases h
      · cases h
    · cases h
  · simp only [aVal]
    split at h
    · rename_i hx
      simp only [hx]
      split at h
      · rename_i hn; simp only [M.ok.injEq] at h; subst h; simp only [hn]; exact hk
      · cases h
    · cases h
  · simp only [aVal]
    split at h
    rotate_left
    · cases h
    rename_i hti
    simp only [hti]
    split at h
    rotate_left
    · cases h
    rename_i hn
    simp only [hn]
    split at h
    all_goals first
      | (rename_i h1 h2; simp only [M.ok.injEq] at h; subst h; simp only [h1, h2]; exact hk)
      | cases h
  · simp only [aVal]
    split at h
    rotate_left
    · cases h
    rename_i hti
    simp only [hti]
    split at h
    rotate_left
    · cases h
    rename_i hn
    simp only [hn]
    split at h
    rotate_left
    · cases h
    rename_i h1 h2
    simp only [h1, h2]
    split at h
    rotate_left
    · cases h
    rename_i hl
    simp only [hl]
    split at h
    rotate_left
    · cases h
    rename_i hv
    simp only [M.ok.injEq] at h; subst h
    simp only [hv]; exact hk
  · exact xIndexAddr_sound h hk
  · exact xIndex_sound h hk
  · exact xSlice_sound h hk
  · simp only [aVal]
    split at h
    · rename_i hti
      simp only [hti]
      split at h
      · rename_i hf; simp only [M.ok.injEq] at h; subst h; simp only [hf]; exact hk
      · cases h
    · rename_i hti
      simp only [hti]
      split at h
      rotate_left
      · cases h
      rename_i ei hei
      simp only [hei]
      split at h
      · rename_i hf; simp only [M.ok.injEq] at h; subst h; simp only [hf]; exact hk
      · cases h
    · cases h
  · simp only [aVal]
    split at h
    · rename_i hf; simp only [M.ok.injEq] at h; subst h; simp only [hf]; exact hk
    · cases h
  · simp only [aVal]
    split at h
    rotate_left
    · cases h
    rename_i hargs htys
    simp only [hargs, htys]
    split at h
    · rename_i h1 h2; simp only [M.ok.injEq] at h; subst h; simp only [h1, h2]; exact hk
    · cases h
    · rename_i h1 h2
      split at h
      · rename_i es hes
        simp only [M.ok.injEq] at h; subst h
        simp only [h1]
        exact xList_sound hes hk
      · cases h
    · cases h
  · simp only [aVal]
    split at h
    · rename_i hf; simp only [M.ok.injEq] at h; subst h; simp only [hf]; exact hk
    · cases h
  · simp only [aVal]
    split at h
    · rename_i hf; simp only [M.ok.injEq] at h; subst h; simp only [hf]; exact hk
    · cases h
  · cases h

end Go.Dm
/- Functions at known data: operations that make or turn own blocks, regions. -/
namespace Go.Dm

/-- Contracts, and functions walked in place, as programs. -/
abbrev XC := Nat → List R → M (List R × List (List D))
abbrev XI := Nat → List V → List V → St → M (List (V × St))
def CX (xC : XC) : CallT := fun f args K => ∃ r, xC f args = .ok r ∧ K r.1 r.2
def IX (xI : XI) : Nat → List V → List V → St → (V → St → Prop) → Prop := fun f args caps s K => ∃ l, xI f args caps s = .ok l ∧ ∀ o ∈ l, K o.1 o.2

def xCallB (xC : XC) (s : St) (f : Nat) (args : List V) : M V :=
  match viewRs s args with
  | none => .no 200
  | some rs => match xC f rs with
    | .no w => .no w
    | .ok (res, fin) => (match fin, plainRes res with | [], some vs => .ok (oneV vs) | _, _ => .no 201)
theorem xCallB_sound {xC : XC} {s : St} {f : Nat} {args : List V} {v : V} {K : V → Prop} (h : xCallB xC s f args = .ok v) (hk : K v) : aCallB (CX xC) s f args K := by
  unfold xCallB at h
  split at h
  · cases h
  rename_i rs hrs
  split at h
  · cases h
  rename_i res fin hC
  split at h
  · rename_i h1
    simp only [M.ok.injEq] at h; subst h
    simp only [aCallB, hrs]
    refine ⟨_, hC, ?_⟩
    simp only [h1]; exact hk
  · cases h

def xCallPure (xC : XC) (s : St) (f : Nat) (args : List V) : M V :=
  match pureVs args with
  | false => .no 202
  | true =>
    match toRs s args with
    | none => .no 203
    | some (rs, _, _) => match xC f rs with
      | .no w => .no w
      | .ok (res, fin) => (match fin, noBox res with
        | [], true => (match ofResults s 0 res with | some (v, _) => .ok v | none => .no 204)
        | _, _ => .no 205)

def xCallAny (xC : XC) (s : St) (key : Nat) (f : Nat) (args : List V) : M (V × St) :=
  match toRs s args with
  | none => .no 206
  | some (rs, ks, s) =>
    match nodupB ks with
    | false => .no 207
    | true => match xC f rs with
      | .no w => .no w
      | .ok (res, fin) =>
        (match setBoxes s ks fin with
         | none => .no 208
         | some s => (match ofResults s key res with | some (v, s) => .ok (v, s) | none => .no 209))
theorem xCallAny_sound {xC : XC} {s : St} {key f : Nat} {args : List V} {o : V × St} {K : V → St → Prop} (h : xCallAny xC s key f args = .ok o) (hk : K o.1 o.2) : aCallAny (CX xC) s key f args K := by
  unfold xCallAny at h
  split at h
  · cases h
  rename_i rs ks s1 hrs
  split at h
  · cases h
  rename_i hn
  split at h
  · cases h
  rename_i res fin hC
  split at h
  · cases h
  rename_i s2 hs
  split at h
  · rename_i v s3 ho
    simp only [M.ok.injEq] at h; subst h
    simp only [aCallAny, hrs, hn]
    refine ⟨_, hC, ?_⟩
    simp only [hs, ho]; exact hk
  · cases h

def xAppend (E : Env) (s : St) (g : List (Nat × Bool)) (key : Nat) (args : Array Operand) (tys : Array TypeId) : M (V × St) :=
  match evs s g args.toList, tys.toList with
  | [a, b], [t, t'] =>
    (match E.ti t, Nat.beq t t' with
     | some { td := .slice e, .. }, true =>
       (match E.ti e with
        | some ei =>
          (match Nat.ble 1 ei.bytes with
           | false => .no 220
           | true => match xList b s with
             | .no w => .no w
             | .ok new =>
               (match allLen ei.ck.length new with
                | false => .no 221
                | true =>
                  (match a with
                   | .nil => (match lk s.hp key, Nat.ble (new.length * ei.bytes) 140737488355328 with
                     | none, true => .ok (.own key, s.setB key (.lst e ei.ck.length new))
                     | _, _ => .no 222)
                   | .own k => (match lk s.hp k with
                     | some (.lst e' sz es) => (match Nat.beq e' e, Nat.beq sz ei.ck.length, Nat.ble ((es.length + new.length) * ei.bytes) 140737488355328 with
                       | true, true, true => .ok (.own k, (s.strike k).setB k (.lst e sz (es ++ new)))
                       | _, _, _ => .no 223)
                     | _ => .no 224)
                   | _ => .no 225)))
        | none => .no 226)
     | _, _ => .no 227)
  | _, _ => .no 228
theorem xAppend_sound {E : Env} {C : CallT} {I : Nat → List V → List V → St → (V → St → Prop) → Prop} {s : St} {g : List (Nat × Bool)} {key : Nat} {args : Array Operand} {tys : Array TypeId} {o : V × St} {K : V → St → Prop} (h : xAppend E s g key args tys = .ok o) (hk : K o.1 o.2) : aHeap E C I s g key (.call { callee := .builtin .append, args := args, argTypes := tys }) K := by
  unfold xAppend at h
  simp only [aHeap]
  split at h
  rotate_left
  · cases h
  rename_i a b t t' h1 h2
  simp only [h1, h2]
  split at h
  rotate_left
  · cases h
  rename_i e hti hb
  simp only [hti, hb]
  split at h
  rotate_left
  · cases h
  rename_i ei hei
  simp only [hei]
  split at h
  · cases h
  rename_i hb1
  simp only [hb1]
  split at h
  · cases h
  rename_i new hnew
  refine xList_sound hnew ?_
  split at h
  · cases h
  rename_i hal
  refine ⟨allLen_sound hal, ?_⟩
  split at h
  · split at h
    · rename_i h3 h4
      simp only [M.ok.injEq] at h; subst h
      simp only [h3]
      have := Nat.le_of_ble_eq_true h4
      exact ⟨by rw [← Int.natCast_mul]; omega, hk⟩
    · cases h
  · split at h
    · rename_i hlk
      split at h
      · rename_i h3 h4 h5
        simp only [M.ok.injEq] at h; subst h
        simp only [hlk]
        have := Nat.le_of_ble_eq_true h5
        have e1 := Nat.eq_of_beq_eq_true h3
        have e2 := Nat.eq_of_beq_eq_true h4
        refine ⟨e1, e2, by rw [← Int.natCast_mul]; omega, ?_⟩
        subst e2
        exact hk
      · cases h
    · cases h
  · cases h

def xFind (k : Value) : List (Value × V) → Option (Option V)
  | [] => some none
  | (a, v) :: r =>
    match k, a with
    | .string y, .string x => (match y == x with | true => some (some v) | false => xFind k r)
    | .int q y, .int q' x => (match Nat.beq (ikNum q) (ikNum q') with | true => (match y == x with | true => some (some v) | false => xFind k r) | false => none)
    | _, _ => none
theorem xFind_sound {k : Value} : ∀ {es : List (Value × V)} {o : Option V} {Y : V → Prop} {Nn : Prop}, xFind k es = some o → (match o with | some v => Y v | none => Nn) → aFind k es Y Nn
  | [], o, Y, Nn, h, hk => by simp only [xFind, Option.some.injEq] at h; subst h; exact hk
  | (a, v) :: r, o, Y, Nn, h, hk => by
    unfold xFind at h
    unfold aFind
    split at h
    · rename_i y x
      cases hb : y == x
      · rw [hb] at h; exact ⟨fun e => (by first | (rw [hb] at e; cases e; done) | cases e), fun _ => xFind_sound h hk⟩
      · rw [hb] at h; simp only [Option.some.injEq] at h; subst h; exact ⟨fun _ => hk, fun e => (by first | (rw [hb] at e; cases e; done) | cases e)⟩
    · rename_i q y q' x
      split at h
      · rename_i hq
        simp only [hq]
        cases hb : y == x
        · rw [hb] at h; exact ⟨fun e => (by first | (rw [hb] at e; cases e; done) | cases e), fun _ => xFind_sound h hk⟩
        · rw [hb] at h; simp only [Option.some.injEq] at h; subst h; exact ⟨fun _ => hk, fun e => (by first | (rw [hb] at e; cases e; done) | cases e)⟩
      · cases h
    · cases h
def xPut (k : Value) (v : V) (pre : List (Value × V)) : List (Value × V) → Option (List (Value × V))
  | [] => some (app pre [(k, v)])
  | (a, y) :: r =>
    match k, a with
    | .string u, .string x => (match u == x with | true => some (app pre ((k, v) :: r)) | false => xPut k v (app pre [(a, y)]) r)
    | .int q u, .int q' x => (match Nat.beq (ikNum q) (ikNum q') with | true => (match u == x with | true => some (app pre ((k, v) :: r)) | false => xPut k v (app pre [(a, y)]) r) | false => none)
    | _, _ => none
theorem xPut_sound {k : Value} {v : V} : ∀ {es : List (Value × V)} {pre o : List (Value × V)} {K : List (Value × V) → Prop}, xPut k v pre es = some o → K o → aPut k v pre es K
  | [], pre, o, K, h, hk => by simp only [xPut, Option.some.injEq] at h; subst h; exact hk
  | (a, y) :: r, pre, o, K, h, hk => by
    unfold xPut at h
    unfold aPut
    split at h
    · rename_i u x
      cases hb : u == x
      · rw [hb] at h; exact ⟨fun e => (by first | (rw [hb] at e; cases e; done) | cases e), fun _ => xPut_sound h hk⟩
      · rw [hb] at h; simp only [Option.some.injEq] at h; subst h; exact ⟨fun _ => hk, fun e => (by first | (rw [hb] at e; cases e; done) | cases e)⟩
    · rename_i q u q' x
      split at h
      · rename_i hq
        simp only [hq]
        cases hb : u == x
        · rw [hb] at h; exact ⟨fun e => (by first | (rw [hb] at e; cases e; done) | cases e), fun _ => xPut_sound h hk⟩
        · rw [hb] at h; simp only [Option.some.injEq] at h; subst h; exact ⟨fun _ => hk, fun e => (by first | (rw [hb] at e; cases e; done) | cases e)⟩
      · cases h
    · cases h

def one1 {α : Type} (x : M α) : M (List α) := match x with | .ok a => .ok [a] | .no w => .no w

def xHeap (E : Env) (xC : XC) (xI : XI) (s : St) (g : List (Nat × Bool)) (key : Nat) (op : Op) : M (List (V × St)) :=
  match op with
  | .alloc t =>
    (match E.ti t, lk s.hp key with
     | some ti, none => .ok [(.ref key 0, s.setB key (.box (zeros ti.ck)))]
     | _, _ => .no 230)
  | .box t x =>
    (match E.ti t, lk s.hp key, cellsOf (ev s g x) with
     | some ti, none, some cs => (match Nat.beq cs.length ti.ck.length with | true => .ok [(.ref key 0, s.setB key (.box cs))] | false => .no 231)
     | _, _, _ => .no 232)
  | .store t a x => (match E.ti t with | some ti => (match xStore ti s (ev s g a) (ev s g x) with | .ok s => .ok [(.dead, s)] | .no w => .no w) | none => .no 233)
  | .buildSlice t len parts =>
    (match E.ti t, lk s.hp key with
     | some { td := .slice e, .. }, none =>
       (match E.ti e with
        | some ei =>
          (match Nat.ble (len * ei.ck.length) 16777216, aVal.fillA s g ei.ck.length (rep len (zeros ei.ck)) parts.toList with
           | true, some cs =>
             (match toDs s cs with
              | some (ds, s) => (match chunks ei.ck.length len ds with | some es => .ok [(.own key, s.setB key (.lst e ei.ck.length es))] | none => .no 234)
              | none => .no 235)
           | _, _ => .no 236)
        | none => .no 237)
     | _, _ => .no 238)
  | .makeSlice t n c =>
    (match E.ti t, lk s.hp key, ev s g n, ev s g c with
     | some { td := .slice e, .. }, none, .d (.v (.int .i64 (.ofNat n))), .d (.v (.int .i64 (.ofNat c))) =>
       (match E.ti e with
        | some ei => (match Nat.ble n c, Nat.ble (c * ei.bytes) 140737488355328, Nat.ble c 140737488355328, dZeros ei.ck with
          | true, true, true, some z => .ok [(.own key, s.setB key (.lst e ei.ck.length (List.replicate n z)))]
          | _, _, _, _ => .no 239)
        | none => .no 240)
     | _, _, _, _ => .no 241)
  | .call { callee := .builtin .append, args := args, argTypes := tys } => one1 (xAppend E s g key args tys)
  | .makeMap t none =>
    (match E.ti t, lk s.hp key with
     | some { td := .map _ _, .. }, none => .ok [(.mref key, s.setB key (.mp []))]
     | _, _ => .no 244)
  | .lookup t x ix cok =>
    (match E.ti t, ev s g x, ev s g ix with
     | some { td := .map kt et, .. }, .mref j, .d (.v k) =>
       (match E.ti kt, E.ti et, lk s.hp j with
        | some ki, some ei, some (.mp es) =>
          (match keyB ki k, ei.agg, zeros ei.ck, xFind k es with
           | true, false, [z], some o =>
             (match cok, o with
              | true, some v => .ok [(.tup [v, vbool true], s)]
              | true, none => .ok [(.tup [z, vbool false], s)]
              | false, some v => .ok [(v, s)]
              | false, none => .ok [(z, s)])
           | _, _, _, _ => .no 245)
        | _, _, _ => .no 246)
     | _, _, _ => .no 247)
  | .mapUpdate t m k x =>
    (match E.ti t, ev s g m, ev s g k with
     | some { td := .map kt et, .. }, .mref j, .d (.v kv) =>
       (match E.ti kt, E.ti et, lk s.hp j, cellV (ev s g x) with
        | some ki, some ei, some (.mp es), true =>
          (match keyB ki kv, ei.agg, xPut kv (ev s g x) [] es with
           | true, false, some es' => .ok [(.dead, s.setB j (.mp es'))]
           | _, _, _ => .no 248)
        | _, _, _, _ => .no 249)
     | _, _, _ => .no 250)
  | .insert t m k x =>
    (match E.ti t, ev s g m, ev s g k with
     | some { td := .map kt et, .. }, .mref j, .d (.v kv) =>
       (match E.ti kt, E.ti et, lk s.hp j, cellV (ev s g x) with
        | some ki, some ei, some (.mp es), true =>
          (match keyB ki kv, ei.agg, xPut kv (ev s g x) [] es with
           | true, false, some es' => .ok [(.dead, s.setB j (.mp es'))]
           | _, _, _ => .no 248)
        | _, _, _, _ => .no 249)
     | _, _, _ => .no 250)
  | .call { callee := .value f, args := args, .. } =>
    (match ev s g f with
     | .fn f caps =>
       (match mem E.bw f with
        | true => (match xCallB xC s f (app (evs s g args.toList) caps) with | .ok v => .ok [(v, s)] | .no w => .no w)
        | false => (match mem E.inl f with
          | true => xI f (evs s g args.toList) caps s
          | false => one1 (xCallAny xC s key f (app (evs s g args.toList) caps))))
     | _ => .no 242)
  | _ => .no 243

theorem xHeap_sound {E : Env} {xC : XC} {xI : XI} {s : St} {g : List (Nat × Bool)} {key : Nat} {op : Op} {l : List (V × St)} {K : V → St → Prop} (h : xHeap E xC xI s g key op = .ok l) (hk : ∀ o ∈ l, K o.1 o.2) : aHeap E (CX xC) (IX xI) s g key op K := by
  unfold xHeap at h
  split at h
  · simp only [aHeap]
    split at h
    · rename_i h1 h2; simp only [M.ok.injEq] at h; subst h; simp only [h1, h2]; exact hk _ (List.mem_singleton.2 rfl)
    · cases h
  · simp only [aHeap]
    split at h
    · rename_i h1 h2 h3
      split at h
      · rename_i h4; simp only [M.ok.injEq] at h; subst h; simp only [h1, h2, h3, h4]; exact hk _ (List.mem_singleton.2 rfl)
      · cases h
    · cases h
  · simp only [aHeap]
    split at h
    · rename_i h1
      split at h
      · rename_i h2; simp only [M.ok.injEq] at h; subst h; simp only [h1]; exact xStore_sound h2 (hk _ (List.mem_singleton.2 rfl))
      · cases h
    · cases h
  · simp only [aHeap]
    split at h
    rotate_left
    · cases h
    rename_i h1 h2
    simp only [h1, h2]
    split at h
    rotate_left
    · cases h
    rename_i h3
    simp only [h3]
    split at h
    rotate_left
    · cases h
    rename_i h4 h5
    simp only [h4, h5]
    split at h
    rotate_left
    · cases h
    rename_i h6
    simp only [h6]
    split at h
    rotate_left
    · cases h
    rename_i h7
    simp only [M.ok.injEq] at h; subst h
    simp only [h7]; exact hk _ (List.mem_singleton.2 rfl)
  · simp only [aHeap]
    split at h
    rotate_left
    · cases h
    rename_i n c h1 h2 h3 h4
    simp only [h1, h2, h3, h4]
    split at h
    rotate_left
    · cases h
    rename_i h5
    simp only [h5]
    split at h
    rotate_left
    · cases h
    rename_i h6 h7 h8 h9
    simp only [M.ok.injEq] at h; subst h
    have e1 := Nat.le_of_ble_eq_true h6
    have e2 := Nat.le_of_ble_eq_true h7
    have e3 := Nat.le_of_ble_eq_true h8
    refine ⟨Int.natCast_nonneg _, by simp; omega, by simp only [Int.ofNat_eq_natCast]; rw [← Int.natCast_mul]; omega, by simp; omega, ?_⟩
    simp only [h9]; exact hk _ (List.mem_singleton.2 rfl)
  · unfold one1 at h
    split at h
    · rename_i o ho
      simp only [M.ok.injEq] at h; subst h
      exact xAppend_sound ho (hk _ (List.mem_singleton.2 rfl))
    · cases h
  · simp only [aHeap]
    split at h
    · rename_i h1 h2; simp only [M.ok.injEq] at h; subst h; simp only [h1, h2]; exact hk _ (List.mem_singleton.2 rfl)
    · cases h
  · simp only [aHeap]
    split at h
    rotate_left
    · cases h
    rename_i h1 h2 h3
    simp only [h1, h2, h3]
    split at h
    rotate_left
    · cases h
    rename_i h4 h5 h6
    simp only [h4, h5, h6]
    split at h
    rotate_left
    · cases h
    rename_i o h7 h8 h9 h10
    simp only [h7, h8, h9]
    split at h <;> (simp only [M.ok.injEq] at h; subst h; exact xFind_sound h10 (hk _ (List.mem_singleton.2 rfl)))
  · simp only [aHeap]
    split at h
    rotate_left
    · cases h
    rename_i h1 h2 h3
    simp only [h1, h2, h3]
    split at h
    rotate_left
    · cases h
    rename_i h4 h5 h6 h7
    simp only [h4, h5, h6, h7]
    split at h
    rotate_left
    · cases h
    rename_i es' h8 h9 h10
    simp only [h8, h9]
    simp only [M.ok.injEq] at h; subst h
    exact xPut_sound h10 (hk _ (List.mem_singleton.2 rfl))
  · simp only [aHeap]
    split at h
    rotate_left
    · cases h
    rename_i h1 h2 h3
    simp only [h1, h2, h3]
    split at h
    rotate_left
    · cases h
    rename_i h4 h5 h6 h7
    simp only [h4, h5, h6, h7]
    split at h
    rotate_left
    · cases h
    rename_i es' h8 h9 h10
    simp only [h8, h9]
    simp only [M.ok.injEq] at h; subst h
    exact xPut_sound h10 (hk _ (List.mem_singleton.2 rfl))
  · simp only [aHeap]
    split at h
    rotate_left
    · cases h
    rename_i f caps hf
    simp only [hf]
    split at h
    · rename_i h1
      simp only [h1]
      split at h
      · rename_i v hv; simp only [M.ok.injEq] at h; subst h; exact xCallB_sound hv (hk _ (List.mem_singleton.2 rfl))
      · cases h
    · rename_i h1
      simp only [h1]
      split at h
      · rename_i h2
        simp only [h2]
        exact ⟨l, h, hk⟩
      · rename_i h2
        simp only [h2]
        unfold one1 at h
        split at h
        · rename_i o ho
          simp only [M.ok.injEq] at h; subst h
          exact xCallAny_sound ho (hk _ (List.mem_singleton.2 rfl))
        · cases h
  · cases h

def xSplitG : Nat → St → Nat → Bool → M (Bool × St)
  | 0, _, _, _ => .no 250
  | n + 1, s, t, want =>
    match lk s.kn t with
    | some b => (match b, want with | true, true => .ok (true, s) | false, false => .ok (true, s) | _, _ => .ok (false, s))
    | none =>
      match lk s.tm t with
      | some (.d (.v (.bool b))) => (match b, want with
        | true, true => .ok (true, s.know t want)
        | false, false => .ok (true, s.know t want)
        | _, _ => .ok (false, s.know t (!want)))
      | some _ => .no 251
      | none =>
        match lk s.gd t with
        | some (t', w', .d (.v (.bool b))) =>
          (match xSplitG n s t' w' with
           | .ok (true, s) => (match b, want with
             | true, true => .ok (true, s.know t want)
             | false, false => .ok (true, s.know t want)
             | _, _ => .ok (false, s.know t (!want)))
           | .ok (false, s) => .ok (false, s)
           | .no w => .no w)
        | _ => .no 252

theorem xSplitG_sound : ∀ (n : Nat) {s : St} {t : Nat} {want b : Bool} {s' : St} {Y N : St → Prop}, xSplitG n s t want = .ok (b, s') → (b = true → Y s') → (b = false → N s') → splitG n s t want Y N
  | 0, s, t, want, b, s', Y, N, h, _, _ => by simp only [xSplitG, reduceCtorEq] at h
  | n + 1, s, t, want, b, s', Y, N, h, hy, hn => by
    simp only [xSplitG] at h
    simp only [splitG]
    split at h
    · rename_i c hc
      simp only [hc]
      cases c <;> cases want <;> (simp only [M.ok.injEq, Prod.mk.injEq] at h; obtain ⟨rfl, rfl⟩ := h; first | exact hy rfl | exact hn rfl)
    · rename_i hc
      simp only [hc]
      split at h
      · rename_i c hc2
        simp only [hc2]
        cases c <;> cases want <;> (simp only [M.ok.injEq, Prod.mk.injEq] at h; obtain ⟨rfl, rfl⟩ := h; refine ⟨fun e => ?_, fun e => ?_⟩ <;> first | exact hy rfl | exact hn rfl | cases e)
      · cases h
      · rename_i hc2
        simp only [hc2]
        split at h
        · rename_i t' w' c hc3
          simp only [hc3]
          split at h
          · rename_i s1 hs
            refine xSplitG_sound n hs (fun _ => ?_) (fun e => by cases e)
            cases c <;> cases want <;> (simp only [M.ok.injEq, Prod.mk.injEq] at h; obtain ⟨rfl, rfl⟩ := h; refine ⟨fun e => ?_, fun e => ?_⟩ <;> first | exact hy rfl | exact hn rfl | cases e)
          · rename_i s1 hs
            simp only [M.ok.injEq, Prod.mk.injEq] at h; obtain ⟨rfl, rfl⟩ := h
            exact xSplitG_sound n hs (fun e => by cases e) (fun _ => hn rfl)
          · cases h
        · cases h

/-- The value of a pick. -/
def xPick (s : St) (g : List (Nat × Bool)) (c a b : Operand) : M (V × St) :=
  match c with
  | .tmp t =>
    (match lk s.kn t with
     | some true => .ok (ev s g a, s)
     | some false => .ok (ev s g b, s)
     | none =>
       match evT s g t, ev s ((t, true) :: g) a, ev s ((t, false) :: g) b with
       | .d (.v (.bool x)), .d (.v (.bool y)), .d (.v (.bool z)) => .ok (vbool (cond x y z), s)
       | .d (.v (.bool true)), va, _ => .ok (va, s.know t true)
       | .d (.v (.bool false)), _, vb => .ok (vb, s.know t false)
       | _, _, _ => .no 260)
  | .const (.bool true) => .ok (ev s g a, s)
  | .const (.bool false) => .ok (ev s g b, s)
  | _ => .no 261

theorem xPick_sound {s : St} {g : List (Nat × Bool)} {c a b : Operand} {o : V × St} {K : V → St → Prop} (h : xPick s g c a b = .ok o) (hk : K o.1 o.2) : aPick s g c a b K := by
  unfold xPick at h
  split at h
  · simp only [aPick]
    split at h
    · rename_i hc; simp only [M.ok.injEq] at h; subst h; simp only [hc]; exact hk
    · rename_i hc; simp only [M.ok.injEq] at h; subst h; simp only [hc]; exact hk
    · rename_i hc
      simp only [hc]
      split at h
      · rename_i h1 h2 h3; simp only [M.ok.injEq] at h; subst h; simp only [h1, h2, h3]; exact hk
      · rename_i h1 h2; simp only [M.ok.injEq] at h; subst h
        simp only [h1]
        exact ⟨fun _ => hk, fun e => by cases e⟩
      · rename_i h1 h2; simp only [M.ok.injEq] at h; subst h
        simp only [h1]
        exact ⟨fun e => (by cases e), fun _ => hk⟩
      · cases h
  · simp only [M.ok.injEq] at h; subst h; exact hk
  · simp only [M.ok.injEq] at h; subst h; exact hk
  · cases h

def withS (s : St) (x : M V) : M (List (V × St)) := match x with | .ok v => .ok [(v, s)] | .no w => .no w

def xOp (E : Env) (xC : XC) (xI : XI) (s : St) (g : List (Nat × Bool)) (o : Oper) : M (List (V × St)) :=
  match o.op with
  | .pick c a b => one1 (xPick s g c a b)
  | .alloc .. | .box .. | .store .. | .buildSlice .. | .makeSlice .. => xHeap E xC xI s g (freshK s.hp (E.off + o.dst.getD 0)) o.op
  | .call { callee := .builtin .append, .. } => xHeap E xC xI s g (freshK s.hp (E.off + o.dst.getD 0)) o.op
  | .makeMap .. | .lookup .. | .mapUpdate .. | .insert .. => xHeap E xC xI s g (freshK s.hp (E.off + o.dst.getD 0)) o.op
  | .call { callee := .value _, .. } => xHeap E xC xI s g (freshK s.hp (E.off + o.dst.getD 0)) o.op
  | op => withS s (xVal E s g op)

theorem xOp_sound {E : Env} {xC : XC} {xI : XI} {s : St} {g : List (Nat × Bool)} {o : Oper} {l : List (V × St)} {K : V → St → Prop} (h : xOp E xC xI s g o = .ok l) (hk : ∀ o ∈ l, K o.1 o.2) : aOp E (CX xC) (IX xI) s g o K := by
  unfold xOp at h
  unfold aOp
  split at h
  · rename_i hop
    unfold one1 at h
    split at h
    · rename_i r hr
      simp only [M.ok.injEq] at h; subst h
      simp only [hop]
      exact xPick_sound hr (hk _ (List.mem_singleton.2 rfl))
    · cases h
  all_goals first
    | (rename_i hop; simp only [hop] at h ⊢; exact xHeap_sound h hk)
    | skip
  · rename_i h1 h2 h3 h4 h5 h6 h7 h7a h7b h7c h7d h8
    unfold withS at h
    split at h
    · rename_i v hv
      simp only [M.ok.injEq] at h; subst h
      split
      all_goals first
        | exact xVal_sound hv (hk _ (List.mem_singleton.2 rfl))
        | (rename_i hop; first | exact (h1 _ _ _ hop).elim | exact (h2 _ hop).elim | exact (h3 _ _ hop).elim | exact (h4 _ _ _ hop).elim | exact (h5 _ _ _ hop).elim | exact (h6 _ _ _ hop).elim | exact (h7 _ _ hop).elim | exact (h7a _ _ hop).elim | exact (h7b _ _ _ _ hop).elim | exact (h7c _ _ _ _ hop).elim | exact (h7d _ _ _ _ hop).elim | exact (h8 _ _ _ hop).elim)
    · cases h

end Go.Dm
/- Functions at known data: regions, code, whole functions. -/
namespace Go.Dm

/-! ### States that are the same -/

def eqVal : Value → Value → Bool
  | .bool a, .bool b => a == b
  | .int k a, .int k' b => (match Nat.beq (ikNum k) (ikNum k') with | true => a == b | false => false)
  | .string a, .string b => a.data == b.data
  | .pointer none, .pointer none => true
  | .nilIface, .nilIface => true
  | .nilFunc, .nilFunc => true
  | .map none, .map none => true
  | _, _ => false
theorem eqVal_sound {a b : Value} (h : eqVal a b = true) : a = b := by
  unfold eqVal at h
  split at h <;> first | rfl | cases h | skip
  · rw [eq_of_beq h]
  · split at h
    · rename_i hk; rw [ikNum_inj (Nat.eq_of_beq_eq_true hk), eq_of_beq h]
    · cases h
  · rename_i x y
    have : x.data = y.data := eq_of_beq h
    cases x; cases y; simp only at this; rw [this]
mutual
def seqD : D → D → Bool
  | .v x, .v y => eqVal x y
  | .sl a, .sl b => seqDLL a b
  | _, _ => false
def seqDL : List D → List D → Bool
  | [], [] => true
  | a :: l, b :: r => (match seqD a b with | true => seqDL l r | false => false)
  | _, _ => false
def seqDLL : List (List D) → List (List D) → Bool
  | [], [] => true
  | a :: l, b :: r => (match seqDL a b with | true => seqDLL l r | false => false)
  | _, _ => false
end
mutual
theorem seqD_sound : ∀ {a b : D}, seqD a b = true → a = b
  | .v x, .v y, h => congrArg D.v (eqVal_sound (by simpa only [seqD] using h))
  | .sl a, .sl b, h => congrArg D.sl (seqDLL_sound (by simpa only [seqD] using h))
  | .v _, .sl _, h => by simp only [seqD, reduceCtorEq] at h
  | .sl _, .v _, h => by simp only [seqD, reduceCtorEq] at h
theorem seqDL_sound : ∀ {a b : List D}, seqDL a b = true → a = b
  | [], [], _ => rfl
  | a :: l, b :: r, h => by
    simp only [seqDL] at h
    split at h
    · rename_i h1; rw [seqD_sound h1, seqDL_sound h]
    · cases h
  | [], _ :: _, h => by simp only [seqDL, reduceCtorEq] at h
  | _ :: _, [], h => by simp only [seqDL, reduceCtorEq] at h
theorem seqDLL_sound : ∀ {a b : List (List D)}, seqDLL a b = true → a = b
  | [], [], _ => rfl
  | a :: l, b :: r, h => by
    simp only [seqDLL] at h
    split at h
    · rename_i h1; rw [seqDL_sound h1, seqDLL_sound h]
    · cases h
  | [], _ :: _, h => by simp only [seqDLL, reduceCtorEq] at h
  | _ :: _, [], h => by simp only [seqDLL, reduceCtorEq] at h
end
mutual
def seqV : V → V → Bool
  | .dead, .dead => true
  | .d x, .d y => seqD x y
  | .nil, .nil => true
  | .agg a, .agg b => seqVL a b
  | .tup a, .tup b => seqVL a b
  | .ref k o, .ref k' o' => (match Nat.beq k k' with | true => Nat.beq o o' | false => false)
  | .own k, .own k' => Nat.beq k k'
  | .optr k i o, .optr k' i' o' => (match Nat.beq k k', Nat.beq i i' with | true, true => Nat.beq o o' | _, _ => false)
  | .dptr a, .dptr b => seqDL a b
  | .fn f a, .fn g b => (match Nat.beq f g with | true => seqVL a b | false => false)
  | .yld l, .yld l' => Nat.beq l l'
  | _, _ => false
def seqVL : List V → List V → Bool
  | [], [] => true
  | a :: l, b :: r => (match seqV a b with | true => seqVL l r | false => false)
  | _, _ => false
end
mutual
theorem seqV_sound : ∀ {a b : V}, seqV a b = true → a = b
  | .dead, b, h => by cases b <;> simp only [seqV, reduceCtorEq] at h; rfl
  | .nil, b, h => by cases b <;> simp only [seqV, reduceCtorEq] at h; rfl
  | .d x, b, h => by
    cases b <;> simp only [seqV, reduceCtorEq] at h
    rw [seqD_sound h]
  | .agg x, b, h => by
    cases b <;> simp only [seqV, reduceCtorEq] at h
    rw [seqVL_sound h]
  | .tup x, b, h => by
    cases b <;> simp only [seqV, reduceCtorEq] at h
    rw [seqVL_sound h]
  | .ref k o, b, h => by
    cases b <;> simp only [seqV, reduceCtorEq] at h
    split at h
    · rename_i h1; rw [Nat.eq_of_beq_eq_true h1, Nat.eq_of_beq_eq_true h]
    · cases h
  | .own k, b, h => by
    cases b <;> simp only [seqV, reduceCtorEq] at h
    rw [Nat.eq_of_beq_eq_true h]
  | .optr k i o, b, h => by
    cases b <;> simp only [seqV, reduceCtorEq] at h
    split at h
    · rename_i h1 h2; rw [Nat.eq_of_beq_eq_true h1, Nat.eq_of_beq_eq_true h2, Nat.eq_of_beq_eq_true h]
    · cases h
  | .dptr x, b, h => by
    cases b <;> simp only [seqV, reduceCtorEq] at h
    rw [seqDL_sound h]
  | .fn f x, b, h => by
    cases b <;> simp only [seqV, reduceCtorEq] at h
    split at h
    · rename_i h1; rw [Nat.eq_of_beq_eq_true h1, seqVL_sound h]
    · cases h
  | .yld l, b, h => by
    cases b <;> simp only [seqV, reduceCtorEq] at h
    rw [Nat.eq_of_beq_eq_true h]
theorem seqVL_sound : ∀ {a b : List V}, seqVL a b = true → a = b
  | [], [], _ => rfl
  | a :: l, b :: r, h => by
    simp only [seqVL] at h
    split at h
    · rename_i h1; rw [seqV_sound h1, seqVL_sound h]
    · cases h
  | [], _ :: _, h => by simp only [seqVL, reduceCtorEq] at h
  | _ :: _, [], h => by simp only [seqVL, reduceCtorEq] at h
end
def seqB : B → B → Bool
  | .box a, .box b => seqVL a b
  | .lst e z a, .lst e' z' b => (match Nat.beq e e', Nat.beq z z' with | true, true => seqDLL a b | _, _ => false)
  | .fro z a, .fro z' b => (match Nat.beq z z' with | true => seqDLL a b | false => false)
  | _, _ => false
theorem seqB_sound {a b : B} (h : seqB a b = true) : a = b := by
  cases a <;> cases b <;> simp only [seqB, reduceCtorEq] at h
  · rw [seqVL_sound h]
  · split at h
    · rename_i h1 h2; rw [Nat.eq_of_beq_eq_true h1, Nat.eq_of_beq_eq_true h2, seqDLL_sound h]
    · cases h
  · split at h
    · rename_i h1; rw [Nat.eq_of_beq_eq_true h1, seqDLL_sound h]
    · cases h
def seqA {α : Type} (eq : α → α → Bool) : List (Nat × α) → List (Nat × α) → Bool
  | [], [] => true
  | (k, a) :: l, (k', b) :: r => (match Nat.beq k k', eq a b with | true, true => seqA eq l r | _, _ => false)
  | _, _ => false
theorem seqA_sound {α : Type} {eq : α → α → Bool} (he : ∀ a b, eq a b = true → a = b) : ∀ {a b : List (Nat × α)}, seqA eq a b = true → a = b
  | [], [], _ => rfl
  | (k, a) :: l, (k', b) :: r, h => by
    simp only [seqA] at h
    split at h
    · rename_i h1 h2; rw [Nat.eq_of_beq_eq_true h1, he _ _ h2, seqA_sound he h]
    · cases h
  | [], _ :: _, h => by simp only [seqA, reduceCtorEq] at h
  | _ :: _, [], h => by simp only [seqA, reduceCtorEq] at h
def seqRt : List (List (Nat × V)) → List (List (Nat × V)) → Bool
  | [], [] => true
  | a :: l, b :: r => (match seqA seqV a b with | true => seqRt l r | false => false)
  | _, _ => false
theorem seqRt_sound : ∀ {a b : List (List (Nat × V))}, seqRt a b = true → a = b
  | [], [], _ => rfl
  | a :: l, b :: r, h => by
    simp only [seqRt] at h
    split at h
    · rename_i h1; rw [seqA_sound (fun _ _ => seqV_sound) h1, seqRt_sound h]
    · cases h
  | [], _ :: _, h => by simp only [seqRt, reduceCtorEq] at h
  | _ :: _, [], h => by simp only [seqRt, reduceCtorEq] at h
def seqGd (a b : Nat × Bool × V) : Bool := match Nat.beq a.1 b.1, a.2.1 == b.2.1 with | true, true => seqV a.2.2 b.2.2 | _, _ => false
theorem seqGd_sound (a b : Nat × Bool × V) (h : seqGd a b = true) : a = b := by
  obtain ⟨a1, a2, a3⟩ := a
  obtain ⟨b1, b2, b3⟩ := b
  unfold seqGd at h
  split at h
  · rename_i h1 h2
    have h1 := Nat.eq_of_beq_eq_true h1
    have h2 := eq_of_beq h2
    have h3 := seqV_sound h
    simp only at h1 h2 h3
    rw [h1, h2, h3]
  · cases h
def eqSt (a b : St) : Bool :=
  match seqA seqV a.tm b.tm with
  | false => false
  | true => match seqA seqB a.hp b.hp with
    | false => false
    | true => match seqA (fun x y => x == y) a.kn b.kn with
      | false => false
      | true => match seqA seqGd a.gd b.gd with
        | false => false
        | true => seqRt a.rt b.rt
theorem eqSt_sound {a b : St} (h : eqSt a b = true) : a = b := by
  unfold eqSt at h
  split at h
  · cases h
  rename_i h1
  split at h
  · cases h
  rename_i h2
  split at h
  · cases h
  rename_i h3
  split at h
  · cases h
  rename_i h4
  cases a; cases b
  simp only at h1 h2 h3 h4 h
  rw [seqA_sound (fun _ _ => seqV_sound) h1, seqA_sound (fun _ _ => seqB_sound) h2, seqA_sound (fun _ _ h => eq_of_beq h) h3, seqA_sound seqGd_sound h4, seqRt_sound h]

def hasSt (s : St) : List St → Bool
  | [] => false
  | x :: r => match eqSt x s with | true => true | false => hasSt s r
theorem hasSt_sound {s : St} : ∀ {l : List St}, hasSt s l = true → s ∈ l
  | x :: r, h => by
    simp only [hasSt] at h
    split at h
    · rename_i h1; rw [eqSt_sound h1]; exact List.mem_cons_self
    · exact List.mem_cons_of_mem _ (hasSt_sound h)
/-- Both, each state once. -/
def mergeSt (l : List St) : List St → List St
  | [] => l
  | x :: r => match hasSt x l with | true => mergeSt l r | false => mergeSt (x :: l) r
theorem mem_mergeSt : ∀ {r l : List St} {s : St}, s ∈ l ∨ s ∈ r → s ∈ mergeSt l r
  | [], l, s, h => by simpa [mergeSt] using h
  | x :: r, l, s, h => by
    simp only [mergeSt]
    split
    · rename_i h1
      refine mem_mergeSt ?_
      rcases h with h | h
      · exact .inl h
      · rcases List.mem_cons.1 h with rfl | h
        · exact .inl (hasSt_sound h1)
        · exact .inr h
    · refine mem_mergeSt ?_
      rcases h with h | h
      · exact .inl (List.mem_cons_of_mem _ h)
      · rcases List.mem_cons.1 h with rfl | h
        · exact .inl List.mem_cons_self
        · exact .inr h

/-! ### Regions -/

def xBind {α β : Type} (f : α → M (List β)) : List α → M (List β)
  | [] => .ok []
  | [a] => f a
  | a :: r => match f a with
    | .no w => .no w
    | .ok x => (match xBind f r with | .ok y => .ok (app x y) | .no w => .no w)
theorem xBind_ok {α β : Type} {f : α → M (List β)} : ∀ {l : List α} {o : List β}, xBind f l = .ok o → ∀ a ∈ l, ∃ x, f a = .ok x ∧ ∀ b ∈ x, b ∈ o
  | [], o, h, a, ha => by cases ha
  | [x], o, h, a, ha => by
    rcases List.mem_singleton.1 ha with rfl
    exact ⟨o, h, fun _ h => h⟩
  | x :: y :: r, o, h, a, ha => by
    simp only [xBind] at h
    split at h
    · cases h
    rename_i z hz
    split at h
    rotate_left
    · cases h
    rename_i q hq
    simp only [M.ok.injEq] at h; subst h
    rcases List.mem_cons.1 ha with rfl | ha
    · exact ⟨z, hz, fun b hb => by rw [app_eq]; exact List.mem_append_left _ hb⟩
    · obtain ⟨u, h1, h2⟩ := xBind_ok hq a ha
      exact ⟨u, h1, fun b hb => by rw [app_eq]; exact List.mem_append_right _ (h2 b hb)⟩

def stepped (ks : List Nat) (d : Option Nat) : List (V × St) → List (List Nat × St)
  | [] => []
  | (v, s) :: r => (ks, putO s d v) :: stepped ks d r
theorem mem_stepped {ks : List Nat} {d : Option Nat} : ∀ {l : List (V × St)} {o : V × St}, o ∈ l → (ks, putO o.2 d o.1) ∈ stepped ks d l
  | (v, s) :: r, o, h => by
    simp only [stepped]
    rcases List.mem_cons.1 h with rfl | h
    · exact List.mem_cons_self
    · exact List.mem_cons_of_mem _ (mem_stepped h)

def xStep (E : Env) (xC : XC) (xI : XI) (ops : List Oper) (o : Oper) (s : St) : M (List (List Nat × St)) :=
  match o.guard with
  | none => (match xOp E xC xI s [] o with | .ok l => .ok (stepped (useKeys E s [] o.op) o.dst l) | .no w => .no w)
  | some (j, want) =>
    match guardSlot ops j with
    | none => .no 300
    | some t =>
      match E.con with
      | false => .no 301
      | true =>
        match lk s.kn t with
        | some b => (match b, want with
          | true, true => (match xOp E xC xI s [(t, want)] o with | .ok l => .ok (stepped (useKeys E s [(t, want)] o.op) o.dst l) | .no w => .no w)
          | false, false => (match xOp E xC xI s [(t, want)] o with | .ok l => .ok (stepped (useKeys E s [(t, want)] o.op) o.dst l) | .no w => .no w)
          | _, _ => .ok [([], putGO s o.dst (t, want) (vbool false))])
        | none => match xSplitG 12 s t want with
          | .ok (true, s) => (match xOp E xC xI s [(t, want)] o with | .ok l => .ok (stepped (useKeys E s [(t, want)] o.op) o.dst l) | .no w => .no w)
          | .ok (false, s) => .ok [([], putGO s o.dst (t, want) (vbool false))]
          | .no w => .no w

theorem xStep_sound {E : Env} {xC : XC} {xI : XI} {ops : List Oper} {o : Oper} {s : St} {l : List (List Nat × St)} {next : List Nat → St → Prop} (h : xStep E xC xI ops o s = .ok l) (hk : ∀ x ∈ l, next x.1 x.2) : aStep E (CX xC) (IX xI) ops o s next := by
  unfold xStep at h
  unfold aStep
  have key : ∀ {s1 : St} {g : List (Nat × Bool)}, (match xOp E xC xI s1 g o with | .ok l => M.ok (stepped (useKeys E s1 g o.op) o.dst l) | .no w => .no w) = M.ok l → aOp E (CX xC) (IX xI) s1 g o fun v s' => next (useKeys E s1 g o.op) (putO s' o.dst v) := fun {s1 g} h => by
    split at h
    · rename_i l1 hl
      simp only [M.ok.injEq] at h; subst h
      exact xOp_sound hl fun x hx => hk _ (mem_stepped hx)
    · cases h
  split at h
  · rename_i hg
    simp only [hg]
    exact key h
  · rename_i j want hg
    simp only [hg]
    split at h
    · cases h
    rename_i t ht
    simp only [ht]
    split at h
    · cases h
    rename_i hcon
    simp only [hcon]
    split at h
    · rename_i b hb
      simp only [hb]
      split at h
      · exact key h
      · exact key h
      · rename_i h1 h2
        simp only [M.ok.injEq] at h; subst h
        cases b <;> cases want <;> first | exact (h1 rfl rfl).elim | exact (h2 rfl rfl).elim | (simp only [hcon]; exact hk _ (List.mem_singleton.2 rfl))
    · rename_i hb
      simp only [hb]
      split at h
      · rename_i s1 hs
        exact xSplitG_sound 12 hs (fun _ => key h) (fun e => by cases e)
      · rename_i s1 hs
        simp only [M.ok.injEq] at h; subst h
        exact xSplitG_sound 12 hs (fun e => by cases e) (fun _ => hk _ (List.mem_singleton.2 rfl))
      · cases h


def xOps (E : Env) (xC : XC) (xI : XI) (ops : List Oper) : List Oper → St → M (List St)
  | [], s => .ok [s]
  | o :: rest, s => match xStep E xC xI ops o s with
    | .ok l => xBind (fun x => xOps E xC xI ops rest x.2) l
    | .no w => .no w
theorem xOps_sound {E : Env} {xC : XC} {xI : XI} {ops : List Oper} : ∀ {l : List Oper} {s : St} {r : List St} {K : St → Prop}, xOps E xC xI ops l s = .ok r → (∀ x ∈ r, K x) → aOps E (CX xC) (IX xI) ops l s K
  | [], s, r, K, h, hk => by
    simp only [xOps, M.ok.injEq] at h; subst h
    exact hk s (List.mem_singleton.2 rfl)
  | o :: rest, s, r, K, h, hk => by
    simp only [xOps] at h
    split at h
    rotate_left
    · cases h
    rename_i l hl
    refine xStep_sound hl fun x hx => ?_
    obtain ⟨y, h1, h2⟩ := xBind_ok h x hx
    exact xOps_sound h1 fun z hz => hk z (h2 z hz)

def xAny (E : Env) (xC : XC) (xI : XI) (ops : List Oper) : Sched → List (Nat × List Nat) → St → M (List St)
  | .done, _, s => .ok [s]
  | .q i k, rs, s => (match nth ops i with
    | none => .no 310
    | some o => match xStep E xC xI ops o s with
      | .ok l => xBind (fun x => xAny E xC xI ops k ((i, x.1) :: rs) x.2) l
      | .no w => .no w)
  | .one i drop k, rs, s => (match nth ops i with
    | none => .no 311
    | some o => match xStep E xC xI ops o s with
      | .ok l => xBind (fun x => match disj x.1 (dropR drop rs) with | true => xAny E xC xI ops k (dropR drop rs) x.2 | false => .no 312) l
      | .no w => .no w)
  | .alt i drop k rest, rs, s => (match nth ops i with
    | none => .no 313
    | some o => match xStep E xC xI ops o s with
      | .ok l => (match xBind (fun x => match disj x.1 (dropR drop rs) with | true => xAny E xC xI ops k (dropR drop rs) x.2 | false => .no 314) l with
        | .ok a => (match xAny E xC xI ops rest rs s with | .ok b => .ok (mergeSt a b) | .no w => .no w)
        | .no w => .no w)
      | .no w => .no w)
theorem xAny_sound {E : Env} {xC : XC} {xI : XI} {ops : List Oper} {K : St → Prop} : ∀ {sch : Sched} {rs : List (Nat × List Nat)} {s : St} {r : List St}, xAny E xC xI ops sch rs s = .ok r → (∀ x ∈ r, K x) → aAny E (CX xC) (IX xI) ops K sch rs s
  | .done, rs, s, r, h, hk => by
    simp only [xAny, M.ok.injEq] at h; subst h
    exact hk s (List.mem_singleton.2 rfl)
  | .q i k, rs, s, r, h, hk => by
    simp only [xAny] at h
    simp only [aAny]
    split at h
    · cases h
    rename_i o ho
    simp only [ho]
    split at h
    rotate_left
    · cases h
    rename_i l hl
    refine xStep_sound hl fun x hx => ?_
    obtain ⟨y, h1, h2⟩ := xBind_ok h x hx
    exact xAny_sound h1 fun z hz => hk z (h2 z hz)
  | .one i drop k, rs, s, r, h, hk => by
    simp only [xAny] at h
    simp only [aAny]
    split at h
    · cases h
    rename_i o ho
    simp only [ho]
    split at h
    rotate_left
    · cases h
    rename_i l hl
    refine xStep_sound hl fun x hx => ?_
    obtain ⟨y, h1, h2⟩ := xBind_ok h x hx
    split at h1
    · rename_i hd
      simp only [hd]
      exact xAny_sound h1 fun z hz => hk z (h2 z hz)
    · cases h1
  | .alt i drop k rest, rs, s, r, h, hk => by
    simp only [xAny] at h
    simp only [aAny]
    split at h
    · cases h
    rename_i o ho
    simp only [ho]
    split at h
    rotate_left
    · cases h
    rename_i l hl
    split at h
    rotate_left
    · cases h
    rename_i a ha
    split at h
    rotate_left
    · cases h
    rename_i b hb
    simp only [M.ok.injEq] at h; subst h
    refine ⟨xStep_sound hl fun x hx => ?_, xAny_sound hb fun z hz => hk z (mem_mergeSt (.inr hz))⟩
    obtain ⟨y, h1, h2⟩ := xBind_ok ha x hx
    split at h1
    · rename_i hd
      simp only [hd]
      exact xAny_sound h1 fun z hz => hk z (mem_mergeSt (.inl (h2 z hz)))
    · cases h1

/-! ### Code -/

def xCond (s : St) (c : Operand) : M (Bool × St) :=
  match c with
  | .tmp t =>
    (match lk s.kn t with
     | some true => .ok (true, s)
     | some false => .ok (false, s)
     | none =>
       match lk s.tm t with
       | some (.d (.v (.bool true))) => .ok (true, s.know t true)
       | some (.d (.v (.bool false))) => .ok (false, s.know t false)
       | _ => .no 320)
  | .const (.bool true) => .ok (true, s)
  | .const (.bool false) => .ok (false, s)
  | _ => .no 321
theorem xCond_sound {s s' : St} {c : Operand} {b : Bool} {X Y : St → Prop} (h : xCond s c = .ok (b, s')) (hx : b = true → X s') (hy : b = false → Y s') : aCond s c X Y := by
  unfold xCond at h
  unfold aCond
  split at h
  · split at h
    · rename_i hc; simp only [M.ok.injEq, Prod.mk.injEq] at h; obtain ⟨rfl, rfl⟩ := h; simp only [hc]; exact hx rfl
    · rename_i hc; simp only [M.ok.injEq, Prod.mk.injEq] at h; obtain ⟨rfl, rfl⟩ := h; simp only [hc]; exact hy rfl
    · rename_i hc
      simp only [hc]
      split at h
      · rename_i hc2; simp only [M.ok.injEq, Prod.mk.injEq] at h; obtain ⟨rfl, rfl⟩ := h; simp only [hc2]; exact ⟨fun _ => hx rfl, fun e => by cases e⟩
      · rename_i hc2; simp only [M.ok.injEq, Prod.mk.injEq] at h; obtain ⟨rfl, rfl⟩ := h; simp only [hc2]; exact ⟨fun e => (by cases e), fun _ => hy rfl⟩
      · cases h
  · simp only [M.ok.injEq, Prod.mk.injEq] at h; obtain ⟨rfl, rfl⟩ := h; exact hx rfl
  · simp only [M.ok.injEq, Prod.mk.injEq] at h; obtain ⟨rfl, rfl⟩ := h; exact hy rfl
  · cases h

def endAll (keep : List Nat) (ops : List Oper) : List St → List (Ex × St)
  | [] => []
  | s :: r => (.normal, endRegion keep ops s) :: endAll keep ops r
theorem mem_endAll {keep : List Nat} {ops : List Oper} : ∀ {l : List St} {s : St}, s ∈ l → (Ex.normal, endRegion keep ops s) ∈ endAll keep ops l
  | x :: r, s, h => by
    simp only [endAll]
    rcases List.mem_cons.1 h with rfl | h
    · exact List.mem_cons_self
    · exact List.mem_cons_of_mem _ (mem_endAll h)

def exitX (id : Nat) : List (Ex × St) → List (Ex × St)
  | [] => []
  | (e, s) :: r => (match e with | .exit i => (match Nat.beq i id with | true => (.normal, s) | false => (.exit i, s)) | e => (e, s)) :: exitX id r
theorem mem_exitX {id : Nat} : ∀ {l : List (Ex × St)} {o : Ex × St}, o ∈ l → (match o.1 with | .exit i => (match Nat.beq i id with | true => (Ex.normal, o.2) | false => (.exit i, o.2)) | e => (e, o.2)) ∈ exitX id l
  | (e, s) :: r, o, h => by
    simp only [exitX]
    rcases List.mem_cons.1 h with rfl | h
    · exact List.mem_cons_self
    · exact List.mem_cons_of_mem _ (mem_exitX h)

def xLoop (prep : St → St) (body : St → M (List (Ex × St))) : Nat → St → M (List (Ex × St))
  | 0, _ => .no 330
  | n + 1, s => match body s with
    | .no w => .no w
    | .ok l => xBind (fun x => match x.1 with | .normal => xLoop prep body n (prep x.2) | e => .ok [(e, x.2)]) l

def xCode (n : Nat) (E : Env) (xC : XC) (xI : XI) (fi : Fi) : Code → St → M (List (Ex × St))
  | .skip, s => .ok [(.normal, s)]
  | .region _ ops false, s => (match xOps E xC xI ops.toList ops.toList s with | .ok l => .ok (endAll fi.keep ops.toList l) | .no w => .no w)
  | .region id ops true, s => (match lk fi.sc id with
    | none => .no 331
    | some sch => match xAny E xC xI ops.toList sch [] s with | .ok l => .ok (endAll fi.keep ops.toList l) | .no w => .no w)
  | .seq a b, s => (match xCode n E xC xI fi a s with
    | .no w => .no w
    | .ok l => xBind (fun x => match x.1 with | .normal => xCode n E xC xI fi b x.2 | e => .ok [(e, x.2)]) l)
  | .cond c a b, s => (match xCond s c with
    | .ok (true, s) => xCode n E xC xI fi a s
    | .ok (false, s) => xCode n E xC xI fi b s
    | .no w => .no w)
  | .block id b, s => (match xCode n E xC xI fi b s with | .ok l => .ok (exitX id l) | .no w => .no w)
  | .loop b, s => (match lk fi.lp (codeId b), lk fi.lx (codeId b) with
    | some (live, dk), none => xLoop (fun s => nilOwn (match lk fi.cv (codeId b) with | some cv => cv | none => []) (clean live dk s)) (fun s => xCode n E xC xI fi b s) n
        (nilOwn (match lk fi.cv (codeId b) with | some cv => cv | none => []) (clean live dk s))
    | _, _ => .no 332)
  | .exit id, s => .ok [(.exit id, s)]
  | .ret, s => .ok [(.ret, s)]
  | _, _ => .no 333

theorem xCode_sound {n : Nat} {E : Env} {xC : XC} {xI : XI} {fi : Fi} : ∀ (c : Code) {s : St} {l : List (Ex × St)} {K : Ex → St → Prop}, xCode n E xC xI fi c s = .ok l → (∀ x ∈ l, K x.1 x.2) → awp E (CX xC) (IX xI) fi c s K := by
  intro c
  induction c with
  | skip => intro s l K h hk; simp only [xCode, M.ok.injEq] at h; subst h; exact hk _ (List.mem_singleton.2 rfl)
  | region id ops any =>
    intro s l K h hk
    cases any with
    | false =>
      simp only [xCode] at h
      split at h
      · rename_i r hr
        simp only [M.ok.injEq] at h; subst h
        simp only [awp]
        exact xOps_sound hr fun x hx => hk _ (mem_endAll hx)
      · cases h
    | true =>
      simp only [xCode] at h
      simp only [awp]
      split at h
      · cases h
      rename_i sch hs
      simp only [hs]
      split at h
      · rename_i r hr
        simp only [M.ok.injEq] at h; subst h
        exact xAny_sound hr fun x hx => hk _ (mem_endAll hx)
      · cases h
  | seq a b iha ihb =>
    intro s l K h hk
    simp only [xCode] at h
    simp only [awp]
    split at h
    · cases h
    rename_i r hr
    refine iha hr fun x hx => ?_
    obtain ⟨y, h1, h2⟩ := xBind_ok h x hx
    obtain ⟨e, s'⟩ := x
    cases e with
    | normal => exact ihb h1 fun z hz => hk z (h2 z hz)
    | exit i => simp only [M.ok.injEq] at h1; subst h1; exact hk _ (h2 _ (List.mem_singleton.2 rfl))
    | ret => simp only [M.ok.injEq] at h1; subst h1; exact hk _ (h2 _ (List.mem_singleton.2 rfl))
  | cond c a b iha ihb =>
    intro s l K h hk
    simp only [xCode] at h
    simp only [awp]
    split at h
    · rename_i s1 hc; exact xCond_sound hc (fun _ => iha h hk) (fun e => by cases e)
    · rename_i s1 hc; exact xCond_sound hc (fun e => by cases e) (fun _ => ihb h hk)
    · cases h
  | block id b ih =>
    intro s l K h hk
    simp only [xCode] at h
    simp only [awp]
    split at h
    rotate_left
    · cases h
    rename_i r hr
    simp only [M.ok.injEq] at h; subst h
    refine ih hr fun x hx => ?_
    have := hk _ (mem_exitX (id := id) hx)
    obtain ⟨e, s'⟩ := x
    cases e with
    | normal => exact this
    | ret => exact this
    | exit i =>
      simp only at this ⊢
      split at this
      · rename_i hb; simp only [hb]; exact this
      · rename_i hb; simp only [hb]; exact this
  | loop b ih =>
    intro s l K h hk
    simp only [xCode] at h
    simp only [awp]
    split at h
    rotate_left
    · cases h
    rename_i live dk h1 h2
    simp only [h1, h2]
    refine ⟨fun m s' => ∃ o, xLoop (fun s => nilOwn (match lk fi.cv (codeId b) with | some cv => cv | none => []) (clean live dk s)) (fun s => xCode n E xC xI fi b s) m s' = .ok o ∧ ∀ x ∈ o, K x.1 x.2, ⟨n, l, h, hk⟩, ?_⟩
    rintro m s' ⟨o, ho, hko⟩
    cases m with
    | zero => simp only [xLoop, reduceCtorEq] at ho
    | succ m =>
      simp only [xLoop] at ho
      split at ho
      · cases ho
      rename_i r hr
      refine ih hr fun x hx => ?_
      obtain ⟨y, h3, h4⟩ := xBind_ok ho x hx
      obtain ⟨e, s''⟩ := x
      cases e with
      | normal => exact ⟨m, Nat.lt_succ_self m, y, h3, fun z hz => hko z (h4 z hz)⟩
      | exit i => simp only [M.ok.injEq] at h3; subst h3; exact hko _ (h4 _ (List.mem_singleton.2 rfl))
      | ret => simp only [M.ok.injEq] at h3; subst h3; exact hko _ (h4 _ (List.mem_singleton.2 rfl))
  | exit id => intro s l K h hk; simp only [xCode, M.ok.injEq] at h; subst h; exact hk _ (List.mem_singleton.2 rfl)
  | ret => intro s l K h hk; simp only [xCode, M.ok.injEq] at h; subst h; exact hk _ (List.mem_singleton.2 rfl)
  | _ => intro s l K h hk; simp only [xCode, reduceCtorEq] at h

end Go.Dm
