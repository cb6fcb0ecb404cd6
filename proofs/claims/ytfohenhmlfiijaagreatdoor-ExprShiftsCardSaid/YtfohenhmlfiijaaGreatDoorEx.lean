/- Expressions as data, and what the program's functions over them come to. -/
import Derived.Test.YtfohenhmlfiijaaGreatDoorDm21
namespace Go.Ex
open Go Go.Dm

/-- A number of 64 bits. -/
def in64 (n : Int) : Prop := -9223372036854775808 ≤ n ∧ n < 9223372036854775808

structure Ty where
  k : Int
  sc : Int
  deriving DecidableEq
structure AV where
  t : Ty
  nul : Bool
  n : Int
  s : ByteArray
abbrev Ty.cs (t : Ty) : List D := [.v (.int .i64 t.k), .v (.int .i64 t.sc)]
abbrev AV.cs (v : AV) : List D := [.v (.int .i64 v.t.k), .v (.int .i64 v.t.sc), .v (.bool v.nul), .v (.int .i64 v.n), .v (.string v.s)]
theorem AV.ext {a b : AV} (h1 : a.t.k = b.t.k) (h2 : a.t.sc = b.t.sc) (h3 : a.nul = b.nul) (h4 : a.n = b.n) (h5 : a.s = b.s) : a = b := by
  rcases a with ⟨⟨_, _⟩, _, _, _⟩; rcases b with ⟨⟨_, _⟩, _, _, _⟩; simp_all

/-- An expression. -/
inductive EX where
  | mk (op sub : Int) (ty : Ty) (v : AV) (args : List EX)
def EX.op : EX → Int | .mk a _ _ _ _ => a
def EX.sub : EX → Int | .mk _ a _ _ _ => a
def EX.ty : EX → Ty | .mk _ _ a _ _ => a
def EX.v : EX → AV | .mk _ _ _ a _ => a
def EX.args : EX → List EX | .mk _ _ _ _ a => a

mutual
/-- Its cells. -/
def cells : EX → List D
  | .mk op sub ty v args => [.v (.int .i64 op), .v (.int .i64 sub), .v (.int .i64 ty.k), .v (.int .i64 ty.sc), .v (.int .i64 v.t.k), .v (.int .i64 v.t.sc), .v (.bool v.nul), .v (.int .i64 v.n), .v (.string v.s), .sl (cellsL args)]
def cellsL : List EX → List (List D)
  | [] => []
  | e :: r => cells e :: cellsL r
end
theorem cellsL_map : ∀ l : List EX, cellsL l = l.map cells
  | [] => by simp [cellsL]
  | e :: r => by simp [cellsL, cellsL_map r]
theorem cellsL_len (l : List EX) : (cellsL l).length = l.length := by rw [cellsL_map, List.length_map]
theorem cellsL_get {l : List EX} {i : Nat} {e : EX} (h : l[i]? = some e) : (cellsL l)[i]? = some (cells e) := by rw [cellsL_map, List.getElem?_map, h]; rfl
theorem cellsL_all {l : List EX} : ∀ c ∈ cellsL l, c.length = 10 := by
  intro c hc
  rw [cellsL_map] at hc
  obtain ⟨e, _, rfl⟩ := List.mem_map.1 hc
  cases e; simp [cells]
theorem cellsL_append (a b : List EX) : cellsL (a ++ b) = cellsL a ++ cellsL b := by simp [cellsL_map]
theorem cellsL_take (l : List EX) (i : Nat) : cellsL (l.take i) = (cellsL l).take i := by simp [cellsL_map, List.map_take]
mutual
/-- The expression that cells are. -/
theorem cells_inj : ∀ {a b : EX}, cells a = cells b → a = b
  | .mk o s t v l, .mk o' s' t' v' l', h => by
    simp only [cells, List.cons.injEq, D.v.injEq, Value.int.injEq, Value.bool.injEq, Value.string.injEq, D.sl.injEq, true_and, and_true] at h
    obtain ⟨h1, h2, h3, h4, h5, h6, h7, h8, h9, h10⟩ := h
    have := cellsL_inj h10
    rcases t with ⟨_, _⟩; rcases t' with ⟨_, _⟩
    have hv : v = v' := AV.ext h5 h6 h7 h8 h9
    simp_all
theorem cellsL_inj : ∀ {a b : List EX}, cellsL a = cellsL b → a = b
  | [], [], _ => rfl
  | [], _ :: _, h => by simp [cellsL] at h
  | _ :: _, [], h => by simp [cellsL] at h
  | a :: l, b :: r, h => by
    simp only [cellsL, List.cons.injEq] at h
    rw [cells_inj h.1, cellsL_inj h.2]
end

mutual
/-- How great it is. -/
def size : EX → Nat
  | .mk _ _ _ _ args => sizeL args + 1
def sizeL : List EX → Nat
  | [] => 0
  | e :: r => size e + sizeL r
end
theorem size_mem {l : List EX} {e : EX} (h : e ∈ l) : size e ≤ sizeL l := by
  induction l with
  | nil => cases h
  | cons a r ih =>
    simp only [sizeL]
    cases h with
    | head => omega
    | tail _ h => have := ih h; omega
theorem size_arg {op sub : Int} {ty : Ty} {v : AV} {args : List EX} {e : EX} (h : e ∈ args) : size e < size (.mk op sub ty v args) := by
  have := size_mem h
  simp only [size]; omega

mutual
/-- All its numbers are numbers of 64 bits. -/
def fits : EX → Prop
  | .mk op sub ty v args => (in64 op ∧ in64 sub ∧ in64 ty.k ∧ in64 ty.sc ∧ in64 v.t.k ∧ in64 v.t.sc ∧ in64 v.n) ∧ args.length ≤ 1353245080300 ∧ fitsL args
def fitsL : List EX → Prop
  | [] => True
  | e :: r => fits e ∧ fitsL r
end
theorem fitsL_mem {l : List EX} {e : EX} (hl : fitsL l) (h : e ∈ l) : fits e := by
  induction l with
  | nil => cases h
  | cons a r ih =>
    simp only [fitsL] at hl
    cases h with
    | head => exact hl.1
    | tail _ h => exact ih hl.2 h

mutual
/-- How many nodes it has, as the program counts them. -/
def nodes : EX → Int
  | .mk _ _ _ _ args => nodesL 1 args
def nodesL (n : Int) : List EX → Int
  | [] => n
  | e :: r => nodesL (IntKind.i64.wrap (n + nodes e)) r
end
theorem nodesL_snoc (l : List EX) (e : EX) : ∀ n, nodesL n (l ++ [e]) = IntKind.i64.wrap (nodesL n l + nodes e) := by
  induction l with
  | nil => intro n; simp [nodesL]
  | cons a r ih => intro n; simp only [List.cons_append, nodesL]; exact ih _
mutual
/-- How many stand one within the other, as the program counts them. -/
def deep : EX → Int
  | .mk _ _ _ _ args => IntKind.i64.wrap (deepL 0 args + 1)
def deepL (n : Int) : List EX → Int
  | [] => n
  | e :: r => deepL (if n < deep e then deep e else n) r
end
theorem deepL_snoc (l : List EX) (e : EX) : ∀ n, deepL n (l ++ [e]) = if deepL n l < deep e then deep e else deepL n l := by
  induction l with
  | nil =>
    intro n
    have h1 : deepL n [] = n := by simp only [deepL]
    have h2 : deepL n [e] = (if n < deep e then deep e else n) := by simp only [deepL]
    rw [List.nil_append, h2, h1]
  | cons a r ih => intro n; simp only [List.cons_append, deepL]; exact ih _
end Go.Ex
namespace Go.Ex
open Go Go.Dm
open Classical in
/-- Are they the same? -/
noncomputable def sameE (a b : EX) : Bool := decide (a = b)
open Classical in
noncomputable def sameL (a b : List EX) : Bool := decide (a = b)
def newSub (to : List Int) (op sub : Int) : Option Int := if op = 1 then (if sub < 0 then none else match to[sub.toNat]? with | none => none | some s => if s < 0 then none else some s) else some sub
mutual
/-- An expression with other columns; none: it may not be. -/
def shiftE (to : List Int) : EX → Option EX
  | .mk op sub t v args =>
    match newSub to op sub, shiftL to args with
    | some s, some l => some (.mk op s t v l)
    | _, _ => none
def shiftL (to : List Int) : List EX → Option (List EX)
  | [] => some []
  | e :: r => match shiftE to e, shiftL to r with
    | some x, some l => some (x :: l)
    | _, _ => none
end
theorem shiftL_append (to : List Int) (l r : List EX) : shiftL to (l ++ r) = match shiftL to l, shiftL to r with | some a, some b => some (a ++ b) | _, _ => none := by
  induction l with
  | nil => simp only [List.nil_append, shiftL]; cases shiftL to r <;> rfl
  | cons e l ih =>
    simp only [List.cons_append, shiftL, ih]
    cases shiftE to e <;> cases shiftL to l <;> cases shiftL to r <;> rfl
end Go.Ex
