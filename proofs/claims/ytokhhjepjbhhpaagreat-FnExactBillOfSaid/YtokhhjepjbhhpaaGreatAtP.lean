/- The plain words in which the Go functions are told: int arithmetic that wraps, indexing, slices as lists; no program and no memory in sight. -/
namespace AT

/-- Go's int. -/
def w64 (n : Int) : Int := (n + 9223372036854775808) % 18446744073709551616 - 9223372036854775808
def wu64 (n : Int) : Int := n % 18446744073709551616
def wu8 (n : Int) : Int := n % 256
theorem w64_in {n : Int} (h : -9223372036854775808 ≤ n) (h' : n ≤ 9223372036854775807) : w64 n = n := by unfold w64; omega

/-- l[i] -/
def idx {α : Type} (l : List α) (i : Int) : Option α := if 0 ≤ i then l[i.toNat]? else none
/-- l[i] = x -/
def upd {α : Type} (l : List α) (i : Int) (x : α) : Option (List α) := if 0 ≤ i ∧ i < l.length then some (l.set i.toNat x) else none
/-- l[a:b] -/
def sub {α : Type} (l : List α) (a b : Int) : Option (List α) := if 0 ≤ a ∧ a ≤ b ∧ b ≤ l.length then some ((l.take b.toNat).drop a.toNat) else none
/-- x / y, x % y -/
def quo (x y : Int) : Option Int := if y = 0 then none else some (w64 (x.tdiv y))
def rem (x y : Int) : Option Int := if y = 0 then none else some (x.tmod y)
/-- append(l, m...): only while the machine could hold it -/
def app {α : Type} (l m : List α) : Option (List α) := if l.length + m.length ≤ 1099511627776 then some (l ++ m) else none
/-- make([]T, n) -/
def mk {α : Type} (z : α) (n : Int) : Option (List α) := if 0 ≤ n ∧ n ≤ 1099511627776 then some (List.replicate n.toNat z) else none
/-- x & y, x | y, x ^ y, x &^ y -/
def band (x y : Int) : Int := w64 ((BitVec.ofInt 64 x &&& BitVec.ofInt 64 y).toNat)
def bor (x y : Int) : Int := w64 ((BitVec.ofInt 64 x ||| BitVec.ofInt 64 y).toNat)
def bxor (x y : Int) : Int := w64 ((BitVec.ofInt 64 x ^^^ BitVec.ofInt 64 y).toNat)
def bandn (x y : Int) : Int := w64 ((BitVec.ofInt 64 x &&& ~~~(BitVec.ofInt 64 y)).toNat)
/-- x << y, x >> y -/
def shl (x y : Int) : Option Int := if y < 0 then none else some (w64 (x * 2 ^ (min y.toNat 64)))
def shr (x y : Int) : Option Int := if y < 0 then none else some (x.fdiv (2 ^ (min y.toNat 64)))
def gmin (x y : Int) : Int := if y < x then y else x
def gmax (x y : Int) : Int := if y > x then y else x

/-- How a loop is left: by what stands behind it, or by a return. -/
inductive Out (S R : Type) where
  | next (s : S)
  | ret (r : R)

def Out.on {S R T : Type} (o : Out S R) (f : R → T) (k : S → T) : T :=
  match o with
  | .next s => k s
  | .ret r => f r
theorem on_next {S R T : Type} {s : S} {f : R → T} {k : S → T} {x : T} (h : (Out.next s : Out S R).on f k = x) : k s = x := h
theorem on_ret {S R T : Type} {r : R} {f : R → T} {k : S → T} {x : T} (h : (Out.ret r : Out S R).on f k = x) : f r = x := h

theorem idx_lt {α : Type} {l : List α} {i : Int} {x : α} (h : idx l i = some x) : 0 ≤ i ∧ i < l.length ∧ l[i.toNat]? = some x := by
  unfold idx at h
  split at h
  · rename_i h0
    have := (List.getElem?_eq_some_iff.1 h).1
    exact ⟨h0, by omega, h⟩
  · cases h

theorem idx_nat {α : Type} (l : List α) (k : Nat) : idx l (k : Int) = l[k]? := by simp [idx]
theorem bind_some {α β : Type} {x : Option α} {f : α → Option β} {r : β} (h : x.bind f = some r) : ∃ a, x = some a ∧ f a = some r := Option.bind_eq_some_iff.1 h
end AT
