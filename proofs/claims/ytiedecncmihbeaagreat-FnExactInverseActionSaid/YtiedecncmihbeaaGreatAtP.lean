/- The plain words in which the Go functions are told: int arithmetic that wraps, indexing, slices as lists; no program and no memory in sight. -/
/- The plain words in which the Go functions are told: int arithmetic that wraps, indexing, slices as lists; no program and no memory in sight. -/
namespace AT

def w64 (n : Int) : Int := (n + 9223372036854775808) % 18446744073709551616 - 9223372036854775808
def wu64 (n : Int) : Int := n % 18446744073709551616
def wu8 (n : Int) : Int := n % 256
theorem w64_in {n : Int} (h : -9223372036854775808 ≤ n) (h' : n ≤ 9223372036854775807) : w64 n = n := by unfold w64; omega

def idx {α : Type} (l : List α) (i : Int) : Option α := if 0 ≤ i then l[i.toNat]? else none
def sub {α : Type} (l : List α) (a b : Int) : Option (List α) := if 0 ≤ a ∧ a ≤ b ∧ b ≤ l.length then some ((l.take b.toNat).drop a.toNat) else none
def quo (x y : Int) : Option Int := if y = 0 then none else some (w64 (x.tdiv y))
def rem (x y : Int) : Option Int := if y = 0 then none else some (x.tmod y)
def app {α : Type} (l m : List α) : Option (List α) := if l.length + m.length ≤ 1099511627776 then some (l ++ m) else none
def mk {α : Type} (z : α) (n : Int) : Option (List α) := if 0 ≤ n ∧ n ≤ 1099511627776 then some (List.replicate n.toNat z) else none
def band (x y : Int) : Int := w64 ((BitVec.ofInt 64 x &&& BitVec.ofInt 64 y).toNat)
def bor (x y : Int) : Int := w64 ((BitVec.ofInt 64 x ||| BitVec.ofInt 64 y).toNat)
def bxor (x y : Int) : Int := w64 ((BitVec.ofInt 64 x ^^^ BitVec.ofInt 64 y).toNat)
def bandn (x y : Int) : Int := w64 ((BitVec.ofInt 64 x &&& ~~~(BitVec.ofInt 64 y)).toNat)
def shl (x y : Int) : Option Int := if y < 0 then none else some (w64 (x * 2 ^ (min y.toNat 64)))
def gmin (x y : Int) : Int := if y < x then y else x
def gmax (x y : Int) : Int := if y > x then y else x

inductive Out (S R : Type) where
  | next (s : S)
  | ret (r : R)

def Out.on {S R T : Type} (o : Out S R) (f : R → T) (k : S → T) : T :=
  match o with
  | .next s => k s
  | .ret r => f r
theorem on_next {S R T : Type} {s : S} {f : R → T} {k : S → T} {x : T} (h : (Out.next s : Out S R).on f k = x) : k s = x := h
theorem on_ret {S R T : Type} {r : R} {f : R → T} {k : S → T} {x : T} (h : (Out.ret r : Out S R).on f k = x) : f r = x := h

theorem idx_lt {α : Type} {l : List α} {i : Int} {x : α} (h : idx l i = some x) : 0 ≤ i ∧ i < l.length ∧ l[i.toNat]? = some x := by
  unfold idx at h
  split at h
  · rename_i h0
    have := (List.getElem?_eq_some_iff.1 h).1
    exact ⟨h0, by omega, h⟩
  · cases h

theorem idx_nat {α : Type} (l : List α) (k : Nat) : idx l (k : Int) = l[k]? := by simp [idx]
theorem bind_some {α β : Type} {x : Option α} {f : α → Option β} {r : β} (h : x.bind f = some r) : ∃ a, x = some a ∧ f a = some r := Option.bind_eq_some_iff.1 h
end AT

/- More plain words: bytes, unsigned numbers, a slice that may be nil. -/
namespace AT
structure By where
  n : Int
  deriving DecidableEq
structure U64 where
  n : Int
  deriving DecidableEq
end AT

/- More plain words: arrays of ints. -/
namespace AT
structure IA (n : Nat) where
  l : List Int
  h : l.length = n
def IA.zero (n : Nat) : IA n := ⟨List.replicate n 0, List.length_replicate⟩
def IA.get {n : Nat} (x : IA n) (k : Nat) : Option Int := x.l[k]?
def IA.put {n : Nat} (x : IA n) (k : Nat) (v : Int) : Option (IA n) := if k < n then some ⟨x.l.set k v, by rw [List.length_set]; exact x.h⟩ else none
def IA.part {n : Nat} (x : IA n) (k m : Nat) : Option (IA m) := if h : k + m ≤ n then some ⟨(x.l.drop k).take m, by rw [List.length_take, List.length_drop, x.h]; omega⟩ else none
end AT

/- More plain words: strings. -/
namespace AT
def sidx (s : ByteArray) (i : Int) : Option By := if 0 ≤ i then (s[i.toNat]?).map fun b => ⟨(b.toNat : Int)⟩ else none
def scat (s t : ByteArray) : Option ByteArray := if s.size + t.size ≤ 9223372036854775807 then some (s ++ t) else none
def seq (s t : ByteArray) : Bool := s.toList == t.toList
def bstr (l : List By) : ByteArray := l.foldl (fun r b => r.push (UInt8.ofNat b.n.toNat)) ByteArray.empty
def insl {α : Type} (l : List α) (i : Int) (v : List α) : Option (List α) := if 0 ≤ i ∧ i ≤ l.length ∧ l.length + v.length ≤ 1099511627776 then some (l.take i.toNat ++ (v ++ l.drop i.toNat)) else none
def dell {α : Type} (l : List α) (i j : Int) : Option (List α) := if 0 ≤ i ∧ i ≤ j ∧ j ≤ l.length then some (l.take i.toNat ++ l.drop j.toNat) else none
end AT

