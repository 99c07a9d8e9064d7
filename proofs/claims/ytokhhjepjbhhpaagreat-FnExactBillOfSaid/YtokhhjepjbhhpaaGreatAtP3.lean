/- More plain words: arrays of ints. -/
import Derived.Test.YtokhhjepjbhhpaaGreatAtP2
namespace AT
/-- An array of n ints, rows behind one another. -/
structure IA (n : Nat) where
  l : List Int
  h : l.length = n
def IA.zero (n : Nat) : IA n := ⟨List.replicate n 0, List.length_replicate⟩
def IA.get {n : Nat} (x : IA n) (k : Nat) : Option Int := x.l[k]?
def IA.put {n : Nat} (x : IA n) (k : Nat) (v : Int) : Option (IA n) := if k < n then some ⟨x.l.set k v, by rw [List.length_set]; exact x.h⟩ else none
def IA.part {n : Nat} (x : IA n) (k m : Nat) : Option (IA m) := if h : k + m ≤ n then some ⟨(x.l.drop k).take m, by rw [List.length_take, List.length_drop, x.h]; omega⟩ else none
/-- An index within bounds. -/
def chk (i : Int) (n : Nat) : Option Nat := if 0 ≤ i ∧ i < n then some i.toNat else none
end AT
