/- More plain words: bytes, unsigned numbers, a slice that may be nil. -/
import Derived.Test.YtokhhjepjbhhpaaGreatAtP
namespace AT
structure By where
  n : Int
  deriving DecidableEq
structure U64 where
  n : Int
  deriving DecidableEq
def andu8 (x y : Int) : Int := wu8 ((BitVec.ofInt 8 x &&& BitVec.ofInt 8 y).toNat)
def andu64 (x y : Int) : Int := wu64 ((BitVec.ofInt 64 x &&& BitVec.ofInt 64 y).toNat)
def shrk (b : Nat) (x y : Int) : Option Int := if y < 0 then none else some (x.fdiv (2 ^ (min y.toNat b)))
/-- What is told where a slice is nil, and where it is not: told at all only if both are the same where it is empty. -/
def nilCase {α R : Type} [DecidableEq R] (l : List α) (a b : Option R) : Option R :=
  match l with
  | [] => if a = b then b else none
  | _ :: _ => b
theorem nil_case1 {α R : Type} [DecidableEq R] {l : List α} {a b : Option R} {r : R} (hl : l = []) (h : nilCase l a b = some r) : a = some r := by
  subst hl
  unfold nilCase at h
  simp only at h
  split at h
  · rename_i e; rw [e]; exact h
  · cases h
theorem nil_case2 {α R : Type} [DecidableEq R] {l : List α} {a b : Option R} {r : R} (h : nilCase l a b = some r) : b = some r := by
  unfold nilCase at h
  split at h
  · split at h
    · exact h
    · cases h
  · exact h
end AT
