/- More plain words: strings. -/
import Derived.Test.YtokhhjepjbhhpaaGreatAtP3
namespace AT
/-- s[i], s + t, s[a:b] -/
def sidx (s : ByteArray) (i : Int) : Option By := if 0 ≤ i then (s[i.toNat]?).map fun b => ⟨(b.toNat : Int)⟩ else none
def scat (s t : ByteArray) : Option ByteArray := if s.size + t.size ≤ 9223372036854775807 then some (s ++ t) else none
def ssub (s : ByteArray) (a b : Int) : Option ByteArray := if 0 ≤ a ∧ a ≤ b ∧ b ≤ s.size then some (s.extract a.toNat b.toNat) else none
/-- s < t -/
def bless : List UInt8 → List UInt8 → Bool
  | _, [] => false
  | [], _ :: _ => true
  | a :: x, b :: y => a < b || (a == b && bless x y)
def slt (s t : ByteArray) : Bool := bless s.toList t.toList
def seq (s t : ByteArray) : Bool := s.toList == t.toList
/-- string(l) -/
def bstr (l : List By) : ByteArray := l.foldl (fun r b => r.push (UInt8.ofNat b.n.toNat)) ByteArray.empty
/-- slices.Insert(l, i, v...), slices.Delete(l, i, j) -/
def insl {α : Type} (l : List α) (i : Int) (v : List α) : Option (List α) := if 0 ≤ i ∧ i ≤ l.length ∧ l.length + v.length ≤ 1099511627776 then some (l.take i.toNat ++ (v ++ l.drop i.toNat)) else none
def dell {α : Type} (l : List α) (i j : Int) : Option (List α) := if 0 ≤ i ∧ i ≤ j ∧ j ≤ l.length then some (l.take i.toNat ++ l.drop j.toNat) else none
end AT
