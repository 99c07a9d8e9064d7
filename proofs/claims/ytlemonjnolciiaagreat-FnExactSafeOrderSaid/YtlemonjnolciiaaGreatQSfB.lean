/- The bits of a set of up to eight actions, plainly. -/
import Derived.Test.YtlemonjnolciiaaGreatAtR
set_option linter.unusedSimpArgs false
set_option linter.unusedVariables false
namespace AT
variable {s i n:Nat}
theorem jw (hs:s<256) (hi:i<8):band ((s / 2 ^ i:Nat):Int) 1=if s.testBit i=true then 1 else 0:=by
 have:∀s:Fin 256,∀i:Fin 8,band ((s.1 / 2 ^ i.1:Nat):Int) 1=if s.1.testBit i.1=true then 1 else 0:=by decide +kernel
 exact this ⟨s,hs⟩ ⟨i,hi⟩
theorem g7 (hs:s<256) (hi:i<8) (h:s.testBit i=true):jk (s:Int) ((2 ^ i:Nat):Int)=((s - 2 ^ i:Nat):Int):=by
 have:∀s:Fin 256,∀i:Fin 8,s.1.testBit i.1=true→jk (s.1:Int) ((2 ^ i.1:Nat):Int)=((s.1 - 2 ^ i.1:Nat):Int):=by decide +kernel
 exact this ⟨s,hs⟩ ⟨i,hi⟩ h
theorem pp (hs:s<256) (hi:i<8) (h:s.testBit i=false):bor (s:Int) ((2 ^ i:Nat):Int)=((s + 2 ^ i:Nat):Int):=by
 have:∀s:Fin 256,∀i:Fin 8,s.1.testBit i.1=false→bor (s.1:Int) ((2 ^ i.1:Nat):Int)=((s.1 + 2 ^ i.1:Nat):Int):=by decide +kernel
 exact this ⟨s,hs⟩ ⟨i,hi⟩ h
theorem pq {j:Nat} (hs:s<256) (hi:i<8) (hj:j<8) (h:s.testBit i=false):(s + 2 ^ i).testBit j=(s.testBit j||decide (i=j)):=by
 have:∀s:Fin 256,∀i:Fin 8,∀j:Fin 8,s.1.testBit i.1=false→(s.1 + 2 ^ i.1).testBit j.1=(s.1.testBit j.1||decide (i.1=j.1)):=by decide +kernel
 exact this ⟨s,hs⟩ ⟨i,hi⟩ ⟨j,hj⟩ h
theorem fI (hn:n≤8):1≤2 ^ n∧2 ^ n≤256:=by
 have:∀n:Fin 9,1≤2 ^ n.1∧2 ^ n.1≤256:=by decide +kernel
 exact this ⟨n,by omega⟩
theorem qA (hn:n≤8) (hs:s<2 ^ n) (hi:i<n) (h:s.testBit i=false):s + 2 ^ i<2 ^ n:=by
 have:∀n:Fin 9,∀s:Fin 256,∀i:Fin 8,s.1<2 ^ n.1→i.1<n.1→s.1.testBit i.1=false→s.1 + 2 ^ i.1<2 ^ n.1:=by decide +kernel
 have h2:=(fI hn).2;exact this ⟨n,by omega⟩ ⟨s,by omega⟩ ⟨i,by omega⟩ hs hi h
theorem lF (hs:s<2 ^ n) (hi:i<n):(2 ^ n - 1 - s).testBit i=!s.testBit i:=by
 rw[show 2 ^ n - 1 - s=2 ^ n - (s + 1) by omega,Nat.testBit_two_pow_sub_succ hs];simp [hi]
theorem oE (hs:s<2 ^ n) (h:∀i,i<n→s.testBit i=true):s=2 ^ n - 1:=by
 apply Nat.eq_of_testBit_eq;intro i;rw[Nat.testBit_two_pow_sub_one];by_cases hi:i<n;rw[h i hi]; simp [hi];rw[Nat.testBit_lt_two_pow (tI hs (Aa (by omega) (by omega)))]; simp [hi]
theorem iF (h:n≤8):shl 1 (n:Int)=some ((2 ^ n:Nat):Int):=by
 have:∀n:Fin 9,shl 1 ((n:Nat):Int)=some ((2 ^ (n:Nat):Nat):Int):=by decide +kernel
 exact this ⟨n,by omega⟩
theorem jU (s i:Nat) (hi:i≤64):shr (s:Int) (i:Int)=some ((s / 2 ^ i:Nat):Int):=by
 unfold shr;rw[if_neg (by omega),tM,tV hi,Int.fdiv_eq_ediv_of_nonneg _ (Int.pow_nonneg (by omega))];congr 1
end AT
