/- FnExactSafeOrder, plainly: from what the program's function and the reference's answer. -/
import Derived.Test.YtlemonjnolciiaaGreatMFnExactSafeOrder
import Derived.Test.YtlemonjnolciiaaGreatH
set_option linter.unusedSimpArgs false
set_option linter.unusedVariables false
namespace AT
theorem cN (x0:Nd) (x1:Nd) (o0:el x0) (o1:el x1):∃fu,xT fu x0 x1=some true:=by
 obtain⟨fu,hfu4⟩:∃fu,2097200≤fu:=⟨2097200,sK _⟩;have hfu:2097153≤fu:=by omega
 refine⟨fu,?_⟩;unfold xT;obtain⟨r0,e0,q0⟩:=lA hfu o0 (l:=1048576) (by omega) (by omega);simp only[e0,ss];by_cases n0:r0<0;simp only[n0,decide_true,if_true];obtain⟨b0,l0⟩:=q0 (by omega);simp only[n0,decide_false,sC,if_false];obtain⟨r1,e1,q1⟩:=lA hfu o1 (l:=r0) (by omega) (by omega);simp only[e1,ss];by_cases n1:r1<0;simp only[n1,decide_true,if_true];obtain⟨b1,l1⟩:=q1 (by omega);simp only[n1,decide_false,sC,if_false];obtain⟨w,hs,hi,w0⟩:=cG hfu4 o0 o1 b0 b1;obtain⟨k0,z0_0,z0_1,z0_2,m0,u0,v0⟩:=mg hfu b0 (k:=1) (by omega) (by omega);have f0:¬k0<0:=by omega
 obtain⟨k1,z1_0,z1_1,z1_2,m1,u1,v1⟩:=mg hfu b1 (k:=k0) (by omega) (by omega);have f1:¬k1<0:=by omega
 obtain⟨k2,z2_0,m2,d2,u2,v2⟩:=kJ hfu w0 (k:=1) (by omega) (by omega);have f2:¬k2<0:=by omega
 simp [ss,hs,hi,lw hfu b0,mI hfu b0,lw hfu b1,mI hfu b1,@ki fu hfu _ trivial,@kh fu hfu _ trivial,@jQ fu hfu _ trivial,@jP fu hfu _ trivial,kV hfu w0,m0,f0,m1,f1,m2,d2,f2]
end AT
