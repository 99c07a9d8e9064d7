/- The search that hands back places instead of actions: it does what the search does, and no place comes twice. -/
import Derived.Test.YtlemonjnolciiaaGreatF
import Derived.Test.YtlemonjnolciiaaGreatAtTg
import Derived.Test.YtlemonjnolciiaaGreatQSfB
import Derived.Test.YtlemonjnolciiaaGreatAtL
set_option linter.unusedSimpArgs false
set_option linter.unusedVariables false
namespace AT
open Go
def u7 {C:Nat→List Value} (fu:Nat) (p:Nd) (list:List (Tg Nh C)) (left:Int) (rec_:(Nd)→(List (Tg Nh C))→(Int)→(List (Int×Bool))→Option (List (Nx Nh C)×Bool×(List (Int×Bool)))):Nat→Int→List (Int×Bool)→Option (Out (Int×(List (Int×Bool))) (List (Nx Nh C)×Bool×(List (Int×Bool))))
  | 0,_,_=>none
  | fk + 1,i,dead2 =>
    if decide (i<(list.length:Int)) then
      (idx list i).bind λe =>
      (shr left i).bind λq =>
      if (band q 1)==0 then
        u7 fu p list left rec_ fk (w64 (i + 1)) dead2
      else
        (xp fu p e.a).bind λy =>
        if !y.2 then
          u7 fu p list left rec_ fk (w64 (i + 1)) dead2
        else
          (shl 1 i).bind λq2 =>
          (rec_ y.1 list (jk left q2) dead2).bind λy2 =>
          if y2.2.1 then
            (app [⟨e.i⟩] y2.1).bind λl =>
            some (.ret (l,true,y2.2.2))
          else
            u7 fu p list left rec_ fk (w64 (i + 1)) y2.2.2
    else
      some (.next (i,dead2))
def yM {C:Nat→List Value} (fu:Nat) (rec_:(Nd)→(List (Tg Nh C))→(Int)→(List (Int×Bool))→Option (List (Nx Nh C)×Bool×(List (Int×Bool)))) (p:Nd) (list:List (Tg Nh C)) (left:Int) (dead:List (Int×Bool)):Option (List (Nx Nh C)×Bool×(List (Int×Bool))) :=
  if left==0 then
    some (([]:List (Nx Nh C)),true,dead)
  else
    (kK dead left).bind λb2 =>
    if b2 then
      some ([],false,dead)
    else
      (u7 fu p list left rec_ fu 0 dead).bind λout=>out.on some λz =>
      (kH z.2 left true).bind λm =>
      some ([],false,m)
def xd {C:Nat→List Value}:Nat→(Nd)→(List (Tg Nh C))→(Int)→(List (Int×Bool))→Option (List (Nx Nh C)×Bool×(List (Int×Bool)))
  | 0,_,_,_,_=>none
  | fu + 1,p,list,left,dead=>yM fu (λp list left dead=>xd fu p list left dead) p list left dead
theorem jV {s i j:Nat} (hs:s<256) (hi:i<8) (h:s.testBit i=true) (hj:j<8):(s - 2 ^ i).testBit j=(s.testBit j&&!decide (i=j)):=by
 have:∀s:Fin 256,∀i:Fin 8,∀j:Fin 8,s.1.testBit i.1=true→(s.1 - 2 ^ i.1).testBit j.1=(s.1.testBit j.1&&!decide (i.1=j.1)):=by decide +kernel
 exact this ⟨s,hs⟩ ⟨i,hi⟩ ⟨j,hj⟩ h
def zA:Nh:=⟨0,⟨0,⟨0,[]⟩,⟨0,0⟩⟩⟩
def XR {C:Nat→List Value} (L:List Nh) (s:Nat) (r:List Nh×Bool×List (Int×Bool)) (x:List (Nx Nh C)×Bool×List (Int×Bool)):Prop :=
  x.2=r.2∧r.1=(x.1.map λj=>(L[j.i]?).getD zA)∧(x.1.map λj=>j.i).Nodup∧∀j∈x.1,j.i<L.length∧s.testBit j.i=true
theorem ou {C:Nat→List Value} {fu:Nat} {L:List Nh} (hn:L.length≤8) {s:Nat} (hs:s<256) (p:Nd) (rec_:(Nd)→(List Nh)→(Int)→(List (Int×Bool))→Option (List Nh×Bool×(List (Int×Bool)))) (recX:(Nd)→(List (Tg Nh C))→(Int)→(List (Int×Bool))→Option (List (Nx Nh C)×Bool×(List (Int×Bool))))
    (ih:∀(p:Nd) (s:Nat) (d:List (Int×Bool)) r,s<256→rec_ p L (s:Int) d=some r→∃x,recX p (tagL C L) (s:Int) d=some x∧XR L s r x):∀(fk i:Nat) (d:List (Int×Bool)) o,i≤L.length→vf fu p L (s:Int) rec_ fk i d=some o →
    (∃z,o=.next z∧u7 fu p (tagL C L) (s:Int) recX fk i d=some (.next z))∨∃r x,o=.ret r∧u7 fu p (tagL C L) (s:Int) recX fk i d=some (.ret x)∧XR L s r x:=by
 intro fk;induction fk with
 | zero=>intro i d o _ h; rw[vf]at h; cases h
 | succ fk hh =>
   intro i d o hi h
   rw[vf]at h
   rw[u7,fv]
   by_cases hl:i<L.length
   · have ht:idx (tagL C L) (i:Int)=some ⟨L[i],i⟩:=by
       have h':i<(tagL C L).length:=by rw[fv]; exact hl
       rw[vG h']
       have:(tagL C L)[i]?=some ⟨L[i],i⟩:=jt.2 ⟨sv hl,rfl⟩
       rw[sv h']at this
       exact this
     rw[if_pos (by simpa using hl),vG hl,ss,jU s i (by omega),ss,xa hl (by omega)]at h
     rw[if_pos (by simpa using hl),ht,ss,jU s i (by omega),ss,xa hl (by omega)]
     have hb:=jw hs (show i<8 by omega)
     rw[hb]at h ⊢
     cases hbit:s.testBit i
     · rw[hbit]at h
       exact hh (i + 1) d o hl h
     · rw[hbit]at h
       rw[if_pos rfl]at h ⊢
       rw[if_neg (by decide)]at h ⊢
       obtain⟨y,hy,h⟩:=sM.1 h
       have hy':xp fu p (⟨L[i],i⟩:Tg Nh C).a=some y:=hy
       rw[hy',ss]
       cases hy2:y.2
       · rw[hy2,if_pos (by decide)]at h
         rw[if_pos (by decide)]
         exact hh (i + 1) d o hl h
       · rw[hy2,if_neg (by decide),iF (show i≤8 by omega),ss,g7 hs (by omega) hbit]at h
         rw[if_neg (by decide),iF (show i≤8 by omega),ss,g7 hs (by omega) hbit]
         obtain⟨y2,hy3,h⟩:=sM.1 h
         obtain⟨x,hx,hX⟩:=ih y.1 (s - 2 ^ i) d y2 (Nat.lt_of_le_of_lt (Nat.sub_le _ _) hs) hy3
         rw[hx,ss,hX.1]
         obtain⟨X1,X2,X3,X4⟩:=hX
         cases hok:y2.2.1
         · rw[hok,if_neg tl]at h
           rw[if_neg tl]
           exact hh (i + 1) y2.2.2 o hl h
         · rw[hok,if_pos rfl]at h
           rw[if_pos rfl]
           obtain⟨l,hl_,h⟩:=sM.1 h
           injection h with h
           subst h
           have hle:x.1.length=y2.1.length:=by rw[X2,tJ]
           unfold app at hl_ ⊢
           split at hl_
           · rename_i hc
             injection hl_ with hl_
             subst hl_
             rw[if_pos (by rw[hle]; exact hc),ss]
             refine .inr ⟨_,_,rfl,rfl,rfl,?_,?_,λj hj=>?_⟩
             · show [L[i]]++y2.1=_
               rw[Ac,←X2,List.map_singleton,sv hl,wi]
             · rw[Ac,List.map_singleton,tQ,tT]
               refine⟨λhmem=>?_,X3⟩
               obtain⟨j,hj,hji⟩:=sS.1 hmem
               have:=(X4 j hj).2
               rw[hji]at this
               have hclr:(s - 2 ^ i).testBit i=false:=by
                 have h1:=jV hs (show i<8 by omega) hbit (show i<8 by omega)
                 rw[h1]; simp
               rw[hclr]at this
               cases this
             · rcases su.1 hj with hj | hj
               · rw[sD]at hj
                 subst hj
                 exact⟨hl,hbit⟩
               · obtain⟨h1,h2⟩:=X4 j hj
                 have h3:=jV hs (show i<8 by omega) hbit (show j.i<8 by omega)
                 rw[h3]at h2
                 exact⟨h1,by revert h2; cases s.testBit j.i <;> simp⟩
           · cases hl_
   · rw[if_neg (by simpa using hl)]at h ⊢
     injection h with h
     subst h
     exact .inl ⟨_,rfl,rfl⟩
theorem pk {C:Nat→List Value} {L:List Nh} (hn:L.length≤8):∀(fu:Nat) (p:Nd) (s:Nat) (d:List (Int×Bool)) r,s<256→vH fu p L (s:Int) d=some r→∃x,xd fu p (tagL C L) (s:Int) d=some x∧XR L s r x
  | 0,p,s,d,r,_,h=>by rw[vH]at h; cases h
  | fu + 1,p,s,d,r,hs,h=>by
    rw[vH]at h
    rw[xd]
    unfold zk at h
    unfold yM
    split at h
    · rename_i hc
      rw[if_pos hc]
      injection h with h
      subst h
      exact⟨_,rfl,rfl,rfl,by simp,by simp⟩
    · rename_i hc
      rw[if_neg hc]
      obtain⟨b2,hb2,h⟩:=sM.1 h
      rw[hb2,ss]
      cases b2
      · rw[if_neg tl]at h ⊢
        obtain⟨o,ho,h⟩:=sM.1 h
        have hloop:=ou (C:=C) (fu:=fu) hn hs p (λp list left dead=>vH fu p list left dead) (λp list left dead=>xd fu p list left dead) (λp s d r hs h=>pk hn fu p s d r hs h) fu 0 d o (by omega) ho
        rcases hloop with ⟨z,rfl,hz⟩ | ⟨r',x,rfl,hz,hX⟩
        · rw[show ((0:Nat):Int)=0 from rfl]at hz
          rw[hz,ss]
          simp only[Out.on]at h ⊢
          obtain⟨m,hm,h⟩:=sM.1 h
          injection h with h
          subst h
          rw[hm,ss]
          exact⟨_,rfl,rfl,rfl,by simp,by simp⟩
        · rw[show ((0:Nat):Int)=0 from rfl]at hz
          rw[hz,ss]
          simp only[Out.on]at h ⊢
          injection h with h
          subst h
          exact⟨x,rfl,hX⟩
      · rw[if_pos rfl]at h ⊢
        injection h with h
        subst h
        exact⟨_,rfl,rfl,rfl,by simp,by simp⟩
end AT
