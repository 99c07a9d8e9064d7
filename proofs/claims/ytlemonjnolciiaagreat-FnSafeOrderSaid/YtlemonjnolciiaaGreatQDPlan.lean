/- The bits of a set of up to eight actions, plainly. -/
import Derived.Test.YtlemonjnolciiaaGreatAtR
import Derived.Test.YtlemonjnolciiaaGreatQActs
import Derived.Test.YtlemonjnolciiaaGreatAtPM
import Derived.Test.YtlemonjnolciiaaGreatOk
import Derived.Test.YtlemonjnolciiaaGreatAtL
set_option linter.unusedSimpArgs false
set_option linter.unusedVariables false
namespace AT
theorem ghP {s i:Nat} (hs:s<256) (hi:i<8):band ((s / 2 ^ i:Nat):Int) 1=if s.testBit i=true then 1 else 0:=by
 have:∀ s:Fin 256,∀ i:Fin 8,band ((s.1 / 2 ^ i.1:Nat):Int) 1=if s.1.testBit i.1=true then 1 else 0:=by decide +kernel
 exact this ⟨s,hs⟩ ⟨i,hi⟩
theorem gi7 {s i:Nat} (hs:s<256) (hi:i<8) (h:s.testBit i=true):ggF (s:Int) ((2 ^ i:Nat):Int)=((s - 2 ^ i:Nat):Int):=by
 have:∀ s:Fin 256,∀ i:Fin 8,s.1.testBit i.1=true→ggF (s.1:Int) ((2 ^ i.1:Nat):Int)=((s.1 - 2 ^ i.1:Nat):Int):=by decide +kernel
 exact this ⟨s,hs⟩ ⟨i,hi⟩ h
theorem gkO {s i:Nat} (hs:s<256) (hi:i<8) (h:s.testBit i=false):bor (s:Int) ((2 ^ i:Nat):Int)=((s + 2 ^ i:Nat):Int):=by
 have:∀ s:Fin 256,∀ i:Fin 8,s.1.testBit i.1=false→bor (s.1:Int) ((2 ^ i.1:Nat):Int)=((s.1 + 2 ^ i.1:Nat):Int):=by decide +kernel
 exact this ⟨s,hs⟩ ⟨i,hi⟩ h
theorem gkP {s i j:Nat} (hs:s<256) (hi:i<8) (hj:j<8) (h:s.testBit i=false):(s + 2 ^ i).testBit j=(s.testBit j||decide (i=j)):=by
 have:∀ s:Fin 256,∀ i:Fin 8,∀ j:Fin 8,s.1.testBit i.1=false→(s.1 + 2 ^ i.1).testBit j.1=(s.1.testBit j.1||decide (i.1=j.1)):=by decide +kernel
 exact this ⟨s,hs⟩ ⟨i,hi⟩ ⟨j,hj⟩ h
theorem geY {n:Nat} (hn:n≤8):1≤2 ^ n∧2 ^ n≤256:=by
 have:∀ n:Fin 9,1≤2 ^ n.1∧2 ^ n.1≤256:=by decide +kernel
 exact this ⟨n,by omega⟩
theorem glz {n s i:Nat} (hn:n≤8) (hs:s<2 ^ n) (hi:i<n) (h:s.testBit i=false):s + 2 ^ i<2 ^ n:=by
 have:∀ n:Fin 9,∀ s:Fin 256,∀ i:Fin 8,s.1<2 ^ n.1→i.1<n.1→s.1.testBit i.1=false→s.1 + 2 ^ i.1<2 ^ n.1:=by decide +kernel
 have h2:=(geY hn).2
 exact this ⟨n,by omega⟩ ⟨s,by omega⟩ ⟨i,by omega⟩ hs hi h
theorem ghO {n s i:Nat} (hs:s<2 ^ n) (hi:i<n):(2 ^ n - 1 - s).testBit i=!s.testBit i:=by
 rw [show 2 ^ n - 1 - s=2 ^ n - (s + 1) by omega,Nat.testBit_two_pow_sub_succ hs]
 simp [hi]
theorem gj8 {n s:Nat} (hs:s<2 ^ n) (h:∀ i,i<n→s.testBit i=true):s=2 ^ n - 1:=by
 apply Nat.eq_of_testBit_eq
 intro i
 rw [Nat.testBit_two_pow_sub_one]
 by_cases hi:i<n
 rw [h i hi]; simp [hi]
 rw [Nat.testBit_lt_two_pow (Nat.lt_of_lt_of_le hs (Nat.pow_le_pow_right (by omega) (by omega)))]; simp [hi]
theorem gjM {n:Nat} (h:n≤8):shl 1 (n:Int)=some ((2 ^ n:Nat):Int):=by
 have:∀ n:Fin 9,shl 1 ((n:Nat):Int)=some ((2 ^ (n:Nat):Nat):Int):=by decide +kernel
 exact this ⟨n,by omega⟩
theorem gjL (s i:Nat) (hi:i≤64):shr (s:Int) (i:Int)=some ((s / 2 ^ i:Nat):Int):=by
 unfold shr
 rw [if_neg (by omega),Int.toNat_natCast,Nat.min_eq_left hi,Int.fdiv_eq_ediv_of_nonneg _ (Int.pow_nonneg (by omega))]
 congr 1
end AT
namespace AT
def a0:Action:=⟨0,l0⟩
def pick (L:List Action) (is:List Nat):List Action:=is.map fun i=>gd L i a0
def ordI (o:List Nat):List Int:=o.map fun (i:Nat)=>(i:Int)
def ggi (n:Nat) (dead:List (Int×Bool)) (failed:List Bool):Prop:=failed.length=2 ^ n∧∀ v,v<2 ^ n→mget dead ((2 ^ n - 1 - v:Nat):Int)=gd failed v false
structure SfS (n:Nat) (order:List Nat) (u:Nat):Prop where
  lt:u<2 ^ n
  nd:order.Nodup
  mem:∀ i,i∈order↔i<n∧u.testBit i=true
structure SfGood (L:List Action) (p:Plan) (order is:List Nat):Prop where
  acts:(acts (pick L is) p).2=is.length
  nd:(order++is).Nodup
  mem:∀ i,i∈order++is↔i<L.length
def gly (L:List Action) (p:Plan) (order:List Nat) (dead:List (Int×Bool)) (b:Nat) (ri:Option (List Action×Bool×List (Int×Bool))) (rs:Option (List Int×Bool×List Bool)):Prop :=
  ∃ is ok dead' failed',ri=some (if ok=true then pick L is else [],ok,dead')∧rs=some (if ok=true then ordI (order++is) else ordI order,ok,failed') ∧
    ggi L.length dead' failed'∧dead'.length≤dead.length + b∧(ok=true→SfGood L p order is)
theorem gc8:∀ {l m:List Nat},l.Nodup→(∀ i∈l,i∈m)→l.length≤m.length
  | [],_,_,_=>Nat.zero_le _
  | x::l,m,hn,hm=>by
    obtain ⟨h1,h2⟩:=List.nodup_cons.1 hn
    have hx:x∈m:=hm x (by simp)
    have:=gc8 (l:=l) (m:=m.erase x) h2 fun i hi=>(List.mem_erase_of_ne (by rintro rfl; exact h1 hi)).2 (hm i (by simp [hi]))
    rw [List.length_erase_of_mem hx] at this
    have h3:=List.length_pos_of_mem hx
    simp only [List.length_cons]
    omega
theorem gcQ {n:Nat} {l:List Nat} (hn:l.Nodup) (hl:∀ i∈l,i<n):l.length≤n:=by
 have:=gc8 (m:=List.range n) hn fun i hi=>List.mem_range.2 (hl i hi)
 simpa using this
theorem SfS.step {n:Nat} {order:List Nat} {u i:Nat} (hn:n≤8) (h:SfS n order u) (hi:i<n) (hb:u.testBit i=false):SfS n (order++[i]) (u + 2 ^ i):=by
 have h2:=(geY hn).2
 refine ⟨glz hn h.lt hi hb,?_,fun j=>?_⟩
 rw [List.nodup_append]
 refine ⟨h.nd,by simp,fun a ha b hb2 e=>?_⟩
 rw [List.mem_singleton] at hb2
 subst e; subst hb2
 rw [((h.mem a).1 ha).2] at hb
 cases hb
 rw [List.mem_append,List.mem_singleton,h.mem j]
 by_cases hj:j<n
 rw [gkP (by have:=h.lt; omega) (by omega) (by omega) hb]
 simp [hj]
 constructor
 rintro (h | h)
 exact .inl h
 exact .inr h.symm
 rintro (h | h)
 exact .inl h
 exact .inr h.symm
 constructor
 rintro (h | rfl)
 exact absurd h.1 hj
 exact absurd hi hj
 exact fun h=>absurd h.1 hj
theorem SfS.full {n:Nat} {order:List Nat} {u:Nat} (h:SfS n order u) (hl:order.length=n):u=2 ^ n - 1:=by
 refine gj8 h.lt fun i hi=>?_
 have h1:i∈order:=Classical.byContradiction fun hc=>by
   have:=gcQ (n:=n) (l:=i::order) (List.nodup_cons.2 ⟨hc,h.nd⟩) fun j hj=>by
     rcases List.mem_cons.1 hj with rfl | hj
     · exact hi
     · exact ((h.mem j).1 hj).1
   simp only [List.length_cons] at this
   omega
 exact ((h.mem i).1 h1).2
theorem SfS.notfull {n:Nat} {order:List Nat} {u:Nat} (h:SfS n order u) (hl:order.length<n):u≠2 ^ n - 1:=fun e=>by
  have:=gc8 (l:=List.range n) (m:=order) List.nodup_range fun i hi=>(h.mem i).2 ⟨List.mem_range.1 hi,by rw [e,Nat.testBit_two_pow_sub_one]; simpa using hi⟩
  rw [List.length_range] at this
  omega
theorem gdg (L:List Action) (is:List Nat):(pick L is).length=is.length:=by simp [pick]
theorem gcv (o:List Nat):(ordI o).length=o.length:=by simp [ordI]
theorem gia (o:List Nat) (i:Nat):ordI o++[(i:Int)]=ordI (o++[i]):=by simp [ordI]
theorem giy (fu:Nat) (l:List Int) (h:l.length≤2097152):gac fu l=some l:=by
 unfold gac
 rw [gbC (by omega)]; rfl
theorem SfGood.cons {L:List Action} {p:Plan} {order is:List Nat} {i:Nat} (ha:(act p (gd L i a0)).2=true) (h:SfGood L (act p (gd L i a0)).1 (order++[i]) is):SfGood L p order (i::is):=by
 have e:order++[i]++is=order++i::is:=by simp
 refine ⟨?_,e▸h.nd,fun j=>by rw [←e]; exact h.mem j⟩
 show (AT.acts (gd L i a0::pick L is) p).2=_
 rw [AT.acts,if_pos ha]
 simp only [h.acts,List.length_cons]
theorem wuS {n:Nat} (h:n≤2097152):wu64 (n:Int)=(n:Int):=by unfold wu64; omega
def SfLoop (L:List Action) (p:Plan) (order:List Nat) (dead:List (Int×Bool)) (b:Nat) (ri:Option (Out (Int×List (Int×Bool)) (List Action×Bool×List (Int×Bool)))) (rs:Option (Out (Int×List Bool) (List Int×Bool×List Bool))):Prop :=
  (∃ is dead' failed',ri=some (.ret (pick L is,true,dead'))∧rs=some (.ret (ordI (order++is),true,failed'))∧ggi L.length dead' failed'∧dead'.length≤dead.length + b∧SfGood L p order is) ∨
  (∃ z z' dead' failed',ri=some (.next (z,dead'))∧rs=some (.next (z',failed'))∧ggi L.length dead' failed'∧dead'.length≤dead.length + b)
theorem SfLoop.mono {L:List Action} {p:Plan} {order:List Nat} {dead dead2:List (Int×Bool)} {b b2:Nat} {ri:Option (Out (Int×List (Int×Bool)) (List Action×Bool×List (Int×Bool)))} {rs:Option (Out (Int×List Bool) (List Int×Bool×List Bool))} (h:SfLoop L p order dead b ri rs) (hb:dead.length + b≤dead2.length + b2):SfLoop L p order dead2 b2 ri rs:=by
 rcases h with ⟨is,d,f,h1,h2,h3,h4,h5⟩ | ⟨z,z',d,f,h1,h2,h3,h4⟩
 exact .inl ⟨is,d,f,h1,h2,h3,by omega,h5⟩
 exact .inr ⟨z,z',d,f,h1,h2,h3,by omega⟩
theorem gj7 {fu:Nat} (hfu:2097153≤fu) {L:List Action} (hA:gdM L) (hn:L.length≤8) {p:Plan} (hp:vm p=true) (hB:yS p) {order:List Nat} {u:Nat} (hS:SfS L.length order u) (hol:order.length≤8) (f0:List Bool) (c B:Nat)
    (ri:Plan→List Action→Int→List (Int×Bool)→Option (List Action×Bool×List (Int×Bool))) (rs:L20SearchP→Plan→List Int→Int→Option (List Int×Bool×List Bool))
    (hrec:∀ i,i<L.length→u.testBit i=false→(act p (gd L i a0)).2=true→∀ dead failed,ggi L.length dead failed→dead.length + c≤B →
      gly L (act p (gd L i a0)).1 (order++[i]) dead c (ri (act p (gd L i a0)).1 L ((2 ^ L.length - 1 - (u + 2 ^ i):Nat):Int) dead) (rs ⟨L,failed⟩ (act p (gd L i a0)).1 (ordI (order++[i])) ((u + 2 ^ i:Nat):Int))) :
    ∀ (k i fk:Nat) (dead:List (Int×Bool)) (failed:List Bool),i + k=L.length→k<fk→ggi L.length dead failed→dead.length + k * c≤B →
      SfLoop L p order dead (k * c) (vF fu p L ((2 ^ L.length - 1 - u:Nat):Int) ri fk (i:Int) dead) (uM fu ⟨L,f0⟩ p (ordI order) (u:Int) rs fk (i:Int) failed):=by
 have h2n:=geY hn
 have hult:=hS.lt
 intro k
 induction k with
 | zero =>
   intro i fk dead failed hik hk hR hd
   obtain ⟨fk,rfl⟩:∃ f,fk=f + 1:=⟨fk - 1,by omega⟩
   rw [vF,uM,if_neg (by simp; omega),if_neg (by simp; omega)]
   exact .inr ⟨_,_,_,_,rfl,rfl,hR,by omega⟩
 | succ k ih =>
   intro i fk dead failed hik hk hR hd
   obtain ⟨fk,rfl⟩:∃ f,fk=f + 1:=⟨fk - 1,by omega⟩
   have hi:i<L.length:=by omega
   have e1:(k + 1) * c=k * c + c:=by rw [Nat.add_mul,Nat.one_mul]
   have hn9:(L.length:Int)≤9223372036854775807:=by omega
   have hi9:i≤2097152:=by omega
   have hb1:(band (((2 ^ L.length - 1 - u) / 2 ^ i:Nat):Int) 1==0)=u.testBit i:=by
     rw [ghP (s:=2 ^ L.length - 1 - u) (i:=i) (by omega) (by omega),ghO hult hi]
     cases u.testBit i <;> rfl
   have hb2:(band ((u / 2 ^ i:Nat):Int) 1==1)=u.testBit i:=by
     rw [ghP (s:=u) (i:=i) (by omega) (by omega)]
     cases u.testBit i <;> rfl
   rw [vF,uM,if_pos (by simpa using hi),if_pos (by simpa using hi),vW a0 hi,wuS hi9,gjL _ _ (by omega),gjL _ _ (by omega),gjM (by omega),xo hi hn9]
   rw [Option.bind_some,Option.bind_some,Option.bind_some,Option.bind_some,hb1,hb2]
   have hnext:=fun dead2 failed2 (hR2:ggi L.length dead2 failed2) (h:dead2.length≤dead.length + c)=>(ih (i + 1) fk dead2 failed2 (by omega) (by omega) hR2 (by omega)).mono (dead2:=dead) (b2:=(k + 1) * c) (by omega)
   cases hb:u.testBit i
   · have hBa:((gd L i a0).Light.Route.Fibers.length)≤2097152:=hA.2 _ (gav a0 hi)
     rw [gg4 hfu p _ hB hBa,gcV hfu p _ hB hp hBa,if_pos hp]
     have hbn:ggF ((2 ^ L.length - 1 - u:Nat):Int) ((2 ^ i:Nat):Int)=((2 ^ L.length - 1 - (u + 2 ^ i):Nat):Int):=by
       rw [gi7 (by omega) (by omega) (by rw [ghO hult hi,hb]; rfl),show 2 ^ L.length - 1 - u - 2 ^ i=2 ^ L.length - 1 - (u + 2 ^ i) by omega]
     simp only [Bool.false_eq_true,if_false,hbn,gkO (s:=u) (i:=i) (by omega) (by omega) hb,giy fu (ordI order) (by rw [gcv]; omega),Option.bind_some]
     rw [zz (by rw [gcv]; simp; omega),gia]
     rw [Option.bind_some]
     cases ha:(act p (gd L i a0)).2
     · rw [if_pos (by decide),if_pos (by decide)]
       exact hnext dead failed hR (by omega)
     · rw [if_neg (by decide),if_neg (by decide)]
       obtain ⟨is,ok,dead',failed',g1,g2,g3,g4,g5⟩:=hrec i hi hb ha dead failed hR (by omega)
       rw [g1,g2]
       rw [Option.bind_some,Option.bind_some]
       cases ok
       · simp only [Bool.false_eq_true,if_false]
         exact hnext dead' failed' g3 g4
       · have hg:=g5 rfl
         have hgl:(pick L is).length≤8:=by
           rw [gdg]
           have:=gcQ hg.nd fun j hj=>(hg.mem j).1 hj
           rw [List.length_append] at this
           omega
         simp only [if_true]
         rw [zz (by simp only [List.length_singleton]; omega)]
         refine .inl ⟨i::is,dead',failed',rfl,?_,g3,by omega,hg.cons ha⟩
         rw [show order++i::is=order++[i]++is by simp]
   · rw [if_pos rfl,if_pos rfl]
     exact hnext dead failed hR (by omega)
theorem gjk {m:List (Int×Bool)} {k:Nat} (hk:k<256):gil m (k:Int)=some (mget m (k:Int)):=by
 unfold gil wf64
 rw [if_pos]
 simp only [Bool.and_eq_true,decide_eq_true_eq]
 omega
theorem gjj {m:List (Int×Bool)} {k:Nat} {v:Bool} (hk:k<256) (hm:m.length<1099511627776):gii m (k:Int) v=some (((k:Int),v)::m):=by
 unfold gii wf64
 rw [if_pos]
 simp only [Bool.and_eq_true,decide_eq_true_eq]
 omega
theorem gkN {L:List Action} (hA:gdM L) (hn:L.length≤8) {B:Nat} (hBB:B<1099511627776):∀ (d fu:Nat) (p:Plan) (order:List Nat) (u:Nat) (dead:List (Int×Bool)) (failed:List Bool),2097153 + d<fu→vm p=true→yS p→SfS L.length order u→order.length + d=L.length→ggi L.length dead failed→dead.length + 9 ^ d≤B →
    gly L p order dead (9 ^ d) (xm fu p L ((2 ^ L.length - 1 - u:Nat):Int) dead) (uS fu ⟨L,failed⟩ p (ordI order) (u:Int)):=by
 have h2n:=geY hn
 intro d
 induction d with
 | zero =>
   intro fu p order u dead failed hfu hp hB hS hd hR hlen
   obtain ⟨fu,rfl⟩:∃ f,fu=f + 1:=⟨fu - 1,by omega⟩
   have e:=hS.full (by omega)
   rw [xm,zy,uS,vY,if_pos (by rw [e]; simp),if_pos (by rw [gcv]; simp; omega)]
   refine ⟨[],true,dead,failed,rfl,by simp,hR,by omega,fun _=>⟨rfl,by simpa using hS.nd,fun i=>?_⟩⟩
   rw [List.append_nil,hS.mem i,e,Nat.testBit_two_pow_sub_one]
   simp
 | succ d ih =>
   intro fu p order u dead failed hfu hp hB hS hd hR hlen
   obtain ⟨fu,rfl⟩:∃ f,fu=f + 1:=⟨fu - 1,by omega⟩
   have hult:=hS.lt
   have e:=hS.notfull (by omega)
   have h9:9 ^ (d + 1)=9 * 9 ^ d:=by rw [Nat.pow_succ,Nat.mul_comm]
   have h91:1≤9 ^ d:=Nat.one_le_pow _ _ (by omega)
   have hkc:L.length * 9 ^ d≤8 * 9 ^ d:=Nat.mul_le_mul_right _ hn
   have hfl:=hR.1
   rw [xm,zy,uS,vY,if_neg (by simp; omega),if_neg (by rw [gcv]; simp; omega),gjk (by omega),hR.2 u hult,vW false (by simp only; omega)]
   simp only [Option.bind_some]
   cases hf:gd failed u false
   · rw [if_neg (by decide),if_neg (by decide)]
     have hl:=gj7 (fu:=fu) (by omega) hA hn hp hB hS (by omega) failed (9 ^ d) B (fun p list left dead=>xm fu p list left dead) (fun x1 p order used=>uS fu x1 p order used)
       (fun i hi hb ha dead failed hR hd2=>ih fu (act p (gd L i a0)).1 (order++[i]) (u + 2 ^ i) dead failed (by omega) (gdU hp ha) (gjI hB hp (hA.2 _ (gav a0 hi)) ha) (hS.step hn hi hb) (by simp; omega) hR hd2)
       L.length 0 fu dead failed (by omega) (by omega) hR (by omega)
     rw [show ((0:Nat):Int)=0 from rfl] at hl
     rcases hl with ⟨is,d',f',h1,h2,h3,h4,h5⟩ | ⟨z,z',d',f',h1,h2,h3,h4⟩
     · rw [h1,h2]
       exact ⟨is,true,d',f',rfl,rfl,h3,by omega,fun _=>h5⟩
     · rw [h1,h2]
       simp only [Option.bind_some,Out.on]
       have hfl2:=h3.1
       have hd':d'.length<1099511627776:=Nat.lt_of_le_of_lt (by omega) hBB
       rw [gjj (by omega) hd',vW false (by omega)]
       refine ⟨[],false,(((2 ^ L.length - 1 - u:Nat):Int),true)::d',f'.set u true,rfl,by simp,⟨by rw [List.length_set]; exact hfl2,fun v hv=>?_⟩,by simp only [List.length_cons]; omega,fun h=>by cases h⟩
       rw [gfU]
       by_cases hvu:v=u
       · subst hvu
         rw [if_pos rfl,gd,List.getElem?_set_self (by omega)]; rfl
       · rw [if_neg (by omega),gd,List.getElem?_set_ne (fun h=>hvu h.symm)]
         exact h3.2 v hv
   · rw [if_pos rfl,if_pos rfl]
     exact ⟨[],false,dead,failed,rfl,rfl,hR,by omega,fun h=>by cases h⟩
end AT
namespace AT
theorem gdo {α β:Type} (L:List α) (c:α→Bool) (f:α→β) (G:Nat→List β→Int→Option (List β×Int)) (hL:L.length≤2097152)
    (hG:∀ fk (i:Nat) o (h:i<L.length),o.length≤10000000→G (fk + 1) o i=if c L[i]=true then G fk (o++[f L[i]]) (w64 ((i:Int) + 1)) else G fk o (w64 ((i:Int) + 1)))
    (hz:∀ fk o,G (fk + 1) o L.length=some (o,(L.length:Int))):∀ (fk i:Nat) (o:List β),i≤L.length→L.length - i<fk→o.length + (L.length - i)≤10000000→G fk o i=some (o++((L.drop i).filter c).map f,(L.length:Int)):=by
 intro fk
 induction fk with
 | zero=>intro i _ _ h; omega
 | succ fk ih =>
   intro i o hi hk ho
   by_cases h:i<L.length
   · rw [hG fk i o h (by omega),xo h (by omega),←List.getElem_cons_drop h,List.filter_cons]
     by_cases hc:c L[i]=true
     · rw [if_pos hc,if_pos hc,ih (i + 1) (o++[f L[i]]) h (by omega) (by rw [List.length_append,List.length_singleton]; omega),List.append_assoc]
       rfl
     · rw [if_neg hc,if_neg hc,ih (i + 1) o h (by omega) (by omega)]
   · obtain rfl:i=L.length:=by omega
     rw [hz,List.drop_length]
     simp
def gcG (a b:Network) (i:Nat):Bool:=!((gd a.Nodes i nm0).toList==(gd b.Nodes i nm0).toList)
def gfq (a b:Network) (i:Nat):Bool:=!(([(gd a.Fibers i f0).A,(gd a.Fibers i f0).B,(gd a.Fibers i f0).Length,(gd a.Fibers i f0).Risk]:List Int)==([(gd b.Fibers i f0).A,(gd b.Fibers i f0).B,(gd b.Fibers i f0).Length,(gd b.Fibers i f0).Risk]:List Int))
def gb3 (a b:Network):Bool:=decide (a.Nodes.length=b.Nodes.length)&&(decide (a.Fibers.length=b.Fibers.length)&&(!(List.range a.Nodes.length).any (gcG a b)&&!(List.range a.Fibers.length).any (gfq a b)))
theorem gfZ {α β:Type} (a:List α) (b:List β):((a.length:Int) != (b.length:Int))=!decide (a.length=b.length):=by
 rw [Bool.eq_iff_iff]
 simp only [bne_iff_ne,ne_eq,Bool.not_eq_true',decide_eq_false_iff_not]
 omega
theorem gd1 {fu:Nat} (hfu:2097153≤fu) (a b:Network) (ha:NetB a):yG fu a b=some (gb3 a b):=by
 have h1:=ha.1.1
 have h2:=ha.2
 unfold yG gb3 xp vE
 rw [gfZ,gfZ]
 by_cases e1:a.Nodes.length=b.Nodes.length
 rw [xb (l:=List.range a.Nodes.length) (G:=uX fu a.Nodes b.Nodes) (gcG a b) (fun _=>false) (by simp; omega)
   (fun fk i hi=>by
     have hi':i<a.Nodes.length:=by simpa using hi
     have h':(i:Int)<(a.Nodes.length:Int):=by omega
     rw [uX,List.getElem_range]
     simp only [h',decide_true,if_true,vW nm0 hi',vW nm0 (show i<b.Nodes.length by omega),Option.bind_some,gcG]
     rfl)
   (fun fk=>by rw [List.length_range,uX,if_neg (by simp)]) fu (by simp; omega)]
 by_cases e2:a.Fibers.length=b.Fibers.length
 rw [xb (l:=List.range a.Fibers.length) (G:=uF fu a.Fibers b.Fibers) (gfq a b) (fun _=>false) (by simp; omega)
   (fun fk i hi=>by
     have hi':i<a.Fibers.length:=by simpa using hi
     have h':(i:Int)<(a.Fibers.length:Int):=by omega
     rw [uF,List.getElem_range]
     simp only [h',decide_true,if_true,vW f0 hi',vW f0 (show i<b.Fibers.length by omega),Option.bind_some,gfq]
     rfl)
   (fun fk=>by rw [List.length_range,uF,if_neg (by simp)]) fu (by simp; omega)]
 rw [decide_eq_true e1,decide_eq_true e2]
 cases (List.range a.Nodes.length).any (gcG a b) <;> cases (List.range a.Fibers.length).any (gfq a b) <;> rfl
 rw [decide_eq_true e1,decide_eq_false e2]
 cases (List.range a.Nodes.length).any (gcG a b) <;> rfl
 rw [decide_eq_false e1]
 rfl
theorem geR {fu:Nat} (hfu:2097153≤fu) (p q:Plan) (ha:NetB p.Network):zt fu p q=some (gb3 p.Network q.Network):=by
  have h1:=ha.1.1
  have h2:=ha.2
  obtain ⟨fk,rfl⟩:∃ fk,fu=fk + 1:=⟨fu - 1,by omega⟩
  unfold zt gbY gb3
  simp only [gfZ]
  by_cases e1:p.Network.Nodes.length=q.Network.Nodes.length
  · by_cases e2:p.Network.Fibers.length=q.Network.Fibers.length
    · rw [xb (l:=List.range p.Network.Nodes.length) (G:=xZ (fk + 1) ({ Network:=p.Network,Lights:=[] }:Plan) ({ Network:=q.Network,Lights:=[] }:Plan)) (gcG p.Network q.Network) (fun _=>false) (by simp; omega)
        (fun fk' i hi=>by
          have hi':i<p.Network.Nodes.length:=by simpa using hi
          have h':(i:Int)<(p.Network.Nodes.length:Int):=by omega
          rw [xZ,List.getElem_range]
          simp only [h',decide_true,if_true,vW nm0 hi',vW nm0 (show i<q.Network.Nodes.length by omega),Option.bind_some,gcG]
          rfl)
        (fun fk'=>by rw [List.length_range,xZ,if_neg (by simp)]) (fk + 1) (by simp; omega)]
      rw [xb (l:=List.range p.Network.Fibers.length) (G:=xY (fk + 1) ({ Network:=p.Network,Lights:=[] }:Plan) ({ Network:=q.Network,Lights:=[] }:Plan)) (gfq p.Network q.Network) (fun _=>false) (by simp; omega)
        (fun fk' i hi=>by
          have hi':i<p.Network.Fibers.length:=by simpa using hi
          have h':(i:Int)<(p.Network.Fibers.length:Int):=by omega
          rw [xY,List.getElem_range]
          simp only [h',decide_true,if_true,vW f0 hi',vW f0 (show i<q.Network.Fibers.length by omega),Option.bind_some,gfq]
          rfl)
        (fun fk'=>by rw [List.length_range,xY,if_neg (by simp)]) (fk + 1) (by simp; omega)]
      have h3:yK (fk + 1) ({ Network:=p.Network,Lights:=[] }:Plan) ({ Network:=q.Network,Lights:=[] }:Plan) (fk + 1) 0=some (.next 0):=by
        rw [yK,if_neg (by simp)]
      rw [h3,decide_eq_true e1,decide_eq_true e2]
      cases (List.range p.Network.Nodes.length).any (gcG p.Network q.Network) <;> cases (List.range p.Network.Fibers.length).any (gfq p.Network q.Network) <;> rfl
    · rw [decide_eq_true e1,decide_eq_false e2]
      rfl
  · rw [decide_eq_false e1]
    rfl
def remL (p q:Plan):List Action:=(p.Lights.filter fun x=>!has_ q x.Id).map fun x=>⟨2,x⟩
def movL (p q:Plan) (L:List Light):List Action:=(L.filter fun x=>has_ p x.Id&&!decide (gd p.Lights (atId p.Lights x.Id) l0=x)).map fun x=>⟨3,x⟩
def addL (p q:Plan) (L:List Light):List Action:=(L.filter fun x=>!has_ p x.Id).map fun x=>⟨1,x⟩
theorem gdn {fu:Nat} (hfu:2097153≤fu) (q:Plan) (id:Int) (hq:q.Lights.length≤2097152):∃ y,yl fu q id=some y∧yF fu q id=some y∧decide (y<0)=!has_ q id∧decide (y≥0)=has_ q id∧(has_ q id=true→y=((atId q.Lights id:Nat):Int)∧atId q.Lights id<q.Lights.length):=by
 rw [gdk q id (by omega) hq,gdy q id (by omega) hq]
 cases hh:has_ q id
 have hh':(q.Lights.any fun y=>y.Id==id)=false:=hh
 rw [hh']
 exact ⟨_,rfl,rfl,rfl,rfl,fun h=>by cases h⟩
 have hh':(q.Lights.any fun y=>y.Id==id)=true:=hh
 rw [hh']
 exact ⟨_,rfl,rfl,by simp,by simp,fun _=>⟨rfl,gbB hh'⟩⟩
theorem ggq {fu:Nat} (hfu:2097153≤fu) (p q:Plan) (hp:yS p) (hq:yS q) (sp:p.Lights.length≤12) (sq:q.Lights.length≤12):yA fu p q=some (remL p q++(movL p q q.Lights++addL p q q.Lights)):=by
 unfold yA
 have g1:=gdo p.Lights (fun x=>!has_ q x.Id) (fun x=>(⟨2,x⟩:Action)) (vi fu p q) hp.2.1
   (fun fk i o h ho=>by
     have h':(i:Int)<(p.Lights.length:Int):=by omega
     obtain ⟨y,y1,-,y3,-⟩:=gdn hfu q p.Lights[i].Id hq.2.1
     have ha:app o [(⟨2,p.Lights[i]⟩:Action)]=some (o++[(⟨2,p.Lights[i]⟩:Action)]):=zz (by rw [List.length_singleton]; omega)
     rw [vi]
     simp only [h',decide_true,if_true,xa h,Option.bind_some,y1,y3,gbU fu _ (hp.2.2 _ (List.getElem_mem h)),ha])
   (fun fk o=>by rw [vi,if_neg (by simp)]) fu 0 [] (by omega) (by omega) (by simp; omega)
 rw [show ((0:Nat):Int)=0 from rfl,List.nil_append,List.drop_zero] at g1
 rw [g1,Option.bind_some]
 have hr:(remL p q).length≤12:=by
   unfold remL
   rw [List.length_map]
   exact Nat.le_trans (List.length_filter_le _ _) sp
 have g2:=gdo q.Lights (fun x=>has_ p x.Id&&!decide (gd p.Lights (atId p.Lights x.Id) l0=x)) (fun x=>(⟨3,x⟩:Action)) (vb fu p q) hq.2.1
   (fun fk i o h ho=>by
     have h':(i:Int)<(q.Lights.length:Int):=by omega
     obtain ⟨y,y1,-,-,y4,y5⟩:=gdn hfu p q.Lights[i].Id hp.2.1
     have ha:app o [(⟨3,q.Lights[i]⟩:Action)]=some (o++[(⟨3,q.Lights[i]⟩:Action)]):=zz (by rw [List.length_singleton]; omega)
     rw [vb]
     cases hh:has_ p q.Lights[i].Id
     · rw [hh] at y4
       simp only [h',decide_true,if_true,xa h,Option.bind_some,y1,y4,Bool.false_eq_true,if_false,Bool.false_and]
     · rw [hh] at y4
       obtain ⟨y6,y7⟩:=y5 hh
       subst y6
       simp only [h',decide_true,if_true,xa h,Option.bind_some,y1,y4,vW l0 y7,gdB hfu _ q.Lights[i] (hp.2.2 _ (gav l0 y7)),Bool.true_and,gbU fu _ (hq.2.2 _ (List.getElem_mem h)),ha])
   (fun fk o=>by rw [vb,if_neg (by simp)]) fu 0 (remL p q) (by omega) (by omega) (by omega)
 rw [show ((0:Nat):Int)=0 from rfl,List.drop_zero] at g2
 have g2':vb fu p q fu ((p.Lights.filter fun x=>!has_ q x.Id).map fun x=>(⟨2,x⟩:Action)) 0=_:=g2
 rw [g2',Option.bind_some]
 have hm:(movL p q q.Lights).length≤12:=by
   unfold movL
   rw [List.length_map]
   exact Nat.le_trans (List.length_filter_le _ _) sq
 have g3:=gdo q.Lights (fun x=>!has_ p x.Id) (fun x=>(⟨1,x⟩:Action)) (va fu p q) hq.2.1
   (fun fk i o h ho=>by
     have h':(i:Int)<(q.Lights.length:Int):=by omega
     obtain ⟨y,y1,-,y3,-⟩:=gdn hfu p q.Lights[i].Id hp.2.1
     have ha:app o [(⟨1,q.Lights[i]⟩:Action)]=some (o++[(⟨1,q.Lights[i]⟩:Action)]):=zz (by rw [List.length_singleton]; omega)
     rw [va]
     simp only [h',decide_true,if_true,xa h,Option.bind_some,y1,y3,gbU fu _ (hq.2.2 _ (List.getElem_mem h)),ha])
   (fun fk o=>by rw [va,if_neg (by simp)]) fu 0 (remL p q++movL p q q.Lights) (by omega) (by omega) (by rw [List.length_append]; omega)
 rw [show ((0:Nat):Int)=0 from rfl,List.drop_zero] at g3
 have g3':va fu p q fu (remL p q++(q.Lights.filter fun x=>has_ p x.Id&&!decide (gd p.Lights (atId p.Lights x.Id) l0=x)).map fun x=>(⟨3,x⟩:Action)) 0=_:=g3
 rw [g3',Option.bind_some,List.append_assoc]
 rfl
theorem gij {p q:Plan} {x:Light} {L:List Light}:movL p q (x::L)=if (has_ p x.Id&&!decide (gd p.Lights (atId p.Lights x.Id) l0=x))=true then ⟨3,x⟩::movL p q L else movL p q L:=by
 unfold movL
 rw [List.filter_cons]
 split <;> rfl
theorem giV {p q:Plan} {x:Light} {L:List Light}:addL p q (x::L)=if (!has_ p x.Id)=true then ⟨1,x⟩::addL p q L else addL p q L:=by
 unfold addL
 rw [List.filter_cons]
 split <;> rfl
theorem gi4 {fu:Nat} (hfu:2097153≤fu) (p q:Plan) (hp:yS p) (hq:yS q) (sq:q.Lights.length≤12):∀ (fk i:Nat) (a m:List Action),i≤q.Lights.length→q.Lights.length - i<fk→a.length≤i→m.length≤i →
    ∃ z,vd fu p q fk a i m=some (a++addL p q (q.Lights.drop i),z,m++movL p q (q.Lights.drop i)):=by
 intro fk
 induction fk with
 | zero=>intro i _ _ _ h; omega
 | succ fk ih =>
   intro i a m hi hk ha hm
   rw [vd]
   by_cases h:i<q.Lights.length
   · have h':(i:Int)<(q.Lights.length:Int):=by omega
     obtain ⟨y,-,y2,y3,-,y5⟩:=gdn hfu p q.Lights[i].Id hp.2.1
     have h1:app a [(⟨1,q.Lights[i]⟩:Action)]=some (a++[(⟨1,q.Lights[i]⟩:Action)]):=zz (by rw [List.length_singleton]; omega)
     have h3:app m [(⟨3,q.Lights[i]⟩:Action)]=some (m++[(⟨3,q.Lights[i]⟩:Action)]):=zz (by rw [List.length_singleton]; omega)
     rw [←List.getElem_cons_drop h,gij,giV]
     simp only [h',decide_true,if_true,xa h,Option.bind_some,y2,y3]
     rw [xo h (by omega)]
     cases hh:has_ p q.Lights[i].Id
     · simp only [Bool.not_false,if_true,h1,Option.bind_some,Bool.false_and,Bool.false_eq_true,if_false]
       obtain ⟨z,hz⟩:=ih (i + 1) (a++[(⟨1,q.Lights[i]⟩:Action)]) m h (by omega) (by rw [List.length_append,List.length_singleton]; omega) (by omega)
       exact ⟨z,by rw [hz,List.append_assoc,List.singleton_append]⟩
     · obtain ⟨y6,y7⟩:=y5 hh
       subst y6
       simp only [Bool.not_true,Bool.false_eq_true,if_false,vW l0 y7,gcL hfu _ q.Lights[i] (hp.2.2 _ (gav l0 y7)),Option.bind_some,Bool.true_and]
       by_cases hc:gd p.Lights (atId p.Lights q.Lights[i].Id) l0=q.Lights[i]
       · simp only [hc,decide_true,Bool.not_true,Bool.false_eq_true,if_false]
         exact ih (i + 1) a m h (by omega) (by omega) (by omega)
       · simp only [hc,decide_false,Bool.not_false,if_true,h3,Option.bind_some]
         obtain ⟨z,hz⟩:=ih (i + 1) a (m++[(⟨3,q.Lights[i]⟩:Action)]) h (by omega) (by omega) (by rw [List.length_append,List.length_singleton]; omega)
         exact ⟨z,by rw [hz,List.append_assoc m,List.singleton_append]⟩
   · obtain rfl:i=q.Lights.length:=by omega
     rw [if_neg (by simp),List.drop_length]
     exact ⟨_,by simp [addL,movL]; rfl⟩
theorem gi3 {i j:Nat} (h:i≤20971520) (h2:j≤20971520):w64 ((i:Int) + (j:Int))=((i + j:Nat):Int):=by rw [vV (by omega) (by omega)]; omega
theorem gkD {fu:Nat} (S:List (List Action)) (hS:S.length≤10) (hl:∀ x∈S,x.length≤2097152):∀ (fk i n:Nat),i≤S.length→S.length - i<fk→n≤2097152 * i→∃ (m:Nat) (z:Int),uH fu S fk (n:Int) (i:Int)=some ((m:Int),z)∧m≤20971520:=by
 intro fk
 induction fk with
 | zero=>intro i _ _ h; omega
 | succ fk ih =>
   intro i n hi hk hn
   rw [uH]
   by_cases h:i<S.length
   · have h':(i:Int)<(S.length:Int):=by omega
     have hx:=hl _ (List.getElem_mem h)
     have hneg:¬((n + S[i].length:Nat):Int)<0:=by omega
     have k1:n≤20971520:=by omega
     have k2:S[i].length≤20971520:=by omega
     have k3:S.length - (i + 1)<fk:=by omega
     have k4:n + S[i].length≤2097152 * (i + 1):=by omega
     have k5:(S.length:Int)≤9223372036854775807:=by omega
     obtain ⟨m,z,r1,r2⟩:=ih (i + 1) (n + S[i].length) h k3 k4
     refine ⟨m,z,?_,r2⟩
     rw [←r1]
     have e1:decide ((i:Int)<(S.length:Int))=true:=decide_eq_true h'
     have e2:decide (((n + S[i].length:Nat):Int)<0)=false:=decide_eq_false hneg
     rw [if_pos e1,xa h,Option.bind_some,gi3 k1 k2,e2,if_neg Bool.false_ne_true,xo h k5]
   · obtain rfl:i=S.length:=by omega
     rw [if_neg (by simp)]
     exact ⟨n,_,rfl,by omega⟩
theorem gkC {fu:Nat} (S:List (List Action)) (hS:S.length≤10) (hl:∀ x∈S,x.length≤2097152):∀ (fk i:Nat) (o:List Action),i≤S.length→S.length - i<fk→o.length≤2097152 * i→∃ z,uG fu S fk o (i:Int)=some (o++(S.drop i).flatten,z):=by
 intro fk
 induction fk with
 | zero=>intro i _ _ h; omega
 | succ fk ih =>
   intro i o hi hk hn
   rw [uG]
   by_cases h:i<S.length
   · have h':(i:Int)<(S.length:Int):=by omega
     have hx:=hl _ (List.getElem_mem h)
     have ha:app o S[i]=some (o++S[i]):=zz (by omega)
     simp only [h',decide_true,if_true,xa h,Option.bind_some,ha]
     rw [xo h (by omega)]
     obtain ⟨z,hz⟩:=ih (i + 1) (o++S[i]) h (by omega) (by rw [List.length_append]; omega)
     exact ⟨z,by rw [hz,←List.getElem_cons_drop h,List.flatten_cons,List.append_assoc]⟩
   · obtain rfl:i=S.length:=by omega
     rw [if_neg (by simp),List.drop_length]
     exact ⟨_,by simp; rfl⟩
theorem giM {fu:Nat} (hfu:2097153≤fu) (S:List (List Action)) (hS:S.length≤10) (hl:∀ x∈S,x.length≤2097152):uU fu S=some S.flatten:=by
 unfold uU
 obtain ⟨m,z,h1,h2⟩:=gkD (fu:=fu) S hS hl fu 0 0 (by omega) (by omega) (by omega)
 have h0:((0:Nat):Int)=0:=rfl
 rw [h0] at h1
 have hg:(giD (m:Int):Option (List Action))=some []:=by unfold giD; rw [if_pos (by omega)]
 obtain ⟨z2,h3⟩:=gkC (fu:=fu) S hS hl fu 0 [] (by omega) (by omega) (by simp)
 rw [h0] at h3
 rw [h1,Option.bind_some,hg,Option.bind_some,h3,Option.bind_some,List.nil_append,List.drop_zero]
theorem gjA {p q:Plan} {a:Action} (h:a∈remL p q++(movL p q q.Lights++addL p q q.Lights)):a.Light∈p.Lights∨a.Light∈q.Lights:=by
 rw [List.mem_append,List.mem_append] at h
 rcases h with h | h | h
 obtain ⟨x,hx,rfl⟩:=List.mem_map.1 h
 exact .inl (List.mem_filter.1 hx).1
 obtain ⟨x,hx,rfl⟩:=List.mem_map.1 h
 exact .inr (List.mem_filter.1 hx).1
 obtain ⟨x,hx,rfl⟩:=List.mem_map.1 h
 exact .inr (List.mem_filter.1 hx).1
end AT
namespace AT
def Up (L:List Light):Prop:=L.Pairwise fun a b=>a.Id<b.Id
theorem gaR {p:Plan} (h:vm p=true):Up p.Lights:=(gdw.1 h).2.2.2.imp fun h=>h.1
theorem Up.inj:∀ {L:List Light},Up L→∀ {x y:Light},x∈L→y∈L→x.Id=y.Id→x=y
  | [],_,_,_,h,_,_=>by cases h
  | z::L,hU,x,y,hx,hy,e=>by
    obtain ⟨h1,h2⟩:=List.pairwise_cons.1 hU
    rcases List.mem_cons.1 hx with rfl | hx
    · rcases List.mem_cons.1 hy with rfl | hy
      · rfl
      · have:=h1 y hy; omega
    · rcases List.mem_cons.1 hy with e2 | hy
      · have:=h1 x hx; rw [e2] at e; omega
      · exact Up.inj h2 hx hy e
theorem Up.ext {L M:List Light} (hL:Up L) (hM:Up M) (h:∀ y,y∈L↔y∈M):L=M:=by
 have nd:∀ {K:List Light},Up K→K.Nodup:=fun hK=>hK.imp fun h e=>by subst e; omega
 exact List.Perm.eq_of_pairwise (le:=fun a b:Light=>a.Id<b.Id) (fun a b _ _ h1 h2=>by omega) hL hM ((List.perm_ext_iff_of_nodup (nd hL) (nd hM)).2 h)
theorem Up.mid {A B:List Light} {m:Light} (h:Up (A++m::B)) (y:Light):(y∈A∨y∈B)↔(y∈A++m::B∧y.Id≠m.Id):=by
 obtain ⟨-,h2,h3⟩:=List.pairwise_append.1 h
 obtain ⟨h4,-⟩:=List.pairwise_cons.1 h2
 rw [List.mem_append,List.mem_cons]
 constructor
 rintro (hy | hy)
 have:=h3 y hy m (by simp)
 exact ⟨.inl hy,by omega⟩
 have:=h4 y hy
 exact ⟨.inr (.inr hy),by omega⟩
 rintro ⟨hy | rfl | hy,hn⟩
 exact .inl hy
 exact absurd rfl hn
 exact .inr hy
theorem ggM {L:List Light} {i:Nat} (hi:i<L.length):L=L.take i++gd L i l0::L.drop (i + 1):=by
 rw [gbG l0 hi,List.getElem_cons_drop hi,List.take_append_drop]
theorem ggI {p:Plan} {a:Action} (hp:vm p=true) (h:(act p a).2=true) (y:Light):y∈(act p a).1.Lights↔(a.Kind≠2∧y=a.Light)∨(y∈p.Lights∧y.Id≠a.Light.Id):=by
 have hU:=gaR hp
 have hok:=gdU hp h
 unfold act at h hok ⊢
 by_cases k1:a.Kind=1
 rw [if_pos k1] at h hok ⊢
 by_cases h1:vm (addP p a.Light)=true
 rw [if_pos h1]
 have hU2:Up (putL p.Lights a.Light):=gaR h1
 show y∈putL p.Lights a.Light↔_
 have hm:=Up.mid hU2 y
 rw [gdf]
 have e:(y∈p.Lights.take (gdY p.Lights a.Light.Id)∨y∈p.Lights.drop (gdY p.Lights a.Light.Id))↔y∈p.Lights:=by
   rw [←List.mem_append,List.take_append_drop]
 constructor
 rintro (rfl | hy)
 exact .inl ⟨by omega,rfl⟩
 exact .inr ⟨hy,(hm.1 (e.2 hy)).2⟩
 rintro (⟨-,rfl⟩ | ⟨hy,-⟩)
 exact .inl rfl
 exact .inr hy
 rw [if_neg h1] at h; cases h
 rw [if_neg k1] at h hok ⊢
 by_cases k2:a.Kind=2
 rw [if_pos k2] at h hok ⊢
 by_cases h1:has_ p a.Light.Id=true∧gd p.Lights (atId p.Lights a.Light.Id) l0=a.Light
 rw [if_pos h1]
 have hi:=gbB h1.1
 have hs:=ggM hi
 show y∈p.Lights.eraseIdx (atId p.Lights a.Light.Id)↔_
 have hm:=Up.mid (hs▸hU) y
 rw [←hs,h1.2] at hm
 rw [List.eraseIdx_eq_take_drop_succ,List.mem_append,hm]
 simp [k2]
 rw [if_neg h1] at h; cases h
 rw [if_neg k2] at h hok ⊢
 by_cases k3:a.Kind=3
 rw [if_pos k3] at h hok ⊢
 by_cases h1:has_ p a.Light.Id=true∧vm (setP p (atId p.Lights a.Light.Id) a.Light)=true
 rw [if_pos h1]
 have hi:=gbB h1.1
 have hs:=ggM hi
 have hid:=giS h1.1
 show y∈p.Lights.set (atId p.Lights a.Light.Id) a.Light↔_
 have hm:=Up.mid (hs▸hU) y
 rw [←hs,hid] at hm
 rw [List.set_eq_take_append_cons_drop,if_pos hi,List.mem_append,List.mem_cons]
 constructor
 rintro (hy | rfl | hy)
 exact .inr (hm.1 (.inl hy))
 exact .inl ⟨k2,rfl⟩
 exact .inr (hm.1 (.inr hy))
 rintro (⟨-,rfl⟩ | hy)
 exact .inr (.inl rfl)
 rcases hm.2 hy with hy | hy
 exact .inl hy
 exact .inr (.inr hy)
 rw [if_neg h1] at h; cases h
 rw [if_neg k3] at h; cases h
def ggJ (l:List Action):Prop:=∀ a∈l,∀ b∈l,a.Light.Id=b.Light.Id→a=b
theorem gdS:∀ (l:List Action) (p:Plan),vm p=true→(acts l p).2=l.length→ggJ l→∀ y,y∈(acts l p).1.Lights↔(∃ a∈l,a.Kind≠2∧y=a.Light)∨(y∈p.Lights∧∀ a∈l,y.Id≠a.Light.Id)
  | [],p,_,_,_,y=>by simp [acts]
  | a::l,p,hp,h,hO,y=>by
    have ha:(act p a).2=true∧(acts l (act p a).1).2=l.length:=by
      unfold acts at h
      by_cases ha:(act p a).2=true
      · rw [if_pos ha] at h
        simp only [List.length_cons] at h
        exact ⟨ha,by omega⟩
      · rw [if_neg ha] at h
        simp at h
    have ih:=gdS l (act p a).1 (gdU hp ha.1) ha.2 (fun b hb c hc e=>hO b (by simp [hb]) c (by simp [hc]) e) y
    unfold acts
    rw [if_pos ha.1]
    simp only
    rw [ih,ggI hp ha.1]
    constructor
    · rintro (⟨b,hb,h1⟩ | ⟨(⟨h1,h2⟩ | ⟨h1,h2⟩),h3⟩)
      · exact .inl ⟨b,by simp [hb],h1⟩
      · exact .inl ⟨a,by simp,h1,h2⟩
      · refine .inr ⟨h1,fun b hb=>?_⟩
        rcases List.mem_cons.1 hb with rfl | hb
        · exact h2
        · exact h3 b hb
    · rintro (⟨b,hb,h1,h2⟩ | ⟨h1,h2⟩)
      · by_cases hl:∃ c∈l,y.Id=c.Light.Id
        · obtain ⟨c,hc,e⟩:=hl
          have:b=c:=hO b hb c (by simp [hc]) (by rw [←h2,e])
          subst this
          exact .inl ⟨b,hc,h1,h2⟩
        · rcases List.mem_cons.1 hb with rfl | hb
          · exact .inr ⟨.inl ⟨h1,h2⟩,fun c hc e=>hl ⟨c,hc,e⟩⟩
          · exact .inl ⟨b,hb,h1,h2⟩
      · exact .inr ⟨.inr ⟨h1,h2 a (by simp)⟩,fun b hb=>h2 b (by simp [hb])⟩
theorem gc1 {p:Plan} {id:Int}:has_ p id=true↔∃ x∈p.Lights,x.Id=id:=by
 unfold has_
 rw [List.any_eq_true]
 simp
def dif (p q:Plan):List Action:=remL p q++(movL p q q.Lights++addL p q q.Lights)
theorem gcp {p q:Plan} {a:Action}:a∈dif p q↔(∃ x∈p.Lights,¬has_ q x.Id=true∧a=⟨2,x⟩)∨(∃ x∈q.Lights,has_ p x.Id=true∧gd p.Lights (atId p.Lights x.Id) l0≠x∧a=⟨3,x⟩)∨(∃ x∈q.Lights,¬has_ p x.Id=true∧a=⟨1,x⟩):=by
 unfold dif remL movL addL
 rw [List.mem_append,List.mem_append,List.mem_map,List.mem_map,List.mem_map]
 simp only [List.mem_filter,Bool.and_eq_true,Bool.not_eq_true',decide_eq_false_iff_not,Bool.not_eq_true]
 constructor
 rintro (⟨x,⟨h1,h2⟩,rfl⟩ | ⟨x,⟨h1,h2,h3⟩,rfl⟩ | ⟨x,⟨h1,h2⟩,rfl⟩)
 exact .inl ⟨x,h1,h2,rfl⟩
 exact .inr (.inl ⟨x,h1,h2,h3,rfl⟩)
 exact .inr (.inr ⟨x,h1,h2,rfl⟩)
 rintro (⟨x,h1,h2,rfl⟩ | ⟨x,h1,h2,h3,rfl⟩ | ⟨x,h1,h2,rfl⟩)
 exact .inl ⟨x,⟨h1,h2⟩,rfl⟩
 exact .inr (.inl ⟨x,⟨h1,h2,h3⟩,rfl⟩)
 exact .inr (.inr ⟨x,⟨h1,h2⟩,rfl⟩)
theorem gkA {p q:Plan} (hp:vm p=true) (hq:vm q=true):ggJ (dif p q):=by
 have uP:=gaR hp
 have uQ:=gaR hq
 intro a ha b hb e
 rcases gcp.1 ha with ⟨x,h1,h2,rfl⟩ | ⟨x,h1,h2,h3,rfl⟩ | ⟨x,h1,h2,rfl⟩ <;> rcases gcp.1 hb with ⟨z,g1,g2,rfl⟩ | ⟨z,g1,g2,g3,rfl⟩ | ⟨z,g1,g2,rfl⟩ <;> simp only at e
 rw [uP.inj h1 g1 e]
 exact absurd (gc1.2 ⟨z,g1,e.symm⟩) h2
 exact absurd (gc1.2 ⟨z,g1,e.symm⟩) h2
 exact absurd (gc1.2 ⟨x,h1,e⟩) g2
 rw [uQ.inj h1 g1 e]
 rw [e] at h2; exact absurd h2 g2
 exact absurd (gc1.2 ⟨x,h1,e⟩) g2
 rw [e] at h2; exact absurd g2 h2
 rw [uQ.inj h1 g1 e]
theorem gkB {p q:Plan} (hp:vm p=true) (hq:vm q=true) (y:Light):y∈q.Lights↔(∃ a∈dif p q,a.Kind≠2∧y=a.Light)∨(y∈p.Lights∧∀ a∈dif p q,y.Id≠a.Light.Id):=by
 have uP:=gaR hp
 have uQ:=gaR hq
 constructor
 intro hy
 by_cases h:has_ p y.Id=true
 by_cases g:gd p.Lights (atId p.Lights y.Id) l0=y
 refine .inr ⟨by rw [←g]; exact gav l0 (gbB h),fun a ha e=>?_⟩
 rcases gcp.1 ha with ⟨x,h1,h2,rfl⟩ | ⟨x,h1,h2,h3,rfl⟩ | ⟨x,h1,h2,rfl⟩
 exact h2 (gc1.2 ⟨y,hy,e⟩)
 have:=uQ.inj hy h1 e
 subst this
 exact h3 g
 rw [show y.Id=x.Id from e] at h
 exact h2 h
 exact .inl ⟨⟨3,y⟩,gcp.2 (.inr (.inl ⟨y,hy,h,g,rfl⟩)),(by simp),rfl⟩
 exact .inl ⟨⟨1,y⟩,gcp.2 (.inr (.inr ⟨y,hy,h,rfl⟩)),(by simp),rfl⟩
 rintro (⟨a,ha,h1,rfl⟩ | ⟨hy,hn⟩)
 rcases gcp.1 ha with ⟨x,g1,g2,rfl⟩ | ⟨x,g1,g2,g3,rfl⟩ | ⟨x,g1,g2,rfl⟩
 exact absurd rfl h1
 exact g1
 exact g1
 by_cases h:has_ q y.Id=true
 obtain ⟨z,hz,e⟩:=gc1.1 h
 have hpz:has_ p z.Id=true:=gc1.2 ⟨y,hy,e.symm⟩
 by_cases g:gd p.Lights (atId p.Lights z.Id) l0=z
 have hzp:z∈p.Lights:=by rw [←g]; exact gav l0 (gbB hpz)
 rw [uP.inj hy hzp e.symm]
 exact hz
 exact absurd e.symm (hn ⟨3,z⟩ (gcp.2 (.inr (.inl ⟨z,hz,hpz,g,rfl⟩))))
 exact absurd rfl (hn ⟨2,y⟩ (gcp.2 (.inl ⟨y,hy,h,rfl⟩)))
theorem gla {p q:Plan} (hp:vm p=true) (hq:vm q=true) (hpB:yS p) (hA:gdM (dif p q)) {is:List Nat} (h:SfGood (dif p q) p [] is):(acts (pick (dif p q) is) p).1.Lights=q.Lights∧is.length=(dif p q).length:=by
 have hm:∀ a,a∈pick (dif p q) is↔a∈dif p q:=fun a=>by
   unfold pick
   rw [List.mem_map]
   constructor
   · rintro ⟨i,hi,rfl⟩
     exact gav a0 ((h.mem i).1 (by simpa using hi))
   · intro ha
     obtain ⟨i,hi,rfl⟩:=List.getElem_of_mem ha
     exact ⟨i,by simpa using (h.mem i).2 hi,gbG a0 hi⟩
 have hO:ggJ (pick (dif p q) is):=fun a ha b hb e=>gkA hp hq a ((hm a).1 ha) b ((hm b).1 hb) e
 have hl:(acts (pick (dif p q) is) p).2=(pick (dif p q) is).length:=by rw [gdg]; exact h.acts
 have hok:=gfy (pick (dif p q) is) p hp hpB fun a ha=>hA.2 a ((hm a).1 ha)
 refine ⟨Up.ext (gaR hok.1) (gaR hq) fun y=>?_,?_⟩
 rw [gdS _ p hp hl hO,gkB hp hq]
 simp only [hm]
 have hnd:is.Nodup:=by simpa using h.nd
 have h1:=gcQ (n:=(dif p q).length) hnd fun i hi=>(h.mem i).1 (by simpa using hi)
 have h2:=gc8 (l:=List.range (dif p q).length) (m:=is) List.nodup_range fun i hi=>by simpa using (h.mem i).2 (List.mem_range.1 hi)
 rw [List.length_range] at h2
 omega
end AT
namespace AT
theorem gg9 {fu:Nat} (hfu:2097153≤fu) (l:List Int) (h:l.length≤2097152):gbT fu l l=some true:=by
 unfold gbT
 have h1:((l.length:Int) != (l.length:Int))=false:=by simp
 rw [h1,if_neg Bool.false_ne_true,gky l (zm fu l l) h (fun fk i=>by rw [zm]) fu (by omega)]
 rfl
theorem gfC {fu:Nat} (hfu:2097153≤fu) (x:Light) (h:x.Route.Fibers.length≤2097152):gae fu x x=some true:=by
 unfold gae gbK
 rw [gg9 hfu _ h]
 simp
theorem gcC {fu:Nat} (hfu:2097153≤fu) (n:Network) (h:NetB n):yQ fu n n=some true:=by
  unfold yQ
  have h1:((n.Nodes.length:Int) != (n.Nodes.length:Int))=false:=by simp
  have h2:((n.Fibers.length:Int) != (n.Fibers.length:Int))=false:=by simp
  have e1:vh fu n n fu 0=some (.next (n.Nodes.length:Int)):=by
    rw [xb (l:=n.Nodes) (G:=vh fu n n) (fun _=>false) (fun _=>false) (by have:=h.1.1; omega)
      (fun fk i hi=>by
        have h':(i:Int)<(n.Nodes.length:Int):=by omega
        rw [vh]
        simp only [h',decide_true,if_true,xa hi,Option.bind_some,beq_self_eq_true,Bool.not_true])
      (fun fk=>by rw [vh,if_neg (by simp)]) fu (by have:=h.1.1; omega)]
    simp
  have e2:vg fu n n fu 0=some (.next (n.Fibers.length:Int)):=by
    rw [xb (l:=n.Fibers) (G:=vg fu n n) (fun _=>false) (fun _=>false) (by have:=h.2; omega)
      (fun fk i hi=>by
        have h':(i:Int)<(n.Fibers.length:Int):=by omega
        rw [vg]
        simp only [h',decide_true,if_true,xa hi,Option.bind_some,beq_self_eq_true,Bool.not_true])
      (fun fk=>by rw [vg,if_neg (by simp)]) fu (by have:=h.2; omega)]
    simp
  rw [h1,if_neg Bool.false_ne_true,h2,Option.bind_some,if_neg Bool.false_ne_true,e1,e2]
  rfl
theorem ggl {fu:Nat} (hfu:2097153≤fu) (p:Plan) (h:yS p):z9 fu p p=some true:=by
 unfold z9
 have h1:((p.Lights.length:Int) != (p.Lights.length:Int))=false:=by simp
 rw [gcC hfu _ h.1,h1,gkx p.Lights (vZ fu p p) (gae fu) h.2.1 (fun e he=>gfC hfu e (h.2.2 e he)) (fun fk i=>by rw [vZ]) fu (by have:=h.2.1; omega)]
 rfl
end AT
namespace AT
structure Cur (c:L1CurP) (k:Int):Prop where
  by_:∀ e∈c.code,0≤e.n∧e.n≤255
  len:c.code.length≤65536
  lo:0≤c.at_
  hi:c.at_≤k
theorem glx (q:Int):0≤gdq q 255∧gdq q 255≤255:=by
 unfold gdq
 have h:(BitVec.ofInt 64 q &&& BitVec.ofInt 64 255).toNat≤255:=by
   rw [BitVec.toNat_and]
   exact Nat.le_trans Nat.and_le_right (by decide)
 unfold wu64
 omega
theorem gif {fu:Nat} {c:L1CurP} {k:Int} (hc:Cur c k) (hk:k≤4611686018427387904):∃ r c',yX fu c=some (r,c')∧0≤r∧r≤255∧Cur c' (k + 1):=by
 have h0:=hc.lo
 have h1:=hc.hi
 have hl:=hc.len
 have e1:w64 (c.at_ + 1)=c.at_ + 1:=vV (by omega) (by omega)
 unfold yX
 have hsh:∀ x:Int,shrk 64 x 40=some (x.fdiv (2 ^ (min (40:Int).toNat 64))):=fun x=>by unfold shrk; rw [if_neg (by omega)]
 simp only [e1,hsh,Option.bind_some]
 have hcur:∀ s,Cur ⟨c.code,c.at_ + 1,s⟩ (k + 1):=fun s=>⟨hc.by_,hc.len,by simp only; omega,by simp only; omega⟩
 have ha:∀ q:Int,0≤w64 (gdq q 255)∧w64 (gdq q 255)≤255:=fun q=>by
   have:=glx q
   rw [vV (by omega) (by omega)]; exact this
 by_cases h:c.at_<c.code.length
 simp only [h,decide_true,if_true]
 obtain ⟨e,he,hm⟩:=zo (l:=c.code) (i:=c.at_) h0 h
 have hb:=hc.by_ e hm
 have e2:w64 e.n=e.n:=vV (by omega) (by omega)
 simp only [he,Option.bind_some,e2]
 split
 exact ⟨_,_,rfl,hb.1,hb.2,hcur _⟩
 exact ⟨_,_,rfl,(ha _).1,(ha _).2,hcur _⟩
 simp only [h,decide_false,Bool.false_eq_true,if_false]
 split
 exact ⟨_,_,rfl,by omega,by omega,hcur _⟩
 exact ⟨_,_,rfl,(ha _).1,(ha _).2,hcur _⟩
theorem Cur.mono {c:L1CurP} {k k':Int} (hc:Cur c k) (h:k≤k'):Cur c k':=⟨hc.by_,hc.len,hc.lo,Int.le_trans hc.hi h⟩
theorem vr {fu:Nat} {c:L1CurP} {k:Int} (hc:Cur c k) (hk:k≤4611686018427387000) (n:Int) (hn:n≤1099511627776):∃ r c',ur fu c n=some (r,c')∧0≤r∧(1≤n→r<n)∧Cur c' (k + 2):=by
 unfold ur
 by_cases h:n≤1
 simp only [h,decide_true,if_true]
 exact ⟨_,_,rfl,by omega,by omega,hc.mono (by omega)⟩
 simp only [h,decide_false,Bool.false_eq_true,if_false]
 obtain ⟨r,c',g1,g2,g3,g4⟩:=gif (fu:=fu) hc (by omega)
 simp only [g1,Option.bind_some]
 have hr:∀ x:Int,0≤x→∃ q,rem x n=some q∧0≤q∧q<n:=fun x hx=>by
   unfold rem
   rw [if_neg (by omega),Int.tmod_eq_emod_of_nonneg hx]
   exact ⟨_,rfl,Int.emod_nonneg _ (by omega),Int.emod_lt_of_pos _ (by omega)⟩
 by_cases h2:n > 200
 simp only [h2,decide_true,if_true]
 obtain ⟨r2,c2,q1,q2,q3,q4⟩:=gif (fu:=fu) g4 (by omega)
 simp only [q1,Option.bind_some]
 rw [vV (n:=r * 256) (by omega) (by omega),vV (by omega) (by omega)]
 obtain ⟨q,p1,p2,p3⟩:=hr (r * 256 + r2) (by omega)
 rw [p1]
 exact ⟨_,_,rfl,p2,fun _=>p3,q4.mono (by omega)⟩
 simp only [h2,decide_false,Bool.false_eq_true,if_false]
 obtain ⟨q,p1,p2,p3⟩:=hr r g2
 rw [p1]
 exact ⟨_,_,rfl,p2,fun _=>p3,g4.mono (by omega)⟩
theorem ga7 {fu:Nat} {c:L1CurP} {k:Int} (hc:Cur c k) (hk:k≤4611686018427387000) (l:List Int) (h1:1≤l.length) (hn:l.length≤1099511627776):∃ r c',vf fu c l=some (r,c')∧r∈l∧Cur c' (k + 2):=by
 unfold vf
 obtain ⟨r,c',g1,g2,g3,g4⟩:=vr (fu:=fu) hc hk (l.length:Int) (by omega)
 obtain ⟨e,he,hm⟩:=zo (l:=l) (i:=r) g2 (g3 (by omega))
 simp only [g1,Option.bind_some,he]
 exact ⟨_,_,rfl,hm,g4⟩
theorem ghN {code:List By} (h:∀ e∈code,0≤e.n∧e.n≤255) (hl:code.length≤65536):Cur ⟨code,0,⟨0⟩⟩ 0:=⟨h,hl,Int.le_refl _,Int.le_refl _⟩
end AT
namespace AT
structure NetD (n:Network):Prop where
  n1:1≤n.Nodes.length
  n2:n.Nodes.length≤20
  ns:∀ e∈n.Nodes,e.size≤100
  f2:n.Fibers.length≤20
theorem NetD.B {n:Network} (h:NetD n):NetB n:=⟨⟨by have:=h.n2; omega,fun e he=>by have:=h.ns e he; omega⟩,by have:=h.f2; omega⟩
theorem gk6 {a n:Int} (ha:0≤a) (hn:0<n):∃ q,rem a n=some q∧0≤q∧q<n:=by
 unfold rem
 rw [if_neg (by omega),Int.tmod_eq_emod_of_nonneg ha]
 exact ⟨_,rfl,Int.emod_nonneg _ (by omega),Int.emod_lt_of_pos _ hn⟩
theorem app1 {α:Type} {l:List α} {x:α} (h:l.length≤1000000):app l [x]=some (l++[x]):=zz (by simp; omega)
theorem ggZ (fu:Nat) (a b:Int):∃ r,gad fu a b=some r∧(r=a∨r=b):=by
 unfold gad; split <;> exact ⟨_,rfl,by simp⟩
theorem gik (fu:Nat) (a b:Int):∃ r,gay fu a b=some r∧(r=a∨r=b):=by
 unfold gay; split <;> exact ⟨_,rfl,by simp⟩
theorem ghk {fu:Nat} (l:List Fiber) (f:Fiber) (hl:l.length≤1000000):∀ (fk i:Nat),i≤l.length→l.length - i<fk→∃ j:Nat,zh fu l f fk i=some (j:Int)∧j≤l.length:=by
 intro fk
 induction fk with
 | zero=>intro i _ h; omega
 | succ fk ih =>
   intro i hi hf
   rw [zh]
   by_cases h:i<l.length
   · have hlt:((i:Int)<(l.length:Int))=True:=by simp; omega
     simp only [hlt,decide_true,if_true,xa h,Option.bind_some,gep,xo h (show (l.length:Int)≤9223372036854775807 by omega)]
     split
     · exact ih (i + 1) h (by omega)
     · exact ⟨i,rfl,hi⟩
   · have hlt:((i:Int)<(l.length:Int))=False:=by simp; omega
     simp only [hlt,decide_false,Bool.false_eq_true,if_false,Option.bind_some]
     exact ⟨i,rfl,hi⟩
theorem gg0 {fu:Nat} (hfu:2097153≤fu) (l:List Fiber) (f:Fiber) (hl:l.length≤1000000):∃ r,gba fu l f=some r∧r.length=l.length + 1:=by
 unfold gba
 obtain ⟨j,h1,h2⟩:=ghk (fu:=fu) l f hl fu 0 (by omega) (by omega)
 have hs:sub l (j:Int) (l.length:Int)=some (l.drop j):=by
   unfold sub
   rw [if_pos (by omega)]
   simp
 rw [show ((0:Nat):Int)=0 from rfl] at h1
 rw [h1,Option.bind_some,gct h2,Option.bind_some,hs,Option.bind_some,gbC (by rw [List.length_take]; omega),Option.bind_some,zz (by rw [List.length_take,List.length_singleton]; omega),Option.bind_some,zz (by rw [List.length_append,List.length_take,List.length_singleton,List.length_drop]; omega),Option.bind_some]
 refine ⟨_,rfl,?_⟩
 simp only [List.length_append,List.length_take,List.length_singleton,List.length_drop]
 omega
theorem gih {fu:Nat} (hfu:2097153≤fu) (y:Int×L1CurP) (K:Nat) (hK:w64 (2 + y.1)=(K:Int)) (h2:2≤K) (h6:K≤6):∀ (fk i:Nat) (m:List By) (m2:Int) (m3:U64) (l:List Fiber) (k B:Int),Cur ⟨m,m2,m3⟩ k→k≤B + 10 * (i:Int)→B≤1000000000→l.length≤i→i≤K→K - i<fk →
    ∃ i' m' a' s' l',vj fu y fk i m m2 m3 l=some (i',m',a',s',l')∧l'.length≤K∧Cur ⟨m',a',s'⟩ (B + 10 * (K:Int)):=by
 intro fk
 induction fk with
 | zero=>intro i _ _ _ _ _ _ _ _ _ _ _ h; omega
 | succ fk ih =>
   intro i m m2 m3 l k B hc hk hB hl hi hf
   rw [vj,hK]
   by_cases h:i<K
   · have hlt:((i:Int)<(K:Int))=True:=by simp; omega
     have e:w64 ((i:Int) + 1)=((i + 1:Nat):Int):=xo h (by omega)
     obtain ⟨q,hq,q0,q1⟩:=gk6 (a:=((i + 1:Nat):Int)) (n:=(K:Int)) (by omega) (by omega)
     obtain ⟨r1,c1,g1,-,-,k1⟩:=vr (fu:=fu) hc (by omega) 10 (by decide)
     simp only [hlt,decide_true,if_true,e,hq,Option.bind_some,u3,g1]
     have k1':Cur ⟨c1.code,c1.at_,c1.seed⟩ (k + 2):=k1
     split
     · exact ih (i + 1) _ _ _ _ k B hc (by omega) hB (by omega) h (by omega)
     · split
       · exact ih (i + 1) _ _ _ _ (k + 2) B k1' (by omega) hB (by omega) h (by omega)
       · obtain ⟨r3,g3,-⟩:=ggZ fu (i:Int) q
         obtain ⟨r4,g4,-⟩:=gik fu (i:Int) q
         obtain ⟨r5,c5,g5,-,-,k5⟩:=vr (fu:=fu) k1 (by omega) 8 (by decide)
         obtain ⟨r6,c6,g6,-,k6⟩:=ga7 (fu:=fu) k5 (by omega) [0,0,0,1,2] (by decide) (by decide)
         obtain ⟨r7,g7,h7⟩:=gg0 hfu l ({ A:=r3,B:=r4,Length:=w64 (100 * (w64 (1 + r5))),Risk:=r6 }:Fiber) (by omega)
         simp only [g3,g4,g5,g6,g7,Option.bind_some]
         exact ih (i + 1) _ _ _ _ (k + 2 + 2 + 2) B k6 (by omega) hB (by omega) h (by omega)
   · obtain rfl:i=K:=by omega
     have hlt:((i:Int)<(i:Int))=False:=by simp
     simp only [hlt,decide_false,Bool.false_eq_true,if_false]
     exact ⟨_,_,_,_,_,rfl,hl,hc.mono (by omega)⟩
theorem gig {fu:Nat} (hfu:2097153≤fu) (y:Int×L1CurP) (K:Nat) (hK:w64 (2 + y.1)=(K:Int)) (h2:2≤K) (h6:K≤6):∀ (fk n:Nat) (l:List Fiber) (m:List By) (m2:Int) (m3:U64) (k B:Int),Cur ⟨m,m2,m3⟩ k→k≤B - 10 * (n:Int)→B≤1000000000→l.length + n≤9→n<fk →
    ∃ i' l' m' a' s',vz fu y fk (n:Int) l m m2 m3=some (i',l',m',a',s')∧l'.length≤9∧l.length≤l'.length∧Cur ⟨m',a',s'⟩ B:=by
 intro fk
 induction fk with
 | zero=>intro n _ _ _ _ _ _ _ _ _ _ h; omega
 | succ fk ih =>
   intro n l m m2 m3 k B hc hk hB hl hf
   rw [vz,hK]
   by_cases h:0<n
   · have hlt:((n:Int) > 0)=True:=by simp; omega
     have e:w64 ((n:Int) - 1)=((n - 1:Nat):Int):=gbb h (by omega)
     obtain ⟨r1,c1,g1,-,-,k1⟩:=vr (fu:=fu) hc (by omega) (K:Int) (by omega)
     obtain ⟨r2,c2,g2,-,-,k2⟩:=vr (fu:=fu) k1 (by omega) (K:Int) (by omega)
     simp only [hlt,decide_true,if_true,e,g1,g2,Option.bind_some]
     split
     · obtain ⟨r3,g3,-⟩:=ggZ fu r1 r2
       obtain ⟨r4,g4,-⟩:=gik fu r1 r2
       obtain ⟨r5,c5,g5,-,-,k5⟩:=vr (fu:=fu) k2 (by omega) 8 (by decide)
       obtain ⟨r6,c6,g6,-,k6⟩:=ga7 (fu:=fu) k5 (by omega) [0,0,0,1,2] (by decide) (by decide)
       obtain ⟨r7,g7,h7⟩:=gg0 hfu l ({ A:=r3,B:=r4,Length:=w64 (100 * (w64 (1 + r5))),Risk:=r6 }:Fiber) (by omega)
       simp only [g3,g4,g5,g6,g7,Option.bind_some]
       obtain ⟨i',l',m',a',s',q1,q2,q3,q4⟩:=ih (n - 1) r7 _ _ _ (k + 2 + 2 + 2 + 2) B k6 (by omega) hB (by omega) (by omega)
       exact ⟨i',l',m',a',s',q1,q2,by omega,q4⟩
     · exact ih (n - 1) _ _ _ _ (k + 2 + 2) B k2 (by omega) hB (by omega) (by omega)
   · obtain rfl:n=0:=by omega
     rw [if_neg (by simp)]
     exact ⟨_,_,_,_,_,rfl,by omega,Nat.le_refl _,hc.mono (by omega)⟩
theorem ge1 {fu:Nat} (hfu:2097153≤fu) {c:L1CurP} {k:Int} (hc:Cur c k) (hk:k≤900000000):∃ r c',xJ fu c=some (r,c')∧NetD r∧r.Nodes.length≤6∧r.Fibers.length≤9∧Cur c' (k + 200):=by
 unfold xJ
 obtain ⟨r1,c1,g1,p0,p1,k1⟩:=vr (fu:=fu) hc (by omega) 5 (by decide)
 have p2:=p1 (by decide)
 have hK:w64 (2 + r1)=(((2 + r1).toNat:Nat):Int):=by rw [vV (by omega) (by omega)]; omega
 have hK2:2≤(2 + r1).toNat:=by omega
 have hK6:(2 + r1).toNat≤6:=by omega
 obtain ⟨i2,m2,a2,s2,l2,g2,h2,k2⟩:=gih hfu (r1,c1) (2 + r1).toNat hK hK2 hK6 fu 0 c1.code c1.at_ c1.seed [] (k + 2) (k + 2) k1 (by omega) (by omega) (by simp) (by omega) (by omega)
 obtain ⟨r3,c3,g3,q0,q1,k3⟩:=vr (fu:=fu) k2 (by omega) 4 (by decide)
 have q2:=q1 (by decide)
 obtain ⟨i4,l4,m4,a4,s4,g4,h4,-,k4⟩:=gig hfu (r1,c1) (2 + r1).toNat hK hK2 hK6 fu r3.toNat l2 c3.code c3.at_ c3.seed (k + 2 + 10 * ((2 + r1).toNat:Int) + 2) (k + 200) k3 (by omega) (by omega) (by omega) (by omega)
 rw [Int.ofNat_zero] at g2
 rw [Int.toNat_of_nonneg q0] at g4
 simp only [g1,Option.bind_some,hK]
 rw [gct (by simp; omega)]
 simp only [g2,g3,g4,Option.bind_some]
 refine ⟨_,_,rfl,⟨by simp; omega,by simp; omega,fun e he=>?_,by simp only; omega⟩,by simp; omega,h4,k4⟩
 have he':=List.mem_of_mem_take he
 simp only [List.mem_cons,List.not_mem_nil,or_false] at he'
 rcases he' with rfl | rfl | rfl | rfl | rfl | rfl <;> decide
theorem gfW {fu:Nat} (hfu:2097153≤fu) {c:L1CurP} {k:Int} (hc:Cur c k) (hk:k≤900000000):∃ r c',yf fu c=some (r,c')∧NetD r∧1≤r.Fibers.length∧Cur c' (k + 200):=by
 unfold yf
 obtain ⟨r,c',g1,h1,h2,h3,k1⟩:=ge1 hfu hc hk
 simp only [g1,Option.bind_some]
 split
 rename_i h
 have h0:r.Fibers.length=0:=by simpa using h
 rw [app1 (by omega)]
 exact ⟨_,_,rfl,⟨h1.n1,h1.n2,h1.ns,by simp; omega⟩,by simp,k1⟩
 rename_i h
 have h0:r.Fibers.length≠0:=by simpa using h
 exact ⟨_,_,rfl,h1,by omega,k1⟩
theorem ggr {fu:Nat} (hfu:2097153≤fu) (n:Network) (y:Int×L1CurP) (seen:List Int) (hn:n.Fibers.length≤1000000) (h1:1≤seen.length) (h2:seen.length≤1000000):∀ (fk i:Nat) (o:List Int),i≤n.Fibers.length→n.Fibers.length - i<fk→o.length≤i→(∀ e∈o,0≤e∧e<(n.Fibers.length:Int)) →
    ∃ l i',vp fu n y seen fk o i=some (l,i')∧l.length≤n.Fibers.length∧∀ e∈l,0≤e∧e<(n.Fibers.length:Int):=by
 intro fk
 induction fk with
 | zero=>intro i _ _ h; omega
 | succ fk ih =>
   intro i o hi hf ho hr
   rw [vp]
   by_cases h:i<n.Fibers.length
   · have hlt:((i:Int)<(n.Fibers.length:Int))=True:=by simp; omega
     have e1:w64 ((seen.length:Int) - 1)=((seen.length - 1:Nat):Int):=by rw [vV (by omega) (by omega)]; omega
     have hh:∀ v,zL fu seen v=some (seen.any fun x=>x==v):=fun v=>gd9 seen v (by omega) (by omega)
     have ha:app o [(i:Int)]=some (o++[(i:Int)]):=app1 (by omega)
     simp only [hlt,decide_true,if_true,e1,xa (show seen.length - 1<seen.length by omega),Option.bind_some,gdA fu n i _ h,hh,ha,xo h (show (n.Fibers.length:Int)≤9223372036854775807 by omega)]
     have two:∀ b:Bool,∃ l i',(if b=true then vp fu n y seen fk (o++[(i:Int)]) ((i + 1:Nat):Int) else vp fu n y seen fk o ((i + 1:Nat):Int))=some (l,i')∧l.length≤n.Fibers.length∧∀ e∈l,0≤e∧e<(n.Fibers.length:Int):=by
       intro b
       cases b
       · exact ih (i + 1) o h (by omega) (by omega) hr
       · refine ih (i + 1) _ h (by omega) (by simp; omega) fun e he=>?_
         rcases List.mem_append.1 he with he | he
         · exact hr e he
         · simp only [List.mem_singleton] at he
           omega
     split
     · exact two _
     · exact two false
   · obtain rfl:i=n.Fibers.length:=by omega
     rw [if_neg (by simp)]
     exact ⟨_,_,rfl,ho,hr⟩
theorem ggs {fu:Nat} (hfu:2097153≤fu) (n:Network) (y:Int×L1CurP) (hn:n.Fibers.length≤1000):∀ (fk m:Nat) (seen l:List Int) (b:List By) (a:Int) (s:U64) (k B:Int),Cur ⟨b,a,s⟩ k→k≤B - 2 * (m:Int)→B≤1000000000→1≤seen.length→seen.length + m≤1000→l.length + m≤4→(∀ e∈l,0≤e∧e<(n.Fibers.length:Int))→m<fk →
    ∃ s2 m2 l' b' a' s',xd fu n y fk seen (m:Int) l b a s=some (s2,m2,l',b',a',s')∧l'.length≤4∧(∀ e∈l',0≤e∧e<(n.Fibers.length:Int))∧Cur ⟨b',a',s'⟩ B:=by
 intro fk
 induction fk with
 | zero=>intro m _ _ _ _ _ _ _ _ _ _ _ _ _ _ h; omega
 | succ fk ih =>
   intro m seen l b a s k B hc hk hB hs1 hs2 hl hr hf
   rw [xd]
   by_cases h:0<m
   · have hlt:((m:Int) > 0)=True:=by simp; omega
     have e:w64 ((m:Int) - 1)=((m - 1:Nat):Int):=gbb h (by omega)
     obtain ⟨z,zi,g1,z1,z2⟩:=ggr hfu n y seen (by omega) hs1 (by omega) fu 0 [] (by omega) (by omega) (by simp) (by simp)
     rw [Int.ofNat_zero] at g1
     have e1:w64 ((seen.length:Int) - 1)=((seen.length - 1:Nat):Int):=by rw [vV (by omega) (by omega)]; omega
     simp only [hlt,decide_true,if_true,e,g1,Option.bind_some]
     by_cases hz:z.length=0
     · have hz':((z.length:Int)==0)=true:=by simp [hz]
       simp only [hz',if_true]
       exact ⟨_,_,_,_,_,_,rfl,by omega,hr,hc.mono (by omega)⟩
     · have hz':((z.length:Int)==0)=false:=by simpa using hz
       obtain ⟨r1,c1,g2,p0,p1,k1⟩:=vr (fu:=fu) hc (by omega) (z.length:Int) (by omega)
       obtain ⟨x,hx,hxm⟩:=zo (l:=z) (i:=r1) p0 (p1 (by omega))
       obtain ⟨x0,x1⟩:=z2 x hxm
       have hxn:x=((x.toNat:Nat):Int):=by omega
       have ho:∀ v,yz fu n x v=some (oth (gd n.Fibers x.toNat f0) v):=fun v=>by
         have:=gdA fu n x.toNat v (by omega)
         rwa [←hxn] at this
       simp only [hz',Bool.false_eq_true,if_false,g2,Option.bind_some,hx,e1,xa (show seen.length - 1<seen.length by omega),ho,app1 (show l.length≤1000000 by omega),app1 (show seen.length≤1000000 by omega)]
       refine ih (m - 1) _ _ _ _ _ (k + 2) B k1 (by omega) hB (by simp) (by simp; omega) (by simp; omega) (fun q hq=>?_) (by omega)
       rcases List.mem_append.1 hq with hq | hq
       · exact hr q hq
       · simp only [List.mem_singleton] at hq
         omega
   · obtain rfl:m=0:=by omega
     rw [if_neg (by simp)]
     exact ⟨_,_,_,_,_,_,rfl,by omega,hr,hc.mono (by omega)⟩
theorem ggS {fu:Nat} (hfu:2097153≤fu) {c:L1CurP} {k:Int} (hc:Cur c k) (hk:k≤900000000) {n:Network} (hn:n.Fibers.length≤1000) (hm:n.Nodes.length≤1000):∃ r c',yv fu c n=some (r,c')∧r.Fibers.length≤4∧(∀ e∈r.Fibers,0≤e∧e<(n.Fibers.length:Int))∧Cur c' (k + 20):=by
 unfold yv
 obtain ⟨r1,c1,g1,-,-,k1⟩:=vr (fu:=fu) hc (by omega) (n.Nodes.length:Int) (by omega)
 obtain ⟨r2,c2,g2,p0,p1,k2⟩:=vr (fu:=fu) k1 (by omega) 4 (by decide)
 have p2:=p1 (by decide)
 have e:w64 (1 + r2)=(((1 + r2).toNat:Nat):Int):=by rw [vV (by omega) (by omega)]; omega
 obtain ⟨s3,m3,l3,b3,a3,t3,g3,h3,h4,k3⟩:=ggs hfu n (r1,c1) hn fu (1 + r2).toNat [r1] [] c2.code c2.at_ c2.seed (k + 2 + 2) (k + 20) k2 (by omega) (by omega) (by simp) (by simp; omega) (by simp; omega) (by simp) (by omega)
 simp only [g1,g2,Option.bind_some,e,g3]
 exact ⟨_,_,rfl,h3,h4,k3⟩
theorem gfJ {fu:Nat} (hfu:2097153≤fu) {c:L1CurP} {k:Int} (hc:Cur c k) (hk:k≤900000000) {n:Network} (h1:1≤n.Fibers.length) (hn:n.Fibers.length≤1000) (hm:n.Nodes.length≤1000):∃ r c',ye fu c n=some (r,c')∧1≤r.Fibers.length∧r.Fibers.length≤4∧(∀ e∈r.Fibers,0≤e∧e<(n.Fibers.length:Int))∧Cur c' (k + 20):=by
 unfold ye
 obtain ⟨r,c',g1,h2,h3,k1⟩:=ggS hfu hc hk hn hm
 simp only [g1,Option.bind_some]
 split
 obtain ⟨e,he,-⟩:=zo (l:=n.Fibers) (i:=0) (Int.le_refl _) (by omega)
 rw [he]
 exact ⟨_,_,rfl,by simp,by simp,by simp; omega,k1⟩
 rename_i h
 have h0:r.Fibers.length≠0:=by simpa using h
 exact ⟨_,_,rfl,by omega,h2,h3,k1⟩
theorem gc4 {fu:Nat} (hfu:2097153≤fu) {c:L1CurP} {k:Int} (hc:Cur c k) (hk:k≤900000000) {n:Network} (hn:n.Fibers.length≤1000) (hm:n.Nodes.length≤1000):∃ r c',xf fu c n=some (r,c')∧r.Fibers.length≤5∧Cur c' (k + 30):=by
 unfold xf
 obtain ⟨r,c1,g1,h1,-,k1⟩:=ggS hfu hc hk hn hm
 obtain ⟨r2,c2,g2,-,-,k2⟩:=vr (fu:=fu) k1 (by omega) 16 (by decide)
 obtain ⟨r3,c3,g3,-,-,k3⟩:=vr (fu:=fu) k2 (by omega) 8 (by decide)
 simp only [g1,g2,g3,Option.bind_some,app1 (show r.Fibers.length≤1000000 by omega)]
 split
 exact ⟨_,_,rfl,by simp only; omega,k3.mono (by omega)⟩
 split
 exact ⟨_,_,rfl,by simp; omega,k3.mono (by omega)⟩
 split
 exact ⟨_,_,rfl,by simp,k2.mono (by omega)⟩
 split
 split
 rename_i h
 have h0:(1:Int)<r.Fibers.length:=by simpa using h
 have e1:w64 ((r.Fibers.length:Int) - 1)=((r.Fibers.length - 1:Nat):Int):=by rw [vV (by omega) (by omega)]; omega
 simp only [e1,xa (show r.Fibers.length - 1<r.Fibers.length by omega),Option.bind_some,app1 (show r.Fibers.length≤1000000 by omega)]
 exact ⟨_,_,rfl,by simp; omega,k2.mono (by omega)⟩
 exact ⟨_,_,rfl,by omega,k2.mono (by omega)⟩
 exact ⟨_,_,rfl,by omega,k2.mono (by omega)⟩
theorem gfv {fu:Nat} {c:L1CurP} {k:Int} (hc:Cur c k) (hk:k≤900000000):∃ r c',xK fu c=some (r,c')∧Cur c' (k + 10):=by
 unfold xK u3
 obtain ⟨r1,c1,g1,-,-,k1⟩:=vr (fu:=fu) hc (by omega) 12 (by decide)
 obtain ⟨r2,c2,g2,-,-,k2⟩:=vr (fu:=fu) k1 (by omega) 26 (by decide)
 obtain ⟨r3,c3,g3,-,-,k3⟩:=vr (fu:=fu) k2 (by omega) 27 (by decide)
 obtain ⟨r4,c4,g4,p0,p1,k4⟩:=vr (fu:=fu) k1 (by omega) 6 (by decide)
 have p2:=p1 (by decide)
 obtain ⟨r5,c5,g5,-,-,k5⟩:=vr (fu:=fu) k4 (by omega) (w64 ((w64 (24 - (w64 (1 + r4)))) + 1)) (by
   rw [vV (n:=1 + r4) (by omega) (by omega),vV (n:=24 - (1 + r4)) (by omega) (by omega),vV (by omega) (by omega)]; omega)
 simp only [g1,g2,g3,g4,g5,Option.bind_some]
 split
 exact ⟨_,_,rfl,k3.mono (by omega)⟩
 exact ⟨_,_,rfl,k5.mono (by omega)⟩
theorem glD {fu:Nat} {c:L1CurP} {k:Int} (hc:Cur c k) (hk:k≤4611686018427387000) (l:List ByteArray) (h1:1≤l.length) (hn:l.length≤1099511627776):∃ r c',gaj fu c l=some (r,c')∧r∈l∧Cur c' (k + 2):=by
 unfold gaj
 obtain ⟨r,c',g1,g2,g3,g4⟩:=vr (fu:=fu) hc hk (l.length:Int) (by omega)
 obtain ⟨e,he,hm⟩:=zo (l:=l) (i:=r) g2 (g3 (by omega))
 simp only [g1,Option.bind_some,he]
 exact ⟨_,_,rfl,hm,g4⟩
theorem ggG {fu:Nat}:∀ (fk:Nat) (l:List Fiber) (b:List By) (a:Int) (s:U64) (k B:Int),Cur ⟨b,a,s⟩ k→k≤B + 2 * (l.length:Int)→B≤1000000000→1≤l.length→l.length≤15→15 - l.length<fk →
    ∃ l' b' a' s',vx fu fk l b a s=some (l',b',a',s')∧l'.length≤15∧Cur ⟨b',a',s'⟩ (B + 50):=by
 intro fk
 induction fk with
 | zero=>intro l _ _ _ _ _ _ _ _ _ _ h; omega
 | succ fk ih =>
   intro l b a s k B hc hk hB h1 h2 hf
   rw [vx]
   obtain ⟨r1,c1,g1,p0,p1,k1⟩:=vr (fu:=fu) hc (by omega) 2 (by decide)
   have p2:=p1 (by decide)
   have e:w64 (14 + r1)=14 + r1:=vV (by omega) (by omega)
   have e1:w64 ((l.length:Int) - 1)=((l.length - 1:Nat):Int):=by rw [vV (by omega) (by omega)]; omega
   simp only [g1,Option.bind_some,e,e1,xa (show l.length - 1<l.length by omega),app1 (show l.length≤1000000 by omega)]
   split
   · rename_i h
     have h':(l.length:Int)<14 + r1:=by simpa using h
     exact ih _ _ _ _ (k + 2) B k1 (by simp; omega) hB (by simp) (by simp; omega) (by simp; omega)
   · exact ⟨_,_,_,_,rfl,h2,k1.mono (by omega)⟩
theorem gfx {fu:Nat} (hfu:2097153≤fu) {c:L1CurP} {k:Int} (hc:Cur c k) (hk:k≤800000000):∃ r c',xG fu c=some (r,c')∧NetD r∧Cur c' (k + 500):=by
 unfold xG
 obtain ⟨n,c1,g1,h1,h2,h3,k1⟩:=ge1 hfu hc (by omega)
 simp only [g1,Option.bind_some]
 by_cases h:n.Fibers.length=0
 have h':((n.Fibers.length:Int)==0)=true:=by simp [h]
 simp only [h',if_true]
 exact ⟨_,_,rfl,h1,k1.mono (by omega)⟩
 have h':((n.Fibers.length:Int)==0)=false:=by simpa using h
 obtain ⟨r2,c2,g2,p0,p1,k2⟩:=vr (fu:=fu) k1 (by omega) (n.Fibers.length:Int) (by omega)
 have p2:=p1 (by omega)
 obtain ⟨e,he,-⟩:=zo (l:=n.Fibers) (i:=r2) p0 p2
 obtain ⟨r3,c3,g3,-,-,k3⟩:=vr (fu:=fu) k2 (by omega) 24 (by decide)
 obtain ⟨r4,c4,g4,m4,k4⟩:=glD (fu:=fu) k3 (by omega) [(⟨#[98]⟩:ByteArray),ByteArray.empty,(⟨#[65]⟩:ByteArray),(⟨#[97,98,99,100,101,102,103,104]⟩:ByteArray),(⟨#[97,98,99,100,101,102,103,104,105]⟩:ByteArray),(⟨#[120,49]⟩:ByteArray)] (by simp) (by simp)
 obtain ⟨r5,c5,g5,-,-,k5⟩:=vr (fu:=fu) k3 (by omega) 8 (by decide)
 obtain ⟨r6,c6,g6,-,-,k6⟩:=vr (fu:=fu) k3 (by omega) 10 (by decide)
 obtain ⟨r7,c7,g7,-,k7⟩:=ga7 (fu:=fu) k3 (by omega) [0,1,5000,5001] (by decide) (by decide)
 obtain ⟨r8,c8,g8,-,k8⟩:=ga7 (fu:=fu) k3 (by omega) [(-1),9,10] (by decide) (by decide)
 obtain ⟨e0,he0,-⟩:=zo (l:=n.Fibers) (i:=0) (Int.le_refl _) (by omega)
 obtain ⟨v0,hv0,-⟩:=zo (l:=n.Nodes) (i:=0) (Int.le_refl _) (by have:=h1.n1; omega)
 obtain ⟨l9,b9,a9,s9,g9,h9,k9⟩:=ggG (fu:=fu) fu n.Fibers c3.code c3.at_ c3.seed (k + 200 + 2 + 2) (k + 204) k3 (by omega) (by omega) (by omega) (by omega) (by omega)
 have hfs:∀ f:Fiber,NetD ⟨n.Nodes,n.Fibers.set r2.toNat f⟩:=fun f=>⟨h1.n1,h1.n2,h1.ns,by simp only [List.length_set]; exact h1.f2⟩
 have ha:=app1 (x:=e0) (show n.Fibers.length≤1000000 by omega)
 obtain ⟨e9,he9,-⟩:=zo (l:=n.Fibers++[e0]) (i:=r2) p0 (by simp; omega)
 have hn4:app n.Nodes [(⟨#[112]⟩:ByteArray),(⟨#[113]⟩:ByteArray),(⟨#[114]⟩:ByteArray),(⟨#[115]⟩:ByteArray)]=some (n.Nodes++[(⟨#[112]⟩:ByteArray),(⟨#[113]⟩:ByteArray),(⟨#[114]⟩:ByteArray),(⟨#[115]⟩:ByteArray)]):=zz (by simp; omega)
 simp only [h',Bool.false_eq_true,if_false,g2,g3,g4,g5,g6,g7,g8,g9,he,he0,hv0,ha,he9,hn4,Option.bind_some]
 split
 refine ⟨_,_,rfl,⟨by simp only [List.length_set]; exact h1.n1,by simp only [List.length_set]; exact h1.n2,fun z hz=>?_,by simp only [List.length_set]; exact h1.f2⟩,k4.mono (by omega)⟩
 rcases List.mem_or_eq_of_mem_set hz with hz | rfl
 exact h1.ns z hz
 simp only [List.mem_cons,List.not_mem_nil,or_false] at m4
 rcases m4 with rfl | rfl | rfl | rfl | rfl | rfl <;> decide
 split
 exact ⟨_,_,rfl,hfs _,k5.mono (by omega)⟩
 split
 exact ⟨_,_,rfl,hfs _,k6.mono (by omega)⟩
 split
 exact ⟨_,_,rfl,hfs _,k7.mono (by omega)⟩
 split
 exact ⟨_,_,rfl,hfs _,k8.mono (by omega)⟩
 split
 exact ⟨_,_,rfl,⟨h1.n1,h1.n2,h1.ns,by simp; omega⟩,k3.mono (by omega)⟩
 split
 exact ⟨_,_,rfl,⟨h1.n1,h1.n2,h1.ns,by simp only; omega⟩,k9.mono (by omega)⟩
 split
 refine ⟨_,_,rfl,⟨by simp,by simp; omega,fun z hz=>?_,by simp only [List.length_set]; exact h1.f2⟩,k3.mono (by omega)⟩
 rcases List.mem_append.1 hz with hz | hz
 exact h1.ns z hz
 simp only [List.mem_cons,List.not_mem_nil,or_false] at hz
 rcases hz with rfl | rfl | rfl | rfl <;> decide
 exact ⟨_,_,rfl,hfs _,k3.mono (by omega)⟩
end AT
namespace AT
structure PlanD (p:Plan):Prop where
  net:NetD p.Network
  ls:p.Lights.length≤20
  rs:∀ x∈p.Lights,x.Route.Fibers.length≤20
theorem PlanD.B {p:Plan} (h:PlanD p):yS p:=⟨h.net.B,by have:=h.ls; omega,fun x hx=>by have:=h.rs x hx; omega⟩
theorem gjr (fu:Nat) (r:Route) (h:r.Fibers.length≤2097152):gaw fu r=some r:=by
 unfold gaw gac
 rw [gbC (by omega)]
 rfl
theorem gh7 {fu:Nat} (hfu:2097153≤fu) (ns:List ByteArray) (fs:List Fiber) (hn:NetD ⟨ns,fs⟩) (h1:1≤fs.length):∀ (fk n:Nat) (L:List Light) (b:List By) (a:Int) (s:U64) (k B:Int),Cur ⟨b,a,s⟩ k→k≤B - 50 * (n:Int)→B≤800000000→L.length + n≤8→(∀ y∈L,gbA y.Block=true)→(∀ y∈L,y.Route.Fibers.length≤4)→n<fk →
    ∃ n' L' b' a' s',vy fu fk (n:Int) ns fs L b a s=some (n',ns,fs,L',b',a',s')∧L'.length≤8∧(∀ y∈L',y.Route.Fibers.length≤4)∧Cur ⟨b',a',s'⟩ B:=by
 intro fk
 induction fk with
 | zero=>intro n _ _ _ _ _ _ _ _ _ _ _ _ h; omega
 | succ fk ih =>
   intro n L b a s k B hc hk hB hl hb hr hf
   rw [vy]
   have f2:=hn.f2
   have n2:=hn.n2
   simp only at f2 n2
   by_cases h:0<n
   · have hlt:((n:Int) > 0)=True:=eq_true (by omega)
     have e:w64 ((n:Int) - 1)=((n - 1:Nat):Int):=gbb h (by omega)
     obtain ⟨r3,c3,g3,q1,q2,q3,k3⟩:=gfJ hfu hc (by omega) (n:=⟨ns,fs⟩) h1 (by simp only; omega) (by simp only; omega)
     obtain ⟨r4,c4,g4,p0,p1,k4⟩:=vr (fu:=fu) k3 (by omega) 5 (by decide)
     have p2:=p1 (by decide)
     have e4:w64 (1 + r4)=1 + r4:=vV (by omega) (by omega)
     have hal:=ghj hfu (⟨⟨ns,fs⟩,L⟩:Plan) r3 (by simp only; omega) hb (fun x hx=>by have:=hr x hx; omega) (by omega)
     have hfi:=fun m=>gir hfu m (1 + r4) (by omega) (by omega)
     simp only [hlt,decide_true,if_true,e,g3,g4,Option.bind_some,hal,e4,hfi]
     obtain ⟨F,hF⟩:∃ F,F=fits (along L r3.Fibers) (1 + r4):=⟨_,rfl⟩
     simp only [←hF]
     have hm:∀ t∈F,gbA ⟨t,1 + r4⟩=true:=fun t ht=>by
       rw [hF,gjt (by omega) (by omega)] at ht
       unfold gbA
       simp only [Bool.and_eq_true,decide_eq_true_eq]
       omega
     by_cases hz:F.length=0
     · have hz':((F.length:Int) > 0)=False:=eq_false (by omega)
       simp only [hz',decide_false,Bool.false_eq_true,if_false]
       exact ih (n - 1) L _ _ _ (k + 20 + 2) B k4 (by omega) hB (by omega) hb hr (by omega)
     · have hz':((F.length:Int) > 0)=True:=eq_true (by omega)
       obtain ⟨e0,he0,hm0⟩:=zo (l:=F) (i:=0) (Int.le_refl _) (by omega)
       obtain ⟨r5,c5,g5,-,-,k5⟩:=vr (fu:=fu) k4 (by omega) 2 (by decide)
       have hFl:F.length≤25:=by rw [hF]; exact gju _ _
       obtain ⟨r6,c6,g6,p6,p7,k6⟩:=vr (fu:=fu) k5 (by omega) (F.length:Int) (by omega)
       obtain ⟨e1,he1,hm1⟩:=zo (l:=F) (i:=r6) p6 (p7 (by omega))
       obtain ⟨r7,c7,g7,-,-,k7⟩:=vr (fu:=fu) k6 (by omega) 3 (by decide)
       obtain ⟨r8,c8,g8,-,-,k8⟩:=vr (fu:=fu) k5 (by omega) 3 (by decide)
       have hput:∀ x:Light,x.Route=r3→yW fu (⟨⟨ns,fs⟩,L⟩:Plan) x=some (addP ⟨⟨ns,fs⟩,L⟩ x):=fun x hx=>gfm hfu _ x ⟨hn.B,by simp only; omega,fun y hy=>by have:=hr y hy; omega⟩ (by rw [hx]; omega)
       simp only [hz',decide_true,if_true,he0,u3,g5,g6,he1,g7,g8,Option.bind_some]
       have step:∀ (x:Light) (c:L1CurP) (k':Int),x.Route=r3→gbA x.Block=true→Cur c k'→k'≤k + 30→∃ n' L' b' a' s',((yW fu (⟨⟨ns,fs⟩,L⟩:Plan) x).bind fun y=>vy fu fk ((n - 1:Nat):Int) y.Network.Nodes y.Network.Fibers y.Lights c.code c.at_ c.seed)=some (n',ns,fs,L',b',a',s')∧L'.length≤8∧(∀ y∈L',y.Route.Fibers.length≤4)∧Cur ⟨b',a',s'⟩ B:=by
         intro x c k' hx hb' hc' hk'
         rw [hput x hx,Option.bind_some]
         refine ih (n - 1) (putL L x) _ _ _ k' B hc' (by omega) hB (by rw [ggV]; omega) (fun y hy=>?_) (fun y hy=>?_) (by omega)
         · rcases gdf.1 hy with rfl | hy
           · exact hb'
           · exact hb y hy
         · rcases gdf.1 hy with rfl | hy
           · rw [hx]; omega
           · exact hr y hy
       split
       · exact step _ c7 _ rfl (hm _ hm1) k7 (by omega)
       · exact step _ c8 _ rfl (hm _ hm0) k8 (by omega)
   · obtain rfl:n=0:=by omega
     rw [if_neg (by simp)]
     exact ⟨_,_,_,_,_,rfl,by omega,hr,hc.mono (by omega)⟩
theorem ggu {fu:Nat} (hfu:2097153≤fu) {c:L1CurP} {k:Int} (hc:Cur c k) (hk:k≤700000000):∃ r c',yo fu c=some (r,c')∧PlanD r∧r.Lights.length≤8∧1≤r.Network.Fibers.length∧(∀ x∈r.Lights,x.Route.Fibers.length≤4)∧Cur c' (k + 1000):=by
 unfold yo
 obtain ⟨n,c1,g1,h1,h2,k1⟩:=gfW hfu hc (by omega)
 obtain ⟨r2,c2,g2,p0,p1,k2⟩:=vr (fu:=fu) k1 (by omega) 9 (by decide)
 have p2:=p1 (by decide)
 obtain ⟨n',L',b',a',s',g3,h3,h4,k3⟩:=gh7 hfu n.Nodes n.Fibers h1 h2 fu r2.toNat [] c2.code c2.at_ c2.seed (k + 200 + 2) (k + 1000) k2 (by omega) (by omega) (by simp; omega) (by simp) (by simp) (by omega)
 rw [Int.toNat_of_nonneg p0] at g3
 simp only [g1,g2,g3,Option.bind_some]
 exact ⟨_,_,rfl,⟨h1,by simp only; omega,fun x hx=>by have:=h4 x hx; omega⟩,h3,h2,h4,k3⟩
theorem ggg {fu:Nat} (y:Plan×L1CurP) (h1:1≤y.1.Network.Fibers.length):∀ (fk n:Nat) (L:List Light) (b:List By) (a:Int) (s:U64) (k B:Int),Cur ⟨b,a,s⟩ k→k≤B + 2 * (n:Int)→B≤800000000→n≤14→L.length≤13→(∀ y∈L,y.Route.Fibers.length≤20)→15 - n<fk →
    ∃ n' L' b' a' s',vM fu y fk (n:Int) L b a s=some (n',L',b',a',s')∧L'.length≤13∧(∀ y∈L',y.Route.Fibers.length≤20)∧Cur ⟨b',a',s'⟩ (B + 60):=by
 intro fk
 induction fk with
 | zero=>intro n _ _ _ _ _ _ _ _ _ _ _ _ h; omega
 | succ fk ih =>
   intro n L b a s k B hc hk hB hn hl hr hf
   rw [vM]
   obtain ⟨r1,c1,g1,p0,p1,k1⟩:=vr (fu:=fu) hc (by omega) 2 (by decide)
   have p2:=p1 (by decide)
   have e:w64 (12 + r1)=12 + r1:=vV (by omega) (by omega)
   have e1:w64 ((n:Int) + 1)=((n + 1:Nat):Int):=by rw [vV (by omega) (by omega)]; omega
   obtain ⟨e0,he0,-⟩:=zo (l:=y.1.Network.Fibers) (i:=0) (Int.le_refl _) (by omega)
   have ha:∀ x:Light,app L [x]=some (L++[x]):=fun x=>app1 (by omega)
   simp only [g1,Option.bind_some,e,e1,he0,ha]
   split
   · rename_i h
     have h':(L.length:Int)<12 + r1:=by simpa using h
     split
     · rename_i h3
       have h3':(n:Int)<14:=by simpa using h3
       refine ih (n + 1) _ _ _ _ (k + 2) B k1 (by omega) hB (by omega) (by simp; omega) (fun x hx=>?_) (by omega)
       rcases List.mem_append.1 hx with hx | hx
       · exact hr x hx
       · simp only [List.mem_singleton] at hx; subst hx; simp
     · exact ⟨_,_,_,_,_,rfl,hl,hr,k1.mono (by omega)⟩
   · exact ⟨_,_,_,_,_,rfl,hl,hr,k1.mono (by omega)⟩
theorem ghA {fu:Nat} (hfu:2097153≤fu) {c:L1CurP} {k:Int} (hc:Cur c k) (hk:k≤600000000):∃ r c',yC fu c=some (r,c')∧PlanD r∧Cur c' (k + 3000):=by
 unfold yC
 obtain ⟨p,c1,g1,h1,h2,h3,h4,k1⟩:=ggu hfu hc (by omega)
 simp only [g1,Option.bind_some]
 by_cases h:p.Lights.length=0
 have h':((p.Lights.length:Int)==0)=true:=by simp [h]
 simp only [h',if_true]
 exact ⟨_,_,rfl,h1,k1.mono (by omega)⟩
 have h':((p.Lights.length:Int)==0)=false:=by simpa using h
 obtain ⟨r2,c2,g2,p0,p1,k2⟩:=vr (fu:=fu) k1 (by omega) (p.Lights.length:Int) (by omega)
 have p2:=p1 (by omega)
 obtain ⟨e,he,hem⟩:=zo (l:=p.Lights) (i:=r2) p0 p2
 obtain ⟨r3,c3,g3,-,-,k3⟩:=vr (fu:=fu) k2 (by omega) 24 (by decide)
 obtain ⟨r4,c4,g4,-,k4⟩:=ga7 (fu:=fu) k3 (by omega) [0,999,1000,1,4] (by decide) (by decide)
 obtain ⟨r5,c5,g5,k5⟩:=gfv (fu:=fu) k3 (by omega)
 obtain ⟨r6,c6,g6,h6,k6⟩:=gc4 hfu k3 (by omega) (n:=p.Network) (by have:=h1.net.f2; omega) (by have:=h1.net.n2; omega)
 obtain ⟨r7,c7,g7,h7,k7⟩:=gfx hfu k3 (by omega)
 obtain ⟨n8,L8,b8,a8,s8,g8,l8,m8,k8⟩:=ggg (fu:=fu) (p,c1) h3 fu 0 p.Lights c3.code c3.at_ c3.seed (k + 1000 + 2 + 2) (k + 1010) k3 (by omega) (by omega) (by omega) (by omega) (fun x hx=>by have:=h4 x hx; omega) (by omega)
 rw [Int.ofNat_zero] at g8
 have hr:=h4 e hem
 have hset:∀ (x:Light),x.Route.Fibers.length≤5→PlanD ⟨p.Network,p.Lights.set r2.toNat x⟩:=fun x hx=>⟨h1.net,by simp only [List.length_set]; omega,fun y hy=>by
   rcases List.mem_or_eq_of_mem_set hy with hy | rfl
   · have:=h4 y hy; omega
   · omega⟩
 have ha:app p.Lights [e]=some (p.Lights++[e]):=app1 (by omega)
 obtain ⟨e9,he9,-⟩:=zo (l:=p.Lights++[e]) (i:=r2) p0 (by simp; omega)
 simp only [h',Bool.false_eq_true,if_false,g2,g3,g4,g5,g6,g7,g8,he,ha,he9,Option.bind_some]
 split
 exact ⟨_,_,rfl,hset _ (by simp only; omega),k4.mono (by omega)⟩
 split
 exact ⟨_,_,rfl,hset _ (by simp only; omega),k5.mono (by omega)⟩
 split
 exact ⟨_,_,rfl,hset _ (by simp only; omega),k6.mono (by omega)⟩
 split
 refine ⟨_,_,rfl,⟨h1.net,by simp; omega,fun y hy=>?_⟩,k3.mono (by omega)⟩
 rcases List.mem_or_eq_of_mem_set hy with hy | rfl
 rcases List.mem_append.1 hy with hy | hy
 have:=h4 y hy; omega
 simp only [List.mem_singleton] at hy; subst hy; omega
 omega
 split
 exact ⟨_,_,rfl,⟨h7,by simp only [List.length_set]; omega,(hset e (by omega)).rs⟩,k7.mono (by omega)⟩
 split
 exact ⟨_,_,rfl,⟨h1.net,by simp only; omega,m8⟩,k8.mono (by omega)⟩
 exact ⟨_,_,rfl,hset _ (by omega),k3.mono (by omega)⟩
end AT
namespace AT
theorem gjo {fu:Nat} (hfu:2097153≤fu) {c:L1CurP} {k:Int} (hc:Cur c k) (hk:k≤800000000) {p:Plan} (hn:p.Network.Fibers.length≤1000) (hm:p.Network.Nodes.length≤1000):∃ r c',zu fu c p=some (r,c')∧r.Route.Fibers.length≤5∧Cur c' (k + 50):=by
 unfold zu u3
 obtain ⟨r1,c1,g1,-,k1⟩:=ga7 (fu:=fu) hc (by omega) [30,31,1,2,4,5,999] (by decide) (by decide)
 obtain ⟨r2,c2,g2,h2,k2⟩:=gc4 hfu k1 (by omega) hn hm
 obtain ⟨r3,c3,g3,k3⟩:=gfv (fu:=fu) k2 (by omega)
 obtain ⟨r4,c4,g4,-,-,k4⟩:=vr (fu:=fu) k3 (by omega) 24 (by decide)
 obtain ⟨r5,c5,g5,-,k5⟩:=ga7 (fu:=fu) k4 (by omega) [0,1000] (by decide) (by decide)
 simp only [g1,g2,g3,g4,g5,Option.bind_some]
 split
 exact ⟨_,_,rfl,h2,k5.mono (by omega)⟩
 exact ⟨_,_,rfl,h2,k4.mono (by omega)⟩
theorem giW {fu:Nat} (hfu:2097153≤fu) {c:L1CurP} {k:Int} (hc:Cur c k) (hk:k≤700000000) {p:Plan} (hp:PlanD p):∃ r c',yg fu c p=some (r,c')∧r.Light.Route.Fibers.length≤20∧Cur c' (k + 100):=by
 unfold yg
 have hl:=hp.ls
 have f2:=hp.net.f2
 have n2:=hp.net.n2
 obtain ⟨x,c1,g1,h1,k1⟩:=gjo hfu hc (by omega) (p:=p) (by omega) (by omega)
 obtain ⟨r9,c9,g9,-,k9⟩:=ga7 (fu:=fu) k1 (by omega) [1,1,1,2,3,0,4] (by decide) (by decide)
 simp only [g1,Option.bind_some,u3,g9]
 by_cases h:p.Lights.length=0
 have h':((p.Lights.length:Int) > 0)=False:=eq_false (by omega)
 simp only [h',decide_false,Bool.false_eq_true,if_false]
 exact ⟨_,_,rfl,by simp only; omega,k9.mono (by omega)⟩
 have h':((p.Lights.length:Int) > 0)=True:=eq_true (by omega)
 obtain ⟨r2,c2,g2,-,-,k2⟩:=vr (fu:=fu) k1 (by omega) 3 (by decide)
 obtain ⟨r3,c3,g3,p0,p1,k3⟩:=vr (fu:=fu) k2 (by omega) (p.Lights.length:Int) (by omega)
 obtain ⟨e,he,hem⟩:=zo (l:=p.Lights) (i:=r3) p0 (p1 (by omega))
 obtain ⟨r4,c4,g4,-,-,k4⟩:=vr (fu:=fu) k3 (by omega) 3 (by decide)
 have hr:=hp.rs e hem
 obtain ⟨r5,c5,g5,k5⟩:=gfv (fu:=fu) k4 (by omega)
 obtain ⟨r6,c6,g6,h6,k6⟩:=gc4 hfu k4 (by omega) (n:=p.Network) (by omega) (by omega)
 obtain ⟨r7,c7,g7,-,-,k7⟩:=vr (fu:=fu) k6 (by omega) 20 (by decide)
 obtain ⟨r8,c8,g8,-,k8⟩:=ga7 (fu:=fu) k2 (by omega) [1,1,1,2,3,0,4] (by decide) (by decide)
 simp only [h',decide_true,if_true,g2,g3,g4,g5,g6,g7,g8,he,Option.bind_some,gbU fu e (by omega),gjr fu e.Route (by omega)]
 split
 split
 exact ⟨_,_,rfl,hr,k4.mono (by omega)⟩
 split
 exact ⟨_,_,rfl,hr,k5.mono (by omega)⟩
 exact ⟨_,_,rfl,by simp only; omega,k7.mono (by omega)⟩
 exact ⟨_,_,rfl,by simp only; omega,k8.mono (by omega)⟩
theorem gjH {fu:Nat} (hfu:2097153≤fu) (p:Plan) (a:Action) (hB:yS p) (hp:vm p=false):∃ r,vH fu p a=some r:=by
 have hl:=hB.2.1
 unfold vH gak zW
 rw [yP hfu p hB,hp,gdk p _ (by omega) hl]
 simp only [Option.bind_some,Bool.not_false,if_true]
 split
 exact ⟨_,rfl⟩
 split
 cases hh:has_ p a.Light.Id
 have hh':(p.Lights.any fun y=>y.Id==a.Light.Id)=false:=hh
 simp only [hh',Bool.false_eq_true,if_false,show decide ((-1:Int)≥0)=false from rfl,Option.bind_some]
 exact ⟨_,rfl⟩
 have hh':(p.Lights.any fun y=>y.Id==a.Light.Id)=true:=hh
 have hi:=gbB hh'
 have hr:=hB.2.2 _ (gav l0 hi)
 simp only [hh',if_true,gdx,vW l0 hi,Option.bind_some,gdB hfu _ a.Light hr,gcl hfu p hB hi]
 split <;> exact ⟨_,rfl⟩
 split <;> exact ⟨_,rfl⟩
theorem ggh {fu:Nat} (hfu:2097153≤fu) (good:Bool):∀ (fk n:Nat) (l:List Action) (p:Plan) (b:List By) (a:Int) (s:U64) (k B:Int),Cur ⟨b,a,s⟩ k→k≤B - 120 * (n:Int)→B≤600000000→PlanD p→vm p=good→l.length + n≤6→(∀ x∈l,x.Light.Route.Fibers.length≤20)→n<fk →
    ∃ l' n' m1 m2 m3 b' a' s',u5 fu good fk l (n:Int) p.Network.Nodes p.Network.Fibers p.Lights b a s=some (l',n',m1,m2,m3,b',a',s')∧l'.length≤6∧(∀ x∈l',x.Light.Route.Fibers.length≤20)∧Cur ⟨b',a',s'⟩ B:=by
 intro fk
 induction fk with
 | zero=>intro n _ _ _ _ _ _ _ _ _ _ _ _ _ _ h; omega
 | succ fk ih =>
   intro n l p b a s k B hc hk hB hp hg hl hr hf
   rw [u5]
   by_cases h:0<n
   · have hlt:((n:Int) > 0)=True:=eq_true (by omega)
     have e:w64 ((n:Int) - 1)=((n - 1:Nat):Int):=gbb h (by omega)
     obtain ⟨x,c3,g3,h3,k3⟩:=giW hfu hc (by omega) hp
     obtain ⟨r,hap,hok⟩:∃ r,vH fu p x=some r∧(good=true→r=act p x):=by
       cases good
       · obtain ⟨r,hr⟩:=gjH hfu p x hp.B hg
         exact ⟨r,hr,fun h=>by cases h⟩
       · exact ⟨_,gcV hfu p x hp.B hg (by omega),fun _=>rfl⟩
     obtain ⟨r5,c5,g5,-,-,k5⟩:=vr (fu:=fu) k3 (by omega) 8 (by decide)
     have ha:app l [x]=some (l++[x]):=app1 (by omega)
     have hr':∀ y∈l++[x],y.Light.Route.Fibers.length≤20:=fun y hy=>by
       rcases List.mem_append.1 hy with hy | hy
       · exact hr y hy
       · simp only [List.mem_singleton] at hy; subst hy; exact h3
     have hl':(l++[x]).length + (n - 1)≤6:=by simp; omega
     have g3':yg fu ⟨b,a,s⟩ ⟨⟨p.Network.Nodes,p.Network.Fibers⟩,p.Lights⟩=some (x,c3):=g3
     have hap':vH fu ⟨⟨p.Network.Nodes,p.Network.Fibers⟩,p.Lights⟩ x=some r:=hap
     simp only [hlt,decide_true,if_true,e,g3',hap',Option.bind_some,u3,g5,ha]
     have keep:∀ t:Bool,∃ l' n' m1 m2 m3 b' a' s',(if t=true then u5 fu good fk (l++[x]) ((n - 1:Nat):Int) p.Network.Nodes p.Network.Fibers p.Lights c5.code c5.at_ c5.seed else u5 fu good fk l ((n - 1:Nat):Int) p.Network.Nodes p.Network.Fibers p.Lights c5.code c5.at_ c5.seed)=some (l',n',m1,m2,m3,b',a',s')∧l'.length≤6∧(∀ x∈l',x.Light.Route.Fibers.length≤20)∧Cur ⟨b',a',s'⟩ B:=by
       intro t
       cases t
       · exact ih (n - 1) l p _ _ _ (k + 100 + 2) B k5 (by omega) hB hp hg (by omega) hr (by omega)
       · exact ih (n - 1) _ p _ _ _ (k + 100 + 2) B k5 (by omega) hB hp hg hl' hr' (by omega)
     cases hgd:good
     · simp only [Bool.false_eq_true,if_false,Option.bind_some]
       rw [hgd] at keep
       exact keep _
     · simp only [if_true,Option.bind_some]
       have hrr:=hok hgd
       subst hrr
       rw [hgd] at hg
       cases h2:(act p x).2
       · simp only [Bool.false_eq_true,if_false]
         rw [hgd] at keep
         exact keep _
       · simp only [if_true]
         have hq:=gdU hg h2
         have hqF:=ghe hq
         subst hgd
         refine ih (n - 1) _ (act p x).1 _ _ _ (k + 100) B k3 (by omega) hB ⟨by rw [ggH h2]; exact hp.net,by have:=hqF.short; omega,fun y hy=>by have:=(hqF.light y hy).short; omega⟩ hq hl' hr' (by omega)
   · obtain rfl:n=0:=by omega
     rw [if_neg (by simp)]
     exact ⟨_,_,_,_,_,_,_,_,rfl,by omega,hr,hc.mono (by omega)⟩
theorem gfz {fu:Nat} (hfu:2097153≤fu):∀ (fk:Nat) (l:List Action) (b:List By) (a:Int) (s:U64) (k B:Int),Cur ⟨b,a,s⟩ k→k≤B + 300 * (l.length:Int)→B≤500000000→l.length≤9→(∀ x∈l,x.Light.Route.Fibers.length≤20)→9 - l.length<fk →
    ∃ l' b' a' s',vN fu fk l b a s=some (l',b',a',s')∧l'.length≤9∧(∀ x∈l',x.Light.Route.Fibers.length≤20)∧Cur ⟨b',a',s'⟩ (B + 5000):=by
 intro fk
 induction fk with
 | zero=>intro l _ _ _ _ _ _ _ _ _ _ h; omega
 | succ fk ih =>
   intro l b a s k B hc hk hB hl hr hf
   rw [vN]
   obtain ⟨r1,c1,g1,p0,p1,k1⟩:=vr (fu:=fu) hc (by omega) 2 (by decide)
   have p2:=p1 (by decide)
   have e:w64 (8 + r1)=8 + r1:=vV (by omega) (by omega)
   obtain ⟨n,c2,g2,h2,h3,k2⟩:=gfW hfu k1 (by omega)
   obtain ⟨r,c3,g3,-,h4,-,k3⟩:=gfJ hfu k2 (by omega) (n:=n) h3 (by have:=h2.f2; omega) (by have:=h2.n2; omega)
   have ha:∀ x:Action,app l [x]=some (l++[x]):=fun x=>app1 (by omega)
   simp only [g1,g2,g3,ha,e,Option.bind_some]
   split
   · rename_i h
     have h':(l.length:Int)<8 + r1:=by simpa using h
     refine ih _ _ _ _ (k + 2 + 200 + 20) B k3 (by simp; omega) hB (by simp; omega) (fun y hy=>?_) (by simp; omega)
     rcases List.mem_append.1 hy with hy | hy
     · exact hr y hy
     · simp only [List.mem_singleton] at hy; subst hy; simp only; omega
   · exact ⟨_,_,_,_,rfl,hl,hr,k1.mono (by omega)⟩
theorem ghC {fu:Nat} (hfu:2097153≤fu) {c:L1CurP} {k:Int} (hc:Cur c k) (hk:k≤400000000) {p:Plan} (hp:PlanD p):∃ l c',yD fu c p=some (l,c')∧l.length≤9∧(∀ x∈l,x.Light.Route.Fibers.length≤20)∧Cur c' (k + 10000):=by
 unfold yD
 obtain ⟨r2,c2,g2,p0,p1,k2⟩:=vr (fu:=fu) hc (by omega) 6 (by decide)
 have p2:=p1 (by decide)
 obtain ⟨l3,n3,m1,m2,m3,b3,a3,s3,g3,h3,h4,k3⟩:=ggh hfu (vm p) fu r2.toNat [] p c2.code c2.at_ c2.seed (k + 2) (k + 1000) k2 (by omega) (by omega) hp rfl (by simp; omega) (by simp) (by omega)
 rw [Int.toNat_of_nonneg p0] at g3
 obtain ⟨r4,c4,g4,-,-,k4⟩:=vr (fu:=fu) k3 (by omega) 24 (by decide)
 obtain ⟨l5,b5,a5,s5,g5,h5,h6,k5⟩:=gfz hfu fu l3 c4.code c4.at_ c4.seed (k + 1000 + 2) (k + 1002) k4 (by omega) (by omega) (by omega) h4 (by omega)
 simp only [yP hfu p hp.B,g2,g3,Option.bind_some,u3,g4]
 split
 simp only [g5,Option.bind_some]
 exact ⟨_,_,rfl,h5,h6,k5.mono (by omega)⟩
 exact ⟨_,_,rfl,by omega,h4,k4.mono (by omega)⟩
end AT
