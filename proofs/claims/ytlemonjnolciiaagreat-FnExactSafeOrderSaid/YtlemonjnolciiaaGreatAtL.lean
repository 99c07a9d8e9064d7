/- Loops over lists, plainly: a loop with fuel and wrapping counters is a walk over the list. No program in sight. -/
import Derived.Test.YtlemonjnolciiaaGreatAtR
set_option linter.unusedSimpArgs false
set_option linter.unusedVariables false
namespace AT
theorem vG {α:Type} {l:List α} {i:Nat} (h:i<l.length):idx l (i:Int)=some l[i]:=by rw[mB,sv h]
theorem xa {n:Nat} {i:Nat} (h:i<n) (hn:(n:Int)≤9223372036854775807):w64 ((i:Int) + 1)=((i + 1:Nat):Int):=by
 rw[vu (by omega) (by omega)]; omega
def each {α σ R:Type} (b:Int→α→σ→Option (Out σ R)):List α→Int→σ→Option (Out σ R)
  | [],_,s=>some (.next s)
  | e::l,i,s=>(b i e s).bind λo=>match o with
    | .ret r=>some (.ret r)
    | .next s'=>each b l (i + 1) s'
end AT
namespace AT
variable {α R:Type}
theorem eE {l:List α} {i:Nat} {x:α} (h:i<l.length):idx (l.set i x) (i:Int)=some x:=by
 rw[mB,wC h]
theorem j6 {z:α} {n:Nat} (h:n≤2097152):mk z (n:Int)=some (List.replicate n z):=by
 unfold mk; rw[if_pos (by omega)]; simp
theorem jO (a:List α) (G:Nat→List α→Int→Option (List α×Int)) (t:α→Option α) (hn:a.length≤2097152) (ht:∀e∈a,t e=some e)
    (hG:∀fk o i,G (fk + 1) o i=if decide (i<(a.length:Int)) then (idx a i).bind λe=>(t e).bind λy=>(idx o i).bind λe2=>G fk (o.set i.toNat y) (w64 (i + 1)) else some (o,i)) :
    ∀(fk i:Nat) (o:List α),o.length=a.length→i≤a.length→a.length - i<fk→G fk o i=some (o.take i++a.drop i,(a.length:Int)):=by
 intro fk;induction fk with
 | zero=>intro i o _ _ h; omega
 | succ fk ih =>
   intro i o ho hi hk
   rw[hG]
   by_cases h:i<a.length
   · rw[if_pos (by simpa using h),vG h,ss,ht _ (s9 h),ss,vG (by omega),ss,xa h (by omega),tM,ih (i + 1) _ (by simpa using ho) h (by omega)]
     congr 2
     rw[wV,wC (by omega),wb (by omega),←sL h]
     simp
   · obtain rfl:i=a.length:=by omega
     rw[if_neg (by simp),←ho,w8,ho,tr,s5]
theorem nj (a:List α) (G:Nat→List α→Int→Option (List α×Int)) (hn:a.length≤2097152)
    (hG:∀fk o i,G (fk + 1) o i=if decide (i<(a.length:Int)) then (idx a i).bind λe=>(idx o i).bind λe2=>G fk (o.set i.toNat e) (w64 (i + 1)) else some (o,i)) :
    ∀(fk i:Nat) (o:List α),o.length=a.length→i≤a.length→a.length - i<fk→G fk o i=some (o.take i++a.drop i,(a.length:Int)) :=
  jO a G (λe=>some e) hn (λ_ _=>rfl) hG
theorem kf (a:List α) (G:Nat→Int→Option (Out Int Bool)) (p:α→α→Option Bool) (hn:a.length≤2097152) (hp:∀e∈a,p e e=some true)
    (hG:∀fk i,G (fk + 1) i=if decide (i<(a.length:Int)) then (idx a i).bind λe=>(idx a i).bind λe2=>(p e e2).bind λy=>if !y then some (.ret false) else G fk (w64 (i + 1)) else some (.next i)) :
    ∀(fk i:Nat),i≤a.length→a.length - i<fk→G fk i=some (.next (a.length:Int)):=by
 intro fk;induction fk with
 | zero=>intro i _ h; omega
 | succ fk ih =>
   intro i hi hk
   rw[hG]
   by_cases h:i<a.length
   · rw[if_pos (by simpa using h),vG h,ss,ss,hp _ (s9 h),ss,xa h (by omega),ih (i + 1) h (by omega)]
     rfl
   · obtain rfl:i=a.length:=by omega
     rw[if_neg (by simp)]
theorem nM {α:Type} [BEq α] [ReflBEq α] (a:List α) (G:Nat→Int→Option (Out Int Bool)) (hn:a.length≤2097152)
    (hG:∀fk i,G (fk + 1) i=if decide (i<(a.length:Int)) then (idx a i).bind λe=>(idx a i).bind λe2=>if e != e2 then some (.ret false) else G fk (w64 (i + 1)) else some (.next i)) :
    ∀(fk i:Nat),i≤a.length→a.length - i<fk→G fk i=some (.next (a.length:Int)) :=
  kf a G (λe e2=>some (e==e2)) hn (λe _=>by simp) (λfk i=>by rw[hG]; rfl)
theorem lz (a:List α) (B:α→Prop) (G:Nat→Int→Int→Option (Out (Int×Int) Int)) (t:α→Int→Option Int) (hn:a.length≤2097152)
    (ht:∀e∈a,∀l,0≤l→l≤1048576→∃r,t e l=some r∧(0≤r→B e∧r≤l))
    (hG:∀fk l i,G (fk + 1) l i=if decide (i<(a.length:Int)) then (idx a i).bind λe=>(t e l).bind λy=>if decide (y<0) then some (.ret (-1)) else G fk y (w64 (i + 1)) else some (.next (l,i))) :
    ∀(fk i:Nat) (l:Int),0≤l→l≤1048576→i≤a.length→a.length - i<fk→∃o,G fk l i=some o∧match o with | .ret r=>r=-1 | .next z=>0≤z.1∧z.1≤l∧∀e∈a.drop i,B e:=by
  intro fk;induction fk with
  | zero=>intro i _ _ _ _ h; omega
  | succ fk ih =>
    intro i l h0 h1 hi hk
    rw[hG]
    by_cases h:i<a.length
    · obtain⟨r,hr,hb⟩:=ht a[i] (s9 h) l h0 h1
      rw[if_pos (by simpa using h),vG h,ss,hr,ss]
      by_cases hn':r<0
      · rw[if_pos (by simpa using hn')]; exact⟨_,rfl,rfl⟩
      · rw[if_neg (by simpa using hn'),xa h (by omega)]
        obtain⟨hb1,hb2⟩:=hb (by omega)
        obtain⟨o,ho,hp⟩:=ih (i + 1) r (by omega) (by omega) h (by omega)
        refine⟨o,ho,?_⟩
        cases o with
        | ret r=>exact hp
        | next z =>
          refine⟨hp.1,Int.le_trans hp.2.1 hb2,λe he=>?_⟩
          rw[←sL h]at he
          rcases sZ.1 he with rfl | he
          · exact hb1
          · exact hp.2.2 e he
    · obtain rfl:i=a.length:=by omega
      rw[if_neg (by simp)]
      exact⟨_,rfl,h0,Ai _,by simp⟩
theorem iZ (B:α→Prop) (W C:Int) (hC:C≤2305843009213693952) (hW:0≤W) (G:Nat→List α→Int→Int→Option (List α×Int×Int)) (H:List α→Nat→Int→Int→Option (Out (Int×Int) Int)) (m:α→Int→Option (Int×α)) (h:α→Int→Option (Out Int Int))
    (hm:∀e k,B e→0≤k→k≤C→∃k' e',m e k=some (k',e')∧h e' k=some (.next k')∧k≤k'∧k'≤k + W)
    (hG:∀fk (a:List α) (i:Nat) k (hi:i<a.length),G (fk + 1) a k i=(m a[i] k).bind λz=>G fk (a.set i z.2) z.1 (w64 ((i:Int) + 1)))
    (hz:∀fk (a:List α) k,G (fk + 1) a k a.length=some (a,k,(a.length:Int)))
    (hH:∀(a:List α) fk (i:Nat) k (hi:i<a.length),H a (fk + 1) k i=(h a[i] k).bind λo=>match o with | .ret r=>some (.ret r) | .next k'=>H a fk k' (w64 ((i:Int) + 1)))
    (hHz:∀(a:List α) fk k,H a (fk + 1) k a.length=some (.next (k,(a.length:Int)))) :
    ∀(n i:Nat) (a:List α) (k:Int),a.length≤2097152→i≤a.length→n=a.length - i→(∀e∈a.drop i,B e)→0≤k→k + W * n≤C →
      ∃k' a',(∀fk,n<fk→G fk a k i=some (a',k',(a.length:Int)))∧a'.length=a.length∧a'.take i=a.take i∧(∀fk,n<fk→H a' fk k i=some (.next (k',(a.length:Int))))∧k≤k'∧k'≤k + W * n:=by
 intro n;induction n with
 | zero =>
   intro i a k hl hi hn _ h0 h1
   obtain rfl:i=a.length:=by omega
   refine⟨k,a,λfk hk=>?_,rfl,rfl,λfk hk=>?_,Ai _,by simp⟩
   · obtain⟨fk,rfl⟩:=Nat.exists_eq_succ_of_ne_zero (by omega:fk≠0)
     exact hz _ _ _
   · obtain⟨fk,rfl⟩:=Nat.exists_eq_succ_of_ne_zero (by omega:fk≠0)
     exact hHz _ _ _
 | succ n ih =>
   intro i a k hl hi hn hB h0 h1
   have hia:i<a.length:=by omega
   have hWn:0≤W * (n:Int):=Int.mul_nonneg hW (by omega)
   have hWs:W * ((n + 1:Nat):Int)=W * n + W:=by rw[show ((n + 1:Nat):Int)=(n:Int) + 1 by omega,Int.mul_add,Int.mul_one]
   obtain⟨k1,e1,hm1,hh1,hk1,hk2⟩:=hm a[i] k (hB _ (by rw[←sL hia]; exact tW)) h0 (by omega)
   obtain⟨k',a',g1,g2,g3,g4,g5,g6⟩:=ih (i + 1) (a.set i e1) k1 (by simpa using hl) (by simp; omega) (by simp; omega) (λe he=>hB e (by
     rw[wa (by omega)]at he
     rw[←sL hia]; exact tH _ he)) (by omega) (by omega)
   have hlen:(a.set i e1).length=a.length:=by simp
   have hil:i<a'.length:=by omega
   have hai:a'[i]=e1:=by
     have h2:a'[i]?=some e1:=by
       have h3:(a'.take (i + 1))[i]?=some e1:=by rw[g3,sI (by omega),wC hia]
       rwa [sI (by omega)]at h3
     rw[sv hil]at h2
     exact sx h2
   refine⟨k',a',λfk hk=>?_,by omega,?_,λfk hk=>?_,by omega,by omega⟩
   · obtain⟨fk,rfl⟩:=Nat.exists_eq_succ_of_ne_zero (by omega:fk≠0)
     rw[hG fk a i k hia,hm1,ss,xa hia (by omega),g1 fk (by omega),hlen]
   · have h2:(a'.take (i + 1)).take i=((a.set i e1).take (i + 1)).take i:=by rw[g3]
     rw[t8,t8,tV (by omega),wb (by omega)]at h2
     exact h2
   · obtain⟨fk,rfl⟩:=Nat.exists_eq_succ_of_ne_zero (by omega:fk≠0)
     rw[hH a' fk i k hil,hai,hh1,ss]
     simp only
     rw[xa hil (by omega),g4 fk (by omega),hlen]
theorem lH (l:List α) (G:Nat→Int→Option (Out Int R)) (p:α→Bool) (r:Nat→R) (hn:(l.length:Int)≤9223372036854775807)
    (hG:∀fk (i:Nat) (h:i<l.length),G (fk + 1) i=if p l[i] then some (.ret (r i)) else G fk (w64 ((i:Int) + 1)))
    (hz:∀fk,G (fk + 1) l.length=some (.next (l.length:Int))) :
    ∀(fk i:Nat),i≤l.length→l.length - i<fk→G fk i=some (if (l.drop i).any p then .ret (r (i + (l.drop i).findIdx p)) else .next (l.length:Int)):=by
 intro fk;induction fk with
 | zero=>intro i _ h; omega
 | succ fk ih =>
   intro i hi hk
   by_cases h:i<l.length
   · rw[hG fk i h,←sL h,Ay,Aj]
     by_cases hp:p l[i]=true
     · simp [hp]
     · simp only[hp,sC,if_false,wg,cond_false]
       rw[xa h hn,ih (i + 1) h (by omega),show i + ((l.drop (i + 1)).findIdx p + 1)=i + 1 + (l.drop (i + 1)).findIdx p by omega]
   · obtain rfl:i=l.length:=by omega
     rw[hz,tr]; rfl
theorem lu (a:List α) (G:Nat→List α→Int→Option (List α×Int)) (t:α→Option α) (hn:a.length≤2097152) (ht:∀e∈a,t e=some e)
    (hG:∀fk o i,G (fk + 1) o i=if decide (i<(a.length:Int)) then (idx a i).bind λe=>(t e).bind λy=>(idx o i).bind λe2=>G fk (o.set i.toNat y) (w64 (i + 1)) else some (o,i))
    (fk:Nat) (o:List α) (ho:o.length=a.length) (hk:a.length<fk):G fk o 0=some (a,(a.length:Int)):=by
 have:=jO a G t hn ht hG fk 0 o ho (by omega) (by omega);simpa using this
theorem lv (a:List α) (G:Nat→List α→Int→Option (List α×Int)) (hn:a.length≤2097152)
    (hG:∀fk o i,G (fk + 1) o i=if decide (i<(a.length:Int)) then (idx a i).bind λe=>(idx o i).bind λe2=>G fk (o.set i.toNat e) (w64 (i + 1)) else some (o,i))
    (fk:Nat) (o:List α) (ho:o.length=a.length) (hk:a.length<fk):G fk o 0=some (a,(a.length:Int)):=by
 have:=nj a G hn hG fk 0 o ho (by omega) (by omega);simpa using this
theorem ir (a:List α) (G:Nat→Int→Option (Out Int Bool)) (p:α→α→Option Bool) (hn:a.length≤2097152) (hp:∀e∈a,p e e=some true)
    (hG:∀fk i,G (fk + 1) i=if decide (i<(a.length:Int)) then (idx a i).bind λe=>(idx a i).bind λe2=>(p e e2).bind λy=>if !y then some (.ret false) else G fk (w64 (i + 1)) else some (.next i))
    (fk:Nat) (hk:a.length<fk):G fk 0=some (.next (a.length:Int)):=by
 have:=kf a G p hn hp hG fk 0 (by omega) (by omega);simpa using this
theorem oY {α:Type} [BEq α] [ReflBEq α] (a:List α) (G:Nat→Int→Option (Out Int Bool)) (hn:a.length≤2097152)
    (hG:∀fk i,G (fk + 1) i=if decide (i<(a.length:Int)) then (idx a i).bind λe=>(idx a i).bind λe2=>if e != e2 then some (.ret false) else G fk (w64 (i + 1)) else some (.next i))
    (fk:Nat) (hk:a.length<fk):G fk 0=some (.next (a.length:Int)):=by
 have:=nM a G hn hG fk 0 (by omega) (by omega);simpa using this
theorem vY {l:List α} {G:Nat→Int→Option (Out Int R)} (p:α→Bool) (r:Nat→R) (hn:(l.length:Int)≤9223372036854775807)
    (hG:∀fk (i:Nat) (h:i<l.length),G (fk + 1) i=if p l[i] then some (.ret (r i)) else G fk (w64 ((i:Int) + 1)))
    (hz:∀fk,G (fk + 1) l.length=some (.next (l.length:Int))) (fk:Nat) (hk:l.length<fk) :
    G fk 0=some (if l.any p then .ret (r (l.findIdx p)) else .next (l.length:Int)):=by
 have:=lH l G p r hn hG hz fk 0 (by omega) (by omega);simpa using this
def gd {α:Type} (l:List α) (i:Nat) (d:α):α:=(l[i]?).getD d
variable {i:Nat}
theorem vV {l:List α} (d:α) (h:i<l.length):idx l (i:Int)=some (gd l i d):=by
 rw[vG h,gd,sv h]; rfl
theorem bG {l:List α} (d:α) (h:i<l.length):gd l i d=l[i]:=by
 rw[gd,sv h]; rfl
theorem ix {α:Type} {p q:α→Bool}:∀{l:List α},(∀i∈l,p i=q i)→l.any p=l.any q
  | [],_=>rfl
  | x::l,h=>by rw[Ay,Ay,h x (by simp),ix λi hi=>h i (by simp [hi])]
theorem fD (h:0<i) (hn:i≤2097152):w64 ((i:Int) - 1)=((i - 1:Nat):Int):=by
 rw[vu (by omega) (by omega)]; omega
theorem dX (B:α→Prop) (W C:Int) (hC:C≤2305843009213693952) (hW:0≤W) (G:Nat→List α→Int→Int→Option (List α×Int×Int)) (m:α→Int→Option (Int×α))
    (hm:∀e k,B e→0≤k→k≤C→∃k' e',m e k=some (k',e')∧k≤k'∧k'≤k + W)
    (hG:∀fk (a:List α) (i:Nat) k (hi:i<a.length),G (fk + 1) a k i=(m a[i] k).bind λz=>G fk (a.set i z.2) z.1 (w64 ((i:Int) + 1)))
    (hz:∀fk (a:List α) k,G (fk + 1) a k a.length=some (a,k,(a.length:Int))) :
    ∀(n i:Nat) (a:List α) (k:Int),a.length≤2097152→i≤a.length→n=a.length - i→(∀e∈a.drop i,B e)→0≤k→k + W * n≤C →
      ∃k' a',(∀fk,n<fk→G fk a k i=some (a',k',(a.length:Int)))∧k≤k'∧k'≤k + W * n:=by
 intro n;induction n with
 | zero =>
   intro i a k hl hi hn _ h0 h1
   obtain rfl:i=a.length:=by omega
   refine⟨k,a,λfk hk=>?_,Ai _,by simp⟩
   obtain⟨fk,rfl⟩:=Nat.exists_eq_succ_of_ne_zero (by omega:fk≠0)
   exact hz _ _ _
 | succ n ih =>
   intro i a k hl hi hn hB h0 h1
   have hia:i<a.length:=by omega
   have hWn:0≤W * (n:Int):=Int.mul_nonneg hW (by omega)
   have hWs:W * ((n + 1:Nat):Int)=W * n + W:=by rw[show ((n + 1:Nat):Int)=(n:Int) + 1 by omega,Int.mul_add,Int.mul_one]
   obtain⟨k1,e1,hm1,hk1,hk2⟩:=hm a[i] k (hB _ (by rw[←sL hia]; exact tW)) h0 (by omega)
   obtain⟨k',a',g1,g5,g6⟩:=ih (i + 1) (a.set i e1) k1 (by simpa using hl) (by simp; omega) (by simp; omega) (λe he=>hB e (by
     rw[wa (by omega)]at he
     rw[←sL hia]; exact tH _ he)) (by omega) (by omega)
   have hlen:(a.set i e1).length=a.length:=by simp
   refine⟨k',a',λfk hk=>?_,by omega,by omega⟩
   obtain⟨fk,rfl⟩:=Nat.exists_eq_succ_of_ne_zero (by omega:fk≠0)
   rw[hG fk a i k hia,hm1,ss,xa hia (by omega),g1 fk (by omega),hlen]
end AT
