/- All routes between two nodes, as the reference lists them. -/
import Derived.Test.YtlemonjnolciiaaGreatQRest
set_option linter.unusedSimpArgs false
set_option linter.unusedVariables false
namespace AT
def rt0:Nk:=⟨0,[]⟩
def lq (n:Nq) (fs:d_):Prop:=∀x∈fs,0<=x/\x<(n.Nw.length:Int)
structure RtB (n:Nq) (r:Nk):Prop where
 short:r.Nw.length<=7
 fib:lq n r.Nw
 lo:0<=r.Np
 hi:r.Np<(n.Nv.length:Int)
def lenR (F:List Pq):d_->Int
 | []=>0
 | i::l=>(gd F i.toNat f0).Px + lenR F l
theorem rn {n:Nq} {i:Int} (h:0<=i/\i<(n.Nw.length:Int)):V_ n.Nw i=some (gd n.Nw i.toNat f0)/\gd n.Nw i.toNat f0∈n.Nw:=by
 have:=yb (l:=n.Nw) (i:=i.toNat) f0 (by omega);rw[Jk h.1]at this;exact⟨this,aR f0 (by omega)⟩
theorem oE {n:Nq} (hn:NetF n):∀{fs:d_},lq n fs->0<=lenR n.Nw fs/\lenR n.Nw fs<=5000 * (fs.length:Int)
 | [],_=>by simp [lenR]
 | i::l,h=>by
  have h1:=oE hn (fs:=l) λx hx=>h x (IP _ hx)
  have h2:=hn.each _ (rn (h i (by simp))).2
  simp only[lenR,I3]
  omega
theorem oH {fu:Nat} {n:Nq} (hn:NetF n) (r:Nk) (hf:lq n r.Nw) (hl:r.Nw.length<=100):∀(fk i:Nat) (s:Int),i<=r.Nw.length->r.Nw.length - i<fk->0<=s->s<=5000 * (i:Int)->∃z,yT fu n r fk s i=some (s + lenR n.Nw (r.Nw.drop i),z):=by
 intro fk;induction fk with
 | zero=>intro i _ _ h; omega
 | succ fk ih =>
  intro i s hi hk h0 h1
  rw[yT]
  by_cases h:i<r.Nw.length
  · obtain⟨e1,e2⟩:=rn (hf _ (IE h))
    have h2:=hn.each _ e2
    rw[if_pos (by simpa using h),vw h,Ik,e1,Ik,vP h (by omega),uZ (by omega) (by omega),<-IB h,lenR]
    obtain⟨z,hz⟩:=ih (i + 1) (s + (gd n.Nw r.Nw[i].toNat f0).Px) h (by omega) (by omega) (by omega)
    exact⟨z,by rw[hz]; congr 2; omega⟩
  · obtain rfl:i=r.Nw.length:=by omega
    rw[if_neg (by simp),IX,lenR,LD]
    exact⟨_,rfl⟩
theorem jg {fu:Nat} (hfu:2097153<=fu) {n:Nq} (hn:NetF n) (r:Nk) (hf:lq n r.Nw) (hl:r.Nw.length<=100):aY fu n r=some (lenR n.Nw r.Nw):=by
 obtain⟨z,hz⟩:=oH (fu:=fu) hn r hf hl fu 0 0 (by omega) (by omega) (by omega) (by omega);rw[show ((0:Nat):Int)=0 from rfl,IR,LE]at hz;unfold aY;rw[hz]; rfl
theorem ol (fu:Nat) (x:Int):bP fu x=some (cmpI x 0):=by
 unfold bP cmpI;by_cases h:x<0;simp [h];by_cases h2:x > 0 <;> simp [h,h2]
theorem lF (a b:Int):cmpI (a - b) 0=cmpI a b:=by
 unfold cmpI;by_cases h:a<b;rw[if_pos (by omega),if_pos h];rw[if_neg (by omega),if_neg h];by_cases h2:a > b;rw[if_pos (by omega),if_pos h2];rw[if_neg (by omega),if_neg h2]
def cmpL:d_->d_->Int
 | [],[]=>0
 | [],_::_=>-1
 | _::_,[]=>1
 | a::x,b::y=>if a=b then cmpL x y else cmpI a b
def cmpR (F:List Pq) (a b:Nk):Int:=or4 (cmpI (lenR F a.Nw) (lenR F b.Nw)) (cmpI (a.Nw.length:Int) (b.Nw.length:Int)) (cmpL a.Nw b.Nw) (cmpI a.Np b.Np)
variable {a b c d:Int}
theorem GK (h:a≠0):or4 a b c d=a:=by unfold or4; rw[if_pos h]
theorem GJ (h:a=0) (h2:b≠0):or4 a b c d=b:=by unfold or4; rw[if_neg (by simpa using h),if_pos h2]
theorem GI (h:a=0) (h2:b=0) (h3:c≠0):or4 a b c d=c:=by unfold or4; rw[if_neg (by simpa using h),if_neg (by simpa using h2),if_pos h3]
theorem GH (h:a=0) (h2:b=0) (h3:c=0):or4 a b c d=d:=by
 unfold or4;rw[if_neg (by simpa using h),if_neg (by simpa using h2),if_neg (by simpa using h3)];by_cases h4:d=0;rw[if_neg (by simpa using h4),h4];rw[if_pos h4]
theorem nh {fu:Nat} {n:Nq} (hn:NetF n) (a b:Nk) (ha:lq n a.Nw) (hb:lq n b.Nw) (hl:a.Nw.length<=100) (he:b.Nw.length=a.Nw.length):∀(fk i:Nat),i<=a.Nw.length->a.Nw.length - i<fk ->
 yx fu a b fk i=some (if cmpL (a.Nw.drop i) (b.Nw.drop i)=0 then .next (a.Nw.length:Int) else .ret (cmpL (a.Nw.drop i) (b.Nw.drop i))):=by
 have hff:=hn.fib;intro fk;induction fk with
 | zero=>intro i _ h; omega
 | succ fk ih =>
  intro i hi hk
  rw[yx]
  by_cases h:i<a.Nw.length
  · have h2:i<b.Nw.length:=by omega
    have b1:=ha _ (IE h)
    have b2:=hb _ (IE h2)
    rw[if_pos (by simpa using h),vw h,vw h2,<-IB h,<-IB h2,cmpL]
    simp only[Ik]
    by_cases hc:a.Nw[i]=b.Nw[i]
    · rw[if_pos hc,hc,bne_self_eq_false,if_neg I9,vP h (by omega)]
      exact ih (i + 1) h (by omega)
    · have hne:cmpI a.Nw[i] b.Nw[i]≠0:=λe=>hc ((ap _ _).1 e)
      rw[if_neg hc,if_neg hne,if_pos (by rw[bne_iff_ne]; exact hc),ol,Ik,uZ (by omega) (by omega),lF]
  · obtain rfl:i=a.Nw.length:=by omega
    have e2:b.Nw.drop a.Nw.length=[]:=by rw[<-he,IX]
    rw[if_neg (by simp),IX,e2]
    rfl
theorem qc {fu:Nat} (hfu:2097153<=fu) {n:Nq} (hn:NetF n) {a b:Nk} (ha:RtB n a) (hb:RtB n b):cm fu n a b=some (cmpR n.Nw a b):=by
 have a1:=ha.short;have b1:=hb.short;have a2:=oE hn ha.fib;have b2:=oE hn hb.fib;have hm:=hn.hi;have s1:=ha.lo;have s2:=ha.hi;have s3:=hb.lo;have s4:=hb.hi;unfold cm cmpR;rw[jg hfu hn a ha.fib (by omega),jg hfu hn b hb.fib (by omega)];simp only[Ik];rw[uZ (n:=lenR n.Nw a.Nw - lenR n.Nw b.Nw) (by omega) (by omega),uZ (n:=(a.Nw.length:Int) - (b.Nw.length:Int)) (by omega) (by omega),uZ (n:=a.Np - b.Np) (by omega) (by omega),ol,ol,ol,lF,lF,lF];by_cases h1:lenR n.Nw a.Nw=lenR n.Nw b.Nw;have z1:=(ap _ _).2 h1;rw[if_neg (by rw[bne_iff_ne]; omega)];by_cases h2:a.Nw.length=b.Nw.length;have z2:=(ap (a.Nw.length:Int) (b.Nw.length:Int)).2 (by omega);have hl:=nh (fu:=fu) hn a b ha.fib hb.fib (by omega) h2.symm fu 0 (by omega) (by omega);rw[show ((0:Nat):Int)=0 from rfl,IR,IR]at hl;rw[if_neg (by rw[bne_iff_ne]; omega),hl];by_cases h3:cmpL a.Nw b.Nw=0;rw[if_pos h3,Ik,GH z1 z2 h3];rfl;rw[if_neg h3,GI z1 z2 h3]; rfl;have z2:cmpI (a.Nw.length:Int) (b.Nw.length:Int)≠0:=λe=>h2 (by have:=(ap _ _).1 e; omega);rw[if_pos (by rw[bne_iff_ne]; omega),GJ z1 z2]; rfl;have z1:cmpI (lenR n.Nw a.Nw) (lenR n.Nw b.Nw)≠0:=λe=>h1 ((ap _ _).1 e);rw[if_pos (by rw[bne_iff_ne]; omega),GK z1]; rfl
def insN (F:List Pq) (l:List Nk) (r:Nk):Nat->Nat
 | 0=>0
 | i + 1=>if cmpR F r (gd l i rt0)<0 then insN F l r i else i + 1
theorem oI (F:List Pq) (l:List Nk) (r:Nk):∀i,insN F l r i<=i
 | 0=>IC 0
 | i + 1=>by
  unfold insN
  split
  · have:=oI F l r i; omega
  · exact IC _
def insR (F:List Pq) (l:List Nk) (r:Nk):List Nk:=l.take (insN F l r l.length)++r::l.drop (insN F l r l.length)
theorem lC (F:List Pq) (l:List Nk) (r:Nk):(insR F l r).length=l.length + 1:=by
 have:=oI F l r l.length;unfold insR;rw[Ip,I3,Is,IT];omega
theorem mm (F:List Pq) (l:List Nk) (r:Nk):(insR F l r).Perm (r::l):=by
 unfold insR;refine JP.trans ?_;rw[IS]
theorem BU {fu:Nat} (hfu:2097153<=fu) {n:Nq} (hn:NetF n) (to:Int) (l:List Nk) (r:Nk) (hl:l.length<=1000) (hL:∀a∈l,RtB n a) (hr:RtB n r):∀(fk i:Nat),i<=l.length->i<fk->xJ fu ⟨n,to,l⟩ r fk i=some ((insN n.Nw l r i:Nat):Int):=by
 intro fk;induction fk with
 | zero=>intro i _ h; omega
 | succ fk ih =>
  intro i hi hk
  rw[xJ]
  cases i with
  | zero =>
   rw[if_neg (by simp),Ik,if_neg I9]
   rfl
  | succ i =>
   have hi':i<l.length:=by omega
   have e1:y_ (((i + 1:Nat):Int) - 1)=(i:Int):=by rw[uZ (by omega) (by omega)]; omega
   have e2:V_ (⟨n,to,l⟩:Pj).list (i:Int)=some (gd l i rt0):=yb rt0 hi'
   rw[if_pos (by simp),e1,e2,Ik,qc hfu hn hr (hL _ (aR rt0 hi')),insN]
   simp only[Ik,decide_eq_true_eq]
   by_cases hc:cmpR n.Nw r (gd l i rt0)<0
   · rw[if_pos hc,if_pos hc]
     exact ih i (by omega) (by omega)
   · rw[if_neg hc,if_neg hc]
theorem put_eq {fu:Nat} (hfu:2097153<=fu) {n:Nq} (hn:NetF n) (to:Int) (l:List Nk) (r:Nk) (hl:l.length<=1000) (hL:∀a∈l,RtB n a) (hr:RtB n r):aB fu ⟨n,to,l⟩ r=some ⟨n,to,insR n.Nw l r⟩:=by
 have hle:=oI n.Nw l r l.length;unfold aB;rw[BU hfu hn to l r hl hL hr fu l.length (IC _) (by omega),Ik];show ((sub l 0 ((insN n.Nw l r l.length:Nat):Int)).bind _)=_;rw[gi hle,Ik];have hs:sub l ((insN n.Nw l r l.length:Nat):Int) (l.length:Int)=some (l.drop (insN n.Nw l r l.length)):=by
  unfold sub
  rw[if_pos (by omega)]
  simp
 show ((sub l ((insN n.Nw l r l.length:Nat):Int) (l.length:Int)).bind _)=_;rw[hs,Ik,ed (by rw[Is]; omega),Ik,yN (by rw[Is,IG]; omega),Ik,yN (by rw[Ip,Is,IG,IT]; omega),Ik,Ir,JF];rfl
def W1 (F:List Pq) (to:Int):Nat->d_->Int->d_->List (d_)
 | 0,_,_,_=>[]
 | k + 1,seen,v,fs=>if v=to then [fs] else (List.range F.length).flatMap λi=>if 0<=X_ (gd F i f0) v/\(seen.any λx=>x==X_ (gd F i f0) v)=false then W1 F to k (seen++[X_ (gd F i f0) v]) (X_ (gd F i f0) v) (fs++[(i:Int)]) else []
theorem rY {F:List Pq} {to:Int} {k:Nat} {seen:d_} {v:Int} {fs:d_} (h:¬v=to):W1 F to (k + 1) seen v fs=(List.range F.length).flatMap λi=>if 0<=X_ (gd F i f0) v/\(seen.any λx=>x==X_ (gd F i f0) v)=false then W1 F to k (seen++[X_ (gd F i f0) v]) (X_ (gd F i f0) v) (fs++[(i:Int)]) else []:=by rw[W1,if_neg h]
def bA (F:List Pq) (s:Int) (l:List Nk) (ps:List (d_)):List Nk:=ps.foldl (λl p=>if l.length<=200 then insR F l ⟨s,p⟩ else l) l
theorem tg (F:List Pq) (s:Int) (l:List Nk) (p q:List (d_)):bA F s l (p++q)=bA F s (bA F s l p) q:=List.foldl_append
theorem lY {F:List Pq} {s:Int} {l:List Nk} (h:200<l.length):∀ps,bA F s l ps=l
 | []=>rfl
 | p::ps=>by
  show bA F s (if l.length<=200 then _ else l) ps=l
  rw[if_neg (by omega)]
  exact lY h ps
theorem lx {n:Nq} {s:Int}:∀(ps:List (d_)) {l:List Nk},(∀p∈ps,RtB n ⟨s,p⟩)->(∀a∈l,RtB n a)->l.length<=201->(∀a∈bA n.Nw s l ps,RtB n a)/\(bA n.Nw s l ps).length<=201
 | [],l,_,hl,hn=>⟨hl,hn⟩
 | p::ps,l,hp,hl,hn=>by
  show (∀a∈bA n.Nw s (if l.length<=200 then insR n.Nw l ⟨s,p⟩ else l) ps,RtB n a)/\_
  by_cases h:l.length<=200
  · have:=lx ps (l:=insR n.Nw l ⟨s,p⟩) (λq hq=>hp q (IP _ hq)) (λa ha=>by
     rcases IW.1 ((mm n.Nw l ⟨s,p⟩).mem_iff.1 ha) with e | e
     · rw[e]; exact hp p (by simp)
     · exact hl a e) (by rw[lC]; omega)
    rw[if_pos h]
    show _/\(bA n.Nw s (if l.length<=200 then insR n.Nw l ⟨s,p⟩ else l) ps).length<=201
    rw[if_pos h]
    exact this
  · have:=lx ps (l:=l) (λq hq=>hp q (IP _ hq)) hl hn
    rw[if_neg h]
    show _/\(bA n.Nw s (if l.length<=200 then insR n.Nw l ⟨s,p⟩ else l) ps).length<=201
    rw[if_neg h]
    exact this
theorem nA {F:List Pq} {s:Int}:∀(ps:List (d_)) {l:List Nk} {a:Nk},a∈bA F s l ps->a∈l∨∃p∈ps,a=⟨s,p⟩
 | [],l,a,h=>.inl h
 | p::ps,l,a,h=>by
  have h':a∈bA F s (if l.length<=200 then insR F l ⟨s,p⟩ else l) ps:=h
  rcases nA ps h' with h1 | ⟨q,hq,e⟩
  · split at h1
    · rcases IW.1 ((mm F l ⟨s,p⟩).mem_iff.1 h1) with e | e
      · exact .inr ⟨p,by simp,e⟩
      · exact .inl e
    · exact .inl h1
  · exact .inr ⟨q,IP _ hq,e⟩
theorem BV {n:Nq} {to:Int}:∀(k:Nat) {seen:d_} {v:Int} {fs:d_},lq n fs->∀p∈W1 n.Nw to k seen v fs,lq n p/\p.length + 1<=fs.length + k
 | 0,seen,v,fs,_,p,h=>by simp [W1]at h
 | k + 1,seen,v,fs,hf,p,h=>by
  unfold W1 at h
  split at h
  · rw[Iu]at h
    subst h
    exact⟨hf,by omega⟩
  · obtain⟨i,hi,h1⟩:=I7.1 h
    have hi':=I4.1 hi
    split at h1
    · obtain⟨g1,g2⟩:=BV k (λx hx=>by
       rcases Il.1 hx with hx | hx
       · exact hf x hx
       · rw[Iu]at hx; subst hx; omega) p h1
      rw[Ip,IG]at g2
      exact⟨g1,by omega⟩
    · simp at h1
theorem CG {fu:Nat} (hfu:2097153<=fu) {n:Nq} (hn:NetF n) (to:Int) (r:Nk) (seen:d_) (rec_:Pj->Nk->d_->Option Pj) (v:Int) (k:Nat) (hs:seen.length<=1000) (hr:r.Nw.length<=1000)
 (hB:∀i,i<n.Nw.length->∀p∈(if 0<=X_ (gd n.Nw i f0) v/\(seen.any λx=>x==X_ (gd n.Nw i f0) v)=false then W1 n.Nw to k (seen++[X_ (gd n.Nw i f0) v]) (X_ (gd n.Nw i f0) v) (r.Nw++[(i:Int)]) else []),RtB n ⟨r.Np,p⟩)
 (hrec:∀i l,i<n.Nw.length->0<=X_ (gd n.Nw i f0) v->(seen.any λx=>x==X_ (gd n.Nw i f0) v)=false->l.length<=200->(∀a∈l,RtB n a)->rec_ ⟨n,to,l⟩ ⟨r.Np,r.Nw++[(i:Int)]⟩ (seen++[X_ (gd n.Nw i f0) v])=some ⟨n,to,bA n.Nw r.Np l (W1 n.Nw to k (seen++[X_ (gd n.Nw i f0) v]) (X_ (gd n.Nw i f0) v) (r.Nw++[(i:Int)]))⟩) :
 ∀(fk i:Nat) (l:List Nk),i<=n.Nw.length->n.Nw.length - i<fk->(∀a∈l,RtB n a)->l.length<=201 ->
 ∃z,vr fu r seen rec_ v fk i n.Nv n.Nw to l=some (z,n.Nv,n.Nw,to,bA n.Nw r.Np l (((List.range n.Nw.length).drop i).flatMap λi=>if 0<=X_ (gd n.Nw i f0) v/\(seen.any λx=>x==X_ (gd n.Nw i f0) v)=false then W1 n.Nw to k (seen++[X_ (gd n.Nw i f0) v]) (X_ (gd n.Nw i f0) v) (r.Nw++[(i:Int)]) else [])):=by
 have hff:=hn.fib;intro fk;induction fk with
 | zero=>intro i _ _ h; omega
 | succ fk ih =>
  intro i l hi hk hL hl
  rw[vr]
  by_cases h:i<n.Nw.length
  · by_cases h2:l.length<=200
    · have hoth:yJ fu (⟨n.Nv,n.Nw⟩:Nq) (i:Int) v=some (X_ (gd n.Nw i f0) v):=iH fu n i v h
      have hdr:(List.range n.Nw.length).drop i=i::(List.range n.Nw.length).drop (i + 1):=by
       rw[<-IB (as:=List.range n.Nw.length) (i:=i) (h:=by simpa using h),Js]
      have hwi:=vP h (show (n.Nw.length:Int)<=9223372036854775807 by omega)
      rw[if_pos (by simpa using h),decide_eq_true (by omega),Ik,if_pos rfl,hoth,Ik,hdr,Jl,tg,hwi]
      clear hwi
      have hBi:=hB i h
      have hri:=hrec i l h
      obtain⟨y,hy⟩:∃y,y=X_ (gd n.Nw i f0) v:=⟨_,rfl⟩
      rw[<-hy]at hBi hri ⊢
      by_cases h3:0<=y
      · cases h4:seen.any λx=>x==y
        · rw[h4]at hBi
          rw[if_pos ⟨h3,rfl⟩]at hBi
          rw[if_pos (by simpa using h3),iI seen y (by omega) (by omega),h4,Ik,Ik,if_pos (by decide),if_pos ⟨h3,rfl⟩,ml fu r.Nw (by omega),Ik,yN (by rw[IG]; omega),Ik,ml fu seen (by omega),Ik,yN (by rw[IG]; omega),Ik]
          have:=hri h3 h4 h2 hL
          have this':rec_ ({ n:=({ Nv:=n.Nv,Nw:=n.Nw }:Nq),to:=to,list:=l }:Pj) ({ Np:=r.Np,Nw:=r.Nw++[(i:Int)] }:Nk) (seen++[y])=_:=this
          rw[this',Ik]
          obtain⟨g1,g2⟩:=lx _ hBi hL hl
          exact ih (i + 1) _ h (by omega) g1 g2
        · rw[if_pos (by simpa using h3),iI seen y (by omega) (by omega),h4,Ik,Ik,if_neg (by decide),if_neg (λc=>by cases c.2)]
          exact ih (i + 1) l h (by omega) hL hl
      · rw[if_neg (by simpa using h3),Ik,if_neg I9,if_neg λc=>h3 c.1]
        exact ih (i + 1) l h (by omega) hL hl
    · rw[if_pos (by simpa using h),decide_eq_false (by omega),Ik,if_neg I9,lY (by omega)]
      exact⟨_,rfl⟩
  · obtain rfl:i=n.Nw.length:=by omega
    have e:(List.range n.Nw.length).drop n.Nw.length=[]:=by rw[List.drop_eq_nil_iff]; simp
    rw[if_neg (by simp),Ik,if_neg I9,e]
    exact⟨_,rfl⟩
theorem ext_eq {n:Nq} (hn:NetF n) (to:Int):∀(k:Nat) {fu:Nat},2097153 + k<=fu->∀(l:List Nk) (r:Nk) (seen:d_),seen.length + k=n.Nv.length + 1->1<=k->seen.Nodup->(∀x∈seen,0<=x/\x<(n.Nv.length:Int))->r.Nw.length + 1=seen.length->lq n r.Nw->0<=r.Np->r.Np<(n.Nv.length:Int)->l.length<=200->(∀a∈l,RtB n a) ->
 vB fu ⟨n,to,l⟩ r seen=some ⟨n,to,bA n.Nw r.Np l (W1 n.Nw to k seen (gl seen) r.Nw)⟩:=by
 have hm:=hn.hi;have hff:=hn.fib;intro k;induction k with
 | zero=>intro fu _ _ _ _ _ h; omega
 | succ k ih =>
  intro fu hfu l r seen hsl _ hnd hin hrf hfi hs0 hs1 hl hL
  obtain⟨fu',rfl⟩:∃f,fu=f + 1:=⟨fu - 1,by omega⟩
  have hfu':2097153 + k<=fu':=by omega
  rw[vB]
  unfold zF
  have hlast:V_ seen (y_ ((seen.length:Int) - 1))=some (gl seen):=oM (by omega) (by omega)
  have hpB:=λp hp=>BV (to:=to) (k + 1) (seen:=seen) (v:=gl seen) hfi p hp
  rw[hlast,Ik]
  by_cases hv:gl seen=to
  · have e1:(gl seen==to)=true:=by rw[beq_iff_eq]; exact hv
    have hpe:W1 n.Nw to (k + 1) seen (gl seen) r.Nw=[r.Nw]:=by rw[W1,if_pos hv]
    rw[e1,if_pos rfl,put_eq (by omega) hn to l r (by omega) hL ⟨by omega,hfi,hs0,hs1⟩,hpe]
    show some _=some (⟨n,to,if l.length<=200 then insR n.Nw l r else l⟩:Pj)
    rw[if_pos hl]
  · have e1:(gl seen==to)=false:=by rw[beq_eq_false_iff_ne]; exact hv
    have hpe:=rY (F:=n.Nw) (k:=k) (seen:=seen) (fs:=r.Nw) hv
    rw[hpe]at hpB
    obtain⟨z,hz⟩:=CG (fu:=fu') (by omega) hn to r seen (λx1 r' seen=>vB fu' x1 r' seen) (gl seen) k (by omega) (by omega)
     (λi hi p hp=>by
       obtain⟨g1,g2⟩:=hpB p (I7.2 ⟨i,I4.2 hi,hp⟩)
       exact⟨by simp only; omega,g1,hs0,hs1⟩)
     (λi l' hi h0 hns hl' hL'=>by
       have hfm:gd n.Nw i f0∈n.Nw:=aR f0 hi
       have hev:=hn.each _ hfm
       have hom:=qZ h0
       have hnot:X_ (gd n.Nw i f0) (gl seen)∉seen:=λhm=>by
        rw[IJ]at hns
        exact hns (IH.2 ⟨_,hm,by simp⟩)
       have hnd':(seen++[X_ (gd n.Nw i f0) (gl seen)]).Nodup:=Iz.2 ⟨hnd,by simp,λa ha b hb=>by rw[Iu]at hb; subst hb; exact λe=>hnot (e▸ha)⟩
       have hin':∀x∈seen++[X_ (gd n.Nw i f0) (gl seen)],0<=x/\x<(n.Nv.length:Int):=λx hx=>by
        rcases Il.1 hx with hx | hx
        · exact hin x hx
        · rw[Iu]at hx
          subst hx
          omega
       have hsh:=lv _ _ hnd' hin'
       rw[Ip,IG]at hsh
       have:=ih hfu' l' (⟨r.Np,r.Nw++[(i:Int)]⟩:Nk) (seen++[X_ (gd n.Nw i f0) (gl seen)]) (by rw[Ip,IG]; omega) (by omega) hnd' hin' (by simp only[Ip,IG]; omega) (λx hx=>by
        rcases Il.1 hx with hx | hx
        · exact hfi x hx
        · rw[Iu]at hx; subst hx; omega) hs0 hs1 hl' hL'
       rw[oN]at this
       exact this) fu' 0 l (by omega) (by omega) hL (by omega)
    rw[show ((0:Nat):Int)=0 from rfl,IR]at hz
    rw[e1,if_neg I9,hpe]
    have hz':vr fu' r seen (λx1 r' seen=>vB fu' x1 r' seen) (gl seen) fu' 0 (⟨n,to,l⟩:Pj).n.Nv (⟨n,to,l⟩:Pj).n.Nw (⟨n,to,l⟩:Pj).to (⟨n,to,l⟩:Pj).list=_:=hz
    rw[hz',Ik]
def M0 (n:Nq) (s t:Int):List Nk:=bA n.Nw s [] (W1 n.Nw t n.Nv.length [s] s [])
theorem s7 {n:Nq} (hn:NetF n) {s:Int} (h0:0<=s) (h1:s<(n.Nv.length:Int)) (t:Int):(∀a∈M0 n s t,RtB n a)/\(M0 n s t).length<=201:=by
 have hm:=hn.hi;refine lx _ (λp hp=>?_) (by simp) (by simp);obtain⟨g1,g2⟩:=BV _ (λx hx=>by simp at hx) p hp;simp only[JG]at g2;exact⟨by simp only; omega,g1,h0,h1⟩
theorem sk {fu:Nat} (hfu:2097200<=fu) {n:Nq} (hn:NetF n) (s t:Int) (h0:0<=s) (h1:s<(n.Nv.length:Int)):eo fu n s t=some (if (M0 n s t).length<=200 then (M0 n s t,true) else ([],false)):=by
 have hm:=hn.hi;have hlo:=hn.lo;have hB:=s7 hn h0 h1 t;unfold eo;rw[ext_eq hn t n.Nv.length (by omega) [] ⟨s,[]⟩ [s] (by simp; omega) (by omega) (by simp) (by simpa using ⟨h0,h1⟩) (by simp) (λx hx=>by simp at hx) h0 h1 (by simp) (by simp),Ik];show (if decide (((M0 n s t).length:Int) > 200)=true then _ else (C_ ([]:List Nk) (M0 n s t)).bind _)=_
 by_cases h:(M0 n s t).length<=200;rw[if_neg (by simp; omega),ed (by omega),if_pos h]; rfl;rw[if_pos (by simp; omega),if_neg h]
def ee (n:Nq) (s t:Int):Bool:=cO n&&(decide (0<=s/\s<(n.Nv.length:Int))&&(decide (0<=t/\t<(n.Nv.length:Int))&&s != t))
theorem AH {fu:Nat} (hfu:2097153<=fu) (n:Nq) (s t:Int) (hB:NetB n):i9 fu n s t=some (ee n s t):=by
 have hm:=hB.1.1;unfold i9 ee;rw[iC hfu n hB,Ik];cases hn:cO n
 rfl;have e:∀x:Int,(decide (0<=x)&&decide (x<=y_ ((n.Nv.length:Int) - 1)))=decide (0<=x/\x<(n.Nv.length:Int)):=λx=>by
  rw[uZ (n:=(n.Nv.length:Int) - 1) (by omega) (by omega),Jf]
  simp only[Iw,decide_eq_true_eq]
  omega
 simp only[cD,e,Ik,if_true];cases decide (0<=s/\s<(n.Nv.length:Int)) <;> cases decide (0<=t/\t<(n.Nv.length:Int)) <;> rfl
theorem oe {fu:Nat} (hfu:2097200<=fu) (n:Nq) (s t:Int) (hB:NetB n):dL fu n s t=some (if ee n s t=true/\(M0 n s t).length<=200 then (M0 n s t,true) else ([],false)):=by
 unfold dL;rw[AH (by omega) n s t hB,Ik];cases hp:ee n s t
 rfl;have hp':=hp;unfold ee at hp';simp only[Iw,decide_eq_true_eq]at hp';rw[if_neg (by decide),sk hfu (netF hp'.1) s t hp'.2.1.1 hp'.2.1.2,Ik];by_cases h:(M0 n s t).length<=200;rw[if_pos h,if_pos ⟨rfl,h⟩];rw[if_neg h,if_neg λc=>h c.2]
end AT
namespace AT
variable {s i n:Nat}
theorem DO (hs:s<256) (hi:i<8):band ((s / 2 ^ i:Nat):Int) 1=if s.testBit i=true then 1 else 0:=by
 have:∀s:Fin 256,∀i:Fin 8,band ((s.1 / 2 ^ i.1:Nat):Int) 1=if s.1.testBit i.1=true then 1 else 0:=by decide +kernel
 exact this ⟨s,hs⟩ ⟨i,hi⟩
theorem EY (hs:s<256) (hi:i<8) (h:s.testBit i=false):D0 (s:Int) ((2 ^ i:Nat):Int)=((s + 2 ^ i:Nat):Int):=by
 have:∀s:Fin 256,∀i:Fin 8,s.1.testBit i.1=false->D0 (s.1:Int) ((2 ^ i.1:Nat):Int)=((s.1 + 2 ^ i.1:Nat):Int):=by decide +kernel
 exact this ⟨s,hs⟩ ⟨i,hi⟩ h
theorem EZ {j:Nat} (hs:s<256) (hi:i<8) (hj:j<8) (h:s.testBit i=false):(s + 2 ^ i).testBit j=(s.testBit j||decide (i=j)):=by
 have:∀s:Fin 256,∀i:Fin 8,∀j:Fin 8,s.1.testBit i.1=false->(s.1 + 2 ^ i.1).testBit j.1=(s.1.testBit j.1||decide (i.1=j.1)):=by decide +kernel
 exact this ⟨s,hs⟩ ⟨i,hi⟩ ⟨j,hj⟩ h
theorem Dg (hn:n<=8):1<=2 ^ n/\2 ^ n<=256:=by
 have:∀n:Fin 9,1<=2 ^ n.1/\2 ^ n.1<=256:=by decide +kernel
 exact this ⟨n,by omega⟩
theorem GD (hn:n<=8) (hs:s<2 ^ n) (hi:i<n) (h:s.testBit i=false):s + 2 ^ i<2 ^ n:=by
 have:∀n:Fin 9,∀s:Fin 256,∀i:Fin 8,s.1<2 ^ n.1->i.1<n.1->s.1.testBit i.1=false->s.1 + 2 ^ i.1<2 ^ n.1:=by decide +kernel
 have h2:=(Dg hn).2;exact this ⟨n,by omega⟩ ⟨s,by omega⟩ ⟨i,by omega⟩ hs hi h
theorem Df (h:n<=8):shl 1 (n:Int)=some ((2 ^ n:Nat):Int):=by
 have:∀n:Fin 9,shl 1 ((n:Nat):Int)=some ((2 ^ (n:Nat):Nat):Int):=by decide +kernel
 exact this ⟨n,by omega⟩
theorem EX (s i:Nat) (hi:i<=64):shr (s:Int) (i:Int)=some ((s / 2 ^ i:Nat):Int):=by
 unfold shr;rw[if_neg (by omega),IQ,Jy hi,Kj _ (Lu (by omega))];congr 1
end AT
namespace AT
theorem jk {α β:Type} {f:α->List β} {b:Nat}:∀(l:List α),(∀a∈l,(f a).length<=b)->(l.flatMap f).length<=l.length * b
 | [],_=>by simp
 | a::l,h=>by
  rw[Jl,Ip,I3,JQ]
  have h1:=h a IK
  have h2:=jk l λx hx=>h x (IP _ hx)
  omega
theorem qY {F:List Pq} (hF:F.length<=14) (to:Int):∀(k:Nat) (seen:d_) (v:Int) (fs:d_),(W1 F to k seen v fs).length<=14 ^ k
 | 0,_,_,_=>by simp [W1]
 | k + 1,seen,v,fs=>by
  by_cases hv:v=to
  · rw[W1,if_pos hv]
    exact Nat.one_le_pow _ _ (by omega)
  · rw[rY hv,Nat.pow_succ,KH]
    refine Jo (jk (b:=14 ^ k) _ λi _=>?_) ?_
    · split
      · exact qY hF to k _ _ _
      · exact JZ _
    · rw[Jb]
      exact IM _ hF
theorem FR {fu:Nat} (l:d_) (h:l.length<=2097152):yY fu l=some l:=by
 have hc:C_ ([]:d_) l=some l:=by unfold C_; rw[if_pos (by simp; omega)]; rfl
 unfold yY;rw[hc];unfold j8;cases l <;> simp
def pthB (F:List Pq) (to:Int) (k:Nat) (seen:d_) (v:Int) (fs:d_) (i:Nat):List (d_):=if 0<=X_ (gd F i f0) v/\(seen.any λx=>x==X_ (gd F i f0) v)=false then W1 F to k (seen++[X_ (gd F i f0) v]) (X_ (gd F i f0) v) (fs++[(i:Int)]) else []
variable {F:List Pq} {n:Nq} {fu:Nat} {a b:Nk}
theorem BW (hF:F.length<=14) {to:Int} {k:Nat} {seen:d_} {v:Int} {fs:d_} (i:Nat):(pthB F to k seen v fs i).length<=14 ^ k:=by
 unfold pthB;split
 exact qY hF _ _ _ _ _;exact JZ _
theorem Ah (hn:NetF n) {i:Nat} (hi:i<n.Nw.length) {v:Int} (h:0<=X_ (gd n.Nw i f0) v):X_ (gd n.Nw i f0) v<(n.Nv.length:Int):=by
 have hev:=hn.each _ (aR f0 hi);have hom:=qZ h;omega
theorem Ag (hn:NetF n) (to from_ v:Int) (s:Nat) (fs seen:d_) (k:Nat) (rec_:Int->Int->d_->Int->List Nk->Int->Nq->Option (List Nk)) (hs:s<256) (hb:∀j:Nat,j<n.Nv.length->s.testBit j=seen.any λx=>x==(j:Int)) (hfs:fs.length<=1000)
 (hrec:∀(i:Nat) (acc:List Nk),i<n.Nw.length->0<=X_ (gd n.Nw i f0) v->(seen.any λx=>x==X_ (gd n.Nw i f0) v)=false->acc.length + 14 ^ k<=1099511627776 ->
   rec_ (X_ (gd n.Nw i f0) v) ((s + 2 ^ (X_ (gd n.Nw i f0) v).toNat:Nat):Int) (fs++[(i:Int)]) to acc from_ n=some (acc++(W1 n.Nw to k (seen++[X_ (gd n.Nw i f0) v]) (X_ (gd n.Nw i f0) v) (fs++[(i:Int)])).map λp=>(⟨from_,p⟩:Nk))) :
 ∀(fk i:Nat) (acc:List Nk),i<=n.Nw.length->n.Nw.length - i<fk->acc.length + (n.Nw.length - i) * 14 ^ k<=1099511627776 ->
   ∃z,vA fu v (s:Int) fs to from_ n rec_ fk i acc=some (z,acc++(((List.range n.Nw.length).drop i).flatMap (pthB n.Nw to k seen v fs)).map λp=>(⟨from_,p⟩:Nk)):=by
 have hff:=hn.fib;have hnn:=hn.hi;intro fk;induction fk with
 | zero=>intro i _ _ h; omega
 | succ fk ih =>
  intro i acc hi hk hl
  rw[vA]
  by_cases h:i<n.Nw.length
  · have hdr:(List.range n.Nw.length).drop i=i::(List.range n.Nw.length).drop (i + 1):=by
     rw[<-IB (by rw[Jb]; exact h),Js]
    have hsub:(n.Nw.length - i) * 14 ^ k=14 ^ k + (n.Nw.length - (i + 1)) * 14 ^ k:=by
     rw[show n.Nw.length - i=(n.Nw.length - (i + 1)) + 1 by omega,JQ,Kr]
    have hbl:=BW (F:=n.Nw) hff (to:=to) (k:=k) (seen:=seen) (v:=v) (fs:=fs) i
    rw[if_pos (by simpa using h),yb f0 h,Ik,l7,Ik,hdr,Jl,JM,<-Ir,vP h (by omega)]
    by_cases h0:0<=X_ (gd n.Nw i f0) v
    · have hlt:=Ah hn h h0
      obtain⟨y,hy⟩:∃y:Nat,X_ (gd n.Nw i f0) v=(y:Int):=⟨(X_ (gd n.Nw i f0) v).toNat,by omega⟩
      have hrec':=hrec i
      have hpB:pthB n.Nw to k seen v fs i=if (seen.any λx=>x==(y:Int))=false then W1 n.Nw to k (seen++[(y:Int)]) (y:Int) (fs++[(i:Int)]) else []:=by
       unfold pthB
       rw[hy]
       by_cases hs2:(seen.any λx=>x==(y:Int))=false
       · rw[if_pos ⟨KR y,hs2⟩,if_pos hs2]
       · rw[if_neg (λh=>hs2 h.2),if_neg hs2]
      rw[hy]at hlt hrec' h0 ⊢
      have hy8:y<8:=by omega
      have hbit:=hb y (by omega)
      rw[if_pos (by simp),EX s y (by omega),Ik,DO hs hy8,Ik,Df (by omega),Ik]
      by_cases ht:s.testBit y=true
      · have hsn:(seen.any λx=>x==(y:Int))=true:=by rw[<-hbit]; exact ht
        rw[if_pos ht,if_neg (by decide)]
        rw[hpB,if_neg (by rw[hsn]; decide),Ka,II]
        exact ih (i + 1) acc h (by omega) (by omega)
      · have ht':s.testBit y=false:=by simpa using ht
        have hsn:(seen.any λx=>x==(y:Int))=false:=by rw[<-hbit]; exact ht'
        rw[if_neg ht,if_pos (by decide),yN (by rw[IG]; omega),Ik,EY hs hy8 ht']
        have h5:=hrec' acc h h0 hsn (by omega)
        rw[IQ]at h5
        rw[h5,Ik,hpB,if_pos hsn]
        refine ih (i + 1) _ h (by omega) ?_
        rw[hpB,if_pos hsn]at hbl
        rw[Ip,I5]
        omega
    · rw[if_neg (by simpa using h0),Ik,if_neg I9]
      have hpB:pthB n.Nw to k seen v fs i=[]:=by unfold pthB; rw[if_neg (λh=>h0 h.1)]
      rw[hpB,Ka,II]
      exact ih (i + 1) acc h (by omega) (by omega)
  · obtain rfl:i=n.Nw.length:=by omega
    rw[if_neg (by simp),Jj (by rw[Jb]; exact IC _),JO,Ka,II]
    exact⟨_,rfl⟩
theorem B2 (hn:NetF n) (to from_:Int):∀(k:Nat) {fu:Nat},2097153 + k<=fu->∀(acc:List Nk) (v:Int) (seen:d_) (s:Nat) (fs:d_),seen.length + k=n.Nv.length + 1->1<=k->seen.Nodup->(∀x∈seen,0<=x/\x<(n.Nv.length:Int))->fs.length + 1=seen.length->s<2 ^ n.Nv.length->(∀j:Nat,j<n.Nv.length->s.testBit j=seen.any λx=>x==(j:Int))->acc.length + 14 ^ k<=1099511627776 ->
 vu fu v (s:Int) fs to acc from_ n=some (acc++(W1 n.Nw to k seen v fs).map λp=>(⟨from_,p⟩:Nk)):=by
 have hm:=hn.hi;have hff:=hn.fib;intro k;induction k with
 | zero=>intro fu _ _ _ _ _ _ _ h; omega
 | succ k ih =>
  intro fu hfu acc v seen s fs hsl _ hnd hin hrf hsm hb hl
  obtain⟨fu',rfl⟩:∃f,fu=f + 1:=⟨fu - 1,by omega⟩
  have hs256:s<256:=by have:=(Dg hm).2; omega
  have h14:1<=14 ^ (k + 1):=Nat.one_le_pow _ _ (by omega)
  rw[vu]
  unfold zb
  by_cases hv:v=to
  · rw[if_pos (by rw[beq_iff_eq]; exact hv),FR fs (by omega),Ik,yN (by rw[IG]; omega),W1,if_pos hv]
    rfl
  · rw[if_neg (by rw[beq_iff_eq]; exact hv),rY hv]
    have hsp:14 ^ (k + 1)=14 * 14 ^ k:=by rw[Nat.pow_succ,KH]
    have hmul:n.Nw.length * 14 ^ k<=14 * 14 ^ k:=IM _ hff
    obtain⟨z,hz⟩:=Ag (fu:=fu') hn to from_ v s fs seen k (λat' seen fibers cap cap2 cap3 cap4=>vu fu' at' seen fibers cap cap2 cap3 cap4) hs256 hb (by omega)
     (λi acc' hi h0 hns hl'=>by
       have hlt:=Ah hn hi h0
       obtain⟨y,hy⟩:∃y:Nat,X_ (gd n.Nw i f0) v=(y:Int):=⟨(X_ (gd n.Nw i f0) v).toNat,by omega⟩
       rw[hy]at hlt h0 hns ⊢
       have hyn:y<n.Nv.length:=by omega
       have hbit:s.testBit y=false:=by rw[hb y hyn]; exact hns
       have hnot:(y:Int)∉seen:=λhmem=>by
        rw[IJ]at hns
        exact hns (IH.2 ⟨_,hmem,by simp⟩)
       have hnd':(seen++[(y:Int)]).Nodup:=Iz.2 ⟨hnd,by simp,λa ha b hb=>by rw[Iu]at hb; subst hb; exact λe=>hnot (e▸ha)⟩
       have hin':∀x∈seen++[(y:Int)],0<=x/\x<(n.Nv.length:Int):=λx hx=>by
        rcases Il.1 hx with hx | hx
        · exact hin x hx
        · rw[Iu]at hx; subst hx; omega
       have hsh:=lv _ _ hnd' hin'
       rw[Ip,IG]at hsh
       rw[IQ]
       refine ih (by omega) acc' (y:Int) (seen++[(y:Int)]) (s + 2 ^ y) (fs++[(i:Int)]) (by rw[Ip,IG]; omega) (by omega) hnd' hin' (by simp only[Ip,IG]; omega) (GD hm hsm hyn hbit) (λj hj=>?_) hl'
       rw[EZ hs256 (by omega) (by omega) hbit,hb j hj,List.any_append]
       congr 1
       by_cases e:y=j
       · subst e; simp
       · simp [e]; omega) fu' 0 acc (by omega) (by omega) (by rw[Kg]; omega)
    rw[show ((0:Nat):Int)=0 from rfl,IR]at hz
    rw[hz,Ik]
    rfl
theorem qi (hn:NetF n) (r:Nk) (hf:lq n r.Nw) (hl:r.Nw.length<=100):∀(fk i:Nat) (s:Int),i<=r.Nw.length->r.Nw.length - i<fk->0<=s->s<=5000 * (i:Int)->∃z,yV fu n r fk s i=some (s + lenR n.Nw (r.Nw.drop i),z):=by
 intro fk;induction fk with
 | zero=>intro i _ _ h; omega
 | succ fk ih =>
  intro i s hi hk h0 h1
  rw[yV]
  by_cases h:i<r.Nw.length
  · obtain⟨e1,e2⟩:=rn (hf _ (IE h))
    have h2:=hn.each _ e2
    rw[if_pos (by simpa using h),vw h,Ik,e1,Ik,vP h (by omega),uZ (by omega) (by omega),<-IB h,lenR]
    obtain⟨z,hz⟩:=ih (i + 1) (s + (gd n.Nw r.Nw[i].toNat f0).Px) h (by omega) (by omega) (by omega)
    exact⟨z,by rw[hz]; congr 2; omega⟩
  · obtain rfl:i=r.Nw.length:=by omega
    rw[if_neg (by simp),IX,lenR,LD]
    exact⟨_,rfl⟩
theorem kn (hfu:2097153<=fu) {n:Nq} (hn:NetF n) (r:Nk) (hf:lq n r.Nw) (hl:r.Nw.length<=100):bq fu n r=some (lenR n.Nw r.Nw):=by
 obtain⟨z,hz⟩:=qi (fu:=fu) hn r hf hl fu 0 0 (by omega) (by omega) (by omega) (by omega);rw[show ((0:Nat):Int)=0 from rfl,IR,LE]at hz;unfold bq;rw[hz]; rfl
theorem tR (a b:d_) (ha:a.length<=2097152):∀(fk i:Nat),i<=a.length->a.length - i<fk ->
 ((vN fu a b fk i).bind λout=>out.on some λz=>if decide ((a.length:Int)<(b.length:Int)) then some (-1) else some 0)=some (cmpL (a.drop i) (b.drop i)):=by
 intro fk;induction fk with
 | zero=>intro i _ h; omega
 | succ fk ih =>
  intro i hi hk
  rw[vN]
  by_cases h:i<a.length
  · rw[if_pos (by simpa using h),vw h,Ik,<-IB h]
    by_cases h2:i<b.length
    · rw[if_neg (by simpa using h2),vw h2,Ik,iL,Ik,<-IB h2,cmpL]
      by_cases hc:a[i]=b[i]
      · rw[if_pos hc,hc,(ap _ _).2 rfl,if_neg (by decide),vP h (by omega)]
        exact ih (i + 1) h (by omega)
      · have hne:cmpI a[i] b[i]≠0:=λe=>hc ((ap _ _).1 e)
        rw[if_neg hc,if_pos (by rw[bne_iff_ne]; exact hne)]
        rfl
    · rw[if_pos (by simp; omega),Jj (show b.length<=i by omega)]
      rfl
  · obtain rfl:i=a.length:=by omega
    rw[if_neg (by simp),IX]
    show (if decide ((a.length:Int)<(b.length:Int)) then some (-1) else some 0)=_
    by_cases h2:a.length<b.length
    · rw[if_pos (by simpa using h2),<-IB h2]; rfl
    · rw[if_neg (by simpa using h2),Jj (by omega)]; rfl
theorem CS (hfu:2097153<=fu) (a b:d_) (ha:a.length<=2097152):zG fu a b=some (cmpL a b):=by
 have:=tR (fu:=fu) a b ha fu 0 (by omega) (by omega);rw[show ((0:Nat):Int)=0 from rfl,IR,IR]at this;exact this
theorem ko (hfu:2097153<=fu) {n:Nq} (hn:NetF n) {a b:Nk} (ha:RtB n a) (hb:RtB n b):vI fu a b n=some (cmpR n.Nw a b):=by
 have a1:=ha.short;have b1:=hb.short;unfold vI bL;rw[kn hfu hn a ha.fib (by omega),kn hfu hn b hb.fib (by omega)];simp only[Ik,iL,CS hfu a.Nw b.Nw (by omega),FJ _ _ _ _ (show 4<fu by omega)];rfl
theorem dQ (x y:Int):cmpI x y<0↔x<y:=by unfold cmpI; split <;> (try split) <;> omega
theorem Bm (x y:Int):cmpI y x=- cmpI x y:=by unfold cmpI; split <;> (try split) <;> (try split) <;> omega
theorem jS:∀{a b:d_},cmpL a b=0↔a=b
 | [],[]=>by simp [cmpL]
 | [],b::y=>by simp [cmpL]
 | a::x,[]=>by simp [cmpL]
 | a::x,b::y=>by
  unfold cmpL
  by_cases h:a=b
  · rw[if_pos h,jS,h]; simp
  · rw[if_neg h,ap]; simp [h]
theorem qz:∀(a b:d_),cmpL b a=- cmpL a b
 | [],[]=>by simp [cmpL]
 | [],b::y=>by simp [cmpL]
 | a::x,[]=>by simp [cmpL]
 | a::x,b::y=>by
  unfold cmpL
  by_cases h:a=b
  · rw[if_pos h,if_pos h.symm]; exact qz x y
  · rw[if_neg h,if_neg (λe=>h e.symm)]; exact Bm a b
theorem nP:∀{a b c:d_},cmpL a b<0->cmpL b c<0->cmpL a c<0
 | [],b,[],h1,h2=>by
  cases b with
  | nil=>simp [cmpL]at h1
  | cons b y=>simp [cmpL]at h2
 | [],b,c::z,h1,h2=>by simp [cmpL]
 | a::x,[],c,h1,h2=>by simp [cmpL]at h1
 | a::x,b::y,[],h1,h2=>by simp [cmpL]at h2
 | a::x,b::y,c::z,h1,h2=>by
  unfold cmpL at h1 h2 ⊢
  by_cases e1:a=b
  · rw[if_pos e1]at h1
    by_cases e2:b=c
    · rw[if_pos e2]at h2
      rw[if_pos (e1.trans e2)]
      exact nP h1 h2
    · rw[if_neg e2,dQ]at h2
      rw[if_neg (by omega),dQ]
      omega
  · rw[if_neg e1,dQ]at h1
    by_cases e2:b=c
    · rw[if_neg (by omega),dQ]
      omega
    · rw[if_neg e2,dQ]at h2
      rw[if_neg (by omega),dQ]
      omega
theorem Ed {a b c d:Int}:or4 a b c d<0↔a<0∨(a=0/\(b<0∨(b=0/\(c<0∨(c=0/\d<0))))):=by
 unfold or4;by_cases h1:a=0;by_cases h2:b=0;by_cases h3:c=0;by_cases h4:d=0 <;> simp [h1,h2,h3,h4]
 simp [h1,h2,h3];simp [h1,h2];simp [h1]
theorem oW:cmpR F a b<0↔lenR F a.Nw<lenR F b.Nw∨(lenR F a.Nw=lenR F b.Nw/\(a.Nw.length<b.Nw.length∨(a.Nw.length=b.Nw.length/\(cmpL a.Nw b.Nw<0∨(a.Nw=b.Nw/\a.Np<b.Np))))):=by
 unfold cmpR;rw[Ed,dQ,ap,dQ,ap,jS,dQ,Int.ofNat_lt,Int.natCast_inj]
theorem sH (F:List Pq) (a:Nk):¬cmpR F a a<0:=by
 rw[oW];have:=(jS (a:=a.Nw) (b:=a.Nw)).2 rfl;omega
theorem kw {c:Nk} (h1:cmpR F a b<0) (h2:cmpR F b c<0):cmpR F a c<0:=by
 rw[oW]at *;have t:=@nP a.Nw b.Nw c.Nw;rcases h1 with h1 | ⟨e1,h1 | ⟨e2,h1 | ⟨e3,h1⟩⟩⟩ <;> rcases h2 with h2 | ⟨g1,h2 | ⟨g2,h2 | ⟨g3,h2⟩⟩⟩ <;> (try rw[e3]at *) <;> (try rw[<-g3]at *) <;> (first | (left; omega) | (right; refine⟨by omega,?_⟩; first | (left; omega) | (right; refine⟨by omega,?_⟩; first | (left; first | assumption | exact t h1 h2) | (right; exact⟨rfl,by omega⟩))))
theorem sG (h1:¬cmpR F a b<0) (h2:¬cmpR F b a<0):a=b:=by
 rw[oW]at h1 h2;have h3:=qz a.Nw b.Nw;have e:a.Nw=b.Nw:=by
  rw[<-jS]
  omega
 obtain⟨sa,fa⟩:=a;obtain⟨sb,fb⟩:=b;simp only at e;subst e;have h1':¬sa<sb:=λh=>h1 (.inr ⟨rfl,.inr ⟨rfl,.inr ⟨rfl,h⟩⟩⟩);have h2':¬sb<sa:=λh=>h2 (.inr ⟨rfl,.inr ⟨rfl,.inr ⟨rfl,h⟩⟩⟩);have:sa=sb:=by omega
 rw[this]
def RtS (F:List Pq) (l:List Nk):Prop:=l.Pairwise λa b=>¬cmpR F b a<0
theorem qh (F:List Pq) (l:List Nk) (r:Nk):∀i,(∀q,insN F l r i<=q->q<i->cmpR F r (gd l q rt0)<0)/\(insN F l r i=0∨¬cmpR F r (gd l (insN F l r i - 1) rt0)<0)
 | 0=>⟨λq h1 h2=>by omega,.inl rfl⟩
 | i + 1=>by
  unfold insN
  by_cases h:cmpR F r (gd l i rt0)<0
  · rw[if_pos h]
    obtain⟨h1,h2⟩:=qh F l r i
    refine⟨λq h3 h4=>?_,h2⟩
    by_cases e:q=i
    · rw[e]; exact h
    · exact h1 q h3 (by omega)
  · rw[if_neg h]
    exact⟨λq h3 h4=>by omega,.inr (by simpa using h)⟩
theorem CU {c:Nk} (h1:¬cmpR F b a<0) (h2:¬cmpR F c b<0):¬cmpR F c a<0:=by
 intro h;by_cases h3:cmpR F a b<0;exact h2 (kw h h3);have:=sG h3 h1;subst this;exact h2 h
theorem rl {l:List Nk} (r:Nk) (h:RtS F l):RtS F (insR F l r):=by
 have hle:=oI F l r l.length;obtain⟨h1,h2⟩:=qh F l r l.length;unfold insR;generalize insN F l r l.length=j at hle h1 h2;have hs:RtS F (l.take j++l.drop j):=by rw[IS]; exact h
 obtain⟨s1,s2,s3⟩:=Jm.1 hs;refine Jm.2 ⟨s1,JE.2 ⟨λx hx=>?_,s2⟩,λa ha b hb=>?_⟩;obtain⟨q,hq,rfl⟩:=IF.1 hx;rw[IT]at hq;have:=h1 (j + q) (by omega) (by omega);rw[bv rt0 (by omega)]at this;rw[JS];exact λh=>sH F r (kw this h);have har:¬cmpR F r a<0:=by
  rcases h2 with h2 | h2
  · subst h2; simp at ha
  · obtain⟨q,hq,rfl⟩:=IF.1 ha
    rw[Is]at hq
    rw[Ja]
    rw[bv rt0 (by omega)]at h2
    by_cases e:q=j - 1
    · subst e; exact h2
    · exact CU (Jt.1 h q (j - 1) (by omega) (by omega) (by omega)) h2
 rcases IW.1 hb with rfl | hb
 exact har;exact s3 a ha b hb
theorem lX (F:List Pq) (s:Int):∀(ps:List (d_)) (l:List Nk),l.length + ps.length<=201->RtS F l->RtS F (bA F s l ps)/\(bA F s l ps).Perm (l++ps.map λp=>(⟨s,p⟩:Nk))
 | [],l,_,h=>⟨h,by simp [bA]⟩
 | p::ps,l,hl,h=>by
  rw[I3]at hl
  have e:bA F s l (p::ps)=bA F s (insR F l ⟨s,p⟩) ps:=by
   show bA F s (if l.length<=200 then insR F l ⟨s,p⟩ else l) ps=_
   rw[if_pos (by omega)]
  rw[e]
  obtain⟨h1,h2⟩:=lX F s ps (insR F l ⟨s,p⟩) (by rw[lC]; omega) (rl _ h)
  refine⟨h1,h2.trans ?_⟩
  rw[Je]
  exact ((mm F l ⟨s,p⟩).append_right _).trans JP.symm
theorem j6 (F:List Pq) (s:Int):∀(ps:List (d_)) (l:List Nk),l.length<=201->(bA F s l ps).length=min (l.length + ps.length) 201
 | [],l,h=>by show l.length=_; rw[JG]; omega
 | p::ps,l,h=>by
  show (bA F s (if l.length<=200 then insR F l ⟨s,p⟩ else l) ps).length=_
  rw[I3]
  split
  · rw[j6 F s ps _ (by rw[lC]; omega),lC]; omega
  · rw[j6 F s ps _ h]; omega
theorem sY {α:Type} [DecidableEq α] {cmp:α->α->Option Int} {l:List α} (hF:SoF cmp l):∃r,lU cmp l=some r:=by
 unfold lU;rw[if_pos (soF.2 hF)];exact⟨_,rfl⟩
theorem sd {α:Type} {cmp:α->α->Option Int} {a b:α} {c:Int} (h:cmp a b=some c):U1 cmp a b=decide (c<0):=by
 unfold U1;rw[h]
theorem soR (hfu:2097153<=fu) {n:Nq} (hn:NetF n) {l:List Nk} (hl:∀a∈l,RtB n a) (hlen:l.length<=1099511627776):SoF (λa b=>vI fu a b n) l:=by
 have e:∀a∈l,∀b∈l,U1 (λa b=>vI fu a b n) a b=decide (cmpR n.Nw a b<0):=λa ha b hb=>sd (ko hfu hn (hl a ha) (hl b hb));refine⟨λa ha=>?_,λa ha b hb h1 h2=>?_,λa ha b hb c hc h1 h2=>?_,λa ha b hb=>?_,by omega⟩;rw[e a ha a ha]; exact decide_eq_false (sH _ _);rw[e a ha b hb,decide_eq_false_iff_not]at h1;rw[e b hb a ha,decide_eq_false_iff_not]at h2;exact sG h1 h2;rw[e a ha b hb,decide_eq_true_eq]at h1;rw[e b hb c hc,decide_eq_true_eq]at h2;rw[e a ha c hc,decide_eq_true_eq];exact kw h1 h2;rw[ko hfu hn (hl a ha) (hl b hb)]; rfl
theorem GC (hfu:2097153<=fu) {n:Nq} (hn:NetF n) {s:Int} {ps:List (d_)} (hl:∀p∈ps,RtB n ⟨s,p⟩) (hlen:ps.length<=1099511627776):∃r,lU (λa b=>vI fu a b n) (ps.map λp=>(⟨s,p⟩:Nk))=some r/\r.length=ps.length/\(ps.length<=200->r=bA n.Nw s [] ps):=by
 have hm:∀a∈ps.map (λp=>(⟨s,p⟩:Nk)),RtB n a:=λa ha=>by
  obtain⟨p,hp,rfl⟩:=Jc.1 ha
  exact hl p hp
 have hF:=soR hfu hn hm (by rw[I5]; exact hlen);obtain⟨r,hr⟩:=sY hF;refine⟨r,hr,?_,λh=>?_⟩;have:=(oh hr).2.1.length_eq;rwa [I5]at this;obtain⟨h1,h2⟩:=lX n.Nw s ps [] (by rw[JG]; omega) .nil;rw[IY]at h2;have h3:=rK hF h2 (h1.imp_of_mem λha hb h=>by
  rw[sd (cmp:=λa b=>vI fu a b n) (ko hfu hn (hm _ (h2.mem_iff.1 hb)) (hm _ (h2.mem_iff.1 ha)))]
  exact decide_eq_false h)
 rw[hr]at h3;exact Im h3
theorem AN (n:Nq) (h1:2<=n.Nv.length) (h2:n.Nv.length<=8) (l:d_) (hl:l.length<=100) (hfu:2097153<=fu):vk fu l n=some (l.any λv=>!(decide (0<=v)&&decide (v<=(n.Nv.length:Int) - 1))):=by
 unfold vk vX;rw[yh (l:=l) (G:=uT fu l n) (λv=>!(decide (0<=v)&&decide (v<=(n.Nv.length:Int) - 1))) (λi=>(i:Int)) (by omega)
  (λfk i hi=>by
    rw[uT,if_pos (by simpa using hi),vw hi]
    simp only[Ik,dP,xZ]
    rw[uZ (n:=(n.Nv.length:Int) - 1) (by omega) (by omega)])
  (λfk=>by rw[uT,if_neg (by simp)]) fu (by omega)]
 cases h:l.any (λv=>!(decide (0<=v)&&decide (v<=(n.Nv.length:Int) - 1)));rfl;rw[if_pos rfl];show some (decide (((l.findIdx _:Nat):Int)>=0))=some true;rw[decide_eq_true (KR _)]
theorem AO (hfu:2097153<=fu) (n:Nq) (s t:Int) (hB:NetB n):((eS fu n [s,t]).bind λy=>if (!y)=true then some true else some (s==t))=some (!ee n s t):=by
 unfold eS ee;rw[iJ hfu n hB];simp only[Ik];cases hn:cO n
 rfl;have hF:=netF hn;rw[if_pos rfl,AN n hF.lo hF.hi [s,t] (by simp) hfu];simp only[Ik,K4,List.any_nil,Bool.or_false,Jq,Bool.not_or,Bool.not_not];by_cases h1:0<=s/\s<(n.Nv.length:Int);have e1:(decide (0<=s)&&decide (s<=(n.Nv.length:Int) - 1))=true:=by simp; omega
 by_cases h2:0<=t/\t<(n.Nv.length:Int);have e2:(decide (0<=t)&&decide (t<=(n.Nv.length:Int) - 1))=true:=by simp; omega
 rw[e1,e2,decide_eq_true h1,decide_eq_true h2];simp [bne];have e2:(decide (0<=t)&&decide (t<=(n.Nv.length:Int) - 1))=false:=by
  rw[IJ]
  intro h
  simp only[Iw,decide_eq_true_eq]at h
  omega
 rw[e1,e2,decide_eq_true h1,decide_eq_false h2];rfl;have e1:(decide (0<=s)&&decide (s<=(n.Nv.length:Int) - 1))=false:=by
  rw[IJ]
  intro h
  simp only[Iw,decide_eq_true_eq]at h
  omega
 rw[e1,decide_eq_false h1];rfl
theorem oK (hfu:2097200<=fu) (n:Nq) (s t:Int) (hB:NetB n):cA fu n s t=some (if ee n s t=true/\(M0 n s t).length<=200 then (M0 n s t,true) else ([],false)):=by
 unfold cA;have h:=AO (show 2097153<=fu by omega) n s t hB;rw[h,Ik];cases hp:ee n s t
 rw[if_pos (by rfl),if_neg (λh=>by simp at h)];have hp':=hp;unfold ee at hp';simp only[Iw,decide_eq_true_eq,bne_iff_ne]at hp';obtain⟨hn,⟨s0,s1⟩,ht,hne⟩:=hp';have hF:=netF hn;have hm:=hF.hi;have hlo:=hF.lo;obtain⟨sn,hsn⟩:∃k:Nat,s=(k:Int):=⟨s.toNat,by omega⟩;have hps:vu fu s ((2 ^ sn:Nat):Int) [] t [] s n=some ((W1 n.Nw t n.Nv.length [s] s []).map λp=>(⟨s,p⟩:Nk)):=by
  have:=B2 hF t s n.Nv.length (fu:=fu) (by omega) [] s [s] (2 ^ sn) [] (by simp; omega) (by omega) (by simp) (λx hx=>by rw[Iu]at hx; subst hx; exact⟨s0,s1⟩) rfl (Nat.pow_lt_pow_right (by omega) (by omega)) (λj hj=>by
   rw[Nat.testBit_two_pow,K4,List.any_nil,Bool.or_false,hsn]
   by_cases e:sn=j
   · subst e; simp
   · simp [e]; omega) (by
   have:(14:Nat) ^ n.Nv.length<=14 ^ 8:=KB (by omega) hm
   have e8:(14:Nat) ^ 8=1475789056:=by decide
   rw[JG]; omega)
  rwa [IY]at this
 have hpl:=qY hF.fib t n.Nv.length [s] s [];have h148:(14:Nat) ^ n.Nv.length<=14 ^ 8:=KB (by omega) hm;have e8:(14:Nat) ^ 8=1475789056:=by decide
 have hpB:∀p∈W1 n.Nw t n.Nv.length [s] s [],RtB n ⟨s,p⟩:=λp hp=>by
  obtain⟨g1,g2⟩:=BV (n:=n) (to:=t) n.Nv.length (seen:=[s]) (v:=s) (fs:=[]) (λx hx=>by simp at hx) p hp
  exact⟨by simp only; simp only[JG]at g2; omega,g1,s0,s1⟩
 obtain⟨r,hr,hrl,hr2⟩:=GC (fu:=fu) (by omega) hF hpB (by omega);have hlen:(M0 n s t).length=min (W1 n.Nw t n.Nv.length [s] s []).length 201:=by
  unfold M0
  rw[j6 _ _ _ _ (by simp),JG,Jd]
 rw[if_neg (by simp)];unfold bK u7;rw[if_pos (by rw[bne_iff_ne]; exact hne)];have hsh:shl 1 s=some ((2 ^ sn:Nat):Int):=by rw[hsn]; exact Df (by omega)
 rw[hsh,Ik,hps,Ik,hr];simp only[Ik];by_cases h200:(W1 n.Nw t n.Nv.length [s] s []).length<=200;rw[if_neg (by simp; omega),if_pos ⟨trivial,by omega⟩,hr2 h200];rfl;rw[if_pos (by simp; omega),if_neg (λh=>by omega)]
end AT
namespace AT
end AT
namespace AT
structure Cur (c:Nd) (k:Int):Prop where
 by_:∀e∈c.code,0<=e.n/\e.n<=255
 len:c.code.length<=65536
 lo:0<=c.at_
 hi:c.at_<=k
theorem Gp (q:Int):0<=xn q 255/\xn q 255<=255:=by
 unfold xn;have h:(BitVec.ofInt 64 q &&& BitVec.ofInt 64 255).toNat<=255:=by
  rw[Lk]
  exact Jo Nat.and_le_right (by decide)
 unfold wu64;omega
variable {fu:Nat} {c:Nd} {k:Int}
theorem As (hc:Cur c k) (hk:k<=4611686018427387904):∃r c',aF fu c=some (r,c')/\0<=r/\r<=255/\Cur c' (k + 1):=by
 have h0:=hc.lo;have h1:=hc.hi;have hl:=hc.len;have e1:y_ (c.at_ + 1)=c.at_ + 1:=uZ (by omega) (by omega);unfold aF;have hsh:∀x:Int,shrk 64 x 40=some (x.fdiv (2 ^ (min (40:Int).toNat 64))):=λx=>by unfold shrk; rw[if_neg (by omega)]
 simp only[e1,hsh,Ik];have hcur:∀s,Cur ⟨c.code,c.at_ + 1,s⟩ (k + 1):=λs=>⟨hc.by_,hc.len,by simp only; omega,by simp only; omega⟩;have ha:∀q:Int,0<=y_ (xn q 255)/\y_ (xn q 255)<=255:=λq=>by
  have:=Gp q
  rw[uZ (by omega) (by omega)]; exact this
 by_cases h:c.at_<c.code.length;simp only[h,decide_true,if_true];obtain⟨e,he,hm⟩:=an (l:=c.code) (i:=c.at_) h0 h;have hb:=hc.by_ e hm;have e2:y_ e.n=e.n:=uZ (by omega) (by omega);simp only[he,Ik,e2];split
 exact⟨_,_,rfl,hb.1,hb.2,hcur _⟩;exact⟨_,_,rfl,(ha _).1,(ha _).2,hcur _⟩;simp only[h,decide_false,Iy,if_false];split
 exact⟨_,_,rfl,by omega,by omega,hcur _⟩;exact⟨_,_,rfl,(ha _).1,(ha _).2,hcur _⟩
theorem rh {α β:Type} (c:Prop) [Decidable c] (a b:Option α) (f:α->Option β):(if c then a else b).bind f=if c then a.bind f else b.bind f:=by split <;> rfl
theorem Cur.mono {k':Int} (hc:Cur c k) (h:k<=k'):Cur c k':=⟨hc.by_,hc.len,hc.lo,Int.le_trans hc.hi h⟩
theorem vD (hc:Cur c k) (hk:k<=4611686018427387000) (n:Int) (hn:n<=1099511627776):∃r c',ul fu c n=some (r,c')/\0<=r/\(1<=n->r<n)/\Cur c' (k + 2):=by
 unfold ul;by_cases h:n<=1;simp only[h,decide_true,if_true];exact⟨_,_,rfl,by omega,by omega,hc.mono (by omega)⟩;simp only[h,decide_false,Iy,if_false];obtain⟨r,c',g1,g2,g3,g4⟩:=As (fu:=fu) hc (by omega);simp only[g1,Ik];have hr:∀x:Int,0<=x->∃q,rem x n=some q/\0<=q/\q<n:=λx hx=>by
  unfold rem
  rw[if_neg (by omega),K8 hx]
  exact⟨_,rfl,Int.emod_nonneg _ (by omega),Int.emod_lt_of_pos _ (by omega)⟩
 by_cases h2:n > 200;simp only[h2,decide_true,if_true];obtain⟨r2,c2,q1,q2,q3,q4⟩:=As (fu:=fu) g4 (by omega);simp only[q1,Ik];rw[uZ (n:=r * 256) (by omega) (by omega),uZ (by omega) (by omega)];obtain⟨q,p1,p2,p3⟩:=hr (r * 256 + r2) (by omega);rw[p1];exact⟨_,_,rfl,p2,λ_=>p3,q4.mono (by omega)⟩;simp only[h2,decide_false,Iy,if_false];obtain⟨q,p1,p2,p3⟩:=hr r g2;rw[p1];exact⟨_,_,rfl,p2,λ_=>p3,g4.mono (by omega)⟩
theorem dp (hc:Cur c k) (hk:k<=4611686018427387000) (l:d_) (h1:1<=l.length) (hn:l.length<=1099511627776):∃r c',vg fu c l=some (r,c')/\r∈l/\Cur c' (k + 2):=by
 unfold vg;obtain⟨r,c',g1,g2,g3,g4⟩:=vD (fu:=fu) hc hk (l.length:Int) (by omega);obtain⟨e,he,hm⟩:=an (l:=l) (i:=r) g2 (g3 (by omega));simp only[g1,Ik,he];exact⟨_,_,rfl,hm,g4⟩
theorem wE {code:List By} (h:∀e∈code,0<=e.n/\e.n<=255) (hl:code.length<=65536):Cur ⟨code,0,⟨0⟩⟩ 0:=⟨h,hl,Kh _,Kh _⟩
end AT
namespace AT
structure NetD (n:Nq):Prop where
 n1:1<=n.Nv.length
 n2:n.Nv.length<=20
 ns:∀e∈n.Nv,e.size<=100
 f2:n.Nw.length<=20
theorem NetD.B {n:Nq} (h:NetD n):NetB n:=⟨⟨by have:=h.n2; omega,λe he=>by have:=h.ns e he; omega⟩,by have:=h.f2; omega⟩
theorem FH {a n:Int} (ha:0<=a) (hn:0<n):∃q,rem a n=some q/\0<=q/\q<n:=by
 unfold rem;rw[if_neg (by omega),K8 ha];exact⟨_,rfl,Int.emod_nonneg _ (by omega),Int.emod_lt_of_pos _ hn⟩
theorem app1 {α:Type} {l:List α} {x:α} (h:l.length<=1000000):C_ l [x]=some (l++[x]):=yN (by simp; omega)
theorem sg (fu:Nat) (a b:Int):∃r,cJ fu a b=some r/\(r=a∨r=b):=by
 unfold cJ; split <;> exact⟨_,rfl,by simp⟩
theorem Aw (fu:Nat) (a b:Int):∃r,dx fu a b=some r/\(r=a∨r=b):=by
 unfold dx; split <;> exact⟨_,rfl,by simp⟩
variable {fu:Nat}
theorem tv (l:List Pq) (f:Pq) (hl:l.length<=1000000):∀(fk i:Nat),i<=l.length->l.length - i<fk->∃j:Nat,aZ fu l f fk i=some (j:Int)/\j<=l.length:=by
 intro fk;induction fk with
 | zero=>intro i _ h; omega
 | succ fk ih =>
  intro i hi hf
  rw[aZ]
  by_cases h:i<l.length
  · have hlt:((i:Int)<(l.length:Int))=True:=by simp; omega
    simp only[hlt,decide_true,if_true,vw h,Ik,mj,vP h (show (l.length:Int)<=9223372036854775807 by omega)]
    split
    · exact ih (i + 1) h (by omega)
    · exact⟨i,rfl,hi⟩
  · have hlt:((i:Int)<(l.length:Int))=False:=by simp; omega
    simp only[hlt,decide_false,Iy,if_false,Ik]
    exact⟨i,rfl,hi⟩
theorem so (hfu:2097153<=fu) (l:List Pq) (f:Pq) (hl:l.length<=1000000):∃r,ep fu l f=some r/\r.length=l.length + 1:=by
 unfold ep;obtain⟨j,h1,h2⟩:=tv (fu:=fu) l f hl fu 0 (by omega) (by omega);have hs:sub l (j:Int) (l.length:Int)=some (l.drop j):=by
  unfold sub
  rw[if_pos (by omega)]
  simp
 rw[show ((0:Nat):Int)=0 from rfl]at h1;rw[h1,Ik,gi h2,Ik,hs,Ik,ed (by rw[Is]; omega),Ik,yN (by rw[Is,IG]; omega),Ik,yN (by rw[Ip,Is,IG,IT]; omega),Ik];refine⟨_,rfl,?_⟩;simp only[Ip,Is,IG,IT];omega
theorem Av (hfu:2097153<=fu) (y:Int×Nd) (K:Nat) (hK:y_ (2 + y.1)=(K:Int)) (h2:2<=K) (h6:K<=6):∀(fk i:Nat) (m:List By) (m2:Int) (m3:U64) (l:List Pq) (k B:Int),Cur ⟨m,m2,m3⟩ k->k<=B + 10 * (i:Int)->B<=1000000000->l.length<=i->i<=K->K - i<fk ->
 ∃i' m' a' s' l',vG fu y fk i m m2 m3 l=some (i',m',a',s',l')/\l'.length<=K/\Cur ⟨m',a',s'⟩ (B + 10 * (K:Int)):=by
 intro fk;induction fk with
 | zero=>intro i _ _ _ _ _ _ _ _ _ _ _ h; omega
 | succ fk ih =>
  intro i m m2 m3 l k B hc hk hB hl hi hf
  rw[vG,hK]
  by_cases h:i<K
  · have hlt:((i:Int)<(K:Int))=True:=by simp; omega
    have e:y_ ((i:Int) + 1)=((i + 1:Nat):Int):=vP h (by omega)
    obtain⟨q,hq,q0,q1⟩:=FH (a:=((i + 1:Nat):Int)) (n:=(K:Int)) (by omega) (by omega)
    obtain⟨r1,c1,g1,-,-,k1⟩:=vD (fu:=fu) hc (by omega) 10 (by decide)
    simp only[hlt,decide_true,if_true,e,hq,Ik,xB,g1]
    have k1':Cur ⟨c1.code,c1.at_,c1.seed⟩ (k + 2):=k1
    split
    · exact ih (i + 1) _ _ _ _ k B hc (by omega) hB (by omega) h (by omega)
    · split
      · exact ih (i + 1) _ _ _ _ (k + 2) B k1' (by omega) hB (by omega) h (by omega)
      · obtain⟨r3,g3,-⟩:=sg fu (i:Int) q
        obtain⟨r4,g4,-⟩:=Aw fu (i:Int) q
        obtain⟨r5,c5,g5,-,-,k5⟩:=vD (fu:=fu) k1 (by omega) 8 (by decide)
        obtain⟨r6,c6,g6,-,k6⟩:=dp (fu:=fu) k5 (by omega) [0,0,0,1,2] (by decide) (by decide)
        obtain⟨r7,g7,h7⟩:=so hfu l ({ A:=r3,B:=r4,Px:=y_ (100 * (y_ (1 + r5))),Pt:=r6 }:Pq) (by omega)
        simp only[g3,g4,g5,g6,g7,Ik]
        exact ih (i + 1) _ _ _ _ (k + 2 + 2 + 2) B k6 (by omega) hB (by omega) h (by omega)
  · obtain rfl:i=K:=by omega
    have hlt:((i:Int)<(i:Int))=False:=by simp
    simp only[hlt,decide_false,Iy,if_false]
    exact⟨_,_,_,_,_,rfl,hl,hc.mono (by omega)⟩
theorem Au (hfu:2097153<=fu) (y:Int×Nd) (K:Nat) (hK:y_ (2 + y.1)=(K:Int)) (h2:2<=K) (h6:K<=6):∀(fk n:Nat) (l:List Pq) (m:List By) (m2:Int) (m3:U64) (k B:Int),Cur ⟨m,m2,m3⟩ k->k<=B - 10 * (n:Int)->B<=1000000000->l.length + n<=9->n<fk ->
 ∃i' l' m' a' s',xe fu y fk (n:Int) l m m2 m3=some (i',l',m',a',s')/\l'.length<=9/\l.length<=l'.length/\Cur ⟨m',a',s'⟩ B:=by
 intro fk;induction fk with
 | zero=>intro n _ _ _ _ _ _ _ _ _ _ h; omega
 | succ fk ih =>
  intro n l m m2 m3 k B hc hk hB hl hf
  rw[xe,hK]
  by_cases h:0<n
  · have hlt:((n:Int) > 0)=True:=by simp; omega
    have e:y_ ((n:Int) - 1)=((n - 1:Nat):Int):=fD h (by omega)
    obtain⟨r1,c1,g1,-,-,k1⟩:=vD (fu:=fu) hc (by omega) (K:Int) (by omega)
    obtain⟨r2,c2,g2,-,-,k2⟩:=vD (fu:=fu) k1 (by omega) (K:Int) (by omega)
    simp only[hlt,decide_true,if_true,e,g1,g2,Ik]
    split
    · obtain⟨r3,g3,-⟩:=sg fu r1 r2
      obtain⟨r4,g4,-⟩:=Aw fu r1 r2
      obtain⟨r5,c5,g5,-,-,k5⟩:=vD (fu:=fu) k2 (by omega) 8 (by decide)
      obtain⟨r6,c6,g6,-,k6⟩:=dp (fu:=fu) k5 (by omega) [0,0,0,1,2] (by decide) (by decide)
      obtain⟨r7,g7,h7⟩:=so hfu l ({ A:=r3,B:=r4,Px:=y_ (100 * (y_ (1 + r5))),Pt:=r6 }:Pq) (by omega)
      simp only[g3,g4,g5,g6,g7,Ik]
      obtain⟨i',l',m',a',s',q1,q2,q3,q4⟩:=ih (n - 1) r7 _ _ _ (k + 2 + 2 + 2 + 2) B k6 (by omega) hB (by omega) (by omega)
      exact⟨i',l',m',a',s',q1,q2,by omega,q4⟩
    · exact ih (n - 1) _ _ _ _ (k + 2 + 2) B k2 (by omega) hB (by omega) (by omega)
  · obtain rfl:n=0:=by omega
    rw[if_neg (by simp)]
    exact⟨_,_,_,_,_,rfl,by omega,IC _,hc.mono (by omega)⟩
theorem nF (hfu:2097153<=fu) {c:Nd} {k:Int} (hc:Cur c k) (hk:k<=900000000):∃r c',yP fu c=some (r,c')/\NetD r/\r.Nv.length<=6/\r.Nw.length<=9/\Cur c' (k + 200):=by
 unfold yP;obtain⟨r1,c1,g1,p0,p1,k1⟩:=vD (fu:=fu) hc (by omega) 5 (by decide);have p2:=p1 (by decide);have hK:y_ (2 + r1)=(((2 + r1).toNat:Nat):Int):=by rw[uZ (by omega) (by omega)]; omega
 have hK2:2<=(2 + r1).toNat:=by omega
 have hK6:(2 + r1).toNat<=6:=by omega
 obtain⟨i2,m2,a2,s2,l2,g2,h2,k2⟩:=Av hfu (r1,c1) (2 + r1).toNat hK hK2 hK6 fu 0 c1.code c1.at_ c1.seed [] (k + 2) (k + 2) k1 (by omega) (by omega) (by simp) (by omega) (by omega);obtain⟨r3,c3,g3,q0,q1,k3⟩:=vD (fu:=fu) k2 (by omega) 4 (by decide);have q2:=q1 (by decide);obtain⟨i4,l4,m4,a4,s4,g4,h4,-,k4⟩:=Au hfu (r1,c1) (2 + r1).toNat hK hK2 hK6 fu r3.toNat l2 c3.code c3.at_ c3.seed (k + 2 + 10 * ((2 + r1).toNat:Int) + 2) (k + 200) k3 (by omega) (by omega) (by omega) (by omega);rw[KX]at g2;rw[Jk q0]at g4;simp only[g1,Ik,hK];rw[gi (by simp; omega)];simp only[g2,g3,g4,Ik];refine⟨_,_,rfl,⟨by simp; omega,by simp; omega,λe he=>?_,by simp only; omega⟩,by simp; omega,h4,k4⟩;have he':=K5 he;simp only[IW,JY,or_false]at he';rcases he' with rfl | rfl | rfl | rfl | rfl | rfl <;> decide
theorem AD (hfu:2097153<=fu) {c:Nd} {k:Int} (hc:Cur c k) (hk:k<=900000000):∃r c',aG fu c=some (r,c')/\NetD r/\1<=r.Nw.length/\Cur c' (k + 200):=by
 unfold aG;obtain⟨r,c',g1,h1,h2,h3,k1⟩:=nF hfu hc hk;simp only[g1,Ik];split
 rename_i h;have h0:r.Nw.length=0:=by simpa using h
 rw[app1 (by omega)];exact⟨_,_,rfl,⟨h1.n1,h1.n2,h1.ns,by simp; omega⟩,by simp,k1⟩;rename_i h;have h0:r.Nw.length≠0:=by simpa using h
 exact⟨_,_,rfl,h1,by omega,k1⟩
theorem qW (hfu:2097153<=fu) (n:Nq) (y:Int×Nd) (seen:d_) (hn:n.Nw.length<=1000000) (h1:1<=seen.length) (h2:seen.length<=1000000):∀(fk i:Nat) (o:d_),i<=n.Nw.length->n.Nw.length - i<fk->o.length<=i->(∀e∈o,0<=e/\e<(n.Nw.length:Int)) ->
 ∃l i',vM fu n y seen fk o i=some (l,i')/\l.length<=n.Nw.length/\∀e∈l,0<=e/\e<(n.Nw.length:Int):=by
 intro fk;induction fk with
 | zero=>intro i _ _ h; omega
 | succ fk ih =>
  intro i o hi hf ho hr
  rw[vM]
  by_cases h:i<n.Nw.length
  · have hlt:((i:Int)<(n.Nw.length:Int))=True:=by simp; omega
    have e1:y_ ((seen.length:Int) - 1)=((seen.length - 1:Nat):Int):=by rw[uZ (by omega) (by omega)]; omega
    have hh:∀v,bF fu seen v=some (seen.any λx=>x==v):=λv=>iI seen v (by omega) (by omega)
    have ha:C_ o [(i:Int)]=some (o++[(i:Int)]):=app1 (by omega)
    simp only[hlt,decide_true,if_true,e1,vw (show seen.length - 1<seen.length by omega),Ik,iH fu n i _ h,hh,ha,vP h (show (n.Nw.length:Int)<=9223372036854775807 by omega)]
    have two:∀b:Bool,∃l i',(if b=true then vM fu n y seen fk (o++[(i:Int)]) ((i + 1:Nat):Int) else vM fu n y seen fk o ((i + 1:Nat):Int))=some (l,i')/\l.length<=n.Nw.length/\∀e∈l,0<=e/\e<(n.Nw.length:Int):=by
     intro b
     cases b
     · exact ih (i + 1) o h (by omega) (by omega) hr
     · refine ih (i + 1) _ h (by omega) (by simp; omega) λe he=>?_
       rcases Il.1 he with he | he
       · exact hr e he
       · simp only[Iu]at he
         omega
    split
    · exact two _
    · exact two false
  · obtain rfl:i=n.Nw.length:=by omega
    rw[if_neg (by simp)]
    exact⟨_,_,rfl,ho,hr⟩
theorem qX (hfu:2097153<=fu) (n:Nq) (y:Int×Nd) (hn:n.Nw.length<=1000):∀(fk m:Nat) (seen l:d_) (b:List By) (a:Int) (s:U64) (k B:Int),Cur ⟨b,a,s⟩ k->k<=B - 2 * (m:Int)->B<=1000000000->1<=seen.length->seen.length + m<=1000->l.length + m<=4->(∀e∈l,0<=e/\e<(n.Nw.length:Int))->m<fk ->
 ∃s2 m2 l' b' a' s',xW fu n y fk seen (m:Int) l b a s=some (s2,m2,l',b',a',s')/\l'.length<=4/\(∀e∈l',0<=e/\e<(n.Nw.length:Int))/\Cur ⟨b',a',s'⟩ B:=by
 intro fk;induction fk with
 | zero=>intro m _ _ _ _ _ _ _ _ _ _ _ _ _ _ h; omega
 | succ fk ih =>
  intro m seen l b a s k B hc hk hB hs1 hs2 hl hr hf
  rw[xW]
  by_cases h:0<m
  · have hlt:((m:Int) > 0)=True:=by simp; omega
    have e:y_ ((m:Int) - 1)=((m - 1:Nat):Int):=fD h (by omega)
    obtain⟨z,zi,g1,z1,z2⟩:=qW hfu n y seen (by omega) hs1 (by omega) fu 0 [] (by omega) (by omega) (by simp) (by simp)
    rw[KX]at g1
    have e1:y_ ((seen.length:Int) - 1)=((seen.length - 1:Nat):Int):=by rw[uZ (by omega) (by omega)]; omega
    simp only[hlt,decide_true,if_true,e,g1,Ik]
    by_cases hz:z.length=0
    · have hz':((z.length:Int)==0)=true:=by simp [hz]
      simp only[hz',if_true]
      exact⟨_,_,_,_,_,_,rfl,by omega,hr,hc.mono (by omega)⟩
    · have hz':((z.length:Int)==0)=false:=by simpa using hz
      obtain⟨r1,c1,g2,p0,p1,k1⟩:=vD (fu:=fu) hc (by omega) (z.length:Int) (by omega)
      obtain⟨x,hx,hxm⟩:=an (l:=z) (i:=r1) p0 (p1 (by omega))
      obtain⟨x0,x1⟩:=z2 x hxm
      have hxn:x=((x.toNat:Nat):Int):=by omega
      have ho:∀v,yJ fu n x v=some (X_ (gd n.Nw x.toNat f0) v):=λv=>by
       have:=iH fu n x.toNat v (by omega)
       rwa [<-hxn]at this
      simp only[hz',Iy,if_false,g2,Ik,hx,e1,vw (show seen.length - 1<seen.length by omega),ho,app1 (show l.length<=1000000 by omega),app1 (show seen.length<=1000000 by omega)]
      refine ih (m - 1) _ _ _ _ _ (k + 2) B k1 (by omega) hB (by simp) (by simp; omega) (by simp; omega) (λq hq=>?_) (by omega)
      rcases Il.1 hq with hq | hq
      · exact hr q hq
      · simp only[Iu]at hq
        omega
  · obtain rfl:m=0:=by omega
    rw[if_neg (by simp)]
    exact⟨_,_,_,_,_,_,rfl,by omega,hr,hc.mono (by omega)⟩
theorem rP (hfu:2097153<=fu) {c:Nd} {k:Int} (hc:Cur c k) (hk:k<=900000000) {n:Nq} (hn:n.Nw.length<=1000) (hm:n.Nv.length<=1000):∃r c',zN fu c n=some (r,c')/\r.Nw.length<=4/\(∀e∈r.Nw,0<=e/\e<(n.Nw.length:Int))/\Cur c' (k + 20):=by
 unfold zN;obtain⟨r1,c1,g1,-,-,k1⟩:=vD (fu:=fu) hc (by omega) (n.Nv.length:Int) (by omega);obtain⟨r2,c2,g2,p0,p1,k2⟩:=vD (fu:=fu) k1 (by omega) 4 (by decide);have p2:=p1 (by decide);have e:y_ (1 + r2)=(((1 + r2).toNat:Nat):Int):=by rw[uZ (by omega) (by omega)]; omega
 obtain⟨s3,m3,l3,b3,a3,t3,g3,h3,h4,k3⟩:=qX hfu n (r1,c1) hn fu (1 + r2).toNat [r1] [] c2.code c2.at_ c2.seed (k + 2 + 2) (k + 20) k2 (by omega) (by omega) (by simp) (by simp; omega) (by simp; omega) (by simp) (by omega);simp only[g1,g2,Ik,e,g3];exact⟨_,_,rfl,h3,h4,k3⟩
theorem w7 (hfu:2097153<=fu) {c:Nd} {k:Int} (hc:Cur c k) (hk:k<=900000000) {n:Nq} (h1:1<=n.Nw.length) (hn:n.Nw.length<=1000) (hm:n.Nv.length<=1000):∃r c',aC fu c n=some (r,c')/\1<=r.Nw.length/\r.Nw.length<=4/\(∀e∈r.Nw,0<=e/\e<(n.Nw.length:Int))/\Cur c' (k + 20):=by
 unfold aC;obtain⟨r,c',g1,h2,h3,k1⟩:=rP hfu hc hk hn hm;simp only[g1,Ik];split
 obtain⟨e,he,-⟩:=an (l:=n.Nw) (i:=0) (Kh _) (by omega);rw[he];exact⟨_,_,rfl,by simp,by simp,by simp; omega,k1⟩;rename_i h;have h0:r.Nw.length≠0:=by simpa using h
 exact⟨_,_,rfl,by omega,h2,h3,k1⟩
theorem rx (hfu:2097153<=fu) {c:Nd} {k:Int} (hc:Cur c k) (hk:k<=900000000) {n:Nq} (hn:n.Nw.length<=1000) (hm:n.Nv.length<=1000):∃r c',zv fu c n=some (r,c')/\r.Nw.length<=5/\Cur c' (k + 30):=by
 unfold zv;obtain⟨r,c1,g1,h1,-,k1⟩:=rP hfu hc hk hn hm;obtain⟨r2,c2,g2,-,-,k2⟩:=vD (fu:=fu) k1 (by omega) 16 (by decide);obtain⟨r3,c3,g3,-,-,k3⟩:=vD (fu:=fu) k2 (by omega) 8 (by decide);simp only[g1,g2,g3,Ik,app1 (show r.Nw.length<=1000000 by omega)];split
 exact⟨_,_,rfl,by simp only; omega,k3.mono (by omega)⟩;split
 exact⟨_,_,rfl,by simp; omega,k3.mono (by omega)⟩;split
 exact⟨_,_,rfl,by simp,k2.mono (by omega)⟩;split
 split
 rename_i h;have h0:(1:Int)<r.Nw.length:=by simpa using h
 have e1:y_ ((r.Nw.length:Int) - 1)=((r.Nw.length - 1:Nat):Int):=by rw[uZ (by omega) (by omega)]; omega
 simp only[e1,vw (show r.Nw.length - 1<r.Nw.length by omega),Ik,app1 (show r.Nw.length<=1000000 by omega)];exact⟨_,_,rfl,by simp; omega,k2.mono (by omega)⟩;exact⟨_,_,rfl,by omega,k2.mono (by omega)⟩;exact⟨_,_,rfl,by omega,k2.mono (by omega)⟩
theorem C6 {c:Nd} {k:Int} (hc:Cur c k) (hk:k<=900000000):∃r c',bz fu c=some (r,c')/\Cur c' (k + 10):=by
 unfold bz xB;obtain⟨r1,c1,g1,-,-,k1⟩:=vD (fu:=fu) hc (by omega) 12 (by decide);obtain⟨r2,c2,g2,-,-,k2⟩:=vD (fu:=fu) k1 (by omega) 26 (by decide);obtain⟨r3,c3,g3,-,-,k3⟩:=vD (fu:=fu) k2 (by omega) 27 (by decide);obtain⟨r4,c4,g4,p0,p1,k4⟩:=vD (fu:=fu) k1 (by omega) 6 (by decide);have p2:=p1 (by decide);obtain⟨r5,c5,g5,-,-,k5⟩:=vD (fu:=fu) k4 (by omega) (y_ ((y_ (24 - (y_ (1 + r4)))) + 1)) (by
  rw[uZ (n:=1 + r4) (by omega) (by omega),uZ (n:=24 - (1 + r4)) (by omega) (by omega),uZ (by omega) (by omega)]; omega)
 simp only[g1,g2,g3,g4,g5,Ik];split
 exact⟨_,_,rfl,k3.mono (by omega)⟩;exact⟨_,_,rfl,k5.mono (by omega)⟩
theorem GM {c:Nd} {k:Int} (hc:Cur c k) (hk:k<=4611686018427387000) (l:List ByteArray) (h1:1<=l.length) (hn:l.length<=1099511627776):∃r c',cT fu c l=some (r,c')/\r∈l/\Cur c' (k + 2):=by
 unfold cT;obtain⟨r,c',g1,g2,g3,g4⟩:=vD (fu:=fu) hc hk (l.length:Int) (by omega);obtain⟨e,he,hm⟩:=an (l:=l) (i:=r) g2 (g3 (by omega));simp only[g1,Ik,he];exact⟨_,_,rfl,hm,g4⟩
theorem ry:∀(fk:Nat) (l:List Pq) (b:List By) (a:Int) (s:U64) (k B:Int),Cur ⟨b,a,s⟩ k->k<=B + 2 * (l.length:Int)->B<=1000000000->1<=l.length->l.length<=15->15 - l.length<fk ->
 ∃l' b' a' s',vY fu fk l b a s=some (l',b',a',s')/\l'.length<=15/\Cur ⟨b',a',s'⟩ (B + 50):=by
 intro fk;induction fk with
 | zero=>intro l _ _ _ _ _ _ _ _ _ _ h; omega
 | succ fk ih =>
  intro l b a s k B hc hk hB h1 h2 hf
  rw[vY]
  obtain⟨r1,c1,g1,p0,p1,k1⟩:=vD (fu:=fu) hc (by omega) 2 (by decide)
  have p2:=p1 (by decide)
  have e:y_ (14 + r1)=14 + r1:=uZ (by omega) (by omega)
  have e1:y_ ((l.length:Int) - 1)=((l.length - 1:Nat):Int):=by rw[uZ (by omega) (by omega)]; omega
  simp only[g1,Ik,e,e1,vw (show l.length - 1<l.length by omega),app1 (show l.length<=1000000 by omega)]
  split
  · rename_i h
    have h':(l.length:Int)<14 + r1:=by simpa using h
    exact ih _ _ _ _ (k + 2) B k1 (by simp; omega) hB (by simp) (by simp; omega) (by simp; omega)
  · exact⟨_,_,_,_,rfl,h2,k1.mono (by omega)⟩
theorem pe (hfu:2097153<=fu) {c:Nd} {k:Int} (hc:Cur c k) (hk:k<=800000000):∃r c',yK fu c=some (r,c')/\NetD r/\Cur c' (k + 500):=by
 unfold yK;obtain⟨n,c1,g1,h1,h2,h3,k1⟩:=nF hfu hc (by omega);simp only[g1,Ik];by_cases h:n.Nw.length=0;have h':((n.Nw.length:Int)==0)=true:=by simp [h]
 simp only[h',if_true];exact⟨_,_,rfl,h1,k1.mono (by omega)⟩;have h':((n.Nw.length:Int)==0)=false:=by simpa using h
 obtain⟨r2,c2,g2,p0,p1,k2⟩:=vD (fu:=fu) k1 (by omega) (n.Nw.length:Int) (by omega);have p2:=p1 (by omega);obtain⟨e,he,-⟩:=an (l:=n.Nw) (i:=r2) p0 p2;obtain⟨r3,c3,g3,-,-,k3⟩:=vD (fu:=fu) k2 (by omega) 24 (by decide);obtain⟨r4,c4,g4,m4,k4⟩:=GM (fu:=fu) k3 (by omega) [(⟨#[98]⟩:ByteArray),ByteArray.empty,(⟨#[65]⟩:ByteArray),(⟨#[97,98,99,100,101,102,103,104]⟩:ByteArray),(⟨#[97,98,99,100,101,102,103,104,105]⟩:ByteArray),(⟨#[120,49]⟩:ByteArray)] (by simp) (by simp);obtain⟨r5,c5,g5,-,-,k5⟩:=vD (fu:=fu) k3 (by omega) 8 (by decide);obtain⟨r6,c6,g6,-,-,k6⟩:=vD (fu:=fu) k3 (by omega) 10 (by decide);obtain⟨r7,c7,g7,-,k7⟩:=dp (fu:=fu) k3 (by omega) [0,1,5000,5001] (by decide) (by decide);obtain⟨r8,c8,g8,-,k8⟩:=dp (fu:=fu) k3 (by omega) [(-1),9,10] (by decide) (by decide);obtain⟨e0,he0,-⟩:=an (l:=n.Nw) (i:=0) (Kh _) (by omega);obtain⟨v0,hv0,-⟩:=an (l:=n.Nv) (i:=0) (Kh _) (by have:=h1.n1; omega);obtain⟨l9,b9,a9,s9,g9,h9,k9⟩:=ry (fu:=fu) fu n.Nw c3.code c3.at_ c3.seed (k + 200 + 2 + 2) (k + 204) k3 (by omega) (by omega) (by omega) (by omega) (by omega);have hfs:∀f:Pq,NetD ⟨n.Nv,n.Nw.set r2.toNat f⟩:=λf=>⟨h1.n1,h1.n2,h1.ns,by simp only[Io]; exact h1.f2⟩;have ha:=app1 (x:=e0) (show n.Nw.length<=1000000 by omega);obtain⟨e9,he9,-⟩:=an (l:=n.Nw++[e0]) (i:=r2) p0 (by simp; omega);have hn4:C_ n.Nv [(⟨#[112]⟩:ByteArray),(⟨#[113]⟩:ByteArray),(⟨#[114]⟩:ByteArray),(⟨#[115]⟩:ByteArray)]=some (n.Nv++[(⟨#[112]⟩:ByteArray),(⟨#[113]⟩:ByteArray),(⟨#[114]⟩:ByteArray),(⟨#[115]⟩:ByteArray)]):=yN (by simp; omega);simp only[h',Iy,if_false,g2,g3,g4,g5,g6,g7,g8,g9,he,he0,hv0,ha,he9,hn4,rh,Out.on,Ik];split
 refine⟨_,_,rfl,⟨by simp only[Io]; exact h1.n1,by simp only[Io]; exact h1.n2,λz hz=>?_,by simp only[Io]; exact h1.f2⟩,k4.mono (by omega)⟩;rcases J6 hz with hz | rfl
 exact h1.ns z hz;simp only[IW,JY,or_false]at m4;rcases m4 with rfl | rfl | rfl | rfl | rfl | rfl <;> decide
 split
 exact⟨_,_,rfl,hfs _,k5.mono (by omega)⟩;split
 exact⟨_,_,rfl,hfs _,k6.mono (by omega)⟩;split
 exact⟨_,_,rfl,hfs _,k7.mono (by omega)⟩;split
 exact⟨_,_,rfl,hfs _,k8.mono (by omega)⟩;split
 exact⟨_,_,rfl,⟨h1.n1,h1.n2,h1.ns,by simp; omega⟩,k3.mono (by omega)⟩;split
 exact⟨_,_,rfl,⟨h1.n1,h1.n2,h1.ns,by simp only; omega⟩,k9.mono (by omega)⟩;split
 refine⟨_,_,rfl,⟨by simp,by simp; omega,λz hz=>?_,by simp only[Io]; exact h1.f2⟩,k3.mono (by omega)⟩;rcases Il.1 hz with hz | hz
 exact h1.ns z hz;simp only[IW,JY,or_false]at hz;rcases hz with rfl | rfl | rfl | rfl <;> decide
 exact⟨_,_,rfl,hfs _,k3.mono (by omega)⟩
end AT
namespace AT
structure PlanD (p:Nh):Prop where
 net:NetD p.Nq
 ls:p.Nz.length<=20
 rs:∀x∈p.Nz,x.Nk.Nw.length<=20
theorem PlanD.B {p:Nh} (h:PlanD p):bB p:=⟨h.net.B,by have:=h.ls; omega,λx hx=>by have:=h.rs x hx; omega⟩
theorem sj (fu:Nat) (r:Nk) (h:r.Nw.length<=2097152):cI fu r=some r:=by
 unfold cI bD;rw[ed (by omega)];rfl
variable {fu:Nat}
theorem Ae (hfu:2097153<=fu) (ns:List ByteArray) (fs:List Pq) (hn:NetD ⟨ns,fs⟩) (h1:1<=fs.length):∀(fk n:Nat) (L:List Nx) (b:List By) (a:Int) (s:U64) (k B:Int),Cur ⟨b,a,s⟩ k->k<=B - 50 * (n:Int)->B<=800000000->L.length + n<=8->(∀y∈L,yD y.Nj=true)->(∀y∈L,y.Nk.Nw.length<=4)->n<fk ->
 ∃n' L' b' a' s',xa fu fk (n:Int) ns fs L b a s=some (n',ns,fs,L',b',a',s')/\L'.length<=8/\(∀y∈L',y.Nk.Nw.length<=4)/\Cur ⟨b',a',s'⟩ B:=by
 intro fk;induction fk with
 | zero=>intro n _ _ _ _ _ _ _ _ _ _ _ _ h; omega
 | succ fk ih =>
  intro n L b a s k B hc hk hB hl hb hr hf
  rw[xa]
  have f2:=hn.f2
  have n2:=hn.n2
  simp only at f2 n2
  by_cases h:0<n
  · have hlt:((n:Int) > 0)=True:=eq_true (by omega)
    have e:y_ ((n:Int) - 1)=((n - 1:Nat):Int):=fD h (by omega)
    obtain⟨r3,c3,g3,q1,q2,q3,k3⟩:=w7 hfu hc (by omega) (n:=⟨ns,fs⟩) h1 (by simp only; omega) (by simp only; omega)
    obtain⟨r4,c4,g4,p0,p1,k4⟩:=vD (fu:=fu) k3 (by omega) 5 (by decide)
    have p2:=p1 (by decide)
    have e4:y_ (1 + r4)=1 + r4:=uZ (by omega) (by omega)
    have hal:=iG hfu (⟨⟨ns,fs⟩,L⟩:Nh) r3 (by simp only; omega) hb (λx hx=>by have:=hr x hx; omega) (by omega)
    have hfi:=λm=>mi hfu m (1 + r4) (by omega) (by omega)
    simp only[hlt,decide_true,if_true,e,g3,g4,Ik,hal,e4,hfi]
    obtain⟨F,hF⟩:∃F,F=fits (along L r3.Nw) (1 + r4):=⟨_,rfl⟩
    simp only[<-hF]
    have hm:∀t∈F,yD ⟨t,1 + r4⟩=true:=λt ht=>by
     rw[hF,lE (by omega) (by omega)]at ht
     unfold yD
     simp only[Iw,decide_eq_true_eq]
     omega
    by_cases hz:F.length=0
    · have hz':((F.length:Int) > 0)=False:=eq_false (by omega)
      simp only[hz',decide_false,Iy,if_false]
      exact ih (n - 1) L _ _ _ (k + 20 + 2) B k4 (by omega) hB (by omega) hb hr (by omega)
    · have hz':((F.length:Int) > 0)=True:=eq_true (by omega)
      obtain⟨e0,he0,hm0⟩:=an (l:=F) (i:=0) (Kh _) (by omega)
      obtain⟨r5,c5,g5,-,-,k5⟩:=vD (fu:=fu) k4 (by omega) 2 (by decide)
      have hFl:F.length<=25:=by rw[hF]; exact oP _ _
      obtain⟨r6,c6,g6,p6,p7,k6⟩:=vD (fu:=fu) k5 (by omega) (F.length:Int) (by omega)
      obtain⟨e1,he1,hm1⟩:=an (l:=F) (i:=r6) p6 (p7 (by omega))
      obtain⟨r7,c7,g7,-,-,k7⟩:=vD (fu:=fu) k6 (by omega) 3 (by decide)
      obtain⟨r8,c8,g8,-,-,k8⟩:=vD (fu:=fu) k5 (by omega) 3 (by decide)
      have hput:∀x:Nx,x.Nk=r3->bC fu (⟨⟨ns,fs⟩,L⟩:Nh) x=some (addP ⟨⟨ns,fs⟩,L⟩ x):=λx hx=>oG hfu _ x ⟨hn.B,by simp only; omega,λy hy=>by have:=hr y hy; omega⟩ (by rw[hx]; omega)
      simp only[hz',decide_true,if_true,he0,xB,g5,g6,he1,g7,g8,Ik]
      have step:∀(x:Nx) (c:Nd) (k':Int),x.Nk=r3->yD x.Nj=true->Cur c k'->k'<=k + 30->∃n' L' b' a' s',((bC fu (⟨⟨ns,fs⟩,L⟩:Nh) x).bind λy=>xa fu fk ((n - 1:Nat):Int) y.Nq.Nv y.Nq.Nw y.Nz c.code c.at_ c.seed)=some (n',ns,fs,L',b',a',s')/\L'.length<=8/\(∀y∈L',y.Nk.Nw.length<=4)/\Cur ⟨b',a',s'⟩ B:=by
       intro x c k' hx hb' hc' hk'
       rw[hput x hx,Ik]
       refine ih (n - 1) (putL L x) _ _ _ k' B hc' (by omega) hB (by rw[lw]; omega) (λy hy=>?_) (λy hy=>?_) (by omega)
       · rcases gv.1 hy with rfl | hy
         · exact hb'
         · exact hb y hy
       · rcases gv.1 hy with rfl | hy
         · rw[hx]; omega
         · exact hr y hy
      split
      · exact step _ c7 _ rfl (hm _ hm1) k7 (by omega)
      · exact step _ c8 _ rfl (hm _ hm0) k8 (by omega)
  · obtain rfl:n=0:=by omega
    rw[if_neg (by simp)]
    exact⟨_,_,_,_,_,rfl,by omega,hr,hc.mono (by omega)⟩
theorem D9 (hfu:2097153<=fu) {c:Nd} {k:Int} (hc:Cur c k) (hk:k<=700000000):∃r c',bQ fu c=some (r,c')/\PlanD r/\r.Nz.length<=8/\1<=r.Nq.Nw.length/\(∀x∈r.Nz,x.Nk.Nw.length<=4)/\Cur c' (k + 1000):=by
 unfold bQ;obtain⟨n,c1,g1,h1,h2,k1⟩:=AD hfu hc (by omega);obtain⟨r2,c2,g2,p0,p1,k2⟩:=vD (fu:=fu) k1 (by omega) 9 (by decide);have p2:=p1 (by decide);obtain⟨n',L',b',a',s',g3,h3,h4,k3⟩:=Ae hfu n.Nv n.Nw h1 h2 fu r2.toNat [] c2.code c2.at_ c2.seed (k + 200 + 2) (k + 1000) k2 (by omega) (by omega) (by simp; omega) (by simp) (by simp) (by omega);rw[Jk p0]at g3;simp only[g1,g2,g3,Ik];exact⟨_,_,rfl,⟨h1,by simp only; omega,λx hx=>by have:=h4 x hx; omega⟩,h3,h2,h4,k3⟩
theorem qF (y:Nh×Nd) (h1:1<=y.1.Nq.Nw.length):∀(fk n:Nat) (L:List Nx) (b:List By) (a:Int) (s:U64) (k B:Int),Cur ⟨b,a,s⟩ k->k<=B + 2 * (n:Int)->B<=800000000->n<=14->L.length<=13->(∀y∈L,y.Nk.Nw.length<=20)->15 - n<fk ->
 ∃n' L' b' a' s',xx fu y fk (n:Int) L b a s=some (n',L',b',a',s')/\L'.length<=13/\(∀y∈L',y.Nk.Nw.length<=20)/\Cur ⟨b',a',s'⟩ (B + 60):=by
 intro fk;induction fk with
 | zero=>intro n _ _ _ _ _ _ _ _ _ _ _ _ h; omega
 | succ fk ih =>
  intro n L b a s k B hc hk hB hn hl hr hf
  rw[xx]
  obtain⟨r1,c1,g1,p0,p1,k1⟩:=vD (fu:=fu) hc (by omega) 2 (by decide)
  have p2:=p1 (by decide)
  have e:y_ (12 + r1)=12 + r1:=uZ (by omega) (by omega)
  have e1:y_ ((n:Int) + 1)=((n + 1:Nat):Int):=by rw[uZ (by omega) (by omega)]; omega
  obtain⟨e0,he0,-⟩:=an (l:=y.1.Nq.Nw) (i:=0) (Kh _) (by omega)
  have ha:∀x:Nx,C_ L [x]=some (L++[x]):=λx=>app1 (by omega)
  simp only[g1,Ik,e,e1,he0,ha]
  split
  · rename_i h
    have h':(L.length:Int)<12 + r1:=by simpa using h
    split
    · rename_i h3
      have h3':(n:Int)<14:=by simpa using h3
      refine ih (n + 1) _ _ _ _ (k + 2) B k1 (by omega) hB (by omega) (by simp; omega) (λx hx=>?_) (by omega)
      rcases Il.1 hx with hx | hx
      · exact hr x hx
      · simp only[Iu]at hx; subst hx; simp
    · exact⟨_,_,_,_,_,rfl,hl,hr,k1.mono (by omega)⟩
  · exact⟨_,_,_,_,_,rfl,hl,hr,k1.mono (by omega)⟩
theorem tY (hfu:2097153<=fu) {c:Nd} {k:Int} (hc:Cur c k) (hk:k<=600000000):∃r c',zZ fu c=some (r,c')/\PlanD r/\Cur c' (k + 3000):=by
 unfold zZ;obtain⟨p,c1,g1,h1,h2,h3,h4,k1⟩:=D9 hfu hc (by omega);simp only[g1,Ik];by_cases h:p.Nz.length=0;have h':((p.Nz.length:Int)==0)=true:=by simp [h]
 simp only[h',if_true];exact⟨_,_,rfl,h1,k1.mono (by omega)⟩;have h':((p.Nz.length:Int)==0)=false:=by simpa using h
 obtain⟨r2,c2,g2,p0,p1,k2⟩:=vD (fu:=fu) k1 (by omega) (p.Nz.length:Int) (by omega);have p2:=p1 (by omega);obtain⟨e,he,hem⟩:=an (l:=p.Nz) (i:=r2) p0 p2;obtain⟨r3,c3,g3,-,-,k3⟩:=vD (fu:=fu) k2 (by omega) 24 (by decide);obtain⟨r4,c4,g4,-,k4⟩:=dp (fu:=fu) k3 (by omega) [0,999,1000,1,4] (by decide) (by decide);obtain⟨r5,c5,g5,k5⟩:=C6 (fu:=fu) k3 (by omega);obtain⟨r6,c6,g6,h6,k6⟩:=rx hfu k3 (by omega) (n:=p.Nq) (by have:=h1.net.f2; omega) (by have:=h1.net.n2; omega);obtain⟨r7,c7,g7,h7,k7⟩:=pe hfu k3 (by omega);obtain⟨n8,L8,b8,a8,s8,g8,l8,m8,k8⟩:=qF (fu:=fu) (p,c1) h3 fu 0 p.Nz c3.code c3.at_ c3.seed (k + 1000 + 2 + 2) (k + 1010) k3 (by omega) (by omega) (by omega) (by omega) (λx hx=>by have:=h4 x hx; omega) (by omega);rw[KX]at g8;have hr:=h4 e hem;have hset:∀(x:Nx),x.Nk.Nw.length<=5->PlanD ⟨p.Nq,p.Nz.set r2.toNat x⟩:=λx hx=>⟨h1.net,by simp only[Io]; omega,λy hy=>by
  rcases J6 hy with hy | rfl
  · have:=h4 y hy; omega
  · omega⟩
 have ha:C_ p.Nz [e]=some (p.Nz++[e]):=app1 (by omega);obtain⟨e9,he9,-⟩:=an (l:=p.Nz++[e]) (i:=r2) p0 (by simp; omega);simp only[h',Iy,if_false,g2,g3,g4,g5,g6,g7,g8,he,ha,he9,rh,Out.on,Ik];split
 exact⟨_,_,rfl,hset _ (by simp only; omega),k4.mono (by omega)⟩;split
 exact⟨_,_,rfl,hset _ (by simp only; omega),k5.mono (by omega)⟩;split
 exact⟨_,_,rfl,hset _ (by simp only; omega),k6.mono (by omega)⟩;split
 refine⟨_,_,rfl,⟨h1.net,by simp; omega,λy hy=>?_⟩,k3.mono (by omega)⟩;rcases J6 hy with hy | rfl
 rcases Il.1 hy with hy | hy
 have:=h4 y hy; omega;simp only[Iu]at hy; subst hy; omega;show e.Nk.Nw.length<=20; omega;split
 exact⟨_,_,rfl,⟨h7,by simp only[Io]; omega,(hset ⟨_,⟨_,e.Nk.Nw⟩,_⟩ (by show e.Nk.Nw.length<=5; omega)).rs⟩,k7.mono (by omega)⟩;split
 exact⟨_,_,rfl,⟨h1.net,by simp only; omega,m8⟩,k8.mono (by omega)⟩;exact⟨_,_,rfl,hset _ (by show e.Nk.Nw.length<=5; omega),k3.mono (by omega)⟩
end AT
namespace AT
def PlQ (L:List Nx):Prop:=∀x∈L,yD x.Nj=true/\x.Nk.Nw.length<=20
variable {L:List Nx} {fu:Nat}
theorem PlQ.B {N:Nq} (hN:NetB N) (h:PlQ L) (hl:L.length<=100):bB ⟨N,L⟩:=⟨hN,by simp only; omega,λx hx=>by have:=(h x hx).2; omega⟩
theorem ti (hfu:2097200<=fu) (N:Nq) (L H:List Nx) (D:d_) (hN:NetB N) (hQ:PlQ L) (hl:L.length<=100) (hD:D.length<=100) (x:Nx) (hx:yD x.Nj=true) (l:List Nk) (hL:∀a∈l,a.Nw.length<=7) (hll:l.length<=1000) (b:Bool):∀(fk i:Nat),i<=l.length->l.length - i<fk ->
 (∃z,zO fu ⟨⟨N,L⟩,H,D⟩ x (l,b) fk i=some (.next z))∨∃y,zO fu ⟨⟨N,L⟩,H,D⟩ x (l,b) fk i=some (.ret (y,true))/\yD y.Nj=true/\y.Nk.Nw.length<=20:=by
 have hPB:=hQ.B hN hl;have hc:=hx;unfold yD at hc;simp only[Iw,decide_eq_true_eq]at hc;intro fk;induction fk with
 | zero=>intro i _ h; omega
 | succ fk ih =>
  intro i hi hk
  rw[zO]
  by_cases h:i<l.length
  · cases b
    · rw[if_pos (by simpa using h),Ik,if_neg I9]
      exact .inl ⟨_,rfl⟩
    · have ha:=hL _ (IE h)
      have ei:V_ l (i:Int)=some l[i]:=vw h
      have hal:=iG (fu:=fu) (by omega) (⟨N,L⟩:Nh) l[i] hPB.2.1 (λy hy=>(hQ y hy).1) hPB.2.2 (by omega)
      have hwi:=vP h (show (l.length:Int)<=9223372036854775807 by omega)
      rw[if_pos (by simpa using h),Ik,if_pos rfl]
      dsimp only
      rw[ei]
      simp only[Ik,qL (fu:=fu) (by omega) l[i] D (show l[i].Nw.length<=2097152 by omega) (show D.length<=2097152 by omega),hal,mi (fu:=fu) (by omega) _ x.Nj.Pz hc.2.1 (show x.Nj.Pz<=24 by omega),hwi]
      clear hwi
      cases meets l[i].Nw D
      · obtain⟨fs,hfs⟩:∃fs,fs=fits (along L l[i].Nw) x.Nj.Pz:=⟨_,rfl⟩
        rw[if_neg I9,<-hfs]
        by_cases hf:0<fs.length
        · have e0:V_ fs 0=some (gd fs 0 0):=yb 0 hf
          have hm:=aR (l:=fs) (i:=0) 0 hf
          rw[hfs,lE hc.2.1 (by omega),<-hfs]at hm
          rw[if_pos (by simpa using hf),e0]
          simp only[Ik,sj fu l[i] (show l[i].Nw.length<=2097152 by omega)]
          refine .inr ⟨_,rfl,?_,?_⟩
          · unfold yD
            simp only[Iw,decide_eq_true_eq]
            omega
          · simp only; omega
        · rw[if_neg (by simpa using hf)]
          exact ih (i + 1) h (by omega)
      · rw[if_pos rfl]
        exact ih (i + 1) h (by omega)
  · obtain rfl:i=l.length:=by omega
    rw[if_neg (by simp),Ik,if_neg I9]
    exact .inl ⟨_,rfl⟩
theorem B1 (hfu:2097200<=fu) (N:Nq) (L H:List Nx) (D:d_) (hN:NetB N) (hH:vR ⟨N,H⟩=true) (hQ:PlQ L) (hl:L.length<=100) (hD:D.length<=100) {x:Nx} (hx:x∈H):∃y b,gp fu ⟨⟨N,L⟩,H,D⟩ x=some (y,b)/\(b=true->yD y.Nj=true/\y.Nk.Nw.length<=20):=by
 have hPB:=hQ.B hN hl;have hF:=iU hH;have hxF:LightF N x:=hF.light x hx;have hxr:=hxF.short;have hnf:=netF hF.net;obtain⟨o,ho⟩:=hxF.route;have hfa:=kK hnf ho;have hal:=iG (fu:=fu) (by omega) (⟨N,L⟩:Nh) x.Nk hPB.2.1 (λy hy=>(hQ y hy).1) hPB.2.2 (by omega);have hB:=s7 hnf hfa.2.2.2.2.2.1 hfa.2.2.2.2.2.2 (endR N x.Nk);have hend:fR fu N x.Nk=some (endR N x.Nk):=sV (by omega) N x.Nk hN (by omega) (by rw[ho]; rfl);unfold gp;have hu:aX fu x.Nk D=some (meets x.Nk.Nw D):=qL (by omega) x.Nk D (by omega) (by omega);show ∃y b,(((aX fu x.Nk D).bind λy=>if (!y)=true then (zR fu ⟨N,L⟩ x.Nk).bind λy2=>(zu fu x.Nj).bind λy3=>some (band y2 y3==0) else some false).bind _)=some (y,b)/\_
 rw[hu,hal,ig hxF.blk,Ik];have hone:∃c,(if (!meets x.Nk.Nw D)=true then (some (along L x.Nk.Nw)).bind λy2=>(some (bits x.Nj)).bind λy3=>some (band y2 y3==0) else some false)=some c:=by
  cases meets x.Nk.Nw D <;> exact⟨_,rfl⟩
 obtain⟨c,hc⟩:=hone;rw[show (⟨N,L⟩:Nh).Nz=L from rfl,hc,Ik];cases c
 rw[if_neg I9];show ∃y b,((fR fu N x.Nk).bind _)=some (y,b)/\_;rw[hend,Ik];show ∃y b,((dL fu N x.Nk.Np (endR N x.Nk)).bind _)=some (y,b)/\_;rw[oe hfu N _ _ hN,Ik];obtain⟨q,hq⟩:∃q,q=(if ee N x.Nk.Np (endR N x.Nk)=true/\(M0 N x.Nk.Np (endR N x.Nk)).length<=200 then (M0 N x.Nk.Np (endR N x.Nk),true) else ([],false)):=⟨_,rfl⟩
 rw[<-hq];have hql:(∀a∈q.1,a.Nw.length<=7)/\q.1.length<=201:=by
  rw[hq]
  split
  · exact⟨λa ha=>(hB.1 a ha).short,hB.2⟩
  · simp
 rcases ti hfu N L H D hN hQ hl hD x hxF.blk q.1 hql.1 (by omega) q.2 fu 0 (by omega) (by omega) with ⟨z,hz⟩ | ⟨y,hz,h1,h2⟩
 rw[show ((0:Nat):Int)=0 from rfl]at hz;rw[show (q.1,q.2)=q from rfl]at hz;rw[hz];exact⟨_,_,rfl,λh=>by cases h⟩
 rw[show ((0:Nat):Int)=0 from rfl]at hz;rw[show (q.1,q.2)=q from rfl]at hz;rw[hz];exact⟨y,true,rfl,λ_=>⟨h1,h2⟩⟩;rw[if_pos rfl,jJ fu x (by omega)];exact⟨x,true,rfl,λ_=>⟨hxF.blk,by omega⟩⟩
theorem PlQ.put {x:Nx} (h:PlQ L) (hx:yD x.Nj=true/\x.Nk.Nw.length<=20):PlQ (putL L x):=λy hy=>by
 rcases gv.1 hy with rfl | hy
 · exact hx
 · exact h y hy
theorem td (hfu:2097200<=fu) (N:Nq) (L H:List Nx) (D:d_) (hN:NetB N) (hH:vR ⟨N,H⟩=true) (hQ:PlQ L) (hl:L.length<=90) (hD:D.length<=100) {i:Int} (h0:0<=i) (h1:i<(H.length:Int)):∃L' b,cU fu ⟨⟨N,L⟩,H,D⟩ i=some (⟨⟨N,L'⟩,H,D⟩,b)/\PlQ L'/\L'.length<=L.length + 1:=by
 have hPB:=hQ.B hN (show L.length<=100 by omega);have h12:H.length<=12:=(iU hH).short;have hRB:RestB ⟨⟨N,L⟩,H,D⟩:=⟨hPB,⟨by simp only; omega,λx hx=>by have:=((iU hH).light x hx).short; omega⟩,by simp only; omega⟩;obtain⟨x,hx,hxm⟩:=an (l:=H) (i:=i) h0 h1;obtain⟨y,b,hp,hy⟩:=B1 hfu N L H D hN hH hQ (by omega) hD hxm;unfold cU;have hown:=qd (fu:=fu) (by omega) _ hRB;show ∃L' b,((V_ H i).bind _)=some (_,b)/\_;rw[hx,Ik,hp,Ik,hown,Ik];cases b
 exact⟨L,false,rfl,hQ,by omega⟩;have hyy:=hy rfl;rw[if_pos rfl,oG (by omega) _ y hPB (by omega),Ik];exact⟨putL L y,true,rfl,hQ.put hyy,by rw[lw]; omega⟩
theorem C7 (hfu:2097200<=fu) (r:Pd) (N:Nq) (H:List Nx) (D:d_) (hN:NetB N) (hH:vR ⟨N,H⟩=true) (hD:D.length<=100) (hrH:r.Rq=H) (w:d_) (hw:∀i∈w,0<=i/\i<(H.length:Int)) (hwl:w.length<=12):∀(fk i:Nat) (ids:d_) (L:List Nx),i<=w.length->w.length - i<fk->PlQ L->L.length<=50 + i->ids.length<=i ->
 ∃ids' z L',bG fu r w fk ids i N.Nv N.Nw L H D=some (ids',z,N.Nv,N.Nw,L',H,D)/\PlQ L'/\L'.length<=L.length + (w.length - i):=by
 intro fk;induction fk with
 | zero=>intro i _ _ _ h; omega
 | succ fk ih =>
  intro i ids L hi hk hQ hl hids
  rw[bG]
  by_cases h:i<w.length
  · have hm:=hw _ (IE h)
    obtain⟨L',b,g1,g2,g3⟩:=td hfu N L H D hN hH hQ (by omega) hD hm.1 hm.2
    obtain⟨x,hx,-⟩:=an (l:=H) (i:=w[i]) hm.1 hm.2
    have hwi:=vP h (show (w.length:Int)<=9223372036854775807 by omega)
    have g1':cU fu ({ Nh:=({ Nq:=({ Nv:=N.Nv,Nw:=N.Nw }:Nq),Nz:=L }:Nh),Rq:=H,Rv:=D }:Pd) w[i]=_:=g1
    rw[if_pos (by simpa using h),vw h,Ik,g1',Ik,hwi]
    clear hwi
    cases b
    · rw[if_neg I9]
      obtain⟨a1,a2,a3,a4,a5,a6⟩:=ih (i + 1) ids L' h (by omega) g2 (by omega) (by omega)
      exact⟨a1,a2,a3,a4,a5,by omega⟩
    · rw[if_pos rfl,Ik,hrH,hx,Ik,yN (by rw[IG]; omega),Ik]
      obtain⟨a1,a2,a3,a4,a5,a6⟩:=ih (i + 1) (ids++[x.Id]) L' h (by omega) g2 (by omega) (by rw[Ip,IG]; omega)
      exact⟨a1,a2,a3,a4,a5,by omega⟩
  · obtain rfl:i=w.length:=by omega
    rw[if_neg (by simp)]
    exact⟨_,_,_,rfl,hQ,by omega⟩
theorem pm (r:Pd) (hH:r.Rq.length<=1000) (hL:r.Nh.Nz.length<fu) (hL2:r.Nh.Nz.length<=2097152):∀(fk i:Nat) (o:d_),i<=r.Rq.length->r.Rq.length - i<fk->o.length<=i->(∀e∈o,0<=e/\e<(r.Rq.length:Int)) ->
 ∃o' z,aa fu r fk o i=some (o',z)/\o'.length<=r.Rq.length/\∀e∈o',0<=e/\e<(r.Rq.length:Int):=by
 intro fk;induction fk with
 | zero=>intro i _ _ h; omega
 | succ fk ih =>
  intro i o hi hk ho hr
  rw[aa]
  by_cases h:i<r.Rq.length
  · obtain⟨q,hq⟩:∃q,gj fu r.Nh r.Rq[i].Id=some q:=⟨_,AF r.Nh _ hL hL2⟩
    rw[if_pos (by simpa using h),vw h,Ik,hq,Ik,yN (by rw[IG]; omega),vP h (by omega)]
    by_cases hc:q<0
    · rw[if_pos (by simpa using hc),Ik]
      refine ih (i + 1) (o++[(i:Int)]) h (by omega) (by simp; omega) λe he=>?_
      rcases Il.1 he with he | he
      · exact hr e he
      · rw[Iu]at he; subst he; omega
    · rw[if_neg (by simpa using hc)]
      exact ih (i + 1) o h (by omega) (by omega) hr
  · obtain rfl:i=r.Rq.length:=by omega
    rw[if_neg (by simp)]
    exact⟨_,_,rfl,ho,hr⟩
theorem Gq (hfu:2097200<=fu) (N:Nq) (L H:List Nx) (D:d_) (hN:NetB N) (hH:vR ⟨N,H⟩=true) (hQ:PlQ L) (hl:L.length<=40) (hD:D.length<=100):∃L' ids,jb fu ⟨⟨N,L⟩,H,D⟩=some (⟨⟨N,L'⟩,H,D⟩,ids)/\PlQ L'/\L'.length<=L.length + 12:=by
 have hPB:=hQ.B hN (show L.length<=100 by omega);have h12:H.length<=12:=(iU hH).short;have hRB:RestB ⟨⟨N,L⟩,H,D⟩:=⟨hPB,⟨by simp only; omega,λx hx=>by have:=((iU hH).light x hx).short; omega⟩,by simp only; omega⟩;obtain⟨w,z,hw,w1,w2⟩:=pm (fu:=fu) (⟨⟨N,L⟩,H,D⟩:Pd) (show H.length<=1000 by omega) (show L.length<fu by omega) (show L.length<=2097152 by omega) fu 0 [] (by omega) (show H.length - 0<fu by omega) (by simp) (by simp);obtain⟨ids,z2,L',g1,g2,g3⟩:=C7 hfu (⟨⟨N,L⟩,H,D⟩:Pd) N H D hN hH hD rfl w w2 (Jo w1 h12) fu 0 [] L (by omega) (by have:w.length<=H.length:=w1; omega) hQ (by omega) (by simp);rw[show ((0:Nat):Int)=0 from rfl]at hw g1;have w1':w.length<=H.length:=w1;unfold jb ia;rw[qd (fu:=fu) (by omega) _ hRB,Ik,hw,Ik,Ik];show ∃L' ids,((bG fu (⟨⟨N,L⟩,H,D⟩:Pd) w fu [] 0 N.Nv N.Nw L H D).bind _)=_/\_;rw[g1];exact⟨L',ids,rfl,g2,by omega⟩
structure NetZ (n:Nq):Prop where
 n2:n.Nv.length<=20
 ns:∀e∈n.Nv,e.size<=100
 f2:n.Nw.length<=20
theorem NetD.z {n:Nq} (h:NetD n):NetZ n:=⟨h.n2,h.ns,h.f2⟩
theorem NetZ.B {n:Nq} (h:NetZ n):NetB n:=⟨⟨by have:=h.n2; omega,λe he=>by have:=h.ns e he; omega⟩,by have:=h.f2; omega⟩
structure RestD (r:Pd):Prop where
 net:NetZ r.Nh.Nq
 ll:r.Nh.Nz.length<=40
 lr:∀x∈r.Nh.Nz,x.Nk.Nw.length<=20
 hl:r.Rq.length<=40
 hr:∀x∈r.Rq,x.Nk.Nw.length<=20
 down:r.Rv.length<=80
theorem RestD.B {r:Pd} (h:RestD r):RestB r:=⟨⟨h.net.B,by have:=h.ll; omega,λx hx=>by have:=h.lr x hx; omega⟩,⟨by have:=h.hl; omega,λx hx=>by have:=h.hr x hx; omega⟩,by have:=h.down; omega⟩
theorem Ao {c:Nd} {k:Int} (hc:Cur c k) (hk:k<=4611686018427387000) (n:Int) (hn:n<=1099511627776):∃r c',xB fu c n=some (r,c')/\Cur c' (k + 2):=by
 unfold xB;obtain⟨r,c',g1,-,-,g4⟩:=vD (fu:=fu) hc hk n hn;rw[g1];exact⟨_,_,rfl,g4⟩
theorem RestF.all (hfu:2097200<=fu) {N:Nq} {L H:List Nx} {D:d_} (hN:NetZ N) (hH:vR ⟨N,H⟩=true) (hQ:PlQ L) (hl:L.length<=12) (hD:D.length<=80):∃L' ids,jb fu ⟨⟨N,L⟩,H,D⟩=some (⟨⟨N,L'⟩,H,D⟩,ids)/\RestD ⟨⟨N,L'⟩,H,D⟩:=by
 obtain⟨L',ids,g1,g2,g3⟩:=Gq hfu N L H D hN.B hH hQ (by omega) (by omega);have h12:H.length<=12:=(iU hH).short;exact⟨L',ids,g1,⟨hN,by simp only; omega,λx hx=>(g2 x hx).2,by simp only; omega,λx hx=>by have:=((iU hH).light x hx).short; omega,hD⟩⟩
end AT
