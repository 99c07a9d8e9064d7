/- All routes between two nodes, as the reference lists them. -/
import Derived.Test.YtlemonjnolciiaaGreatQRest
set_option linter.unusedSimpArgs false
set_option linter.unusedVariables false
namespace AT
def rt0:Nz:=⟨0,[]⟩
def kM (n:Nq) (fs:d_):Prop:=∀x∈fs,0<=x/\x<(n.Nw.length:Int)
structure RtB (n:Nq) (r:Nz):Prop where
 short:r.Nw.length<=7
 fib:kM n r.Nw
 lo:0<=r.Nt
 hi:r.Nt<(n.Nv.length:Int)
def lenR (F:List Pq):d_->Int
 | []=>0
 | i::l=>(gd F i.toNat f0).Pg + lenR F l
theorem qC {n:Nq} {i:Int} (h:0<=i/\i<(n.Nw.length:Int)):V_ n.Nw i=some (gd n.Nw i.toNat f0)/\gd n.Nw i.toNat f0∈n.Nw:=by
 have:=xC (l:=n.Nw) (i:=i.toNat) f0 (by omega);rw[HG h.1]at this;exact⟨this,zx f0 (by omega)⟩
theorem nY {n:Nq} (hn:NetF n):∀{fs:d_},kM n fs->0<=lenR n.Nw fs/\lenR n.Nw fs<=5000 * (fs.length:Int)
 | [],_=>by simp [lenR]
 | i::l,h=>by
  have h1:=nY hn (fs:=l) λx hx=>h x (Hs _ hx)
  have h2:=hn.each _ (qC (h i (by simp))).2
  simp only[lenR,Hq]
  omega
theorem n0 {fu:Nat} {n:Nq} (hn:NetF n) (r:Nz) (hf:kM n r.Nw) (hl:r.Nw.length<=100):∀(fk i:Nat) (s:Int),i<=r.Nw.length->r.Nw.length - i<fk->0<=s->s<=5000 * (i:Int)->∃z,yS fu n r fk s i=some (s + lenR n.Nw (r.Nw.drop i),z):=by
 intro fk;induction fk with
 | zero=>intro i _ _ h; omega
 | succ fk ih =>
  intro i s hi hk h0 h1
  rw[yS]
  by_cases h:i<r.Nw.length
  · obtain⟨e1,e2⟩:=qC (hf _ (GW h))
    have h2:=hn.each _ e2
    rw[if_pos (by simpa using h),vP h,GH,e1,GH,vV h (by omega),va (by omega) (by omega),<-GU h,lenR]
    obtain⟨z,hz⟩:=ih (i + 1) (s + (gd n.Nw r.Nw[i].toNat f0).Pg) h (by omega) (by omega) (by omega)
    exact⟨z,by rw[hz]; congr 2; omega⟩
  · obtain rfl:i=r.Nw.length:=by omega
    rw[if_neg (by simp),Hg,lenR,Int.add_zero]
    exact⟨_,rfl⟩
theorem i7 {fu:Nat} (hfu:2097153<=fu) {n:Nq} (hn:NetF n) (r:Nz) (hf:kM n r.Nw) (hl:r.Nw.length<=100):a7 fu n r=some (lenR n.Nw r.Nw):=by
 obtain⟨z,hz⟩:=n0 (fu:=fu) hn r hf hl fu 0 0 (by omega) (by omega) (by omega) (by omega);rw[show ((0:Nat):Int)=0 from rfl,He,Kb]at hz;unfold a7;rw[hz]; rfl
theorem nN (fu:Nat) (x:Int):bT fu x=some (cmpI x 0):=by
 unfold bT cmpI;by_cases h:x<0;simp [h];by_cases h2:x > 0 <;> simp [h,h2]
theorem kY (a b:Int):cmpI (a - b) 0=cmpI a b:=by
 unfold cmpI;by_cases h:a<b;rw[if_pos (by omega),if_pos h];rw[if_neg (by omega),if_neg h];by_cases h2:a > b;rw[if_pos (by omega),if_pos h2];rw[if_neg (by omega),if_neg h2]
def cmpL:d_->d_->Int
 | [],[]=>0
 | [],_::_=>-1
 | _::_,[]=>1
 | a::x,b::y=>if a=b then cmpL x y else cmpI a b
def cmpR (F:List Pq) (a b:Nz):Int:=or4 (cmpI (lenR F a.Nw) (lenR F b.Nw)) (cmpI (a.Nw.length:Int) (b.Nw.length:Int)) (cmpL a.Nw b.Nw) (cmpI a.Nt b.Nt)
variable {a b c d:Int}
theorem EO (h:a≠0):or4 a b c d=a:=by unfold or4; rw[if_pos h]
theorem EN (h:a=0) (h2:b≠0):or4 a b c d=b:=by unfold or4; rw[if_neg (by simpa using h),if_pos h2]
theorem EM (h:a=0) (h2:b=0) (h3:c≠0):or4 a b c d=c:=by unfold or4; rw[if_neg (by simpa using h),if_neg (by simpa using h2),if_pos h3]
theorem EL (h:a=0) (h2:b=0) (h3:c=0):or4 a b c d=d:=by
 unfold or4;rw[if_neg (by simpa using h),if_neg (by simpa using h2),if_neg (by simpa using h3)];by_cases h4:d=0;rw[if_neg (by simpa using h4),h4];rw[if_pos h4]
theorem mH {fu:Nat} {n:Nq} (hn:NetF n) (a b:Nz) (ha:kM n a.Nw) (hb:kM n b.Nw) (hl:a.Nw.length<=100) (he:b.Nw.length=a.Nw.length):∀(fk i:Nat),i<=a.Nw.length->a.Nw.length - i<fk ->
 yy fu a b fk i=some (if cmpL (a.Nw.drop i) (b.Nw.drop i)=0 then .next (a.Nw.length:Int) else .ret (cmpL (a.Nw.drop i) (b.Nw.drop i))):=by
 have hff:=hn.fib;intro fk;induction fk with
 | zero=>intro i _ h; omega
 | succ fk ih =>
  intro i hi hk
  rw[yy]
  by_cases h:i<a.Nw.length
  · have h2:i<b.Nw.length:=by omega
    have b1:=ha _ (GW h)
    have b2:=hb _ (GW h2)
    rw[if_pos (by simpa using h),vP h,vP h2,<-GU h,<-GU h2,cmpL]
    simp only[GH]
    by_cases hc:a.Nw[i]=b.Nw[i]
    · rw[if_pos hc,hc,bne_self_eq_false,if_neg HC,vV h (by omega)]
      exact ih (i + 1) h (by omega)
    · have hne:cmpI a.Nw[i] b.Nw[i]≠0:=λe=>hc ((au _ _).1 e)
      rw[if_neg hc,if_neg hne,if_pos (by rw[bne_iff_ne]; exact hc),nN,GH,va (by omega) (by omega),kY]
  · obtain rfl:i=a.Nw.length:=by omega
    have e2:b.Nw.drop a.Nw.length=[]:=by rw[<-he,Hg]
    rw[if_neg (by simp),Hg,e2]
    rfl
theorem pt {fu:Nat} (hfu:2097153<=fu) {n:Nq} (hn:NetF n) {a b:Nz} (ha:RtB n a) (hb:RtB n b):cq fu n a b=some (cmpR n.Nw a b):=by
 have a1:=ha.short;have b1:=hb.short;have a2:=nY hn ha.fib;have b2:=nY hn hb.fib;have hm:=hn.hi;have s1:=ha.lo;have s2:=ha.hi;have s3:=hb.lo;have s4:=hb.hi;unfold cq cmpR;rw[i7 hfu hn a ha.fib (by omega),i7 hfu hn b hb.fib (by omega)];simp only[GH];rw[va (n:=lenR n.Nw a.Nw - lenR n.Nw b.Nw) (by omega) (by omega),va (n:=(a.Nw.length:Int) - (b.Nw.length:Int)) (by omega) (by omega),va (n:=a.Nt - b.Nt) (by omega) (by omega),nN,nN,nN,kY,kY,kY];by_cases h1:lenR n.Nw a.Nw=lenR n.Nw b.Nw;have z1:=(au _ _).2 h1;rw[if_neg (by rw[bne_iff_ne]; omega)];by_cases h2:a.Nw.length=b.Nw.length;have z2:=(au (a.Nw.length:Int) (b.Nw.length:Int)).2 (by omega);have hl:=mH (fu:=fu) hn a b ha.fib hb.fib (by omega) h2.symm fu 0 (by omega) (by omega);rw[show ((0:Nat):Int)=0 from rfl,He,He]at hl;rw[if_neg (by rw[bne_iff_ne]; omega),hl];by_cases h3:cmpL a.Nw b.Nw=0;rw[if_pos h3,GH,EL z1 z2 h3];rfl;rw[if_neg h3,EM z1 z2 h3]; rfl;have z2:cmpI (a.Nw.length:Int) (b.Nw.length:Int)≠0:=λe=>h2 (by have:=(au _ _).1 e; omega);rw[if_pos (by rw[bne_iff_ne]; omega),EN z1 z2]; rfl;have z1:cmpI (lenR n.Nw a.Nw) (lenR n.Nw b.Nw)≠0:=λe=>h1 ((au _ _).1 e);rw[if_pos (by rw[bne_iff_ne]; omega),EO z1]; rfl
def insN (F:List Pq) (l:List Nz) (r:Nz):Nat->Nat
 | 0=>0
 | i + 1=>if cmpR F r (gd l i rt0)<0 then insN F l r i else i + 1
theorem oa (F:List Pq) (l:List Nz) (r:Nz):∀i,insN F l r i<=i
 | 0=>GV 0
 | i + 1=>by
  unfold insN
  split
  · have:=oa F l r i; omega
  · exact GV _
def insR (F:List Pq) (l:List Nz) (r:Nz):List Nz:=l.take (insN F l r l.length)++r::l.drop (insN F l r l.length)
theorem kV (F:List Pq) (l:List Nz) (r:Nz):(insR F l r).length=l.length + 1:=by
 have:=oa F l r l.length;unfold insR;rw[GL,Hq,GO,Hd];omega
theorem lM (F:List Pq) (l:List Nz) (r:Nz):(insR F l r).Perm (r::l):=by
 unfold insR;refine Ik.trans ?_;rw[Ha]
theorem AC {fu:Nat} (hfu:2097153<=fu) {n:Nq} (hn:NetF n) (to:Int) (l:List Nz) (r:Nz) (hl:l.length<=1000) (hL:∀a∈l,RtB n a) (hr:RtB n r):∀(fk i:Nat),i<=l.length->i<fk->xQ fu ⟨n,to,l⟩ r fk i=some ((insN n.Nw l r i:Nat):Int):=by
 intro fk;induction fk with
 | zero=>intro i _ h; omega
 | succ fk ih =>
  intro i hi hk
  rw[xQ]
  cases i with
  | zero =>
   rw[if_neg (by simp),GH,if_neg HC]
   rfl
  | succ i =>
   have hi':i<l.length:=by omega
   have e1:y_ (((i + 1:Nat):Int) - 1)=(i:Int):=by rw[va (by omega) (by omega)]; omega
   have e2:V_ (⟨n,to,l⟩:Pj).list (i:Int)=some (gd l i rt0):=xC rt0 hi'
   rw[if_pos (by simp),e1,e2,GH,pt hfu hn hr (hL _ (zx rt0 hi')),insN]
   simp only[GH,decide_eq_true_eq]
   by_cases hc:cmpR n.Nw r (gd l i rt0)<0
   · rw[if_pos hc,if_pos hc]
     exact ih i (by omega) (by omega)
   · rw[if_neg hc,if_neg hc]
theorem put_eq {fu:Nat} (hfu:2097153<=fu) {n:Nq} (hn:NetF n) (to:Int) (l:List Nz) (r:Nz) (hl:l.length<=1000) (hL:∀a∈l,RtB n a) (hr:RtB n r):aB fu ⟨n,to,l⟩ r=some ⟨n,to,insR n.Nw l r⟩:=by
 have hle:=oa n.Nw l r l.length;unfold aB;rw[AC hfu hn to l r hl hL hr fu l.length (GV _) (by omega),GH];show ((sub l 0 ((insN n.Nw l r l.length:Nat):Int)).bind _)=_;rw[fZ hle,GH];have hs:sub l ((insN n.Nw l r l.length:Nat):Int) (l.length:Int)=some (l.drop (insN n.Nw l r l.length)):=by
  unfold sub
  rw[if_pos (by omega)]
  simp
 show ((sub l ((insN n.Nw l r l.length:Nat):Int) (l.length:Int)).bind _)=_;rw[hs,GH,d7 (by rw[GO]; omega),GH,yw (by rw[GO,GY]; omega),GH,yw (by rw[GL,GO,GY,Hd]; omega),GH,GN,HY];rfl
def T1 (F:List Pq) (to:Int):Nat->d_->Int->d_->List (d_)
 | 0,_,_,_=>[]
 | k + 1,seen,v,fs=>if v=to then [fs] else (List.range F.length).flatMap λi=>if 0<=X_ (gd F i f0) v/\(seen.any λx=>x==X_ (gd F i f0) v)=false then T1 F to k (seen++[X_ (gd F i f0) v]) (X_ (gd F i f0) v) (fs++[(i:Int)]) else []
theorem q6 {F:List Pq} {to:Int} {k:Nat} {seen:d_} {v:Int} {fs:d_} (h:¬v=to):T1 F to (k + 1) seen v fs=(List.range F.length).flatMap λi=>if 0<=X_ (gd F i f0) v/\(seen.any λx=>x==X_ (gd F i f0) v)=false then T1 F to k (seen++[X_ (gd F i f0) v]) (X_ (gd F i f0) v) (fs++[(i:Int)]) else []:=by rw[T1,if_neg h]
def bB (F:List Pq) (s:Int) (l:List Nz) (ps:List (d_)):List Nz:=ps.foldl (λl p=>if l.length<=200 then insR F l ⟨s,p⟩ else l) l
theorem rW (F:List Pq) (s:Int) (l:List Nz) (p q:List (d_)):bB F s l (p++q)=bB F s (bB F s l p) q:=List.foldl_append
theorem lA {F:List Pq} {s:Int} {l:List Nz} (h:200<l.length):∀ps,bB F s l ps=l
 | []=>rfl
 | p::ps=>by
  show bB F s (if l.length<=200 then _ else l) ps=l
  rw[if_neg (by omega)]
  exact lA h ps
theorem kR {n:Nq} {s:Int}:∀(ps:List (d_)) {l:List Nz},(∀p∈ps,RtB n ⟨s,p⟩)->(∀a∈l,RtB n a)->l.length<=201->(∀a∈bB n.Nw s l ps,RtB n a)/\(bB n.Nw s l ps).length<=201
 | [],l,_,hl,hn=>⟨hl,hn⟩
 | p::ps,l,hp,hl,hn=>by
  show (∀a∈bB n.Nw s (if l.length<=200 then insR n.Nw l ⟨s,p⟩ else l) ps,RtB n a)/\_
  by_cases h:l.length<=200
  · have:=kR ps (l:=insR n.Nw l ⟨s,p⟩) (λq hq=>hp q (Hs _ hq)) (λa ha=>by
     rcases Hf.1 ((lM n.Nw l ⟨s,p⟩).mem_iff.1 ha) with e | e
     · rw[e]; exact hp p (by simp)
     · exact hl a e) (by rw[kV]; omega)
    rw[if_pos h]
    show _/\(bB n.Nw s (if l.length<=200 then insR n.Nw l ⟨s,p⟩ else l) ps).length<=201
    rw[if_pos h]
    exact this
  · have:=kR ps (l:=l) (λq hq=>hp q (Hs _ hq)) hl hn
    rw[if_neg h]
    show _/\(bB n.Nw s (if l.length<=200 then insR n.Nw l ⟨s,p⟩ else l) ps).length<=201
    rw[if_neg h]
    exact this
theorem mX {F:List Pq} {s:Int}:∀(ps:List (d_)) {l:List Nz} {a:Nz},a∈bB F s l ps->a∈l∨∃p∈ps,a=⟨s,p⟩
 | [],l,a,h=>.inl h
 | p::ps,l,a,h=>by
  have h':a∈bB F s (if l.length<=200 then insR F l ⟨s,p⟩ else l) ps:=h
  rcases mX ps h' with h1 | ⟨q,hq,e⟩
  · split at h1
    · rcases Hf.1 ((lM F l ⟨s,p⟩).mem_iff.1 h1) with e | e
      · exact .inr ⟨p,by simp,e⟩
      · exact .inl e
    · exact .inl h1
  · exact .inr ⟨q,Hs _ hq,e⟩
theorem AD {n:Nq} {to:Int}:∀(k:Nat) {seen:d_} {v:Int} {fs:d_},kM n fs->∀p∈T1 n.Nw to k seen v fs,kM n p/\p.length + 1<=fs.length + k
 | 0,seen,v,fs,_,p,h=>by simp [T1]at h
 | k + 1,seen,v,fs,hf,p,h=>by
  unfold T1 at h
  split at h
  · rw[GR]at h
    subst h
    exact⟨hf,by omega⟩
  · obtain⟨i,hi,h1⟩:=Hr.1 h
    have hi':=Hv.1 hi
    split at h1
    · obtain⟨g1,g2⟩:=AD k (λx hx=>by
       rcases GI.1 hx with hx | hx
       · exact hf x hx
       · rw[GR]at hx; subst hx; omega) p h1
      rw[GL,GY]at g2
      exact⟨g1,by omega⟩
    · simp at h1
theorem AY {fu:Nat} (hfu:2097153<=fu) {n:Nq} (hn:NetF n) (to:Int) (r:Nz) (seen:d_) (rec_:Pj->Nz->d_->Option Pj) (v:Int) (k:Nat) (hs:seen.length<=1000) (hr:r.Nw.length<=1000)
 (hB:∀i,i<n.Nw.length->∀p∈(if 0<=X_ (gd n.Nw i f0) v/\(seen.any λx=>x==X_ (gd n.Nw i f0) v)=false then T1 n.Nw to k (seen++[X_ (gd n.Nw i f0) v]) (X_ (gd n.Nw i f0) v) (r.Nw++[(i:Int)]) else []),RtB n ⟨r.Nt,p⟩)
 (hrec:∀i l,i<n.Nw.length->0<=X_ (gd n.Nw i f0) v->(seen.any λx=>x==X_ (gd n.Nw i f0) v)=false->l.length<=200->(∀a∈l,RtB n a)->rec_ ⟨n,to,l⟩ ⟨r.Nt,r.Nw++[(i:Int)]⟩ (seen++[X_ (gd n.Nw i f0) v])=some ⟨n,to,bB n.Nw r.Nt l (T1 n.Nw to k (seen++[X_ (gd n.Nw i f0) v]) (X_ (gd n.Nw i f0) v) (r.Nw++[(i:Int)]))⟩) :
 ∀(fk i:Nat) (l:List Nz),i<=n.Nw.length->n.Nw.length - i<fk->(∀a∈l,RtB n a)->l.length<=201 ->
 ∃z,vx fu r seen rec_ v fk i n.Nv n.Nw to l=some (z,n.Nv,n.Nw,to,bB n.Nw r.Nt l (((List.range n.Nw.length).drop i).flatMap λi=>if 0<=X_ (gd n.Nw i f0) v/\(seen.any λx=>x==X_ (gd n.Nw i f0) v)=false then T1 n.Nw to k (seen++[X_ (gd n.Nw i f0) v]) (X_ (gd n.Nw i f0) v) (r.Nw++[(i:Int)]) else [])):=by
 have hff:=hn.fib;intro fk;induction fk with
 | zero=>intro i _ _ h; omega
 | succ fk ih =>
  intro i l hi hk hL hl
  rw[vx]
  by_cases h:i<n.Nw.length
  · by_cases h2:l.length<=200
    · have hoth:yK fu (⟨n.Nv,n.Nw⟩:Nq) (i:Int) v=some (X_ (gd n.Nw i f0) v):=iu fu n i v h
      have hdr:(List.range n.Nw.length).drop i=i::(List.range n.Nw.length).drop (i + 1):=by
       rw[<-GU (as:=List.range n.Nw.length) (i:=i) (h:=by simpa using h),HR]
      have hwi:=vV h (show (n.Nw.length:Int)<=9223372036854775807 by omega)
      rw[if_pos (by simpa using h),decide_eq_true (by omega),GH,if_pos rfl,hoth,GH,hdr,HL,rW,hwi]
      clear hwi
      have hBi:=hB i h
      have hri:=hrec i l h
      obtain⟨y,hy⟩:∃y,y=X_ (gd n.Nw i f0) v:=⟨_,rfl⟩
      rw[<-hy]at hBi hri ⊢
      by_cases h3:0<=y
      · cases h4:seen.any λx=>x==y
        · rw[h4]at hBi
          rw[if_pos ⟨h3,rfl⟩]at hBi
          rw[if_pos (by simpa using h3),iv seen y (by omega) (by omega),h4,GH,GH,if_pos (by decide),if_pos ⟨h3,rfl⟩,lL fu r.Nw (by omega),GH,yw (by rw[GY]; omega),GH,lL fu seen (by omega),GH,yw (by rw[GY]; omega),GH]
          have:=hri h3 h4 h2 hL
          have this':rec_ ({ n:=({ Nv:=n.Nv,Nw:=n.Nw }:Nq),to:=to,list:=l }:Pj) ({ Nt:=r.Nt,Nw:=r.Nw++[(i:Int)] }:Nz) (seen++[y])=_:=this
          rw[this',GH]
          obtain⟨g1,g2⟩:=kR _ hBi hL hl
          exact ih (i + 1) _ h (by omega) g1 g2
        · rw[if_pos (by simpa using h3),iv seen y (by omega) (by omega),h4,GH,GH,if_neg (by decide),if_neg (λc=>by cases c.2)]
          exact ih (i + 1) l h (by omega) hL hl
      · rw[if_neg (by simpa using h3),GH,if_neg HC,if_neg λc=>h3 c.1]
        exact ih (i + 1) l h (by omega) hL hl
    · rw[if_pos (by simpa using h),decide_eq_false (by omega),GH,if_neg HC,lA (by omega)]
      exact⟨_,rfl⟩
  · obtain rfl:i=n.Nw.length:=by omega
    have e:(List.range n.Nw.length).drop n.Nw.length=[]:=by rw[List.drop_eq_nil_iff]; simp
    rw[if_neg (by simp),GH,if_neg HC,e]
    exact⟨_,rfl⟩
theorem ext_eq {n:Nq} (hn:NetF n) (to:Int):∀(k:Nat) {fu:Nat},2097153 + k<=fu->∀(l:List Nz) (r:Nz) (seen:d_),seen.length + k=n.Nv.length + 1->1<=k->seen.Nodup->(∀x∈seen,0<=x/\x<(n.Nv.length:Int))->r.Nw.length + 1=seen.length->kM n r.Nw->0<=r.Nt->r.Nt<(n.Nv.length:Int)->l.length<=200->(∀a∈l,RtB n a) ->
 vH fu ⟨n,to,l⟩ r seen=some ⟨n,to,bB n.Nw r.Nt l (T1 n.Nw to k seen (gl seen) r.Nw)⟩:=by
 have hm:=hn.hi;have hff:=hn.fib;intro k;induction k with
 | zero=>intro fu _ _ _ _ _ h; omega
 | succ k ih =>
  intro fu hfu l r seen hsl _ hnd hin hrf hfi hs0 hs1 hl hL
  obtain⟨fu',rfl⟩:∃f,fu=f + 1:=⟨fu - 1,by omega⟩
  have hfu':2097153 + k<=fu':=by omega
  rw[vH]
  unfold zM
  have hlast:V_ seen (y_ ((seen.length:Int) - 1))=some (gl seen):=rp (by omega) (by omega)
  have hpB:=λp hp=>AD (to:=to) (k + 1) (seen:=seen) (v:=gl seen) hfi p hp
  rw[hlast,GH]
  by_cases hv:gl seen=to
  · have e1:(gl seen==to)=true:=by rw[beq_iff_eq]; exact hv
    have hpe:T1 n.Nw to (k + 1) seen (gl seen) r.Nw=[r.Nw]:=by rw[T1,if_pos hv]
    rw[e1,if_pos rfl,put_eq (by omega) hn to l r (by omega) hL ⟨by omega,hfi,hs0,hs1⟩,hpe]
    show some _=some (⟨n,to,if l.length<=200 then insR n.Nw l r else l⟩:Pj)
    rw[if_pos hl]
  · have e1:(gl seen==to)=false:=by rw[beq_eq_false_iff_ne]; exact hv
    have hpe:=q6 (F:=n.Nw) (k:=k) (seen:=seen) (fs:=r.Nw) hv
    rw[hpe]at hpB
    obtain⟨z,hz⟩:=AY (fu:=fu') (by omega) hn to r seen (λx1 r' seen=>vH fu' x1 r' seen) (gl seen) k (by omega) (by omega)
     (λi hi p hp=>by
       obtain⟨g1,g2⟩:=hpB p (Hr.2 ⟨i,Hv.2 hi,hp⟩)
       exact⟨by simp only; omega,g1,hs0,hs1⟩)
     (λi l' hi h0 hns hl' hL'=>by
       have hfm:gd n.Nw i f0∈n.Nw:=zx f0 hi
       have hev:=hn.each _ hfm
       have hom:=qp h0
       have hnot:X_ (gd n.Nw i f0) (gl seen)∉seen:=λhm=>by
        rw[G7]at hns
        exact hns (G5.2 ⟨_,hm,by simp⟩)
       have hnd':(seen++[X_ (gd n.Nw i f0) (gl seen)]).Nodup:=GZ.2 ⟨hnd,by simp,λa ha b hb=>by rw[GR]at hb; subst hb; exact λe=>hnot (e▸ha)⟩
       have hin':∀x∈seen++[X_ (gd n.Nw i f0) (gl seen)],0<=x/\x<(n.Nv.length:Int):=λx hx=>by
        rcases GI.1 hx with hx | hx
        · exact hin x hx
        · rw[GR]at hx
          subst hx
          omega
       have hsh:=kO _ _ hnd' hin'
       rw[GL,GY]at hsh
       have:=ih hfu' l' (⟨r.Nt,r.Nw++[(i:Int)]⟩:Nz) (seen++[X_ (gd n.Nw i f0) (gl seen)]) (by rw[GL,GY]; omega) (by omega) hnd' hin' (by simp only[GL,GY]; omega) (λx hx=>by
        rcases GI.1 hx with hx | hx
        · exact hfi x hx
        · rw[GR]at hx; subst hx; omega) hs0 hs1 hl' hL'
       rw[og]at this
       exact this) fu' 0 l (by omega) (by omega) hL (by omega)
    rw[show ((0:Nat):Int)=0 from rfl,He]at hz
    rw[e1,if_neg HC,hpe]
    have hz':vx fu' r seen (λx1 r' seen=>vH fu' x1 r' seen) (gl seen) fu' 0 (⟨n,to,l⟩:Pj).n.Nv (⟨n,to,l⟩:Pj).n.Nw (⟨n,to,l⟩:Pj).to (⟨n,to,l⟩:Pj).list=_:=hz
    rw[hz',GH]
def M0 (n:Nq) (s t:Int):List Nz:=bB n.Nw s [] (T1 n.Nw t n.Nv.length [s] s [])
theorem rQ {n:Nq} (hn:NetF n) {s:Int} (h0:0<=s) (h1:s<(n.Nv.length:Int)) (t:Int):(∀a∈M0 n s t,RtB n a)/\(M0 n s t).length<=201:=by
 have hm:=hn.hi;refine kR _ (λp hp=>?_) (by simp) (by simp);obtain⟨g1,g2⟩:=AD _ (λx hx=>by simp at hx) p hp;simp only[HP]at g2;exact⟨by simp only; omega,g1,h0,h1⟩
theorem rj {fu:Nat} (hfu:2097200<=fu) {n:Nq} (hn:NetF n) (s t:Int) (h0:0<=s) (h1:s<(n.Nv.length:Int)):eh fu n s t=some (if (M0 n s t).length<=200 then (M0 n s t,true) else ([],false)):=by
 have hm:=hn.hi;have hlo:=hn.lo;have hB:=rQ hn h0 h1 t;unfold eh;rw[ext_eq hn t n.Nv.length (by omega) [] ⟨s,[]⟩ [s] (by simp; omega) (by omega) (by simp) (by simpa using ⟨h0,h1⟩) (by simp) (λx hx=>by simp at hx) h0 h1 (by simp) (by simp),GH];show (if decide (((M0 n s t).length:Int) > 200)=true then _ else (M_ ([]:List Nz) (M0 n s t)).bind _)=_
 by_cases h:(M0 n s t).length<=200;rw[if_neg (by simp; omega),d7 (by omega),if_pos h]; rfl;rw[if_pos (by simp; omega),if_neg h]
def d8 (n:Nq) (s t:Int):Bool:=cE n&&(decide (0<=s/\s<(n.Nv.length:Int))&&(decide (0<=t/\t<(n.Nv.length:Int))&&s != t))
theorem wx {fu:Nat} (hfu:2097153<=fu) (n:Nq) (s t:Int) (hB:NetB n):iU fu n s t=some (d8 n s t):=by
 have hm:=hB.1.1;unfold iU d8;rw[fM hfu n hB,GH];cases hn:cE n
 rfl;have e:∀x:Int,(decide (0<=x)&&decide (x<=y_ ((n.Nv.length:Int) - 1)))=decide (0<=x/\x<(n.Nv.length:Int)):=λx=>by
  rw[va (n:=(n.Nv.length:Int) - 1) (by omega) (by omega),HB]
  simp only[GP,decide_eq_true_eq]
  omega
 simp only[cF,e,GH,if_true];cases decide (0<=s/\s<(n.Nv.length:Int)) <;> cases decide (0<=t/\t<(n.Nv.length:Int)) <;> rfl
theorem nK {fu:Nat} (hfu:2097200<=fu) (n:Nq) (s t:Int) (hB:NetB n):dJ fu n s t=some (if d8 n s t=true/\(M0 n s t).length<=200 then (M0 n s t,true) else ([],false)):=by
 unfold dJ;rw[wx (by omega) n s t hB,GH];cases hp:d8 n s t
 rfl;have hp':=hp;unfold d8 at hp';simp only[GP,decide_eq_true_eq]at hp';rw[if_neg (by decide),rj hfu (netF hp'.1) s t hp'.2.1.1 hp'.2.1.2,GH];by_cases h:(M0 n s t).length<=200;rw[if_pos h,if_pos ⟨rfl,h⟩];rw[if_neg h,if_neg λc=>h c.2]
end AT
namespace AT
variable {s i n:Nat}
theorem B5 (hs:s<256) (hi:i<8):band ((s / 2 ^ i:Nat):Int) 1=if s.testBit i=true then 1 else 0:=by
 have:∀s:Fin 256,∀i:Fin 8,band ((s.1 / 2 ^ i.1:Nat):Int) 1=if s.1.testBit i.1=true then 1 else 0:=by decide +kernel
 exact this ⟨s,hs⟩ ⟨i,hi⟩
theorem Dm (hs:s<256) (hi:i<8) (h:s.testBit i=false):Z1 (s:Int) ((2 ^ i:Nat):Int)=((s + 2 ^ i:Nat):Int):=by
 have:∀s:Fin 256,∀i:Fin 8,s.1.testBit i.1=false->Z1 (s.1:Int) ((2 ^ i.1:Nat):Int)=((s.1 + 2 ^ i.1:Nat):Int):=by decide +kernel
 exact this ⟨s,hs⟩ ⟨i,hi⟩ h
theorem Dn {j:Nat} (hs:s<256) (hi:i<8) (hj:j<8) (h:s.testBit i=false):(s + 2 ^ i).testBit j=(s.testBit j||decide (i=j)):=by
 have:∀s:Fin 256,∀i:Fin 8,∀j:Fin 8,s.1.testBit i.1=false->(s.1 + 2 ^ i.1).testBit j.1=(s.1.testBit j.1||decide (i.1=j.1)):=by decide +kernel
 exact this ⟨s,hs⟩ ⟨i,hi⟩ ⟨j,hj⟩ h
theorem BD (hn:n<=8):1<=2 ^ n/\2 ^ n<=256:=by
 have:∀n:Fin 9,1<=2 ^ n.1/\2 ^ n.1<=256:=by decide +kernel
 exact this ⟨n,by omega⟩
theorem EI (hn:n<=8) (hs:s<2 ^ n) (hi:i<n) (h:s.testBit i=false):s + 2 ^ i<2 ^ n:=by
 have:∀n:Fin 9,∀s:Fin 256,∀i:Fin 8,s.1<2 ^ n.1->i.1<n.1->s.1.testBit i.1=false->s.1 + 2 ^ i.1<2 ^ n.1:=by decide +kernel
 have h2:=(BD hn).2;exact this ⟨n,by omega⟩ ⟨s,by omega⟩ ⟨i,by omega⟩ hs hi h
theorem BC (h:n<=8):shl 1 (n:Int)=some ((2 ^ n:Nat):Int):=by
 have:∀n:Fin 9,shl 1 ((n:Nat):Int)=some ((2 ^ (n:Nat):Nat):Int):=by decide +kernel
 exact this ⟨n,by omega⟩
theorem Dl (s i:Nat) (hi:i<=64):shr (s:Int) (i:Int)=some ((s / 2 ^ i:Nat):Int):=by
 unfold shr;rw[if_neg (by omega),Hh,Ic hi,I8 _ (Int.pow_nonneg (by omega))];congr 1
end AT
namespace AT
theorem jb {α β:Type} {f:α->List β} {b:Nat}:∀(l:List α),(∀a∈l,(f a).length<=b)->(l.flatMap f).length<=l.length * b
 | [],_=>by simp
 | a::l,h=>by
  rw[HL,GL,Hq,Iq]
  have h1:=h a Hp
  have h2:=jb l λx hx=>h x (Hs _ hx)
  omega
theorem qo {F:List Pq} (hF:F.length<=14) (to:Int):∀(k:Nat) (seen:d_) (v:Int) (fs:d_),(T1 F to k seen v fs).length<=14 ^ k
 | 0,_,_,_=>by simp [T1]
 | k + 1,seen,v,fs=>by
  by_cases hv:v=to
  · rw[T1,if_pos hv]
    exact Nat.one_le_pow _ _ (by omega)
  · rw[q6 hv,Nat.pow_succ,Jh]
    refine HS (jb (b:=14 ^ k) _ λi _=>?_) ?_
    · split
      · exact qo hF to k _ _ _
      · exact IK _
    · rw[Hx]
      exact Hb _ hF
theorem DX {fu:Nat} (l:d_) (h:l.length<=2097152):za fu l=some l:=by
 have hc:M_ ([]:d_) l=some l:=by unfold M_; rw[if_pos (by simp; omega)]; rfl
 unfold za;rw[hc];unfold jQ;cases l <;> simp
def pthB (F:List Pq) (to:Int) (k:Nat) (seen:d_) (v:Int) (fs:d_) (i:Nat):List (d_):=if 0<=X_ (gd F i f0) v/\(seen.any λx=>x==X_ (gd F i f0) v)=false then T1 F to k (seen++[X_ (gd F i f0) v]) (X_ (gd F i f0) v) (fs++[(i:Int)]) else []
variable {F:List Pq} {n:Nq} {fu:Nat} {a b:Nz}
theorem AE (hF:F.length<=14) {to:Int} {k:Nat} {seen:d_} {v:Int} {fs:d_} (i:Nat):(pthB F to k seen v fs i).length<=14 ^ k:=by
 unfold pthB;split
 exact qo hF _ _ _ _ _;exact IK _
theorem tW (hn:NetF n) {i:Nat} (hi:i<n.Nw.length) {v:Int} (h:0<=X_ (gd n.Nw i f0) v):X_ (gd n.Nw i f0) v<(n.Nv.length:Int):=by
 have hev:=hn.each _ (zx f0 hi);have hom:=qp h;omega
theorem tV (hn:NetF n) (to from_ v:Int) (s:Nat) (fs seen:d_) (k:Nat) (rec_:Int->Int->d_->Int->List Nz->Int->Nq->Option (List Nz)) (hs:s<256) (hb:∀j:Nat,j<n.Nv.length->s.testBit j=seen.any λx=>x==(j:Int)) (hfs:fs.length<=1000)
 (hrec:∀(i:Nat) (acc:List Nz),i<n.Nw.length->0<=X_ (gd n.Nw i f0) v->(seen.any λx=>x==X_ (gd n.Nw i f0) v)=false->acc.length + 14 ^ k<=1099511627776 ->
   rec_ (X_ (gd n.Nw i f0) v) ((s + 2 ^ (X_ (gd n.Nw i f0) v).toNat:Nat):Int) (fs++[(i:Int)]) to acc from_ n=some (acc++(T1 n.Nw to k (seen++[X_ (gd n.Nw i f0) v]) (X_ (gd n.Nw i f0) v) (fs++[(i:Int)])).map λp=>(⟨from_,p⟩:Nz))) :
 ∀(fk i:Nat) (acc:List Nz),i<=n.Nw.length->n.Nw.length - i<fk->acc.length + (n.Nw.length - i) * 14 ^ k<=1099511627776 ->
   ∃z,vG fu v (s:Int) fs to from_ n rec_ fk i acc=some (z,acc++(((List.range n.Nw.length).drop i).flatMap (pthB n.Nw to k seen v fs)).map λp=>(⟨from_,p⟩:Nz)):=by
 have hff:=hn.fib;have hnn:=hn.hi;intro fk;induction fk with
 | zero=>intro i _ _ h; omega
 | succ fk ih =>
  intro i acc hi hk hl
  rw[vG]
  by_cases h:i<n.Nw.length
  · have hdr:(List.range n.Nw.length).drop i=i::(List.range n.Nw.length).drop (i + 1):=by
     rw[<-GU (by rw[Hx]; exact h),HR]
    have hsub:(n.Nw.length - i) * 14 ^ k=14 ^ k + (n.Nw.length - (i + 1)) * 14 ^ k:=by
     rw[show n.Nw.length - i=(n.Nw.length - (i + 1)) + 1 by omega,Iq,Jg]
    have hbl:=AE (F:=n.Nw) hff (to:=to) (k:=k) (seen:=seen) (v:=v) (fs:=fs) i
    rw[if_pos (by simpa using h),xC f0 h,GH,lE,GH,hdr,HL,I0,<-GN,vV h (by omega)]
    by_cases h0:0<=X_ (gd n.Nw i f0) v
    · have hlt:=tW hn h h0
      obtain⟨y,hy⟩:∃y:Nat,X_ (gd n.Nw i f0) v=(y:Int):=⟨(X_ (gd n.Nw i f0) v).toNat,by omega⟩
      have hrec':=hrec i
      have hpB:pthB n.Nw to k seen v fs i=if (seen.any λx=>x==(y:Int))=false then T1 n.Nw to k (seen++[(y:Int)]) (y:Int) (fs++[(i:Int)]) else []:=by
       unfold pthB
       rw[hy]
       by_cases hs2:(seen.any λx=>x==(y:Int))=false
       · rw[if_pos ⟨JD y,hs2⟩,if_pos hs2]
       · rw[if_neg (λh=>hs2 h.2),if_neg hs2]
      rw[hy]at hlt hrec' h0 ⊢
      have hy8:y<8:=by omega
      have hbit:=hb y (by omega)
      rw[if_pos (by simp),Dl s y (by omega),GH,B5 hs hy8,GH,BC (by omega),GH]
      by_cases ht:s.testBit y=true
      · have hsn:(seen.any λx=>x==(y:Int))=true:=by rw[<-hbit]; exact ht
        rw[if_pos ht,if_neg (by decide)]
        rw[hpB,if_neg (by rw[hsn]; decide),IH,G8]
        exact ih (i + 1) acc h (by omega) (by omega)
      · have ht':s.testBit y=false:=by simpa using ht
        have hsn:(seen.any λx=>x==(y:Int))=false:=by rw[<-hbit]; exact ht'
        rw[if_neg ht,if_pos (by decide),yw (by rw[GY]; omega),GH,Dm hs hy8 ht']
        have h5:=hrec' acc h h0 hsn (by omega)
        rw[Hh]at h5
        rw[h5,GH,hpB,if_pos hsn]
        refine ih (i + 1) _ h (by omega) ?_
        rw[hpB,if_pos hsn]at hbl
        rw[GL,Hn]
        omega
    · rw[if_neg (by simpa using h0),GH,if_neg HC]
      have hpB:pthB n.Nw to k seen v fs i=[]:=by unfold pthB; rw[if_neg (λh=>h0 h.1)]
      rw[hpB,IH,G8]
      exact ih (i + 1) acc h (by omega) (by omega)
  · obtain rfl:i=n.Nw.length:=by omega
    rw[if_neg (by simp),HI (by rw[Hx]; exact GV _),Ir,IH,G8]
    exact⟨_,rfl⟩
theorem AG (hn:NetF n) (to from_:Int):∀(k:Nat) {fu:Nat},2097153 + k<=fu->∀(acc:List Nz) (v:Int) (seen:d_) (s:Nat) (fs:d_),seen.length + k=n.Nv.length + 1->1<=k->seen.Nodup->(∀x∈seen,0<=x/\x<(n.Nv.length:Int))->fs.length + 1=seen.length->s<2 ^ n.Nv.length->(∀j:Nat,j<n.Nv.length->s.testBit j=seen.any λx=>x==(j:Int))->acc.length + 14 ^ k<=1099511627776 ->
 vB fu v (s:Int) fs to acc from_ n=some (acc++(T1 n.Nw to k seen v fs).map λp=>(⟨from_,p⟩:Nz)):=by
 have hm:=hn.hi;have hff:=hn.fib;intro k;induction k with
 | zero=>intro fu _ _ _ _ _ _ _ h; omega
 | succ k ih =>
  intro fu hfu acc v seen s fs hsl _ hnd hin hrf hsm hb hl
  obtain⟨fu',rfl⟩:∃f,fu=f + 1:=⟨fu - 1,by omega⟩
  have hs256:s<256:=by have:=(BD hm).2; omega
  have h14:1<=14 ^ (k + 1):=Nat.one_le_pow _ _ (by omega)
  rw[vB]
  unfold zf
  by_cases hv:v=to
  · rw[if_pos (by rw[beq_iff_eq]; exact hv),DX fs (by omega),GH,yw (by rw[GY]; omega),T1,if_pos hv]
    rfl
  · rw[if_neg (by rw[beq_iff_eq]; exact hv),q6 hv]
    have hsp:14 ^ (k + 1)=14 * 14 ^ k:=by rw[Nat.pow_succ,Jh]
    have hmul:n.Nw.length * 14 ^ k<=14 * 14 ^ k:=Hb _ hff
    obtain⟨z,hz⟩:=tV (fu:=fu') hn to from_ v s fs seen k (λat' seen fibers cap cap2 cap3 cap4=>vB fu' at' seen fibers cap cap2 cap3 cap4) hs256 hb (by omega)
     (λi acc' hi h0 hns hl'=>by
       have hlt:=tW hn hi h0
       obtain⟨y,hy⟩:∃y:Nat,X_ (gd n.Nw i f0) v=(y:Int):=⟨(X_ (gd n.Nw i f0) v).toNat,by omega⟩
       rw[hy]at hlt h0 hns ⊢
       have hyn:y<n.Nv.length:=by omega
       have hbit:s.testBit y=false:=by rw[hb y hyn]; exact hns
       have hnot:(y:Int)∉seen:=λhmem=>by
        rw[G7]at hns
        exact hns (G5.2 ⟨_,hmem,by simp⟩)
       have hnd':(seen++[(y:Int)]).Nodup:=GZ.2 ⟨hnd,by simp,λa ha b hb=>by rw[GR]at hb; subst hb; exact λe=>hnot (e▸ha)⟩
       have hin':∀x∈seen++[(y:Int)],0<=x/\x<(n.Nv.length:Int):=λx hx=>by
        rcases GI.1 hx with hx | hx
        · exact hin x hx
        · rw[GR]at hx; subst hx; omega
       have hsh:=kO _ _ hnd' hin'
       rw[GL,GY]at hsh
       rw[Hh]
       refine ih (by omega) acc' (y:Int) (seen++[(y:Int)]) (s + 2 ^ y) (fs++[(i:Int)]) (by rw[GL,GY]; omega) (by omega) hnd' hin' (by simp only[GL,GY]; omega) (EI hm hsm hyn hbit) (λj hj=>?_) hl'
       rw[Dn hs256 (by omega) (by omega) hbit,hb j hj,List.any_append]
       congr 1
       by_cases e:y=j
       · subst e; simp
       · simp [e]; omega) fu' 0 acc (by omega) (by omega) (by rw[IZ]; omega)
    rw[show ((0:Nat):Int)=0 from rfl,He]at hz
    rw[hz,GH]
    rfl
theorem pG (hn:NetF n) (r:Nz) (hf:kM n r.Nw) (hl:r.Nw.length<=100):∀(fk i:Nat) (s:Int),i<=r.Nw.length->r.Nw.length - i<fk->0<=s->s<=5000 * (i:Int)->∃z,yV fu n r fk s i=some (s + lenR n.Nw (r.Nw.drop i),z):=by
 intro fk;induction fk with
 | zero=>intro i _ _ h; omega
 | succ fk ih =>
  intro i s hi hk h0 h1
  rw[yV]
  by_cases h:i<r.Nw.length
  · obtain⟨e1,e2⟩:=qC (hf _ (GW h))
    have h2:=hn.each _ e2
    rw[if_pos (by simpa using h),vP h,GH,e1,GH,vV h (by omega),va (by omega) (by omega),<-GU h,lenR]
    obtain⟨z,hz⟩:=ih (i + 1) (s + (gd n.Nw r.Nw[i].toNat f0).Pg) h (by omega) (by omega) (by omega)
    exact⟨z,by rw[hz]; congr 2; omega⟩
  · obtain rfl:i=r.Nw.length:=by omega
    rw[if_neg (by simp),Hg,lenR,Int.add_zero]
    exact⟨_,rfl⟩
theorem jZ (hfu:2097153<=fu) {n:Nq} (hn:NetF n) (r:Nz) (hf:kM n r.Nw) (hl:r.Nw.length<=100):bq fu n r=some (lenR n.Nw r.Nw):=by
 obtain⟨z,hz⟩:=pG (fu:=fu) hn r hf hl fu 0 0 (by omega) (by omega) (by omega) (by omega);rw[show ((0:Nat):Int)=0 from rfl,He,Kb]at hz;unfold bq;rw[hz]; rfl
theorem sM (a b:d_) (ha:a.length<=2097152):∀(fk i:Nat),i<=a.length->a.length - i<fk ->
 ((vU fu a b fk i).bind λout=>out.on some λz=>if decide ((a.length:Int)<(b.length:Int)) then some (-1) else some 0)=some (cmpL (a.drop i) (b.drop i)):=by
 intro fk;induction fk with
 | zero=>intro i _ h; omega
 | succ fk ih =>
  intro i hi hk
  rw[vU]
  by_cases h:i<a.length
  · rw[if_pos (by simpa using h),vP h,GH,<-GU h]
    by_cases h2:i<b.length
    · rw[if_neg (by simpa using h2),vP h2,GH,fX,GH,<-GU h2,cmpL]
      by_cases hc:a[i]=b[i]
      · rw[if_pos hc,hc,(au _ _).2 rfl,if_neg (by decide),vV h (by omega)]
        exact ih (i + 1) h (by omega)
      · have hne:cmpI a[i] b[i]≠0:=λe=>hc ((au _ _).1 e)
        rw[if_neg hc,if_pos (by rw[bne_iff_ne]; exact hne)]
        rfl
    · rw[if_pos (by simp; omega),HI (show b.length<=i by omega)]
      rfl
  · obtain rfl:i=a.length:=by omega
    rw[if_neg (by simp),Hg]
    show (if decide ((a.length:Int)<(b.length:Int)) then some (-1) else some 0)=_
    by_cases h2:a.length<b.length
    · rw[if_pos (by simpa using h2),<-GU h2]; rfl
    · rw[if_neg (by simpa using h2),HI (by omega)]; rfl
theorem Bg (hfu:2097153<=fu) (a b:d_) (ha:a.length<=2097152):zN fu a b=some (cmpL a b):=by
 have:=sM (fu:=fu) a b ha fu 0 (by omega) (by omega);rw[show ((0:Nat):Int)=0 from rfl,He,He]at this;exact this
theorem j0 (hfu:2097153<=fu) {n:Nq} (hn:NetF n) {a b:Nz} (ha:RtB n a) (hb:RtB n b):vO fu a b n=some (cmpR n.Nw a b):=by
 have a1:=ha.short;have b1:=hb.short;unfold vO bP;rw[jZ hfu hn a ha.fib (by omega),jZ hfu hn b hb.fib (by omega)];simp only[GH,fX,Bg hfu a.Nw b.Nw (by omega),DO _ _ _ _ (show 4<fu by omega)];rfl
theorem dq (x y:Int):cmpI x y<0↔x<y:=by unfold cmpI; split <;> (try split) <;> omega
theorem wZ (x y:Int):cmpI y x=- cmpI x y:=by unfold cmpI; split <;> (try split) <;> (try split) <;> omega
theorem jE:∀{a b:d_},cmpL a b=0↔a=b
 | [],[]=>by simp [cmpL]
 | [],b::y=>by simp [cmpL]
 | a::x,[]=>by simp [cmpL]
 | a::x,b::y=>by
  unfold cmpL
  by_cases h:a=b
  · rw[if_pos h,jE,h]; simp
  · rw[if_neg h,au]; simp [h]
theorem pR:∀(a b:d_),cmpL b a=- cmpL a b
 | [],[]=>by simp [cmpL]
 | [],b::y=>by simp [cmpL]
 | a::x,[]=>by simp [cmpL]
 | a::x,b::y=>by
  unfold cmpL
  by_cases h:a=b
  · rw[if_pos h,if_pos h.symm]; exact pR x y
  · rw[if_neg h,if_neg (λe=>h e.symm)]; exact wZ a b
theorem nq:∀{a b c:d_},cmpL a b<0->cmpL b c<0->cmpL a c<0
 | [],b,[],h1,h2=>by
  cases b with
  | nil=>simp [cmpL]at h1
  | cons b y=>simp [cmpL]at h2
 | [],b,c::z,h1,h2=>by simp [cmpL]
 | a::x,[],c,h1,h2=>by simp [cmpL]at h1
 | a::x,b::y,[],h1,h2=>by simp [cmpL]at h2
 | a::x,b::y,c::z,h1,h2=>by
  unfold cmpL at h1 h2 ⊢
  by_cases e1:a=b
  · rw[if_pos e1]at h1
    by_cases e2:b=c
    · rw[if_pos e2]at h2
      rw[if_pos (e1.trans e2)]
      exact nq h1 h2
    · rw[if_neg e2,dq]at h2
      rw[if_neg (by omega),dq]
      omega
  · rw[if_neg e1,dq]at h1
    by_cases e2:b=c
    · rw[if_neg (by omega),dq]
      omega
    · rw[if_neg e2,dq]at h2
      rw[if_neg (by omega),dq]
      omega
theorem CK {a b c d:Int}:or4 a b c d<0↔a<0∨(a=0/\(b<0∨(b=0/\(c<0∨(c=0/\d<0))))):=by
 unfold or4;by_cases h1:a=0;by_cases h2:b=0;by_cases h3:c=0;by_cases h4:d=0 <;> simp [h1,h2,h3,h4]
 simp [h1,h2,h3];simp [h1,h2];simp [h1]
theorem oy:cmpR F a b<0↔lenR F a.Nw<lenR F b.Nw∨(lenR F a.Nw=lenR F b.Nw/\(a.Nw.length<b.Nw.length∨(a.Nw.length=b.Nw.length/\(cmpL a.Nw b.Nw<0∨(a.Nw=b.Nw/\a.Nt<b.Nt))))):=by
 unfold cmpR;rw[CK,dq,au,dq,au,jE,dq,Int.ofNat_lt,Int.natCast_inj]
theorem rA (F:List Pq) (a:Nz):¬cmpR F a a<0:=by
 rw[oy];have:=(jE (a:=a.Nw) (b:=a.Nw)).2 rfl;omega
theorem j9 {c:Nz} (h1:cmpR F a b<0) (h2:cmpR F b c<0):cmpR F a c<0:=by
 rw[oy]at *;have t:=@nq a.Nw b.Nw c.Nw;rcases h1 with h1 | ⟨e1,h1 | ⟨e2,h1 | ⟨e3,h1⟩⟩⟩ <;> rcases h2 with h2 | ⟨g1,h2 | ⟨g2,h2 | ⟨g3,h2⟩⟩⟩ <;> (try rw[e3]at *) <;> (try rw[<-g3]at *) <;> (first | (left; omega) | (right; refine⟨by omega,?_⟩; first | (left; omega) | (right; refine⟨by omega,?_⟩; first | (left; first | assumption | exact t h1 h2) | (right; exact⟨rfl,by omega⟩))))
theorem rz (h1:¬cmpR F a b<0) (h2:¬cmpR F b a<0):a=b:=by
 rw[oy]at h1 h2;have h3:=pR a.Nw b.Nw;have e:a.Nw=b.Nw:=by
  rw[<-jE]
  omega
 obtain⟨sa,fa⟩:=a;obtain⟨sb,fb⟩:=b;simp only at e;subst e;have h1':¬sa<sb:=λh=>h1 (.inr ⟨rfl,.inr ⟨rfl,.inr ⟨rfl,h⟩⟩⟩);have h2':¬sb<sa:=λh=>h2 (.inr ⟨rfl,.inr ⟨rfl,.inr ⟨rfl,h⟩⟩⟩);have:sa=sb:=by omega
 rw[this]
def RtS (F:List Pq) (l:List Nz):Prop:=l.Pairwise λa b=>¬cmpR F b a<0
theorem pD (F:List Pq) (l:List Nz) (r:Nz):∀i,(∀q,insN F l r i<=q->q<i->cmpR F r (gd l q rt0)<0)/\(insN F l r i=0∨¬cmpR F r (gd l (insN F l r i - 1) rt0)<0)
 | 0=>⟨λq h1 h2=>by omega,.inl rfl⟩
 | i + 1=>by
  unfold insN
  by_cases h:cmpR F r (gd l i rt0)<0
  · rw[if_pos h]
    obtain⟨h1,h2⟩:=pD F l r i
    refine⟨λq h3 h4=>?_,h2⟩
    by_cases e:q=i
    · rw[e]; exact h
    · exact h1 q h3 (by omega)
  · rw[if_neg h]
    exact⟨λq h3 h4=>by omega,.inr (by simpa using h)⟩
theorem Bh {c:Nz} (h1:¬cmpR F b a<0) (h2:¬cmpR F c b<0):¬cmpR F c a<0:=by
 intro h;by_cases h3:cmpR F a b<0;exact h2 (j9 h h3);have:=rz h3 h1;subst this;exact h2 h
theorem qz {l:List Nz} (r:Nz) (h:RtS F l):RtS F (insR F l r):=by
 have hle:=oa F l r l.length;obtain⟨h1,h2⟩:=pD F l r l.length;unfold insR;generalize insN F l r l.length=j at hle h1 h2;have hs:RtS F (l.take j++l.drop j):=by rw[Ha]; exact h
 obtain⟨s1,s2,s3⟩:=HJ.1 hs;refine HJ.2 ⟨s1,Ia.2 ⟨λx hx=>?_,s2⟩,λa ha b hb=>?_⟩;obtain⟨q,hq,rfl⟩:=G4.1 hx;rw[Hd]at hq;have:=h1 (j + q) (by omega) (by omega);rw[aU rt0 (by omega)]at this;rw[Im];exact λh=>rA F r (j9 this h);have har:¬cmpR F r a<0:=by
  rcases h2 with h2 | h2
  · subst h2; simp at ha
  · obtain⟨q,hq,rfl⟩:=G4.1 ha
    rw[GO]at hq
    rw[Hu]
    rw[aU rt0 (by omega)]at h2
    by_cases e:q=j - 1
    · subst e; exact h2
    · exact Bh (HM.1 h q (j - 1) (by omega) (by omega) (by omega)) h2
 rcases Hf.1 hb with rfl | hb
 exact har;exact s3 a ha b hb
theorem ly (F:List Pq) (s:Int):∀(ps:List (d_)) (l:List Nz),l.length + ps.length<=201->RtS F l->RtS F (bB F s l ps)/\(bB F s l ps).Perm (l++ps.map λp=>(⟨s,p⟩:Nz))
 | [],l,_,h=>⟨h,by simp [bB]⟩
 | p::ps,l,hl,h=>by
  rw[Hq]at hl
  have e:bB F s l (p::ps)=bB F s (insR F l ⟨s,p⟩) ps:=by
   show bB F s (if l.length<=200 then insR F l ⟨s,p⟩ else l) ps=_
   rw[if_pos (by omega)]
  rw[e]
  obtain⟨h1,h2⟩:=ly F s ps (insR F l ⟨s,p⟩) (by rw[kV]; omega) (qz _ h)
  refine⟨h1,h2.trans ?_⟩
  rw[HX]
  exact ((lM F l ⟨s,p⟩).append_right _).trans Ik.symm
theorem jO (F:List Pq) (s:Int):∀(ps:List (d_)) (l:List Nz),l.length<=201->(bB F s l ps).length=min (l.length + ps.length) 201
 | [],l,h=>by show l.length=_; rw[HP]; omega
 | p::ps,l,h=>by
  show (bB F s (if l.length<=200 then insR F l ⟨s,p⟩ else l) ps).length=_
  rw[Hq]
  split
  · rw[jO F s ps _ (by rw[kV]; omega),kV]; omega
  · rw[jO F s ps _ h]; omega
theorem rN {α:Type} [DecidableEq α] {cmp:α->α->Option Int} {l:List α} (hF:SoF cmp l):∃r,lu cmp l=some r:=by
 unfold lu;rw[if_pos (soF.2 hF)];exact⟨_,rfl⟩
theorem q9 {α:Type} {cmp:α->α->Option Int} {a b:α} {c:Int} (h:cmp a b=some c):O1 cmp a b=decide (c<0):=by
 unfold O1;rw[h]
theorem soR (hfu:2097153<=fu) {n:Nq} (hn:NetF n) {l:List Nz} (hl:∀a∈l,RtB n a) (hlen:l.length<=1099511627776):SoF (λa b=>vO fu a b n) l:=by
 have e:∀a∈l,∀b∈l,O1 (λa b=>vO fu a b n) a b=decide (cmpR n.Nw a b<0):=λa ha b hb=>q9 (j0 hfu hn (hl a ha) (hl b hb));refine⟨λa ha=>?_,λa ha b hb h1 h2=>?_,λa ha b hb c hc h1 h2=>?_,λa ha b hb=>?_,by omega⟩;rw[e a ha a ha]; exact decide_eq_false (rA _ _);rw[e a ha b hb,decide_eq_false_iff_not]at h1;rw[e b hb a ha,decide_eq_false_iff_not]at h2;exact rz h1 h2;rw[e a ha b hb,decide_eq_true_eq]at h1;rw[e b hb c hc,decide_eq_true_eq]at h2;rw[e a ha c hc,decide_eq_true_eq];exact j9 h1 h2;rw[j0 hfu hn (hl a ha) (hl b hb)]; rfl
theorem EH (hfu:2097153<=fu) {n:Nq} (hn:NetF n) {s:Int} {ps:List (d_)} (hl:∀p∈ps,RtB n ⟨s,p⟩) (hlen:ps.length<=1099511627776):∃r,lu (λa b=>vO fu a b n) (ps.map λp=>(⟨s,p⟩:Nz))=some r/\r.length=ps.length/\(ps.length<=200->r=bB n.Nw s [] ps):=by
 have hm:∀a∈ps.map (λp=>(⟨s,p⟩:Nz)),RtB n a:=λa ha=>by
  obtain⟨p,hp,rfl⟩:=Hy.1 ha
  exact hl p hp
 have hF:=soR hfu hn hm (by rw[Hn]; exact hlen);obtain⟨r,hr⟩:=rN hF;refine⟨r,hr,?_,λh=>?_⟩;have:=(nM hr).2.1.length_eq;rwa [Hn]at this;obtain⟨h1,h2⟩:=ly n.Nw s ps [] (by rw[HP]; omega) .nil;rw[Hi]at h2;have h3:=qR hF h2 (h1.imp_of_mem λha hb h=>by
  rw[q9 (cmp:=λa b=>vO fu a b n) (j0 hfu hn (hm _ (h2.mem_iff.1 hb)) (hm _ (h2.mem_iff.1 ha)))]
  exact decide_eq_false h)
 rw[hr]at h3;exact GJ h3
theorem wC (n:Nq) (h1:2<=n.Nv.length) (h2:n.Nv.length<=8) (l:d_) (hl:l.length<=100) (hfu:2097153<=fu):vm fu l n=some (l.any λv=>!(decide (0<=v)&&decide (v<=(n.Nv.length:Int) - 1))):=by
 unfold vm xf;rw[yP (l:=l) (G:=uW fu l n) (λv=>!(decide (0<=v)&&decide (v<=(n.Nv.length:Int) - 1))) (λi=>(i:Int)) (by omega)
  (λfk i hi=>by
    rw[uW,if_pos (by simpa using hi),vP hi]
    simp only[GH,dL,yd]
    rw[va (n:=(n.Nv.length:Int) - 1) (by omega) (by omega)])
  (λfk=>by rw[uW,if_neg (by simp)]) fu (by omega)]
 cases h:l.any (λv=>!(decide (0<=v)&&decide (v<=(n.Nv.length:Int) - 1)));rfl;rw[if_pos rfl];show some (decide (((l.findIdx _:Nat):Int)>=0))=some true;rw[decide_eq_true (JD _)]
theorem wD (hfu:2097153<=fu) (n:Nq) (s t:Int) (hB:NetB n):((eN fu n [s,t]).bind λy=>if (!y)=true then some true else some (s==t))=some (!d8 n s t):=by
 unfold eN d8;rw[jY hfu n hB];simp only[GH];cases hn:cE n
 rfl;have hF:=netF hn;rw[if_pos rfl,wC n hF.lo hF.hi [s,t] (by simp) hfu];simp only[GH,JA,List.any_nil,Bool.or_false,HD,Bool.not_or,Bool.not_not];by_cases h1:0<=s/\s<(n.Nv.length:Int);have e1:(decide (0<=s)&&decide (s<=(n.Nv.length:Int) - 1))=true:=by simp; omega
 by_cases h2:0<=t/\t<(n.Nv.length:Int);have e2:(decide (0<=t)&&decide (t<=(n.Nv.length:Int) - 1))=true:=by simp; omega
 rw[e1,e2,decide_eq_true h1,decide_eq_true h2];simp [bne];have e2:(decide (0<=t)&&decide (t<=(n.Nv.length:Int) - 1))=false:=by
  rw[G7]
  intro h
  simp only[GP,decide_eq_true_eq]at h
  omega
 rw[e1,e2,decide_eq_true h1,decide_eq_false h2];rfl;have e1:(decide (0<=s)&&decide (s<=(n.Nv.length:Int) - 1))=false:=by
  rw[G7]
  intro h
  simp only[GP,decide_eq_true_eq]at h
  omega
 rw[e1,decide_eq_false h1];rfl
theorem oe (hfu:2097200<=fu) (n:Nq) (s t:Int) (hB:NetB n):cA fu n s t=some (if d8 n s t=true/\(M0 n s t).length<=200 then (M0 n s t,true) else ([],false)):=by
 unfold cA;have h:=wD (show 2097153<=fu by omega) n s t hB;rw[h,GH];cases hp:d8 n s t
 rw[if_pos (by rfl),if_neg (λh=>by simp at h)];have hp':=hp;unfold d8 at hp';simp only[GP,decide_eq_true_eq,bne_iff_ne]at hp';obtain⟨hn,⟨s0,s1⟩,ht,hne⟩:=hp';have hF:=netF hn;have hm:=hF.hi;have hlo:=hF.lo;obtain⟨sn,hsn⟩:∃k:Nat,s=(k:Int):=⟨s.toNat,by omega⟩;have hps:vB fu s ((2 ^ sn:Nat):Int) [] t [] s n=some ((T1 n.Nw t n.Nv.length [s] s []).map λp=>(⟨s,p⟩:Nz)):=by
  have:=AG hF t s n.Nv.length (fu:=fu) (by omega) [] s [s] (2 ^ sn) [] (by simp; omega) (by omega) (by simp) (λx hx=>by rw[GR]at hx; subst hx; exact⟨s0,s1⟩) rfl (Nat.pow_lt_pow_right (by omega) (by omega)) (λj hj=>by
   rw[Nat.testBit_two_pow,JA,List.any_nil,Bool.or_false,hsn]
   by_cases e:sn=j
   · subst e; simp
   · simp [e]; omega) (by
   have:(14:Nat) ^ n.Nv.length<=14 ^ 8:=Jb (by omega) hm
   have e8:(14:Nat) ^ 8=1475789056:=by decide
   rw[HP]; omega)
  rwa [Hi]at this
 have hpl:=qo hF.fib t n.Nv.length [s] s [];have h148:(14:Nat) ^ n.Nv.length<=14 ^ 8:=Jb (by omega) hm;have e8:(14:Nat) ^ 8=1475789056:=by decide
 have hpB:∀p∈T1 n.Nw t n.Nv.length [s] s [],RtB n ⟨s,p⟩:=λp hp=>by
  obtain⟨g1,g2⟩:=AD (n:=n) (to:=t) n.Nv.length (seen:=[s]) (v:=s) (fs:=[]) (λx hx=>by simp at hx) p hp
  exact⟨by simp only; simp only[HP]at g2; omega,g1,s0,s1⟩
 obtain⟨r,hr,hrl,hr2⟩:=EH (fu:=fu) (by omega) hF hpB (by omega);have hlen:(M0 n s t).length=min (T1 n.Nw t n.Nv.length [s] s []).length 201:=by
  unfold M0
  rw[jO _ _ _ _ (by simp),HP,HA]
 rw[if_neg (by simp)];unfold bO vb;rw[if_pos (by rw[bne_iff_ne]; exact hne)];have hsh:shl 1 s=some ((2 ^ sn:Nat):Int):=by rw[hsn]; exact BC (by omega)
 rw[hsh,GH,hps,GH,hr];simp only[GH];by_cases h200:(T1 n.Nw t n.Nv.length [s] s []).length<=200;rw[if_neg (by simp; omega),if_pos ⟨trivial,by omega⟩,hr2 h200];rfl;rw[if_pos (by simp; omega),if_neg (λh=>by omega)]
end AT
namespace AT
end AT
namespace AT
structure Cur (c:Np) (k:Int):Prop where
 by_:∀e∈c.code,0<=e.n/\e.n<=255
 len:c.code.length<=65536
 lo:0<=c.at_
 hi:c.at_<=k
theorem Ew (q:Int):0<=jG q 255/\jG q 255<=255:=by
 unfold jG;have h:(BitVec.ofInt 64 q &&& BitVec.ofInt 64 255).toNat<=255:=by
  rw[BitVec.toNat_and]
  exact HS Nat.and_le_right (by decide)
 unfold wu64;omega
variable {fu:Nat} {c:Np} {k:Int}
theorem wc (hc:Cur c k) (hk:k<=4611686018427387904):∃r c',aF fu c=some (r,c')/\0<=r/\r<=255/\Cur c' (k + 1):=by
 have h0:=hc.lo;have h1:=hc.hi;have hl:=hc.len;have e1:y_ (c.at_ + 1)=c.at_ + 1:=va (by omega) (by omega);unfold aF;have hsh:∀x:Int,shrk 64 x 40=some (x.fdiv (2 ^ (min (40:Int).toNat 64))):=λx=>by unfold shrk; rw[if_neg (by omega)]
 simp only[e1,hsh,GH];have hcur:∀s,Cur ⟨c.code,c.at_ + 1,s⟩ (k + 1):=λs=>⟨hc.by_,hc.len,by simp only; omega,by simp only; omega⟩;have ha:∀q:Int,0<=y_ (jG q 255)/\y_ (jG q 255)<=255:=λq=>by
  have:=Ew q
  rw[va (by omega) (by omega)]; exact this
 by_cases h:c.at_<c.code.length;simp only[h,decide_true,if_true];obtain⟨e,he,hm⟩:=ap (l:=c.code) (i:=c.at_) h0 h;have hb:=hc.by_ e hm;have e2:y_ e.n=e.n:=va (by omega) (by omega);simp only[he,GH,e2];split
 exact⟨_,_,rfl,hb.1,hb.2,hcur _⟩;exact⟨_,_,rfl,(ha _).1,(ha _).2,hcur _⟩;simp only[h,decide_false,GT,if_false];split
 exact⟨_,_,rfl,by omega,by omega,hcur _⟩;exact⟨_,_,rfl,(ha _).1,(ha _).2,hcur _⟩
theorem qw {α β:Type} (c:Prop) [Decidable c] (a b:Option α) (f:α->Option β):(if c then a else b).bind f=if c then a.bind f else b.bind f:=by split <;> rfl
theorem Cur.mono {k':Int} (hc:Cur c k) (h:k<=k'):Cur c k':=⟨hc.by_,hc.len,hc.lo,Int.le_trans hc.hi h⟩
theorem vJ (hc:Cur c k) (hk:k<=4611686018427387000) (n:Int) (hn:n<=1099511627776):∃r c',um fu c n=some (r,c')/\0<=r/\(1<=n->r<n)/\Cur c' (k + 2):=by
 unfold um;by_cases h:n<=1;simp only[h,decide_true,if_true];exact⟨_,_,rfl,by omega,by omega,hc.mono (by omega)⟩;simp only[h,decide_false,GT,if_false];obtain⟨r,c',g1,g2,g3,g4⟩:=wc (fu:=fu) hc (by omega);simp only[g1,GH];have hr:∀x:Int,0<=x->∃q,rem x n=some q/\0<=q/\q<n:=λx hx=>by
  unfold rem
  rw[if_neg (by omega),JF hx]
  exact⟨_,rfl,Int.emod_nonneg _ (by omega),Int.emod_lt_of_pos _ (by omega)⟩
 by_cases h2:n > 200;simp only[h2,decide_true,if_true];obtain⟨r2,c2,q1,q2,q3,q4⟩:=wc (fu:=fu) g4 (by omega);simp only[q1,GH];rw[va (n:=r * 256) (by omega) (by omega),va (by omega) (by omega)];obtain⟨q,p1,p2,p3⟩:=hr (r * 256 + r2) (by omega);rw[p1];exact⟨_,_,rfl,p2,λ_=>p3,q4.mono (by omega)⟩;simp only[h2,decide_false,GT,if_false];obtain⟨q,p1,p2,p3⟩:=hr r g2;rw[p1];exact⟨_,_,rfl,p2,λ_=>p3,g4.mono (by omega)⟩
theorem dM (hc:Cur c k) (hk:k<=4611686018427387000) (l:d_) (h1:1<=l.length) (hn:l.length<=1099511627776):∃r c',vn fu c l=some (r,c')/\r∈l/\Cur c' (k + 2):=by
 unfold vn;obtain⟨r,c',g1,g2,g3,g4⟩:=vJ (fu:=fu) hc hk (l.length:Int) (by omega);obtain⟨e,he,hm⟩:=ap (l:=l) (i:=r) g2 (g3 (by omega));simp only[g1,GH,he];exact⟨_,_,rfl,hm,g4⟩
theorem tj {code:List By} (h:∀e∈code,0<=e.n/\e.n<=255) (hl:code.length<=65536):Cur ⟨code,0,⟨0⟩⟩ 0:=⟨h,hl,Iz _,Iz _⟩
end AT
namespace AT
structure NetD (n:Nq):Prop where
 n1:1<=n.Nv.length
 n2:n.Nv.length<=20
 ns:∀e∈n.Nv,e.size<=100
 f2:n.Nw.length<=20
theorem NetD.B {n:Nq} (h:NetD n):NetB n:=⟨⟨by have:=h.n2; omega,λe he=>by have:=h.ns e he; omega⟩,by have:=h.f2; omega⟩
theorem DN {a n:Int} (ha:0<=a) (hn:0<n):∃q,rem a n=some q/\0<=q/\q<n:=by
 unfold rem;rw[if_neg (by omega),JF ha];exact⟨_,rfl,Int.emod_nonneg _ (by omega),Int.emod_lt_of_pos _ hn⟩
theorem app1 {α:Type} {l:List α} {x:α} (h:l.length<=1000000):M_ l [x]=some (l++[x]):=yw (by simp; omega)
theorem rf (fu:Nat) (a b:Int):∃r,cM fu a b=some r/\(r=a∨r=b):=by
 unfold cM; split <;> exact⟨_,rfl,by simp⟩
theorem wh (fu:Nat) (a b:Int):∃r,dx fu a b=some r/\(r=a∨r=b):=by
 unfold dx; split <;> exact⟨_,rfl,by simp⟩
variable {fu:Nat}
theorem sj (l:List Pq) (f:Pq) (hl:l.length<=1000000):∀(fk i:Nat),i<=l.length->l.length - i<fk->∃j:Nat,ba fu l f fk i=some (j:Int)/\j<=l.length:=by
 intro fk;induction fk with
 | zero=>intro i _ h; omega
 | succ fk ih =>
  intro i hi hf
  rw[ba]
  by_cases h:i<l.length
  · have hlt:((i:Int)<(l.length:Int))=True:=by simp; omega
    simp only[hlt,decide_true,if_true,vP h,GH,lK,vV h (show (l.length:Int)<=9223372036854775807 by omega)]
    split
    · exact ih (i + 1) h (by omega)
    · exact⟨i,rfl,hi⟩
  · have hlt:((i:Int)<(l.length:Int))=False:=by simp; omega
    simp only[hlt,decide_false,GT,if_false,GH]
    exact⟨i,rfl,hi⟩
theorem rk (hfu:2097153<=fu) (l:List Pq) (f:Pq) (hl:l.length<=1000000):∃r,ej fu l f=some r/\r.length=l.length + 1:=by
 unfold ej;obtain⟨j,h1,h2⟩:=sj (fu:=fu) l f hl fu 0 (by omega) (by omega);have hs:sub l (j:Int) (l.length:Int)=some (l.drop j):=by
  unfold sub
  rw[if_pos (by omega)]
  simp
 rw[show ((0:Nat):Int)=0 from rfl]at h1;rw[h1,GH,fZ h2,GH,hs,GH,d7 (by rw[GO]; omega),GH,yw (by rw[GO,GY]; omega),GH,yw (by rw[GL,GO,GY,Hd]; omega),GH];refine⟨_,rfl,?_⟩;simp only[GL,GO,GY,Hd];omega
theorem wg (hfu:2097153<=fu) (y:Int×Np) (K:Nat) (hK:y_ (2 + y.1)=(K:Int)) (h2:2<=K) (h6:K<=6):∀(fk i:Nat) (m:List By) (m2:Int) (m3:U64) (l:List Pq) (k B:Int),Cur ⟨m,m2,m3⟩ k->k<=B + 10 * (i:Int)->B<=1000000000->l.length<=i->i<=K->K - i<fk ->
 ∃i' m' a' s' l',vM fu y fk i m m2 m3 l=some (i',m',a',s',l')/\l'.length<=K/\Cur ⟨m',a',s'⟩ (B + 10 * (K:Int)):=by
 intro fk;induction fk with
 | zero=>intro i _ _ _ _ _ _ _ _ _ _ _ h; omega
 | succ fk ih =>
  intro i m m2 m3 l k B hc hk hB hl hi hf
  rw[vM,hK]
  by_cases h:i<K
  · have hlt:((i:Int)<(K:Int))=True:=by simp; omega
    have e:y_ ((i:Int) + 1)=((i + 1:Nat):Int):=vV h (by omega)
    obtain⟨q,hq,q0,q1⟩:=DN (a:=((i + 1:Nat):Int)) (n:=(K:Int)) (by omega) (by omega)
    obtain⟨r1,c1,g1,-,-,k1⟩:=vJ (fu:=fu) hc (by omega) 10 (by decide)
    simp only[hlt,decide_true,if_true,e,hq,GH,xJ,g1]
    have k1':Cur ⟨c1.code,c1.at_,c1.seed⟩ (k + 2):=k1
    split
    · exact ih (i + 1) _ _ _ _ k B hc (by omega) hB (by omega) h (by omega)
    · split
      · exact ih (i + 1) _ _ _ _ (k + 2) B k1' (by omega) hB (by omega) h (by omega)
      · obtain⟨r3,g3,-⟩:=rf fu (i:Int) q
        obtain⟨r4,g4,-⟩:=wh fu (i:Int) q
        obtain⟨r5,c5,g5,-,-,k5⟩:=vJ (fu:=fu) k1 (by omega) 8 (by decide)
        obtain⟨r6,c6,g6,-,k6⟩:=dM (fu:=fu) k5 (by omega) [0,0,0,1,2] (by decide) (by decide)
        obtain⟨r7,g7,h7⟩:=rk hfu l ({ A:=r3,B:=r4,Pg:=y_ (100 * (y_ (1 + r5))),Pp:=r6 }:Pq) (by omega)
        simp only[g3,g4,g5,g6,g7,GH]
        exact ih (i + 1) _ _ _ _ (k + 2 + 2 + 2) B k6 (by omega) hB (by omega) h (by omega)
  · obtain rfl:i=K:=by omega
    have hlt:((i:Int)<(i:Int))=False:=by simp
    simp only[hlt,decide_false,GT,if_false]
    exact⟨_,_,_,_,_,rfl,hl,hc.mono (by omega)⟩
theorem wd (hfu:2097153<=fu) (y:Int×Np) (K:Nat) (hK:y_ (2 + y.1)=(K:Int)) (h2:2<=K) (h6:K<=6):∀(fk n:Nat) (l:List Pq) (m:List By) (m2:Int) (m3:U64) (k B:Int),Cur ⟨m,m2,m3⟩ k->k<=B - 10 * (n:Int)->B<=1000000000->l.length + n<=9->n<fk ->
 ∃i' l' m' a' s',xm fu y fk (n:Int) l m m2 m3=some (i',l',m',a',s')/\l'.length<=9/\l.length<=l'.length/\Cur ⟨m',a',s'⟩ B:=by
 intro fk;induction fk with
 | zero=>intro n _ _ _ _ _ _ _ _ _ _ h; omega
 | succ fk ih =>
  intro n l m m2 m3 k B hc hk hB hl hf
  rw[xm,hK]
  by_cases h:0<n
  · have hlt:((n:Int) > 0)=True:=by simp; omega
    have e:y_ ((n:Int) - 1)=((n - 1:Nat):Int):=fv h (by omega)
    obtain⟨r1,c1,g1,-,-,k1⟩:=vJ (fu:=fu) hc (by omega) (K:Int) (by omega)
    obtain⟨r2,c2,g2,-,-,k2⟩:=vJ (fu:=fu) k1 (by omega) (K:Int) (by omega)
    simp only[hlt,decide_true,if_true,e,g1,g2,GH]
    split
    · obtain⟨r3,g3,-⟩:=rf fu r1 r2
      obtain⟨r4,g4,-⟩:=wh fu r1 r2
      obtain⟨r5,c5,g5,-,-,k5⟩:=vJ (fu:=fu) k2 (by omega) 8 (by decide)
      obtain⟨r6,c6,g6,-,k6⟩:=dM (fu:=fu) k5 (by omega) [0,0,0,1,2] (by decide) (by decide)
      obtain⟨r7,g7,h7⟩:=rk hfu l ({ A:=r3,B:=r4,Pg:=y_ (100 * (y_ (1 + r5))),Pp:=r6 }:Pq) (by omega)
      simp only[g3,g4,g5,g6,g7,GH]
      obtain⟨i',l',m',a',s',q1,q2,q3,q4⟩:=ih (n - 1) r7 _ _ _ (k + 2 + 2 + 2 + 2) B k6 (by omega) hB (by omega) (by omega)
      exact⟨i',l',m',a',s',q1,q2,by omega,q4⟩
    · exact ih (n - 1) _ _ _ _ (k + 2 + 2) B k2 (by omega) hB (by omega) (by omega)
  · obtain rfl:n=0:=by omega
    rw[if_neg (by simp)]
    exact⟨_,_,_,_,_,rfl,by omega,GV _,hc.mono (by omega)⟩
theorem ng (hfu:2097153<=fu) {c:Np} {k:Int} (hc:Cur c k) (hk:k<=900000000):∃r c',yO fu c=some (r,c')/\NetD r/\r.Nv.length<=6/\r.Nw.length<=9/\Cur c' (k + 200):=by
 unfold yO;obtain⟨r1,c1,g1,p0,p1,k1⟩:=vJ (fu:=fu) hc (by omega) 5 (by decide);have p2:=p1 (by decide);have hK:y_ (2 + r1)=(((2 + r1).toNat:Nat):Int):=by rw[va (by omega) (by omega)]; omega
 have hK2:2<=(2 + r1).toNat:=by omega
 have hK6:(2 + r1).toNat<=6:=by omega
 obtain⟨i2,m2,a2,s2,l2,g2,h2,k2⟩:=wg hfu (r1,c1) (2 + r1).toNat hK hK2 hK6 fu 0 c1.code c1.at_ c1.seed [] (k + 2) (k + 2) k1 (by omega) (by omega) (by simp) (by omega) (by omega);obtain⟨r3,c3,g3,q0,q1,k3⟩:=vJ (fu:=fu) k2 (by omega) 4 (by decide);have q2:=q1 (by decide);obtain⟨i4,l4,m4,a4,s4,g4,h4,-,k4⟩:=wd hfu (r1,c1) (2 + r1).toNat hK hK2 hK6 fu r3.toNat l2 c3.code c3.at_ c3.seed (k + 2 + 10 * ((2 + r1).toNat:Int) + 2) (k + 200) k3 (by omega) (by omega) (by omega) (by omega);rw[JE]at g2;rw[HG q0]at g4;simp only[g1,GH,hK];rw[fZ (by simp; omega)];simp only[g2,g3,g4,GH];refine⟨_,_,rfl,⟨by simp; omega,by simp; omega,λe he=>?_,by simp only; omega⟩,by simp; omega,h4,k4⟩;have he':=JB he;simp only[Hf,Is,or_false]at he';rcases he' with rfl | rfl | rfl | rfl | rfl | rfl <;> decide
theorem wq (hfu:2097153<=fu) {c:Np} {k:Int} (hc:Cur c k) (hk:k<=900000000):∃r c',aG fu c=some (r,c')/\NetD r/\1<=r.Nw.length/\Cur c' (k + 200):=by
 unfold aG;obtain⟨r,c',g1,h1,h2,h3,k1⟩:=ng hfu hc hk;simp only[g1,GH];split
 rename_i h;have h0:r.Nw.length=0:=by simpa using h
 rw[app1 (by omega)];exact⟨_,_,rfl,⟨h1.n1,h1.n2,h1.ns,by simp; omega⟩,by simp,k1⟩;rename_i h;have h0:r.Nw.length≠0:=by simpa using h
 exact⟨_,_,rfl,h1,by omega,k1⟩
theorem qm (hfu:2097153<=fu) (n:Nq) (y:Int×Np) (seen:d_) (hn:n.Nw.length<=1000000) (h1:1<=seen.length) (h2:seen.length<=1000000):∀(fk i:Nat) (o:d_),i<=n.Nw.length->n.Nw.length - i<fk->o.length<=i->(∀e∈o,0<=e/\e<(n.Nw.length:Int)) ->
 ∃l i',vS fu n y seen fk o i=some (l,i')/\l.length<=n.Nw.length/\∀e∈l,0<=e/\e<(n.Nw.length:Int):=by
 intro fk;induction fk with
 | zero=>intro i _ _ h; omega
 | succ fk ih =>
  intro i o hi hf ho hr
  rw[vS]
  by_cases h:i<n.Nw.length
  · have hlt:((i:Int)<(n.Nw.length:Int))=True:=by simp; omega
    have e1:y_ ((seen.length:Int) - 1)=((seen.length - 1:Nat):Int):=by rw[va (by omega) (by omega)]; omega
    have hh:∀v,bG fu seen v=some (seen.any λx=>x==v):=λv=>iv seen v (by omega) (by omega)
    have ha:M_ o [(i:Int)]=some (o++[(i:Int)]):=app1 (by omega)
    simp only[hlt,decide_true,if_true,e1,vP (show seen.length - 1<seen.length by omega),GH,iu fu n i _ h,hh,ha,vV h (show (n.Nw.length:Int)<=9223372036854775807 by omega)]
    have two:∀b:Bool,∃l i',(if b=true then vS fu n y seen fk (o++[(i:Int)]) ((i + 1:Nat):Int) else vS fu n y seen fk o ((i + 1:Nat):Int))=some (l,i')/\l.length<=n.Nw.length/\∀e∈l,0<=e/\e<(n.Nw.length:Int):=by
     intro b
     cases b
     · exact ih (i + 1) o h (by omega) (by omega) hr
     · refine ih (i + 1) _ h (by omega) (by simp; omega) λe he=>?_
       rcases GI.1 he with he | he
       · exact hr e he
       · simp only[GR]at he
         omega
    split
    · exact two _
    · exact two false
  · obtain rfl:i=n.Nw.length:=by omega
    rw[if_neg (by simp)]
    exact⟨_,_,rfl,ho,hr⟩
theorem qn (hfu:2097153<=fu) (n:Nq) (y:Int×Np) (hn:n.Nw.length<=1000):∀(fk m:Nat) (seen l:d_) (b:List By) (a:Int) (s:U64) (k B:Int),Cur ⟨b,a,s⟩ k->k<=B - 2 * (m:Int)->B<=1000000000->1<=seen.length->seen.length + m<=1000->l.length + m<=4->(∀e∈l,0<=e/\e<(n.Nw.length:Int))->m<fk ->
 ∃s2 m2 l' b' a' s',x9 fu n y fk seen (m:Int) l b a s=some (s2,m2,l',b',a',s')/\l'.length<=4/\(∀e∈l',0<=e/\e<(n.Nw.length:Int))/\Cur ⟨b',a',s'⟩ B:=by
 intro fk;induction fk with
 | zero=>intro m _ _ _ _ _ _ _ _ _ _ _ _ _ _ h; omega
 | succ fk ih =>
  intro m seen l b a s k B hc hk hB hs1 hs2 hl hr hf
  rw[x9]
  by_cases h:0<m
  · have hlt:((m:Int) > 0)=True:=by simp; omega
    have e:y_ ((m:Int) - 1)=((m - 1:Nat):Int):=fv h (by omega)
    obtain⟨z,zi,g1,z1,z2⟩:=qm hfu n y seen (by omega) hs1 (by omega) fu 0 [] (by omega) (by omega) (by simp) (by simp)
    rw[JE]at g1
    have e1:y_ ((seen.length:Int) - 1)=((seen.length - 1:Nat):Int):=by rw[va (by omega) (by omega)]; omega
    simp only[hlt,decide_true,if_true,e,g1,GH]
    by_cases hz:z.length=0
    · have hz':((z.length:Int)==0)=true:=by simp [hz]
      simp only[hz',if_true]
      exact⟨_,_,_,_,_,_,rfl,by omega,hr,hc.mono (by omega)⟩
    · have hz':((z.length:Int)==0)=false:=by simpa using hz
      obtain⟨r1,c1,g2,p0,p1,k1⟩:=vJ (fu:=fu) hc (by omega) (z.length:Int) (by omega)
      obtain⟨x,hx,hxm⟩:=ap (l:=z) (i:=r1) p0 (p1 (by omega))
      obtain⟨x0,x1⟩:=z2 x hxm
      have hxn:x=((x.toNat:Nat):Int):=by omega
      have ho:∀v,yK fu n x v=some (X_ (gd n.Nw x.toNat f0) v):=λv=>by
       have:=iu fu n x.toNat v (by omega)
       rwa [<-hxn]at this
      simp only[hz',GT,if_false,g2,GH,hx,e1,vP (show seen.length - 1<seen.length by omega),ho,app1 (show l.length<=1000000 by omega),app1 (show seen.length<=1000000 by omega)]
      refine ih (m - 1) _ _ _ _ _ (k + 2) B k1 (by omega) hB (by simp) (by simp; omega) (by simp; omega) (λq hq=>?_) (by omega)
      rcases GI.1 hq with hq | hq
      · exact hr q hq
      · simp only[GR]at hq
        omega
  · obtain rfl:m=0:=by omega
    rw[if_neg (by simp)]
    exact⟨_,_,_,_,_,_,rfl,by omega,hr,hc.mono (by omega)⟩
theorem qV (hfu:2097153<=fu) {c:Np} {k:Int} (hc:Cur c k) (hk:k<=900000000) {n:Nq} (hn:n.Nw.length<=1000) (hm:n.Nv.length<=1000):∃r c',zW fu c n=some (r,c')/\r.Nw.length<=4/\(∀e∈r.Nw,0<=e/\e<(n.Nw.length:Int))/\Cur c' (k + 20):=by
 unfold zW;obtain⟨r1,c1,g1,-,-,k1⟩:=vJ (fu:=fu) hc (by omega) (n.Nv.length:Int) (by omega);obtain⟨r2,c2,g2,p0,p1,k2⟩:=vJ (fu:=fu) k1 (by omega) 4 (by decide);have p2:=p1 (by decide);have e:y_ (1 + r2)=(((1 + r2).toNat:Nat):Int):=by rw[va (by omega) (by omega)]; omega
 obtain⟨s3,m3,l3,b3,a3,t3,g3,h3,h4,k3⟩:=qn hfu n (r1,c1) hn fu (1 + r2).toNat [r1] [] c2.code c2.at_ c2.seed (k + 2 + 2) (k + 20) k2 (by omega) (by omega) (by simp) (by simp; omega) (by simp; omega) (by simp) (by omega);simp only[g1,g2,GH,e,g3];exact⟨_,_,rfl,h3,h4,k3⟩
theorem tK (hfu:2097153<=fu) {c:Np} {k:Int} (hc:Cur c k) (hk:k<=900000000) {n:Nq} (h1:1<=n.Nw.length) (hn:n.Nw.length<=1000) (hm:n.Nv.length<=1000):∃r c',aC fu c n=some (r,c')/\1<=r.Nw.length/\r.Nw.length<=4/\(∀e∈r.Nw,0<=e/\e<(n.Nw.length:Int))/\Cur c' (k + 20):=by
 unfold aC;obtain⟨r,c',g1,h2,h3,k1⟩:=qV hfu hc hk hn hm;simp only[g1,GH];split
 obtain⟨e,he,-⟩:=ap (l:=n.Nw) (i:=0) (Iz _) (by omega);rw[he];exact⟨_,_,rfl,by simp,by simp,by simp; omega,k1⟩;rename_i h;have h0:r.Nw.length≠0:=by simpa using h
 exact⟨_,_,rfl,by omega,h2,h3,k1⟩
theorem qJ (hfu:2097153<=fu) {c:Np} {k:Int} (hc:Cur c k) (hk:k<=900000000) {n:Nq} (hn:n.Nw.length<=1000) (hm:n.Nv.length<=1000):∃r c',zF fu c n=some (r,c')/\r.Nw.length<=5/\Cur c' (k + 30):=by
 unfold zF;obtain⟨r,c1,g1,h1,-,k1⟩:=qV hfu hc hk hn hm;obtain⟨r2,c2,g2,-,-,k2⟩:=vJ (fu:=fu) k1 (by omega) 16 (by decide);obtain⟨r3,c3,g3,-,-,k3⟩:=vJ (fu:=fu) k2 (by omega) 8 (by decide);simp only[g1,g2,g3,GH,app1 (show r.Nw.length<=1000000 by omega)];split
 exact⟨_,_,rfl,by simp only; omega,k3.mono (by omega)⟩;split
 exact⟨_,_,rfl,by simp; omega,k3.mono (by omega)⟩;split
 exact⟨_,_,rfl,by simp,k2.mono (by omega)⟩;split
 split
 rename_i h;have h0:(1:Int)<r.Nw.length:=by simpa using h
 have e1:y_ ((r.Nw.length:Int) - 1)=((r.Nw.length - 1:Nat):Int):=by rw[va (by omega) (by omega)]; omega
 simp only[e1,vP (show r.Nw.length - 1<r.Nw.length by omega),GH,app1 (show r.Nw.length<=1000000 by omega)];exact⟨_,_,rfl,by simp; omega,k2.mono (by omega)⟩;exact⟨_,_,rfl,by omega,k2.mono (by omega)⟩;exact⟨_,_,rfl,by omega,k2.mono (by omega)⟩
theorem Bu {c:Np} {k:Int} (hc:Cur c k) (hk:k<=900000000):∃r c',bz fu c=some (r,c')/\Cur c' (k + 10):=by
 unfold bz xJ;obtain⟨r1,c1,g1,-,-,k1⟩:=vJ (fu:=fu) hc (by omega) 12 (by decide);obtain⟨r2,c2,g2,-,-,k2⟩:=vJ (fu:=fu) k1 (by omega) 26 (by decide);obtain⟨r3,c3,g3,-,-,k3⟩:=vJ (fu:=fu) k2 (by omega) 27 (by decide);obtain⟨r4,c4,g4,p0,p1,k4⟩:=vJ (fu:=fu) k1 (by omega) 6 (by decide);have p2:=p1 (by decide);obtain⟨r5,c5,g5,-,-,k5⟩:=vJ (fu:=fu) k4 (by omega) (y_ ((y_ (24 - (y_ (1 + r4)))) + 1)) (by
  rw[va (n:=1 + r4) (by omega) (by omega),va (n:=24 - (1 + r4)) (by omega) (by omega),va (by omega) (by omega)]; omega)
 simp only[g1,g2,g3,g4,g5,GH];split
 exact⟨_,_,rfl,k3.mono (by omega)⟩;exact⟨_,_,rfl,k5.mono (by omega)⟩
theorem EQ {c:Np} {k:Int} (hc:Cur c k) (hk:k<=4611686018427387000) (l:List ByteArray) (h1:1<=l.length) (hn:l.length<=1099511627776):∃r c',cT fu c l=some (r,c')/\r∈l/\Cur c' (k + 2):=by
 unfold cT;obtain⟨r,c',g1,g2,g3,g4⟩:=vJ (fu:=fu) hc hk (l.length:Int) (by omega);obtain⟨e,he,hm⟩:=ap (l:=l) (i:=r) g2 (g3 (by omega));simp only[g1,GH,he];exact⟨_,_,rfl,hm,g4⟩
theorem qK:∀(fk:Nat) (l:List Pq) (b:List By) (a:Int) (s:U64) (k B:Int),Cur ⟨b,a,s⟩ k->k<=B + 2 * (l.length:Int)->B<=1000000000->1<=l.length->l.length<=15->15 - l.length<fk ->
 ∃l' b' a' s',xg fu fk l b a s=some (l',b',a',s')/\l'.length<=15/\Cur ⟨b',a',s'⟩ (B + 50):=by
 intro fk;induction fk with
 | zero=>intro l _ _ _ _ _ _ _ _ _ _ h; omega
 | succ fk ih =>
  intro l b a s k B hc hk hB h1 h2 hf
  rw[xg]
  obtain⟨r1,c1,g1,p0,p1,k1⟩:=vJ (fu:=fu) hc (by omega) 2 (by decide)
  have p2:=p1 (by decide)
  have e:y_ (14 + r1)=14 + r1:=va (by omega) (by omega)
  have e1:y_ ((l.length:Int) - 1)=((l.length - 1:Nat):Int):=by rw[va (by omega) (by omega)]; omega
  simp only[g1,GH,e,e1,vP (show l.length - 1<l.length by omega),app1 (show l.length<=1000000 by omega)]
  split
  · rename_i h
    have h':(l.length:Int)<14 + r1:=by simpa using h
    exact ih _ _ _ _ (k + 2) B k1 (by simp; omega) hB (by simp) (by simp; omega) (by simp; omega)
  · exact⟨_,_,_,_,rfl,h2,k1.mono (by omega)⟩
theorem oD (hfu:2097153<=fu) {c:Np} {k:Int} (hc:Cur c k) (hk:k<=800000000):∃r c',yL fu c=some (r,c')/\NetD r/\Cur c' (k + 500):=by
 unfold yL;obtain⟨n,c1,g1,h1,h2,h3,k1⟩:=ng hfu hc (by omega);simp only[g1,GH];by_cases h:n.Nw.length=0;have h':((n.Nw.length:Int)==0)=true:=by simp [h]
 simp only[h',if_true];exact⟨_,_,rfl,h1,k1.mono (by omega)⟩;have h':((n.Nw.length:Int)==0)=false:=by simpa using h
 obtain⟨r2,c2,g2,p0,p1,k2⟩:=vJ (fu:=fu) k1 (by omega) (n.Nw.length:Int) (by omega);have p2:=p1 (by omega);obtain⟨e,he,-⟩:=ap (l:=n.Nw) (i:=r2) p0 p2;obtain⟨r3,c3,g3,-,-,k3⟩:=vJ (fu:=fu) k2 (by omega) 24 (by decide);obtain⟨r4,c4,g4,m4,k4⟩:=EQ (fu:=fu) k3 (by omega) [(⟨#[98]⟩:ByteArray),ByteArray.empty,(⟨#[65]⟩:ByteArray),(⟨#[97,98,99,100,101,102,103,104]⟩:ByteArray),(⟨#[97,98,99,100,101,102,103,104,105]⟩:ByteArray),(⟨#[120,49]⟩:ByteArray)] (by simp) (by simp);obtain⟨r5,c5,g5,-,-,k5⟩:=vJ (fu:=fu) k3 (by omega) 8 (by decide);obtain⟨r6,c6,g6,-,-,k6⟩:=vJ (fu:=fu) k3 (by omega) 10 (by decide);obtain⟨r7,c7,g7,-,k7⟩:=dM (fu:=fu) k3 (by omega) [0,1,5000,5001] (by decide) (by decide);obtain⟨r8,c8,g8,-,k8⟩:=dM (fu:=fu) k3 (by omega) [(-1),9,10] (by decide) (by decide);obtain⟨e0,he0,-⟩:=ap (l:=n.Nw) (i:=0) (Iz _) (by omega);obtain⟨v0,hv0,-⟩:=ap (l:=n.Nv) (i:=0) (Iz _) (by have:=h1.n1; omega);obtain⟨l9,b9,a9,s9,g9,h9,k9⟩:=qK (fu:=fu) fu n.Nw c3.code c3.at_ c3.seed (k + 200 + 2 + 2) (k + 204) k3 (by omega) (by omega) (by omega) (by omega) (by omega);have hfs:∀f:Pq,NetD ⟨n.Nv,n.Nw.set r2.toNat f⟩:=λf=>⟨h1.n1,h1.n2,h1.ns,by simp only[GK]; exact h1.f2⟩;have ha:=app1 (x:=e0) (show n.Nw.length<=1000000 by omega);obtain⟨e9,he9,-⟩:=ap (l:=n.Nw++[e0]) (i:=r2) p0 (by simp; omega);have hn4:M_ n.Nv [(⟨#[112]⟩:ByteArray),(⟨#[113]⟩:ByteArray),(⟨#[114]⟩:ByteArray),(⟨#[115]⟩:ByteArray)]=some (n.Nv++[(⟨#[112]⟩:ByteArray),(⟨#[113]⟩:ByteArray),(⟨#[114]⟩:ByteArray),(⟨#[115]⟩:ByteArray)]):=yw (by simp; omega);simp only[h',GT,if_false,g2,g3,g4,g5,g6,g7,g8,g9,he,he0,hv0,ha,he9,hn4,qw,Out.on,GH];split
 refine⟨_,_,rfl,⟨by simp only[GK]; exact h1.n1,by simp only[GK]; exact h1.n2,λz hz=>?_,by simp only[GK]; exact h1.f2⟩,k4.mono (by omega)⟩;rcases IB hz with hz | rfl
 exact h1.ns z hz;simp only[Hf,Is,or_false]at m4;rcases m4 with rfl | rfl | rfl | rfl | rfl | rfl <;> decide
 split
 exact⟨_,_,rfl,hfs _,k5.mono (by omega)⟩;split
 exact⟨_,_,rfl,hfs _,k6.mono (by omega)⟩;split
 exact⟨_,_,rfl,hfs _,k7.mono (by omega)⟩;split
 exact⟨_,_,rfl,hfs _,k8.mono (by omega)⟩;split
 exact⟨_,_,rfl,⟨h1.n1,h1.n2,h1.ns,by simp; omega⟩,k3.mono (by omega)⟩;split
 exact⟨_,_,rfl,⟨h1.n1,h1.n2,h1.ns,by simp only; omega⟩,k9.mono (by omega)⟩;split
 refine⟨_,_,rfl,⟨by simp,by simp; omega,λz hz=>?_,by simp only[GK]; exact h1.f2⟩,k3.mono (by omega)⟩;rcases GI.1 hz with hz | hz
 exact h1.ns z hz;simp only[Hf,Is,or_false]at hz;rcases hz with rfl | rfl | rfl | rfl <;> decide
 exact⟨_,_,rfl,hfs _,k3.mono (by omega)⟩
end AT
namespace AT
structure PlanD (p:Nh):Prop where
 net:NetD p.Nq
 ls:p.Nk.length<=20
 rs:∀x∈p.Nk,x.Nz.Nw.length<=20
theorem PlanD.B {p:Nh} (h:PlanD p):cg p:=⟨h.net.B,by have:=h.ls; omega,λx hx=>by have:=h.rs x hx; omega⟩
theorem ri (fu:Nat) (r:Nz) (h:r.Nw.length<=2097152):cL fu r=some r:=by
 unfold cL bE;rw[d7 (by omega)];rfl
variable {fu:Nat}
theorem tR (hfu:2097153<=fu) (ns:List ByteArray) (fs:List Pq) (hn:NetD ⟨ns,fs⟩) (h1:1<=fs.length):∀(fk n:Nat) (L:List Nx) (b:List By) (a:Int) (s:U64) (k B:Int),Cur ⟨b,a,s⟩ k->k<=B - 50 * (n:Int)->B<=800000000->L.length + n<=8->(∀y∈L,yY y.Nj=true)->(∀y∈L,y.Nz.Nw.length<=4)->n<fk ->
 ∃n' L' b' a' s',xi fu fk (n:Int) ns fs L b a s=some (n',ns,fs,L',b',a',s')/\L'.length<=8/\(∀y∈L',y.Nz.Nw.length<=4)/\Cur ⟨b',a',s'⟩ B:=by
 intro fk;induction fk with
 | zero=>intro n _ _ _ _ _ _ _ _ _ _ _ _ h; omega
 | succ fk ih =>
  intro n L b a s k B hc hk hB hl hb hr hf
  rw[xi]
  have f2:=hn.f2
  have n2:=hn.n2
  simp only at f2 n2
  by_cases h:0<n
  · have hlt:((n:Int) > 0)=True:=eq_true (by omega)
    have e:y_ ((n:Int) - 1)=((n - 1:Nat):Int):=fv h (by omega)
    obtain⟨r3,c3,g3,q1,q2,q3,k3⟩:=tK hfu hc (by omega) (n:=⟨ns,fs⟩) h1 (by simp only; omega) (by simp only; omega)
    obtain⟨r4,c4,g4,p0,p1,k4⟩:=vJ (fu:=fu) k3 (by omega) 5 (by decide)
    have p2:=p1 (by decide)
    have e4:y_ (1 + r4)=1 + r4:=va (by omega) (by omega)
    have hal:=it hfu (⟨⟨ns,fs⟩,L⟩:Nh) r3 (by simp only; omega) hb (λx hx=>by have:=hr x hx; omega) (by omega)
    have hfi:=λm=>lJ hfu m (1 + r4) (by omega) (by omega)
    simp only[hlt,decide_true,if_true,e,g3,g4,GH,hal,e4,hfi]
    obtain⟨F,hF⟩:∃F,F=fits (along L r3.Nw) (1 + r4):=⟨_,rfl⟩
    simp only[<-hF]
    have hm:∀t∈F,yY ⟨t,1 + r4⟩=true:=λt ht=>by
     rw[hF,kX (by omega) (by omega)]at ht
     unfold yY
     simp only[GP,decide_eq_true_eq]
     omega
    by_cases hz:F.length=0
    · have hz':((F.length:Int) > 0)=False:=eq_false (by omega)
      simp only[hz',decide_false,GT,if_false]
      exact ih (n - 1) L _ _ _ (k + 20 + 2) B k4 (by omega) hB (by omega) hb hr (by omega)
    · have hz':((F.length:Int) > 0)=True:=eq_true (by omega)
      obtain⟨e0,he0,hm0⟩:=ap (l:=F) (i:=0) (Iz _) (by omega)
      obtain⟨r5,c5,g5,-,-,k5⟩:=vJ (fu:=fu) k4 (by omega) 2 (by decide)
      have hFl:F.length<=25:=by rw[hF]; exact ol _ _
      obtain⟨r6,c6,g6,p6,p7,k6⟩:=vJ (fu:=fu) k5 (by omega) (F.length:Int) (by omega)
      obtain⟨e1,he1,hm1⟩:=ap (l:=F) (i:=r6) p6 (p7 (by omega))
      obtain⟨r7,c7,g7,-,-,k7⟩:=vJ (fu:=fu) k6 (by omega) 3 (by decide)
      obtain⟨r8,c8,g8,-,-,k8⟩:=vJ (fu:=fu) k5 (by omega) 3 (by decide)
      have hput:∀x:Nx,x.Nz=r3->bD fu (⟨⟨ns,fs⟩,L⟩:Nh) x=some (addP ⟨⟨ns,fs⟩,L⟩ x):=λx hx=>nZ hfu _ x ⟨hn.B,by simp only; omega,λy hy=>by have:=hr y hy; omega⟩ (by rw[hx]; omega)
      simp only[hz',decide_true,if_true,he0,xJ,g5,g6,he1,g7,g8,GH]
      have step:∀(x:Nx) (c:Np) (k':Int),x.Nz=r3->yY x.Nj=true->Cur c k'->k'<=k + 30->∃n' L' b' a' s',((bD fu (⟨⟨ns,fs⟩,L⟩:Nh) x).bind λy=>xi fu fk ((n - 1:Nat):Int) y.Nq.Nv y.Nq.Nw y.Nk c.code c.at_ c.seed)=some (n',ns,fs,L',b',a',s')/\L'.length<=8/\(∀y∈L',y.Nz.Nw.length<=4)/\Cur ⟨b',a',s'⟩ B:=by
       intro x c k' hx hb' hc' hk'
       rw[hput x hx,GH]
       refine ih (n - 1) (putL L x) _ _ _ k' B hc' (by omega) hB (by rw[kQ]; omega) (λy hy=>?_) (λy hy=>?_) (by omega)
       · rcases gm.1 hy with rfl | hy
         · exact hb'
         · exact hb y hy
       · rcases gm.1 hy with rfl | hy
         · rw[hx]; omega
         · exact hr y hy
      split
      · exact step _ c7 _ rfl (hm _ hm1) k7 (by omega)
      · exact step _ c8 _ rfl (hm _ hm0) k8 (by omega)
  · obtain rfl:n=0:=by omega
    rw[if_neg (by simp)]
    exact⟨_,_,_,_,_,rfl,by omega,hr,hc.mono (by omega)⟩
theorem CH (hfu:2097153<=fu) {c:Np} {k:Int} (hc:Cur c k) (hk:k<=700000000):∃r c',bU fu c=some (r,c')/\PlanD r/\r.Nk.length<=8/\1<=r.Nq.Nw.length/\(∀x∈r.Nk,x.Nz.Nw.length<=4)/\Cur c' (k + 1000):=by
 unfold bU;obtain⟨n,c1,g1,h1,h2,k1⟩:=wq hfu hc (by omega);obtain⟨r2,c2,g2,p0,p1,k2⟩:=vJ (fu:=fu) k1 (by omega) 9 (by decide);have p2:=p1 (by decide);obtain⟨n',L',b',a',s',g3,h3,h4,k3⟩:=tR hfu n.Nv n.Nw h1 h2 fu r2.toNat [] c2.code c2.at_ c2.seed (k + 200 + 2) (k + 1000) k2 (by omega) (by omega) (by simp; omega) (by simp) (by simp) (by omega);rw[HG p0]at g3;simp only[g1,g2,g3,GH];exact⟨_,_,rfl,⟨h1,by simp only; omega,λx hx=>by have:=h4 x hx; omega⟩,h3,h2,h4,k3⟩
theorem pY (y:Nh×Np) (h1:1<=y.1.Nq.Nw.length):∀(fk n:Nat) (L:List Nx) (b:List By) (a:Int) (s:U64) (k B:Int),Cur ⟨b,a,s⟩ k->k<=B + 2 * (n:Int)->B<=800000000->n<=14->L.length<=13->(∀y∈L,y.Nz.Nw.length<=20)->15 - n<fk ->
 ∃n' L' b' a' s',xG fu y fk (n:Int) L b a s=some (n',L',b',a',s')/\L'.length<=13/\(∀y∈L',y.Nz.Nw.length<=20)/\Cur ⟨b',a',s'⟩ (B + 60):=by
 intro fk;induction fk with
 | zero=>intro n _ _ _ _ _ _ _ _ _ _ _ _ h; omega
 | succ fk ih =>
  intro n L b a s k B hc hk hB hn hl hr hf
  rw[xG]
  obtain⟨r1,c1,g1,p0,p1,k1⟩:=vJ (fu:=fu) hc (by omega) 2 (by decide)
  have p2:=p1 (by decide)
  have e:y_ (12 + r1)=12 + r1:=va (by omega) (by omega)
  have e1:y_ ((n:Int) + 1)=((n + 1:Nat):Int):=by rw[va (by omega) (by omega)]; omega
  obtain⟨e0,he0,-⟩:=ap (l:=y.1.Nq.Nw) (i:=0) (Iz _) (by omega)
  have ha:∀x:Nx,M_ L [x]=some (L++[x]):=λx=>app1 (by omega)
  simp only[g1,GH,e,e1,he0,ha]
  split
  · rename_i h
    have h':(L.length:Int)<12 + r1:=by simpa using h
    split
    · rename_i h3
      have h3':(n:Int)<14:=by simpa using h3
      refine ih (n + 1) _ _ _ _ (k + 2) B k1 (by omega) hB (by omega) (by simp; omega) (λx hx=>?_) (by omega)
      rcases GI.1 hx with hx | hx
      · exact hr x hx
      · simp only[GR]at hx; subst hx; simp
    · exact⟨_,_,_,_,_,rfl,hl,hr,k1.mono (by omega)⟩
  · exact⟨_,_,_,_,_,rfl,hl,hr,k1.mono (by omega)⟩
theorem sS (hfu:2097153<=fu) {c:Np} {k:Int} (hc:Cur c k) (hk:k<=600000000):∃r c',ah fu c=some (r,c')/\PlanD r/\Cur c' (k + 3000):=by
 unfold ah;obtain⟨p,c1,g1,h1,h2,h3,h4,k1⟩:=CH hfu hc (by omega);simp only[g1,GH];by_cases h:p.Nk.length=0;have h':((p.Nk.length:Int)==0)=true:=by simp [h]
 simp only[h',if_true];exact⟨_,_,rfl,h1,k1.mono (by omega)⟩;have h':((p.Nk.length:Int)==0)=false:=by simpa using h
 obtain⟨r2,c2,g2,p0,p1,k2⟩:=vJ (fu:=fu) k1 (by omega) (p.Nk.length:Int) (by omega);have p2:=p1 (by omega);obtain⟨e,he,hem⟩:=ap (l:=p.Nk) (i:=r2) p0 p2;obtain⟨r3,c3,g3,-,-,k3⟩:=vJ (fu:=fu) k2 (by omega) 24 (by decide);obtain⟨r4,c4,g4,-,k4⟩:=dM (fu:=fu) k3 (by omega) [0,999,1000,1,4] (by decide) (by decide);obtain⟨r5,c5,g5,k5⟩:=Bu (fu:=fu) k3 (by omega);obtain⟨r6,c6,g6,h6,k6⟩:=qJ hfu k3 (by omega) (n:=p.Nq) (by have:=h1.net.f2; omega) (by have:=h1.net.n2; omega);obtain⟨r7,c7,g7,h7,k7⟩:=oD hfu k3 (by omega);obtain⟨n8,L8,b8,a8,s8,g8,l8,m8,k8⟩:=pY (fu:=fu) (p,c1) h3 fu 0 p.Nk c3.code c3.at_ c3.seed (k + 1000 + 2 + 2) (k + 1010) k3 (by omega) (by omega) (by omega) (by omega) (λx hx=>by have:=h4 x hx; omega) (by omega);rw[JE]at g8;have hr:=h4 e hem;have hset:∀(x:Nx),x.Nz.Nw.length<=5->PlanD ⟨p.Nq,p.Nk.set r2.toNat x⟩:=λx hx=>⟨h1.net,by simp only[GK]; omega,λy hy=>by
  rcases IB hy with hy | rfl
  · have:=h4 y hy; omega
  · omega⟩
 have ha:M_ p.Nk [e]=some (p.Nk++[e]):=app1 (by omega);obtain⟨e9,he9,-⟩:=ap (l:=p.Nk++[e]) (i:=r2) p0 (by simp; omega);simp only[h',GT,if_false,g2,g3,g4,g5,g6,g7,g8,he,ha,he9,qw,Out.on,GH];split
 exact⟨_,_,rfl,hset _ (by simp only; omega),k4.mono (by omega)⟩;split
 exact⟨_,_,rfl,hset _ (by simp only; omega),k5.mono (by omega)⟩;split
 exact⟨_,_,rfl,hset _ (by simp only; omega),k6.mono (by omega)⟩;split
 refine⟨_,_,rfl,⟨h1.net,by simp; omega,λy hy=>?_⟩,k3.mono (by omega)⟩;rcases IB hy with hy | rfl
 rcases GI.1 hy with hy | hy
 have:=h4 y hy; omega;simp only[GR]at hy; subst hy; omega;show e.Nz.Nw.length<=20; omega;split
 exact⟨_,_,rfl,⟨h7,by simp only[GK]; omega,(hset ⟨_,⟨_,e.Nz.Nw⟩,_⟩ (by show e.Nz.Nw.length<=5; omega)).rs⟩,k7.mono (by omega)⟩;split
 exact⟨_,_,rfl,⟨h1.net,by simp only; omega,m8⟩,k8.mono (by omega)⟩;exact⟨_,_,rfl,hset _ (by show e.Nz.Nw.length<=5; omega),k3.mono (by omega)⟩
end AT
namespace AT
def PlQ (L:List Nx):Prop:=∀x∈L,yY x.Nj=true/\x.Nz.Nw.length<=20
variable {L:List Nx} {fu:Nat}
theorem PlQ.B {N:Nq} (hN:NetB N) (h:PlQ L) (hl:L.length<=100):cg ⟨N,L⟩:=⟨hN,by simp only; omega,λx hx=>by have:=(h x hx).2; omega⟩
theorem rX (hfu:2097200<=fu) (N:Nq) (L H:List Nx) (D:d_) (hN:NetB N) (hQ:PlQ L) (hl:L.length<=100) (hD:D.length<=100) (x:Nx) (hx:yY x.Nj=true) (l:List Nz) (hL:∀a∈l,a.Nw.length<=7) (hll:l.length<=1000) (b:Bool):∀(fk i:Nat),i<=l.length->l.length - i<fk ->
 (∃z,zX fu ⟨⟨N,L⟩,H,D⟩ x (l,b) fk i=some (.next z))∨∃y,zX fu ⟨⟨N,L⟩,H,D⟩ x (l,b) fk i=some (.ret (y,true))/\yY y.Nj=true/\y.Nz.Nw.length<=20:=by
 have hPB:=hQ.B hN hl;have hc:=hx;unfold yY at hc;simp only[GP,decide_eq_true_eq]at hc;intro fk;induction fk with
 | zero=>intro i _ h; omega
 | succ fk ih =>
  intro i hi hk
  rw[zX]
  by_cases h:i<l.length
  · cases b
    · rw[if_pos (by simpa using h),GH,if_neg HC]
      exact .inl ⟨_,rfl⟩
    · have ha:=hL _ (GW h)
      have ei:V_ l (i:Int)=some l[i]:=vP h
      have hal:=it (fu:=fu) (by omega) (⟨N,L⟩:Nh) l[i] hPB.2.1 (λy hy=>(hQ y hy).1) hPB.2.2 (by omega)
      have hwi:=vV h (show (l.length:Int)<=9223372036854775807 by omega)
      rw[if_pos (by simpa using h),GH,if_pos rfl]
      dsimp only
      rw[ei]
      simp only[GH,qe (fu:=fu) (by omega) l[i] D (show l[i].Nw.length<=2097152 by omega) (show D.length<=2097152 by omega),hal,lJ (fu:=fu) (by omega) _ x.Nj.Pz hc.2.1 (show x.Nj.Pz<=24 by omega),hwi]
      clear hwi
      cases meets l[i].Nw D
      · obtain⟨fs,hfs⟩:∃fs,fs=fits (along L l[i].Nw) x.Nj.Pz:=⟨_,rfl⟩
        rw[if_neg HC,<-hfs]
        by_cases hf:0<fs.length
        · have e0:V_ fs 0=some (gd fs 0 0):=xC 0 hf
          have hm:=zx (l:=fs) (i:=0) 0 hf
          rw[hfs,kX hc.2.1 (by omega),<-hfs]at hm
          rw[if_pos (by simpa using hf),e0]
          simp only[GH,ri fu l[i] (show l[i].Nw.length<=2097152 by omega)]
          refine .inr ⟨_,rfl,?_,?_⟩
          · unfold yY
            simp only[GP,decide_eq_true_eq]
            omega
          · simp only; omega
        · rw[if_neg (by simpa using hf)]
          exact ih (i + 1) h (by omega)
      · rw[if_pos rfl]
        exact ih (i + 1) h (by omega)
  · obtain rfl:i=l.length:=by omega
    rw[if_neg (by simp),GH,if_neg HC]
    exact .inl ⟨_,rfl⟩
theorem AF (hfu:2097200<=fu) (N:Nq) (L H:List Nx) (D:d_) (hN:NetB N) (hH:x8 ⟨N,H⟩=true) (hQ:PlQ L) (hl:L.length<=100) (hD:D.length<=100) {x:Nx} (hx:x∈H):∃y b,gg fu ⟨⟨N,L⟩,H,D⟩ x=some (y,b)/\(b=true->yY y.Nj=true/\y.Nz.Nw.length<=20):=by
 have hPB:=hQ.B hN hl;have hF:=lC hH;have hxF:LightF N x:=hF.light x hx;have hxr:=hxF.short;have hnf:=netF hF.net;obtain⟨o,ho⟩:=hxF.route;have hfa:=km hnf ho;have hal:=it (fu:=fu) (by omega) (⟨N,L⟩:Nh) x.Nz hPB.2.1 (λy hy=>(hQ y hy).1) hPB.2.2 (by omega);have hB:=rQ hnf hfa.2.2.2.2.2.1 hfa.2.2.2.2.2.2 (endR N x.Nz);have hend:fH fu N x.Nz=some (endR N x.Nz):=rL (by omega) N x.Nz hN (by omega) (by rw[ho]; rfl);unfold gg;have hu:aZ fu x.Nz D=some (meets x.Nz.Nw D):=qe (by omega) x.Nz D (by omega) (by omega);show ∃y b,(((aZ fu x.Nz D).bind λy=>if (!y)=true then (zZ fu ⟨N,L⟩ x.Nz).bind λy2=>(zD fu x.Nj).bind λy3=>some (band y2 y3==0) else some false).bind _)=some (y,b)/\_
 rw[hu,hal,gY hxF.blk,GH];have hone:∃c,(if (!meets x.Nz.Nw D)=true then (some (along L x.Nz.Nw)).bind λy2=>(some (bits x.Nj)).bind λy3=>some (band y2 y3==0) else some false)=some c:=by
  cases meets x.Nz.Nw D <;> exact⟨_,rfl⟩
 obtain⟨c,hc⟩:=hone;rw[show (⟨N,L⟩:Nh).Nk=L from rfl,hc,GH];cases c
 rw[if_neg HC];show ∃y b,((fH fu N x.Nz).bind _)=some (y,b)/\_;rw[hend,GH];show ∃y b,((dJ fu N x.Nz.Nt (endR N x.Nz)).bind _)=some (y,b)/\_;rw[nK hfu N _ _ hN,GH];obtain⟨q,hq⟩:∃q,q=(if d8 N x.Nz.Nt (endR N x.Nz)=true/\(M0 N x.Nz.Nt (endR N x.Nz)).length<=200 then (M0 N x.Nz.Nt (endR N x.Nz),true) else ([],false)):=⟨_,rfl⟩
 rw[<-hq];have hql:(∀a∈q.1,a.Nw.length<=7)/\q.1.length<=201:=by
  rw[hq]
  split
  · exact⟨λa ha=>(hB.1 a ha).short,hB.2⟩
  · simp
 rcases rX hfu N L H D hN hQ hl hD x hxF.blk q.1 hql.1 (by omega) q.2 fu 0 (by omega) (by omega) with ⟨z,hz⟩ | ⟨y,hz,h1,h2⟩
 rw[show ((0:Nat):Int)=0 from rfl]at hz;rw[show (q.1,q.2)=q from rfl]at hz;rw[hz];exact⟨_,_,rfl,λh=>by cases h⟩
 rw[show ((0:Nat):Int)=0 from rfl]at hz;rw[show (q.1,q.2)=q from rfl]at hz;rw[hz];exact⟨y,true,rfl,λ_=>⟨h1,h2⟩⟩;rw[if_pos rfl,jx fu x (by omega)];exact⟨x,true,rfl,λ_=>⟨hxF.blk,by omega⟩⟩
theorem PlQ.put {x:Nx} (h:PlQ L) (hx:yY x.Nj=true/\x.Nz.Nw.length<=20):PlQ (putL L x):=λy hy=>by
 rcases gm.1 hy with rfl | hy
 · exact hx
 · exact h y hy
theorem rU (hfu:2097200<=fu) (N:Nq) (L H:List Nx) (D:d_) (hN:NetB N) (hH:x8 ⟨N,H⟩=true) (hQ:PlQ L) (hl:L.length<=90) (hD:D.length<=100) {i:Int} (h0:0<=i) (h1:i<(H.length:Int)):∃L' b,cU fu ⟨⟨N,L⟩,H,D⟩ i=some (⟨⟨N,L'⟩,H,D⟩,b)/\PlQ L'/\L'.length<=L.length + 1:=by
 have hPB:=hQ.B hN (show L.length<=100 by omega);have h12:H.length<=12:=(lC hH).short;have hRB:RestB ⟨⟨N,L⟩,H,D⟩:=⟨hPB,⟨by simp only; omega,λx hx=>by have:=((lC hH).light x hx).short; omega⟩,by simp only; omega⟩;obtain⟨x,hx,hxm⟩:=ap (l:=H) (i:=i) h0 h1;obtain⟨y,b,hp,hy⟩:=AF hfu N L H D hN hH hQ (by omega) hD hxm;unfold cU;have hown:=pu (fu:=fu) (by omega) _ hRB;show ∃L' b,((V_ H i).bind _)=some (_,b)/\_;rw[hx,GH,hp,GH,hown,GH];cases b
 exact⟨L,false,rfl,hQ,by omega⟩;have hyy:=hy rfl;rw[if_pos rfl,nZ (by omega) _ y hPB (by omega),GH];exact⟨putL L y,true,rfl,hQ.put hyy,by rw[kQ]; omega⟩
theorem Bv (hfu:2097200<=fu) (r:Pd) (N:Nq) (H:List Nx) (D:d_) (hN:NetB N) (hH:x8 ⟨N,H⟩=true) (hD:D.length<=100) (hrH:r.Rz=H) (w:d_) (hw:∀i∈w,0<=i/\i<(H.length:Int)) (hwl:w.length<=12):∀(fk i:Nat) (ids:d_) (L:List Nx),i<=w.length->w.length - i<fk->PlQ L->L.length<=50 + i->ids.length<=i ->
 ∃ids' z L',bH fu r w fk ids i N.Nv N.Nw L H D=some (ids',z,N.Nv,N.Nw,L',H,D)/\PlQ L'/\L'.length<=L.length + (w.length - i):=by
 intro fk;induction fk with
 | zero=>intro i _ _ _ h; omega
 | succ fk ih =>
  intro i ids L hi hk hQ hl hids
  rw[bH]
  by_cases h:i<w.length
  · have hm:=hw _ (GW h)
    obtain⟨L',b,g1,g2,g3⟩:=rU hfu N L H D hN hH hQ (by omega) hD hm.1 hm.2
    obtain⟨x,hx,-⟩:=ap (l:=H) (i:=w[i]) hm.1 hm.2
    have hwi:=vV h (show (w.length:Int)<=9223372036854775807 by omega)
    have g1':cU fu ({ Nh:=({ Nq:=({ Nv:=N.Nv,Nw:=N.Nw }:Nq),Nk:=L }:Nh),Rz:=H,Rv:=D }:Pd) w[i]=_:=g1
    rw[if_pos (by simpa using h),vP h,GH,g1',GH,hwi]
    clear hwi
    cases b
    · rw[if_neg HC]
      obtain⟨a1,a2,a3,a4,a5,a6⟩:=ih (i + 1) ids L' h (by omega) g2 (by omega) (by omega)
      exact⟨a1,a2,a3,a4,a5,by omega⟩
    · rw[if_pos rfl,GH,hrH,hx,GH,yw (by rw[GY]; omega),GH]
      obtain⟨a1,a2,a3,a4,a5,a6⟩:=ih (i + 1) (ids++[x.Id]) L' h (by omega) g2 (by omega) (by rw[GL,GY]; omega)
      exact⟨a1,a2,a3,a4,a5,by omega⟩
  · obtain rfl:i=w.length:=by omega
    rw[if_neg (by simp)]
    exact⟨_,_,_,rfl,hQ,by omega⟩
theorem oG (r:Pd) (hH:r.Rz.length<=1000) (hL:r.Nh.Nk.length<fu) (hL2:r.Nh.Nk.length<=2097152):∀(fk i:Nat) (o:d_),i<=r.Rz.length->r.Rz.length - i<fk->o.length<=i->(∀e∈o,0<=e/\e<(r.Rz.length:Int)) ->
 ∃o' z,aj fu r fk o i=some (o',z)/\o'.length<=r.Rz.length/\∀e∈o',0<=e/\e<(r.Rz.length:Int):=by
 intro fk;induction fk with
 | zero=>intro i _ _ h; omega
 | succ fk ih =>
  intro i o hi hk ho hr
  rw[aj]
  by_cases h:i<r.Rz.length
  · obtain⟨q,hq⟩:∃q,f8 fu r.Nh r.Rz[i].Id=some q:=⟨_,wv r.Nh _ hL hL2⟩
    rw[if_pos (by simpa using h),vP h,GH,hq,GH,yw (by rw[GY]; omega),vV h (by omega)]
    by_cases hc:q<0
    · rw[if_pos (by simpa using hc),GH]
      refine ih (i + 1) (o++[(i:Int)]) h (by omega) (by simp; omega) λe he=>?_
      rcases GI.1 he with he | he
      · exact hr e he
      · rw[GR]at he; subst he; omega
    · rw[if_neg (by simpa using hc)]
      exact ih (i + 1) o h (by omega) (by omega) hr
  · obtain rfl:i=r.Rz.length:=by omega
    rw[if_neg (by simp)]
    exact⟨_,_,rfl,ho,hr⟩
theorem Ex (hfu:2097200<=fu) (N:Nq) (L H:List Nx) (D:d_) (hN:NetB N) (hH:x8 ⟨N,H⟩=true) (hQ:PlQ L) (hl:L.length<=40) (hD:D.length<=100):∃L' ids,iW fu ⟨⟨N,L⟩,H,D⟩=some (⟨⟨N,L'⟩,H,D⟩,ids)/\PlQ L'/\L'.length<=L.length + 12:=by
 have hPB:=hQ.B hN (show L.length<=100 by omega);have h12:H.length<=12:=(lC hH).short;have hRB:RestB ⟨⟨N,L⟩,H,D⟩:=⟨hPB,⟨by simp only; omega,λx hx=>by have:=((lC hH).light x hx).short; omega⟩,by simp only; omega⟩;obtain⟨w,z,hw,w1,w2⟩:=oG (fu:=fu) (⟨⟨N,L⟩,H,D⟩:Pd) (show H.length<=1000 by omega) (show L.length<fu by omega) (show L.length<=2097152 by omega) fu 0 [] (by omega) (show H.length - 0<fu by omega) (by simp) (by simp);obtain⟨ids,z2,L',g1,g2,g3⟩:=Bv hfu (⟨⟨N,L⟩,H,D⟩:Pd) N H D hN hH hD rfl w w2 (HS w1 h12) fu 0 [] L (by omega) (by have:w.length<=H.length:=w1; omega) hQ (by omega) (by simp);rw[show ((0:Nat):Int)=0 from rfl]at hw g1;have w1':w.length<=H.length:=w1;unfold iW gS;rw[pu (fu:=fu) (by omega) _ hRB,GH,hw,GH,GH];show ∃L' ids,((bH fu (⟨⟨N,L⟩,H,D⟩:Pd) w fu [] 0 N.Nv N.Nw L H D).bind _)=_/\_;rw[g1];exact⟨L',ids,rfl,g2,by omega⟩
structure NetZ (n:Nq):Prop where
 n2:n.Nv.length<=20
 ns:∀e∈n.Nv,e.size<=100
 f2:n.Nw.length<=20
theorem NetD.z {n:Nq} (h:NetD n):NetZ n:=⟨h.n2,h.ns,h.f2⟩
theorem NetZ.B {n:Nq} (h:NetZ n):NetB n:=⟨⟨by have:=h.n2; omega,λe he=>by have:=h.ns e he; omega⟩,by have:=h.f2; omega⟩
structure RestD (r:Pd):Prop where
 net:NetZ r.Nh.Nq
 ll:r.Nh.Nk.length<=40
 lr:∀x∈r.Nh.Nk,x.Nz.Nw.length<=20
 hl:r.Rz.length<=40
 hr:∀x∈r.Rz,x.Nz.Nw.length<=20
 down:r.Rv.length<=80
theorem RestD.B {r:Pd} (h:RestD r):RestB r:=⟨⟨h.net.B,by have:=h.ll; omega,λx hx=>by have:=h.lr x hx; omega⟩,⟨by have:=h.hl; omega,λx hx=>by have:=h.hr x hx; omega⟩,by have:=h.down; omega⟩
theorem t7 {c:Np} {k:Int} (hc:Cur c k) (hk:k<=4611686018427387000) (n:Int) (hn:n<=1099511627776):∃r c',xJ fu c n=some (r,c')/\Cur c' (k + 2):=by
 unfold xJ;obtain⟨r,c',g1,-,-,g4⟩:=vJ (fu:=fu) hc hk n hn;rw[g1];exact⟨_,_,rfl,g4⟩
theorem RestF.all (hfu:2097200<=fu) {N:Nq} {L H:List Nx} {D:d_} (hN:NetZ N) (hH:x8 ⟨N,H⟩=true) (hQ:PlQ L) (hl:L.length<=12) (hD:D.length<=80):∃L' ids,iW fu ⟨⟨N,L⟩,H,D⟩=some (⟨⟨N,L'⟩,H,D⟩,ids)/\RestD ⟨⟨N,L'⟩,H,D⟩:=by
 obtain⟨L',ids,g1,g2,g3⟩:=Ex hfu N L H D hN.B hH hQ (by omega) (by omega);have h12:H.length<=12:=(lC hH).short;exact⟨L',ids,g1,⟨hN,by simp only; omega,λx hx=>(g2 x hx).2,by simp only; omega,λx hx=>by have:=((lC hH).light x hx).short; omega,hD⟩⟩
end AT
namespace AT
def s1 (b:Nat):Nat:=(b / 2 &&& 0x55) + (b &&& 0x55)
def s2 (b:Nat):Nat:=(b / 4 &&& 0x33) + (b &&& 0x33)
def s3 (b:Nat):Nat:=(b / 16 + b) &&& 0x0f
set_option maxRecDepth 100000 in
theorem b1:∀(b:Fin 256) (r:Fin 2),((b:Nat) / 2 + 128 * r) &&& 0x55=(b:Nat) / 2 &&& 0x55:=by decide +kernel
set_option maxRecDepth 100000 in
theorem b2:∀(b:Fin 256) (r:Fin 4),((b:Nat) / 4 + 64 * r) &&& 0x33=(b:Nat) / 4 &&& 0x33:=by decide +kernel
set_option maxRecDepth 100000 in
theorem b3:∀(b:Fin 69) (r:Fin 5),((b:Nat) / 16 + b + 16 * r) &&& 0x0f=((b:Nat) / 16 + b) &&& 0x0f:=by decide +kernel
end AT
