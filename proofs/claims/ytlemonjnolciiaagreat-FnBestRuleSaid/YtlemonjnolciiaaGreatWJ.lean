/- The walks of slices.Insert, slices.Delete and their like, by program (gen.py). -/
import Derived.Test.YtlemonjnolciiaaGreatT
import Derived.Test.YtlemonjnolciiaaGreatAtSi
set_option linter.unusedVariables false
set_option linter.unusedSimpArgs false
set_option maxRecDepth 100000
namespace Go.Proofs
open Go Go.Shelf
def Tryz.lay131_ren:Go.Shelf.Ren:=⟨λ| 20=>131 | n=>n,λ| 22=>35 | 3=>3 | 4=>4 | 0=>0 | n=>n,λ| n=>n⟩
theorem Tryz.lay131:Go.Proofs.Lays2.n20 prog Tryz.lay131_ren where
  mixed:=by kernel_rfl
  f20:=Tryz.func131.trans (congrArg some (by kernel_rfl))
  t0:=Tryz.underlying0
  a0:=Tryz.isAgg0
  z0:=Tryz.sizeOf0
  v0:=Tryz.zeroValue0
  t3:=Tryz.underlying3
  a3:=Tryz.isAgg3
  z3:=Tryz.sizeOf3
  v3:=Tryz.zeroValue3
  t4:=Tryz.underlying4
  a4:=Tryz.isAgg4
  z4:=Tryz.sizeOf4
  v4:=Tryz.zeroValue4
  t22:=Tryz.underlying35
  a22:=Tryz.isAgg35
  z22:=Tryz.sizeOf35
  v22:=Tryz.zeroValue35
  i3:=by kernel_rfl
def Tryz.lay130_ren:Go.Shelf.Ren:=⟨λ| 189=>130 | 125=>218 | 257=>217 | 128=>280 | 129=>281 | 294=>271 | 295=>272 | 296=>273 | 297=>274 | 298=>275 | 299=>276 | 216=>277 | 300=>278 | 301=>279 | 328=>312 | 329=>313 | 330=>314 | 331=>315 | 332=>316 | 215=>225 | 343=>339 | n=>n,λ| 28=>35 | 3=>3 | 46=>128 | 0=>0 | 51=>202 | 53=>107 | 4=>4 | 183=>269 | 182=>268 | 131=>40 | 5=>5 | 9=>9 | 218=>292 | 222=>296 | 228=>312 | 229=>313 | n=>n,λ| n=>n⟩
theorem Tryz.lay130:Go.Proofs.Lays.n189 prog Tryz.lay130_ren where
  mixed:=by kernel_rfl
  f125:=Tryz.func218.trans (congrArg some (by kernel_rfl))
  f128:=Tryz.func280.trans (congrArg some (by kernel_rfl))
  f129:=Tryz.func281.trans (congrArg some (by kernel_rfl))
  f189:=Tryz.func130.trans (congrArg some (by kernel_rfl))
  f215:=Tryz.func225.trans (congrArg some (by kernel_rfl))
  f216:=Tryz.func277.trans (congrArg some (by kernel_rfl))
  f257:=Tryz.func217.trans (congrArg some (by kernel_rfl))
  f294:=Tryz.func271.trans (congrArg some (by kernel_rfl))
  f295:=Tryz.func272.trans (congrArg some (by kernel_rfl))
  f296:=Tryz.func273.trans (congrArg some (by kernel_rfl))
  f297:=Tryz.func274.trans (congrArg some (by kernel_rfl))
  f298:=Tryz.func275.trans (congrArg some (by kernel_rfl))
  f299:=Tryz.func276.trans (congrArg some (by kernel_rfl))
  f300:=Tryz.func278.trans (congrArg some (by kernel_rfl))
  f301:=Tryz.func279.trans (congrArg some (by kernel_rfl))
  f328:=Tryz.func312.trans (congrArg some (by kernel_rfl))
  f329:=Tryz.func313.trans (congrArg some (by kernel_rfl))
  f330:=Tryz.func314.trans (congrArg some (by kernel_rfl))
  f331:=Tryz.func315.trans (congrArg some (by kernel_rfl))
  f332:=Tryz.func316.trans (congrArg some (by kernel_rfl))
  f343:=Tryz.func339.trans (congrArg some (by kernel_rfl))
  t0:=Tryz.underlying0
  a0:=Tryz.isAgg0
  z0:=Tryz.sizeOf0
  v0:=Tryz.zeroValue0
  t3:=Tryz.underlying3
  a3:=Tryz.isAgg3
  z3:=Tryz.sizeOf3
  v3:=Tryz.zeroValue3
  t4:=Tryz.underlying4
  a4:=Tryz.isAgg4
  z4:=Tryz.sizeOf4
  v4:=Tryz.zeroValue4
  t5:=Tryz.underlying5
  a5:=Tryz.isAgg5
  z5:=Tryz.sizeOf5
  v5:=Tryz.zeroValue5
  t9:=Tryz.underlying9
  a9:=Tryz.isAgg9
  z9:=Tryz.sizeOf9
  v9:=Tryz.zeroValue9
  t28:=Tryz.underlying35
  a28:=Tryz.isAgg35
  z28:=Tryz.sizeOf35
  v28:=Tryz.zeroValue35
  t46:=Tryz.underlying128
  a46:=Tryz.isAgg128
  z46:=Tryz.sizeOf128
  v46:=Tryz.zeroValue128
  t51:=Tryz.underlying202
  a51:=Tryz.isAgg202
  z51:=Tryz.sizeOf202
  v51:=Tryz.zeroValue202
  t53:=Tryz.underlying107
  a53:=Tryz.isAgg107
  z53:=Tryz.sizeOf107
  v53:=Tryz.zeroValue107
  t131:=Tryz.underlying40
  a131:=Tryz.isAgg40
  z131:=Tryz.sizeOf40
  v131:=Tryz.zeroValue40
  t182:=Tryz.underlying268
  a182:=Tryz.isAgg268
  z182:=Tryz.sizeOf268
  v182:=Tryz.zeroValue268
  t183:=Tryz.underlying269
  a183:=Tryz.isAgg269
  z183:=Tryz.sizeOf269
  v183:=Tryz.zeroValue269
  t218:=Tryz.underlying292
  a218:=Tryz.isAgg292
  z218:=Tryz.sizeOf292
  v218:=Tryz.zeroValue292
  t222:=Tryz.underlying296
  a222:=Tryz.isAgg296
  z222:=Tryz.sizeOf296
  v222:=Tryz.zeroValue296
  t228:=Tryz.underlying312
  a228:=Tryz.isAgg312
  z228:=Tryz.sizeOf312
  v228:=Tryz.zeroValue312
  t229:=Tryz.underlying313
  a229:=Tryz.isAgg313
  z229:=Tryz.sizeOf313
  v229:=Tryz.zeroValue313
def Tryz.lay322_ren:Go.Shelf.Ren:=⟨λ| 6=>322 | 15=>218 | 14=>341 | 28=>280 | 29=>281 | 20=>353 | 21=>354 | 22=>355 | 23=>356 | 24=>357 | 25=>358 | 26=>359 | 27=>360 | 46=>363 | 47=>313 | 48=>314 | 49=>364 | 50=>365 | 57=>368 | n=>n,λ| 22=>230 | 24=>45 | 25=>302 | 3=>3 | 39=>128 | 0=>0 | 53=>202 | 55=>107 | 4=>4 | 46=>269 | 45=>268 | 50=>40 | 5=>5 | 9=>9 | 66=>292 | 70=>296 | 76=>312 | 77=>313 | n=>n,λ| n=>n⟩
theorem Tryz.lay322:Go.Proofs.SlLaysF0.n6 prog Tryz.lay322_ren where
  mixed:=by kernel_rfl
  f6:=⟨Tryz.f322.name,by kernel_rfl,Tryz.func322.trans (congrArg some (by kernel_rfl))⟩
  f14:=⟨Tryz.f341.name,by kernel_rfl,Tryz.func341.trans (congrArg some (by kernel_rfl))⟩
  f15:=Tryz.func218.trans (congrArg some (by kernel_rfl))
  f20:=⟨Tryz.f353.name,by kernel_rfl,Tryz.func353.trans (congrArg some (by kernel_rfl))⟩
  f21:=⟨Tryz.f354.name,by kernel_rfl,Tryz.func354.trans (congrArg some (by kernel_rfl))⟩
  f22:=⟨Tryz.f355.name,by kernel_rfl,Tryz.func355.trans (congrArg some (by kernel_rfl))⟩
  f23:=⟨Tryz.f356.name,by kernel_rfl,Tryz.func356.trans (congrArg some (by kernel_rfl))⟩
  f24:=⟨Tryz.f357.name,by kernel_rfl,Tryz.func357.trans (congrArg some (by kernel_rfl))⟩
  f25:=⟨Tryz.f358.name,by kernel_rfl,Tryz.func358.trans (congrArg some (by kernel_rfl))⟩
  f26:=⟨Tryz.f359.name,by kernel_rfl,Tryz.func359.trans (congrArg some (by kernel_rfl))⟩
  f27:=⟨Tryz.f360.name,by kernel_rfl,Tryz.func360.trans (congrArg some (by kernel_rfl))⟩
  f28:=Tryz.func280.trans (congrArg some (by kernel_rfl))
  f29:=Tryz.func281.trans (congrArg some (by kernel_rfl))
  f46:=⟨Tryz.f363.name,by kernel_rfl,Tryz.func363.trans (congrArg some (by kernel_rfl))⟩
  f47:=Tryz.func313.trans (congrArg some (by kernel_rfl))
  f48:=Tryz.func314.trans (congrArg some (by kernel_rfl))
  f49:=⟨Tryz.f364.name,by kernel_rfl,Tryz.func364.trans (congrArg some (by kernel_rfl))⟩
  f50:=⟨Tryz.f365.name,by kernel_rfl,Tryz.func365.trans (congrArg some (by kernel_rfl))⟩
  f57:=⟨Tryz.f368.name,by kernel_rfl,Tryz.func368.trans (congrArg some (by kernel_rfl))⟩
  t0:=Tryz.underlying0
  a0:=Tryz.isAgg0
  z0:=Tryz.sizeOf0
  v0:=Tryz.zeroValue0
  t3:=Tryz.underlying3
  a3:=Tryz.isAgg3
  z3:=Tryz.sizeOf3
  v3:=Tryz.zeroValue3
  t4:=Tryz.underlying4
  a4:=Tryz.isAgg4
  z4:=Tryz.sizeOf4
  v4:=Tryz.zeroValue4
  t5:=Tryz.underlying5
  a5:=Tryz.isAgg5
  z5:=Tryz.sizeOf5
  v5:=Tryz.zeroValue5
  t9:=Tryz.underlying9
  a9:=Tryz.isAgg9
  z9:=Tryz.sizeOf9
  v9:=Tryz.zeroValue9
  t22:=Tryz.underlying230
  a22:=Tryz.isAgg230
  z22:=Tryz.sizeOf230
  v22:=Tryz.zeroValue230
  t25:=Tryz.underlying302
  a25:=Tryz.isAgg302
  z25:=Tryz.sizeOf302
  v25:=Tryz.zeroValue302
  t39:=Tryz.underlying128
  a39:=Tryz.isAgg128
  z39:=Tryz.sizeOf128
  v39:=Tryz.zeroValue128
  t45:=Tryz.underlying268
  a45:=Tryz.isAgg268
  z45:=Tryz.sizeOf268
  v45:=Tryz.zeroValue268
  t46:=Tryz.underlying269
  a46:=Tryz.isAgg269
  z46:=Tryz.sizeOf269
  v46:=Tryz.zeroValue269
  t50:=Tryz.underlying40
  a50:=Tryz.isAgg40
  z50:=Tryz.sizeOf40
  v50:=Tryz.zeroValue40
  t53:=Tryz.underlying202
  a53:=Tryz.isAgg202
  z53:=Tryz.sizeOf202
  v53:=Tryz.zeroValue202
  t55:=Tryz.underlying107
  a55:=Tryz.isAgg107
  z55:=Tryz.sizeOf107
  v55:=Tryz.zeroValue107
  t66:=Tryz.underlying292
  a66:=Tryz.isAgg292
  z66:=Tryz.sizeOf292
  v66:=Tryz.zeroValue292
  t70:=Tryz.underlying296
  a70:=Tryz.isAgg296
  z70:=Tryz.sizeOf296
  v70:=Tryz.zeroValue296
  t76:=Tryz.underlying312
  a76:=Tryz.isAgg312
  z76:=Tryz.sizeOf312
  v76:=Tryz.zeroValue312
  t77:=Tryz.underlying313
  a77:=Tryz.isAgg313
  z77:=Tryz.sizeOf313
  v77:=Tryz.zeroValue313
end Go.Proofs
namespace AT
open Go Go.RowKit Go.Proofs Tryz
set_option maxHeartbeats 2000000 in
theorem pC:Ai prog 282 5:=by
  intro w A A2 n cap m cap2 E0 E2 cells vs i ho hov h1 h1v hne hin hbig;have hlen:=ho.1;have hvl:=hov.1;have hnc:n<=cap/\cap<=maxLen:=by
    rcases ho.2 with ⟨hv,h0⟩ | ⟨gb,cap',cur,hv,hb,hg,hl,hm,hsz,ht⟩
    · simp only[Value.slice.injEq]at hv
      obtain⟨-,-,rfl⟩:=hv
      exact⟨by omega,by simp [maxLen]⟩
    simp only[Value.slice.injEq]at hv
    obtain⟨-,-,rfl⟩:=hv
    exact⟨hl,hm⟩
  obtain⟨hnc,hcm⟩:=hnc;have hxl:maxLen<=9223372036854775807:=by simp [maxLen]
  have hins:i * 5<=n * 5:=Hb _ hin;obtain⟨inf,hinf,hpr⟩:=Ht.1 TF.ai49;simp only[Ie]at hpr;obtain⟨hz1,hz2,hz3⟩:=hpr;refine enter Tryz.func282 rfl rfl (M1 rfl) rfl λa hf=>?_;refine sq (N_ (pr 1 hf rfl rfl λa hf=>uc (ua ?_)));refine sq (N_ (pr 2 hf rfl rfl λa hf=>U_ rfl (op_q hf (iO hf rfl rfl rfl rfl (eH Tryz.underlying28 TF.sz49 λw=>b_lo hin) _) rfl (by decide) λa hf=>uc (ua ?_))));refine sq (N_ (pr 3 hf rfl rfl λa hf=>uc (ua ?_)));refine sq (sq (N_ (pr 2 hf rfl rfl λa hf=>uc (ua ?_))));by_cases hm0:m=0
  · subst hm0
    refine cd_t hf rfl (by simp) ?_
    refine sq (N_ (pr 2 hf rfl rfl λa hf=>uc (ua (wp_ret (uh ?_)))))
    refine zT (fn:=Tryz.f282) (r:=.tmp 6) hf rfl (uL hf rfl) ?_
    have hv0:vs=[]:=G6 (by omega)
    subst hv0
    refine⟨_,rfl,E0,A,cap,rfl,⟨⟨rfl,rfl,rfl,GV _,λ_ _ _=>rfl⟩,GV _⟩,.inl (by cases A <;> rfl),?_⟩
    rw[Hi,Ha]
    exact ho
  refine cd_f hf rfl (by simp; omega) (wp_skip (ua ?_));obtain⟨b2,cap2',cur2,hv2,hb2,hg2,hl2,hm2,hsz2,ht2⟩:∃b2 cap2' cur2,(Value.slice A2 m cap2)=.slice (some ⟨b2,0,none⟩) m cap2'/\0<=b2/\w.heap[b2]?=some (.cells cur2 E2 (0,0))/\m<=cap2'/\cap2'<=maxLen/\cur2.size=cap2' * 5/\cur2.toList.take (m * 5)=vs:=by
    rcases hov.2 with ⟨_,h0⟩ | h
    · exact absurd h0 hm0
    exact h
  simp only[Value.slice.injEq]at hv2;obtain⟨rfl,-,rfl⟩:=hv2;have hb2l:b2<w.heap.size:=(HQ.1 hg2).1;have hvc:∀j u,vs[j]?=some u->w.cell? ((⟨b2,0,none⟩:Addr).add j)=some u:=hov.cells (g:=b2) rfl;have hf:=hf.prune [0,1,2,7] rfl;refine sq (N_ (pr 3 hf rfl rfl λa hf=>uc (ua ?_)));refine sq (sq (N_ (pr 3 hf rfl rfl λa hf=>uc (ua ?_))));by_cases hie:i=n
  · subst hie
    refine cd_t hf rfl (by simp) ?_
    refine sq (N_ (pr 2 hf rfl rfl λa hf=>?_))
    obtain⟨e1,v',w',hr,g1,g2,g3⟩:=fB (P:=prog) w 28 28 49 E0 inf _ 5 inf.bytes Tryz.underlying28 hinf hz1 hz2 rfl rfl (by decide) _ i cells ho ⟨b2,0,none⟩ m cap2 vs hvl hvc h1v (by simp only[maxLen]; omega) (by rw[hz3]; omega)
    refine U_ rfl (cN hf rfl rfl hr (by decide) λa hf=>?_)
    refine pr 1 hf rfl rfl λa hf=>uc (ua (wp_ret (uh ?_)))
    refine zT (fn:=Tryz.f282) (r:=.tmp 6) hf rfl (uL hf rfl) ?_
    have hform:∃A1 cap1,v'=.slice A1 (i + m) cap1:=by
      rcases g1.2 with ⟨rfl,h0⟩ | ⟨b,cap',cur,rfl,_⟩
      · exact⟨none,0,by rw[h0]⟩
      exact⟨some ⟨b,0,none⟩,cap',rfl⟩
    obtain⟨A1,cap1,rfl⟩:=hform
    refine⟨_,rfl,e1,A1,cap1,rfl,g2,g3.imp id λh=>⟨h,(g1.lt _ h).2⟩,?_⟩
    rw[<-hlen,Jf,Hg,G8]
    exact g1
  have hilt:i<n:=by omega
  refine cd_f hf rfl (by simp; omega) (wp_skip (ua ?_));obtain⟨gb,cap',cur,hv,hb,hg,hl,hm,hsz,ht⟩:∃gb cap' cur,(Value.slice A n cap)=.slice (some ⟨gb,0,none⟩) n cap'/\0<=gb/\w.heap[gb]?=some (.cells cur E0 (0,0))/\n<=cap'/\cap'<=maxLen/\cur.size=cap' * 5/\cur.toList.take (n * 5)=cells:=by
    rcases ho.2 with ⟨_,h0⟩ | h
    · omega
    exact h
  simp only[Value.slice.injEq]at hv;obtain⟨rfl,-,rfl⟩:=hv;have hgl:gb<w.heap.size:=(HQ.1 hg).1;have hbg:b2≠gb:=λe=>hne gb rfl (by rw[e]; rfl);have hcl:cur.toList.length=cap * 5:=by rw[Hw,hsz]
  have hns:n * 5<=cap * 5:=Hb _ hnc;have hni:(n - i) * 5=n * 5 - i * 5:=Nat.sub_mul _ _ _;have hdl:(cells.drop (i * 5)).length=(n - i) * 5:=by rw[Hd,hlen,hni]
  have h1d:∀u∈cells.drop (i * 5),u.oneCell'=true:=λu hu=>h1 u (I9 hu);have him:(i + m) * 5=i * 5 + m * 5:=HN _ _ _;have hnm:(n + m) * 5=n * 5 + m * 5:=HN _ _ _;have hcz:∀c,cutA (some (⟨gb,0,none⟩:Addr)) 5 0 c=some ⟨gb,0,none⟩:=λc=>Bc λp h=>by injection h with h; subst h; rfl
  have hf:=hf.prune [0,1,2,7,8] rfl;refine sq (sq (N_ (pr 4 hf rfl rfl λa hf=>U_ rfl (op_q hf (DF hf Tryz.underlying28 rfl _) rfl (by decide) λa hf=>pr 1 hf rfl rfl λa hf=>uc (ua ?_)))));rw[io (show n + m<=1099511627776 from hbig)]at hf;by_cases hroom:n + m<=cap
  · refine cd_f hf rfl (by simp; omega) (wp_skip (ua ?_))
    have hnmc:(n + m) * 5<=cap * 5:=Hb _ hroom
    have hf:=hf.prune [0,1,2,7,8] rfl
    refine sq (N_ (pr 4 hf rfl rfl λa hf=>?_))
    rw[io (show n + m<=1099511627776 from hbig)]at hf
    refine U_ rfl (op_q hf (iO hf rfl rfl rfl rfl (eH Tryz.underlying28 TF.sz49 λw=>b_hi hroom) _) rfl (by decide) λa hf=>pr 1 hf rfl rfl λa hf=>uc (ua ?_))
    rw[hcz,IZ,IZ]at hf
    have hf:=hf.prune [0,1,2,7,8] rfl
    refine sq (sq (N_ (pr 5 hf rfl rfl λa hf=>?_)))
    rw[io (show i + m<=1099511627776 by omega)]at hf
    have hc1:cutA (some (⟨gb,0,none⟩:Addr)) 5 (i + m) cap=some ⟨gb,0 + (i + m) * 5,none⟩:=ix (by omega)
    have hc2:cutA (some (⟨gb,0,none⟩:Addr)) 5 i cap=some ⟨gb,0 + i * 5,none⟩:=ix (by omega)
    refine U_ rfl (op_q hf (iO hf rfl rfl rfl rfl (eH Tryz.underlying28 TF.sz49 λw=>b_lo (show i + m<=n + m by omega)) _) rfl (by decide) λa hf=>?_)
    rw[hc1]at hf
    refine U_ rfl (op_q hf (DD hf rfl (Ae (P:=prog) (T:=28) (TR:=4) (E:=49) (s:=5) Tryz.func317 (by kernel_rfl) (by kernel_rfl) (by kernel_rfl) (by kernel_rfl) Tryz.underlying28 TF.sz49 hbg hg2 hg (by omega))) rfl (by decide) λa hf=>pr 1 hf rfl rfl λa hf=>uc (ua ?_))
    refine cd_t hf rfl rfl ?_
    have hf:=hf.prune [0,1,2,7,8] rfl
    refine sq (drawn [] (bs:=[false,false,false,false,false,false,false,false,false]) (fuel:=9) (Checked.mixed Tryz.checked) rfl rfl λw1 hb1=>?_)
    have G1:=(GS.start hg).below hgl hb1
    refine tp 0 rfl rfl hf (by kernel_rfl) (λ_=>trivial) rfl λa hf=>?_
    refine tp 1 rfl rfl hf (by kernel_rfl) (λ_=>trivial) rfl λa hf=>?_
    refine tp 2 rfl rfl hf (by kernel_rfl) (λ_=>trivial) rfl λa hf=>?_
    refine tp 3 rfl rfl hf (by kernel_rfl) (λ_=>trivial) rfl λa hf=>?_
    rw[io (show i + m<=1099511627776 by omega)]at hf
    refine tP 4 rfl rfl rfl rfl hf (by kernel_rfl) (λ_=>trivial) (λw=>iO hf rfl rfl rfl rfl (eH Tryz.underlying28 TF.sz49 λw=>b_lo (show i + m<=n + m by omega)) w) λa hf=>?_
    rw[hc1]at hf
    refine tp 5 rfl rfl hf (by kernel_rfl) (λ_=>trivial) rfl λa hf=>?_
    refine tp 6 rfl rfl hf (by kernel_rfl) (λ_=>trivial) rfl λa hf=>?_
    refine tP 7 rfl rfl rfl rfl hf (by kernel_rfl) (λ_=>trivial) (λw=>iO hf rfl rfl rfl rfl (eH Tryz.underlying28 TF.sz49 λw=>b_lo (show i<=n + m by omega)) w) λa hf=>?_
    rw[hc2]at hf
    have hcp1:=jn (P:=prog) (T:=28) (U:=28) (ty:=3) (w:=w1) (s:=5) (o:=0 + (i + m) * 5) (dLen:=n + m - (i + m)) (dCap:=cap - (i + m)) (sLen:=n + m - i) (sCap:=cap - i) (p:=⟨gb,0 + i * 5,none⟩) (k:=n - i) (cs:=cells.drop (i * 5)) Tryz.underlying28 TF.sz49 G1 (by simp only[J8]; split <;> omega) hdl
      (λj u hj=>by
        have:=(GQ.1 hj).1
        rw[add_lit,G1.cell,<-hj,Hl,<-ht,HA,G9 (by omega)]) (by rw[hcl,hdl]; omega) h1d
    refine n1 8 (by kernel_rfl) rfl rfl (ir hf rfl rfl hcp1 (by decide) λa hf=>?_)
    refine⟨λ_=>trivial,dn (by kernel_rfl) (ua ?_)⟩
    have G2:=G1.set (P0 cur.toList (0 + (i + m) * 5) (cells.drop (i * 5))).toArray
    generalize w1.setRow gb (P0 cur.toList (0 + (i + m) * 5) (cells.drop (i * 5))).toArray=w2 at G2 hf ⊢
    rw[Il,HA]at G2
    have hl2:(P0 cur.toList ((i + m) * 5) (cells.drop (i * 5))).length=cap * 5:=by rw[lH (by rw[hcl,hdl]; omega),hcl]
    have hf:=hf.prune [0,1,2,7,8] rfl
    refine sq (N_ (pr 2 hf rfl rfl λa hf=>U_ rfl (op_q hf (iO hf rfl rfl rfl rfl (eH Tryz.underlying28 TF.sz49 λw=>b_lo (show i<=n + m by omega)) _) rfl (by decide) λa hf=>?_)))
    rw[hc2]at hf
    refine pr 1 hf rfl rfl λa hf=>?_
    have hcp2:=jn (P:=prog) (T:=28) (U:=28) (ty:=3) (w:=w2) (s:=5) (o:=0 + i * 5) (dLen:=n + m - i) (dCap:=cap - i) (sLen:=m) (sCap:=cap2) (p:=⟨b2,0,none⟩) (k:=m) (cs:=vs) Tryz.underlying28 TF.sz49 G2 (by simp only[J8]; split <;> omega) hvl
      (λj u hj=>by
        have:=hvc j u hj
        rw[add_lit]at this ⊢
        rw[G2.other hb2l hbg]; exact this) (by rw[hl2,hvl]; omega) h1v
    refine U_ rfl (ir hf rfl rfl hcp2 (by decide) λa hf=>uc (ua ?_))
    have G3:=G2.set (P0 (P0 cur.toList ((i + m) * 5) (cells.drop (i * 5))) (0 + i * 5) vs).toArray
    generalize w2.setRow gb (P0 (P0 cur.toList ((i + m) * 5) (cells.drop (i * 5))) (0 + i * 5) vs).toArray=w3 at G3 hf ⊢
    rw[Il,HA]at G3
    refine sq (N_ (pr 2 hf rfl rfl λa hf=>uc (ua (wp_ret (uh ?_)))))
    refine zT (fn:=Tryz.f282) (r:=.tmp 6) hf rfl (uL hf rfl) ?_
    have hl3:(P0 (P0 cur.toList ((i + m) * 5) (cells.drop (i * 5))) (i * 5) vs).length=cap * 5:=by rw[lH (by rw[hl2,hvl]; omega),hl2]
    have htk:(P0 (P0 cur.toList ((i + m) * 5) (cells.drop (i * 5))) (i * 5) vs).take ((n + m) * 5)=cells.take (i * 5)++(vs++cells.drop (i * 5)):=by
      have:=CR (cur:=cur.toList) (o:=i * 5) (vs:=vs) (cs:=cells.drop (i * 5)) (by rw[hvl,hdl,hcl]; omega)
      rw[hvl,hdl,show i * 5 + m * 5 + (n - i) * 5=(n + m) * 5 by omega,<-him]at this
      rw[this,<-ht,IN,Ic (by omega)]
    refine⟨_,rfl,E0,some ⟨gb,0,none⟩,cap,rfl,G3.grown _ (λ_=>rfl),.inl rfl,?_,?_⟩
    · rw[GL,GL,GO,hvl,hdl,hlen]; omega
    refine .inr ⟨gb,cap,(P0 (P0 cur.toList ((i + m) * 5) (cells.drop (i * 5))) (i * 5) vs).toArray,rfl,IK _,G3.at_,hroom,hm,by rw[If,hl3],?_⟩
    rw[Il,htk]
  refine cd_t hf rfl (by simp; omega) ?_;have hf:=hf.prune [0,1,2,7,8] rfl;refine sq (N_ (pr 2 hf rfl rfl λa hf=>U_ rfl (op_q hf (iO hf rfl rfl rfl rfl (eH Tryz.underlying28 TF.sz49 λw=>b_hi (show i<=cap by omega)) _) rfl (by decide) λa hf=>pr 5 hf rfl rfl λa hf=>?_)));rw[io (show n + m<=1099511627776 from hbig),Al (show i<=n + m by omega) (show n + m<=1099511627776 from hbig),hcz,IZ,IZ]at hf;have hold:(Builtin.firstCells inf.size i (.slice (some ⟨gb,0,none⟩) i cap)).run prog w.drew=.ok (cells.take (i * 5)).toArray w.drew:=by
    rw[hz2]
    refine run_firstCells_some (P:=prog) w.drew 5 i ⟨gb,0,none⟩ i cap (cells.take (i * 5)) (by rw[GO,hlen]; omega) λj u hj=>?_
    have hj':=(GQ.1 hj).1
    rw[GO]at hj'
    rw[G9 (by omega)]at hj
    exact ho.cells (g:=gb) rfl j u hj
  have hap:=Lib.run_append_grow_zeros (P:=prog) w 28 3 28 49 inf _ .i64 _ Tryz.underlying28 Tryz.underlying3 hinf hz1 (some ⟨gb,0,none⟩) i cap (cells.take (i * 5)) hold (n + m - i) (by omega) (by rw[hz2]; decide) (by omega) (by omega) (by rw[hz3]; omega) (growslice_fits (by omega) (by rw[hz3]; omega));rw[show i + (n + m - i)=n + m by omega]at hap;have hGge:=grownCap_ge w (n + m) cap 49;have hGle:=grownCap_le_maxLen w (n + m) cap 49 (by simp only[maxLen]; omega);generalize grownCap w (n + m) cap 49=c2 at hap hGge hGle;refine U_ rfl (tZ hf rfl rfl hap (by decide) λa hf=>pr 1 hf rfl rfl λa hf=>uc (ua ?_));obtain⟨cur3,hcur3⟩:∃c:Array Value,c=(cells.take (i * 5)).toArray++Builtin.zeroCells (Value.cells (.agg #[(.int .i64 0),(.int .i64 0),(.slice none 0 0),(.int .i64 0),(.int .i64 0)])) (n + m - i)++Builtin.zeroCells (Value.cells (.agg #[(.int .i64 0),(.int .i64 0),(.slice none 0 0),(.int .i64 0),(.int .i64 0)])) (c2 - (n + m)):=⟨_,rfl⟩;have hl3:cur3.toList.length=c2 * 5:=by
    rw[hcur3,Hw,Jr,Jr,size_zeroCells,size_zeroCells,If,GO,hlen,show (Value.cells (.agg #[(.int .i64 0),(.int .i64 0),(.slice none 0 0),(.int .i64 0),(.int .i64 0)])).size=5 from rfl,Ic hins,<-HN,<-HN]
    congr 1
    omega
  have ht3:cur3.toList.take (i * 5)=cells.take (i * 5):=by
    rw[hcur3,Jk,Jk,GN,HK (by rw[Il,GO,hlen]; omega),Il,IN,Nat.min_self]
  have G0:=GS.alloc w cur3 49;have hwe:w.drew.alloc (.cells cur3 49)=w.drew.alloc (.cells ((cells.take (i * 5)).toArray++Builtin.zeroCells (Value.cells (.agg #[(.int .i64 0),(.int .i64 0),(.slice none 0 0),(.int .i64 0),(.int .i64 0)])) (n + m - i)++Builtin.zeroCells (Value.cells (.agg #[(.int .i64 0),(.int .i64 0),(.slice none 0 0),(.int .i64 0),(.int .i64 0)])) (c2 - (n + m))) 49):=by rw[hcur3]
  rw[hwe]at G0;generalize w.drew.alloc (.cells ((cells.take (i * 5)).toArray++Builtin.zeroCells (Value.cells (.agg #[(.int .i64 0),(.int .i64 0),(.slice none 0 0),(.int .i64 0),(.int .i64 0)])) (n + m - i)++Builtin.zeroCells (Value.cells (.agg #[(.int .i64 0),(.int .i64 0),(.slice none 0 0),(.int .i64 0),(.int .i64 0)])) (c2 - (n + m))) 49)=w2 at G0 hf ⊢;clear hap hwe hcur3;have hcn:c2 * 5=n * 5 + m * 5 + (c2 - (n + m)) * 5:=by rw[<-HN,<-HN]; congr 1; omega
  obtain⟨nb,hnb⟩:∃q,q=w.heap.size:=⟨_,rfl⟩;rw[<-hnb]at G0 hf;have hn2:b2≠nb:=by omega
  have hng:gb≠nb:=by omega
  have hc1:cutA (some (⟨nb,0,none⟩:Addr)) 5 (i + m) c2=some ⟨nb,0 + (i + m) * 5,none⟩:=ix (by omega);have hc2:cutA (some (⟨nb,0,none⟩:Addr)) 5 i c2=some ⟨nb,0 + i * 5,none⟩:=ix (by omega);have hc3:cutA (some (⟨gb,0,none⟩:Addr)) 5 i cap=some ⟨gb,0 + i * 5,none⟩:=ix (by omega);have hf:=hf.prune [0,1,2,7,8,9] rfl;refine sq (N_ (pr 2 hf rfl rfl λa hf=>U_ rfl (op_q hf (iO hf rfl rfl rfl rfl (eH Tryz.underlying28 TF.sz49 λw=>b_lo (show i<=n + m by omega)) _) rfl (by decide) λa hf=>?_)));rw[hc2]at hf;refine pr 1 hf rfl rfl λa hf=>?_;have hcp2:=jn (P:=prog) (T:=28) (U:=28) (ty:=3) (w:=w2) (s:=5) (o:=0 + i * 5) (dLen:=n + m - i) (dCap:=c2 - i) (sLen:=m) (sCap:=cap2) (p:=⟨b2,0,none⟩) (k:=m) (cs:=vs) Tryz.underlying28 TF.sz49 G0 (by simp only[J8]; split <;> omega) hvl
    (λj u hj=>by
      have:=hvc j u hj
      rw[add_lit]at this ⊢
      rw[G0.other hb2l hn2]; exact this) (by rw[hl3,hvl]; omega) h1v
  refine U_ rfl (ir hf rfl rfl hcp2 (by decide) λa hf=>uc (ua ?_));have G1:=G0.set (P0 cur3.toList (0 + i * 5) vs).toArray;generalize w2.setRow nb (P0 cur3.toList (0 + i * 5) vs).toArray=w3 at G1 hf ⊢;rw[Il,HA]at G1;have hl4:(P0 cur3.toList (i * 5) vs).length=c2 * 5:=by rw[lH (by rw[hl3,hvl]; omega),hl3]
  have hf:=hf.prune [0,1,2,7,8,9] rfl;refine sq (drawn [] (bs:=[false,false,false,false,false,false,false,false,false]) (fuel:=9) (Checked.mixed Tryz.checked) rfl rfl λw4 hb4=>?_);have G2:=G1.below' G1.lt hb4;refine tp 0 rfl rfl hf (by kernel_rfl) (λ_=>trivial) rfl λa hf=>?_;refine tp 1 rfl rfl hf (by kernel_rfl) (λ_=>trivial) rfl λa hf=>?_;refine tp 2 rfl rfl hf (by kernel_rfl) (λ_=>trivial) rfl λa hf=>?_;refine tp 3 rfl rfl hf (by kernel_rfl) (λ_=>trivial) rfl λa hf=>?_;rw[io (show i + m<=1099511627776 by omega)]at hf;refine tP 4 rfl rfl rfl rfl hf (by kernel_rfl) (λ_=>trivial) (λw=>iO hf rfl rfl rfl rfl (eH Tryz.underlying28 TF.sz49 λw=>b_lo (show i + m<=n + m by omega)) w) λa hf=>?_;rw[hc1]at hf;refine tp 5 rfl rfl hf (by kernel_rfl) (λ_=>trivial) rfl λa hf=>?_;refine tp 6 rfl rfl hf (by kernel_rfl) (λ_=>trivial) rfl λa hf=>?_;refine tP 7 rfl rfl rfl rfl hf (by kernel_rfl) (λ_=>trivial) (λw=>iO hf rfl rfl rfl rfl (eH Tryz.underlying28 TF.sz49 λw=>b_lo (show i<=n by omega)) w) λa hf=>?_;rw[hc3]at hf;have hcp1:=jn (P:=prog) (T:=28) (U:=28) (ty:=3) (w:=w4) (s:=5) (o:=0 + (i + m) * 5) (dLen:=n + m - (i + m)) (dCap:=c2 - (i + m)) (sLen:=n - i) (sCap:=cap - i) (p:=⟨gb,0 + i * 5,none⟩) (k:=n - i) (cs:=cells.drop (i * 5)) Tryz.underlying28 TF.sz49 G2 (by simp only[J8]; split <;> omega) hdl
    (λj u hj=>by
      rw[add_lit,G2.other hgl hng]
      have hc:=ho.cells (g:=gb) rfl (i * 5 + j) u (by rw[<-hj,Hl])
      rw[add_lit]at hc
      rw[<-hc]
      congr 2
      omega) (by rw[hl4,hdl]; omega) h1d
  refine n1 8 (by kernel_rfl) rfl rfl (ir hf rfl rfl hcp1 (by decide) λa hf=>?_);refine⟨λ_=>trivial,dn (by kernel_rfl) (ua ?_)⟩;have G3:=G2.set (P0 (P0 cur3.toList (i * 5) vs) (0 + (i + m) * 5) (cells.drop (i * 5))).toArray;generalize w4.setRow nb (P0 (P0 cur3.toList (i * 5) vs) (0 + (i + m) * 5) (cells.drop (i * 5))).toArray=w5 at G3 hf ⊢;rw[Il,HA]at G3;have hf:=hf.prune [0,1,2,7,8,9] rfl;refine sq (N_ (pr 2 hf rfl rfl λa hf=>uc (ua (wp_ret (uh ?_)))));refine zT (fn:=Tryz.f282) (r:=.tmp 6) hf rfl (uL hf rfl) ?_;have hl5:(P0 (P0 cur3.toList (i * 5) vs) ((i + m) * 5) (cells.drop (i * 5))).length=c2 * 5:=by rw[lH (by rw[hl4,hdl]; omega),hl4]
  have htk:(P0 (P0 cur3.toList (i * 5) vs) ((i + m) * 5) (cells.drop (i * 5))).take ((n + m) * 5)=cells.take (i * 5)++(vs++cells.drop (i * 5)):=by
    have h6:=rh (cur:=P0 cur3.toList (i * 5) vs) (o:=(i + m) * 5) (cs:=cells.drop (i * 5)) (by rw[hl4]; omega)
    rw[hdl,show (i + m) * 5 + (n - i) * 5=(n + m) * 5 by omega]at h6
    have h7:=rh (cur:=cur3.toList) (o:=i * 5) (cs:=vs) (by rw[hl3]; omega)
    rw[hvl,<-him]at h7
    rw[h6,h7,ht3,GN]
  refine⟨_,rfl,49,some ⟨nb,0,none⟩,c2,rfl,G3.grown _ (λh=>by omega),.inr ⟨by rw[<-hnb]; rfl,by have:=G3.lt; omega⟩,?_,?_⟩
  · rw[GL,GL,GO,hvl,hdl,hlen]; omega
  refine .inr ⟨nb,c2,(P0 (P0 cur3.toList (i * 5) vs) ((i + m) * 5) (cells.drop (i * 5))).toArray,rfl,IK _,G3.at_,hGge,hGle,by rw[If,hl5],?_⟩;rw[Il,htk]
end AT
