/- The walks of slices.Insert, slices.Delete and their like, by program (gen.py). -/
import Derived.Test.YtlemonjnolciiaaGreatT
import Derived.Test.YtlemonjnolciiaaGreatAtSi
set_option linter.unusedVariables false
set_option linter.unusedSimpArgs false
set_option maxRecDepth 100000
namespace Go.Proofs
open Go Go.Shelf
def Tryz.lay131_ren:Go.Shelf.Ren:=⟨λ| 20=>131 | n=>n,λ| 22=>35 | 3=>3 | 4=>4 | 0=>0 | n=>n,λ| n=>n⟩
theorem Tryz.lay131:Go.Proofs.Lays2.n20 Tryz.prog Tryz.lay131_ren where
  mixed:=by kernel_rfl
  f20:=Tryz.func131.trans (congrArg some (by kernel_rfl))
  t0:=Tryz.underlying0
  a0:=Tryz.isAgg0
  z0:=Tryz.sizeOf0
  v0:=Tryz.zeroValue0
  t3:=Tryz.underlying3
  a3:=Tryz.isAgg3
  z3:=Tryz.sizeOf3
  v3:=Tryz.zeroValue3
  t4:=Tryz.underlying4
  a4:=Tryz.isAgg4
  z4:=Tryz.sizeOf4
  v4:=Tryz.zeroValue4
  t22:=Tryz.underlying35
  a22:=Tryz.isAgg35
  z22:=Tryz.sizeOf35
  v22:=Tryz.zeroValue35
  i3:=by kernel_rfl
def Tryz.lay130_ren:Go.Shelf.Ren:=⟨λ| 189=>130 | 125=>218 | 257=>217 | 128=>280 | 129=>281 | 294=>271 | 295=>272 | 296=>273 | 297=>274 | 298=>275 | 299=>276 | 216=>277 | 300=>278 | 301=>279 | 328=>312 | 329=>313 | 330=>314 | 331=>315 | 332=>316 | 215=>225 | 343=>339 | n=>n,λ| 28=>35 | 3=>3 | 46=>128 | 0=>0 | 51=>202 | 53=>107 | 4=>4 | 183=>269 | 182=>268 | 131=>40 | 5=>5 | 9=>9 | 218=>292 | 222=>296 | 228=>312 | 229=>313 | n=>n,λ| n=>n⟩
theorem Tryz.lay130:Go.Proofs.Lays.n189 Tryz.prog Tryz.lay130_ren where
  mixed:=by kernel_rfl
  f125:=Tryz.func218.trans (congrArg some (by kernel_rfl))
  f128:=Tryz.func280.trans (congrArg some (by kernel_rfl))
  f129:=Tryz.func281.trans (congrArg some (by kernel_rfl))
  f189:=Tryz.func130.trans (congrArg some (by kernel_rfl))
  f215:=Tryz.func225.trans (congrArg some (by kernel_rfl))
  f216:=Tryz.func277.trans (congrArg some (by kernel_rfl))
  f257:=Tryz.func217.trans (congrArg some (by kernel_rfl))
  f294:=Tryz.func271.trans (congrArg some (by kernel_rfl))
  f295:=Tryz.func272.trans (congrArg some (by kernel_rfl))
  f296:=Tryz.func273.trans (congrArg some (by kernel_rfl))
  f297:=Tryz.func274.trans (congrArg some (by kernel_rfl))
  f298:=Tryz.func275.trans (congrArg some (by kernel_rfl))
  f299:=Tryz.func276.trans (congrArg some (by kernel_rfl))
  f300:=Tryz.func278.trans (congrArg some (by kernel_rfl))
  f301:=Tryz.func279.trans (congrArg some (by kernel_rfl))
  f328:=Tryz.func312.trans (congrArg some (by kernel_rfl))
  f329:=Tryz.func313.trans (congrArg some (by kernel_rfl))
  f330:=Tryz.func314.trans (congrArg some (by kernel_rfl))
  f331:=Tryz.func315.trans (congrArg some (by kernel_rfl))
  f332:=Tryz.func316.trans (congrArg some (by kernel_rfl))
  f343:=Tryz.func339.trans (congrArg some (by kernel_rfl))
  t0:=Tryz.underlying0
  a0:=Tryz.isAgg0
  z0:=Tryz.sizeOf0
  v0:=Tryz.zeroValue0
  t3:=Tryz.underlying3
  a3:=Tryz.isAgg3
  z3:=Tryz.sizeOf3
  v3:=Tryz.zeroValue3
  t4:=Tryz.underlying4
  a4:=Tryz.isAgg4
  z4:=Tryz.sizeOf4
  v4:=Tryz.zeroValue4
  t5:=Tryz.underlying5
  a5:=Tryz.isAgg5
  z5:=Tryz.sizeOf5
  v5:=Tryz.zeroValue5
  t9:=Tryz.underlying9
  a9:=Tryz.isAgg9
  z9:=Tryz.sizeOf9
  v9:=Tryz.zeroValue9
  t28:=Tryz.underlying35
  a28:=Tryz.isAgg35
  z28:=Tryz.sizeOf35
  v28:=Tryz.zeroValue35
  t46:=Tryz.underlying128
  a46:=Tryz.isAgg128
  z46:=Tryz.sizeOf128
  v46:=Tryz.zeroValue128
  t51:=Tryz.underlying202
  a51:=Tryz.isAgg202
  z51:=Tryz.sizeOf202
  v51:=Tryz.zeroValue202
  t53:=Tryz.underlying107
  a53:=Tryz.isAgg107
  z53:=Tryz.sizeOf107
  v53:=Tryz.zeroValue107
  t131:=Tryz.underlying40
  a131:=Tryz.isAgg40
  z131:=Tryz.sizeOf40
  v131:=Tryz.zeroValue40
  t182:=Tryz.underlying268
  a182:=Tryz.isAgg268
  z182:=Tryz.sizeOf268
  v182:=Tryz.zeroValue268
  t183:=Tryz.underlying269
  a183:=Tryz.isAgg269
  z183:=Tryz.sizeOf269
  v183:=Tryz.zeroValue269
  t218:=Tryz.underlying292
  a218:=Tryz.isAgg292
  z218:=Tryz.sizeOf292
  v218:=Tryz.zeroValue292
  t222:=Tryz.underlying296
  a222:=Tryz.isAgg296
  z222:=Tryz.sizeOf296
  v222:=Tryz.zeroValue296
  t228:=Tryz.underlying312
  a228:=Tryz.isAgg312
  z228:=Tryz.sizeOf312
  v228:=Tryz.zeroValue312
  t229:=Tryz.underlying313
  a229:=Tryz.isAgg313
  z229:=Tryz.sizeOf313
  v229:=Tryz.zeroValue313
def Tryz.lay322_ren:Go.Shelf.Ren:=⟨λ| 6=>322 | 15=>218 | 14=>341 | 28=>280 | 29=>281 | 20=>353 | 21=>354 | 22=>355 | 23=>356 | 24=>357 | 25=>358 | 26=>359 | 27=>360 | 46=>363 | 47=>313 | 48=>314 | 49=>364 | 50=>365 | 57=>368 | n=>n,λ| 22=>230 | 24=>45 | 25=>302 | 3=>3 | 39=>128 | 0=>0 | 53=>202 | 55=>107 | 4=>4 | 46=>269 | 45=>268 | 50=>40 | 5=>5 | 9=>9 | 66=>292 | 70=>296 | 76=>312 | 77=>313 | n=>n,λ| n=>n⟩
theorem Tryz.lay322:Go.Proofs.SlLaysF0.n6 Tryz.prog Tryz.lay322_ren where
  mixed:=by kernel_rfl
  f6:=⟨Tryz.f322.name,by kernel_rfl,Tryz.func322.trans (congrArg some (by kernel_rfl))⟩
  f14:=⟨Tryz.f341.name,by kernel_rfl,Tryz.func341.trans (congrArg some (by kernel_rfl))⟩
  f15:=Tryz.func218.trans (congrArg some (by kernel_rfl))
  f20:=⟨Tryz.f353.name,by kernel_rfl,Tryz.func353.trans (congrArg some (by kernel_rfl))⟩
  f21:=⟨Tryz.f354.name,by kernel_rfl,Tryz.func354.trans (congrArg some (by kernel_rfl))⟩
  f22:=⟨Tryz.f355.name,by kernel_rfl,Tryz.func355.trans (congrArg some (by kernel_rfl))⟩
  f23:=⟨Tryz.f356.name,by kernel_rfl,Tryz.func356.trans (congrArg some (by kernel_rfl))⟩
  f24:=⟨Tryz.f357.name,by kernel_rfl,Tryz.func357.trans (congrArg some (by kernel_rfl))⟩
  f25:=⟨Tryz.f358.name,by kernel_rfl,Tryz.func358.trans (congrArg some (by kernel_rfl))⟩
  f26:=⟨Tryz.f359.name,by kernel_rfl,Tryz.func359.trans (congrArg some (by kernel_rfl))⟩
  f27:=⟨Tryz.f360.name,by kernel_rfl,Tryz.func360.trans (congrArg some (by kernel_rfl))⟩
  f28:=Tryz.func280.trans (congrArg some (by kernel_rfl))
  f29:=Tryz.func281.trans (congrArg some (by kernel_rfl))
  f46:=⟨Tryz.f363.name,by kernel_rfl,Tryz.func363.trans (congrArg some (by kernel_rfl))⟩
  f47:=Tryz.func313.trans (congrArg some (by kernel_rfl))
  f48:=Tryz.func314.trans (congrArg some (by kernel_rfl))
  f49:=⟨Tryz.f364.name,by kernel_rfl,Tryz.func364.trans (congrArg some (by kernel_rfl))⟩
  f50:=⟨Tryz.f365.name,by kernel_rfl,Tryz.func365.trans (congrArg some (by kernel_rfl))⟩
  f57:=⟨Tryz.f368.name,by kernel_rfl,Tryz.func368.trans (congrArg some (by kernel_rfl))⟩
  t0:=Tryz.underlying0
  a0:=Tryz.isAgg0
  z0:=Tryz.sizeOf0
  v0:=Tryz.zeroValue0
  t3:=Tryz.underlying3
  a3:=Tryz.isAgg3
  z3:=Tryz.sizeOf3
  v3:=Tryz.zeroValue3
  t4:=Tryz.underlying4
  a4:=Tryz.isAgg4
  z4:=Tryz.sizeOf4
  v4:=Tryz.zeroValue4
  t5:=Tryz.underlying5
  a5:=Tryz.isAgg5
  z5:=Tryz.sizeOf5
  v5:=Tryz.zeroValue5
  t9:=Tryz.underlying9
  a9:=Tryz.isAgg9
  z9:=Tryz.sizeOf9
  v9:=Tryz.zeroValue9
  t22:=Tryz.underlying230
  a22:=Tryz.isAgg230
  z22:=Tryz.sizeOf230
  v22:=Tryz.zeroValue230
  t25:=Tryz.underlying302
  a25:=Tryz.isAgg302
  z25:=Tryz.sizeOf302
  v25:=Tryz.zeroValue302
  t39:=Tryz.underlying128
  a39:=Tryz.isAgg128
  z39:=Tryz.sizeOf128
  v39:=Tryz.zeroValue128
  t45:=Tryz.underlying268
  a45:=Tryz.isAgg268
  z45:=Tryz.sizeOf268
  v45:=Tryz.zeroValue268
  t46:=Tryz.underlying269
  a46:=Tryz.isAgg269
  z46:=Tryz.sizeOf269
  v46:=Tryz.zeroValue269
  t50:=Tryz.underlying40
  a50:=Tryz.isAgg40
  z50:=Tryz.sizeOf40
  v50:=Tryz.zeroValue40
  t53:=Tryz.underlying202
  a53:=Tryz.isAgg202
  z53:=Tryz.sizeOf202
  v53:=Tryz.zeroValue202
  t55:=Tryz.underlying107
  a55:=Tryz.isAgg107
  z55:=Tryz.sizeOf107
  v55:=Tryz.zeroValue107
  t66:=Tryz.underlying292
  a66:=Tryz.isAgg292
  z66:=Tryz.sizeOf292
  v66:=Tryz.zeroValue292
  t70:=Tryz.underlying296
  a70:=Tryz.isAgg296
  z70:=Tryz.sizeOf296
  v70:=Tryz.zeroValue296
  t76:=Tryz.underlying312
  a76:=Tryz.isAgg312
  z76:=Tryz.sizeOf312
  v76:=Tryz.zeroValue312
  t77:=Tryz.underlying313
  a77:=Tryz.isAgg313
  z77:=Tryz.sizeOf313
  v77:=Tryz.zeroValue313
end Go.Proofs
namespace AT
open Go Go.RowKit Go.Proofs
set_option maxHeartbeats 1000000 in
theorem mt:pE Tryz.prog 216 3 1:=by
  intro w n hn;obtain⟨inf,hinf,hpr⟩:=Ed.1 TF.ai3;simp only[EK]at hpr;obtain⟨hz1,hz2,hz3⟩:=hpr;refine enter Tryz.func216 rfl rfl (nle rfl) rfl λa hf=>?_;refine sq (reg (pr 1 hf rfl rfl λa hf=>ub (ua ?_)));refine sq (sq (reg (pr 2 hf rfl rfl λa hf=>ub (ua ?_))));refine cd_f hf rfl (by simp) (wp_skip (ua ?_));refine sq (sq (reg (pr 2 hf rfl rfl λa hf=>wl0 rfl (op_q hf (q5 hf Tryz.underlying35 rfl _) rfl (by decide) λa hf=>pr 5 hf rfl rfl λa hf=>ub (ua ?_)))));have hw:w64 ((n:Int) - w64 (((0:Nat):Int) - ((0:Nat):Int)))=(n:Int):=by
    have:w64 (((0:Nat):Int) - ((0:Nat):Int))=0:=by decide
    rw[this,vt (by omega) (by omega)]; omega
  rw[hw]at hf;clear hw;have hf:=hf.prune [0,1] rfl;refine sq (reg (pr 2 hf rfl rfl λa hf=>ub (ua ?_)));by_cases h0:n=0
  · subst h0
    refine cd_f hf rfl (by simp) (wp_skip (ua ?_))
    refine sq (reg (pr 2 hf rfl rfl λa hf=>ub (ua (wp_ret ?_))))
    refine xO (fn:=Tryz.f216) (r:=.tmp 4) hf rfl (uL hf rfl) ?_
    exact⟨_,rfl,.inl ⟨rfl,rfl⟩⟩
  refine cd_t hf rfl (by simp; omega) ?_;have hold:(Builtin.firstCells inf.size 0 (.slice none 0 0)).run Tryz.prog w.drew=.ok ([]:List Value).toArray w.drew:=rfl;have hap:=Lib.run_append_grow_zeros (P:=Tryz.prog) w 35 3 35 3 inf _ .i64 _ Tryz.underlying35 Tryz.underlying3 hinf hz1 none 0 0 [] hold n (by omega) (by rw[hz2]; decide) (by omega) (by omega) (by rw[hz3]; omega) (growslice_fits (by omega) (by rw[hz3]; omega));rw[Ey]at hap;have hGge:=grownCap_ge w n 0 3;have hGle:=grownCap_le_maxLen w n 0 3 (by simp only[maxLen]; omega);generalize grownCap w n 0 3=c2 at hap hGge hGle;have hcn:cutA none 1 0 0=none:=rfl;refine reg (pr 2 hf rfl rfl λa hf=>wl0 rfl (op_q hf (q5 hf Tryz.underlying35 rfl _) rfl (by decide) λa hf=>wl0 rfl (op_q hf (dA hf rfl rfl rfl rfl (bE Tryz.underlying35 TF.sz3 λw=>b_hi (D3 0)) _) rfl (by decide) λa hf=>pr 1 hf rfl rfl λa hf=>?_)));rw[hcn]at hf;refine wl0 rfl (mX hf rfl rfl hap (by decide) λa hf=>pr 2 hf rfl rfl λa hf=>?_);have hcz:cutA (some (⟨w.heap.size,0,none⟩:Addr)) 1 0 c2=some ⟨w.heap.size,0,none⟩:=jI λp h=>by injection h with h; subst h; rfl
  refine wl0 rfl (op_q hf (dA hf rfl rfl rfl rfl (bE Tryz.underlying35 TF.sz3 λw=>b_hi (Fu c2)) _) rfl (by decide) λa hf=>?_);rw[hcz,Fz,Fz]at hf;refine pr 1 hf rfl rfl λa hf=>ub (ua ?_);refine sq (reg (pr 2 hf rfl rfl λa hf=>ub (ua (wp_ret ?_))));refine xO (fn:=Tryz.f216) (r:=.tmp 4) hf rfl (uL hf rfl) ?_;refine⟨_,rfl,.inr ⟨c2,(([]:List Value).toArray++Builtin.zeroCells (Value.cells (.int .i64 0)) n++Builtin.zeroCells (Value.cells (.int .i64 0)) (c2 - n)).toList,rfl,by rw[FSq],?_,hGle⟩⟩;rw[El,Gj,Gj,size_zeroCells,size_zeroCells,show (Value.cells (.int .i64 0)).size=1 from rfl,Fe,EY,Ey,←Fg];congr 1;omega
set_option maxHeartbeats 2000000 in
theorem nf:sH Tryz.prog 282 5:=by
  intro w A A2 n cap m cap2 E0 E2 cells vs i ho hov h1 h1v hne hin hbig;have hlen:=ho.1;have hvl:=hov.1;have hnc:n≤cap∧cap≤maxLen:=by
    rcases ho.2 with ⟨hv,h0⟩ | ⟨gb,cap',cur,hv,hb,hg,hl,hm,hsz,ht⟩
    · simp only[Value.slice.injEq]at hv
      obtain⟨-,-,rfl⟩:=hv
      exact⟨by omega,by simp [maxLen]⟩
    simp only[Value.slice.injEq]at hv
    obtain⟨-,-,rfl⟩:=hv
    exact⟨hl,hm⟩
  obtain⟨hnc,hcm⟩:=hnc;have hxl:maxLen≤9223372036854775807:=by simp [maxLen]
  have hins:i * 5≤n * 5:=D5 _ hin;obtain⟨inf,hinf,hpr⟩:=Ed.1 TF.ai49;simp only[EK]at hpr;obtain⟨hz1,hz2,hz3⟩:=hpr;refine enter Tryz.func282 rfl rfl (nle rfl) rfl λa hf=>?_;refine sq (reg (pr 1 hf rfl rfl λa hf=>ub (ua ?_)));refine sq (reg (pr 2 hf rfl rfl λa hf=>wl0 rfl (op_q hf (dA hf rfl rfl rfl rfl (bE Tryz.underlying28 TF.sz49 λw=>b_lo hin) _) rfl (by decide) λa hf=>ub (ua ?_))));refine sq (reg (pr 3 hf rfl rfl λa hf=>ub (ua ?_)));refine sq (sq (reg (pr 2 hf rfl rfl λa hf=>ub (ua ?_))));by_cases hm0:m=0
  · subst hm0
    refine cd_t hf rfl (by simp) ?_
    refine sq (reg (pr 2 hf rfl rfl λa hf=>ub (ua (wp_ret (uf ?_)))))
    refine xO (fn:=Tryz.f282) (r:=.tmp 6) hf rfl (uL hf rfl) ?_
    have hv0:vs=[]:=EU (by omega)
    subst hv0
    refine⟨_,rfl,E0,A,cap,rfl,⟨⟨rfl,rfl,rfl,D3 _,λ_ _ _=>rfl⟩,D3 _⟩,.inl (by cases A <;> rfl),?_⟩
    rw[Ek,Fp]
    exact ho
  refine cd_f hf rfl (by simp; omega) (wp_skip (ua ?_));obtain⟨b2,cap2',cur2,hv2,hb2,hg2,hl2,hm2,hsz2,ht2⟩:∃b2 cap2' cur2,(Value.slice A2 m cap2)=.slice (some ⟨b2,0,none⟩) m cap2'∧0≤b2∧w.heap[b2]?=some (.cells cur2 E2 (0,0))∧m≤cap2'∧cap2'≤maxLen∧cur2.size=cap2' * 5∧cur2.toList.take (m * 5)=vs:=by
    rcases hov.2 with ⟨_,h0⟩ | h
    · exact absurd h0 hm0
    exact h
  simp only[Value.slice.injEq]at hv2;obtain⟨rfl,-,rfl⟩:=hv2;have hb2l:b2<w.heap.size:=(ES.1 hg2).1;have hvc:∀j u,vs[j]?=some u→w.cell? ((⟨b2,0,none⟩:Addr).add j)=some u:=hov.cells (g:=b2) rfl;have hf:=hf.prune [0,1,2,7] rfl;refine sq (reg (pr 3 hf rfl rfl λa hf=>ub (ua ?_)));refine sq (sq (reg (pr 3 hf rfl rfl λa hf=>ub (ua ?_))));by_cases hie:i=n
  · subst hie
    refine cd_t hf rfl (by simp) ?_
    refine sq (reg (pr 2 hf rfl rfl λa hf=>?_))
    obtain⟨e1,v',w',hr,g1,g2,g3⟩:=gF (P:=Tryz.prog) w 28 28 49 E0 inf _ 5 inf.bytes Tryz.underlying28 hinf hz1 hz2 rfl rfl (by decide) _ i cells ho ⟨b2,0,none⟩ m cap2 vs hvl hvc h1v (by simp only[maxLen]; omega) (by rw[hz3]; omega)
    refine wl0 rfl (dm hf rfl rfl hr (by decide) λa hf=>?_)
    refine pr 1 hf rfl rfl λa hf=>ub (ua (wp_ret (uf ?_)))
    refine xO (fn:=Tryz.f282) (r:=.tmp 6) hf rfl (uL hf rfl) ?_
    have hform:∃A1 cap1,v'=.slice A1 (i + m) cap1:=by
      rcases g1.2 with ⟨rfl,h0⟩ | ⟨b,cap',cur,rfl,_⟩
      · exact⟨none,0,by rw[h0]⟩
      exact⟨some ⟨b,0,none⟩,cap',rfl⟩
    obtain⟨A1,cap1,rfl⟩:=hform
    refine⟨_,rfl,e1,A1,cap1,rfl,g2,g3.imp id λh=>⟨h,(g1.lt _ h).2⟩,?_⟩
    rw[←hlen,Hi,Ea,D1]
    exact g1
  have hilt:i<n:=by omega
  refine cd_f hf rfl (by simp; omega) (wp_skip (ua ?_));obtain⟨gb,cap',cur,hv,hb,hg,hl,hm,hsz,ht⟩:∃gb cap' cur,(Value.slice A n cap)=.slice (some ⟨gb,0,none⟩) n cap'∧0≤gb∧w.heap[gb]?=some (.cells cur E0 (0,0))∧n≤cap'∧cap'≤maxLen∧cur.size=cap' * 5∧cur.toList.take (n * 5)=cells:=by
    rcases ho.2 with ⟨_,h0⟩ | h
    · omega
    exact h
  simp only[Value.slice.injEq]at hv;obtain⟨rfl,-,rfl⟩:=hv;have hgl:gb<w.heap.size:=(ES.1 hg).1;have hbg:b2≠gb:=λe=>hne gb rfl (by rw[e]; rfl);have hcl:cur.toList.length=cap * 5:=by rw[El,hsz]
  have hns:n * 5≤cap * 5:=D5 _ hnc;have hni:(n - i) * 5=n * 5 - i * 5:=Hs _ _ _;have hdl:(cells.drop (i * 5)).length=(n - i) * 5:=by rw[Er,hlen,hni]
  have h1d:∀u∈cells.drop (i * 5),u.oneCell'=true:=λu hu=>h1 u (FU hu);have him:(i + m) * 5=i * 5 + m * 5:=Fg _ _ _;have hnm:(n + m) * 5=n * 5 + m * 5:=Fg _ _ _;have hcz:∀c,cutA (some (⟨gb,0,none⟩:Addr)) 5 0 c=some ⟨gb,0,none⟩:=λc=>jI λp h=>by injection h with h; subst h; rfl
  have hf:=hf.prune [0,1,2,7,8] rfl;refine sq (sq (reg (pr 4 hf rfl rfl λa hf=>wl0 rfl (op_q hf (q5 hf Tryz.underlying28 rfl _) rfl (by decide) λa hf=>pr 1 hf rfl rfl λa hf=>ub (ua ?_)))));rw[ga (show n + m≤1099511627776 from hbig)]at hf;by_cases hroom:n + m≤cap
  · refine cd_f hf rfl (by simp; omega) (wp_skip (ua ?_))
    have hnmc:(n + m) * 5≤cap * 5:=D5 _ hroom
    have hf:=hf.prune [0,1,2,7,8] rfl
    refine sq (reg (pr 4 hf rfl rfl λa hf=>?_))
    rw[ga (show n + m≤1099511627776 from hbig)]at hf
    refine wl0 rfl (op_q hf (dA hf rfl rfl rfl rfl (bE Tryz.underlying28 TF.sz49 λw=>b_hi hroom) _) rfl (by decide) λa hf=>pr 1 hf rfl rfl λa hf=>ub (ua ?_))
    rw[hcz,Fz,Fz]at hf
    have hf:=hf.prune [0,1,2,7,8] rfl
    refine sq (sq (reg (pr 5 hf rfl rfl λa hf=>?_)))
    rw[ga (show i + m≤1099511627776 by omega)]at hf
    have hc1:cutA (some (⟨gb,0,none⟩:Addr)) 5 (i + m) cap=some ⟨gb,0 + (i + m) * 5,none⟩:=fp (by omega)
    have hc2:cutA (some (⟨gb,0,none⟩:Addr)) 5 i cap=some ⟨gb,0 + i * 5,none⟩:=fp (by omega)
    refine wl0 rfl (op_q hf (dA hf rfl rfl rfl rfl (bE Tryz.underlying28 TF.sz49 λw=>b_lo (show i + m≤n + m by omega)) _) rfl (by decide) λa hf=>?_)
    rw[hc1]at hf
    refine wl0 rfl (op_q hf (AP hf rfl (sA (P:=Tryz.prog) (T:=28) (TR:=4) (E:=49) (s:=5) Tryz.func317 (by kernel_rfl) (by kernel_rfl) (by kernel_rfl) (by kernel_rfl) Tryz.underlying28 TF.sz49 hbg hg2 hg (by omega))) rfl (by decide) λa hf=>pr 1 hf rfl rfl λa hf=>ub (ua ?_))
    refine cd_t hf rfl rfl ?_
    have hf:=hf.prune [0,1,2,7,8] rfl
    refine sq (drawn [] (bs:=[false,false,false,false,false,false,false,false,false]) (fuel:=9) (Checked.mixed Tryz.checked) rfl rfl λw1 hb1=>?_)
    have G1:=(GS.start hg).below hgl hb1
    refine tp 0 rfl rfl hf (by kernel_rfl) (λ_=>trivial) rfl λa hf=>?_
    refine tp 1 rfl rfl hf (by kernel_rfl) (λ_=>trivial) rfl λa hf=>?_
    refine tp 2 rfl rfl hf (by kernel_rfl) (λ_=>trivial) rfl λa hf=>?_
    refine tp 3 rfl rfl hf (by kernel_rfl) (λ_=>trivial) rfl λa hf=>?_
    rw[ga (show i + m≤1099511627776 by omega)]at hf
    refine tP 4 rfl rfl rfl rfl hf (by kernel_rfl) (λ_=>trivial) (λw=>dA hf rfl rfl rfl rfl (bE Tryz.underlying28 TF.sz49 λw=>b_lo (show i + m≤n + m by omega)) w) λa hf=>?_
    rw[hc1]at hf
    refine tp 5 rfl rfl hf (by kernel_rfl) (λ_=>trivial) rfl λa hf=>?_
    refine tp 6 rfl rfl hf (by kernel_rfl) (λ_=>trivial) rfl λa hf=>?_
    refine tP 7 rfl rfl rfl rfl hf (by kernel_rfl) (λ_=>trivial) (λw=>dA hf rfl rfl rfl rfl (bE Tryz.underlying28 TF.sz49 λw=>b_lo (show i≤n + m by omega)) w) λa hf=>?_
    rw[hc2]at hf
    have hcp1:=ij (P:=Tryz.prog) (T:=28) (U:=28) (ty:=3) (w:=w1) (s:=5) (o:=0 + (i + m) * 5) (dLen:=n + m - (i + m)) (dCap:=cap - (i + m)) (sLen:=n + m - i) (sCap:=cap - i) (p:=⟨gb,0 + i * 5,none⟩) (k:=n - i) (cs:=cells.drop (i * 5)) Tryz.underlying28 TF.sz49 G1 (by simp only[Hr]; split <;> omega) hdl
      (λj u hj=>by
        have:=(DK.1 hj).1
        rw[add_lit,G1.cell,←hj,Em,←ht,Ey,D8 (by omega)]) (by rw[hcl,hdl]; omega) h1d
    refine n1 8 (by kernel_rfl) rfl rfl (gi hf rfl rfl hcp1 (by decide) λa hf=>?_)
    refine⟨λ_=>trivial,dn (by kernel_rfl) (ua ?_)⟩
    have G2:=G1.set (lay cur.toList (0 + (i + m) * 5) (cells.drop (i * 5))).toArray
    generalize w1.setRow gb (lay cur.toList (0 + (i + m) * 5) (cells.drop (i * 5))).toArray=w2 at G2 hf ⊢
    rw[EE,Ey]at G2
    have hl2:(lay cur.toList ((i + m) * 5) (cells.drop (i * 5))).length=cap * 5:=by rw[gQ (by rw[hcl,hdl]; omega),hcl]
    have hf:=hf.prune [0,1,2,7,8] rfl
    refine sq (reg (pr 2 hf rfl rfl λa hf=>wl0 rfl (op_q hf (dA hf rfl rfl rfl rfl (bE Tryz.underlying28 TF.sz49 λw=>b_lo (show i≤n + m by omega)) _) rfl (by decide) λa hf=>?_)))
    rw[hc2]at hf
    refine pr 1 hf rfl rfl λa hf=>?_
    have hcp2:=ij (P:=Tryz.prog) (T:=28) (U:=28) (ty:=3) (w:=w2) (s:=5) (o:=0 + i * 5) (dLen:=n + m - i) (dCap:=cap - i) (sLen:=m) (sCap:=cap2) (p:=⟨b2,0,none⟩) (k:=m) (cs:=vs) Tryz.underlying28 TF.sz49 G2 (by simp only[Hr]; split <;> omega) hvl
      (λj u hj=>by
        have:=hvc j u hj
        rw[add_lit]at this ⊢
        rw[G2.other hb2l hbg]; exact this) (by rw[hl2,hvl]; omega) h1v
    refine wl0 rfl (gi hf rfl rfl hcp2 (by decide) λa hf=>ub (ua ?_))
    have G3:=G2.set (lay (lay cur.toList ((i + m) * 5) (cells.drop (i * 5))) (0 + i * 5) vs).toArray
    generalize w2.setRow gb (lay (lay cur.toList ((i + m) * 5) (cells.drop (i * 5))) (0 + i * 5) vs).toArray=w3 at G3 hf ⊢
    rw[EE,Ey]at G3
    refine sq (reg (pr 2 hf rfl rfl λa hf=>ub (ua (wp_ret (uf ?_)))))
    refine xO (fn:=Tryz.f282) (r:=.tmp 6) hf rfl (uL hf rfl) ?_
    have hl3:(lay (lay cur.toList ((i + m) * 5) (cells.drop (i * 5))) (i * 5) vs).length=cap * 5:=by rw[gQ (by rw[hl2,hvl]; omega),hl2]
    have htk:(lay (lay cur.toList ((i + m) * 5) (cells.drop (i * 5))) (i * 5) vs).take ((n + m) * 5)=cells.take (i * 5)++(vs++cells.drop (i * 5)):=by
      have:=Af (cur:=cur.toList) (o:=i * 5) (vs:=vs) (cs:=cells.drop (i * 5)) (by rw[hvl,hdl,hcl]; omega)
      rw[hvl,hdl,show i * 5 + m * 5 + (n - i) * 5=(n + m) * 5 by omega,←him]at this
      rw[this,←ht,Ft,ER (by omega)]
    refine⟨_,rfl,E0,some ⟨gb,0,none⟩,cap,rfl,G3.grown _ (λ_=>rfl),.inl rfl,?_,?_⟩
    · rw[DR,DR,DO,hvl,hdl,hlen]; omega
    refine .inr ⟨gb,cap,(lay (lay cur.toList ((i + m) * 5) (cells.drop (i * 5))) (i * 5) vs).toArray,rfl,Fu _,G3.at_,hroom,hm,by rw[Fe,hl3],?_⟩
    rw[EE,htk]
  refine cd_t hf rfl (by simp; omega) ?_;have hf:=hf.prune [0,1,2,7,8] rfl;refine sq (reg (pr 2 hf rfl rfl λa hf=>wl0 rfl (op_q hf (dA hf rfl rfl rfl rfl (bE Tryz.underlying28 TF.sz49 λw=>b_hi (show i≤cap by omega)) _) rfl (by decide) λa hf=>pr 5 hf rfl rfl λa hf=>?_)));rw[ga (show n + m≤1099511627776 from hbig),sM (show i≤n + m by omega) (show n + m≤1099511627776 from hbig),hcz,Fz,Fz]at hf;have hold:(Builtin.firstCells inf.size i (.slice (some ⟨gb,0,none⟩) i cap)).run Tryz.prog w.drew=.ok (cells.take (i * 5)).toArray w.drew:=by
    rw[hz2]
    refine run_firstCells_some (P:=Tryz.prog) w.drew 5 i ⟨gb,0,none⟩ i cap (cells.take (i * 5)) (by rw[DO,hlen]; omega) λj u hj=>?_
    have hj':=(DK.1 hj).1
    rw[DO]at hj'
    rw[D8 (by omega)]at hj
    exact ho.cells (g:=gb) rfl j u hj
  have hap:=Lib.run_append_grow_zeros (P:=Tryz.prog) w 28 3 28 49 inf _ .i64 _ Tryz.underlying28 Tryz.underlying3 hinf hz1 (some ⟨gb,0,none⟩) i cap (cells.take (i * 5)) hold (n + m - i) (by omega) (by rw[hz2]; decide) (by omega) (by omega) (by rw[hz3]; omega) (growslice_fits (by omega) (by rw[hz3]; omega));rw[show i + (n + m - i)=n + m by omega]at hap;have hGge:=grownCap_ge w (n + m) cap 49;have hGle:=grownCap_le_maxLen w (n + m) cap 49 (by simp only[maxLen]; omega);generalize grownCap w (n + m) cap 49=c2 at hap hGge hGle;refine wl0 rfl (mX hf rfl rfl hap (by decide) λa hf=>pr 1 hf rfl rfl λa hf=>ub (ua ?_));obtain⟨cur3,hcur3⟩:∃c:Array Value,c=(cells.take (i * 5)).toArray++Builtin.zeroCells (Value.cells (.agg #[(.int .i64 0),(.int .i64 0),(.slice none 0 0),(.int .i64 0),(.int .i64 0)])) (n + m - i)++Builtin.zeroCells (Value.cells (.agg #[(.int .i64 0),(.int .i64 0),(.slice none 0 0),(.int .i64 0),(.int .i64 0)])) (c2 - (n + m)):=⟨_,rfl⟩;have hl3:cur3.toList.length=c2 * 5:=by
    rw[hcur3,El,Gj,Gj,size_zeroCells,size_zeroCells,Fe,DO,hlen,show (Value.cells (.agg #[(.int .i64 0),(.int .i64 0),(.slice none 0 0),(.int .i64 0),(.int .i64 0)])).size=5 from rfl,ER hins,←Fg,←Fg]
    congr 1
    omega
  have ht3:cur3.toList.take (i * 5)=cells.take (i * 5):=by
    rw[hcur3,GQ,GQ,DD,EM (by rw[EE,DO,hlen]; omega),EE,Ft,Nat.min_self]
  have G0:=GS.alloc w cur3 49;have hwe:w.drew.alloc (.cells cur3 49)=w.drew.alloc (.cells ((cells.take (i * 5)).toArray++Builtin.zeroCells (Value.cells (.agg #[(.int .i64 0),(.int .i64 0),(.slice none 0 0),(.int .i64 0),(.int .i64 0)])) (n + m - i)++Builtin.zeroCells (Value.cells (.agg #[(.int .i64 0),(.int .i64 0),(.slice none 0 0),(.int .i64 0),(.int .i64 0)])) (c2 - (n + m))) 49):=by rw[hcur3]
  rw[hwe]at G0;generalize w.drew.alloc (.cells ((cells.take (i * 5)).toArray++Builtin.zeroCells (Value.cells (.agg #[(.int .i64 0),(.int .i64 0),(.slice none 0 0),(.int .i64 0),(.int .i64 0)])) (n + m - i)++Builtin.zeroCells (Value.cells (.agg #[(.int .i64 0),(.int .i64 0),(.slice none 0 0),(.int .i64 0),(.int .i64 0)])) (c2 - (n + m))) 49)=w2 at G0 hf ⊢;clear hap hwe hcur3;have hcn:c2 * 5=n * 5 + m * 5 + (c2 - (n + m)) * 5:=by rw[←Fg,←Fg]; congr 1; omega
  obtain⟨nb,hnb⟩:∃q,q=w.heap.size:=⟨_,rfl⟩;rw[←hnb]at G0 hf;have hn2:b2≠nb:=by omega
  have hng:gb≠nb:=by omega
  have hc1:cutA (some (⟨nb,0,none⟩:Addr)) 5 (i + m) c2=some ⟨nb,0 + (i + m) * 5,none⟩:=fp (by omega);have hc2:cutA (some (⟨nb,0,none⟩:Addr)) 5 i c2=some ⟨nb,0 + i * 5,none⟩:=fp (by omega);have hc3:cutA (some (⟨gb,0,none⟩:Addr)) 5 i cap=some ⟨gb,0 + i * 5,none⟩:=fp (by omega);have hf:=hf.prune [0,1,2,7,8,9] rfl;refine sq (reg (pr 2 hf rfl rfl λa hf=>wl0 rfl (op_q hf (dA hf rfl rfl rfl rfl (bE Tryz.underlying28 TF.sz49 λw=>b_lo (show i≤n + m by omega)) _) rfl (by decide) λa hf=>?_)));rw[hc2]at hf;refine pr 1 hf rfl rfl λa hf=>?_;have hcp2:=ij (P:=Tryz.prog) (T:=28) (U:=28) (ty:=3) (w:=w2) (s:=5) (o:=0 + i * 5) (dLen:=n + m - i) (dCap:=c2 - i) (sLen:=m) (sCap:=cap2) (p:=⟨b2,0,none⟩) (k:=m) (cs:=vs) Tryz.underlying28 TF.sz49 G0 (by simp only[Hr]; split <;> omega) hvl
    (λj u hj=>by
      have:=hvc j u hj
      rw[add_lit]at this ⊢
      rw[G0.other hb2l hn2]; exact this) (by rw[hl3,hvl]; omega) h1v
  refine wl0 rfl (gi hf rfl rfl hcp2 (by decide) λa hf=>ub (ua ?_));have G1:=G0.set (lay cur3.toList (0 + i * 5) vs).toArray;generalize w2.setRow nb (lay cur3.toList (0 + i * 5) vs).toArray=w3 at G1 hf ⊢;rw[EE,Ey]at G1;have hl4:(lay cur3.toList (i * 5) vs).length=c2 * 5:=by rw[gQ (by rw[hl3,hvl]; omega),hl3]
  have hf:=hf.prune [0,1,2,7,8,9] rfl;refine sq (drawn [] (bs:=[false,false,false,false,false,false,false,false,false]) (fuel:=9) (Checked.mixed Tryz.checked) rfl rfl λw4 hb4=>?_);have G2:=G1.below' G1.lt hb4;refine tp 0 rfl rfl hf (by kernel_rfl) (λ_=>trivial) rfl λa hf=>?_;refine tp 1 rfl rfl hf (by kernel_rfl) (λ_=>trivial) rfl λa hf=>?_;refine tp 2 rfl rfl hf (by kernel_rfl) (λ_=>trivial) rfl λa hf=>?_;refine tp 3 rfl rfl hf (by kernel_rfl) (λ_=>trivial) rfl λa hf=>?_;rw[ga (show i + m≤1099511627776 by omega)]at hf;refine tP 4 rfl rfl rfl rfl hf (by kernel_rfl) (λ_=>trivial) (λw=>dA hf rfl rfl rfl rfl (bE Tryz.underlying28 TF.sz49 λw=>b_lo (show i + m≤n + m by omega)) w) λa hf=>?_;rw[hc1]at hf;refine tp 5 rfl rfl hf (by kernel_rfl) (λ_=>trivial) rfl λa hf=>?_;refine tp 6 rfl rfl hf (by kernel_rfl) (λ_=>trivial) rfl λa hf=>?_;refine tP 7 rfl rfl rfl rfl hf (by kernel_rfl) (λ_=>trivial) (λw=>dA hf rfl rfl rfl rfl (bE Tryz.underlying28 TF.sz49 λw=>b_lo (show i≤n by omega)) w) λa hf=>?_;rw[hc3]at hf;have hcp1:=ij (P:=Tryz.prog) (T:=28) (U:=28) (ty:=3) (w:=w4) (s:=5) (o:=0 + (i + m) * 5) (dLen:=n + m - (i + m)) (dCap:=c2 - (i + m)) (sLen:=n - i) (sCap:=cap - i) (p:=⟨gb,0 + i * 5,none⟩) (k:=n - i) (cs:=cells.drop (i * 5)) Tryz.underlying28 TF.sz49 G2 (by simp only[Hr]; split <;> omega) hdl
    (λj u hj=>by
      rw[add_lit,G2.other hgl hng]
      have hc:=ho.cells (g:=gb) rfl (i * 5 + j) u (by rw[←hj,Em])
      rw[add_lit]at hc
      rw[←hc]
      congr 2
      omega) (by rw[hl4,hdl]; omega) h1d
  refine n1 8 (by kernel_rfl) rfl rfl (gi hf rfl rfl hcp1 (by decide) λa hf=>?_);refine⟨λ_=>trivial,dn (by kernel_rfl) (ua ?_)⟩;have G3:=G2.set (lay (lay cur3.toList (i * 5) vs) (0 + (i + m) * 5) (cells.drop (i * 5))).toArray;generalize w4.setRow nb (lay (lay cur3.toList (i * 5) vs) (0 + (i + m) * 5) (cells.drop (i * 5))).toArray=w5 at G3 hf ⊢;rw[EE,Ey]at G3;have hf:=hf.prune [0,1,2,7,8,9] rfl;refine sq (reg (pr 2 hf rfl rfl λa hf=>ub (ua (wp_ret (uf ?_)))));refine xO (fn:=Tryz.f282) (r:=.tmp 6) hf rfl (uL hf rfl) ?_;have hl5:(lay (lay cur3.toList (i * 5) vs) ((i + m) * 5) (cells.drop (i * 5))).length=c2 * 5:=by rw[gQ (by rw[hl4,hdl]; omega),hl4]
  have htk:(lay (lay cur3.toList (i * 5) vs) ((i + m) * 5) (cells.drop (i * 5))).take ((n + m) * 5)=cells.take (i * 5)++(vs++cells.drop (i * 5)):=by
    have h6:=pd (cur:=lay cur3.toList (i * 5) vs) (o:=(i + m) * 5) (cs:=cells.drop (i * 5)) (by rw[hl4]; omega)
    rw[hdl,show (i + m) * 5 + (n - i) * 5=(n + m) * 5 by omega]at h6
    have h7:=pd (cur:=cur3.toList) (o:=i * 5) (cs:=vs) (by rw[hl3]; omega)
    rw[hvl,←him]at h7
    rw[h6,h7,ht3,DD]
  refine⟨_,rfl,49,some ⟨nb,0,none⟩,c2,rfl,G3.grown _ (λh=>by omega),.inr ⟨by rw[←hnb]; rfl,by have:=G3.lt; omega⟩,?_,?_⟩
  · rw[DR,DR,DO,hvl,hdl,hlen]; omega
  refine .inr ⟨nb,c2,(lay (lay cur3.toList (i * 5) vs) ((i + m) * 5) (cells.drop (i * 5))).toArray,rfl,Fu _,G3.at_,hGge,hGle,by rw[Fe,hl5],?_⟩;rw[EE,htk]
set_option maxHeartbeats 1000000 in
theorem mr:sI Tryz.prog 156 5 true:=by
 intro α σ inst hfl hs hag g cb eg del Q w0 G0 E A cap cells x i0 s0 s1 ho he hq hn hgl hF hc;have hX:∀b∈G0,b∉(Value.slice A x.length cap).ownBlock.toList:=λb hb h=>(DW.1 hn).2.2 b h b hb rfl;have hXl:∀b∈(Value.slice A x.length cap).ownBlock.toList,b<w0.heap.size:=λb hb=>(ho.lt b (by simpa using hb)).2;have hl:lrep w0 (λc=>c∉G0) [.slice A x.length cap] x:=nO ho (λb hb h=>hX b h (by simp [hb])) λi y hy=>bp hfl (he i y hy);have hbig:=mb ho;have H:=Mem.startP (λc=>c∉G0) hq (DW.1 hn).2.1 hgl;have H:=H.argB (λc h1 h2=>h2 h1) (p:=MP.val [.slice A x.length cap] x) hl;refine enter Tryz.func156 rfl rfl (nle rfl) rfl λa hf=>?_;refine sq (reg (pr 1 hf rfl rfl λa hf=>?_));refine ub (ua (sq (sq (reg (pr 3 hf rfl rfl λa hf=>?_)))));refine ub (ua ?_);have hf:=hf.prune [0,1,7,8] rfl;refine vW (λ(z:Nat×σ×List Nat) (a:Act) (w:World)=>Fr a 19 [(0,.slice A x.length cap),(1,.func (.func g) #[] cb.toArray),(7,.int .i64 (x.length:Int)),(8,.int .i64 (z.1:Int))]∧Mem ⟨w0,G0⟩ (λc=>c∉G0) [] [] [⟨z.2.2,Q z.2.1 z.2.2⟩] [(false,MP.val [.slice A x.length cap] x)] w)
   (λk z=>z.1≤x.length∧x.length - z.1<k∧idxO del (x.drop z.1) (z.1:Int) z.2.1=some (i0,s1)) (λz=>i0=-1∧z.2.1=s1) (0,s0,G0) (x.length + 1) ⟨Fu _,Hk _,by rw[D4]; exact hF⟩ ⟨hf,H⟩ (λz h=>GP _ h.2.1) ?_ ?_
 · rintro fk ⟨i,s,G⟩ a w ⟨hi,hkk,hR⟩ ⟨hf,H⟩
   simp only at hi hkk hR hf H
   refine sq (reg (pr 1 hf rfl rfl λa hf=>?_))
   by_cases hlt:i<x.length
   · rw[←DG hlt]at hR
     unfold idxO at hR
     obtain⟨q,hd,hR⟩:=EO.1 hR
     refine ub (ua (sq (cd_t hf rfl (decide_eq_true (by omega)) ?_)))
     refine wp_skip (ua (sq (wp_block (sq (reg (pr 2 hf rfl rfl λa hf=>?_))))))
     refine ub (ua (sq (reg (pr 3 hf rfl rfl λa hf=>?_))))
     refine wl0 rfl (uH hf H Tryz.underlying28 (by rw[hs]; exact TF.sz49) 0 rfl rfl rfl (jo hlt) (by decide) λp o cs a hf hr H=>?_)
     have hlen:cs.length=5:=by rw[GoTy.len hr,hs]
     obtain⟨-,-,hk⟩:=H.get 0 rfl
     refine wl0 rfl (op_q hf (ek hf TF.la49 rfl hlen hk) rfl (by decide) λa hf=>?_)
     have hv:vof (GoTy.agg α) cs=.agg cs.toArray:=by rw[hag]; rfl
     have hcall:=hc.callI H hX hXl hfl hr hd
     rw[hv]at hcall
     refine wl0 rfl (bB hf eg (ca:=cb) rfl rfl (by decide) hcall λv w a hp hf=>?_)
     obtain⟨rfl,G',hch,hq',hbk⟩:=hp
     have H:=H.wroteP rfl hch hq' hbk
     have H:=H.argB (λc h1 h2=>h2 h1) (p:=MP.val [.slice A x.length cap] x) hl
     refine ub (ua ?_)
     by_cases hb:q.1=true
     · rw[if_pos hb]at hR
       injection hR with hR
       simp only[EK]at hR
       refine cd_t hf rfl hb ?_
       refine sq (reg (pr 2 hf rfl rfl λa hf=>?_))
       have hf:=hf.prune [4] rfl
       refine ub (ua (wp_ret (vh (uf (uf (vh (uf (uf (?_)))))))))
       refine xO (fn:=Tryz.f156) (r:=.tmp 4) hf rfl (uL hf rfl) ?_
       obtain⟨h1,h2⟩:=hR
       subst h1; subst h2
       exact⟨_,rfl,rfl,G',H.chg,H.diFront,H.back⟩
     rw[if_neg hb]at hR
     refine cd_f hf rfl (by simpa using hb) ?_
     refine wp_skip (uP (ua (reg (pr 2 hf rfl rfl λa hf=>?_))))
     refine ub ?_
     have hf:=hf.prune [0,1,7,8] rfl
     rw[kw hlt hbig]at hf
     exact ua ⟨(i + 1,q.2,G'),⟨hlt,by simp only; omega,by simp only; push_cast; exact hR⟩,hf,H⟩
   refine ub (ua (sq (cd_f hf rfl (decide_eq_false (by omega)) ?_)))
   refine wp_exit (cH (cH (kq ?_)))
   have hf:=hf.prune [0,1,7,8] rfl
   rw[En (by omega)]at hR
   unfold idxO at hR
   injection hR with hR
   simp only[EK]at hR
   exact⟨(i,s,G),⟨hR.1.symm,hR.2⟩,hf,H⟩
 rintro a w ⟨⟨i,s,G⟩,⟨h1,h2⟩,hf,H⟩;simp only at h1 h2 hf H;subst h1; subst h2;refine ua (sq (reg (pr 1 hf rfl rfl λa hf=>?_)));refine ub (ua (wp_ret (?_)));refine xO (fn:=Tryz.f156) (r:=.tmp 4) hf rfl (uL hf rfl) ?_;exact⟨_,rfl,rfl,G,H.chg,H.diFront,H.back⟩
set_option maxHeartbeats 2000000 in
theorem nu:kv Tryz.prog 70 5 true:=by
 intro α σ inst hfl hs hag g cb eg del Q w0 G0 E A cap cells x r s0 s1 ho he hq hn hgl hF hc;have hbig:=mb ho;obtain⟨ri,hri,hcase⟩:=ms (i:=0) hF;have hRt:∀y:List α,([(⟨.sh true,E,A,cap,y⟩:Row)].all Row.tightB)=true:=λy=>by simp [Row.tightB,hfl]
 have H:=Mem.startRP hfl (λ_=>False) ho he hq hn hgl;refine enter Tryz.func70 rfl rfl (nle rfl) rfl λa hf=>?_;refine sq (reg (pr 1 hf rfl rfl λa hf=>ub (ua ?_)));refine sq (reg (pr 2 hf rfl rfl λa hf=>?_));refine wl0 rfl (iT hf TF.qx rfl (by decide) (mr hfl hs hag eg ho he hq hn hgl hri hc) λv w a hp hf=>?_);obtain⟨rfl,G1,hch,hq1,hbk⟩:=hp;have H:=H.wroteP (hRt x) hch hq1 hbk;refine pr 1 hf rfl rfl λa hf=>ub (ua ?_);refine sq (sq (reg (pr 2 hf rfl rfl λa hf=>ub (ua ?_))));rcases hcase with ⟨e1,e2,e3⟩ | ⟨k,l2,a0,e1,hkl,e3,q2,e4,e5⟩
 · refine cd_t hf rfl (by rw[e1]; rfl) ?_
   refine sq (reg (pr 2 hf rfl rfl λa hf=>ub (ua (wp_ret (uf ?_)))))
   refine xO (fn:=Tryz.f70) (r:=.tmp 4) hf rfl (uL hf rfl) ?_
   simp only at e2 e3
   subst e3
   obtain⟨cells',ho',-,he'⟩:=H.rowAt Ei
   refine⟨_,rfl,rfl,H.chg,E,cells',G1,ho',λi y hy=>bp hfl (he' i y hy),by rw[←e2]; exact H.diFront,H.diNd.1,λb hb=>?_⟩
   obtain⟨h1,h2⟩:=H.stOff rfl b hb
   exact⟨h1,h2,(H.diNd.2 b hb).2⟩
 simp only at e4 e5;have e1':ri.1=(k:Int):=by rw[e1]; omega
 rw[e1']at hf;refine cd_f hf rfl (beq_eq_false_iff_ne.2 (by omega)) (wp_skip (ua ?_));refine sq (sq (reg (pr 3 hf rfl rfl λa hf=>ub (ua ?_))));rw[kw hkl hbig]at hf;have hf:=hf.prune [0,1,5,6] rfl;refine vW (λ(z:DelSt α σ) (a:Act) (w:World)=>Fr a 42 [(0,.slice A z.y.length cap),(1,.func (.func g) #[] cb.toArray),(5,.int .i64 (z.i:Int)),(6,.int .i64 (z.j:Int))]∧Mem ⟨w0,(Value.slice A x.length cap).ownBlock.toList++G0⟩ (λ_=>False) [] [⟨.sh true,E,A,cap,z.y⟩] [⟨z.G,Q z.s z.G⟩] [] w)
   (λkk z=>x.length - z.j<kk∧DelInv del x r s1 z) (λz=>DelInv del x r s1 z∧z.j=z.y.length) ⟨k,k + 1,ri.2,G1,x⟩ (x.length + 1) ⟨by simp only; omega,DelInv.start hkl e3 e4 e5⟩ ⟨hf,H⟩ (λz h=>GP _ h.1) ?_ ?_
 · rintro fk ⟨i,j,s,G,y⟩ a w ⟨hkk,hI⟩ ⟨hf,H⟩
   simp only at hkk hf H
   have hyl:=hI.len
   have hij:=hI.lt
   simp only at hyl hij
   refine sq (sq (reg (pr 4 hf rfl rfl λa hf=>ub (ua ?_))))
   by_cases hlt:j<y.length
   · obtain⟨q,hd,hI1,hI2⟩:=hI.at_ hlt
     simp only at hd hI1 hI2
     refine cd_t hf rfl (decide_eq_true (by omega)) (wp_skip (ua ?_))
     refine sq (wp_block (sq (reg (pr 2 hf rfl rfl λa hf=>?_))))
     refine wl0 rfl (vV hf H Tryz.underlying28 (by rw[hs]; exact TF.sz49) 0 rfl rfl rfl (jo hlt) (by decide) λb o cs a hf hA hr hk=>?_)
     have hlen:cs.length=5:=by rw[GoTy.len hr,hs]
     refine wl0 rfl (op_q hf (ek hf TF.la49 rfl hlen hk) rfl (by decide) λa hf=>?_)
     refine wl0 rfl (uY hf H TF.zv49 rfl (by decide) λvb a w hf H=>?_)
     refine wl0 rfl (d5 hf H 0 TF.sz49 rfl rfl rfl rfl (Eo.2 (GoTy.one hr)) hlen (by rw[hlen]; decide) λw H=>?_)
     have hdz:((List.take 0 [(.int .i64 0),(.int .i64 0),(.slice none 0 0),(.int .i64 0),(.int .i64 0)]).append cs).append (List.drop (0 + cs.length) [(.int .i64 0),(.int .i64 0),(.slice none 0 0),(.int .i64 0),(.int .i64 0)])=cs:=by rw[hlen]; simp
     replace H:Mem ⟨w0,(Value.slice A x.length cap).ownBlock.toList++G0⟩ (λ_=>False) [⟨vb,49,cs⟩] [⟨.sh true,E,A,cap,y⟩] [⟨G,Q s G⟩] [] w:=by rw[←hdz]; exact H
     refine ub (ua (sq (reg (pr 1 hf rfl rfl λa hf=>?_))))
     refine wl0 rfl (op_q hf (x9 hf H TF.la49 0 rfl rfl (by rw[D4]; exact Fj (by omega)) hlen) rfl (by decide) λa hf=>?_)
     have hv:vof (GoTy.agg α) cs=.agg cs.toArray:=by rw[hag]; rfl
     have hcall:=hc.callD H ownB hfl hr hd
     rw[hv]at hcall
     refine wl0 rfl (bB hf eg (ca:=cb) rfl rfl (by decide) hcall λv w a hp hf=>?_)
     obtain⟨rfl,G',hch,hq',hbk⟩:=hp
     have H:=H.wroteP (hRt y) hch hq' hbk
     refine pr 1 hf rfl rfl λa hf=>ub (ua ?_)
     by_cases hb:q.1=true
     · refine cd_f hf rfl (by rw[hb]; rfl) ?_
       refine wp_skip (uP (ua (reg (pr 3 hf rfl rfl λa hf=>?_))))
       refine ub ?_
       have hf:=hf.prune [0,1,5,6] rfl
       rw[kw hlt (by omega)]at hf
       have H:=H.let [false] [true] [true] [] rfl rfl rfl rfl
       exact ua ⟨⟨i,j + 1,q.2,G',y⟩,⟨by simp only; omega,hI1 hb G'⟩,hf,H⟩
     have hb':q.1=false:=by simpa using hb
     refine cd_t hf rfl (by rw[hb']; rfl) ?_
     refine sq (reg (pr 2 hf rfl rfl λa hf=>?_))
     refine wl0 rfl (op_q hf (x9 hf H TF.la49 0 rfl rfl (by rw[D4]; exact Fj (by omega)) hlen) rfl (by decide) λa hf=>?_)
     have hilt:i<y.length:=by omega
     refine wl0 rfl (vV hf H Tryz.underlying28 (by rw[hs]; exact TF.sz49) 0 rfl rfl rfl (jo hilt) (by decide) λb2 o2 cs2 a hf hA2 hr2 hk2=>?_)
     refine wl0 rfl (xU (e':=y[j]) (o:=o2) (off:=0) hf H TF.sz49 0 rfl rfl rfl (Eo.2 (GoTy.one hr)) hlen (by rw[hs]; decide) rfl hA2 (jo hilt) (λcs3 h3=>?_) λw H=>?_)
     · have hl3:cs3.length=5:=by rw[GoTy.len (show GoTy.rep _ _ cs3 _ from h3),hs]
       show GoTy.rep _ _ _ _
       rw[Hq,Ek,En (by rw[hl3,hlen]; omega),D1]
       exact bp hfl hr
     refine ub (ua (reg (pr 3 hf rfl rfl λa hf=>ub ?_)))
     refine uP (ua (reg (pr 3 hf rfl rfl λa hf=>?_)))
     refine ub ?_
     have hf:=hf.prune [0,1,5,6] rfl
     rw[kw hlt (by omega),kw hilt (by omega)]at hf
     have H:=H.let [false] [true] [true] [] rfl rfl rfl rfl
     simp only[EZ]at H
     exact ua ⟨⟨i + 1,j + 1,q.2,G',y.set i y[j]⟩,⟨by simp only; omega,hI2 hb' G'⟩,by simp only[DN]; exact hf,H⟩
   refine cd_f hf rfl (decide_eq_false (by omega)) (wp_exit (cH (cH (kq ?_))))
   have hf:=hf.prune [0,1,5,6] rfl
   have hle:=hI.le
   simp only at hle
   exact⟨⟨i,j,s,G,y⟩,⟨hI,by simp only; omega⟩,hf,H⟩
 rintro a w ⟨⟨i,j,s,G,y⟩,⟨hI,hj⟩,hf,H⟩;simp only at hj hf H;obtain⟨hr,hs1,hiy⟩:=hI.end_ hj;simp only at hr hs1 hiy;subst hs1;have hyl:=hI.len;simp only at hyl;have hrl:r.length=i:=by rw[hr,DO]; omega
 obtain⟨cells',ho',-,he'⟩:=H.rowAt Ei;have hcl':cells'.length=y.length * 5:=by rw[ho'.1,hs]
 simp only[hs]at ho';rcases ho'.2 with ⟨hv,h0⟩ | ⟨gb,cap',cur,hv,hB,hg,hle,hm,hsz,ht⟩
 · omega
 simp only[Row.v,Value.slice.injEq]at hv;obtain⟨rfl,-,rfl⟩:=hv;have hcl:cur.toList.length=cap * 5:=by rw[El,hsz]
 have hys:y.length * 5≤cap * 5:=D5 _ hle;have his:i * 5≤y.length * 5:=D5 _ (by omega);have hG:=GS.start hg;have hcz2:cutA (some (⟨gb,0,none⟩:Addr)) 5 i cap=some ⟨gb,0 + i * 5,none⟩:=fp (by omega);have hni:(y.length - i) * 5=y.length * 5 - i * 5:=Hs _ _ _;obtain⟨zs,hzl,hclr⟩:=kV (s:=5) (P:=Tryz.prog) (ty:=28) (w:=w) (c:=cap - i) (k:=y.length - i) (o:=0 + i * 5) Tryz.underlying28 TF.zv49 rfl (by decide) (by decide) (by omega) hG (by rw[hcl]; omega);refine ua (sq (reg (pr 2 hf rfl rfl λa hf=>wl0 rfl (op_q hf (dA hf rfl rfl rfl rfl (bE Tryz.underlying28 TF.sz49 λw=>b_lo (show i≤y.length by omega)) _) rfl (by decide) λa hf=>?_))));rw[hcz2]at hf;refine wl0 rfl (jY hf rfl hclr λa hf=>ub (ua ?_));have hG2:=hG.set (lay cur.toList (0 + i * 5) zs).toArray;have hst:(Q s G).pred (w.setRow gb (lay cur.toList (0 + i * 5) zs).toArray) (·∈G):=MP.mono _ H.diFront λb hb hbl=>⟨hb,hG2.old b hbl λe=>(H.stOff (A:=some ⟨gb,0,none⟩) rfl b hb).2 (by rw[e]; exact DU.2 rfl)⟩
 have hcg:Chg w0 (w.setRow gb (lay cur.toList (0 + i * 5) zs).toArray) ([gb]++G0):=by
   have h1:=H.chg
   refine⟨hG2.os.trans h1.os,hG2.tape.trans h1.tape,hG2.output.trans h1.output,EJ h1.size hG2.size,λb hb hx=>?_,EJ h1.drawn hG2.drawn⟩
   rw[hG2.old b (Ff hb h1.size) λe=>hx (by rw[e]; exact Dx.2 (.inl (DU.2 rfl)))]
   exact h1.block b hb hx
 have hoff:=H.stOff (A:=some ⟨gb,0,none⟩) rfl;have hdn:=H.diNd;have hszw:=hG2.size;generalize w.setRow gb (lay cur.toList (0 + i * 5) zs).toArray=w3 at hG2 hst hcg hf hszw ⊢;refine sq (reg (pr 2 hf rfl rfl λa hf=>wl0 rfl (op_q hf (dA hf rfl rfl rfl rfl (bE Tryz.underlying28 TF.sz49 λw=>b_hi (show i≤cap by omega)) _) rfl (by decide) λa hf=>pr 1 hf rfl rfl λa hf=>ub (ua (wp_ret ?_)))));refine xO (fn:=Tryz.f70) (r:=.tmp 4) hf rfl (uL hf rfl) ?_;rw[jI λp h=>by injection h with h; subst h; rfl]
 rw[Fz,Fz,hrl];have hlay:(lay cur.toList (0 + i * 5) zs).take (i * 5)=cells'.take (i * 5):=by
   rw[Ey,gP (by rw[hcl]; omega) (D3 _),←ht,Ft,ER his]
 refine⟨_,rfl,rfl,hcg,E,cells'.take (i * 5),G,?_,λq yq hyq=>?_,hst,hdn.1,λb hb=>⟨(hoff b hb).1,(hoff b hb).2,Ff (hdn.2 b hb).2 hszw⟩⟩
 · rw[hs]
   refine⟨by rw[DO,hcl']; omega,.inr ⟨gb,cap,_,rfl,Fu _,hG2.at_,by omega,hm,?_,?_⟩⟩
   · rw[Fe,EE,gQ (by rw[hzl,hcl]; omega),hcl]
   rw[EE,EE]
   exact hlay
 rw[hr]at hyq;have hqi:q<i:=by
   have:=(DK.1 hyq).1
   rw[DO]at this
   omega
 rw[D8 hqi]at hyq;have hp:xp α (cells'.take (i * 5)) q=xp α cells' q:=by
   unfold xp
   rw[hs,Gm,Ft,ER]
   have h5:q * 5 + 5≤i * 5:=by
     have:=D5 5 (show q + 1≤i from hqi)
     rwa [Fq]at this
   omega
 rw[hp];exact bp hfl (he' q yq hyq)
set_option maxHeartbeats 1000000 in
theorem mq:sI Tryz.prog 163 1 false:=by
 intro α σ inst hfl hs hag g cb eg del Q w0 G0 E A cap cells x i0 s0 s1 ho he hq hn hgl hF hc;have hX:∀b∈G0,b∉(Value.slice A x.length cap).ownBlock.toList:=λb hb h=>(DW.1 hn).2.2 b h b hb rfl;have hXl:∀b∈(Value.slice A x.length cap).ownBlock.toList,b<w0.heap.size:=λb hb=>(ho.lt b (by simpa using hb)).2;have hl:lrep w0 (λc=>c∉G0) [.slice A x.length cap] x:=nO ho (λb hb h=>hX b h (by simp [hb])) λi y hy=>bp hfl (he i y hy);have hbig:=mb ho;have H:=Mem.startP (λc=>c∉G0) hq (DW.1 hn).2.1 hgl;have H:=H.argB (λc h1 h2=>h2 h1) (p:=MP.val [.slice A x.length cap] x) hl;refine enter Tryz.func163 rfl rfl (nle rfl) rfl λa hf=>?_;refine sq (reg (pr 1 hf rfl rfl λa hf=>?_));refine ub (ua (sq (sq (reg (pr 3 hf rfl rfl λa hf=>?_)))));refine ub (ua ?_);have hf:=hf.prune [0,1,7,8] rfl;refine vW (λ(z:Nat×σ×List Nat) (a:Act) (w:World)=>Fr a 19 [(0,.slice A x.length cap),(1,.func (.func g) #[] cb.toArray),(7,.int .i64 (x.length:Int)),(8,.int .i64 (z.1:Int))]∧Mem ⟨w0,G0⟩ (λc=>c∉G0) [] [] [⟨z.2.2,Q z.2.1 z.2.2⟩] [(false,MP.val [.slice A x.length cap] x)] w)
   (λk z=>z.1≤x.length∧x.length - z.1<k∧idxO del (x.drop z.1) (z.1:Int) z.2.1=some (i0,s1)) (λz=>i0=-1∧z.2.1=s1) (0,s0,G0) (x.length + 1) ⟨Fu _,Hk _,by rw[D4]; exact hF⟩ ⟨hf,H⟩ (λz h=>GP _ h.2.1) ?_ ?_
 · rintro fk ⟨i,s,G⟩ a w ⟨hi,hkk,hR⟩ ⟨hf,H⟩
   simp only at hi hkk hR hf H
   refine sq (reg (pr 1 hf rfl rfl λa hf=>?_))
   by_cases hlt:i<x.length
   · rw[←DG hlt]at hR
     unfold idxO at hR
     obtain⟨q,hd,hR⟩:=EO.1 hR
     refine ub (ua (sq (cd_t hf rfl (decide_eq_true (by omega)) ?_)))
     refine wp_skip (ua (sq (wp_block (sq (reg (pr 2 hf rfl rfl λa hf=>?_))))))
     refine ub (ua (sq (reg (pr 3 hf rfl rfl λa hf=>?_))))
     refine wl0 rfl (uH hf H Tryz.underlying35 (by rw[hs]; exact TF.sz3) 0 rfl rfl rfl (jo hlt) (by decide) λp o cs a hf hr H=>?_)
     have hlen:cs.length=1:=by rw[GoTy.len hr,hs]
     obtain⟨-,-,hk⟩:=H.get 0 rfl
     obtain⟨c1,rfl⟩:∃c,cs=[c]:=Hl.1 hlen
     refine wl0 rfl (op_q hf (eZ hf TF.ls3 rfl (hk 0 _ rfl)) rfl (by decide) λa hf=>?_)
     have hv:vof (GoTy.agg α) [c1]=c1:=by rw[hag]; rfl
     have hcall:=hc.callI H hX hXl hfl hr hd
     rw[hv]at hcall
     refine wl0 rfl (bB hf eg (ca:=cb) rfl rfl (by decide) hcall λv w a hp hf=>?_)
     obtain⟨rfl,G',hch,hq',hbk⟩:=hp
     have H:=H.wroteP rfl hch hq' hbk
     have H:=H.argB (λc h1 h2=>h2 h1) (p:=MP.val [.slice A x.length cap] x) hl
     refine ub (ua ?_)
     by_cases hb:q.1=true
     · rw[if_pos hb]at hR
       injection hR with hR
       simp only[EK]at hR
       refine cd_t hf rfl hb ?_
       refine sq (reg (pr 2 hf rfl rfl λa hf=>?_))
       have hf:=hf.prune [4] rfl
       refine ub (ua (wp_ret (vh (uf (uf (vh (uf (uf (?_)))))))))
       refine xO (fn:=Tryz.f163) (r:=.tmp 4) hf rfl (uL hf rfl) ?_
       obtain⟨h1,h2⟩:=hR
       subst h1; subst h2
       exact⟨_,rfl,rfl,G',H.chg,H.diFront,H.back⟩
     rw[if_neg hb]at hR
     refine cd_f hf rfl (by simpa using hb) ?_
     refine wp_skip (uP (ua (reg (pr 2 hf rfl rfl λa hf=>?_))))
     refine ub ?_
     have hf:=hf.prune [0,1,7,8] rfl
     rw[kw hlt hbig]at hf
     exact ua ⟨(i + 1,q.2,G'),⟨hlt,by simp only; omega,by simp only; push_cast; exact hR⟩,hf,H⟩
   refine ub (ua (sq (cd_f hf rfl (decide_eq_false (by omega)) ?_)))
   refine wp_exit (cH (cH (kq ?_)))
   have hf:=hf.prune [0,1,7,8] rfl
   rw[En (by omega)]at hR
   unfold idxO at hR
   injection hR with hR
   simp only[EK]at hR
   exact⟨(i,s,G),⟨hR.1.symm,hR.2⟩,hf,H⟩
 rintro a w ⟨⟨i,s,G⟩,⟨h1,h2⟩,hf,H⟩;simp only at h1 h2 hf H;subst h1; subst h2;refine ua (sq (reg (pr 1 hf rfl rfl λa hf=>?_)));refine ub (ua (wp_ret (?_)));refine xO (fn:=Tryz.f163) (r:=.tmp 4) hf rfl (uL hf rfl) ?_;exact⟨_,rfl,rfl,G,H.chg,H.diFront,H.back⟩
set_option maxHeartbeats 2000000 in
theorem my:kv Tryz.prog 135 1 false:=by
 intro α σ inst hfl hs hag g cb eg del Q w0 G0 E A cap cells x r s0 s1 ho he hq hn hgl hF hc;have hbig:=mb ho;obtain⟨ri,hri,hcase⟩:=ms (i:=0) hF;have hRt:∀y:List α,([(⟨.sh true,E,A,cap,y⟩:Row)].all Row.tightB)=true:=λy=>by simp [Row.tightB,hfl]
 have H:=Mem.startRP hfl (λ_=>False) ho he hq hn hgl;refine enter Tryz.func135 rfl rfl (nle rfl) rfl λa hf=>?_;refine sq (reg (pr 1 hf rfl rfl λa hf=>ub (ua ?_)));refine sq (reg (pr 2 hf rfl rfl λa hf=>?_));refine wl0 rfl (iT hf TF.BB rfl (by decide) (mq hfl hs hag eg ho he hq hn hgl hri hc) λv w a hp hf=>?_);obtain⟨rfl,G1,hch,hq1,hbk⟩:=hp;have H:=H.wroteP (hRt x) hch hq1 hbk;refine pr 1 hf rfl rfl λa hf=>ub (ua ?_);refine sq (sq (reg (pr 2 hf rfl rfl λa hf=>ub (ua ?_))));rcases hcase with ⟨e1,e2,e3⟩ | ⟨k,l2,a0,e1,hkl,e3,q2,e4,e5⟩
 · refine cd_t hf rfl (by rw[e1]; rfl) ?_
   refine sq (reg (pr 2 hf rfl rfl λa hf=>ub (ua (wp_ret (uf ?_)))))
   refine xO (fn:=Tryz.f135) (r:=.tmp 4) hf rfl (uL hf rfl) ?_
   simp only at e2 e3
   subst e3
   obtain⟨cells',ho',-,he'⟩:=H.rowAt Ei
   refine⟨_,rfl,rfl,H.chg,E,cells',G1,ho',λi y hy=>bp hfl (he' i y hy),by rw[←e2]; exact H.diFront,H.diNd.1,λb hb=>?_⟩
   obtain⟨h1,h2⟩:=H.stOff rfl b hb
   exact⟨h1,h2,(H.diNd.2 b hb).2⟩
 simp only at e4 e5;have e1':ri.1=(k:Int):=by rw[e1]; omega
 rw[e1']at hf;refine cd_f hf rfl (beq_eq_false_iff_ne.2 (by omega)) (wp_skip (ua ?_));refine sq (sq (reg (pr 3 hf rfl rfl λa hf=>ub (ua ?_))));rw[kw hkl hbig]at hf;have hf:=hf.prune [0,1,5,6] rfl;refine vW (λ(z:DelSt α σ) (a:Act) (w:World)=>Fr a 42 [(0,.slice A z.y.length cap),(1,.func (.func g) #[] cb.toArray),(5,.int .i64 (z.i:Int)),(6,.int .i64 (z.j:Int))]∧Mem ⟨w0,(Value.slice A x.length cap).ownBlock.toList++G0⟩ (λ_=>False) [] [⟨.sh true,E,A,cap,z.y⟩] [⟨z.G,Q z.s z.G⟩] [] w)
   (λkk z=>x.length - z.j<kk∧DelInv del x r s1 z) (λz=>DelInv del x r s1 z∧z.j=z.y.length) ⟨k,k + 1,ri.2,G1,x⟩ (x.length + 1) ⟨by simp only; omega,DelInv.start hkl e3 e4 e5⟩ ⟨hf,H⟩ (λz h=>GP _ h.1) ?_ ?_
 · rintro fk ⟨i,j,s,G,y⟩ a w ⟨hkk,hI⟩ ⟨hf,H⟩
   simp only at hkk hf H
   have hyl:=hI.len
   have hij:=hI.lt
   simp only at hyl hij
   refine sq (sq (reg (pr 4 hf rfl rfl λa hf=>ub (ua ?_))))
   by_cases hlt:j<y.length
   · obtain⟨q,hd,hI1,hI2⟩:=hI.at_ hlt
     simp only at hd hI1 hI2
     refine cd_t hf rfl (decide_eq_true (by omega)) (wp_skip (ua ?_))
     refine sq (wp_block (sq (reg (pr 2 hf rfl rfl λa hf=>?_))))
     refine wl0 rfl (vV hf H Tryz.underlying35 (by rw[hs]; exact TF.sz3) 0 rfl rfl rfl (jo hlt) (by decide) λb o cs a hf hA hr hk=>?_)
     have hlen:cs.length=1:=by rw[GoTy.len hr,hs]
     obtain⟨c1,rfl⟩:∃c,cs=[c]:=Hl.1 hlen
     refine wl0 rfl (op_q hf (eZ hf TF.ls3 rfl (hk 0 _ rfl)) rfl (by decide) λa hf=>?_)
     refine pr 1 hf rfl rfl λa hf=>ub (ua (sq (reg (pr 2 hf rfl rfl λa hf=>?_))))
     have hv:vof (GoTy.agg α) [c1]=c1:=by rw[hag]; rfl
     have hcall:=hc.callD H ownB hfl hr hd
     rw[hv]at hcall
     refine wl0 rfl (bB hf eg (ca:=cb) rfl rfl (by decide) hcall λv w a hp hf=>?_)
     obtain⟨rfl,G',hch,hq',hbk⟩:=hp
     have H:=H.wroteP (hRt y) hch hq' hbk
     refine pr 1 hf rfl rfl λa hf=>ub (ua ?_)
     by_cases hb:q.1=true
     · refine cd_f hf rfl (by rw[hb]; rfl) ?_
       refine wp_skip (uP (ua (reg (pr 3 hf rfl rfl λa hf=>?_))))
       refine ub ?_
       have hf:=hf.prune [0,1,5,6] rfl
       rw[kw hlt (by omega)]at hf
       skip
       exact ua ⟨⟨i,j + 1,q.2,G',y⟩,⟨by simp only; omega,hI1 hb G'⟩,hf,H⟩
     have hb':q.1=false:=by simpa using hb
     refine cd_t hf rfl (by rw[hb']; rfl) ?_
     refine sq (reg (pr 2 hf rfl rfl λa hf=>?_))
     refine pr 1 hf rfl rfl λa hf=>?_
     have hilt:i<y.length:=by omega
     refine wl0 rfl (vV hf H Tryz.underlying35 (by rw[hs]; exact TF.sz3) 0 rfl rfl rfl (jo hilt) (by decide) λb2 o2 cs2 a hf hA2 hr2 hk2=>?_)
     refine wl0 rfl (xU (e':=y[j]) (o:=o2) (off:=0) hf H TF.sz3 0 rfl rfl (cells_one (GoTy.one hr c1 (DU.2 rfl))) (Eo.2 (GoTy.one hr)) hlen (by rw[hs]; decide) rfl hA2 (jo hilt) (λcs3 h3=>?_) λw H=>?_)
     · have hl3:cs3.length=1:=by rw[GoTy.len (show GoTy.rep _ _ cs3 _ from h3),hs]
       show GoTy.rep _ _ _ _
       rw[Hq,Ek,En (by rw[hl3,hlen]; omega),D1]
       exact bp hfl hr
     refine ub (ua (reg (pr 3 hf rfl rfl λa hf=>ub ?_)))
     refine uP (ua (reg (pr 3 hf rfl rfl λa hf=>?_)))
     refine ub ?_
     have hf:=hf.prune [0,1,5,6] rfl
     rw[kw hlt (by omega),kw hilt (by omega)]at hf
     skip
     simp only[EZ]at H
     exact ua ⟨⟨i + 1,j + 1,q.2,G',y.set i y[j]⟩,⟨by simp only; omega,hI2 hb' G'⟩,by simp only[DN]; exact hf,H⟩
   refine cd_f hf rfl (decide_eq_false (by omega)) (wp_exit (cH (cH (kq ?_))))
   have hf:=hf.prune [0,1,5,6] rfl
   have hle:=hI.le
   simp only at hle
   exact⟨⟨i,j,s,G,y⟩,⟨hI,by simp only; omega⟩,hf,H⟩
 rintro a w ⟨⟨i,j,s,G,y⟩,⟨hI,hj⟩,hf,H⟩;simp only at hj hf H;obtain⟨hr,hs1,hiy⟩:=hI.end_ hj;simp only at hr hs1 hiy;subst hs1;have hyl:=hI.len;simp only at hyl;have hrl:r.length=i:=by rw[hr,DO]; omega
 obtain⟨cells',ho',-,he'⟩:=H.rowAt Ei;have hcl':cells'.length=y.length * 1:=by rw[ho'.1,hs]
 simp only[hs]at ho';rcases ho'.2 with ⟨hv,h0⟩ | ⟨gb,cap',cur,hv,hB,hg,hle,hm,hsz,ht⟩
 · omega
 simp only[Row.v,Value.slice.injEq]at hv;obtain⟨rfl,-,rfl⟩:=hv;have hcl:cur.toList.length=cap * 1:=by rw[El,hsz]
 have hys:y.length * 1≤cap * 1:=D5 _ hle;have his:i * 1≤y.length * 1:=D5 _ (by omega);have hG:=GS.start hg;have hcz2:cutA (some (⟨gb,0,none⟩:Addr)) 1 i cap=some ⟨gb,0 + i * 1,none⟩:=fp (by omega);have hni:(y.length - i) * 1=y.length * 1 - i * 1:=Hs _ _ _;obtain⟨zs,hzl,hclr⟩:=kV (s:=1) (P:=Tryz.prog) (ty:=35) (w:=w) (c:=cap - i) (k:=y.length - i) (o:=0 + i * 1) Tryz.underlying35 TF.zv3 rfl (by decide) (by decide) (by omega) hG (by rw[hcl]; omega);refine ua (sq (reg (pr 2 hf rfl rfl λa hf=>wl0 rfl (op_q hf (dA hf rfl rfl rfl rfl (bE Tryz.underlying35 TF.sz3 λw=>b_lo (show i≤y.length by omega)) _) rfl (by decide) λa hf=>?_))));rw[hcz2]at hf;refine wl0 rfl (jY hf rfl hclr λa hf=>ub (ua ?_));have hG2:=hG.set (lay cur.toList (0 + i * 1) zs).toArray;have hst:(Q s G).pred (w.setRow gb (lay cur.toList (0 + i * 1) zs).toArray) (·∈G):=MP.mono _ H.diFront λb hb hbl=>⟨hb,hG2.old b hbl λe=>(H.stOff (A:=some ⟨gb,0,none⟩) rfl b hb).2 (by rw[e]; exact DU.2 rfl)⟩
 have hcg:Chg w0 (w.setRow gb (lay cur.toList (0 + i * 1) zs).toArray) ([gb]++G0):=by
   have h1:=H.chg
   refine⟨hG2.os.trans h1.os,hG2.tape.trans h1.tape,hG2.output.trans h1.output,EJ h1.size hG2.size,λb hb hx=>?_,EJ h1.drawn hG2.drawn⟩
   rw[hG2.old b (Ff hb h1.size) λe=>hx (by rw[e]; exact Dx.2 (.inl (DU.2 rfl)))]
   exact h1.block b hb hx
 have hoff:=H.stOff (A:=some ⟨gb,0,none⟩) rfl;have hdn:=H.diNd;have hszw:=hG2.size;generalize w.setRow gb (lay cur.toList (0 + i * 1) zs).toArray=w3 at hG2 hst hcg hf hszw ⊢;refine sq (reg (pr 2 hf rfl rfl λa hf=>wl0 rfl (op_q hf (dA hf rfl rfl rfl rfl (bE Tryz.underlying35 TF.sz3 λw=>b_hi (show i≤cap by omega)) _) rfl (by decide) λa hf=>pr 1 hf rfl rfl λa hf=>ub (ua (wp_ret ?_)))));refine xO (fn:=Tryz.f135) (r:=.tmp 4) hf rfl (uL hf rfl) ?_;rw[jI λp h=>by injection h with h; subst h; rfl]
 rw[Fz,Fz,hrl];have hlay:(lay cur.toList (0 + i * 1) zs).take (i * 1)=cells'.take (i * 1):=by
   rw[Ey,gP (by rw[hcl]; omega) (D3 _),←ht,Ft,ER his]
 refine⟨_,rfl,rfl,hcg,E,cells'.take (i * 1),G,?_,λq yq hyq=>?_,hst,hdn.1,λb hb=>⟨(hoff b hb).1,(hoff b hb).2,Ff (hdn.2 b hb).2 hszw⟩⟩
 · rw[hs]
   refine⟨by rw[DO,hcl']; omega,.inr ⟨gb,cap,_,rfl,Fu _,hG2.at_,by omega,hm,?_,?_⟩⟩
   · rw[Fe,EE,gQ (by rw[hzl,hcl]; omega),hcl]
   rw[EE,EE]
   exact hlay
 rw[hr]at hyq;have hqi:q<i:=by
   have:=(DK.1 hyq).1
   rw[DO]at this
   omega
 rw[D8 hqi]at hyq;have hp:xp α (cells'.take (i * 1)) q=xp α cells' q:=by
   unfold xp
   rw[hs,Gm,Ft,ER]
   have h5:q * 1 + 1≤i * 1:=by
     have:=D5 1 (show q + 1≤i from hqi)
     rwa [Fq]at this
   omega
 rw[hp];exact bp hfl (he' q yq hyq)
end AT
