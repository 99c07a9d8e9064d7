/- The walks of slices.Insert, slices.Delete and their like, by program (gen.py). -/
import Derived.Test.YtlemonjnolciiaaGreatT
import Derived.Test.YtlemonjnolciiaaGreatAtTg
import Derived.Test.YtlemonjnolciiaaGreatQSfX
set_option linter.unusedVariables false
set_option linter.unusedSimpArgs false
set_option maxRecDepth 100000
namespace Go.Proofs
open Go Go.Shelf
def Tryz.lay131_ren:Go.Shelf.Ren:=⟨λ| 20=>131 | n=>n,λ| 22=>35 | 3=>3 | 4=>4 | 0=>0 | n=>n,λ| n=>n⟩
theorem Tryz.lay131:Go.Proofs.Lays2.n20 Tryz.prog Tryz.lay131_ren where
  mixed:=by kernel_rfl
  f20:=Tryz.func131.trans (congrArg some (by kernel_rfl))
  t0:=Tryz.underlying0
  a0:=Tryz.isAgg0
  z0:=Tryz.sizeOf0
  v0:=Tryz.zeroValue0
  t3:=Tryz.underlying3
  a3:=Tryz.isAgg3
  z3:=Tryz.sizeOf3
  v3:=Tryz.zeroValue3
  t4:=Tryz.underlying4
  a4:=Tryz.isAgg4
  z4:=Tryz.sizeOf4
  v4:=Tryz.zeroValue4
  t22:=Tryz.underlying35
  a22:=Tryz.isAgg35
  z22:=Tryz.sizeOf35
  v22:=Tryz.zeroValue35
  i3:=by kernel_rfl
def Tryz.lay130_ren:Go.Shelf.Ren:=⟨λ| 189=>130 | 125=>218 | 257=>217 | 128=>280 | 129=>281 | 294=>271 | 295=>272 | 296=>273 | 297=>274 | 298=>275 | 299=>276 | 216=>277 | 300=>278 | 301=>279 | 328=>312 | 329=>313 | 330=>314 | 331=>315 | 332=>316 | 215=>225 | 343=>339 | n=>n,λ| 28=>35 | 3=>3 | 46=>128 | 0=>0 | 51=>202 | 53=>107 | 4=>4 | 183=>269 | 182=>268 | 131=>40 | 5=>5 | 9=>9 | 218=>292 | 222=>296 | 228=>312 | 229=>313 | n=>n,λ| n=>n⟩
theorem Tryz.lay130:Go.Proofs.Lays.n189 Tryz.prog Tryz.lay130_ren where
  mixed:=by kernel_rfl
  f125:=Tryz.func218.trans (congrArg some (by kernel_rfl))
  f128:=Tryz.func280.trans (congrArg some (by kernel_rfl))
  f129:=Tryz.func281.trans (congrArg some (by kernel_rfl))
  f189:=Tryz.func130.trans (congrArg some (by kernel_rfl))
  f215:=Tryz.func225.trans (congrArg some (by kernel_rfl))
  f216:=Tryz.func277.trans (congrArg some (by kernel_rfl))
  f257:=Tryz.func217.trans (congrArg some (by kernel_rfl))
  f294:=Tryz.func271.trans (congrArg some (by kernel_rfl))
  f295:=Tryz.func272.trans (congrArg some (by kernel_rfl))
  f296:=Tryz.func273.trans (congrArg some (by kernel_rfl))
  f297:=Tryz.func274.trans (congrArg some (by kernel_rfl))
  f298:=Tryz.func275.trans (congrArg some (by kernel_rfl))
  f299:=Tryz.func276.trans (congrArg some (by kernel_rfl))
  f300:=Tryz.func278.trans (congrArg some (by kernel_rfl))
  f301:=Tryz.func279.trans (congrArg some (by kernel_rfl))
  f328:=Tryz.func312.trans (congrArg some (by kernel_rfl))
  f329:=Tryz.func313.trans (congrArg some (by kernel_rfl))
  f330:=Tryz.func314.trans (congrArg some (by kernel_rfl))
  f331:=Tryz.func315.trans (congrArg some (by kernel_rfl))
  f332:=Tryz.func316.trans (congrArg some (by kernel_rfl))
  f343:=Tryz.func339.trans (congrArg some (by kernel_rfl))
  t0:=Tryz.underlying0
  a0:=Tryz.isAgg0
  z0:=Tryz.sizeOf0
  v0:=Tryz.zeroValue0
  t3:=Tryz.underlying3
  a3:=Tryz.isAgg3
  z3:=Tryz.sizeOf3
  v3:=Tryz.zeroValue3
  t4:=Tryz.underlying4
  a4:=Tryz.isAgg4
  z4:=Tryz.sizeOf4
  v4:=Tryz.zeroValue4
  t5:=Tryz.underlying5
  a5:=Tryz.isAgg5
  z5:=Tryz.sizeOf5
  v5:=Tryz.zeroValue5
  t9:=Tryz.underlying9
  a9:=Tryz.isAgg9
  z9:=Tryz.sizeOf9
  v9:=Tryz.zeroValue9
  t28:=Tryz.underlying35
  a28:=Tryz.isAgg35
  z28:=Tryz.sizeOf35
  v28:=Tryz.zeroValue35
  t46:=Tryz.underlying128
  a46:=Tryz.isAgg128
  z46:=Tryz.sizeOf128
  v46:=Tryz.zeroValue128
  t51:=Tryz.underlying202
  a51:=Tryz.isAgg202
  z51:=Tryz.sizeOf202
  v51:=Tryz.zeroValue202
  t53:=Tryz.underlying107
  a53:=Tryz.isAgg107
  z53:=Tryz.sizeOf107
  v53:=Tryz.zeroValue107
  t131:=Tryz.underlying40
  a131:=Tryz.isAgg40
  z131:=Tryz.sizeOf40
  v131:=Tryz.zeroValue40
  t182:=Tryz.underlying268
  a182:=Tryz.isAgg268
  z182:=Tryz.sizeOf268
  v182:=Tryz.zeroValue268
  t183:=Tryz.underlying269
  a183:=Tryz.isAgg269
  z183:=Tryz.sizeOf269
  v183:=Tryz.zeroValue269
  t218:=Tryz.underlying292
  a218:=Tryz.isAgg292
  z218:=Tryz.sizeOf292
  v218:=Tryz.zeroValue292
  t222:=Tryz.underlying296
  a222:=Tryz.isAgg296
  z222:=Tryz.sizeOf296
  v222:=Tryz.zeroValue296
  t228:=Tryz.underlying312
  a228:=Tryz.isAgg312
  z228:=Tryz.sizeOf312
  v228:=Tryz.zeroValue312
  t229:=Tryz.underlying313
  a229:=Tryz.isAgg313
  z229:=Tryz.sizeOf313
  v229:=Tryz.zeroValue313
end Go.Proofs
namespace AT
open Go Go.RowKit Go.Proofs
set_option maxHeartbeats 1000000 in
theorem iq:kn Tryz.prog 196 148 6:=by
  intro w n hn;obtain⟨inf,hinf,hpr⟩:=sV.1 TF.gg;simp only[tD]at hpr;obtain⟨hz1,hz2,hz3⟩:=hpr;refine enter Tryz.func196 rfl rfl (nle rfl) rfl λa hf=>?_;refine sq (reg (pr 1 hf rfl rfl λa hf=>uc (ua ?_)));refine sq (sq (reg (pr 2 hf rfl rfl λa hf=>uc (ua ?_))));refine cd_f hf rfl (by simp) (wp_skip (ua ?_));refine sq (sq (reg (pr 2 hf rfl rfl λa hf=>wl0 rfl (op_q hf (lS hf Tryz.underlying70 rfl _) rfl (by decide) λa hf=>pr 5 hf rfl rfl λa hf=>uc (ua ?_)))));have hw:w64 ((n:Int) - w64 (((0:Nat):Int) - ((0:Nat):Int)))=(n:Int):=by
    have:w64 (((0:Nat):Int) - ((0:Nat):Int))=0:=by decide
    rw[this,vu (by omega) (by omega)]; omega
  rw[hw]at hf;clear hw;have hf:=hf.prune [0,1] rfl;refine sq (reg (pr 2 hf rfl rfl λa hf=>uc (ua ?_)));by_cases h0:n=0
  · subst h0
    refine cd_f hf rfl (by simp) (wp_skip (ua ?_))
    refine sq (reg (pr 2 hf rfl rfl λa hf=>uc (ua (wp_ret ?_))))
    refine z6 (fn:=Tryz.f196) (r:=.tmp 4) hf rfl (uw hf rfl) ?_
    exact⟨_,rfl,.inl ⟨rfl,rfl⟩⟩
  refine cd_t hf rfl (by simp; omega) ?_;have hold:(Builtin.firstCells inf.size 0 (.slice none 0 0)).run Tryz.prog w.drew=.ok ([]:List Value).toArray w.drew:=rfl;have hap:=Lib.run_append_grow_zeros (P:=Tryz.prog) w 70 3 70 148 inf _ .i64 _ Tryz.underlying70 Tryz.underlying3 hinf hz1 none 0 0 [] hold n (by omega) (by rw[hz2]; decide) (by omega) (by omega) (by rw[hz3]; omega) (growslice_fits (by omega) (by rw[hz3]; omega));rw[tc]at hap;have hGge:=grownCap_ge w n 0 148;have hGle:=grownCap_le_maxLen w n 0 148 (by simp only[maxLen]; omega);generalize grownCap w n 0 148=c2 at hap hGge hGle;have hcn:cutA none 6 0 0=none:=rfl;refine reg (pr 2 hf rfl rfl λa hf=>wl0 rfl (op_q hf (lS hf Tryz.underlying70 rfl _) rfl (by decide) λa hf=>wl0 rfl (op_q hf (aI hf rfl rfl rfl rfl (yQ Tryz.underlying70 TF.bE λw=>b_hi (sK 0)) _) rfl (by decide) λa hf=>pr 1 hf rfl rfl λa hf=>?_)));rw[hcn]at hf;refine wl0 rfl (iW hf rfl rfl hap (by decide) λa hf=>pr 2 hf rfl rfl λa hf=>?_);have hcz:cutA (some (⟨w.heap.size,0,none⟩:Addr)) 6 0 c2=some ⟨w.heap.size,0,none⟩:=iu λp h=>by injection h with h; subst h; rfl
  refine wl0 rfl (op_q hf (aI hf rfl rfl rfl rfl (yQ Tryz.underlying70 TF.bE λw=>b_hi (wv c2)) _) rfl (by decide) λa hf=>?_);rw[hcz,t6,t6]at hf;refine pr 1 hf rfl rfl λa hf=>uc (ua ?_);refine sq (reg (pr 2 hf rfl rfl λa hf=>uc (ua (wp_ret ?_))));refine z6 (fn:=Tryz.f196) (r:=.tmp 4) hf rfl (uw hf rfl) ?_;refine⟨_,rfl,.inr ⟨c2,(([]:List Value).toArray++Builtin.zeroCells (Value.cells (.agg #[(.int .i64 0),(.int .i64 0),(.int .i64 0),(.slice none 0 0),(.int .i64 0),(.int .i64 0)])) n++Builtin.zeroCells (Value.cells (.agg #[(.int .i64 0),(.int .i64 0),(.int .i64 0),(.slice none 0 0),(.int .i64 0),(.int .i64 0)])) (c2 - n)).toList,rfl,by rw[tX],?_,hGle⟩⟩;rw[t7,wK,wK,size_zeroCells,size_zeroCells,show (Value.cells (.agg #[(.int .i64 0),(.int .i64 0),(.int .i64 0),(.slice none 0 0),(.int .i64 0),(.int .i64 0)])).size=6 from rfl,tC,Ab,tc,←tn];congr 1;omega
set_option maxHeartbeats 2000000 in
theorem jb:m8 Tryz.prog 282 5:=by
  intro w A A2 n cap m cap2 E0 E2 cells vs i ho hov h1 h1v hne hin hbig;have hlen:=ho.1;have hvl:=hov.1;have hnc:n≤cap∧cap≤maxLen:=by
    rcases ho.2 with ⟨hv,h0⟩ | ⟨gb,cap',cur,hv,hb,hg,hl,hm,hsz,ht⟩
    · simp only[Value.slice.injEq]at hv
      obtain⟨-,-,rfl⟩:=hv
      exact⟨by omega,by simp [maxLen]⟩
    simp only[Value.slice.injEq]at hv
    obtain⟨-,-,rfl⟩:=hv
    exact⟨hl,hm⟩
  obtain⟨hnc,hcm⟩:=hnc;have hxl:maxLen≤9223372036854775807:=by simp [maxLen]
  have hins:i * 5≤n * 5:=sQ _ hin;obtain⟨inf,hinf,hpr⟩:=sV.1 TF.ai49;simp only[tD]at hpr;obtain⟨hz1,hz2,hz3⟩:=hpr;refine enter Tryz.func282 rfl rfl (nle rfl) rfl λa hf=>?_;refine sq (reg (pr 1 hf rfl rfl λa hf=>uc (ua ?_)));refine sq (reg (pr 2 hf rfl rfl λa hf=>wl0 rfl (op_q hf (aI hf rfl rfl rfl rfl (yQ Tryz.underlying28 TF.sz49 λw=>b_lo hin) _) rfl (by decide) λa hf=>uc (ua ?_))));refine sq (reg (pr 3 hf rfl rfl λa hf=>uc (ua ?_)));refine sq (sq (reg (pr 2 hf rfl rfl λa hf=>uc (ua ?_))));by_cases hm0:m=0
  · subst hm0
    refine cd_t hf rfl (by simp) ?_
    refine sq (reg (pr 2 hf rfl rfl λa hf=>uc (ua (wp_ret (ub ?_)))))
    refine z6 (fn:=Tryz.f282) (r:=.tmp 6) hf rfl (uw hf rfl) ?_
    have hv0:vs=[]:=tF (by omega)
    subst hv0
    refine⟨_,rfl,E0,A,cap,rfl,⟨⟨rfl,rfl,rfl,sK _,λ_ _ _=>rfl⟩,sK _⟩,.inl (by cases A <;> rfl),?_⟩
    rw[tx,tw]
    exact ho
  refine cd_f hf rfl (by simp; omega) (wp_skip (ua ?_));obtain⟨b2,cap2',cur2,hv2,hb2,hg2,hl2,hm2,hsz2,ht2⟩:∃b2 cap2' cur2,(Value.slice A2 m cap2)=.slice (some ⟨b2,0,none⟩) m cap2'∧0≤b2∧w.heap[b2]?=some (.cells cur2 E2 (0,0))∧m≤cap2'∧cap2'≤maxLen∧cur2.size=cap2' * 5∧cur2.toList.take (m * 5)=vs:=by
    rcases hov.2 with ⟨_,h0⟩ | h
    · exact absurd h0 hm0
    exact h
  simp only[Value.slice.injEq]at hv2;obtain⟨rfl,-,rfl⟩:=hv2;have hb2l:b2<w.heap.size:=(tz.1 hg2).1;have hvc:∀j u,vs[j]?=some u→w.cell? ((⟨b2,0,none⟩:Addr).add j)=some u:=hov.cells (g:=b2) rfl;have hf:=hf.prune [0,1,2,7] rfl;refine sq (reg (pr 3 hf rfl rfl λa hf=>uc (ua ?_)));refine sq (sq (reg (pr 3 hf rfl rfl λa hf=>uc (ua ?_))));by_cases hie:i=n
  · subst hie
    refine cd_t hf rfl (by simp) ?_
    refine sq (reg (pr 2 hf rfl rfl λa hf=>?_))
    obtain⟨e1,v',w',hr,g1,g2,g3⟩:=di (P:=Tryz.prog) w 28 28 49 E0 inf _ 5 inf.bytes Tryz.underlying28 hinf hz1 hz2 rfl rfl (by decide) _ i cells ho ⟨b2,0,none⟩ m cap2 vs hvl hvc h1v (by simp only[maxLen]; omega) (by rw[hz3]; omega)
    refine wl0 rfl (au hf rfl rfl hr (by decide) λa hf=>?_)
    refine pr 1 hf rfl rfl λa hf=>uc (ua (wp_ret (ub ?_)))
    refine z6 (fn:=Tryz.f282) (r:=.tmp 6) hf rfl (uw hf rfl) ?_
    have hform:∃A1 cap1,v'=.slice A1 (i + m) cap1:=by
      rcases g1.2 with ⟨rfl,h0⟩ | ⟨b,cap',cur,rfl,_⟩
      · exact⟨none,0,by rw[h0]⟩
      exact⟨some ⟨b,0,none⟩,cap',rfl⟩
    obtain⟨A1,cap1,rfl⟩:=hform
    refine⟨_,rfl,e1,A1,cap1,rfl,g2,g3.imp id λh=>⟨h,(g1.lt _ h).2⟩,?_⟩
    rw[←hlen,w8,tr,s5]
    exact g1
  have hilt:i<n:=by omega
  refine cd_f hf rfl (by simp; omega) (wp_skip (ua ?_));obtain⟨gb,cap',cur,hv,hb,hg,hl,hm,hsz,ht⟩:∃gb cap' cur,(Value.slice A n cap)=.slice (some ⟨gb,0,none⟩) n cap'∧0≤gb∧w.heap[gb]?=some (.cells cur E0 (0,0))∧n≤cap'∧cap'≤maxLen∧cur.size=cap' * 5∧cur.toList.take (n * 5)=cells:=by
    rcases ho.2 with ⟨_,h0⟩ | h
    · omega
    exact h
  simp only[Value.slice.injEq]at hv;obtain⟨rfl,-,rfl⟩:=hv;have hgl:gb<w.heap.size:=(tz.1 hg).1;have hbg:b2≠gb:=λe=>hne gb rfl (by rw[e]; rfl);have hcl:cur.toList.length=cap * 5:=by rw[t7,hsz]
  have hns:n * 5≤cap * 5:=sQ _ hnc;have hni:(n - i) * 5=n * 5 - i * 5:=Ax _ _ _;have hdl:(cells.drop (i * 5)).length=(n - i) * 5:=by rw[tB,hlen,hni]
  have h1d:∀u∈cells.drop (i * 5),u.oneCell'=true:=λu hu=>h1 u (w9 hu);have him:(i + m) * 5=i * 5 + m * 5:=tn _ _ _;have hnm:(n + m) * 5=n * 5 + m * 5:=tn _ _ _;have hcz:∀c,cutA (some (⟨gb,0,none⟩:Addr)) 5 0 c=some ⟨gb,0,none⟩:=λc=>iu λp h=>by injection h with h; subst h; rfl
  have hf:=hf.prune [0,1,2,7,8] rfl;refine sq (sq (reg (pr 4 hf rfl rfl λa hf=>wl0 rfl (op_q hf (lS hf Tryz.underlying28 rfl _) rfl (by decide) λa hf=>pr 1 hf rfl rfl λa hf=>uc (ua ?_)))));rw[cR (show n + m≤1099511627776 from hbig)]at hf;by_cases hroom:n + m≤cap
  · refine cd_f hf rfl (by simp; omega) (wp_skip (ua ?_))
    have hnmc:(n + m) * 5≤cap * 5:=sQ _ hroom
    have hf:=hf.prune [0,1,2,7,8] rfl
    refine sq (reg (pr 4 hf rfl rfl λa hf=>?_))
    rw[cR (show n + m≤1099511627776 from hbig)]at hf
    refine wl0 rfl (op_q hf (aI hf rfl rfl rfl rfl (yQ Tryz.underlying28 TF.sz49 λw=>b_hi hroom) _) rfl (by decide) λa hf=>pr 1 hf rfl rfl λa hf=>uc (ua ?_))
    rw[hcz,t6,t6]at hf
    have hf:=hf.prune [0,1,2,7,8] rfl
    refine sq (sq (reg (pr 5 hf rfl rfl λa hf=>?_)))
    rw[cR (show i + m≤1099511627776 by omega)]at hf
    have hc1:cutA (some (⟨gb,0,none⟩:Addr)) 5 (i + m) cap=some ⟨gb,0 + (i + m) * 5,none⟩:=cg (by omega)
    have hc2:cutA (some (⟨gb,0,none⟩:Addr)) 5 i cap=some ⟨gb,0 + i * 5,none⟩:=cg (by omega)
    refine wl0 rfl (op_q hf (aI hf rfl rfl rfl rfl (yQ Tryz.underlying28 TF.sz49 λw=>b_lo (show i + m≤n + m by omega)) _) rfl (by decide) λa hf=>?_)
    rw[hc1]at hf
    refine wl0 rfl (op_q hf (pK hf rfl (mZ (P:=Tryz.prog) (T:=28) (TR:=4) (E:=49) (s:=5) Tryz.func317 (by kernel_rfl) (by kernel_rfl) (by kernel_rfl) (by kernel_rfl) Tryz.underlying28 TF.sz49 hbg hg2 hg (by omega))) rfl (by decide) λa hf=>pr 1 hf rfl rfl λa hf=>uc (ua ?_))
    refine cd_t hf rfl rfl ?_
    have hf:=hf.prune [0,1,2,7,8] rfl
    refine sq (drawn [] (bs:=[false,false,false,false,false,false,false,false,false]) (fuel:=9) (Checked.mixed Tryz.checked) rfl rfl λw1 hb1=>?_)
    have G1:=(GS.start hg).below hgl hb1
    refine tp 0 rfl rfl hf (by kernel_rfl) (λ_=>trivial) rfl λa hf=>?_
    refine tp 1 rfl rfl hf (by kernel_rfl) (λ_=>trivial) rfl λa hf=>?_
    refine tp 2 rfl rfl hf (by kernel_rfl) (λ_=>trivial) rfl λa hf=>?_
    refine tp 3 rfl rfl hf (by kernel_rfl) (λ_=>trivial) rfl λa hf=>?_
    rw[cR (show i + m≤1099511627776 by omega)]at hf
    refine tP 4 rfl rfl rfl rfl hf (by kernel_rfl) (λ_=>trivial) (λw=>aI hf rfl rfl rfl rfl (yQ Tryz.underlying28 TF.sz49 λw=>b_lo (show i + m≤n + m by omega)) w) λa hf=>?_
    rw[hc1]at hf
    refine tp 5 rfl rfl hf (by kernel_rfl) (λ_=>trivial) rfl λa hf=>?_
    refine tp 6 rfl rfl hf (by kernel_rfl) (λ_=>trivial) rfl λa hf=>?_
    refine tP 7 rfl rfl rfl rfl hf (by kernel_rfl) (λ_=>trivial) (λw=>aI hf rfl rfl rfl rfl (yQ Tryz.underlying28 TF.sz49 λw=>b_lo (show i≤n + m by omega)) w) λa hf=>?_
    rw[hc2]at hf
    have hcp1:=dV (P:=Tryz.prog) (T:=28) (U:=28) (ty:=3) (w:=w1) (s:=5) (o:=0 + (i + m) * 5) (dLen:=n + m - (i + m)) (dCap:=cap - (i + m)) (sLen:=n + m - i) (sCap:=cap - i) (p:=⟨gb,0 + i * 5,none⟩) (k:=n - i) (cs:=cells.drop (i * 5)) Tryz.underlying28 TF.sz49 G1 (by simp only[Av]; split <;> omega) hdl
      (λj u hj=>by
        have:=(sy.1 hj).1
        rw[add_lit,G1.cell,←hj,sN,←ht,tc,sI (by omega)]) (by rw[hcl,hdl]; omega) h1d
    refine n1 8 (by kernel_rfl) rfl rfl (cW hf rfl rfl hcp1 (by decide) λa hf=>?_)
    refine⟨λ_=>trivial,dn (by kernel_rfl) (ua ?_)⟩
    have G2:=G1.set (lay cur.toList (0 + (i + m) * 5) (cells.drop (i * 5))).toArray
    generalize w1.setRow gb (lay cur.toList (0 + (i + m) * 5) (cells.drop (i * 5))).toArray=w2 at G2 hf ⊢
    rw[ti,tc]at G2
    have hl2:(lay cur.toList ((i + m) * 5) (cells.drop (i * 5))).length=cap * 5:=by rw[dB (by rw[hcl,hdl]; omega),hcl]
    have hf:=hf.prune [0,1,2,7,8] rfl
    refine sq (reg (pr 2 hf rfl rfl λa hf=>wl0 rfl (op_q hf (aI hf rfl rfl rfl rfl (yQ Tryz.underlying28 TF.sz49 λw=>b_lo (show i≤n + m by omega)) _) rfl (by decide) λa hf=>?_)))
    rw[hc2]at hf
    refine pr 1 hf rfl rfl λa hf=>?_
    have hcp2:=dV (P:=Tryz.prog) (T:=28) (U:=28) (ty:=3) (w:=w2) (s:=5) (o:=0 + i * 5) (dLen:=n + m - i) (dCap:=cap - i) (sLen:=m) (sCap:=cap2) (p:=⟨b2,0,none⟩) (k:=m) (cs:=vs) Tryz.underlying28 TF.sz49 G2 (by simp only[Av]; split <;> omega) hvl
      (λj u hj=>by
        have:=hvc j u hj
        rw[add_lit]at this ⊢
        rw[G2.other hb2l hbg]; exact this) (by rw[hl2,hvl]; omega) h1v
    refine wl0 rfl (cW hf rfl rfl hcp2 (by decide) λa hf=>uc (ua ?_))
    have G3:=G2.set (lay (lay cur.toList ((i + m) * 5) (cells.drop (i * 5))) (0 + i * 5) vs).toArray
    generalize w2.setRow gb (lay (lay cur.toList ((i + m) * 5) (cells.drop (i * 5))) (0 + i * 5) vs).toArray=w3 at G3 hf ⊢
    rw[ti,tc]at G3
    refine sq (reg (pr 2 hf rfl rfl λa hf=>uc (ua (wp_ret (ub ?_)))))
    refine z6 (fn:=Tryz.f282) (r:=.tmp 6) hf rfl (uw hf rfl) ?_
    have hl3:(lay (lay cur.toList ((i + m) * 5) (cells.drop (i * 5))) (i * 5) vs).length=cap * 5:=by rw[dB (by rw[hl2,hvl]; omega),hl2]
    have htk:(lay (lay cur.toList ((i + m) * 5) (cells.drop (i * 5))) (i * 5) vs).take ((n + m) * 5)=cells.take (i * 5)++(vs++cells.drop (i * 5)):=by
      have:=oV (cur:=cur.toList) (o:=i * 5) (vs:=vs) (cs:=cells.drop (i * 5)) (by rw[hvl,hdl,hcl]; omega)
      rw[hvl,hdl,show i * 5 + m * 5 + (n - i) * 5=(n + m) * 5 by omega,←him]at this
      rw[this,←ht,t8,tV (by omega)]
    refine⟨_,rfl,E0,some ⟨gb,0,none⟩,cap,rfl,G3.grown _ (λ_=>rfl),.inl rfl,?_,?_⟩
    · rw[sJ,sJ,sG,hvl,hdl,hlen]; omega
    refine .inr ⟨gb,cap,(lay (lay cur.toList ((i + m) * 5) (cells.drop (i * 5))) (i * 5) vs).toArray,rfl,wv _,G3.at_,hroom,hm,by rw[tC,hl3],?_⟩
    rw[ti,htk]
  refine cd_t hf rfl (by simp; omega) ?_;have hf:=hf.prune [0,1,2,7,8] rfl;refine sq (reg (pr 2 hf rfl rfl λa hf=>wl0 rfl (op_q hf (aI hf rfl rfl rfl rfl (yQ Tryz.underlying28 TF.sz49 λw=>b_hi (show i≤cap by omega)) _) rfl (by decide) λa hf=>pr 5 hf rfl rfl λa hf=>?_)));rw[cR (show n + m≤1099511627776 from hbig),ng (show i≤n + m by omega) (show n + m≤1099511627776 from hbig),hcz,t6,t6]at hf;have hold:(Builtin.firstCells inf.size i (.slice (some ⟨gb,0,none⟩) i cap)).run Tryz.prog w.drew=.ok (cells.take (i * 5)).toArray w.drew:=by
    rw[hz2]
    refine run_firstCells_some (P:=Tryz.prog) w.drew 5 i ⟨gb,0,none⟩ i cap (cells.take (i * 5)) (by rw[sG,hlen]; omega) λj u hj=>?_
    have hj':=(sy.1 hj).1
    rw[sG]at hj'
    rw[sI (by omega)]at hj
    exact ho.cells (g:=gb) rfl j u hj
  have hap:=Lib.run_append_grow_zeros (P:=Tryz.prog) w 28 3 28 49 inf _ .i64 _ Tryz.underlying28 Tryz.underlying3 hinf hz1 (some ⟨gb,0,none⟩) i cap (cells.take (i * 5)) hold (n + m - i) (by omega) (by rw[hz2]; decide) (by omega) (by omega) (by rw[hz3]; omega) (growslice_fits (by omega) (by rw[hz3]; omega));rw[show i + (n + m - i)=n + m by omega]at hap;have hGge:=grownCap_ge w (n + m) cap 49;have hGle:=grownCap_le_maxLen w (n + m) cap 49 (by simp only[maxLen]; omega);generalize grownCap w (n + m) cap 49=c2 at hap hGge hGle;refine wl0 rfl (iW hf rfl rfl hap (by decide) λa hf=>pr 1 hf rfl rfl λa hf=>uc (ua ?_));obtain⟨cur3,hcur3⟩:∃c:Array Value,c=(cells.take (i * 5)).toArray++Builtin.zeroCells (Value.cells (.agg #[(.int .i64 0),(.int .i64 0),(.slice none 0 0),(.int .i64 0),(.int .i64 0)])) (n + m - i)++Builtin.zeroCells (Value.cells (.agg #[(.int .i64 0),(.int .i64 0),(.slice none 0 0),(.int .i64 0),(.int .i64 0)])) (c2 - (n + m)):=⟨_,rfl⟩;have hl3:cur3.toList.length=c2 * 5:=by
    rw[hcur3,t7,wK,wK,size_zeroCells,size_zeroCells,tC,sG,hlen,show (Value.cells (.agg #[(.int .i64 0),(.int .i64 0),(.slice none 0 0),(.int .i64 0),(.int .i64 0)])).size=5 from rfl,tV hins,←tn,←tn]
    congr 1
    omega
  have ht3:cur3.toList.take (i * 5)=cells.take (i * 5):=by
    rw[hcur3,Ad,Ad,sE,td (by rw[ti,sG,hlen]; omega),ti,t8,Nat.min_self]
  have G0:=GS.alloc w cur3 49;have hwe:w.drew.alloc (.cells cur3 49)=w.drew.alloc (.cells ((cells.take (i * 5)).toArray++Builtin.zeroCells (Value.cells (.agg #[(.int .i64 0),(.int .i64 0),(.slice none 0 0),(.int .i64 0),(.int .i64 0)])) (n + m - i)++Builtin.zeroCells (Value.cells (.agg #[(.int .i64 0),(.int .i64 0),(.slice none 0 0),(.int .i64 0),(.int .i64 0)])) (c2 - (n + m))) 49):=by rw[hcur3]
  rw[hwe]at G0;generalize w.drew.alloc (.cells ((cells.take (i * 5)).toArray++Builtin.zeroCells (Value.cells (.agg #[(.int .i64 0),(.int .i64 0),(.slice none 0 0),(.int .i64 0),(.int .i64 0)])) (n + m - i)++Builtin.zeroCells (Value.cells (.agg #[(.int .i64 0),(.int .i64 0),(.slice none 0 0),(.int .i64 0),(.int .i64 0)])) (c2 - (n + m))) 49)=w2 at G0 hf ⊢;clear hap hwe hcur3;have hcn:c2 * 5=n * 5 + m * 5 + (c2 - (n + m)) * 5:=by rw[←tn,←tn]; congr 1; omega
  obtain⟨nb,hnb⟩:∃q,q=w.heap.size:=⟨_,rfl⟩;rw[←hnb]at G0 hf;have hn2:b2≠nb:=by omega
  have hng:gb≠nb:=by omega
  have hc1:cutA (some (⟨nb,0,none⟩:Addr)) 5 (i + m) c2=some ⟨nb,0 + (i + m) * 5,none⟩:=cg (by omega);have hc2:cutA (some (⟨nb,0,none⟩:Addr)) 5 i c2=some ⟨nb,0 + i * 5,none⟩:=cg (by omega);have hc3:cutA (some (⟨gb,0,none⟩:Addr)) 5 i cap=some ⟨gb,0 + i * 5,none⟩:=cg (by omega);have hf:=hf.prune [0,1,2,7,8,9] rfl;refine sq (reg (pr 2 hf rfl rfl λa hf=>wl0 rfl (op_q hf (aI hf rfl rfl rfl rfl (yQ Tryz.underlying28 TF.sz49 λw=>b_lo (show i≤n + m by omega)) _) rfl (by decide) λa hf=>?_)));rw[hc2]at hf;refine pr 1 hf rfl rfl λa hf=>?_;have hcp2:=dV (P:=Tryz.prog) (T:=28) (U:=28) (ty:=3) (w:=w2) (s:=5) (o:=0 + i * 5) (dLen:=n + m - i) (dCap:=c2 - i) (sLen:=m) (sCap:=cap2) (p:=⟨b2,0,none⟩) (k:=m) (cs:=vs) Tryz.underlying28 TF.sz49 G0 (by simp only[Av]; split <;> omega) hvl
    (λj u hj=>by
      have:=hvc j u hj
      rw[add_lit]at this ⊢
      rw[G0.other hb2l hn2]; exact this) (by rw[hl3,hvl]; omega) h1v
  refine wl0 rfl (cW hf rfl rfl hcp2 (by decide) λa hf=>uc (ua ?_));have G1:=G0.set (lay cur3.toList (0 + i * 5) vs).toArray;generalize w2.setRow nb (lay cur3.toList (0 + i * 5) vs).toArray=w3 at G1 hf ⊢;rw[ti,tc]at G1;have hl4:(lay cur3.toList (i * 5) vs).length=c2 * 5:=by rw[dB (by rw[hl3,hvl]; omega),hl3]
  have hf:=hf.prune [0,1,2,7,8,9] rfl;refine sq (drawn [] (bs:=[false,false,false,false,false,false,false,false,false]) (fuel:=9) (Checked.mixed Tryz.checked) rfl rfl λw4 hb4=>?_);have G2:=G1.below' G1.lt hb4;refine tp 0 rfl rfl hf (by kernel_rfl) (λ_=>trivial) rfl λa hf=>?_;refine tp 1 rfl rfl hf (by kernel_rfl) (λ_=>trivial) rfl λa hf=>?_;refine tp 2 rfl rfl hf (by kernel_rfl) (λ_=>trivial) rfl λa hf=>?_;refine tp 3 rfl rfl hf (by kernel_rfl) (λ_=>trivial) rfl λa hf=>?_;rw[cR (show i + m≤1099511627776 by omega)]at hf;refine tP 4 rfl rfl rfl rfl hf (by kernel_rfl) (λ_=>trivial) (λw=>aI hf rfl rfl rfl rfl (yQ Tryz.underlying28 TF.sz49 λw=>b_lo (show i + m≤n + m by omega)) w) λa hf=>?_;rw[hc1]at hf;refine tp 5 rfl rfl hf (by kernel_rfl) (λ_=>trivial) rfl λa hf=>?_;refine tp 6 rfl rfl hf (by kernel_rfl) (λ_=>trivial) rfl λa hf=>?_;refine tP 7 rfl rfl rfl rfl hf (by kernel_rfl) (λ_=>trivial) (λw=>aI hf rfl rfl rfl rfl (yQ Tryz.underlying28 TF.sz49 λw=>b_lo (show i≤n by omega)) w) λa hf=>?_;rw[hc3]at hf;have hcp1:=dV (P:=Tryz.prog) (T:=28) (U:=28) (ty:=3) (w:=w4) (s:=5) (o:=0 + (i + m) * 5) (dLen:=n + m - (i + m)) (dCap:=c2 - (i + m)) (sLen:=n - i) (sCap:=cap - i) (p:=⟨gb,0 + i * 5,none⟩) (k:=n - i) (cs:=cells.drop (i * 5)) Tryz.underlying28 TF.sz49 G2 (by simp only[Av]; split <;> omega) hdl
    (λj u hj=>by
      rw[add_lit,G2.other hgl hng]
      have hc:=ho.cells (g:=gb) rfl (i * 5 + j) u (by rw[←hj,sN])
      rw[add_lit]at hc
      rw[←hc]
      congr 2
      omega) (by rw[hl4,hdl]; omega) h1d
  refine n1 8 (by kernel_rfl) rfl rfl (cW hf rfl rfl hcp1 (by decide) λa hf=>?_);refine⟨λ_=>trivial,dn (by kernel_rfl) (ua ?_)⟩;have G3:=G2.set (lay (lay cur3.toList (i * 5) vs) (0 + (i + m) * 5) (cells.drop (i * 5))).toArray;generalize w4.setRow nb (lay (lay cur3.toList (i * 5) vs) (0 + (i + m) * 5) (cells.drop (i * 5))).toArray=w5 at G3 hf ⊢;rw[ti,tc]at G3;have hf:=hf.prune [0,1,2,7,8,9] rfl;refine sq (reg (pr 2 hf rfl rfl λa hf=>uc (ua (wp_ret (ub ?_)))));refine z6 (fn:=Tryz.f282) (r:=.tmp 6) hf rfl (uw hf rfl) ?_;have hl5:(lay (lay cur3.toList (i * 5) vs) ((i + m) * 5) (cells.drop (i * 5))).length=c2 * 5:=by rw[dB (by rw[hl4,hdl]; omega),hl4]
  have htk:(lay (lay cur3.toList (i * 5) vs) ((i + m) * 5) (cells.drop (i * 5))).take ((n + m) * 5)=cells.take (i * 5)++(vs++cells.drop (i * 5)):=by
    have h6:=im (cur:=lay cur3.toList (i * 5) vs) (o:=(i + m) * 5) (cs:=cells.drop (i * 5)) (by rw[hl4]; omega)
    rw[hdl,show (i + m) * 5 + (n - i) * 5=(n + m) * 5 by omega]at h6
    have h7:=im (cur:=cur3.toList) (o:=i * 5) (cs:=vs) (by rw[hl3]; omega)
    rw[hvl,←him]at h7
    rw[h6,h7,ht3,sE]
  refine⟨_,rfl,49,some ⟨nb,0,none⟩,c2,rfl,G3.grown _ (λh=>by omega),.inr ⟨by rw[←hnb]; rfl,by have:=G3.lt; omega⟩,?_,?_⟩
  · rw[sJ,sJ,sG,hvl,hdl,hlen]; omega
  refine .inr ⟨nb,c2,(lay (lay cur3.toList (i * 5) vs) ((i + m) * 5) (cells.drop (i * 5))).toArray,rfl,wv _,G3.at_,hGge,hGle,by rw[tC,hl5],?_⟩;rw[ti,htk]
set_option maxHeartbeats 1000000 in
theorem je:m9 Tryz.prog 338 5:=by
  intro w A n cap E0 cells i j ho h1 hij hjn;have hlen:=ho.1;have hnc:n≤cap:=by
    rcases ho.2 with ⟨hv,h0⟩ | ⟨gb,cap',cur,hv,hb,hg,hl,hm,hsz,ht⟩
    · omega
    simp only[Value.slice.injEq]at hv
    obtain⟨-,-,rfl⟩:=hv
    exact hl
  refine enter Tryz.func338 rfl rfl (nle rfl) rfl λa hf=>?_;refine sq (reg (pr 1 hf rfl rfl λa hf=>uc (ua ?_)));refine sq (reg (pr 5 hf rfl rfl λa hf=>wl0 rfl (op_q hf (aI hf rfl rfl rfl rfl (yQ Tryz.underlying28 TF.sz49 λw=>sn hij hjn hnc) _) rfl (by decide) λa hf=>uc (ua ?_))));refine sq (sq (reg (pr 3 hf rfl rfl λa hf=>uc (ua ?_))));by_cases heq:i=j
  · subst heq
    refine cd_t hf rfl (by simp) ?_
    refine sq (reg (pr 2 hf rfl rfl λa hf=>uc (ua (wp_ret (ub ?_)))))
    refine z6 (fn:=Tryz.f338) (r:=.tmp 6) hf rfl (uw hf rfl) ?_
    refine⟨_,rfl,by rw[Ar,t6],⟨⟨rfl,rfl,rfl,sK _,λ_ _ _=>rfl⟩,sK _⟩,?_⟩
    rw[Ar,t6,tw]
    exact ho
  refine cd_f hf rfl (by simp; omega) (wp_skip (ua ?_));rcases ho.2 with ⟨hv,h0⟩ | ⟨gb,cap',cur,hv,hb,hg,hl,hm,hsz,ht⟩
  · omega
  simp only[Value.slice.injEq]at hv;obtain⟨rfl,-,rfl⟩:=hv;have hgl:gb<w.heap.size:=(tz.1 hg).1;have hcl:cur.toList.length=cap * 5:=by rw[t7,hsz]
  have hjs:j * 5≤n * 5:=sQ _ hjn;have his:i * 5≤j * 5:=sQ _ hij;have hns:n * 5≤cap * 5:=sQ _ hnc;refine sq (reg (pr 3 hf rfl rfl λa hf=>uc (ua ?_)));refine sq (drawn [] (bs:=[false,false,false,false,false,false,false,false]) (fuel:=8) (Checked.mixed Tryz.checked) rfl rfl λw1 hb1=>?_);have G1:=(GS.start hg).below hgl hb1;refine tp 0 rfl rfl hf (by kernel_rfl) (λ_=>trivial) rfl λa hf=>?_;refine tp 1 rfl rfl hf (by kernel_rfl) (λ_=>trivial) rfl λa hf=>?_;refine tP 2 rfl rfl rfl rfl hf (by kernel_rfl) (λ_=>trivial) (λw=>aI hf rfl rfl rfl rfl (yQ Tryz.underlying28 TF.sz49 λw=>b_hi (show i≤cap by omega)) w) λa hf=>?_;refine tp 3 rfl rfl hf (by kernel_rfl) (λ_=>trivial) rfl λa hf=>?_;refine tp 4 rfl rfl hf (by kernel_rfl) (λ_=>trivial) rfl λa hf=>?_;refine tP 5 rfl rfl rfl rfl hf (by kernel_rfl) (λ_=>trivial) (λw=>aI hf rfl rfl rfl rfl (yQ Tryz.underlying28 TF.sz49 λw=>b_lo hjn) w) λa hf=>?_;have hcut:∃p:Addr,cutA (some (⟨gb,0,none⟩:Addr)) 5 j cap=some p∧∀q u,(cells.drop (j * 5))[q]?=some u→w1.cell? (p.add q)=some u:=by
    by_cases hc:cap=j
    · refine⟨⟨gb,0,none⟩,by unfold cutA; rw[if_pos hc],λq u hu=>?_⟩
      have:cells.drop (j * 5)=[]:=wd (by omega)
      rw[this]at hu; simp at hu
    refine⟨⟨gb,0 + j * 5,none⟩,cg hc,λq u hu=>?_⟩
    rw[add_lit,G1.cell,←hu,sN,←ht,tc,sI]
    have:=(sy.1 hu).1
    rw[tB]at this
    omega
  obtain⟨p,hp,hsrc⟩:=hcut;rw[hp]at hf;have hcz:cutA (some (⟨gb,0,none⟩:Addr)) 5 0 cap=some ⟨gb,0,none⟩:=iu λp h=>by injection h with h; subst h; rfl
  rw[hcz]at hf;obtain⟨inf,hinf,hpr⟩:=sV.1 TF.ai49;simp only[tD]at hpr;obtain⟨hz1,hz2,hz3⟩:=hpr;have hnl:(cells.drop (j * 5)).length=(n - j) * 5:=by rw[tB,hlen,Ax]
  have hnj:(n - j) * 5=n * 5 - j * 5:=Ax _ _ _;have hat:w1.heap[gb]?=some (.cells cur E0 (0,0)):=by have:=G1.at_; rwa [tX]at this
  have hrun:(Builtin.append_ #[28,28] 28 #[.slice (some ⟨gb,0,none⟩) (i - 0) (cap - 0),.slice (some p) (n - j) (cap - j)]).run Tryz.prog w1=.ok (.slice (some ⟨gb,0,none⟩) (i + (n - j)) cap) (w1.setRow gb (lay cur.toList (i * 5) (cells.drop (j * 5))).toArray):=by
    have:=bf (P:=Tryz.prog) w1 28 28 49 E0 inf Tryz.underlying28 hinf gb i cap cur hat p (n - j) (cap - j) (cells.drop (j * 5)) (by rw[hnl,hz2]) hsrc (λu hu=>h1 u (w9 hu)) (by omega) (by rw[hz2,hnl,hsz]; omega)
    rw[hz2]at this
    rw[t6,t6]
    exact this
  refine n1 6 (by kernel_rfl) rfl rfl (au hf rfl rfl hrun (by decide) λa hf=>?_);refine⟨λ_=>trivial,?_⟩;refine tp 7 rfl rfl hf (by kernel_rfl) (λ_=>trivial) rfl λa hf=>?_;refine dn (by kernel_rfl) (ua ?_);have hfit1:i * 5 + (cells.drop (j * 5)).length≤cur.toList.length:=by rw[hnl,hcl]; omega
  have G2:=G1.set (lay cur.toList (i * 5) (cells.drop (j * 5))).toArray;generalize w1.setRow gb (lay cur.toList (i * 5) (cells.drop (j * 5))).toArray=w2 at G2 hf ⊢;have hl2:=dB hfit1;have ht2:(lay cur.toList (i * 5) (cells.drop (j * 5))).take ((i + (n - j)) * 5)=cells.take (i * 5)++cells.drop (j * 5):=by
    have:=im (cur:=cur.toList) (o:=i * 5) (cs:=cells.drop (j * 5)) (by omega)
    rw[hnl,←tn]at this
    rw[this,←ht,t8,tV (by omega)]
  have hf:=hf.prune [0,7] rfl;have hq:i + (n - j) + (n - (i + (n - j)))≤cap:=by omega
  have hqs:(i + (n - j) + (n - (i + (n - j)))) * 5≤cap * 5:=sQ _ hq;rw[tn]at hqs;have hcz2:cutA (some (⟨gb,0,none⟩:Addr)) 5 (i + (n - j)) cap=some ⟨gb,0 + (i + (n - j)) * 5,none⟩:=cg (by omega);obtain⟨zs,hzl,hclr⟩:=kz (s:=5) (P:=Tryz.prog) (ty:=28) (w:=w2) (c:=cap - (i + (n - j))) (k:=n - (i + (n - j))) (o:=0 + (i + (n - j)) * 5) Tryz.underlying28 TF.zv49 rfl (by decide) (by decide) (by omega) G2 (by rw[ti,hl2,hcl]; omega);refine sq (reg (pr 4 hf rfl rfl λa hf=>wl0 rfl (op_q hf (aI hf rfl rfl rfl rfl (yQ Tryz.underlying28 TF.sz49 λw=>b_lh (show i + (n - j)≤n by omega) hnc) _) rfl (by decide) λa hf=>?_)));rw[hcz2]at hf;refine wl0 rfl (jy hf rfl hclr λa hf=>uc (ua ?_));have G3:=G2.set (lay (lay cur.toList (i * 5) (cells.drop (j * 5))).toArray.toList (0 + (i + (n - j)) * 5) zs).toArray;generalize w2.setRow gb (lay (lay cur.toList (i * 5) (cells.drop (j * 5))).toArray.toList (0 + (i + (n - j)) * 5) zs).toArray=w3 at G3 hf ⊢;rw[ti,ti,tc]at G3;refine sq (reg (pr 2 hf rfl rfl λa hf=>uc (ua (wp_ret ?_))));refine z6 (fn:=Tryz.f338) (r:=.tmp 6) hf rfl (uw hf rfl) ?_;have hnn:i + (n - j)=n - (j - i):=by omega
  have hl3:(lay (lay cur.toList (i * 5) (cells.drop (j * 5))) ((i + (n - j)) * 5) zs).length=cap * 5:=by rw[dB (by rw[hl2,hcl,hzl]; omega),hl2,hcl]
  refine⟨_,rfl,by rw[hnn],G3.grown _ (λ_=>rfl),?_,?_⟩
  · rw[sJ,sG,tB,hlen,←hnn,tn,hnj]; omega
  refine .inr ⟨gb,cap,(lay (lay cur.toList (i * 5) (cells.drop (j * 5))) ((i + (n - j)) * 5) zs).toArray,rfl,wv _,G3.at_,by omega,hm,by rw[tC,hl3],?_⟩;rw[ti,←hnn,fR (by rw[hl2,hcl]; omega) (sK _),ht2]
end AT
