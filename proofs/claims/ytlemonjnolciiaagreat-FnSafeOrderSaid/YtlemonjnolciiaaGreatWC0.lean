/- The Go functions do what is told of them, by program (gen.py). -/
import Derived.Test.YtlemonjnolciiaaGreatT
import Derived.Test.YtlemonjnolciiaaGreatK
set_option linter.unusedVariables false
set_option linter.unusedSimpArgs false
set_option maxRecDepth 100000
set_option maxHeartbeats 1000000
namespace AT
open Go Go.RowKit Go.Proofs
variable {fu:Nat} {w0:World}
theorem gf0 {S:Nat→Prop} {v0_:Value} {code:List By} {r:Bool} (h0:VR w0 S v0_ code) (hF:gdj fu code=some r) :
    Calls Tryz.prog 10 [v0_].toArray w0 fun e w'=>∃ v,e=.returned v∧(Below w0.heap.size w0 w'∧VR w' (St ⟨w0,[]⟩ S [] [] [] true) v r):=by
 obtain ⟨A,c,rfl,hl⟩:=u4 h0
 have H:=Mem.start ⟨w0,[]⟩ S
 have H:=H.pA hl
 refine en Tryz.func10 fun a hf=>?_
 rw [gdj] at hF
 refine sqz (pz 1 hf fun a hf=>?_)
 refine wr (pz 4 hf fun a hf=>?_)
 refine wer ?_
 obtain rfl:=oi hF
 refine rT hf ?_
 exact ⟨_,rfl,H.bel,uk⟩
theorem gbH {S:Nat→Prop} {b0:Nat} {cs0:List Value} {c:L1CurP} {r:Int×L1CurP} (hp0:w0.heap[b0]?=some (.cells cs0.toArray 109 (0,0))) (hr0:GoTy.rep w0 S cs0 c) (hS0:¬S b0) (hF:yX fu c=some r) :
    Calls Tryz.prog 213 [(.pointer (some ⟨b0,0,none⟩))].toArray w0 fun e w'=>∃ v,e=.returned v∧(Chg w0 w' [b0]∧∃ cs',w'.heap[b0]?=some (.cells cs'.toArray 109 (0,0))∧GoTy.rep w' (St ⟨w0,[b0]⟩ S [⟨b0,109,cs'⟩] [] [] false) cs' r.2∧(cs'[0]?=cs0[0]?∧r.2.code=c.code)∧VR w' (St ⟨w0,[b0]⟩ S [⟨b0,109,cs'⟩] [] [] true) v r.1):=by
 obtain ⟨A,c2,rfl,hl⟩:=uc hr0
 have H:=Mem.startB S hp0
 have H:=H.pB hS0 hl
 refine en Tryz.func213 fun a hf=>?_
 rw [yX] at hF
 refine sqz (pz 1 hf fun a hf=>?_)
 refine wr (pz 1 hf fun a hf=>?_)
 refine ub (ua (sq (sq (dw [] 10 fun w hb=>?_))))
 have H:=H.keep hb
 refine zp 0 hf trivial fun a hf=>?_
 refine zp 1 hf trivial fun a hf=>?_
 refine zp 2 hf trivial fun a hf=>?_
 refine strT (H.lk 1 0 0 []) (fun w H=>trivial) fun hS=>?_
 refine zS 3 [] rfl rfl rfl rfl hf hS (fun w H=>ue hf H TF.ls3 0 rfl rfl rfl) fun a hf=>?_
 refine zp 4 hf hS fun a hf=>?_
 refine zp 5 hf hS fun a hf=>?_
 refine zp 6 hf hS fun a hf=>?_
 refine zS 7 [] rfl rfl rfl rfl hf hS (fun w H=>ue hf H TF.ls22 0 rfl rfl rfl) fun a hf=>?_
 refine zp 8 hf hS fun a hf=>?_
 refine zp 9 hf hS fun a hf=>?_
 refine dk ?_
 refine ua (ib hF hf (fun hc hF=>?_) fun hc hF=>?_)
 refine dw [] 12 fun w hb=>?_
 have H:=H.keep hb
 refine zp 0 hf trivial fun a hf=>?_
 refine zp 1 hf trivial fun a hf=>?_
 refine zp 2 hf trivial fun a hf=>?_
 refine strT (H.lk 1 0 0 []) (fun w H=>trivial) fun hS=>?_
 refine zS 3 [] rfl rfl rfl rfl hf hS (fun w H=>ue hf H TF.ls22 0 rfl rfl rfl) fun a hf=>?_
 refine zp 4 hf hS fun a hf=>?_
 refine zp 5 hf hS fun a hf=>?_
 refine zp 6 hf hS fun a hf=>?_
 refine zS 7 [] rfl rfl rfl rfl hf hS (fun w H=>ue hf H TF.ls3 0 rfl rfl rfl) fun a hf=>?_
 obtain ⟨e,he,hF⟩:=bs_ hF
 obtain ⟨p,o2,cs2,hx,hr2,H⟩:=ux H Tryz.underlying22 TF.sz5 0 rfl he
 refine zP 8 rfl rfl rfl rfl hf hS (fun w=>uu hf rfl rfl rfl hx w) fun a hf=>?_
 obtain rfl:=hr2
 refine strT (H.lk 1 0 0 [0]) (fun w H=>H.lk 1 0 0 []) fun hS=>?_
 refine zS 9 [] rfl rfl rfl rfl hf hS (fun w H=>uI hf H TF.ls5 0 0 rfl rfl rfl) fun a hf=>?_
 refine nn 10 rfl (op_q hf (zk i64w Tryz.underlying5 Tryz.underlying3 hf rfl) rfl (by decide) fun a hf=>?_)
 have hS:=H.lk 1 0 0 [0]
 refine aS hS ?_
 refine zp 11 hf hS fun a hf=>?_
 refine dk ?_
 have hf:=hf.pn [0,3]
 refine ua (sqz (pz 3 hf fun a hf=>?_))
 refine lB 0 hf H TF.ls3 fun a hf=>?_
 refine pz 3 hf fun a hf=>?_
 refine sB 0 hf H TF.sz3 fun w H=>?_
 refine wr (pz 4 hf fun a hf=>?_)
 refine lB 0 hf H TF.gjl fun a hf=>?_
 refine oq hf (ghX u64w hf rfl rfl) fun a hf=>?_
 refine pz 1 hf fun a hf=>?_
 refine oq hf (zk u64w Tryz.underlying3 Tryz.underlying107 hf rfl) fun a hf=>?_
 refine oq hf (gff u64w hf rfl rfl) fun a hf=>?_
 refine oq hf (gff u64w hf rfl rfl) fun a hf=>?_
 refine pz 2 hf fun a hf=>?_
 refine sB 0 hf H TF.gkL fun w H=>?_
 have hf:=hf.pn [0,3]
 refine ub (ua (sq (sq (dw [] 10 fun w hb=>?_))))
 have H:=H.keep hb
 refine zp 0 hf trivial fun a hf=>?_
 refine zp 1 hf trivial fun a hf=>?_
 refine zp 2 hf trivial fun a hf=>?_
 refine strT (H.lk 1 0 0 []) (fun w H=>trivial) fun hS=>?_
 refine zS 3 [] rfl rfl rfl rfl hf hS (fun w H=>ue hf H TF.ls3 0 rfl rfl rfl) fun a hf=>?_
 refine zp 4 hf hS fun a hf=>?_
 refine zp 5 hf hS fun a hf=>?_
 refine zp 6 hf hS fun a hf=>?_
 refine zS 7 [] rfl rfl rfl rfl hf hS (fun w H=>ue hf H TF.ls22 0 rfl rfl rfl) fun a hf=>?_
 refine zp 8 hf hS fun a hf=>?_
 refine zp 9 hf hS fun a hf=>?_
 refine dk ?_
 refine ua (ib hF hf (fun hc2 hF=>?_) fun hc2 hF=>?_)
 refine sqz (pz 2 hf fun a hf=>?_)
 have hf:=hf.pn [2]
 refine ub (ua (wp_ret (uf (?_))))
 obtain rfl:=oi hF
 refine rT hf ?_
 exact ⟨_,rfl,H.chg,_,H.boxAt 0 rfl,(ud (x:=({ code:=c.code,at_:=w64 (c.at_ + 1),seed:=(⟨wu64 ((wu64 ((wu64 (c.seed.n * 6364136223846793005)) + (wu64 (w64 e.n)))) + 897897)⟩:U64) }:L1CurP)) (eB 0 (H.get 1 rfl))),⟨rfl,rfl⟩,ug⟩
 refine wp_skip (ua (sqz (pz 3 hf fun a hf=>?_)))
 refine lB 0 hf H TF.gjl fun a hf=>?_
 obtain ⟨q,hq,hF⟩:=bs_ hF
 refine oq hf (ghT rfl hf rfl rfl hq) fun a hf=>?_
 refine oq hf (gfI hf rfl rfl) fun a hf=>?_
 refine oq hf (zk i64w Tryz.underlying107 Tryz.underlying3 hf rfl) fun a hf=>?_
 refine pz 1 hf fun a hf=>?_
 have hf:=hf.pn [2]
 refine wer ?_
 obtain rfl:=oi hF
 refine rT hf ?_
 exact ⟨_,rfl,H.chg,_,H.boxAt 0 rfl,(ud (x:=({ code:=c.code,at_:=w64 (c.at_ + 1),seed:=(⟨wu64 ((wu64 ((wu64 (c.seed.n * 6364136223846793005)) + (wu64 (w64 e.n)))) + 897897)⟩:U64) }:L1CurP)) (eB 0 (H.get 1 rfl))),⟨rfl,rfl⟩,ug⟩
 refine wp_skip (ua (sqz (pz 3 hf fun a hf=>?_)))
 refine lB 0 hf H TF.ls3 fun a hf=>?_
 refine pz 3 hf fun a hf=>?_
 refine sB 0 hf H TF.sz3 fun w H=>?_
 have hf:=hf.pn [0,3]
 refine wr (pz 4 hf fun a hf=>?_)
 refine lB 0 hf H TF.gjl fun a hf=>?_
 refine oq hf (ghX u64w hf rfl rfl) fun a hf=>?_
 refine pz 1 hf fun a hf=>?_
 refine oq hf (zk u64w Tryz.underlying3 Tryz.underlying107 hf rfl) fun a hf=>?_
 refine oq hf (gff u64w hf rfl rfl) fun a hf=>?_
 refine oq hf (gff u64w hf rfl rfl) fun a hf=>?_
 refine pz 2 hf fun a hf=>?_
 refine sB 0 hf H TF.gkL fun w H=>?_
 refine ub (ua (sq (sq (dw [] 10 fun w hb=>?_))))
 have H:=H.keep hb
 refine zp 0 hf trivial fun a hf=>?_
 refine zp 1 hf trivial fun a hf=>?_
 refine zp 2 hf trivial fun a hf=>?_
 refine strT (H.lk 1 0 0 []) (fun w H=>trivial) fun hS=>?_
 refine zS 3 [] rfl rfl rfl rfl hf hS (fun w H=>ue hf H TF.ls3 0 rfl rfl rfl) fun a hf=>?_
 refine zp 4 hf hS fun a hf=>?_
 refine zp 5 hf hS fun a hf=>?_
 refine zp 6 hf hS fun a hf=>?_
 refine zS 7 [] rfl rfl rfl rfl hf hS (fun w H=>ue hf H TF.ls22 0 rfl rfl rfl) fun a hf=>?_
 refine zp 8 hf hS fun a hf=>?_
 refine zp 9 hf hS fun a hf=>?_
 refine dk ?_
 have hf:=hf.pn [0,3,53]
 refine ua (ib hF hf (fun hc3 hF=>?_) fun hc3 hF=>?_)
 refine sqz (pz 2 hf fun a hf=>?_)
 refine ub (ua (wp_ret (uf (?_))))
 obtain rfl:=oi hF
 refine rT hf ?_
 exact ⟨_,rfl,H.chg,_,H.boxAt 0 rfl,(ud (x:=({ code:=c.code,at_:=w64 (c.at_ + 1),seed:=(⟨wu64 ((wu64 ((wu64 (c.seed.n * 6364136223846793005)) + (wu64 0))) + 897897)⟩:U64) }:L1CurP)) (eB 0 (H.get 0 rfl))),⟨rfl,rfl⟩,ug⟩
 refine wp_skip (ua (sqz (pz 3 hf fun a hf=>?_)))
 refine lB 0 hf H TF.gjl fun a hf=>?_
 obtain ⟨q2,hq2,hF⟩:=bs_ hF
 refine oq hf (ghT rfl hf rfl rfl hq2) fun a hf=>?_
 refine oq hf (gfI hf rfl rfl) fun a hf=>?_
 refine oq hf (zk i64w Tryz.underlying107 Tryz.underlying3 hf rfl) fun a hf=>?_
 refine pz 1 hf fun a hf=>?_
 refine wer ?_
 obtain rfl:=oi hF
 refine rT hf ?_
 exact ⟨_,rfl,H.chg,_,H.boxAt 0 rfl,(ud (x:=({ code:=c.code,at_:=w64 (c.at_ + 1),seed:=(⟨wu64 ((wu64 ((wu64 (c.seed.n * 6364136223846793005)) + (wu64 0))) + 897897)⟩:U64) }:L1CurP)) (eB 0 (H.get 0 rfl))),⟨rfl,rfl⟩,ug⟩
theorem ui {S:Nat→Prop} {b0:Nat} {cs0:List Value} {v1_:Value} {c:L1CurP} {n':Int} {r:Int×L1CurP} (hp0:w0.heap[b0]?=some (.cells cs0.toArray 109 (0,0))) (hr0:GoTy.rep w0 S cs0 c) (hS0:¬S b0) (h1:VR w0 S v1_ n') (hF:ur fu c n'=some r) :
    Calls Tryz.prog 121 [(.pointer (some ⟨b0,0,none⟩)),v1_].toArray w0 fun e w'=>∃ v,e=.returned v∧(Chg w0 w' [b0]∧∃ cs',w'.heap[b0]?=some (.cells cs'.toArray 109 (0,0))∧GoTy.rep w' (St ⟨w0,[b0]⟩ S [⟨b0,109,cs'⟩] [] [] false) cs' r.2∧(cs'[0]?=cs0[0]?∧r.2.code=c.code)∧VR w' (St ⟨w0,[b0]⟩ S [⟨b0,109,cs'⟩] [] [] true) v r.1):=by
 obtain ⟨A,c2,rfl,hl⟩:=uc hr0
 obtain rfl:=uv h1
 have H:=Mem.startB S hp0
 have H:=H.pB hS0 hl
 refine en Tryz.func121 fun a hf=>?_
 rw [ur] at hF
 refine sqz (pz 1 hf fun a hf=>?_)
 refine we (sqz (pz 2 hf fun a hf=>?_))
 refine ub (ua (ib hF hf (fun hc hF=>?_) fun hc hF=>?_))
 refine sqz (pz 1 hf fun a hf=>?_)
 refine ub (ua (wp_ret (uf (?_))))
 obtain rfl:=oi hF
 refine rT hf ?_
 exact ⟨_,rfl,H.chg,_,H.boxAt 0 rfl,(ud (x:=c) (eB 0 (H.get 0 rfl))),⟨rfl,rfl⟩,ug⟩
 refine wp_skip (ua (sqz (pz 1 hf fun a hf=>?_)))
 obtain ⟨y,hy,hF⟩:=bs_ hF
 refine oc hf TF.glo (gbH (S:=NB b0) (H.boxAt 0 rfl) ((ud (x:=c) (H.nb 0 rfl (H.get 0 rfl)))) (fun h=>h rfl) hy) fun v w a hp3 hf=>?_
 obtain ⟨hch,cs3,hbx,hr3,⟨hx,hx2⟩,hs⟩:=hp3
 obtain rfl:=uv hs
 obtain ⟨A2,c3,rfl,hl2⟩:=uc hr3
 obtain ⟨rfl,rfl⟩:=un hx rfl rfl
 have H:=H.wroteBox 0 rfl hch hbx
 have H:=H.pX 0 rfl hx2
 refine pz 1 hf fun a hf=>?_
 refine we (sqz (pz 2 hf fun a hf=>?_))
 refine ub (ua (ib hF hf (fun hc2 hF=>?_) fun hc2 hF=>?_))
 refine reg (pz 3 hf fun a hf=>?_)
 obtain ⟨y2,hy2,hF⟩:=bs_ hF
 refine oc hf TF.glo (gbH (S:=NB b0) (H.boxAt 0 rfl) ((ud (x:=y.2) (H.nb 0 rfl (H.get 0 rfl)))) (fun h=>h rfl) hy2) fun v2 w a hp4 hf=>?_
 obtain ⟨hch2,cs4,hbx2,hr4,⟨hx3,hx4⟩,hs2⟩:=hp4
 obtain rfl:=uv hs2
 obtain ⟨A3,c4,rfl,hl3⟩:=uc hr4
 obtain ⟨rfl,rfl⟩:=un hx3 rfl rfl
 have hx5:=hx4.trans hx2
 have H:=H.wroteBox 0 rfl hch2 hbx2
 have H:=H.pX 0 rfl hx4
 refine pz 2 hf fun a hf=>?_
 have hf:=hf.pn [1,5]
 refine wr (pz 2 hf fun a hf=>?_)
 obtain ⟨q,hq,hF⟩:=bs_ hF
 refine oq hf (ghU hf rfl rfl hq) fun a hf=>?_
 refine pz 1 hf fun a hf=>?_
 refine wer ?_
 obtain rfl:=oi hF
 refine rT hf ?_
 exact ⟨_,rfl,H.chg,_,H.boxAt 0 rfl,(ud (x:=y2.2) (eB 0 (H.get 0 rfl))),⟨fxc hx5,hx5⟩,ug⟩
 refine wp_skip (ua (sqz (pz 2 hf fun a hf=>?_)))
 obtain ⟨q2,hq2,hF⟩:=bs_ hF
 refine oq hf (ghU hf rfl rfl hq2) fun a hf=>?_
 refine pz 1 hf fun a hf=>?_
 refine wer ?_
 obtain rfl:=oi hF
 refine rT hf ?_
 exact ⟨_,rfl,H.chg,_,H.boxAt 0 rfl,(ud (x:=y.2) (eB 0 (H.get 0 rfl))),⟨fxc hx2,hx2⟩,ug⟩
theorem vQ {S:Nat→Prop} {b0:Nat} {cs0:List Value} {v1_:Value} {c:L1CurP} {n':Int} {r:Bool×L1CurP} (hp0:w0.heap[b0]?=some (.cells cs0.toArray 109 (0,0))) (hr0:GoTy.rep w0 S cs0 c) (hS0:¬S b0) (h1:VR w0 S v1_ n') (hF:u3 fu c n'=some r) :
    Calls Tryz.prog 84 [(.pointer (some ⟨b0,0,none⟩)),v1_].toArray w0 fun e w'=>∃ v,e=.returned v∧(Chg w0 w' [b0]∧∃ cs',w'.heap[b0]?=some (.cells cs'.toArray 109 (0,0))∧GoTy.rep w' (St ⟨w0,[b0]⟩ S [⟨b0,109,cs'⟩] [] [] false) cs' r.2∧(cs'[0]?=cs0[0]?∧r.2.code=c.code)∧VR w' (St ⟨w0,[b0]⟩ S [⟨b0,109,cs'⟩] [] [] true) v r.1):=by
 obtain ⟨A,c2,rfl,hl⟩:=uc hr0
 obtain rfl:=uv h1
 have H:=Mem.startB S hp0
 have H:=H.pB hS0 hl
 refine en Tryz.func84 fun a hf=>?_
 rw [u3] at hF
 refine sqz (pz 1 hf fun a hf=>?_)
 refine wr (pz 2 hf fun a hf=>?_)
 obtain ⟨y,hy,hF⟩:=bs_ hF
 refine oc hf TF.yJ (ui (S:=NB b0) (H.boxAt 0 rfl) ((ud (x:=c) (H.nb 0 rfl (H.get 0 rfl)))) (fun h=>h rfl) ug hy) fun v w a hp3 hf=>?_
 obtain ⟨hch,cs3,hbx,hr3,⟨hx,hx2⟩,hs⟩:=hp3
 obtain rfl:=uv hs
 obtain ⟨A2,c3,rfl,hl2⟩:=uc hr3
 obtain ⟨rfl,rfl⟩:=un hx rfl rfl
 have H:=H.wroteBox 0 rfl hch hbx
 have H:=H.pX 0 rfl hx2
 refine pz 2 hf fun a hf=>?_
 refine wer ?_
 obtain rfl:=oi hF
 refine rT hf ?_
 exact ⟨_,rfl,H.chg,_,H.boxAt 0 rfl,(ud (x:=y.2) (eB 0 (H.get 0 rfl))),⟨fxc hx2,hx2⟩,uk⟩
theorem gah {S:Nat→Prop} {v0_:Value} {v1_:Value} {a':Int} {b':Int} {r:Int} (h0:VR w0 S v0_ a') (h1:VR w0 S v1_ b') (hF:gad fu a' b'=some r) :
    Calls Tryz.prog 292 [v0_,v1_].toArray w0 fun e w'=>∃ v,e=.returned v∧(Below w0.heap.size w0 w'∧VR w' (St ⟨w0,[]⟩ S [] [] [] true) v r):=by
 obtain rfl:=uv h0
 obtain rfl:=uv h1
 have H:=Mem.start ⟨w0,[]⟩ S
 refine en Tryz.func292 fun a hf=>?_
 rw [gad] at hF
 refine sqz (pz 1 hf fun a hf=>?_)
 refine we (sqz (pz 3 hf fun a hf=>?_))
 refine ub (ua (ib hF hf (fun hc hF=>?_) fun hc hF=>?_))
 refine sqz (pz 2 hf fun a hf=>?_)
 refine ub (ua (wp_ret (uf (?_))))
 obtain rfl:=oi hF
 refine rT hf ?_
 exact ⟨_,rfl,H.bel,ug⟩
 refine wp_skip (ua (sqz (pz 2 hf fun a hf=>?_)))
 refine wer ?_
 obtain rfl:=oi hF
 refine rT hf ?_
 exact ⟨_,rfl,H.bel,ug⟩
theorem zC {S:Nat→Prop} {v0_:Value} {v1_:Value} {a':Int} {b':Int} {r:Int} (h0:VR w0 S v0_ a') (h1:VR w0 S v1_ b') (hF:gay fu a' b'=some r) :
    Calls Tryz.prog 293 [v0_,v1_].toArray w0 fun e w'=>∃ v,e=.returned v∧(Below w0.heap.size w0 w'∧VR w' (St ⟨w0,[]⟩ S [] [] [] true) v r):=by
 obtain rfl:=uv h0
 obtain rfl:=uv h1
 have H:=Mem.start ⟨w0,[]⟩ S
 refine en Tryz.func293 fun a hf=>?_
 rw [gay] at hF
 refine sqz (pz 1 hf fun a hf=>?_)
 refine we (sqz (pz 3 hf fun a hf=>?_))
 refine ub (ua (ib hF hf (fun hc hF=>?_) fun hc hF=>?_))
 refine sqz (pz 2 hf fun a hf=>?_)
 refine ub (ua (wp_ret (uf (?_))))
 obtain rfl:=oi hF
 refine rT hf ?_
 exact ⟨_,rfl,H.bel,ug⟩
 refine wp_skip (ua (sqz (pz 2 hf fun a hf=>?_)))
 refine wer ?_
 obtain rfl:=oi hF
 refine rT hf ?_
 exact ⟨_,rfl,H.bel,ug⟩
theorem uJ {S:Nat→Prop} {b0:Nat} {cs0:List Value} {v1_:Value} {c:L1CurP} {list:List Int} {r:Int×L1CurP} (hp0:w0.heap[b0]?=some (.cells cs0.toArray 109 (0,0))) (hr0:GoTy.rep w0 S cs0 c) (hS0:¬S b0) (h1:VR w0 S v1_ list) (hF:vf fu c list=some r) :
    Calls Tryz.prog 142 [(.pointer (some ⟨b0,0,none⟩)),v1_].toArray w0 fun e w'=>∃ v,e=.returned v∧(Chg w0 w' [b0]∧∃ cs',w'.heap[b0]?=some (.cells cs'.toArray 109 (0,0))∧GoTy.rep w' (St ⟨w0,[b0]⟩ S [⟨b0,109,cs'⟩] [] [] false) cs' r.2∧(cs'[0]?=cs0[0]?∧r.2.code=c.code)∧VR w' (St ⟨w0,[b0]⟩ S [⟨b0,109,cs'⟩] [] [] true) v r.1):=by
 obtain ⟨A,c2,rfl,hl⟩:=uc hr0
 obtain ⟨A2,c3,rfl,hl2⟩:=u4 h1
 have H:=Mem.startB S hp0
 have H:=H.pB hS0 hl
 have H:=H.pB hS0 hl2
 refine en Tryz.func142 fun a hf=>?_
 rw [vf] at hF
 refine sqz (pz 1 hf fun a hf=>?_)
 refine wr (pz 4 hf fun a hf=>?_)
 obtain ⟨y,hy,hF⟩:=bs_ hF
 refine oc hf TF.yJ (ui (S:=NB b0) (H.boxAt 0 rfl) ((ud (x:=c) (H.nb 0 rfl (H.get 1 rfl)))) (fun h=>h rfl) ug hy) fun v w a hp3 hf=>?_
 obtain ⟨hch,cs3,hbx,hr3,⟨hx,hx2⟩,hs⟩:=hp3
 obtain rfl:=uv hs
 obtain ⟨A3,c4,rfl,hl3⟩:=uc hr3
 obtain ⟨rfl,rfl⟩:=un hx rfl rfl
 have H:=H.wroteBox 0 rfl hch hbx
 have H:=H.pX 1 rfl hx2
 obtain ⟨e,he,hF⟩:=bs_ hF
 refine wl0 rfl (vn hf H Tryz.underlying35 TF.sz3 1 rfl rfl rfl he (by decide) fun p o3 cs4 a hf hr4 H=>?_)
 obtain rfl:=hr4
 refine oq hf (uI hf H TF.ls3 0 0 rfl rfl rfl) fun a hf=>?_
 refine pz 1 hf fun a hf=>?_
 refine wer ?_
 obtain rfl:=oi hF
 refine rT hf ?_
 exact ⟨_,rfl,H.chg,_,H.boxAt 0 rfl,(ud (x:=y.2) (eB 0 (H.get 1 rfl))),⟨fxc hx2,hx2⟩,ug⟩
theorem gb7 {S:Nat→Prop} {v0_:Value} {v1_:Value} {f:Fiber} {g':Fiber} {r:Int} (h0:VR w0 S v0_ f) (h1:VR w0 S v1_ g') (hF:zJ fu f g'=some r) :
    Calls Tryz.prog 260 [v0_,v1_].toArray w0 fun e w'=>∃ v,e=.returned v∧(Below w0.heap.size w0 w'∧VR w' (St ⟨w0,[]⟩ S [] [] [] true) v r):=by
 obtain rfl:=gaD h0
 obtain rfl:=gaD h1
 have H:=Mem.start ⟨w0,[]⟩ S
 refine en Tryz.func260 fun a hf=>?_
 rw [zJ] at hF
 refine bx hf H fun b' a w hf H=>?_
 refine wl0 rfl (xl hf H rfl rfl (by decide) fun b2 a w hf H=>?_)
 refine pz 1 hf fun a hf=>?_
 refine ub (ua (sq (wp_block (sqz (pz 1 hf fun a hf=>?_)))))
 refine lB 1 hf H TF.ls3 fun a hf=>?_
 refine pz 1 hf fun a hf=>?_
 refine lB 0 hf H TF.ls3 fun a hf=>?_
 refine pz 2 hf fun a hf=>?_
 refine ub (ua (ib hF hf (fun hc hF=>?_) fun hc hF=>?_))
 refine sqz (pz 1 hf fun a hf=>?_)
 refine lB 1 hf H TF.ls3 fun a hf=>?_
 refine pz 1 hf fun a hf=>?_
 refine lB 0 hf H TF.ls3 fun a hf=>?_
 refine pz 2 hf fun a hf=>?_
 have hf:=hf.pn [4]
 refine ub (ua (wp_ret (u9 (uf (?_)))))
 obtain rfl:=oi hF
 refine rT hf ?_
 exact ⟨_,rfl,H.bel,ug⟩
 refine sqz (pz 1 hf fun a hf=>?_)
 refine lB 1 hf H TF.ls3 fun a hf=>?_
 refine pz 1 hf fun a hf=>?_
 refine lB 0 hf H TF.ls3 fun a hf=>?_
 refine pz 2 hf fun a hf=>?_
 have hf:=hf.pn [2,3,16]
 refine ub (ua (ib hF hf (fun hc2 hF=>?_) fun hc2 hF=>?_))
 refine sqz (pz 1 hf fun a hf=>?_)
 refine lB 1 hf H TF.ls3 fun a hf=>?_
 refine pz 1 hf fun a hf=>?_
 refine lB 0 hf H TF.ls3 fun a hf=>?_
 refine pz 2 hf fun a hf=>?_
 refine ub (ua (wp_ret (u9 (uf (?_)))))
 obtain rfl:=oi hF
 refine rT hf ?_
 exact ⟨_,rfl,H.bel,ug⟩
 refine sqz (pz 1 hf fun a hf=>?_)
 refine lB 1 hf H TF.ls3 fun a hf=>?_
 refine pz 1 hf fun a hf=>?_
 refine lB 0 hf H TF.ls3 fun a hf=>?_
 refine pz 2 hf fun a hf=>?_
 refine ub (ua (ib hF hf (fun hc3 hF=>?_) fun hc3 hF=>?_))
 refine sqz (pz 1 hf fun a hf=>?_)
 refine lB 1 hf H TF.ls3 fun a hf=>?_
 refine pz 1 hf fun a hf=>?_
 refine lB 0 hf H TF.ls3 fun a hf=>?_
 refine pz 2 hf fun a hf=>?_
 have hf:=hf.pn [4]
 refine ub (ua (wp_ret (u9 (uf (?_)))))
 obtain rfl:=oi hF
 refine rT hf ?_
 exact ⟨_,rfl,H.bel,ug⟩
 refine wp_skip (uV (ua (sqz (pz 1 hf fun a hf=>?_))))
 refine lB 1 hf H TF.ls3 fun a hf=>?_
 refine pz 1 hf fun a hf=>?_
 refine lB 0 hf H TF.ls3 fun a hf=>?_
 refine pz 2 hf fun a hf=>?_
 have hf:=hf.pn [4]
 refine wer ?_
 obtain rfl:=oi hF
 refine rT hf ?_
 exact ⟨_,rfl,H.bel,ug⟩
theorem yy {S:Nat→Prop} {v0_:Value} {v1_:Value} {list:List Fiber} {f:Fiber} {r:List Fiber} (h0:VR w0 S v0_ list) (h1:VR w0 S v1_ f) (hF:gba fu list f=some r) :
    Calls Tryz.prog 291 [v0_,v1_].toArray w0 fun e w'=>∃ v,e=.returned v∧(Below w0.heap.size w0 w'∧∃ F0,VO w' F0 v r∧New w0 w' F0):=by
 obtain ⟨A,c,rfl,hl⟩:=u4 h0
 obtain rfl:=gaD h1
 have H:=Mem.start ⟨w0,[]⟩ S
 have H:=H.pA hl
 refine en Tryz.func291 fun a hf=>?_
 rw [gba] at hF
 refine bx hf H fun b' a w hf H=>?_
 refine pz 1 hf fun a hf=>?_
 refine wr (pz 1 hf fun a hf=>?_)
 refine ub (ua (sq ?_))
 obtain ⟨out',hB1,hF⟩:=bs_ hF
 have hf:=hf.pn [0,3,5]
 have H:=H.lk 1 0 0 [0]
 refine vU (fun (s:Int) (a:Act) (w:World)=>match s with | i=>Fr a 33 [(0,(.slice A list.length c)),(3,(.pointer (some ⟨b',0,none⟩))),(5,(.int .i64 i))]∧Mem ⟨w0,[]⟩ S [⟨b',180,[(.int .i64 f.A),(.int .i64 f.B),(.int .i64 f.Length),(.int .i64 f.Risk)]⟩] [] [] [(false,MP.val [(.slice A list.length c)] (list:List Fiber))] w) (fun k (s:Int)=>zh fu list f k s=some out') (fun s=>out'=s) 0 fu hB1 ⟨hf,H⟩ (fun s h=>by cases h) ?_ ?_
 rintro fk i a w hR1 hI
 replace hR1:zh fu list f (fk + 1) i=some out':=hR1
 rw [zh] at hR1
 obtain ⟨hf,H⟩:=hI
 refine sq (sq ?_)
 obtain ⟨c2,hGc2,hR1⟩:=bs_ hR1
 have fh:=hf.prune [0,3,5] rfl
 have Hm:=H.lk 1 0 0 [0]
 refine midF 18 (.bool c2) fh Hm ?_ fun a w hf H=>?_
 refine dw [] 13 fun w hb=>?_
 have H:=H.keep hb
 refine zp 0 hf trivial fun a hf=>?_
 refine zp 1 hf trivial fun a hf=>?_
 refine zp 2 hf trivial fun a hf=>?_
 refine zp 3 hf trivial fun a hf=>?_
 refine zp 4 hf trivial fun a hf=>?_
 refine iteB hGc2 (fun hc hGc2=>?_) fun hc hGc2=>?_
 have hf:=hf.lit 10 rfl hc
 refine zg 5 hf trivial fun a hf=>?_
 refine zg 6 hf trivial fun a hf=>?_
 obtain ⟨e,he,hGc2⟩:=bs_ hGc2
 obtain ⟨p,o,cs,hx,hr,H⟩:=ux H Tryz.underlying25 TF.zc 0 rfl he
 refine tPg 7 rfl rfl rfl rfl rfl rfl hf (by kernel_rfl) (fun _=>trivial) (fun w=>uu hf rfl rfl rfl hx w) fun a hf=>?_
 obtain rfl:=uZ hr
 refine strT (H.lk 0 0 0 [0]) (fun w H=>trivial) fun hS=>?_
 refine tSg 8 [] rfl rfl rfl rfl rfl rfl hf (by kernel_rfl) (by kernel_rfl) hS (fun w H=>uz hf H TF.gas 0 0 rfl rfl rfl rfl) fun a hf=>?_
 refine strT (H.lk 1 0 0 [0]) (fun w H=>H.lk 0 0 0 [0]) fun hS=>?_
 refine tSg 9 [] rfl rfl rfl rfl rfl rfl hf (by kernel_rfl) (by kernel_rfl) hS (fun w H=>ul hf H TF.gas 0 rfl rfl rfl rfl) fun a hf=>?_
 obtain ⟨y,hy,hGc2⟩:=bs_ hGc2
 refine n1g 10 (by kernel_rfl) rfl rfl rfl rfl hf (oC hf TF.gld (gb7 (S:=TT) xU xU hy) fun v w a hp hf=>?_)
 obtain ⟨hb,hp⟩:=hp
 obtain rfl:=uv hp
 have H:=H.keep hb
 have hS:=H.lk 1 0 0 [0]
 refine aS hS ?_
 refine zg 11 hf hS fun a hf=>?_
 refine zp 12 hf hS fun a hf=>?_
 refine dk ?_
 obtain rfl:=oi hGc2
 have hf:=hf.pn [18,0,3,5]
 have H:=H.lk 1 0 0 [1]
 exact ⟨hf,H⟩
 have hf:=hf.lit 10 rfl hc
 refine zU 5 hf trivial fun a hf=>?_
 refine zU 6 hf trivial fun a hf=>?_
 refine zU 7 hf trivial fun a hf=>?_
 refine zU 8 hf trivial fun a hf=>?_
 refine zU 9 hf trivial fun a hf=>?_
 refine zU 10 hf trivial fun a hf=>?_
 refine zU 11 hf trivial fun a hf=>?_
 refine zp 12 hf trivial fun a hf=>?_
 refine dk ?_
 obtain rfl:=oi hGc2
 have hf:=hf.pn [18,0,3,5]
 have H:=H.lk 1 0 0 [0]
 exact ⟨hf,H⟩
 refine ua (ib hR1 hf (fun hc2 hR1=>?_) fun hc2 hR1=>?_)
 refine wp_skip (ua (wp_block (reg (pz 3 hf fun a hf=>?_))))
 refine ub (uV ?_)
 have hf:=hf.pn [0,3,5]
 have H:=H.lk 1 0 0 [0]
 exact ua ⟨w64 (i + 1),hR1,hf,H⟩
 refine wp_exit (uy (uy (vJ (?_))))
 have hf:=hf.pn [0,3,5]
 have H:=H.lk 1 0 0 [0]
 exact ⟨i,(Option.some.inj hR1).symm,hf,H⟩
 rintro a w ⟨out',rfl,hf,H⟩
 refine ua (sq ?_)
 obtain ⟨l,hl_,hF⟩:=bs_ hF
 obtain ⟨l2,hl2_,hF⟩:=bs_ hF
 obtain ⟨l3,hl3_,hF⟩:=bs_ hF
 obtain ⟨l4,hl4_,hF⟩:=bs_ hF
 obtain ⟨l5,hl5_,hF⟩:=bs_ hF
 refine mid (fun a w=>∃ (A8:Option Addr) (c7:Nat) (E3:Go.TypeId),Fr a 33 [(4,(.slice A8 l5.length c7))]∧Mem ⟨w0,[]⟩ S [] [⟨.sh true,E3,A8,c7,(l5:List Fiber)⟩] [] [] w) ?_ ?_
 refine dw [] 13 fun w hb=>?_
 have H:=H.keep hb
 refine zp 1 hf trivial fun a hf=>?_
 refine zp 2 hf trivial fun a hf=>?_
 obtain ⟨A2,c3,hx2,H⟩:=gaQ H Tryz.underlying25 TF.zc 0 (lov:=none) (hiv:=some (.int .i64 out')) (.inl ⟨rfl,rfl⟩) (.inr rfl) rfl hl_
 refine tP 3 rfl rfl rfl rfl hf (by kernel_rfl) (fun _=>trivial) (fun w=>gaP hf rfl rfl rfl hx2 w) fun a hf=>?_
 refine strT (H.lk 1 0 0 []) (fun w H=>trivial) fun hS=>?_
 refine zS 5 [] rfl rfl rfl rfl hf hS (fun w H=>ul hf H TF.gas 0 rfl rfl rfl rfl) fun a hf=>?_
 refine zp 8 hf hS fun a hf=>?_
 refine zp 9 hf hS fun a hf=>?_
 obtain ⟨A3,c4,hx3,H⟩:=gaQ H Tryz.underlying25 TF.zc 1 (lov:=some (.int .i64 out')) (hiv:=none) (.inr rfl) (.inl ⟨rfl,rfl⟩) rfl hl2_
 refine zP 10 rfl rfl rfl rfl hf hS (fun w=>gaP hf rfl rfl rfl hx3 w) fun a hf=>?_
 refine on2 (i:=0) (j:=6) (bi:=[true,true,true,true,false,true,false,false,true,true,true,false,false]) (bj:=[false,true,true,true,false,true,true,false,true,true,true,false,false]) (by kernel_rfl) rfl rfl rfl rfl rfl rfl ?_ ?_
 refine (bl hf H 180 ([]:List Fiber) [] el0 fun A4 a w hf H=>?_)
 have hS:=H.lk 1 0 0 []
 refine aS hS ?_
 refine on2 (i:=4) (j:=6) (bi:=[true,true,true,true,true,true,false,false,true,true,true,false,false]) (bj:=[true,true,true,true,false,true,true,false,true,true,true,false,false]) (by kernel_rfl) rfl rfl rfl rfl rfl rfl ?_ ?_
 have H:=H.rowWeak 0 rfl
 refine (xH hf H Tryz.underlying25 TF.gcd rfl (by decide) 0 1 rfl rfl rfl rfl (.inl rfl) hl3_ (by decide) fun E A5 c5 a w hf H=>?_)
 have H:=H.rowOwn 0 rfl rfl
 have H:=H.rowSh 0 rfl
 have hS:=H.lk 1 0 0 []
 refine aS hS ?_
 refine nn 6 rfl (bl hf H 180 ([f]:List Fiber) [(.int .i64 f.A),(.int .i64 f.B),(.int .i64 f.Length),(.int .i64 f.Risk)] (el1 (y:=f) ((zr (x:=f)))) fun A6 a w hf H=>?_)
 have hS:=H.lk 1 0 0 []
 refine aS hS ?_
 refine nn 7 rfl (xg hf H Tryz.underlying25 TF.gcd rfl (by decide) 1 0 rfl rfl rfl rfl (.inr rfl) hl4_ (by decide) fun E2 A7 c6 a w hf H=>?_)
 have hS:=H.lk 1 0 0 []
 refine aS hS ?_
 have H:=H.rowWeak 1 rfl
 refine nn 11 rfl (xH hf H Tryz.underlying25 TF.gcd rfl (by decide) 1 0 rfl rfl rfl rfl (.inl rfl) hl5_ (by decide) fun E3 A8 c7 a w hf H=>?_)
 have H:=H.rowOwn 1 rfl rfl
 have H:=H.rowSh 1 rfl
 have hS:=H.lk 1 0 0 []
 refine aS hS ?_
 refine zp 12 hf hS fun a hf=>?_
 refine dk ?_
 have hf:=hf.pn [4]
 have H:=H.lk 0 2 0 []
 exact ⟨A8,c7,E3,hf,H⟩
 refine (bl hf H 180 ([f]:List Fiber) [(.int .i64 f.A),(.int .i64 f.B),(.int .i64 f.Length),(.int .i64 f.Risk)] (el1 (y:=f) ((zr (x:=f)))) fun A5 a w hf H=>?_)
 have hS:=H.lk 1 0 0 []
 refine aS hS ?_
 have H:=H.rowWeak 1 rfl
 refine nn 4 rfl (xH hf H Tryz.underlying25 TF.gcd rfl (by decide) 1 1 rfl rfl rfl rfl (.inl rfl) hl3_ (by decide) fun E A6 c5 a w hf H=>?_)
 have H:=H.rowOwn 1 rfl rfl
 have H:=H.rowSh 1 rfl
 have hS:=H.lk 1 0 0 []
 refine aS hS ?_
 refine nn 7 rfl (xg hf H Tryz.underlying25 TF.gcd rfl (by decide) 1 0 rfl rfl rfl rfl (.inr rfl) hl4_ (by decide) fun E2 A7 c6 a w hf H=>?_)
 have hS:=H.lk 1 0 0 []
 refine aS hS ?_
 have H:=H.rowWeak 1 rfl
 refine nn 11 rfl (xH hf H Tryz.underlying25 TF.gcd rfl (by decide) 1 0 rfl rfl rfl rfl (.inl rfl) hl5_ (by decide) fun E3 A8 c7 a w hf H=>?_)
 have H:=H.rowOwn 1 rfl rfl
 have H:=H.rowSh 1 rfl
 have hS:=H.lk 1 0 0 []
 refine aS hS ?_
 refine zp 12 hf hS fun a hf=>?_
 refine dk ?_
 have hf:=hf.pn [4]
 have H:=H.lk 0 2 0 []
 exact ⟨A8,c7,E3,hf,H⟩
 refine (bl hf H 180 ([f]:List Fiber) [(.int .i64 f.A),(.int .i64 f.B),(.int .i64 f.Length),(.int .i64 f.Risk)] (el1 (y:=f) ((zr (x:=f)))) fun A4 a w hf H=>?_)
 have hS:=H.lk 1 0 0 []
 refine aS hS ?_
 refine nn 0 rfl (bl hf H 180 ([]:List Fiber) [] el0 fun A5 a w hf H=>?_)
 have hS:=H.lk 1 0 0 []
 refine aS hS ?_
 have H:=H.rowWeak 0 rfl
 refine nn 4 rfl (xH hf H Tryz.underlying25 TF.gcd rfl (by decide) 0 1 rfl rfl rfl rfl (.inl rfl) hl3_ (by decide) fun E A6 c5 a w hf H=>?_)
 have H:=H.rowOwn 0 rfl rfl
 have H:=H.rowSh 0 rfl
 have hS:=H.lk 1 0 0 []
 refine aS hS ?_
 refine nn 7 rfl (xg hf H Tryz.underlying25 TF.gcd rfl (by decide) 0 1 rfl rfl rfl rfl (.inr rfl) hl4_ (by decide) fun E2 A7 c6 a w hf H=>?_)
 have hS:=H.lk 1 0 0 []
 refine aS hS ?_
 have H:=H.rowWeak 0 rfl
 refine nn 11 rfl (xH hf H Tryz.underlying25 TF.gcd rfl (by decide) 0 0 rfl rfl rfl rfl (.inl rfl) hl5_ (by decide) fun E3 A8 c7 a w hf H=>?_)
 have H:=H.rowOwn 0 rfl rfl
 have H:=H.rowSh 0 rfl
 have hS:=H.lk 1 0 0 []
 refine aS hS ?_
 refine zp 12 hf hS fun a hf=>?_
 refine dk ?_
 have hf:=hf.pn [4]
 have H:=H.lk 0 1 0 []
 exact ⟨A8,c7,E3,hf,H⟩
 rintro a w ⟨A8,c7,E3,hf,H⟩
 refine ua (wp_ret (?_))
 have H:=H.rowOwn 0 rfl rfl
 obtain ⟨F,H⟩:=H.freezeOwn 0 rfl
 have H:=H.lend 0 rfl
 obtain rfl:=oi hF
 refine rT hf ?_
 have hN:=H.ends1
 exact ⟨_,rfl,H.bel,F,(xE (H.ownAt 0 rfl)),by first | exact hN | simpa using hN⟩
theorem gaN {S:Nat→Prop} {b0:Nat} {cs0:List Value} {c:L1CurP} {r:Network×L1CurP} (hp0:w0.heap[b0]?=some (.cells cs0.toArray 109 (0,0))) (hr0:GoTy.rep w0 S cs0 c) (hS0:¬S b0) (hF:xJ fu c=some r) :
    Calls Tryz.prog 230 [(.pointer (some ⟨b0,0,none⟩))].toArray w0 fun e w'=>∃ v,e=.returned v∧(Chg w0 w' [b0]∧∃ cs',w'.heap[b0]?=some (.cells cs'.toArray 109 (0,0))∧GoTy.rep w' (St ⟨w0,[b0]⟩ S [⟨b0,109,cs'⟩] [] [] false) cs' r.2∧(cs'[0]?=cs0[0]?∧r.2.code=c.code)∧∃ F0,VO w' F0 v r.1∧New w0 w' F0):=by
 obtain ⟨A,c2,rfl,hl⟩:=uc hr0
 have H:=Mem.startB S hp0
 have H:=H.pB hS0 hl
 refine en Tryz.func230 fun a hf=>?_
 rw [xJ] at hF
 refine sq (reg (aL hf H TF.zv27 fun b2 a w hf H=>?_))
 refine wr (pz 1 hf fun a hf=>?_)
 obtain ⟨y,hy,hF⟩:=bs_ hF
 refine oc hf TF.yJ (ui (S:=NB b0) (H.boxAt 1 rfl) ((ud (x:=c) (H.nb 1 rfl (H.get 0 rfl)))) (fun h=>h rfl) ug hy) fun v w a hp2 hf=>?_
 obtain ⟨hch,cs2,hbx,hr2,⟨hx,hx2⟩,hs⟩:=hp2
 obtain rfl:=uv hs
 obtain ⟨A2,c3,rfl,hl2⟩:=uc hr2
 obtain ⟨rfl,rfl⟩:=un hx rfl rfl
 have H:=H.wroteBox 1 rfl hch hbx
 have H:=H.pX 0 rfl hx2
 refine pz 2 hf fun a hf=>?_
 refine wr (wl0 rfl (bl hf H 9 ([(⟨#[97]⟩:ByteArray),(⟨#[98]⟩:ByteArray),(⟨#[99]⟩:ByteArray),(⟨#[100]⟩:ByteArray),(⟨#[101]⟩:ByteArray),(⟨#[102]⟩:ByteArray)]:List ByteArray) [(.string (⟨#[97]⟩:ByteArray)),(.string (⟨#[98]⟩:ByteArray)),(.string (⟨#[99]⟩:ByteArray)),(.string (⟨#[100]⟩:ByteArray)),(.string (⟨#[101]⟩:ByteArray)),(.string (⟨#[102]⟩:ByteArray))] (elL [([(.string (⟨#[97]⟩:ByteArray))],((⟨#[97]⟩:ByteArray):ByteArray)),([(.string (⟨#[98]⟩:ByteArray))],((⟨#[98]⟩:ByteArray):ByteArray)),([(.string (⟨#[99]⟩:ByteArray))],((⟨#[99]⟩:ByteArray):ByteArray)),([(.string (⟨#[100]⟩:ByteArray))],((⟨#[100]⟩:ByteArray):ByteArray)),([(.string (⟨#[101]⟩:ByteArray))],((⟨#[101]⟩:ByteArray):ByteArray)),([(.string (⟨#[102]⟩:ByteArray))],((⟨#[102]⟩:ByteArray):ByteArray))] (al1 (x:=((⟨#[97]⟩:ByteArray):ByteArray)) (rfl) (al1 (x:=((⟨#[98]⟩:ByteArray):ByteArray)) (rfl) (al1 (x:=((⟨#[99]⟩:ByteArray):ByteArray)) (rfl) (al1 (x:=((⟨#[100]⟩:ByteArray):ByteArray)) (rfl) (al1 (x:=((⟨#[101]⟩:ByteArray):ByteArray)) (rfl) (al1 (x:=((⟨#[102]⟩:ByteArray):ByteArray)) (rfl) al0))))))) fun A3 a w hf H=>?_))
 refine pz 1 hf fun a hf=>?_
 obtain ⟨l,hl_,hF⟩:=bs_ hF
 refine wl0 rfl (gic hf H Tryz.underlying24 TF.sz9 0 rfl rfl rfl (.inl rfl) (.inr rfl) rfl hl_ (by decide) fun a hf H=>?_)
 refine oq hf (uA hf (cs:=[(.slice A3 l.length 6),(.slice none 0 0)]) rfl (fun w=>by kernel_rfl)) fun a hf=>?_
 refine aL hf H TF.zv27 fun b3 a w hf H=>?_
 refine sB 0 hf H TF.sz27 fun w H=>?_
 refine we (sqz (pz 1 hf fun a hf=>?_))
 refine ub (ua ?_)
 have H:=H.ownNil (Fiber)
 have H:=H.lend 0 rfl
 obtain ⟨out',hB1,hF⟩:=bs_ hF
 have hf:=hf.pn [0,2,3,4,5]
 have H:=H.lk 7 1 1 [0,1]
 refine vU (fun (s:Int×List By×Int×U64×List Fiber) (a:Act) (w:World)=>match s with | (i,m,m2,m3,m4)=>∃ (A4:Option Addr) (c4:Nat) (F:List Nat),m=c.code∧Fr a 85 [(0,(.pointer (some ⟨b0,0,none⟩))),(2,(.pointer (some ⟨b2,0,none⟩))),(3,(.int .i64 (w64 (2 + y.1)))),(4,(.pointer (some ⟨b3,0,none⟩))),(5,(.int .i64 i))]∧Mem ⟨w0,[b0]⟩ S [⟨b3,27,[(.slice A3 l.length 6),(.slice A4 m4.length c4)]⟩,⟨b2,27,[(.slice none 0 0),(.slice none 0 0)]⟩,⟨b0,109,[(.slice A m.length c2),(.int .i64 m2),(.int .u64 m3.n)]⟩] [⟨.sh true,9,A3,6,(l:List ByteArray)⟩] [⟨F,MP.own F [(.slice A4 m4.length c4)] (m4:List Fiber)⟩] [(true,MP.val [(.slice A4 m4.length c4)] (m4:List Fiber)),(false,MP.val [(.slice A m.length c2)] (m:List By))] w) (fun k (s:Int×List By×Int×U64×List Fiber)=>vj fu y k s.1 s.2.1 s.2.2.1 s.2.2.2.1 s.2.2.2.2=some out') (fun s=>out'=s) (0,y.2.code,y.2.at_,y.2.seed,[]) fu hB1 ⟨none,0,[],hx2,hf,H⟩ (fun s h=>by cases h) ?_ ?_
 rintro fk ⟨i,m,m2,m3,m4⟩ a w hR1 hI
 replace hR1:vj fu y (fk + 1) i m m2 m3 m4=some out':=hR1
 rw [vj] at hR1
 obtain ⟨A4,c4,F,hsm,hf,H⟩:=hI
 refine sq (sqz (pz 3 hf fun a hf=>?_))
 refine ub (ua (ib hR1 hf (fun hc hR1=>?_) fun hc hR1=>?_))
 refine ws (pz 3 hf fun a hf=>?_)
 obtain ⟨q,hq,hR1⟩:=bs_ hR1
 refine oq hf (ghU hf rfl rfl hq) fun a hf=>?_
 refine pz 1 hf fun a hf=>?_
 refine we (sqz (pz 4 hf fun a hf=>?_))
 refine iteB hR1 (fun hc2 hR1=>?_) fun hc2 hR1=>?_
 have hf:=hf.lit 29 rfl hc2
 refine pz 3 hf fun a hf=>?_
 have hf:=hf.pn [0,2,3,4,5,6,32]
 refine ub (ua (cd_t hf rfl rfl (wp_exit (uy (vJ (?_))))))
 refine ua (reg (pz 3 hf fun a hf=>?_))
 refine ub ?_
 have hf:=hf.pn [0,2,3,4,5]
 have H:=H.lk 7 1 1 [0,1]
 exact ua ⟨(w64 (i + 1),m,m2,m3,m4),hR1,A4,c4,F,hsm,hf,H⟩
 have hf:=hf.lit 29 rfl hc2
 refine pz 1 hf fun a hf=>?_
 obtain ⟨y2,hy2,hR1⟩:=bs_ hR1
 refine wlg hf rfl rfl rfl (oC hf TF.cl84 (vQ (S:=NB b0) (H.boxAt 2 rfl) ((ud (x:=({ code:=m,at_:=m2,seed:=m3 }:L1CurP)) (H.nb 2 rfl (H.get 1 rfl)))) (fun h=>h rfl) ug hy2) fun v2 w a hp3 hf=>?_)
 obtain ⟨hch2,cs3,hbx2,hr3,⟨hx3,hx4⟩,hs2⟩:=hp3
 obtain rfl:=uo hs2
 obtain ⟨A5,c5,rfl,hl3⟩:=uc hr3
 obtain ⟨rfl,rfl⟩:=un hx3 rfl rfl
 have hx5:=hx4.trans hsm
 have H:=H.wroteBox 2 rfl hch2 hbx2
 have H:=H.pX 1 rfl hx4
 refine pz 1 hf fun a hf=>?_
 refine ub (ua (ib hR1 hf (fun hc3 hR1=>?_) fun hc3 hR1=>?_))
 refine wp_exit (uy (vJ (?_)))
 refine ua (reg (pz 3 hf fun a hf=>?_))
 have hf:=hf.pn [0,2,3,4,5,30,31]
 refine ub ?_
 have hf:=hf.pn [0,2,3,4,5]
 have H:=H.lk 7 1 1 [1,0]
 exact ua ⟨(w64 (i + 1),y2.2.code,y2.2.at_,y2.2.seed,m4),hR1,A4,c4,F,hx5,hf,H⟩
 refine wp_skip (ua ?_)
 obtain ⟨y3,hy3,hR1⟩:=bs_ hR1
 obtain ⟨y4,hy4,hR1⟩:=bs_ hR1
 obtain ⟨y5,hy5,hR1⟩:=bs_ hR1
 obtain ⟨y6,hy6,hR1⟩:=bs_ hR1
 obtain ⟨y7,hy7,hR1⟩:=bs_ hR1
 refine mid (fun a w=>∃ (A9:Option Addr) (c8:Nat) (F2:List Nat),y6.2.code=c.code∧Fr a 85 [(0,(.pointer (some ⟨b0,0,none⟩))),(2,(.pointer (some ⟨b2,0,none⟩))),(3,(.int .i64 (w64 (2 + y.1)))),(4,(.pointer (some ⟨b3,0,none⟩))),(5,(.int .i64 i)),(30,(.pointer (some ⟨b0,0,none⟩))),(31,(.bool y2.1))]∧Mem ⟨w0,[b0]⟩ S [⟨b3,27,[(.slice A3 l.length 6),(.slice A9 y7.length c8)]⟩,⟨b2,27,[(.slice none 0 0),(.slice none 0 0)]⟩,⟨b0,109,[(.slice A y6.2.code.length c2),(.int .i64 y6.2.at_),(.int .u64 y6.2.seed.n)]⟩] [⟨.sh true,9,A3,6,(l:List ByteArray)⟩] [⟨F2,MP.own F2 [(.slice A9 y7.length c8)] (y7:List Fiber)⟩] [(true,MP.val [(.slice A9 y7.length c8)] (y7:List Fiber)),(false,MP.val [(.slice A y6.2.code.length c2)] (y6.2.code:List By))] w) ?_ ?_
 refine dw [18] 19 fun w hb=>?_
 have H:=H.keep hb
 refine zp 0 hf trivial fun a hf=>?_
 refine strT (H.lk 1 0 0 []) (fun w H=>trivial) fun hS=>?_
 refine zS 1 [1,16,17,18] rfl rfl rfl rfl hf hS (fun w H=>ue hf H TF.ls25 0 rfl rfl rfl) fun a hf=>?_
 refine zp 2 hf hS fun a hf=>?_
 refine zp 3 hf hS fun a hf=>?_
 refine zp 5 hf hS fun a hf=>?_
 refine zp 6 hf hS fun a hf=>?_
 refine zp 8 hf hS fun a hf=>?_
 refine zp 12 hf hS fun a hf=>?_
 refine on2 (i:=4) (j:=13) (bi:=[true,true,true,true,true,true,true,false,true,false,false,false,true,false,false,false,false,false,false]) (bj:=[true,true,true,true,false,true,true,false,true,false,false,false,true,true,false,false,false,false,false]) (by kernel_rfl) rfl rfl rfl rfl rfl rfl ?_ ?_
 refine (oC hf TF.gjB (gah (S:=TT) ug ug hy3) fun v3 w a hp4 hf=>?_)
 obtain ⟨hb,hp4⟩:=hp4
 obtain rfl:=uv hp4
 have H:=H.keep hb
 have hS:=H.lk 1 0 0 []
 refine aS hS ?_
 refine on2 (i:=7) (j:=13) (bi:=[true,true,true,true,true,true,true,true,true,false,false,false,true,false,false,false,false,false,false]) (bj:=[true,true,true,true,true,true,true,false,true,false,false,false,true,true,false,false,false,false,false]) (by kernel_rfl) rfl rfl rfl rfl rfl rfl ?_ ?_
 refine (oC hf TF.ghv (zC (S:=TT) ug ug hy4) fun v4 w a hp5 hf=>?_)
 obtain ⟨hb2,hp5⟩:=hp5
 obtain rfl:=uv hp5
 have H:=H.keep hb2
 have hS:=H.lk 1 0 0 []
 refine aS hS ?_
 refine on2 (i:=9) (j:=13) (bi:=[true,true,true,true,true,true,true,true,true,true,false,false,true,false,false,false,false,false,false]) (bj:=[true,true,true,true,true,true,true,true,true,false,false,false,true,true,false,false,false,false,false]) (by kernel_rfl) rfl rfl rfl rfl rfl rfl ?_ ?_
 refine (oC hf TF.yJ (ui (S:=NB b0) (H.boxAt 2 rfl) ((ud (x:=y2.2) (H.nb 2 rfl (H.get 0 rfl)))) (fun h=>h rfl) ug hy5) fun v5 w a hp6 hf=>?_)
 obtain ⟨hch3,cs4,hbx3,hr4,⟨hx6,hx7⟩,hs3⟩:=hp6
 obtain rfl:=uv hs3
 obtain ⟨A6,c6,rfl,hl4⟩:=uc hr4
 obtain ⟨rfl,rfl⟩:=un hx6 rfl rfl
 have hx8:=hx7.trans hx5
 have H:=H.wroteBox 2 rfl hch3 hbx3
 have H:=H.pX 0 rfl hx7
 have hS:=H.lk 1 0 0 []
 refine aS hS ?_
 refine zp 10 hf hS fun a hf=>?_
 refine zp 11 hf hS fun a hf=>?_
 refine nn 13 rfl (bl hf H 3 ([0,0,0,1,2]:List Int) [(.int .i64 0),(.int .i64 0),(.int .i64 0),(.int .i64 1),(.int .i64 2)] (elI [0,0,0,1,2]) fun A7 a w hf H=>?_)
 have hS:=H.lk 1 0 0 []
 refine aS hS ?_
 have H:=H.freeze 0 rfl
 refine nn 14 rfl (oC hf TF.gcq (uJ (S:=NB b0) (H.boxAt 2 rfl) ((ud (x:=y5.2) (H.nb 2 rfl (H.get 1 rfl)))) (fun h=>h rfl) (uB (H.nb 2 rfl (H.get 0 rfl))) hy6) fun v6 w a hp7 hf=>?_)
 obtain ⟨hch4,cs5,hbx4,hr5,⟨hx9,hx10⟩,hs4⟩:=hp7
 obtain rfl:=uv hs4
 obtain ⟨A8,c7,rfl,hl5⟩:=uc hr5
 obtain ⟨rfl,rfl⟩:=un hx9 rfl rfl
 have hx11:=hx10.trans hx8
 have H:=H.wroteBox 2 rfl hch4 hbx4
 have H:=H.pX 1 rfl hx10
 have hS:=H.lk 1 0 0 []
 refine aS hS ?_
 refine zP 15 rfl rfl rfl rfl hf hS (fun w=>uA hf (cs:=[(.int .i64 y3),(.int .i64 y4),(.int .i64 (w64 (100 * (w64 (1 + y5.1))))),(.int .i64 y6.1)]) rfl (fun w=>by kernel_rfl)) fun a hf=>?_
 refine nn 16 rfl (oC hf TF.ggb (yy (S:=TT) (uB (H.rt 4 rfl)) xU hy7) fun v7 w a hp8 hf=>?_)
 obtain ⟨hb3,F2,hp9,hN⟩:=hp8
 obtain ⟨A9,c8,rfl,hl6⟩:=xP hp9
 have H:=H.aO1 hb3 hN hl6
 have H:=H.lend 0 rfl
 have hS:=H.lk 1 0 0 []
 refine aS hS ?_
 refine zp 17 hf hS fun a hf=>?_
 refine nn 18 rfl (uh hf H 0 TF.sz25 rfl rfl rfl rfl rfl rfl (nle rfl) fun w H=>?_)
 refine ⟨fun h=>absurd h (by decide),?_⟩
 refine dk ?_
 have hf:=hf.pn [0,2,3,4,5,30,31]
 have H:=H.lk 7 1 1 [0,1]
 exact ⟨A9,c8,F2,hx11,hf,H⟩
 refine (bl hf H 3 ([0,0,0,1,2]:List Int) [(.int .i64 0),(.int .i64 0),(.int .i64 0),(.int .i64 1),(.int .i64 2)] (elI [0,0,0,1,2]) fun A6 a w hf H=>?_)
 have hS:=H.lk 1 0 0 []
 refine aS hS ?_
 refine nn 9 rfl (oC hf TF.yJ (ui (S:=NB b0) (H.boxAt 2 rfl) ((ud (x:=y2.2) (H.nb 2 rfl (H.get 0 rfl)))) (fun h=>h rfl) ug hy5) fun v5 w a hp6 hf=>?_)
 obtain ⟨hch3,cs4,hbx3,hr4,⟨hx6,hx7⟩,hs3⟩:=hp6
 obtain rfl:=uv hs3
 obtain ⟨A7,c6,rfl,hl4⟩:=uc hr4
 obtain ⟨rfl,rfl⟩:=un hx6 rfl rfl
 have hx8:=hx7.trans hx5
 have H:=H.wroteBox 2 rfl hch3 hbx3
 have H:=H.pX 0 rfl hx7
 have hS:=H.lk 1 0 0 []
 refine aS hS ?_
 refine zp 10 hf hS fun a hf=>?_
 refine zp 11 hf hS fun a hf=>?_
 have H:=H.freeze 0 rfl
 refine nn 14 rfl (oC hf TF.gcq (uJ (S:=NB b0) (H.boxAt 2 rfl) ((ud (x:=y5.2) (H.nb 2 rfl (H.get 1 rfl)))) (fun h=>h rfl) (uB (H.nb 2 rfl (H.get 0 rfl))) hy6) fun v6 w a hp7 hf=>?_)
 obtain ⟨hch4,cs5,hbx4,hr5,⟨hx9,hx10⟩,hs4⟩:=hp7
 obtain rfl:=uv hs4
 obtain ⟨A8,c7,rfl,hl5⟩:=uc hr5
 obtain ⟨rfl,rfl⟩:=un hx9 rfl rfl
 have hx11:=hx10.trans hx8
 have H:=H.wroteBox 2 rfl hch4 hbx4
 have H:=H.pX 1 rfl hx10
 have hS:=H.lk 1 0 0 []
 refine aS hS ?_
 refine zP 15 rfl rfl rfl rfl hf hS (fun w=>uA hf (cs:=[(.int .i64 y3),(.int .i64 y4),(.int .i64 (w64 (100 * (w64 (1 + y5.1))))),(.int .i64 y6.1)]) rfl (fun w=>by kernel_rfl)) fun a hf=>?_
 refine nn 16 rfl (oC hf TF.ggb (yy (S:=TT) (uB (H.rt 4 rfl)) xU hy7) fun v7 w a hp8 hf=>?_)
 obtain ⟨hb3,F2,hp9,hN⟩:=hp8
 obtain ⟨A9,c8,rfl,hl6⟩:=xP hp9
 have H:=H.aO1 hb3 hN hl6
 have H:=H.lend 0 rfl
 have hS:=H.lk 1 0 0 []
 refine aS hS ?_
 refine zp 17 hf hS fun a hf=>?_
 refine nn 18 rfl (uh hf H 0 TF.sz25 rfl rfl rfl rfl rfl rfl (nle rfl) fun w H=>?_)
 refine ⟨fun h=>absurd h (by decide),?_⟩
 refine dk ?_
 have hf:=hf.pn [0,2,3,4,5,30,31]
 have H:=H.lk 7 1 1 [0,1]
 exact ⟨A9,c8,F2,hx11,hf,H⟩
 refine (bl hf H 3 ([0,0,0,1,2]:List Int) [(.int .i64 0),(.int .i64 0),(.int .i64 0),(.int .i64 1),(.int .i64 2)] (elI [0,0,0,1,2]) fun A6 a w hf H=>?_)
 have hS:=H.lk 1 0 0 []
 refine aS hS ?_
 refine nn 7 rfl (oC hf TF.ghv (zC (S:=TT) ug ug hy4) fun v4 w a hp5 hf=>?_)
 obtain ⟨hb2,hp5⟩:=hp5
 obtain rfl:=uv hp5
 have H:=H.keep hb2
 have hS:=H.lk 1 0 0 []
 refine aS hS ?_
 refine nn 9 rfl (oC hf TF.yJ (ui (S:=NB b0) (H.boxAt 2 rfl) ((ud (x:=y2.2) (H.nb 2 rfl (H.get 0 rfl)))) (fun h=>h rfl) ug hy5) fun v5 w a hp6 hf=>?_)
 obtain ⟨hch3,cs4,hbx3,hr4,⟨hx6,hx7⟩,hs3⟩:=hp6
 obtain rfl:=uv hs3
 obtain ⟨A7,c6,rfl,hl4⟩:=uc hr4
 obtain ⟨rfl,rfl⟩:=un hx6 rfl rfl
 have hx8:=hx7.trans hx5
 have H:=H.wroteBox 2 rfl hch3 hbx3
 have H:=H.pX 0 rfl hx7
 have hS:=H.lk 1 0 0 []
 refine aS hS ?_
 refine zp 10 hf hS fun a hf=>?_
 refine zp 11 hf hS fun a hf=>?_
 have H:=H.freeze 0 rfl
 refine nn 14 rfl (oC hf TF.gcq (uJ (S:=NB b0) (H.boxAt 2 rfl) ((ud (x:=y5.2) (H.nb 2 rfl (H.get 1 rfl)))) (fun h=>h rfl) (uB (H.nb 2 rfl (H.get 0 rfl))) hy6) fun v6 w a hp7 hf=>?_)
 obtain ⟨hch4,cs5,hbx4,hr5,⟨hx9,hx10⟩,hs4⟩:=hp7
 obtain rfl:=uv hs4
 obtain ⟨A8,c7,rfl,hl5⟩:=uc hr5
 obtain ⟨rfl,rfl⟩:=un hx9 rfl rfl
 have hx11:=hx10.trans hx8
 have H:=H.wroteBox 2 rfl hch4 hbx4
 have H:=H.pX 1 rfl hx10
 have hS:=H.lk 1 0 0 []
 refine aS hS ?_
 refine zP 15 rfl rfl rfl rfl hf hS (fun w=>uA hf (cs:=[(.int .i64 y3),(.int .i64 y4),(.int .i64 (w64 (100 * (w64 (1 + y5.1))))),(.int .i64 y6.1)]) rfl (fun w=>by kernel_rfl)) fun a hf=>?_
 refine nn 16 rfl (oC hf TF.ggb (yy (S:=TT) (uB (H.rt 4 rfl)) xU hy7) fun v7 w a hp8 hf=>?_)
 obtain ⟨hb3,F2,hp9,hN⟩:=hp8
 obtain ⟨A9,c8,rfl,hl6⟩:=xP hp9
 have H:=H.aO1 hb3 hN hl6
 have H:=H.lend 0 rfl
 have hS:=H.lk 1 0 0 []
 refine aS hS ?_
 refine zp 17 hf hS fun a hf=>?_
 refine nn 18 rfl (uh hf H 0 TF.sz25 rfl rfl rfl rfl rfl rfl (nle rfl) fun w H=>?_)
 refine ⟨fun h=>absurd h (by decide),?_⟩
 refine dk ?_
 have hf:=hf.pn [0,2,3,4,5,30,31]
 have H:=H.lk 7 1 1 [0,1]
 exact ⟨A9,c8,F2,hx11,hf,H⟩
 refine (bl hf H 3 ([0,0,0,1,2]:List Int) [(.int .i64 0),(.int .i64 0),(.int .i64 0),(.int .i64 1),(.int .i64 2)] (elI [0,0,0,1,2]) fun A6 a w hf H=>?_)
 have hS:=H.lk 1 0 0 []
 refine aS hS ?_
 refine nn 4 rfl (oC hf TF.gjB (gah (S:=TT) ug ug hy3) fun v3 w a hp4 hf=>?_)
 obtain ⟨hb,hp4⟩:=hp4
 obtain rfl:=uv hp4
 have H:=H.keep hb
 have hS:=H.lk 1 0 0 []
 refine aS hS ?_
 refine nn 7 rfl (oC hf TF.ghv (zC (S:=TT) ug ug hy4) fun v4 w a hp5 hf=>?_)
 obtain ⟨hb2,hp5⟩:=hp5
 obtain rfl:=uv hp5
 have H:=H.keep hb2
 have hS:=H.lk 1 0 0 []
 refine aS hS ?_
 refine nn 9 rfl (oC hf TF.yJ (ui (S:=NB b0) (H.boxAt 2 rfl) ((ud (x:=y2.2) (H.nb 2 rfl (H.get 0 rfl)))) (fun h=>h rfl) ug hy5) fun v5 w a hp6 hf=>?_)
 obtain ⟨hch3,cs4,hbx3,hr4,⟨hx6,hx7⟩,hs3⟩:=hp6
 obtain rfl:=uv hs3
 obtain ⟨A7,c6,rfl,hl4⟩:=uc hr4
 obtain ⟨rfl,rfl⟩:=un hx6 rfl rfl
 have hx8:=hx7.trans hx5
 have H:=H.wroteBox 2 rfl hch3 hbx3
 have H:=H.pX 0 rfl hx7
 have hS:=H.lk 1 0 0 []
 refine aS hS ?_
 refine zp 10 hf hS fun a hf=>?_
 refine zp 11 hf hS fun a hf=>?_
 have H:=H.freeze 0 rfl
 refine nn 14 rfl (oC hf TF.gcq (uJ (S:=NB b0) (H.boxAt 2 rfl) ((ud (x:=y5.2) (H.nb 2 rfl (H.get 1 rfl)))) (fun h=>h rfl) (uB (H.nb 2 rfl (H.get 0 rfl))) hy6) fun v6 w a hp7 hf=>?_)
 obtain ⟨hch4,cs5,hbx4,hr5,⟨hx9,hx10⟩,hs4⟩:=hp7
 obtain rfl:=uv hs4
 obtain ⟨A8,c7,rfl,hl5⟩:=uc hr5
 obtain ⟨rfl,rfl⟩:=un hx9 rfl rfl
 have hx11:=hx10.trans hx8
 have H:=H.wroteBox 2 rfl hch4 hbx4
 have H:=H.pX 1 rfl hx10
 have hS:=H.lk 1 0 0 []
 refine aS hS ?_
 refine zP 15 rfl rfl rfl rfl hf hS (fun w=>uA hf (cs:=[(.int .i64 y3),(.int .i64 y4),(.int .i64 (w64 (100 * (w64 (1 + y5.1))))),(.int .i64 y6.1)]) rfl (fun w=>by kernel_rfl)) fun a hf=>?_
 refine nn 16 rfl (oC hf TF.ggb (yy (S:=TT) (uB (H.rt 4 rfl)) xU hy7) fun v7 w a hp8 hf=>?_)
 obtain ⟨hb3,F2,hp9,hN⟩:=hp8
 obtain ⟨A9,c8,rfl,hl6⟩:=xP hp9
 have H:=H.aO1 hb3 hN hl6
 have H:=H.lend 0 rfl
 have hS:=H.lk 1 0 0 []
 refine aS hS ?_
 refine zp 17 hf hS fun a hf=>?_
 refine nn 18 rfl (uh hf H 0 TF.sz25 rfl rfl rfl rfl rfl rfl (nle rfl) fun w H=>?_)
 refine ⟨fun h=>absurd h (by decide),?_⟩
 refine dk ?_
 have hf:=hf.pn [0,2,3,4,5,30,31]
 have H:=H.lk 7 1 1 [0,1]
 exact ⟨A9,c8,F2,hx11,hf,H⟩
 rintro a w ⟨A9,c8,F2,hx11,hf,H⟩
 refine uV (ua (reg (pz 3 hf fun a hf=>?_)))
 refine ub ?_
 have hf:=hf.pn [0,2,3,4,5]
 have H:=H.lk 7 1 1 [0,1]
 exact ua ⟨(w64 (i + 1),y6.2.code,y6.2.at_,y6.2.seed,y7),hR1,A9,c8,F2,hx11,hf,H⟩
 refine wp_exit (uy (uy (vJ (?_))))
 have hf:=hf.pn [0,2,3,4,5]
 have H:=H.lk 7 1 1 [0,1]
 exact ⟨(i,m,m2,m3,m4),(Option.some.inj hR1).symm,A4,c4,F,hsm,hf,H⟩
 rintro a w ⟨⟨i2,m5,m6,m7,m8⟩,rfl,A10,c9,F4,hsm,hf,H⟩
 try dsimp only at hsm
 try dsimp only at hF
 refine ua (sq (sqz (pz 1 hf fun a hf=>?_)))
 obtain ⟨y8,hy8,hF⟩:=bs_ hF
 refine oc hf TF.yJ (ui (S:=NB b0) (H.boxAt 2 rfl) ((ud (x:=({ code:=m5,at_:=m6,seed:=m7 }:L1CurP)) (H.nb 2 rfl (H.get 1 rfl)))) (fun h=>h rfl) ug hy8) fun v8 w a hp10 hf=>?_
 obtain ⟨hch5,cs6,hbx5,hr6,⟨hx12,hx13⟩,hs5⟩:=hp10
 obtain rfl:=uv hs5
 obtain ⟨A11,c10,rfl,hl7⟩:=uc hr6
 obtain ⟨rfl,rfl⟩:=un hx12 rfl rfl
 have hx14:=hx13.trans hsm
 have H:=H.wroteBox 2 rfl hch5 hbx5
 have H:=H.pX 1 rfl hx13
 refine pz 1 hf fun a hf=>?_
 refine ub (ua ?_)
 obtain ⟨out2,hB1,hF⟩:=bs_ hF
 have hf:=hf.pn [0,2,3,4,7]
 have H:=H.lk 7 1 1 [0,1]
 refine vU (fun (s:Int×List Fiber×List By×Int×U64) (a:Act) (w:World)=>match s with | (m9,m10,m11,m12,m13)=>∃ (A12:Option Addr) (c11:Nat) (F5:List Nat),m11=c.code∧Fr a 85 [(0,(.pointer (some ⟨b0,0,none⟩))),(2,(.pointer (some ⟨b2,0,none⟩))),(3,(.int .i64 (w64 (2 + y.1)))),(4,(.pointer (some ⟨b3,0,none⟩))),(7,(.int .i64 m9))]∧Mem ⟨w0,[b0]⟩ S [⟨b3,27,[(.slice A3 l.length 6),(.slice A12 m10.length c11)]⟩,⟨b2,27,[(.slice none 0 0),(.slice none 0 0)]⟩,⟨b0,109,[(.slice A m11.length c2),(.int .i64 m12),(.int .u64 m13.n)]⟩] [⟨.sh true,9,A3,6,(l:List ByteArray)⟩] [⟨F5,MP.own F5 [(.slice A12 m10.length c11)] (m10:List Fiber)⟩] [(false,MP.val [(.slice A m11.length c2)] (m11:List By)),(true,MP.val [(.slice A12 m10.length c11)] (m10:List Fiber))] w) (fun k (s:Int×List Fiber×List By×Int×U64)=>vz fu y k s.1 s.2.1 s.2.2.1 s.2.2.2.1 s.2.2.2.2=some out2) (fun s=>out2=s) (y8.1,m8,y8.2.code,y8.2.at_,y8.2.seed) fu hB1 ⟨A10,c9,F4,hx14,hf,H⟩ (fun s h=>by cases h) ?_ ?_
 rintro fk ⟨m9,m10,m11,m12,m13⟩ a w hR1 hI
 replace hR1:vz fu y (fk + 1) m9 m10 m11 m12 m13=some out2:=hR1
 rw [vz] at hR1
 obtain ⟨A12,c11,F5,hsm2,hf,H⟩:=hI
 refine sq (sqz (pz 2 hf fun a hf=>?_))
 refine ub (ua (ib hR1 hf (fun hc4 hR1=>?_) fun hc4 hR1=>?_))
 refine ws (pz 2 hf fun a hf=>?_)
 obtain ⟨y9,hy9,hR1⟩:=bs_ hR1
 refine oc hf TF.yJ (ui (S:=NB b0) (H.boxAt 2 rfl) ((ud (x:=({ code:=m11,at_:=m12,seed:=m13 }:L1CurP)) (H.nb 2 rfl (H.get 0 rfl)))) (fun h=>h rfl) ug hy9) fun v9 w a hp11 hf=>?_
 obtain ⟨hch6,cs7,hbx6,hr7,⟨hx15,hx16⟩,hs6⟩:=hp11
 obtain rfl:=uv hs6
 obtain ⟨A13,c12,rfl,hl8⟩:=uc hr7
 obtain ⟨rfl,rfl⟩:=un hx15 rfl rfl
 have hx17:=hx16.trans hsm2
 have H:=H.wroteBox 2 rfl hch6 hbx6
 have H:=H.pX 0 rfl hx16
 refine pz 2 hf fun a hf=>?_
 obtain ⟨y10,hy10,hR1⟩:=bs_ hR1
 refine oc hf TF.yJ (ui (S:=NB b0) (H.boxAt 2 rfl) ((ud (x:=y9.2) (H.nb 2 rfl (H.get 0 rfl)))) (fun h=>h rfl) ug hy10) fun v10 w a hp12 hf=>?_
 obtain ⟨hch7,cs8,hbx7,hr8,⟨hx18,hx19⟩,hs7⟩:=hp12
 obtain rfl:=uv hs7
 obtain ⟨A14,c13,rfl,hl9⟩:=uc hr8
 obtain ⟨rfl,rfl⟩:=un hx18 rfl rfl
 have hx20:=hx19.trans hx17
 have H:=H.wroteBox 2 rfl hch7 hbx7
 have H:=H.pX 0 rfl hx19
 refine pz 2 hf fun a hf=>?_
 refine wr (pz 3 hf fun a hf=>?_)
 refine ub (ua (ib hR1 hf (fun hc5 hR1=>?_) fun hc5 hR1=>?_))
 obtain ⟨y11,hy11,hR1⟩:=bs_ hR1
 obtain ⟨y12,hy12,hR1⟩:=bs_ hR1
 obtain ⟨y13,hy13,hR1⟩:=bs_ hR1
 obtain ⟨y14,hy14,hR1⟩:=bs_ hR1
 obtain ⟨y15,hy15,hR1⟩:=bs_ hR1
 refine mid (fun a w=>∃ (A18:Option Addr) (c16:Nat) (F6:List Nat),y14.2.code=c.code∧Fr a 85 [(0,(.pointer (some ⟨b0,0,none⟩))),(2,(.pointer (some ⟨b2,0,none⟩))),(3,(.int .i64 (w64 (2 + y.1)))),(4,(.pointer (some ⟨b3,0,none⟩))),(7,(.int .i64 m9))]∧Mem ⟨w0,[b0]⟩ S [⟨b3,27,[(.slice A3 l.length 6),(.slice A18 y15.length c16)]⟩,⟨b2,27,[(.slice none 0 0),(.slice none 0 0)]⟩,⟨b0,109,[(.slice A y14.2.code.length c2),(.int .i64 y14.2.at_),(.int .u64 y14.2.seed.n)]⟩] [⟨.sh true,9,A3,6,(l:List ByteArray)⟩] [⟨F6,MP.own F6 [(.slice A18 y15.length c16)] (y15:List Fiber)⟩] [(true,MP.val [(.slice A18 y15.length c16)] (y15:List Fiber)),(false,MP.val [(.slice A y14.2.code.length c2)] (y14.2.code:List By))] w) ?_ ?_
 refine dw [18] 19 fun w hb=>?_
 have H:=H.keep hb
 refine zp 0 hf trivial fun a hf=>?_
 refine strT (H.lk 1 0 0 []) (fun w H=>trivial) fun hS=>?_
 refine zS 1 [1,16,17,18] rfl rfl rfl rfl hf hS (fun w H=>ue hf H TF.ls25 0 rfl rfl rfl) fun a hf=>?_
 refine zp 2 hf hS fun a hf=>?_
 refine zp 3 hf hS fun a hf=>?_
 refine zp 5 hf hS fun a hf=>?_
 refine zp 6 hf hS fun a hf=>?_
 refine zp 8 hf hS fun a hf=>?_
 refine zp 12 hf hS fun a hf=>?_
 refine on2 (i:=4) (j:=13) (bi:=[true,true,true,true,true,true,true,false,true,false,false,false,true,false,false,false,false,false,false]) (bj:=[true,true,true,true,false,true,true,false,true,false,false,false,true,true,false,false,false,false,false]) (by kernel_rfl) rfl rfl rfl rfl rfl rfl ?_ ?_
 refine (oC hf TF.gjB (gah (S:=TT) ug ug hy11) fun v11 w a hp13 hf=>?_)
 obtain ⟨hb4,hp13⟩:=hp13
 obtain rfl:=uv hp13
 have H:=H.keep hb4
 have hS:=H.lk 1 0 0 []
 refine aS hS ?_
 refine on2 (i:=7) (j:=13) (bi:=[true,true,true,true,true,true,true,true,true,false,false,false,true,false,false,false,false,false,false]) (bj:=[true,true,true,true,true,true,true,false,true,false,false,false,true,true,false,false,false,false,false]) (by kernel_rfl) rfl rfl rfl rfl rfl rfl ?_ ?_
 refine (oC hf TF.ghv (zC (S:=TT) ug ug hy12) fun v12 w a hp14 hf=>?_)
 obtain ⟨hb5,hp14⟩:=hp14
 obtain rfl:=uv hp14
 have H:=H.keep hb5
 have hS:=H.lk 1 0 0 []
 refine aS hS ?_
 refine on2 (i:=9) (j:=13) (bi:=[true,true,true,true,true,true,true,true,true,true,false,false,true,false,false,false,false,false,false]) (bj:=[true,true,true,true,true,true,true,true,true,false,false,false,true,true,false,false,false,false,false]) (by kernel_rfl) rfl rfl rfl rfl rfl rfl ?_ ?_
 refine (oC hf TF.yJ (ui (S:=NB b0) (H.boxAt 2 rfl) ((ud (x:=y10.2) (H.nb 2 rfl (H.get 0 rfl)))) (fun h=>h rfl) ug hy13) fun v13 w a hp15 hf=>?_)
 obtain ⟨hch8,cs9,hbx8,hr9,⟨hx21,hx22⟩,hs8⟩:=hp15
 obtain rfl:=uv hs8
 obtain ⟨A15,c14,rfl,hl10⟩:=uc hr9
 obtain ⟨rfl,rfl⟩:=un hx21 rfl rfl
 have hx23:=hx22.trans hx20
 have H:=H.wroteBox 2 rfl hch8 hbx8
 have H:=H.pX 0 rfl hx22
 have hS:=H.lk 1 0 0 []
 refine aS hS ?_
 refine zp 10 hf hS fun a hf=>?_
 refine zp 11 hf hS fun a hf=>?_
 refine nn 13 rfl (bl hf H 3 ([0,0,0,1,2]:List Int) [(.int .i64 0),(.int .i64 0),(.int .i64 0),(.int .i64 1),(.int .i64 2)] (elI [0,0,0,1,2]) fun A16 a w hf H=>?_)
 have hS:=H.lk 1 0 0 []
 refine aS hS ?_
 have H:=H.freeze 0 rfl
 refine nn 14 rfl (oC hf TF.gcq (uJ (S:=NB b0) (H.boxAt 2 rfl) ((ud (x:=y13.2) (H.nb 2 rfl (H.get 1 rfl)))) (fun h=>h rfl) (uB (H.nb 2 rfl (H.get 0 rfl))) hy14) fun v14 w a hp16 hf=>?_)
 obtain ⟨hch9,cs10,hbx9,hr10,⟨hx24,hx25⟩,hs9⟩:=hp16
 obtain rfl:=uv hs9
 obtain ⟨A17,c15,rfl,hl11⟩:=uc hr10
 obtain ⟨rfl,rfl⟩:=un hx24 rfl rfl
 have hx26:=hx25.trans hx23
 have H:=H.wroteBox 2 rfl hch9 hbx9
 have H:=H.pX 1 rfl hx25
 have hS:=H.lk 1 0 0 []
 refine aS hS ?_
 refine zP 15 rfl rfl rfl rfl hf hS (fun w=>uA hf (cs:=[(.int .i64 y11),(.int .i64 y12),(.int .i64 (w64 (100 * (w64 (1 + y13.1))))),(.int .i64 y14.1)]) rfl (fun w=>by kernel_rfl)) fun a hf=>?_
 refine nn 16 rfl (oC hf TF.ggb (yy (S:=TT) (uB (H.rt 6 rfl)) xU hy15) fun v15 w a hp17 hf=>?_)
 obtain ⟨hb6,F6,hp18,hN2⟩:=hp17
 obtain ⟨A18,c16,rfl,hl12⟩:=xP hp18
 have H:=H.aO1 hb6 hN2 hl12
 have H:=H.lend 0 rfl
 have hS:=H.lk 1 0 0 []
 refine aS hS ?_
 refine zp 17 hf hS fun a hf=>?_
 refine nn 18 rfl (uh hf H 0 TF.sz25 rfl rfl rfl rfl rfl rfl (nle rfl) fun w H=>?_)
 refine ⟨fun h=>absurd h (by decide),?_⟩
 refine dk ?_
 have hf:=hf.pn [0,2,3,4,7]
 have H:=H.lk 7 1 1 [0,1]
 exact ⟨A18,c16,F6,hx26,hf,H⟩
 refine (bl hf H 3 ([0,0,0,1,2]:List Int) [(.int .i64 0),(.int .i64 0),(.int .i64 0),(.int .i64 1),(.int .i64 2)] (elI [0,0,0,1,2]) fun A15 a w hf H=>?_)
 have hS:=H.lk 1 0 0 []
 refine aS hS ?_
 refine nn 9 rfl (oC hf TF.yJ (ui (S:=NB b0) (H.boxAt 2 rfl) ((ud (x:=y10.2) (H.nb 2 rfl (H.get 0 rfl)))) (fun h=>h rfl) ug hy13) fun v13 w a hp15 hf=>?_)
 obtain ⟨hch8,cs9,hbx8,hr9,⟨hx21,hx22⟩,hs8⟩:=hp15
 obtain rfl:=uv hs8
 obtain ⟨A16,c14,rfl,hl10⟩:=uc hr9
 obtain ⟨rfl,rfl⟩:=un hx21 rfl rfl
 have hx23:=hx22.trans hx20
 have H:=H.wroteBox 2 rfl hch8 hbx8
 have H:=H.pX 0 rfl hx22
 have hS:=H.lk 1 0 0 []
 refine aS hS ?_
 refine zp 10 hf hS fun a hf=>?_
 refine zp 11 hf hS fun a hf=>?_
 have H:=H.freeze 0 rfl
 refine nn 14 rfl (oC hf TF.gcq (uJ (S:=NB b0) (H.boxAt 2 rfl) ((ud (x:=y13.2) (H.nb 2 rfl (H.get 1 rfl)))) (fun h=>h rfl) (uB (H.nb 2 rfl (H.get 0 rfl))) hy14) fun v14 w a hp16 hf=>?_)
 obtain ⟨hch9,cs10,hbx9,hr10,⟨hx24,hx25⟩,hs9⟩:=hp16
 obtain rfl:=uv hs9
 obtain ⟨A17,c15,rfl,hl11⟩:=uc hr10
 obtain ⟨rfl,rfl⟩:=un hx24 rfl rfl
 have hx26:=hx25.trans hx23
 have H:=H.wroteBox 2 rfl hch9 hbx9
 have H:=H.pX 1 rfl hx25
 have hS:=H.lk 1 0 0 []
 refine aS hS ?_
 refine zP 15 rfl rfl rfl rfl hf hS (fun w=>uA hf (cs:=[(.int .i64 y11),(.int .i64 y12),(.int .i64 (w64 (100 * (w64 (1 + y13.1))))),(.int .i64 y14.1)]) rfl (fun w=>by kernel_rfl)) fun a hf=>?_
 refine nn 16 rfl (oC hf TF.ggb (yy (S:=TT) (uB (H.rt 6 rfl)) xU hy15) fun v15 w a hp17 hf=>?_)
 obtain ⟨hb6,F6,hp18,hN2⟩:=hp17
 obtain ⟨A18,c16,rfl,hl12⟩:=xP hp18
 have H:=H.aO1 hb6 hN2 hl12
 have H:=H.lend 0 rfl
 have hS:=H.lk 1 0 0 []
 refine aS hS ?_
 refine zp 17 hf hS fun a hf=>?_
 refine nn 18 rfl (uh hf H 0 TF.sz25 rfl rfl rfl rfl rfl rfl (nle rfl) fun w H=>?_)
 refine ⟨fun h=>absurd h (by decide),?_⟩
 refine dk ?_
 have hf:=hf.pn [0,2,3,4,7]
 have H:=H.lk 7 1 1 [0,1]
 exact ⟨A18,c16,F6,hx26,hf,H⟩
 refine (bl hf H 3 ([0,0,0,1,2]:List Int) [(.int .i64 0),(.int .i64 0),(.int .i64 0),(.int .i64 1),(.int .i64 2)] (elI [0,0,0,1,2]) fun A15 a w hf H=>?_)
 have hS:=H.lk 1 0 0 []
 refine aS hS ?_
 refine nn 7 rfl (oC hf TF.ghv (zC (S:=TT) ug ug hy12) fun v12 w a hp14 hf=>?_)
 obtain ⟨hb5,hp14⟩:=hp14
 obtain rfl:=uv hp14
 have H:=H.keep hb5
 have hS:=H.lk 1 0 0 []
 refine aS hS ?_
 refine nn 9 rfl (oC hf TF.yJ (ui (S:=NB b0) (H.boxAt 2 rfl) ((ud (x:=y10.2) (H.nb 2 rfl (H.get 0 rfl)))) (fun h=>h rfl) ug hy13) fun v13 w a hp15 hf=>?_)
 obtain ⟨hch8,cs9,hbx8,hr9,⟨hx21,hx22⟩,hs8⟩:=hp15
 obtain rfl:=uv hs8
 obtain ⟨A16,c14,rfl,hl10⟩:=uc hr9
 obtain ⟨rfl,rfl⟩:=un hx21 rfl rfl
 have hx23:=hx22.trans hx20
 have H:=H.wroteBox 2 rfl hch8 hbx8
 have H:=H.pX 0 rfl hx22
 have hS:=H.lk 1 0 0 []
 refine aS hS ?_
 refine zp 10 hf hS fun a hf=>?_
 refine zp 11 hf hS fun a hf=>?_
 have H:=H.freeze 0 rfl
 refine nn 14 rfl (oC hf TF.gcq (uJ (S:=NB b0) (H.boxAt 2 rfl) ((ud (x:=y13.2) (H.nb 2 rfl (H.get 1 rfl)))) (fun h=>h rfl) (uB (H.nb 2 rfl (H.get 0 rfl))) hy14) fun v14 w a hp16 hf=>?_)
 obtain ⟨hch9,cs10,hbx9,hr10,⟨hx24,hx25⟩,hs9⟩:=hp16
 obtain rfl:=uv hs9
 obtain ⟨A17,c15,rfl,hl11⟩:=uc hr10
 obtain ⟨rfl,rfl⟩:=un hx24 rfl rfl
 have hx26:=hx25.trans hx23
 have H:=H.wroteBox 2 rfl hch9 hbx9
 have H:=H.pX 1 rfl hx25
 have hS:=H.lk 1 0 0 []
 refine aS hS ?_
 refine zP 15 rfl rfl rfl rfl hf hS (fun w=>uA hf (cs:=[(.int .i64 y11),(.int .i64 y12),(.int .i64 (w64 (100 * (w64 (1 + y13.1))))),(.int .i64 y14.1)]) rfl (fun w=>by kernel_rfl)) fun a hf=>?_
 refine nn 16 rfl (oC hf TF.ggb (yy (S:=TT) (uB (H.rt 6 rfl)) xU hy15) fun v15 w a hp17 hf=>?_)
 obtain ⟨hb6,F6,hp18,hN2⟩:=hp17
 obtain ⟨A18,c16,rfl,hl12⟩:=xP hp18
 have H:=H.aO1 hb6 hN2 hl12
 have H:=H.lend 0 rfl
 have hS:=H.lk 1 0 0 []
 refine aS hS ?_
 refine zp 17 hf hS fun a hf=>?_
 refine nn 18 rfl (uh hf H 0 TF.sz25 rfl rfl rfl rfl rfl rfl (nle rfl) fun w H=>?_)
 refine ⟨fun h=>absurd h (by decide),?_⟩
 refine dk ?_
 have hf:=hf.pn [0,2,3,4,7]
 have H:=H.lk 7 1 1 [0,1]
 exact ⟨A18,c16,F6,hx26,hf,H⟩
 refine (bl hf H 3 ([0,0,0,1,2]:List Int) [(.int .i64 0),(.int .i64 0),(.int .i64 0),(.int .i64 1),(.int .i64 2)] (elI [0,0,0,1,2]) fun A15 a w hf H=>?_)
 have hS:=H.lk 1 0 0 []
 refine aS hS ?_
 refine nn 4 rfl (oC hf TF.gjB (gah (S:=TT) ug ug hy11) fun v11 w a hp13 hf=>?_)
 obtain ⟨hb4,hp13⟩:=hp13
 obtain rfl:=uv hp13
 have H:=H.keep hb4
 have hS:=H.lk 1 0 0 []
 refine aS hS ?_
 refine nn 7 rfl (oC hf TF.ghv (zC (S:=TT) ug ug hy12) fun v12 w a hp14 hf=>?_)
 obtain ⟨hb5,hp14⟩:=hp14
 obtain rfl:=uv hp14
 have H:=H.keep hb5
 have hS:=H.lk 1 0 0 []
 refine aS hS ?_
 refine nn 9 rfl (oC hf TF.yJ (ui (S:=NB b0) (H.boxAt 2 rfl) ((ud (x:=y10.2) (H.nb 2 rfl (H.get 0 rfl)))) (fun h=>h rfl) ug hy13) fun v13 w a hp15 hf=>?_)
 obtain ⟨hch8,cs9,hbx8,hr9,⟨hx21,hx22⟩,hs8⟩:=hp15
 obtain rfl:=uv hs8
 obtain ⟨A16,c14,rfl,hl10⟩:=uc hr9
 obtain ⟨rfl,rfl⟩:=un hx21 rfl rfl
 have hx23:=hx22.trans hx20
 have H:=H.wroteBox 2 rfl hch8 hbx8
 have H:=H.pX 0 rfl hx22
 have hS:=H.lk 1 0 0 []
 refine aS hS ?_
 refine zp 10 hf hS fun a hf=>?_
 refine zp 11 hf hS fun a hf=>?_
 have H:=H.freeze 0 rfl
 refine nn 14 rfl (oC hf TF.gcq (uJ (S:=NB b0) (H.boxAt 2 rfl) ((ud (x:=y13.2) (H.nb 2 rfl (H.get 1 rfl)))) (fun h=>h rfl) (uB (H.nb 2 rfl (H.get 0 rfl))) hy14) fun v14 w a hp16 hf=>?_)
 obtain ⟨hch9,cs10,hbx9,hr10,⟨hx24,hx25⟩,hs9⟩:=hp16
 obtain rfl:=uv hs9
 obtain ⟨A17,c15,rfl,hl11⟩:=uc hr10
 obtain ⟨rfl,rfl⟩:=un hx24 rfl rfl
 have hx26:=hx25.trans hx23
 have H:=H.wroteBox 2 rfl hch9 hbx9
 have H:=H.pX 1 rfl hx25
 have hS:=H.lk 1 0 0 []
 refine aS hS ?_
 refine zP 15 rfl rfl rfl rfl hf hS (fun w=>uA hf (cs:=[(.int .i64 y11),(.int .i64 y12),(.int .i64 (w64 (100 * (w64 (1 + y13.1))))),(.int .i64 y14.1)]) rfl (fun w=>by kernel_rfl)) fun a hf=>?_
 refine nn 16 rfl (oC hf TF.ggb (yy (S:=TT) (uB (H.rt 6 rfl)) xU hy15) fun v15 w a hp17 hf=>?_)
 obtain ⟨hb6,F6,hp18,hN2⟩:=hp17
 obtain ⟨A18,c16,rfl,hl12⟩:=xP hp18
 have H:=H.aO1 hb6 hN2 hl12
 have H:=H.lend 0 rfl
 have hS:=H.lk 1 0 0 []
 refine aS hS ?_
 refine zp 17 hf hS fun a hf=>?_
 refine nn 18 rfl (uh hf H 0 TF.sz25 rfl rfl rfl rfl rfl rfl (nle rfl) fun w H=>?_)
 refine ⟨fun h=>absurd h (by decide),?_⟩
 refine dk ?_
 have hf:=hf.pn [0,2,3,4,7]
 have H:=H.lk 7 1 1 [0,1]
 exact ⟨A18,c16,F6,hx26,hf,H⟩
 rintro a w ⟨A18,c16,F6,hx26,hf,H⟩
 refine uV (ua (reg (pz 3 hf fun a hf=>?_)))
 refine ub ?_
 have hf:=hf.pn [0,2,3,4,7]
 have H:=H.lk 7 1 1 [1,0]
 exact ua ⟨(w64 (m9 - 1),y15,y14.2.code,y14.2.at_,y14.2.seed),hR1,A18,c16,F6,hx26,hf,H⟩
 refine wp_skip (uV (ua (reg (pz 3 hf fun a hf=>?_))))
 have hf:=hf.pn [0,2,3,4,7]
 refine ub ?_
 have hf:=hf.pn [0,2,3,4,7]
 have H:=H.lk 7 1 1 [0,3]
 exact ua ⟨(w64 (m9 - 1),m10,y10.2.code,y10.2.at_,y10.2.seed),hR1,A12,c11,F5,hx20,hf,H⟩
 refine wp_exit (uy (uy (vJ (?_))))
 have hf:=hf.pn [0,2,3,4,7]
 have H:=H.lk 7 1 1 [0,1]
 exact ⟨(m9,m10,m11,m12,m13),(Option.some.inj hR1).symm,A12,c11,F5,hsm2,hf,H⟩
 rintro a w ⟨⟨m14,m15,m16,m17,m18⟩,rfl,A19,c17,F8,hsm2,hf,H⟩
 try dsimp only at hsm2
 try dsimp only at hF
 refine ua (sq (reg (lN 0 hf H TF.la27 fun a hf=>?_)))
 refine sB 1 hf H TF.sz27 fun w H=>?_
 refine wer ?_
 have H:=H.rowOwn 0 rfl rfl
 obtain ⟨F9,H⟩:=H.freezeOwn 0 rfl
 have H:=H.lend 0 rfl
 have H:=H.frontD 1 rfl
 have H:=H.frontD 1 rfl
 obtain rfl:=oi hF
 refine xi hf rfl (um hf H 1 TF.la27 rfl rfl rfl) ?_
 have hN:=H.endsB2 2 rfl
 exact ⟨_,rfl,H.chg,_,H.boxAt 2 rfl,(ud (x:=({ code:=m16,at_:=m17,seed:=m18 }:L1CurP)) (eB 2 (H.get 1 rfl))),⟨fxc hsm2,hsm2⟩,(F9++F8),⟨_,vw (x:=({ Nodes:=l,Fibers:=m15 }:Network)) (H.ownAt 0 rfl) (H.ownAt 1 rfl),rfl⟩,by first | exact hN | simpa using hN⟩
theorem ga0 {S:Nat→Prop} {b0:Nat} {cs0:List Value} {c:L1CurP} {r:Network×L1CurP} (hp0:w0.heap[b0]?=some (.cells cs0.toArray 109 (0,0))) (hr0:GoTy.rep w0 S cs0 c) (hS0:¬S b0) (hF:yf fu c=some r) :
    Calls Tryz.prog 226 [(.pointer (some ⟨b0,0,none⟩))].toArray w0 fun e w'=>∃ v,e=.returned v∧(Chg w0 w' [b0]∧∃ cs',w'.heap[b0]?=some (.cells cs'.toArray 109 (0,0))∧GoTy.rep w' (St ⟨w0,[b0]⟩ S [⟨b0,109,cs'⟩] [] [] false) cs' r.2∧(cs'[0]?=cs0[0]?∧r.2.code=c.code)∧∃ F0,VO w' F0 v r.1∧New w0 w' F0):=by
 obtain ⟨A,c2,rfl,hl⟩:=uc hr0
 have H:=Mem.startB S hp0
 have H:=H.pB hS0 hl
 refine en Tryz.func226 fun a hf=>?_
 rw [yf] at hF
 refine sq (reg (aL hf H TF.zv27 fun b2 a w hf H=>?_))
 refine wr (pz 1 hf fun a hf=>?_)
 obtain ⟨y,hy,hF⟩:=bs_ hF
 refine oc hf TF.glk (gaN (S:=NB b0) (H.boxAt 1 rfl) ((ud (x:=c) (H.nb 1 rfl (H.get 0 rfl)))) (fun h=>h rfl) hy) fun v w a hp2 hf=>?_
 obtain ⟨hch,cs2,hbx,hr2,⟨hx,hx2⟩,hs⟩:=hp2
 obtain ⟨F,hp3,hN⟩:=hs
 obtain ⟨A2,c3,F2,A3,c4,F3,rfl,rfl,hl2,hl3⟩:=gaf hp3
 obtain ⟨A4,c5,rfl,hl4⟩:=uc hr2
 obtain ⟨rfl,rfl⟩:=un hx rfl rfl
 have H:=H.bO2 1 rfl hch hbx hN hl2 hl3
 have H:=H.pX 0 rfl hx2
 have H:=H.lend 0 rfl
 have H:=H.lend 1 rfl
 refine aL hf H TF.zv27 fun b3 a w hf H=>?_
 refine sB 0 hf H TF.sz27 fun w H=>?_
 refine we (sqz (pz 1 hf fun a hf=>?_))
 refine lB 0 hf H TF.ls25 fun a hf=>?_
 refine pz 2 hf fun a hf=>?_
 refine ub (ua (ib hF hf (fun hc hF=>?_) fun hc hF=>?_))
 refine reg (pz 1 hf fun a hf=>?_)
 refine lB 0 hf H TF.ls25 fun a hf=>?_
 refine oq hf (uA hf (cs:=[(.int .i64 0),(.int .i64 1),(.int .i64 100),(.int .i64 0)]) rfl (fun w=>by kernel_rfl)) fun a hf=>?_
 refine wl0 rfl (bl hf H 180 ([({ A:=0,B:=1,Length:=100,Risk:=0 }:Fiber)]:List Fiber) [(.int .i64 0),(.int .i64 1),(.int .i64 100),(.int .i64 0)] (el1 (y:=({ A:=0,B:=1,Length:=100,Risk:=0 }:Fiber)) ((zr (x:=({ A:=0,B:=1,Length:=100,Risk:=0 }:Fiber))))) fun A5 a w hf H=>?_)
 have H:=H.frontD 1 rfl
 obtain ⟨Fs,E,H,-⟩:=H.thaw rfl
 have H:=H.rowSh 0 rfl
 have H:=H.pB hS0 hl
 have H:=H.argB (by simpa using hS0) (p:=MP.val [(.slice A y.2.code.length c2)] (y.2.code:List By)) (by rw [hx2]; exact hl)
 have H:=H.lend 0 rfl
 obtain ⟨l,hl_,hF⟩:=bs_ hF
 refine wl0 rfl (xg hf H Tryz.underlying25 TF.gcd rfl (by decide) 0 1 rfl rfl rfl rfl (.inr rfl) hl_ (by decide) fun E2 A6 c6 a w hf H=>?_)
 refine pz 1 hf fun a hf=>?_
 refine sB 0 hf H TF.sz25 fun w H=>?_
 have hf:=hf.pn [2,3]
 refine wr (lN 0 hf H TF.la27 fun a hf=>?_)
 refine sB 1 hf H TF.sz27 fun w H=>?_
 refine wer ?_
 have H:=H.rowOwn 0 rfl rfl
 obtain ⟨F4,H⟩:=H.freezeOwn 0 rfl
 have H:=H.lend 0 rfl
 have H:=H.frontD 1 rfl
 obtain rfl:=oi hF
 refine xi hf rfl (um hf H 1 TF.la27 rfl rfl rfl) ?_
 have hN:=H.endsB2 2 rfl
 exact ⟨_,rfl,H.chg,_,H.boxAt 2 rfl,(ud (x:=y.2) (eB 2 (H.get 2 rfl))),⟨fxc hx2,hx2⟩,(F2++F4),⟨_,vw (x:=({ Nodes:=y.1.Nodes,Fibers:=l }:Network)) (H.ownAt 0 rfl) (H.ownAt 1 rfl),rfl⟩,by first | exact hN | simpa using hN⟩
 refine wp_skip (ua (sq (reg (lN 0 hf H TF.la27 fun a hf=>?_))))
 refine sB 1 hf H TF.sz27 fun w H=>?_
 refine wer ?_
 have H:=H.frontD 1 rfl
 have H:=H.frontD 1 rfl
 obtain rfl:=oi hF
 refine xi hf rfl (um hf H 1 TF.la27 rfl rfl rfl) ?_
 have hN:=H.endsB2 2 rfl
 exact ⟨_,rfl,H.chg,_,H.boxAt 2 rfl,(ud (x:=y.2) (eB 2 (H.get 2 rfl))),⟨fxc hx2,hx2⟩,(F2++F3),⟨_,vw (x:=y.1) (H.ownAt 0 rfl) (H.ownAt 1 rfl),rfl⟩,by first | exact hN | simpa using hN⟩
theorem gbk {S:Nat→Prop} {v0_:Value} {v1_:Value} {v2_:Value} {n':Network} {fiber:Int} {node:Int} {r:Int} (h0:VR w0 S v0_ n') (h1:VR w0 S v1_ fiber) (h2:VR w0 S v2_ node) (hF:yz fu n' fiber node=some r) :
    Calls Tryz.prog 290 [v0_,v1_,v2_].toArray w0 fun e w'=>∃ v,e=.returned v∧(Below w0.heap.size w0 w'∧VR w' (St ⟨w0,[]⟩ S [] [] [] true) v r):=by
 obtain ⟨A,c,A2,c2,rfl,hl,hl2⟩:=vA h0
 obtain rfl:=uv h1
 obtain rfl:=uv h2
 have H:=Mem.start ⟨w0,[]⟩ S
 have H:=H.pA hl
 have H:=H.pA hl2
 refine en Tryz.func290 fun a hf=>?_
 rw [yz] at hF
 refine bx hf H fun b' a w hf H=>?_
 refine pz 1 hf fun a hf=>?_
 refine wr (pz 1 hf fun a hf=>?_)
 refine lB 0 hf H TF.ls25 fun a hf=>?_
 refine pz 1 hf fun a hf=>?_
 obtain ⟨e,he,hF⟩:=bs_ hF
 refine wl0 rfl (vn hf H Tryz.underlying25 TF.zc 0 rfl rfl rfl he (by decide) fun p o cs a hf hr H=>?_)
 obtain rfl:=uZ hr
 refine oq hf (uz hf H TF.gas 0 0 rfl rfl rfl rfl) fun a hf=>?_
 refine aL hf H TF.gj2 fun b2 a w hf H=>?_
 refine sB 0 hf H TF.zc fun w H=>?_
 refine we (sqz (pz 1 hf fun a hf=>?_))
 refine ub (ua (wp_block (sqz (pz 1 hf fun a hf=>?_))))
 refine lB 0 hf H TF.ls3 fun a hf=>?_
 refine pz 2 hf fun a hf=>?_
 have hf:=hf.pn [7,13,14]
 refine ub (ua (ib hF hf (fun hc hF=>?_) fun hc hF=>?_))
 refine sqz (pz 1 hf fun a hf=>?_)
 refine lB 0 hf H TF.ls3 fun a hf=>?_
 refine pz 1 hf fun a hf=>?_
 refine ub (ua (wp_ret (u9 (uf (?_)))))
 obtain rfl:=oi hF
 refine rT hf ?_
 exact ⟨_,rfl,H.bel,ug⟩
 refine sqz (pz 1 hf fun a hf=>?_)
 refine lB 0 hf H TF.ls3 fun a hf=>?_
 refine pz 2 hf fun a hf=>?_
 refine ub (ua (ib hF hf (fun hc2 hF=>?_) fun hc2 hF=>?_))
 refine sqz (pz 1 hf fun a hf=>?_)
 refine lB 0 hf H TF.ls3 fun a hf=>?_
 refine pz 1 hf fun a hf=>?_
 refine ub (ua (wp_ret (u9 (uf (?_)))))
 obtain rfl:=oi hF
 refine rT hf ?_
 exact ⟨_,rfl,H.bel,ug⟩
 refine wp_skip (uV (ua (sqz (pz 1 hf fun a hf=>?_))))
 refine wer ?_
 obtain rfl:=oi hF
 refine rT hf ?_
 exact ⟨_,rfl,H.bel,ug⟩
theorem ga3 {S:Nat→Prop} {v0_:Value} {v1_:Value} {l:List Int} {n':Int} {r:Bool} (h0:VR w0 S v0_ l) (h1:VR w0 S v1_ n') (hF:zL fu l n'=some r) :
    Calls Tryz.prog 178 [v0_,v1_].toArray w0 fun e w'=>∃ v,e=.returned v∧(Below w0.heap.size w0 w'∧VR w' (St ⟨w0,[]⟩ S [] [] [] true) v r):=by
 obtain ⟨A,c,rfl,hl⟩:=u4 h0
 obtain rfl:=uv h1
 have H:=Mem.start ⟨w0,[]⟩ S
 have H:=H.pA hl
 refine en Tryz.func178 fun a hf=>?_
 rw [zL] at hF
 refine sqz (pz 1 hf fun a hf=>?_)
 refine we (sqz (pz 1 hf fun a hf=>?_))
 refine ub (ua ?_)
 obtain ⟨out',hB1,hF⟩:=bs_ hF
 have hf:=hf.pn [0,1,5]
 have H:=H.lk 0 0 0 [0]
 refine vU (fun (s:Int) (a:Act) (w:World)=>match s with | i=>Fr a 18 [(0,(.slice A l.length c)),(1,(.int .i64 n')),(5,(.int .i64 i))]∧Mem ⟨w0,[]⟩ S [] [] [] [(false,MP.val [(.slice A l.length c)] (l:List Int))] w) (fun k (s:Int)=>yB fu l n' k s=some out') (fun s=>out'=Out.next s) 0 fu hB1 ⟨hf,H⟩ (fun s h=>by cases h) ?_ ?_
 rintro fk i a w hR1 hI
 replace hR1:yB fu l n' (fk + 1) i=some out':=hR1
 rw [yB] at hR1
 obtain ⟨hf,H⟩:=hI
 refine sq (sqz (pz 4 hf fun a hf=>?_))
 refine ub (ua (ib hR1 hf (fun hc hR1=>?_) fun hc hR1=>?_))
 refine ws (pz 2 hf fun a hf=>?_)
 obtain ⟨e,he,hR1⟩:=bs_ hR1
 refine wl0 rfl (vn hf H Tryz.underlying35 TF.sz3 0 rfl rfl rfl he (by decide) fun p o cs a hf hr H=>?_)
 obtain rfl:=hr
 refine oq hf (uI hf H TF.ls3 0 0 rfl rfl rfl) fun a hf=>?_
 refine pz 2 hf fun a hf=>?_
 refine ub (ua (ib hR1 hf (fun hc2 hR1=>?_) fun hc2 hR1=>?_))
 refine sqz (pz 1 hf fun a hf=>?_)
 have hf:=hf.pn [4]
 refine ub (ua (wp_ret (u9 (uf (uf (u9 (uf (uf (?_)))))))))
 obtain rfl:=oi hR1
 replace hF:=xc hF
 obtain rfl:=oi hF
 refine rT hf ?_
 exact ⟨_,rfl,H.bel,uk⟩
 refine wp_skip (uV (ua (reg (pz 3 hf fun a hf=>?_))))
 refine ub ?_
 have hf:=hf.pn [0,1,5]
 have H:=H.lk 0 0 0 [1]
 exact ua ⟨w64 (i + 1),hR1,hf,H⟩
 refine wp_exit (uy (uy (vJ (?_))))
 have hf:=hf.pn [0,1,5]
 have H:=H.lk 0 0 0 [0]
 exact ⟨i,(Option.some.inj hR1).symm,hf,H⟩
 rintro a w ⟨i2,rfl,hf,H⟩
 replace hF:=vG hF
 refine ua (sqz (pz 1 hf fun a hf=>?_))
 refine wer ?_
 obtain rfl:=oi hF
 refine rT hf ?_
 exact ⟨_,rfl,H.bel,uk⟩
theorem gbq {S:Nat→Prop} {b0:Nat} {cs0:List Value} {v1_:Value} {c:L1CurP} {n':Network} {r:Route×L1CurP} (hp0:w0.heap[b0]?=some (.cells cs0.toArray 109 (0,0))) (hr0:GoTy.rep w0 S cs0 c) (hS0:¬S b0) (h1:VR w0 S v1_ n') (hF:yv fu c n'=some r) :
    Calls Tryz.prog 229 [(.pointer (some ⟨b0,0,none⟩)),v1_].toArray w0 fun e w'=>∃ v,e=.returned v∧(Chg w0 w' [b0]∧∃ cs',w'.heap[b0]?=some (.cells cs'.toArray 109 (0,0))∧GoTy.rep w' (St ⟨w0,[b0]⟩ S [⟨b0,109,cs'⟩] [] [] false) cs' r.2∧(cs'[0]?=cs0[0]?∧r.2.code=c.code)∧∃ F0,VO w' F0 v r.1∧New w0 w' F0):=by
 obtain ⟨A,c2,rfl,hl⟩:=uc hr0
 obtain ⟨A2,c3,A3,c4,rfl,hl2,hl3⟩:=vA h1
 have H:=Mem.startB S hp0
 have H:=H.pB hS0 hl
 have H:=H.pB hS0 hl2
 have H:=H.pB hS0 hl3
 refine en Tryz.func229 fun a hf=>?_
 rw [yv] at hF
 refine bx hf H fun b3 a w hf H=>?_
 refine aL hf H TF.zv45 fun b4 a w hf H=>?_
 refine wr (pz 2 hf fun a hf=>?_)
 refine lB 1 hf H TF.ls24 fun a hf=>?_
 refine pz 1 hf fun a hf=>?_
 obtain ⟨y,hy,hF⟩:=bs_ hF
 refine oc hf TF.yJ (ui (S:=NB b0) (H.boxAt 2 rfl) ((ud (x:=c) (H.nb 2 rfl (H.get 2 rfl)))) (fun h=>h rfl) ug hy) fun v w a hp3 hf=>?_
 obtain ⟨hch,cs3,hbx,hr3,⟨hx,hx2⟩,hs⟩:=hp3
 obtain rfl:=uv hs
 obtain ⟨A4,c5,rfl,hl4⟩:=uc hr3
 obtain ⟨rfl,rfl⟩:=un hx rfl rfl
 have H:=H.wroteBox 2 rfl hch hbx
 have H:=H.pX 2 rfl hx2
 refine pz 1 hf fun a hf=>?_
 refine wr (pz 1 hf fun a hf=>?_)
 refine oq hf (uA hf (cs:=[(.int .i64 y.1),(.slice none 0 0)]) rfl (fun w=>by kernel_rfl)) fun a hf=>?_
 refine aL hf H TF.zv45 fun b5 a w hf H=>?_
 refine sB 0 hf H TF.sz45 fun w H=>?_
 refine wr (pz 1 hf fun a hf=>?_)
 refine wl0 rfl (bl hf H 3 ([y.1]:List Int) [(.int .i64 y.1)] (el1 (y:=y.1) (rfl)) fun A5 a w hf H=>?_)
 refine pz 1 hf fun a hf=>?_
 refine we (sqz (pz 1 hf fun a hf=>?_))
 obtain ⟨y2,hy2,hF⟩:=bs_ hF
 refine oc hf TF.yJ (ui (S:=NB b0) (H.boxAt 3 rfl) ((ud (x:=y.2) (H.nb 3 rfl (H.get 0 rfl)))) (fun h=>h rfl) ug hy2) fun v2 w a hp4 hf=>?_
 obtain ⟨hch2,cs4,hbx2,hr4,⟨hx3,hx4⟩,hs2⟩:=hp4
 obtain rfl:=uv hs2
 obtain ⟨A6,c6,rfl,hl5⟩:=uc hr4
 obtain ⟨rfl,rfl⟩:=un hx3 rfl rfl
 have hx5:=hx4.trans hx2
 have H:=H.wroteBox 3 rfl hch2 hbx2
 have H:=H.pX 0 rfl hx4
 refine pz 2 hf fun a hf=>?_
 have hf:=hf.pn [0,3,4,6,7,8]
 refine ub (ua ?_)
 have H:=H.nilRow (Int) (.sh true) rfl trivial 3
 obtain ⟨out',hB1,hF⟩:=bs_ hF
 have hf:=hf.pn [0,3,4,6,7,8]
 have H:=H.lm 15 3 0 4 13
 refine vU (fun (s:List Int×Int×List Int×List By×Int×U64) (a:Act) (w:World)=>match s with | (seen,m,m2,m3,m4,m5)=>∃ (A7:Option Addr) (c7:Nat) (E:Go.TypeId) (A8:Option Addr) (c8:Nat) (E2:Go.TypeId),m3=c.code∧Fr a 87 [(0,(.pointer (some ⟨b0,0,none⟩))),(3,(.pointer (some ⟨b3,0,none⟩))),(4,(.pointer (some ⟨b4,0,none⟩))),(6,(.pointer (some ⟨b5,0,none⟩))),(7,(.slice A7 seen.length c7)),(8,(.int .i64 m))]∧Mem ⟨w0,[b0]⟩ S [⟨b5,45,[(.int .i64 y.1),(.slice A8 m2.length c8)]⟩,⟨b4,45,[(.int .i64 0),(.slice none 0 0)]⟩,⟨b3,27,[(.slice A2 n'.Nodes.length c3),(.slice A3 n'.Fibers.length c4)]⟩,⟨b0,109,[(.slice A m3.length c2),(.int .i64 m4),(.int .u64 m5.n)]⟩] [⟨.sh true,E2,A8,c8,(m2:List Int)⟩,⟨.sh true,E,A7,c7,(seen:List Int)⟩] [] [(false,MP.val [(.slice A m3.length c2)] (m3:List By)),(false,MP.val [(.slice A3 n'.Fibers.length c4)] (n'.Fibers:List Fiber)),(false,MP.val [(.slice A2 n'.Nodes.length c3)] (n'.Nodes:List ByteArray))] w) (fun k (s:List Int×Int×List Int×List By×Int×U64)=>xd fu n' y k s.1 s.2.1 s.2.2.1 s.2.2.2.1 s.2.2.2.2.1 s.2.2.2.2.2=some out') (fun s=>out'=s) ([y.1],w64 (1 + y2.1),([]:List Int),y2.2.code,y2.2.at_,y2.2.seed) fu hB1 ⟨A5,1,3,none,0,3,hx5,hf,H⟩ (fun s h=>by cases h) ?_ ?_
 rintro fk ⟨seen,m,m2,m3,m4,m5⟩ a w hR1 hI
 replace hR1:xd fu n' y (fk + 1) seen m m2 m3 m4 m5=some out':=hR1
 rw [xd] at hR1
 obtain ⟨A7,c7,E,A8,c8,E2,hsm,hf,H⟩:=hI
 refine sq (sqz (pz 2 hf fun a hf=>?_))
 refine ub (ua (ib hR1 hf (fun hc hR1=>?_) fun hc hR1=>?_))
 refine ws (wl0 rfl (bl hf H 3 ([]:List Int) [] el0 fun A9 a w hf H=>?_))
 refine pz 1 hf fun a hf=>?_
 refine we (sqz (pz 1 hf fun a hf=>?_))
 refine ub (ua ?_)
 obtain ⟨out2,hB2,hR1⟩:=bs_ hR1
 have hf:=hf.pn [0,3,4,6,7,8,9,10]
 have H:=H.lm 15 7 0 3 7
 refine vU (fun (s:List Int×Int) (a:Act) (w:World)=>match s with | (list,i)=>∃ (A10:Option Addr) (c9:Nat) (E3:Go.TypeId),Fr a 87 [(0,(.pointer (some ⟨b0,0,none⟩))),(3,(.pointer (some ⟨b3,0,none⟩))),(4,(.pointer (some ⟨b4,0,none⟩))),(6,(.pointer (some ⟨b5,0,none⟩))),(7,(.slice A7 seen.length c7)),(8,(.int .i64 m)),(9,(.slice A10 list.length c9)),(10,(.int .i64 i))]∧Mem ⟨w0,[b0]⟩ S [⟨b5,45,[(.int .i64 y.1),(.slice A8 m2.length c8)]⟩,⟨b4,45,[(.int .i64 0),(.slice none 0 0)]⟩,⟨b3,27,[(.slice A2 n'.Nodes.length c3),(.slice A3 n'.Fibers.length c4)]⟩,⟨b0,109,[(.slice A m3.length c2),(.int .i64 m4),(.int .u64 m5.n)]⟩] [⟨.sh true,E3,A10,c9,(list:List Int)⟩,⟨.sh true,E2,A8,c8,(m2:List Int)⟩,⟨.sh true,E,A7,c7,(seen:List Int)⟩] [] [(false,MP.val [(.slice A m3.length c2)] (m3:List By)),(false,MP.val [(.slice A3 n'.Fibers.length c4)] (n'.Fibers:List Fiber)),(false,MP.val [(.slice A2 n'.Nodes.length c3)] (n'.Nodes:List ByteArray))] w) (fun k (s:List Int×Int)=>vp fu n' y seen k s.1 s.2=some out2) (fun s=>out2=s) (([]:List Int),0) fu hB2 ⟨A9,0,3,hf,H⟩ (fun s h=>by cases h) ?_ ?_
 rintro fk ⟨list,i⟩ a w hR2 hI
 replace hR2:vp fu n' y seen (fk + 1) list i=some out2:=hR2
 rw [vp] at hR2
 obtain ⟨A10,c9,E3,hf,H⟩:=hI
 refine sq (sqz (pz 2 hf fun a hf=>?_))
 refine lB 2 hf H TF.ls25 fun a hf=>?_
 refine pz 2 hf fun a hf=>?_
 refine ub (ua (ib hR2 hf (fun hc2 hR2=>?_) fun hc2 hR2=>?_))
 refine wp_skip (ua (sq (wp_block (sq (dw [] 10 fun w hb=>?_)))))
 have H:=H.keep hb
 refine strT (H.lk 4 0 0 []) (fun w H=>trivial) fun hS=>?_
 refine zS 0 [] rfl rfl rfl rfl hf hS (fun w H=>ul hf H TF.la27 0 rfl rfl rfl rfl) fun a hf=>?_
 refine zp 1 hf hS fun a hf=>?_
 refine zp 2 hf hS fun a hf=>?_
 refine zp 3 hf hS fun a hf=>?_
 refine zp 4 hf hS fun a hf=>?_
 refine zp 5 hf hS fun a hf=>?_
 obtain ⟨e,he,hR2⟩:=bs_ hR2
 obtain ⟨p,o3,hA,hx6⟩:=zM H Tryz.underlying35 TF.sz3 2 rfl he
 refine zP 6 rfl rfl rfl rfl hf hS (fun w=>uu hf rfl rfl rfl hx6 w) fun a hf=>?_
 refine strT (H.lk 4 4 0 []) (fun w H=>H.lk 1 0 0 []) fun hS=>?_
 refine zS 7 [] rfl rfl rfl rfl hf hS (fun w H=>gaz (off:=0) hf H TF.ls3 0 rfl rfl hA he (fun w T cs h=>by obtain rfl:=h; rfl)) fun a hf=>?_
 obtain ⟨y3,hy3,hR2⟩:=bs_ hR2
 refine nn 8 rfl (oC hf TF.gkE (gbk (S:=TT) (uY (x:=n') (H.rt 2 rfl) (H.rt 1 rfl)) ug ug hy3) fun v3 w a hp5 hf=>?_)
 obtain ⟨hb,hp5⟩:=hp5
 obtain rfl:=uv hp5
 have H:=H.keep hb
 have hS:=H.lk 4 4 0 []
 refine aS hS ?_
 refine zp 9 hf hS fun a hf=>?_
 refine dk ?_
 have hf:=hf.pn [0,3,4,6,7,8,9,10,11]
 refine ua (sq ?_)
 obtain ⟨c10,hGc10,hR2⟩:=bs_ hR2
 have fh:=hf.prune [0,3,4,6,7,8,9,10] rfl
 have Hm:=H.lm 15 7 0 3 7
 refine midF 53 (.bool c10) fh Hm ?_ fun a w hf H=>?_
 refine reg (pz 3 hf fun a hf=>?_)
 refine iteB hGc10 (fun hc3 hGc10=>?_) fun hc3 hGc10=>?_
 have hf:=hf.lit 48 rfl hc3
 refine pz 2 hf fun a hf=>?_
 obtain ⟨y4,hy4,hGc10⟩:=bs_ hGc10
 refine wlg hf rfl rfl rfl (oC hf TF.gjE (ga3 (S:=TT) (uB (H.rowTrue 2 rfl)) ug hy4) fun v4 w a hp6 hf=>?_)
 obtain ⟨hb2,hp6⟩:=hp6
 obtain rfl:=uo hp6
 have H:=H.keep hb2
 refine pz 2 hf fun a hf=>?_
 obtain rfl:=oi hGc10
 have hf:=hf.pn [53,0,3,4,6,7,8,9,10]
 have H:=H.lm 15 7 0 3 7
 exact ub ⟨hf,H⟩
 have hf:=hf.lit 48 rfl hc3
 refine pz 5 hf fun a hf=>?_
 obtain rfl:=oi hGc10
 have hf:=hf.pn [53,0,3,4,6,7,8,9,10]
 have H:=H.lm 15 7 0 3 7
 exact ub ⟨hf,H⟩
 refine ua (ib hR2 hf (fun hc4 hR2=>?_) fun hc4 hR2=>?_)
 refine reg (pz 2 hf fun a hf=>?_)
 refine wl0 rfl (bl hf H 3 ([i]:List Int) [(.int .i64 i)] (el1 (y:=i) (rfl)) fun A11 a w hf H=>?_)
 obtain ⟨l,hl_,hR2⟩:=bs_ hR2
 refine wl0 rfl (xg hf H Tryz.underlying35 TF.ai3 rfl (by decide) 1 0 rfl rfl rfl rfl (.inr rfl) hl_ (by decide) fun E4 A12 c11 a w hf H=>?_)
 refine pz 1 hf fun a hf=>?_
 refine ub (uV (ua (reg (pz 3 hf fun a hf=>?_))))
 refine ub ?_
 have hf:=hf.pn [0,3,4,6,7,8,9,10]
 have H:=H.lm 15 14 0 3 7
 exact ua ⟨(l,w64 (i + 1)),hR2,A12,c11,E4,hf,H⟩
 refine wp_skip (uV (ua (reg (pz 3 hf fun a hf=>?_))))
 refine ub ?_
 have hf:=hf.pn [0,3,4,6,7,8,9,10]
 have H:=H.lm 15 7 0 3 7
 exact ua ⟨(list,w64 (i + 1)),hR2,A10,c9,E3,hf,H⟩
 refine wp_exit (uy (uy (vJ (?_))))
 have hf:=hf.pn [0,3,4,6,7,8,9,10]
 have H:=H.lm 15 7 0 3 7
 exact ⟨(list,i),(Option.some.inj hR2).symm,A10,c9,E3,hf,H⟩
 rintro a w ⟨⟨list2,i2⟩,rfl,A13,c12,E5,hf,H⟩
 try dsimp only at hR1
 refine ua (sq (sqz (pz 3 hf fun a hf=>?_)))
 refine ub (ua (ib hR1 hf (fun hc5 hR1=>?_) fun hc5 hR1=>?_))
 refine wp_exit (uy (gmx rfl (uy (uy (vJ (?_))))))
 have hf:=hf.pn [0,3,4,6,7,8]
 have H:=H.lm 15 6 0 3 7
 exact ⟨(seen,m,m2,m3,m4,m5),(Option.some.inj hR1).symm,A7,c7,E,A8,c8,E2,hsm,hf,H⟩
 refine wp_skip (ua (sqz (pz 4 hf fun a hf=>?_)))
 obtain ⟨y5,hy5,hR1⟩:=bs_ hR1
 refine oc hf TF.yJ (ui (S:=NB b0) (H.boxAt 3 rfl) ((ud (x:=({ code:=m3,at_:=m4,seed:=m5 }:L1CurP)) (H.nb 3 rfl (H.get 0 rfl)))) (fun h=>h rfl) ug hy5) fun v5 w a hp7 hf=>?_
 obtain ⟨hch3,cs5,hbx3,hr5,⟨hx7,hx8⟩,hs3⟩:=hp7
 obtain rfl:=uv hs3
 obtain ⟨A14,c13,rfl,hl6⟩:=uc hr5
 obtain ⟨rfl,rfl⟩:=un hx7 rfl rfl
 have hx9:=hx8.trans hsm
 have H:=H.wroteBox 3 rfl hch3 hbx3
 have H:=H.pX 0 rfl hx8
 obtain ⟨e2,he2,hR1⟩:=bs_ hR1
 refine wl0 rfl (vD hf H Tryz.underlying35 TF.sz3 0 rfl rfl rfl he2 (by decide) fun p2 o4 cs6 a hf hA2 hr6 hk=>?_)
 obtain rfl:=hr6
 refine oq hf (gdd hf TF.ls3 rfl (hk 0 _ rfl)) fun a hf=>?_
 refine pz 1 hf fun a hf=>?_
 refine wr (pz 1 hf fun a hf=>?_)
 refine lB 0 hf H TF.ls35 fun a hf=>?_
 refine pz 1 hf fun a hf=>?_
 refine wl0 rfl (bl hf H 3 ([e2]:List Int) [(.int .i64 e2)] (el1 (y:=e2) (rfl)) fun A15 a w hf H=>?_)
 obtain ⟨l2,hl2_,hR1⟩:=bs_ hR1
 refine wl0 rfl (xg hf H Tryz.underlying35 TF.ai3 rfl (by decide) 2 0 rfl rfl rfl rfl (.inr rfl) hl2_ (by decide) fun E6 A16 c14 a w hf H=>?_)
 refine pz 1 hf fun a hf=>?_
 refine sB 0 hf H TF.sz35 fun w H=>?_
 have hf:=hf.pn [0,3,4,6,7,8,12]
 refine ub (ua (dw [11] 13 fun w hb=>?_))
 have H:=H.keep hb
 refine zp 0 hf trivial fun a hf=>?_
 refine strT (H.lk 4 0 0 []) (fun w H=>trivial) fun hS=>?_
 refine zS 1 [1,9,10,11,12] rfl rfl rfl rfl hf hS (fun w H=>ul hf H TF.la27 0 rfl rfl rfl rfl) fun a hf=>?_
 refine zp 2 hf hS fun a hf=>?_
 refine zp 3 hf hS fun a hf=>?_
 refine zp 4 hf hS fun a hf=>?_
 refine zp 5 hf hS fun a hf=>?_
 refine zp 6 hf hS fun a hf=>?_
 obtain ⟨e3,he3,hR1⟩:=bs_ hR1
 obtain ⟨p3,o5,hA3,hx10⟩:=zM H Tryz.underlying35 TF.sz3 3 rfl he3
 refine zP 7 rfl rfl rfl rfl hf hS (fun w=>uu hf rfl rfl rfl hx10 w) fun a hf=>?_
 refine strT (H.lk 4 8 0 []) (fun w H=>H.lk 1 0 0 []) fun hS=>?_
 refine zS 8 [8,9,10,11,12] rfl rfl rfl rfl hf hS (fun w H=>gaz (off:=0) hf H TF.ls3 0 rfl rfl hA3 he3 (fun w T cs h=>by obtain rfl:=h; rfl)) fun a hf=>?_
 obtain ⟨y6,hy6,hR1⟩:=bs_ hR1
 refine nn 9 rfl (oC hf TF.gkE (gbk (S:=TT) (uY (x:=n') (H.rt 3 rfl) (H.rt 2 rfl)) ug ug hy6) fun v6 w a hp8 hf=>?_)
 obtain ⟨hb3,hp8⟩:=hp8
 obtain rfl:=uv hp8
 have H:=H.keep hb3
 have hS:=H.lk 4 8 0 []
 refine aS hS ?_
 refine nn 10 rfl (bl hf H 3 ([y6]:List Int) [(.int .i64 y6)] (el1 (y:=y6) (rfl)) fun A17 a w hf H=>?_)
 have hS:=H.lk 4 16 0 []
 refine aS hS ?_
 obtain ⟨l3,hl3_,hR1⟩:=bs_ hR1
 refine nn 11 rfl (xg hf H Tryz.underlying35 TF.ai3 rfl (by decide) 4 0 rfl rfl rfl rfl (.inr rfl) hl3_ (by decide) fun E7 A18 c15 a w hf H=>?_)
 refine ⟨fun h=>absurd h (by decide),?_⟩
 refine tp 12 rfl rfl hf (by kernel_rfl) (fun h=>absurd h (by decide)) rfl fun a hf=>?_
 refine dk ?_
 have hf:=hf.pn [0,3,4,6,7,8]
 refine uV (ua (reg (pz 3 hf fun a hf=>?_)))
 refine ub ?_
 have hf:=hf.pn [0,3,4,6,7,8]
 have H:=H.lm 15 24 0 4 13
 exact ua ⟨(l3,w64 (m - 1),l2,y5.2.code,y5.2.at_,y5.2.seed),hR1,A18,c15,E7,A16,c14,E6,hx9,hf,H⟩
 refine wp_exit (uy (uy (vJ (?_))))
 have hf:=hf.pn [0,3,4,6,7,8]
 have H:=H.lm 15 3 0 3 7
 exact ⟨(seen,m,m2,m3,m4,m5),(Option.some.inj hR1).symm,A7,c7,E,A8,c8,E2,hsm,hf,H⟩
 rintro a w ⟨⟨seen2,m6,m7,m8,m9,m10⟩,rfl,A19,c16,E8,A20,c17,E9,hsm,hf,H⟩
 try dsimp only at hsm
 try dsimp only at hF
 refine ua (sq (reg (lN 0 hf H TF.la45 fun a hf=>?_)))
 refine sB 1 hf H TF.sz45 fun w H=>?_
 refine wer ?_
 have H:=H.rowOwn 0 rfl rfl
 obtain ⟨F,H⟩:=H.freezeOwn 0 rfl
 have H:=H.lend 0 rfl
 obtain rfl:=oi hF
 refine xi hf rfl (um hf H 1 TF.la45 rfl rfl rfl) ?_
 have hN:=H.endsB1 3 rfl
 exact ⟨_,rfl,H.chg,_,H.boxAt 3 rfl,(ud (x:=({ code:=m8,at_:=m9,seed:=m10 }:L1CurP)) (eB 3 (H.get 1 rfl))),⟨fxc hsm,hsm⟩,F,⟨_,xQ (x:=({ Start:=y.1,Fibers:=m7 }:Route)) (H.ownAt 0 rfl),rfl⟩,by first | exact hN | simpa using hN⟩
theorem gaZ {S:Nat→Prop} {b0:Nat} {cs0:List Value} {v1_:Value} {c:L1CurP} {n':Network} {r:Route×L1CurP} (hp0:w0.heap[b0]?=some (.cells cs0.toArray 109 (0,0))) (hr0:GoTy.rep w0 S cs0 c) (hS0:¬S b0) (h1:VR w0 S v1_ n') (hF:ye fu c n'=some r) :
    Calls Tryz.prog 227 [(.pointer (some ⟨b0,0,none⟩)),v1_].toArray w0 fun e w'=>∃ v,e=.returned v∧(Chg w0 w' [b0]∧∃ cs',w'.heap[b0]?=some (.cells cs'.toArray 109 (0,0))∧GoTy.rep w' (St ⟨w0,[b0]⟩ S [⟨b0,109,cs'⟩] [] [] false) cs' r.2∧(cs'[0]?=cs0[0]?∧r.2.code=c.code)∧∃ F0,VO w' F0 v r.1∧New w0 w' F0):=by
 obtain ⟨A,c2,rfl,hl⟩:=uc hr0
 obtain ⟨A2,c3,A3,c4,rfl,hl2,hl3⟩:=vA h1
 have H:=Mem.startB S hp0
 have H:=H.pB hS0 hl
 have H:=H.pB hS0 hl2
 have H:=H.pB hS0 hl3
 refine en Tryz.func227 fun a hf=>?_
 rw [ye] at hF
 refine bx hf H fun b3 a w hf H=>?_
 refine aL hf H TF.zv45 fun b4 a w hf H=>?_
 refine wr (pz 1 hf fun a hf=>?_)
 refine lN 1 hf H TF.la27 fun a hf=>?_
 obtain ⟨y,hy,hF⟩:=bs_ hF
 refine oc hf TF.gll (gbq (S:=NB b0) (H.boxAt 2 rfl) ((ud (x:=c) (H.nb 2 rfl (H.get 2 rfl)))) (fun h=>h rfl) (uY (x:=n') (H.nb 2 rfl (H.get 1 rfl)) (H.nb 2 rfl (H.get 0 rfl))) hy) fun v w a hp3 hf=>?_
 obtain ⟨hch,cs3,hbx,hr3,⟨hx,hx2⟩,hs⟩:=hp3
 obtain ⟨F,hp4,hN⟩:=hs
 obtain ⟨A4,c5,F2,rfl,rfl,hl4⟩:=yT hp4
 obtain ⟨A5,c6,rfl,hl5⟩:=uc hr3
 obtain ⟨rfl,rfl⟩:=un hx rfl rfl
 have H:=H.bO1 2 rfl hch hbx hN hl4
 have H:=H.pX 2 rfl hx2
 have H:=H.lend 0 rfl
 refine aL hf H TF.zv45 fun b5 a w hf H=>?_
 refine sB 0 hf H TF.sz45 fun w H=>?_
 refine we (sqz (pz 1 hf fun a hf=>?_))
 refine lB 0 hf H TF.ls35 fun a hf=>?_
 refine pz 2 hf fun a hf=>?_
 refine ub (ua (ib hF hf (fun hc hF=>?_) fun hc hF=>?_))
 refine sqz (pz 1 hf fun a hf=>?_)
 refine lB 2 hf H TF.ls25 fun a hf=>?_
 obtain ⟨e,he,hF⟩:=bs_ hF
 refine wl0 rfl (vn hf H Tryz.underlying25 TF.zc 2 rfl rfl rfl he (by decide) fun p o3 cs4 a hf hr4 H=>?_)
 obtain rfl:=uZ hr4
 refine pz 1 hf fun a hf=>?_
 refine oq hf (uI hf H TF.ls3 0 0 rfl rfl rfl) fun a hf=>?_
 refine wl0 rfl (bl hf H 3 ([0]:List Int) [(.int .i64 0)] (el1 (y:=0) (rfl)) fun A6 a w hf H=>?_)
 refine oq hf (uA hf (cs:=[(.int .i64 e.A),(.slice A6 1 1)]) rfl (fun w=>by kernel_rfl)) fun a hf=>?_
 refine sB 1 hf H TF.sz45 fun w H=>?_
 have hf:=hf.pn [4]
 refine ub (ua (wp_ret (uf (?_))))
 have H:=H.rowOwn 0 rfl rfl
 obtain ⟨F3,H⟩:=H.freezeOwn 0 rfl
 have H:=H.lend 0 rfl
 obtain rfl:=oi hF
 refine xi hf rfl (um hf H 1 TF.la45 rfl rfl rfl) ?_
 have hN:=H.endsB1 3 rfl
 exact ⟨_,rfl,H.chg,_,H.boxAt 3 rfl,(ud (x:=y.2) (eB 3 (H.get 3 rfl))),⟨fxc hx2,hx2⟩,F3,⟨_,xQ (x:=({ Start:=e.A,Fibers:=[0] }:Route)) (H.ownAt 0 rfl),rfl⟩,by first | exact hN | simpa using hN⟩
 refine wp_skip (ua (sq (reg (lN 0 hf H TF.la45 fun a hf=>?_))))
 refine sB 1 hf H TF.sz45 fun w H=>?_
 refine wer ?_
 obtain rfl:=oi hF
 refine xi hf rfl (um hf H 1 TF.la45 rfl rfl rfl) ?_
 have hN:=H.endsB1 3 rfl
 exact ⟨_,rfl,H.chg,_,H.boxAt 3 rfl,(ud (x:=y.2) (eB 3 (H.get 1 rfl))),⟨fxc hx2,hx2⟩,F2,⟨_,xQ (x:=y.1) (H.ownAt 0 rfl),rfl⟩,by first | exact hN | simpa using hN⟩
theorem gaG {S:Nat→Prop} {v0_:Value} {b':Block} {r:Int} (h0:VR w0 S v0_ b') (hF:zf fu b'=some r) :
    Calls Tryz.prog 186 [v0_].toArray w0 fun e w'=>∃ v,e=.returned v∧(Below w0.heap.size w0 w'∧VR w' (St ⟨w0,[]⟩ S [] [] [] true) v r):=by
 obtain rfl:=yj h0
 have H:=Mem.start ⟨w0,[]⟩ S
 refine en Tryz.func186 fun a hf=>?_
 rw [zf] at hF
 refine bx hf H fun b2 a w hf H=>?_
 refine pz 1 hf fun a hf=>?_
 refine wr (pz 1 hf fun a hf=>?_)
 refine lB 0 hf H TF.ls3 fun a hf=>?_
 refine oq hf (zk u64w Tryz.underlying3 Tryz.underlying128 hf rfl) fun a hf=>?_
 obtain ⟨q,hq,hF⟩:=bs_ hF
 refine oq hf (gbI hf rfl rfl hq) fun a hf=>?_
 refine pz 2 hf fun a hf=>?_
 refine lB 0 hf H TF.ls3 fun a hf=>?_
 refine oq hf (zk u64w Tryz.underlying3 Tryz.underlying128 hf rfl) fun a hf=>?_
 obtain ⟨q2,hq2,hF⟩:=bs_ hF
 refine oq hf (gbI hf rfl rfl hq2) fun a hf=>?_
 refine pz 1 hf fun a hf=>?_
 refine wer ?_
 obtain rfl:=oi hF
 refine rT hf ?_
 exact ⟨_,rfl,H.bel,ug⟩
theorem geE {S:Nat→Prop} {v0_:Value} {v1_:Value} {p:Plan} {fiber:Int} {r:Int} (h0:VR w0 S v0_ p) (h1:VR w0 S v1_ fiber) (hF:gbc fu p fiber=some r) :
    Calls Tryz.prog 248 [v0_,v1_].toArray w0 fun e w'=>∃ v,e=.returned v∧(Below w0.heap.size w0 w'∧VR w' (St ⟨w0,[]⟩ S [] [] [] true) v r):=by
 obtain ⟨A,c,A2,c2,A3,c3,rfl,hl,hl2,hl3⟩:=uD h0
 obtain rfl:=uv h1
 have H:=Mem.start ⟨w0,[]⟩ S
 have H:=H.pA hl
 have H:=H.pA hl2
 have H:=H.pA hl3
 refine en Tryz.func248 fun a hf=>?_
 rw [gbc] at hF
 refine bx hf H fun b' a w hf H=>?_
 refine pz 1 hf fun a hf=>?_
 refine wr (pz 1 hf fun a hf=>?_)
 refine we (sqz (pz 1 hf fun a hf=>?_))
 refine ub (ua ?_)
 obtain ⟨out2,hB1,hF⟩:=bs_ hF
 have hf:=hf.pn [1,2,5,6]
 have H:=H.lm 1 0 0 3 7
 refine vU (fun (s:Int×Int) (a:Act) (w:World)=>match s with | (out',i)=>Fr a 33 [(1,(.int .i64 fiber)),(2,(.pointer (some ⟨b',0,none⟩))),(5,(.int .i64 out')),(6,(.int .i64 i))]∧Mem ⟨w0,[]⟩ S [⟨b',30,[(.slice A p.Network.Nodes.length c),(.slice A2 p.Network.Fibers.length c2),(.slice A3 p.Lights.length c3)]⟩] [] [] [(false,MP.val [(.slice A3 p.Lights.length c3)] (p.Lights:List Light)),(false,MP.val [(.slice A2 p.Network.Fibers.length c2)] (p.Network.Fibers:List Fiber)),(false,MP.val [(.slice A p.Network.Nodes.length c)] (p.Network.Nodes:List ByteArray))] w) (fun k (s:Int×Int)=>xX fu p fiber k s.1 s.2=some out2) (fun s=>out2=s) (0,0) fu hB1 ⟨hf,H⟩ (fun s h=>by cases h) ?_ ?_
 rintro fk ⟨out',i⟩ a w hR1 hI
 replace hR1:xX fu p fiber (fk + 1) out' i=some out2:=hR1
 rw [xX] at hR1
 obtain ⟨hf,H⟩:=hI
 refine sq (sqz (pz 2 hf fun a hf=>?_))
 refine lB 0 hf H TF.ls28 fun a hf=>?_
 refine pz 2 hf fun a hf=>?_
 refine ub (ua (ib hR1 hf (fun hc hR1=>?_) fun hc hR1=>?_))
 refine ws (pz 1 hf fun a hf=>?_)
 refine lB 0 hf H TF.ls28 fun a hf=>?_
 refine pz 1 hf fun a hf=>?_
 obtain ⟨e,he,hR1⟩:=bs_ hR1
 refine wl0 rfl (vn hf H Tryz.underlying28 TF.sz49 0 rfl rfl rfl he (by decide) fun p2 o cs a hf hr H=>?_)
 obtain ⟨A4,c4,rfl,hl4⟩:=uq hr
 have H:=H.pF hl4
 refine pz 2 hf fun a hf=>?_
 refine oq hf (uI hf H TF.ls35 1 2 rfl rfl rfl) fun a hf=>?_
 refine pz 1 hf fun a hf=>?_
 obtain ⟨y,hy,hR1⟩:=bs_ hR1
 refine oc hf TF.gjE (ga3 (S:=TT) (uB (H.rt 0 rfl)) ug hy) fun v w a hp hf=>?_
 obtain ⟨hb,hp⟩:=hp
 obtain rfl:=uo hp
 have H:=H.keep hb
 have hf:=hf.pn [1,2,5,6,22]
 refine ub (ua (ib hR1 hf (fun hc2 hR1=>?_) fun hc2 hR1=>?_))
 refine reg (pz 2 hf fun a hf=>?_)
 refine lB 0 hf H TF.ls28 fun a hf=>?_
 refine pz 1 hf fun a hf=>?_
 obtain ⟨e2,he2,hR1⟩:=bs_ hR1
 refine wl0 rfl (vn hf H Tryz.underlying28 TF.sz49 2 rfl rfl rfl he2 (by decide) fun p3 o2 cs2 a hf hr2 H=>?_)
 obtain ⟨A5,c5,rfl,hl5⟩:=uq hr2
 have H:=H.pF hl5
 refine pz 1 hf fun a hf=>?_
 refine oq hf (uz hf H TF.la47 1 3 rfl rfl rfl rfl) fun a hf=>?_
 obtain ⟨y2,hy2,hR1⟩:=bs_ hR1
 refine oc hf TF.gjD (gaG (S:=TT) zb hy2) fun v2 w a hp2 hf=>?_
 obtain ⟨hb2,hp2⟩:=hp2
 obtain rfl:=uv hp2
 have H:=H.keep hb2
 refine pz 2 hf fun a hf=>?_
 refine ub (uV (ua (reg (pz 3 hf fun a hf=>?_))))
 refine ub ?_
 have hf:=hf.pn [1,2,5,6]
 have H:=H.lm 1 0 0 7 112
 exact ua ⟨(bor out' y2,w64 (i + 1)),hR1,hf,H⟩
 refine wp_skip (uV (ua (reg (pz 3 hf fun a hf=>?_))))
 refine ub ?_
 have hf:=hf.pn [1,2,5,6]
 have H:=H.lm 1 0 0 5 28
 exact ua ⟨(out',w64 (i + 1)),hR1,hf,H⟩
 refine wp_exit (uy (uy (vJ (?_))))
 have hf:=hf.pn [1,2,5,6]
 have H:=H.lm 1 0 0 3 7
 exact ⟨(out',i),(Option.some.inj hR1).symm,hf,H⟩
 rintro a w ⟨⟨out3,i2⟩,rfl,hf,H⟩
 try dsimp only at hF
 refine ua (sqz (pz 2 hf fun a hf=>?_))
 refine wer ?_
 obtain rfl:=oi hF
 refine rT hf ?_
 exact ⟨_,rfl,H.bel,ug⟩
theorem gef {S:Nat→Prop} {v0_:Value} {v1_:Value} {p:Plan} {r':Route} {r:Int} (h0:VR w0 S v0_ p) (h1:VR w0 S v1_ r') (hF:gaL fu p r'=some r) :
    Calls Tryz.prog 185 [v0_,v1_].toArray w0 fun e w'=>∃ v,e=.returned v∧(Below w0.heap.size w0 w'∧VR w' (St ⟨w0,[]⟩ S [] [] [] true) v r):=by
 obtain ⟨A,c,A2,c2,A3,c3,rfl,hl,hl2,hl3⟩:=uD h0
 obtain ⟨A4,c4,rfl,hl4⟩:=yi h1
 have H:=Mem.start ⟨w0,[]⟩ S
 have H:=H.pA hl
 have H:=H.pA hl2
 have H:=H.pA hl3
 have H:=H.pA hl4
 refine en Tryz.func185 fun a hf=>?_
 rw [gaL] at hF
 refine bx hf H fun b' a w hf H=>?_
 refine wl0 rfl (xl hf H rfl rfl (by decide) fun b2 a w hf H=>?_)
 refine pz 1 hf fun a hf=>?_
 refine wr (pz 1 hf fun a hf=>?_)
 refine we (sqz (pz 1 hf fun a hf=>?_))
 refine ub (ua ?_)
 obtain ⟨out2,hB1,hF⟩:=bs_ hF
 have hf:=hf.pn [2,3,5,6]
 have H:=H.lm 3 0 0 4 15
 refine vU (fun (s:Int×Int) (a:Act) (w:World)=>match s with | (out',i)=>Fr a 24 [(2,(.pointer (some ⟨b',0,none⟩))),(3,(.pointer (some ⟨b2,0,none⟩))),(5,(.int .i64 out')),(6,(.int .i64 i))]∧Mem ⟨w0,[]⟩ S [⟨b2,45,[(.int .i64 r'.Start),(.slice A4 r'.Fibers.length c4)]⟩,⟨b',30,[(.slice A p.Network.Nodes.length c),(.slice A2 p.Network.Fibers.length c2),(.slice A3 p.Lights.length c3)]⟩] [] [] [(false,MP.val [(.slice A4 r'.Fibers.length c4)] (r'.Fibers:List Int)),(false,MP.val [(.slice A3 p.Lights.length c3)] (p.Lights:List Light)),(false,MP.val [(.slice A2 p.Network.Fibers.length c2)] (p.Network.Fibers:List Fiber)),(false,MP.val [(.slice A p.Network.Nodes.length c)] (p.Network.Nodes:List ByteArray))] w) (fun k (s:Int×Int)=>ym fu p r' k s.1 s.2=some out2) (fun s=>out2=s) (0,0) fu hB1 ⟨hf,H⟩ (fun s h=>by cases h) ?_ ?_
 rintro fk ⟨out',i⟩ a w hR1 hI
 replace hR1:ym fu p r' (fk + 1) out' i=some out2:=hR1
 rw [ym] at hR1
 obtain ⟨hf,H⟩:=hI
 refine sq (sqz (pz 2 hf fun a hf=>?_))
 refine lB 0 hf H TF.ls35 fun a hf=>?_
 refine pz 2 hf fun a hf=>?_
 refine ub (ua (ib hR1 hf (fun hc hR1=>?_) fun hc hR1=>?_))
 refine wp_skip (ua (sq (wp_block (dw [] 10 fun w hb=>?_))))
 have H:=H.keep hb
 refine zp 0 hf trivial fun a hf=>?_
 refine strT (H.lk 2 0 0 []) (fun w H=>trivial) fun hS=>?_
 refine zS 1 [] rfl rfl rfl rfl hf hS (fun w H=>ul hf H TF.la30 0 rfl rfl rfl rfl) fun a hf=>?_
 refine zp 2 hf hS fun a hf=>?_
 refine strT (H.lk 3 0 0 []) (fun w H=>H.lk 2 0 0 []) fun hS=>?_
 refine zS 3 [] rfl rfl rfl rfl hf hS (fun w H=>ue hf H TF.ls35 0 rfl rfl rfl) fun a hf=>?_
 refine zp 4 hf hS fun a hf=>?_
 obtain ⟨e,he,hR1⟩:=bs_ hR1
 obtain ⟨p2,o,cs,hx,hr,H⟩:=ux H Tryz.underlying35 TF.sz3 0 rfl he
 refine zP 5 rfl rfl rfl rfl hf hS (fun w=>uu hf rfl rfl rfl hx w) fun a hf=>?_
 obtain rfl:=hr
 refine strT (H.lk 3 0 0 [0]) (fun w H=>H.lk 3 0 0 []) fun hS=>?_
 refine zS 6 [] rfl rfl rfl rfl hf hS (fun w H=>uI hf H TF.ls3 0 0 rfl rfl rfl) fun a hf=>?_
 obtain ⟨y,hy,hR1⟩:=bs_ hR1
 refine nn 7 rfl (oC hf TF.glY (geE (S:=TT) (uj (x:=p) (H.rt 4 rfl) (H.rt 3 rfl) (H.rt 2 rfl)) ug hy) fun v w a hp hf=>?_)
 obtain ⟨hb,hp⟩:=hp
 obtain rfl:=uv hp
 have H:=H.keep hb
 have hS:=H.lk 3 0 0 [0]
 refine aS hS ?_
 refine zp 8 hf hS fun a hf=>?_
 refine zp 9 hf hS fun a hf=>?_
 refine dk ?_
 have hf:=hf.pn [2,3,5,6]
 refine uV (ua (reg (pz 3 hf fun a hf=>?_)))
 refine ub ?_
 have hf:=hf.pn [2,3,5,6]
 have H:=H.lm 3 0 0 5 30
 exact ua ⟨(bor out' y,w64 (i + 1)),hR1,hf,H⟩
 refine wp_exit (uy (uy (vJ (?_))))
 have hf:=hf.pn [2,3,5,6]
 have H:=H.lm 3 0 0 4 15
 exact ⟨(out',i),(Option.some.inj hR1).symm,hf,H⟩
 rintro a w ⟨⟨out3,i2⟩,rfl,hf,H⟩
 try dsimp only at hF
 refine ua (sqz (pz 2 hf fun a hf=>?_))
 refine wer ?_
 obtain rfl:=oi hF
 refine rT hf ?_
 exact ⟨_,rfl,H.bel,ug⟩
theorem geH {S:Nat→Prop} {v0_:Value} {v1_:Value} {mask:Int} {count:Int} {r:List Int} (h0:VR w0 S v0_ mask) (h1:VR w0 S v1_ count) (hF:gbe fu mask count=some r) :
    Calls Tryz.prog 228 [v0_,v1_].toArray w0 fun e w'=>∃ v,e=.returned v∧(Below w0.heap.size w0 w'∧∃ F0,VO w' F0 v r∧New w0 w' F0):=by
 obtain rfl:=uv h0
 obtain rfl:=uv h1
 have H:=Mem.start ⟨w0,[]⟩ S
 refine en Tryz.func228 fun a hf=>?_
 rw [gbe] at hF
 refine sqz (pz 1 hf fun a hf=>?_)
 refine wr (wl0 rfl (bl hf H 3 ([]:List Int) [] el0 fun A a w hf H=>?_))
 refine pz 1 hf fun a hf=>?_
 refine we (sqz (pz 1 hf fun a hf=>?_))
 refine ub (ua ?_)
 obtain ⟨out2,hB1,hF⟩:=bs_ hF
 have hf:=hf.pn [0,1,5,6]
 have H:=H.lk 0 1 0 []
 refine vU (fun (s:List Int×Int) (a:Act) (w:World)=>match s with | (out',s')=>∃ (A2:Option Addr) (c:Nat) (E:Go.TypeId),Fr a 26 [(0,(.int .i64 mask)),(1,(.int .i64 count)),(5,(.slice A2 out'.length c)),(6,(.int .i64 s'))]∧Mem ⟨w0,[]⟩ S [] [⟨.sh true,E,A2,c,(out':List Int)⟩] [] [] w) (fun k (s:List Int×Int)=>x5 fu mask count k s.1 s.2=some out2) (fun s=>out2=s) (([]:List Int),0) fu hB1 ⟨A,0,3,hf,H⟩ (fun s h=>by cases h) ?_ ?_
 rintro fk ⟨out',s'⟩ a w hR1 hI
 replace hR1:x5 fu mask count (fk + 1) out' s'=some out2:=hR1
 rw [x5] at hR1
 obtain ⟨A2,c,E,hf,H⟩:=hI
 refine sq (sqz (pz 4 hf fun a hf=>?_))
 refine ub (ua (ib hR1 hf (fun hc hR1=>?_) fun hc hR1=>?_))
 refine ws (pz 3 hf fun a hf=>?_)
 refine oq hf (uA hf (cs:=[(.int .i64 s'),(.int .i64 count)]) rfl (fun w=>by kernel_rfl)) fun a hf=>?_
 obtain ⟨y,hy,hR1⟩:=bs_ hR1
 refine oc hf TF.gjD (gaG (S:=TT) zb hy) fun v w a hp hf=>?_
 obtain ⟨hb,hp⟩:=hp
 obtain rfl:=uv hp
 have H:=H.keep hb
 refine pz 2 hf fun a hf=>?_
 refine ub (ua (ib hR1 hf (fun hc2 hR1=>?_) fun hc2 hR1=>?_))
 refine reg (pz 2 hf fun a hf=>?_)
 refine wl0 rfl (bl hf H 3 ([s']:List Int) [(.int .i64 s')] (el1 (y:=s') (rfl)) fun A3 a w hf H=>?_)
 obtain ⟨l,hl_,hR1⟩:=bs_ hR1
 refine wl0 rfl (xg hf H Tryz.underlying35 TF.ai3 rfl (by decide) 1 0 rfl rfl rfl rfl (.inr rfl) hl_ (by decide) fun E2 A4 c2 a w hf H=>?_)
 refine pz 1 hf fun a hf=>?_
 have hf:=hf.pn [0,1,5,6]
 refine ub (uV (ua (reg (pz 3 hf fun a hf=>?_))))
 refine ub ?_
 have hf:=hf.pn [0,1,5,6]
 have H:=H.lk 0 2 0 []
 exact ua ⟨(l,w64 (s' + 1)),hR1,A4,c2,E2,hf,H⟩
 refine wp_skip (uV (ua (reg (pz 3 hf fun a hf=>?_))))
 have hf:=hf.pn [0,1,5,6]
 refine ub ?_
 have hf:=hf.pn [0,1,5,6]
 have H:=H.lk 0 1 0 []
 exact ua ⟨(out',w64 (s' + 1)),hR1,A2,c,E,hf,H⟩
 refine wp_exit (uy (uy (vJ (?_))))
 have hf:=hf.pn [0,1,5,6]
 have H:=H.lk 0 1 0 []
 exact ⟨(out',s'),(Option.some.inj hR1).symm,A2,c,E,hf,H⟩
 rintro a w ⟨⟨out3,s2⟩,rfl,A5,c3,E3,hf,H⟩
 try dsimp only at hF
 refine ua (sqz (pz 2 hf fun a hf=>?_))
 refine wer ?_
 have H:=H.rowOwn 0 rfl rfl
 obtain ⟨F,H⟩:=H.freezeOwn 0 rfl
 have H:=H.lend 0 rfl
 obtain rfl:=oi hF
 refine rT hf ?_
 have hN:=H.ends1
 exact ⟨_,rfl,H.bel,F,(xE (H.ownAt 0 rfl)),by first | exact hN | simpa using hN⟩
theorem gda {S:Nat→Prop} {v0_:Value} {n':Network} {r:Network} (h0:VR w0 S v0_ n') (hF:gcu fu n'=some r) :
    Calls Tryz.prog 238 [v0_].toArray w0 fun e w'=>∃ v,e=.returned v∧(Below w0.heap.size w0 w'∧∃ F0,VO w' F0 v r∧New w0 w' F0):=by
 obtain ⟨A,c,A2,c2,rfl,hl,hl2⟩:=vA h0
 have H:=Mem.start ⟨w0,[]⟩ S
 have H:=H.pA hl
 have H:=H.pA hl2
 refine en Tryz.func238 fun a hf=>?_
 rw [gcu] at hF
 refine bx hf H fun b' a w hf H=>?_
 refine aL hf H TF.zv27 fun b2 a w hf H=>?_
 refine ub (ua (sq ?_))
 obtain ⟨l,hl_,hF⟩:=bs_ hF
 obtain ⟨l2,hl2_,hF⟩:=bs_ hF
 refine mid (fun a w=>∃ (A4:Option Addr) (c3:Nat) (E:Go.TypeId) (A6:Option Addr) (c4:Nat) (E2:Go.TypeId),Fr a 12 [(2,(.pointer (some ⟨b2,0,none⟩)))]∧Mem ⟨w0,[]⟩ S [⟨b2,27,[(.slice A4 l.length c3),(.slice A6 l2.length c4)]⟩] [⟨.sh true,E2,A6,c4,(l2:List Fiber)⟩,⟨.sh true,E,A4,c3,(l:List ByteArray)⟩] [] [] w) ?_ ?_
 refine dw [9] 10 fun w hb=>?_
 have H:=H.keep hb
 refine zp 1 hf trivial fun a hf=>?_
 refine strT (H.lk 2 0 0 []) (fun w H=>trivial) fun hS=>?_
 refine zS 2 [2,3,7,8,9] rfl rfl rfl rfl hf hS (fun w H=>ue hf H TF.ls24 0 rfl rfl rfl) fun a hf=>?_
 refine zp 5 hf hS fun a hf=>?_
 refine zS 6 [6,7,8,9] rfl rfl rfl rfl hf hS (fun w H=>ue hf H TF.ls25 0 rfl rfl rfl) fun a hf=>?_
 refine on2 (i:=0) (j:=4) (bi:=[true,true,true,false,false,true,true,false,false,false]) (bj:=[false,true,true,false,true,true,true,false,false,false]) (by kernel_rfl) rfl rfl rfl rfl rfl rfl ?_ ?_
 refine (bl hf H 9 ([]:List ByteArray) [] el0 fun A3 a w hf H=>?_)
 have hS:=H.lk 2 0 0 []
 refine aS hS ?_
 refine on2 (i:=3) (j:=4) (bi:=[true,true,true,true,false,true,true,false,false,false]) (bj:=[true,true,true,false,true,true,true,false,false,false]) (by kernel_rfl) rfl rfl rfl rfl rfl rfl ?_ ?_
 have H:=H.rowWeak 0 rfl
 refine (xH hf H Tryz.underlying24 TF.ai9 rfl (by decide) 0 1 rfl rfl rfl rfl (.inl rfl) hl_ (by decide) fun E A4 c3 a w hf H=>?_)
 have H:=H.rowOwn 0 rfl rfl
 have H:=H.rowSh 0 rfl
 have hS:=H.lk 2 0 0 []
 refine aS hS ?_
 refine nn 4 rfl (bl hf H 180 ([]:List Fiber) [] el0 fun A5 a w hf H=>?_)
 have hS:=H.lk 2 0 0 []
 refine aS hS ?_
 have H:=H.rowWeak 0 rfl
 refine nn 7 rfl (xH hf H Tryz.underlying25 TF.gcd rfl (by decide) 0 0 rfl rfl rfl rfl (.inl rfl) hl2_ (by decide) fun E2 A6 c4 a w hf H=>?_)
 have H:=H.rowOwn 0 rfl rfl
 have H:=H.rowSh 0 rfl
 have hS:=H.lk 2 0 0 []
 refine aS hS ?_
 refine zP 8 rfl rfl rfl rfl hf hS (fun w=>uA hf (cs:=[(.slice A4 l.length c3),(.slice A6 l2.length c4)]) rfl (fun w=>by kernel_rfl)) fun a hf=>?_
 refine nn 9 rfl (uh hf H 0 TF.sz27 rfl rfl rfl rfl rfl rfl (nle rfl) fun w H=>?_)
 refine ⟨fun h=>absurd h (by decide),?_⟩
 refine dk ?_
 have hf:=hf.pn [2]
 have H:=H.lk 1 3 0 []
 exact ⟨A4,c3,E,A6,c4,E2,hf,H⟩
 refine (bl hf H 180 ([]:List Fiber) [] el0 fun A4 a w hf H=>?_)
 have hS:=H.lk 2 0 0 []
 refine aS hS ?_
 have H:=H.rowWeak 1 rfl
 refine nn 3 rfl (xH hf H Tryz.underlying24 TF.ai9 rfl (by decide) 1 1 rfl rfl rfl rfl (.inl rfl) hl_ (by decide) fun E A5 c3 a w hf H=>?_)
 have H:=H.rowOwn 1 rfl rfl
 have H:=H.rowSh 1 rfl
 have hS:=H.lk 2 0 0 []
 refine aS hS ?_
 have H:=H.rowWeak 0 rfl
 refine nn 7 rfl (xH hf H Tryz.underlying25 TF.gcd rfl (by decide) 0 0 rfl rfl rfl rfl (.inl rfl) hl2_ (by decide) fun E2 A6 c4 a w hf H=>?_)
 have H:=H.rowOwn 0 rfl rfl
 have H:=H.rowSh 0 rfl
 have hS:=H.lk 2 0 0 []
 refine aS hS ?_
 refine zP 8 rfl rfl rfl rfl hf hS (fun w=>uA hf (cs:=[(.slice A5 l.length c3),(.slice A6 l2.length c4)]) rfl (fun w=>by kernel_rfl)) fun a hf=>?_
 refine nn 9 rfl (uh hf H 0 TF.sz27 rfl rfl rfl rfl rfl rfl (nle rfl) fun w H=>?_)
 refine ⟨fun h=>absurd h (by decide),?_⟩
 refine dk ?_
 have hf:=hf.pn [2]
 have H:=H.lk 1 3 0 []
 exact ⟨A5,c3,E,A6,c4,E2,hf,H⟩
 refine (bl hf H 180 ([]:List Fiber) [] el0 fun A3 a w hf H=>?_)
 have hS:=H.lk 2 0 0 []
 refine aS hS ?_
 refine nn 0 rfl (bl hf H 9 ([]:List ByteArray) [] el0 fun A4 a w hf H=>?_)
 have hS:=H.lk 2 0 0 []
 refine aS hS ?_
 have H:=H.rowWeak 0 rfl
 refine nn 3 rfl (xH hf H Tryz.underlying24 TF.ai9 rfl (by decide) 0 1 rfl rfl rfl rfl (.inl rfl) hl_ (by decide) fun E A5 c3 a w hf H=>?_)
 have H:=H.rowOwn 0 rfl rfl
 have H:=H.rowSh 0 rfl
 have hS:=H.lk 2 0 0 []
 refine aS hS ?_
 have H:=H.rowWeak 1 rfl
 refine nn 7 rfl (xH hf H Tryz.underlying25 TF.gcd rfl (by decide) 1 0 rfl rfl rfl rfl (.inl rfl) hl2_ (by decide) fun E2 A6 c4 a w hf H=>?_)
 have H:=H.rowOwn 1 rfl rfl
 have H:=H.rowSh 1 rfl
 have hS:=H.lk 2 0 0 []
 refine aS hS ?_
 refine zP 8 rfl rfl rfl rfl hf hS (fun w=>uA hf (cs:=[(.slice A5 l.length c3),(.slice A6 l2.length c4)]) rfl (fun w=>by kernel_rfl)) fun a hf=>?_
 refine nn 9 rfl (uh hf H 0 TF.sz27 rfl rfl rfl rfl rfl rfl (nle rfl) fun w H=>?_)
 refine ⟨fun h=>absurd h (by decide),?_⟩
 refine dk ?_
 have H:=H.frontR 1 rfl
 have hf:=hf.pn [2]
 have H:=H.lk 1 3 0 []
 exact ⟨A5,c3,E,A6,c4,E2,hf,H⟩
 rintro a w ⟨A4,c3,E,A6,c4,E2,hf,H⟩
 refine ua (wp_ret (?_))
 have H:=H.rowOwn 1 rfl rfl
 obtain ⟨F,H⟩:=H.freezeOwn 1 rfl
 have H:=H.lend 0 rfl
 have H:=H.rowOwn 0 rfl rfl
 obtain ⟨F2,H⟩:=H.freezeOwn 0 rfl
 have H:=H.lend 0 rfl
 have H:=H.frontD 1 rfl
 obtain rfl:=oi hF
 refine xi hf rfl (um hf H 0 TF.la27 rfl rfl rfl) ?_
 have hN:=H.ends2
 exact ⟨_,rfl,H.bel,(F++F2),⟨_,vw (x:=({ Nodes:=l,Fibers:=l2 }:Network)) (H.ownAt 0 rfl) (H.ownAt 1 rfl),rfl⟩,by first | exact hN | simpa using hN⟩
theorem zK {S:Nat→Prop} {v0_:Value} {l:List Int} {r:List Int} (h0:VR w0 S v0_ l) (hF:gac fu l=some r) :
    Calls Tryz.prog 192 [v0_].toArray w0 fun e w'=>∃ v,e=.returned v∧(Below w0.heap.size w0 w'∧∃ F0,VO w' F0 v r∧New w0 w' F0):=by
 obtain ⟨A,c,rfl,hl⟩:=u4 h0
 have H:=Mem.start ⟨w0,[]⟩ S
 have H:=H.pA hl
 refine en Tryz.func192 fun a hf=>?_
 rw [gac] at hF
 refine sqz (pz 1 hf fun a hf=>?_)
 refine wr (wl0 rfl (bl hf H 3 ([]:List Int) [] el0 fun A2 a w hf H=>?_))
 refine pz 1 hf fun a hf=>?_
 obtain ⟨l2,hl2_,hF⟩:=bs_ hF
 have H:=H.rowWeak 0 rfl
 refine wl0 rfl (xH hf H Tryz.underlying35 TF.ai3 rfl (by decide) 0 0 rfl rfl rfl rfl (.inl rfl) hl2_ (by decide) fun E A3 c2 a w hf H=>?_)
 have H:=H.rowOwn 0 rfl rfl
 have H:=H.rowSh 0 rfl
 refine pz 1 hf fun a hf=>?_
 refine wer ?_
 have H:=H.rowOwn 0 rfl rfl
 obtain ⟨F,H⟩:=H.freezeOwn 0 rfl
 have H:=H.lend 0 rfl
 obtain rfl:=oi hF
 refine rT hf ?_
 have hN:=H.ends1
 exact ⟨_,rfl,H.bel,F,(xE (H.ownAt 0 rfl)),by first | exact hN | simpa using hN⟩
theorem gc9 {S:Nat→Prop} {v0_:Value} {r':Route} {r:Route} (h0:VR w0 S v0_ r') (hF:gaw fu r'=some r) :
    Calls Tryz.prog 249 [v0_].toArray w0 fun e w'=>∃ v,e=.returned v∧(Below w0.heap.size w0 w'∧∃ F0,VO w' F0 v r∧New w0 w' F0):=by
 obtain ⟨A,c,rfl,hl⟩:=yi h0
 have H:=Mem.start ⟨w0,[]⟩ S
 have H:=H.pA hl
 refine en Tryz.func249 fun a hf=>?_
 rw [gaw] at hF
 refine bx hf H fun b' a w hf H=>?_
 refine aL hf H TF.zv45 fun b2 a w hf H=>?_
 refine ub (ua (sq (dw [6] 7 fun w hb=>?_)))
 have H:=H.keep hb
 refine zp 0 hf trivial fun a hf=>?_
 refine strT (H.lk 2 0 0 []) (fun w H=>trivial) fun hS=>?_
 refine zS 1 [1,5,6] rfl rfl rfl rfl hf hS (fun w H=>ue hf H TF.ls3 0 rfl rfl rfl) fun a hf=>?_
 refine zp 2 hf hS fun a hf=>?_
 refine zS 3 [3,4,5,6] rfl rfl rfl rfl hf hS (fun w H=>ue hf H TF.ls35 0 rfl rfl rfl) fun a hf=>?_
 obtain ⟨y,hy,hF⟩:=bs_ hF
 refine nn 4 rfl (oC hf TF.ghw (zK (S:=TT) (uB (H.rt 0 rfl)) hy) fun v w a hp hf=>?_)
 obtain ⟨hb,F,hp2,hN⟩:=hp
 obtain ⟨A2,c2,rfl,hl2⟩:=xP hp2
 have H:=H.aO1 hb hN hl2
 have H:=H.lend 0 rfl
 have hS:=H.lk 2 0 0 []
 refine aS hS ?_
 refine zP 5 rfl rfl rfl rfl hf hS (fun w=>uA hf (cs:=[(.int .i64 r'.Start),(.slice A2 y.length c2)]) rfl (fun w=>by kernel_rfl)) fun a hf=>?_
 refine nn 6 rfl (uh hf H 0 TF.sz45 rfl rfl rfl rfl rfl rfl (nle rfl) fun w H=>?_)
 refine ⟨fun h=>absurd h (by decide),?_⟩
 refine dk ?_
 refine ua (wp_ret (?_))
 obtain rfl:=oi hF
 refine xi hf rfl (um hf H 0 TF.la45 rfl rfl rfl) ?_
 have hN:=H.ends1
 exact ⟨_,rfl,H.bel,F,⟨_,xQ (x:=({ Start:=r'.Start,Fibers:=y }:Route)) (H.ownAt 0 rfl),rfl⟩,by first | exact hN | simpa using hN⟩
theorem yL {S:Nat→Prop} {v0_:Value} {x1:Light} {r:Light} (h0:VR w0 S v0_ x1) (hF:yM fu x1=some r) :
    Calls Tryz.prog 188 [v0_].toArray w0 fun e w'=>∃ v,e=.returned v∧(Below w0.heap.size w0 w'∧∃ F0,VO w' F0 v r∧New w0 w' F0):=by
 obtain ⟨A,c,rfl,hl⟩:=vK h0
 have H:=Mem.start ⟨w0,[]⟩ S
 have H:=H.pA hl
 refine en Tryz.func188 fun a hf=>?_
 rw [yM] at hF
 refine bx hf H fun b' a w hf H=>?_
 refine aL hf H TF.zv49 fun b2 a w hf H=>?_
 refine ub (ua (sq (dw [8] 9 fun w hb=>?_)))
 have H:=H.keep hb
 refine zp 0 hf trivial fun a hf=>?_
 refine strT (H.lk 2 0 0 []) (fun w H=>trivial) fun hS=>?_
 refine zS 1 [1,7,8] rfl rfl rfl rfl hf hS (fun w H=>ue hf H TF.ls3 0 rfl rfl rfl) fun a hf=>?_
 refine zp 2 hf hS fun a hf=>?_
 refine zS 3 [3,4,7,8] rfl rfl rfl rfl hf hS (fun w H=>ul hf H TF.la45 0 rfl rfl rfl rfl) fun a hf=>?_
 refine zp 5 hf hS fun a hf=>?_
 refine zS 6 [6,7,8] rfl rfl rfl rfl hf hS (fun w H=>ul hf H TF.la47 0 rfl rfl rfl rfl) fun a hf=>?_
 obtain ⟨y,hy,hF⟩:=bs_ hF
 refine nn 4 rfl (oC hf TF.glh (gc9 (S:=TT) (xk (x:=x1.Route) (H.rt 0 rfl)) hy) fun v w a hp hf=>?_)
 obtain ⟨hb,F,hp2,hN⟩:=hp
 obtain ⟨A2,c2,F2,rfl,rfl,hl2⟩:=yT hp2
 have H:=H.aO1 hb hN hl2
 have H:=H.lend 0 rfl
 have hS:=H.lk 2 0 0 []
 refine aS hS ?_
 refine zP 7 rfl rfl rfl rfl hf hS (fun w=>uA hf (cs:=[(.int .i64 x1.Id),(.int .i64 y.Start),(.slice A2 y.Fibers.length c2),(.int .i64 x1.Block.First),(.int .i64 x1.Block.Count)]) rfl (fun w=>by kernel_rfl)) fun a hf=>?_
 refine nn 8 rfl (uh hf H 0 TF.sz49 rfl rfl rfl rfl rfl rfl (nle rfl) fun w H=>?_)
 refine ⟨fun h=>absurd h (by decide),?_⟩
 refine dk ?_
 refine ua (wp_ret (?_))
 obtain rfl:=oi hF
 refine xi hf rfl (um hf H 0 TF.la49 rfl rfl rfl) ?_
 have hN:=H.ends1
 exact ⟨_,rfl,H.bel,F2,⟨_,xR (x:=({ Id:=x1.Id,Route:=y,Block:=x1.Block }:Light)) (H.ownAt 0 rfl),rfl⟩,by first | exact hN | simpa using hN⟩
theorem gbZ {S:Nat→Prop} {v0_:Value} {p:Plan} {r:Plan} (h0:VR w0 S v0_ p) (hF:zB fu p=some r) :
    Calls Tryz.prog 154 [v0_].toArray w0 fun e w'=>∃ v,e=.returned v∧(Below w0.heap.size w0 w'∧∃ F0,VO w' F0 v r∧New w0 w' F0):=by
 obtain ⟨A,c,A2,c2,A3,c3,rfl,hl,hl2,hl3⟩:=uD h0
 have H:=Mem.start ⟨w0,[]⟩ S
 have H:=H.pA hl
 have H:=H.pA hl2
 have H:=H.pA hl3
 refine en Tryz.func154 fun a hf=>?_
 rw [zB] at hF
 refine bx hf H fun b' a w hf H=>?_
 refine aL hf H TF.zv30 fun b2 a w hf H=>?_
 refine wr (pz 1 hf fun a hf=>?_)
 refine lN 1 hf H TF.la27 fun a hf=>?_
 obtain ⟨y,hy,hF⟩:=bs_ hF
 refine oc hf TF.glj (gda (S:=TT) (uY (x:=p.Network) (H.rt 2 rfl) (H.rt 1 rfl)) hy) fun v w a hp hf=>?_
 obtain ⟨hb,F,hp2,hN⟩:=hp
 obtain ⟨A4,c4,F2,A5,c5,F3,rfl,rfl,hl4,hl5⟩:=gaf hp2
 have H:=H.aO2 hb hN hl4 hl5
 have H:=H.lend 0 rfl
 have H:=H.lend 1 rfl
 refine oq hf (uA hf (cs:=[(.slice A4 y.Nodes.length c4),(.slice A5 y.Fibers.length c5),(.slice none 0 0)]) rfl (fun w=>by kernel_rfl)) fun a hf=>?_
 refine aL hf H TF.zv30 fun b3 a w hf H=>?_
 refine sB 0 hf H TF.sz30 fun w H=>?_
 refine we (sqz (pz 1 hf fun a hf=>?_))
 refine ub (ua ?_)
 have H:=H.nilRow (Light) (.ow []) rfl rfl 49
 obtain ⟨out',hB1,hF⟩:=bs_ hF
 have hf:=hf.pn [1,2,3,4]
 have H:=H.lm 7 1 3 5 31
 refine vU (fun (s:Int×List Light) (a:Act) (w:World)=>match s with | (i,m)=>∃ (A6:Option Addr) (c6:Nat) (E:Go.TypeId) (Fs:List (List Nat)),Fr a 28 [(1,(.pointer (some ⟨b',0,none⟩))),(2,(.pointer (some ⟨b2,0,none⟩))),(3,(.pointer (some ⟨b3,0,none⟩))),(4,(.int .i64 i))]∧Mem ⟨w0,[]⟩ S [⟨b3,30,[(.slice A4 y.Nodes.length c4),(.slice A5 y.Fibers.length c5),(.slice A6 m.length c6)]⟩,⟨b2,30,[(.slice none 0 0),(.slice none 0 0),(.slice none 0 0)]⟩,⟨b',30,[(.slice A p.Network.Nodes.length c),(.slice A2 p.Network.Fibers.length c2),(.slice A3 p.Lights.length c3)]⟩] [⟨.ow Fs,E,A6,c6,(m:List Light)⟩] [⟨F2,MP.own F2 [(.slice A4 y.Nodes.length c4)] (y.Nodes:List ByteArray)⟩,⟨F3,MP.own F3 [(.slice A5 y.Fibers.length c5)] (y.Fibers:List Fiber)⟩] [(true,MP.val [(.slice A5 y.Fibers.length c5)] (y.Fibers:List Fiber)),(true,MP.val [(.slice A4 y.Nodes.length c4)] (y.Nodes:List ByteArray)),(false,MP.val [(.slice A3 p.Lights.length c3)] (p.Lights:List Light)),(false,MP.val [(.slice A2 p.Network.Fibers.length c2)] (p.Network.Fibers:List Fiber)),(false,MP.val [(.slice A p.Network.Nodes.length c)] (p.Network.Nodes:List ByteArray))] w) (fun k (s:Int×List Light)=>xz fu p k s.1 s.2=some out') (fun s=>out'=s) (0,([]:List Light)) fu hB1 ⟨none,0,49,[],hf,H⟩ (fun s h=>by cases h) ?_ ?_
 rintro fk ⟨i,m⟩ a w hR1 hI
 replace hR1:xz fu p (fk + 1) i m=some out':=hR1
 rw [xz] at hR1
 obtain ⟨A6,c6,E,Fs,hf,H⟩:=hI
 refine sq (sqz (pz 2 hf fun a hf=>?_))
 refine lB 2 hf H TF.ls28 fun a hf=>?_
 refine pz 2 hf fun a hf=>?_
 refine ub (ua (ib hR1 hf (fun hc hR1=>?_) fun hc hR1=>?_))
 refine wp_skip (ua (sq (wp_block (dw [11] 12 fun w hb=>?_))))
 have H:=H.keep hb
 refine zp 0 hf trivial fun a hf=>?_
 refine strT (H.lk 1 0 0 []) (fun w H=>trivial) fun hS=>?_
 refine zS 1 [1,9,10,11] rfl rfl rfl rfl hf hS (fun w H=>ue hf H TF.ls28 0 rfl rfl rfl) fun a hf=>?_
 refine zp 2 hf hS fun a hf=>?_
 refine strT (H.lk 5 0 0 []) (fun w H=>H.lk 1 0 0 []) fun hS=>?_
 refine zS 3 [3,5,6,7,8,9,10,11] rfl rfl rfl rfl hf hS (fun w H=>ue hf H TF.ls28 1 rfl rfl rfl) fun a hf=>?_
 refine zp 4 hf hS fun a hf=>?_
 obtain ⟨e,he,hR1⟩:=bs_ hR1
 obtain ⟨p2,o,cs,hx,hr,H⟩:=ux H Tryz.underlying28 TF.sz49 2 rfl he
 refine zP 5 rfl rfl rfl rfl hf hS (fun w=>uu hf rfl rfl rfl hx w) fun a hf=>?_
 obtain ⟨A7,c7,rfl,hl6⟩:=uq hr
 have H:=H.pF hl6
 refine strT (H.lk 5 0 0 [1]) (fun w H=>H.lk 3 0 0 []) fun hS=>?_
 refine zS 6 [6,7,8,9,10,11] rfl rfl rfl rfl hf hS (fun w H=>uz hf H TF.la49 0 0 rfl rfl rfl rfl) fun a hf=>?_
 obtain ⟨y2,hy2,hR1⟩:=bs_ hR1
 refine nn 7 rfl (oC hf TF.ggB (yL (S:=TT) (uT (x:=e) (H.rt 0 rfl)) hy2) fun v2 w a hp3 hf=>?_)
 obtain ⟨hb2,F4,hp4,hN2⟩:=hp3
 obtain ⟨A8,c8,F5,rfl,rfl,hl7⟩:=ga8 hp4
 have H:=H.aO1 hb2 hN2 hl7
 have H:=H.lend 0 rfl
 have hS:=H.lk 5 0 0 [2]
 refine aS hS ?_
 have H:=H.recast (X:=[(⟨F5,MP.own F5 [(.slice A8 y2.Route.Fibers.length c8)] (y2.Route.Fibers:List Int)⟩:DI)]) (Y:=[(⟨F5,MP.own F5 [(.int .i64 y2.Id),(.int .i64 y2.Route.Start),(.slice A8 y2.Route.Fibers.length c8),(.int .i64 y2.Block.First),(.int .i64 y2.Block.Count)] (y2:Light)⟩:DI)]) (List.Perm.of_eq (by simp)) fun _=>ps1 (xR (x:=y2) (H.ownAt 0 rfl)) ps0
 refine nn 8 rfl (yh hf 49 H rfl (fun w=>by kernel_rfl) (by decide) fun A9 a w hf H=>?_)
 have hS:=H.lk 5 0 0 [2]
 refine aS hS ?_
 obtain ⟨al,hal,hR1⟩:=bs_ hR1
 have H:=H.frontR 1 rfl
 refine nn 9 rfl (gbO hf H Tryz.underlying28 TF.ai49 rfl (by decide) rfl rfl hal (by decide) fun E2 A10 c9 a w hf H=>?_)
 have hS:=H.lk 5 0 0 [2]
 refine aS hS ?_
 refine zp 10 hf hS fun a hf=>?_
 refine nn 11 rfl (uh hf H 0 TF.sz28 rfl rfl rfl rfl rfl rfl (nle rfl) fun w H=>?_)
 refine ⟨fun h=>absurd h (by decide),?_⟩
 refine dk ?_
 have hf:=hf.pn [1,2,3,4]
 refine uV (ua (reg (pz 3 hf fun a hf=>?_)))
 refine ub ?_
 have hf:=hf.pn [1,2,3,4]
 have H:=H.lm 7 1 3 8 248
 exact ua ⟨(w64 (i + 1),al),hR1,A10,c9,E2,Fs++[F5],hf,H⟩
 refine wp_exit (uy (uy (vJ (?_))))
 have hf:=hf.pn [1,2,3,4]
 have H:=H.lm 7 1 3 5 31
 exact ⟨(i,m),(Option.some.inj hR1).symm,A6,c6,E,Fs,hf,H⟩
 rintro a w ⟨⟨i2,m2⟩,rfl,A11,c10,E3,Fs2,hf,H⟩
 try dsimp only at hF
 refine ua (sq (reg (lN 0 hf H TF.la30 fun a hf=>?_)))
 refine sB 1 hf H TF.sz30 fun w H=>?_
 refine wer ?_
 obtain ⟨F6,H⟩:=H.freezeOwn 0 rfl
 have H:=H.lend 0 rfl
 have H:=H.frontD 2 rfl
 have H:=H.frontD 2 rfl
 obtain rfl:=oi hF
 refine xi hf rfl (um hf H 1 TF.la30 rfl rfl rfl) ?_
 have hN:=H.ends3
 exact ⟨_,rfl,H.bel,(F2++(F3++F6)),⟨_,vB (x:=({ Network:=y,Lights:=m2 }:Plan)) (H.ownAt 0 rfl) (H.ownAt 1 rfl) (H.ownAt 2 rfl),rfl⟩,by first | exact hN | simpa using hN⟩
theorem zd {S:Nat→Prop} {v0_:Value} {v1_:Value} {p:Plan} {x1:Light} {r:Plan} (h0:VR w0 S v0_ p) (h1:VR w0 S v1_ x1) (hF:yW fu p x1=some r) :
    Calls Tryz.prog 187 [v0_,v1_].toArray w0 fun e w'=>∃ v,e=.returned v∧(∃ (A0_0:Option Addr) (c0_0:Nat) (F0_0:List Nat) (A0_1:Option Addr) (c0_1:Nat) (F0_1:List Nat) (A0_2:Option Addr) (c0_2:Nat) (E0_2:Go.TypeId),v=(.agg #[(.slice A0_0 r.Network.Nodes.length c0_0),(.slice A0_1 r.Network.Fibers.length c0_1),(.slice A0_2 r.Lights.length c0_2)])∧Mem ⟨w0,[]⟩ S [] [⟨.sh true,E0_2,A0_2,c0_2,(r.Lights:List Light)⟩] [⟨F0_0,MP.own F0_0 [(.slice A0_0 r.Network.Nodes.length c0_0)] (r.Network.Nodes:List ByteArray)⟩,⟨F0_1,MP.own F0_1 [(.slice A0_1 r.Network.Fibers.length c0_1)] (r.Network.Fibers:List Fiber)⟩] [] w'):=by
 obtain ⟨A,c,A2,c2,A3,c3,rfl,hl,hl2,hl3⟩:=uD h0
 obtain ⟨A4,c4,rfl,hl4⟩:=vK h1
 have H:=Mem.start ⟨w0,[]⟩ S
 have H:=H.pA hl
 have H:=H.pA hl2
 have H:=H.pA hl3
 have H:=H.pA hl4
 refine en Tryz.func187 fun a hf=>?_
 rw [yW] at hF
 refine bx hf H fun b' a w hf H=>?_
 refine wl0 rfl (xl hf H rfl rfl (by decide) fun b2 a w hf H=>?_)
 refine aL hf H TF.zv30 fun b3 a w hf H=>?_
 refine wr (lN 2 hf H TF.la30 fun a hf=>?_)
 obtain ⟨y,hy,hF⟩:=bs_ hF
 refine oc hf TF.gjF (gbZ (S:=TT) (uj (x:=p) (H.rt 3 rfl) (H.rt 2 rfl) (H.rt 1 rfl)) hy) fun v w a hp hf=>?_
 obtain ⟨hb,F,hp2,hN⟩:=hp
 obtain ⟨A5,c5,F2,A6,c6,F3,A7,c7,F4,rfl,rfl,hl5,hl6,hl7⟩:=zH hp2
 have H:=H.aO3 hb (by first | exact hN | simpa using hN) hl5 hl6 hl7
 have H:=H.lend 0 rfl
 have H:=H.lend 1 rfl
 have H:=H.lend 2 rfl
 refine aL hf H TF.zv30 fun b4 a w hf H=>?_
 refine sB 0 hf H TF.sz30 fun w H=>?_
 refine wr (pz 1 hf fun a hf=>?_)
 refine ub (ua (sq ?_))
 obtain ⟨out',hB1,hF⟩:=bs_ hF
 have hf:=hf.pn [3,4,5,6]
 have H:=H.lm 7 0 7 4 15
 refine vU (fun (s:Int) (a:Act) (w:World)=>match s with | i=>Fr a 44 [(3,(.pointer (some ⟨b2,0,none⟩))),(4,(.pointer (some ⟨b3,0,none⟩))),(5,(.pointer (some ⟨b4,0,none⟩))),(6,(.int .i64 i))]∧Mem ⟨w0,[]⟩ S [⟨b4,30,[(.slice A5 y.Network.Nodes.length c5),(.slice A6 y.Network.Fibers.length c6),(.slice A7 y.Lights.length c7)]⟩,⟨b3,30,[(.slice none 0 0),(.slice none 0 0),(.slice none 0 0)]⟩,⟨b2,49,[(.int .i64 x1.Id),(.int .i64 x1.Route.Start),(.slice A4 x1.Route.Fibers.length c4),(.int .i64 x1.Block.First),(.int .i64 x1.Block.Count)]⟩] [] [⟨F2,MP.own F2 [(.slice A5 y.Network.Nodes.length c5)] (y.Network.Nodes:List ByteArray)⟩,⟨F3,MP.own F3 [(.slice A6 y.Network.Fibers.length c6)] (y.Network.Fibers:List Fiber)⟩,⟨F4,MP.own F4 [(.slice A7 y.Lights.length c7)] (y.Lights:List Light)⟩] [(true,MP.val [(.slice A7 y.Lights.length c7)] (y.Lights:List Light)),(true,MP.val [(.slice A6 y.Network.Fibers.length c6)] (y.Network.Fibers:List Fiber)),(true,MP.val [(.slice A5 y.Network.Nodes.length c5)] (y.Network.Nodes:List ByteArray)),(false,MP.val [(.slice A4 x1.Route.Fibers.length c4)] (x1.Route.Fibers:List Int))] w) (fun k (s:Int)=>ze fu x1 y k s=some out') (fun s=>out'=s) 0 fu hB1 ⟨hf,H⟩ (fun s h=>by cases h) ?_ ?_
 rintro fk i a w hR1 hI
 replace hR1:ze fu x1 y (fk + 1) i=some out':=hR1
 rw [ze] at hR1
 obtain ⟨hf,H⟩:=hI
 refine sq (sq ?_)
 obtain ⟨c8,hGc8,hR1⟩:=bs_ hR1
 have fh:=hf.prune [3,4,5,6] rfl
 have Hm:=H.lm 7 0 7 4 15
 refine midF 24 (.bool c8) fh Hm ?_ fun a w hf H=>?_
 refine dw [] 16 fun w hb=>?_
 have H:=H.keep hb
 refine zp 0 hf trivial fun a hf=>?_
 refine zp 1 hf trivial fun a hf=>?_
 refine strT (H.lk 1 0 0 []) (fun w H=>trivial) fun hS=>?_
 refine zS 2 [] rfl rfl rfl rfl hf hS (fun w H=>ue hf H TF.ls28 0 rfl rfl rfl) fun a hf=>?_
 refine zp 3 hf hS fun a hf=>?_
 refine zp 4 hf hS fun a hf=>?_
 refine zp 5 hf hS fun a hf=>?_
 refine iteB hGc8 (fun hc hGc8=>?_) fun hc hGc8=>?_
 have hf:=hf.lit 14 rfl hc
 refine zg 6 hf hS fun a hf=>?_
 refine tSg 7 [] rfl rfl rfl rfl rfl rfl hf (by kernel_rfl) (by kernel_rfl) hS (fun w H=>ue hf H TF.ls28 0 rfl rfl rfl) fun a hf=>?_
 refine zg 8 hf hS fun a hf=>?_
 obtain ⟨e,he,hGc8⟩:=bs_ hGc8
 obtain ⟨p2,o,cs,hx,hr,H⟩:=ux H Tryz.underlying28 TF.sz49 0 rfl he
 refine tPg 9 rfl rfl rfl rfl rfl rfl hf (by kernel_rfl) (fun _=>hS) (fun w=>uu hf rfl rfl rfl hx w) fun a hf=>?_
 obtain ⟨A8,c9,rfl,hl8⟩:=uq hr
 have H:=H.pT hl8
 refine zg 10 hf hS fun a hf=>?_
 refine strT (H.lk 1 0 0 [1]) (fun w H=>H.lk 1 0 0 []) fun hS=>?_
 refine tSg 11 [] rfl rfl rfl rfl rfl rfl hf (by kernel_rfl) (by kernel_rfl) hS (fun w H=>uI hf H TF.ls3 0 0 rfl rfl rfl) fun a hf=>?_
 refine zg 12 hf hS fun a hf=>?_
 refine strT (H.lk 5 0 0 [1]) (fun w H=>H.lk 1 0 0 [0]) fun hS=>?_
 refine tSg 13 [] rfl rfl rfl rfl rfl rfl hf (by kernel_rfl) (by kernel_rfl) hS (fun w H=>ue hf H TF.ls3 1 rfl rfl rfl) fun a hf=>?_
 refine zg 14 hf hS fun a hf=>?_
 refine zp 15 hf hS fun a hf=>?_
 refine dk ?_
 obtain rfl:=oi hGc8
 have hf:=hf.pn [24,3,4,5,6]
 have H:=H.lm 7 0 7 6 60
 exact ⟨hf,H⟩
 have hf:=hf.lit 14 rfl hc
 refine zU 6 hf hS fun a hf=>?_
 refine zU 7 hf hS fun a hf=>?_
 refine zU 8 hf hS fun a hf=>?_
 refine zU 9 hf hS fun a hf=>?_
 refine zU 10 hf hS fun a hf=>?_
 refine zU 11 hf hS fun a hf=>?_
 refine zU 12 hf hS fun a hf=>?_
 refine zU 13 hf hS fun a hf=>?_
 refine zU 14 hf hS fun a hf=>?_
 refine zp 15 hf hS fun a hf=>?_
 refine dk ?_
 obtain rfl:=oi hGc8
 have hf:=hf.pn [24,3,4,5,6]
 have H:=H.lm 7 0 7 4 15
 exact ⟨hf,H⟩
 refine ua (ib hR1 hf (fun hc2 hR1=>?_) fun hc2 hR1=>?_)
 refine wp_skip (ua (wp_block (reg (pz 3 hf fun a hf=>?_))))
 refine ub (uV ?_)
 have hf:=hf.pn [3,4,5,6]
 have H:=H.lm 7 0 7 4 15
 exact ua ⟨w64 (i + 1),hR1,hf,H⟩
 refine wp_exit (uy (uy (vJ (?_))))
 have hf:=hf.pn [3,4,5,6]
 have H:=H.lm 7 0 7 4 15
 exact ⟨i,(Option.some.inj hR1).symm,hf,H⟩
 rintro a w ⟨out',rfl,hf,H⟩
 refine ua (sq (dw [16] 17 fun w hb=>?_))
 have H:=H.keep hb
 refine zp 1 hf trivial fun a hf=>?_
 refine strT (H.lk 1 0 0 []) (fun w H=>trivial) fun hS=>?_
 refine zS 2 [2,4,5,7,8,9,14,15,16] rfl rfl rfl rfl hf hS (fun w H=>ue hf H TF.ls28 0 rfl rfl rfl) fun a hf=>?_
 refine zp 3 hf hS fun a hf=>?_
 obtain ⟨l,hl_,hF⟩:=bs_ hF
 obtain ⟨A9,c10,hx2,H⟩:=gaQ H Tryz.underlying28 TF.sz49 0 (lov:=none) (hiv:=some (.int .i64 out')) (.inl ⟨rfl,rfl⟩) (.inr rfl) rfl hl_
 refine zP 4 rfl rfl rfl rfl hf hS (fun w=>gaP hf rfl rfl rfl hx2 w) fun a hf=>?_
 refine strT (H.lk 5 0 0 []) (fun w H=>H.lk 1 0 0 []) fun hS=>?_
 refine zS 6 [6,7,8,9,14,15,16] rfl rfl rfl rfl hf hS (fun w H=>ul hf H TF.la49 1 rfl rfl rfl rfl) fun a hf=>?_
 refine zp 10 hf hS fun a hf=>?_
 refine zS 11 [11,13,14,15,16] rfl rfl rfl rfl hf hS (fun w H=>ue hf H TF.ls28 0 rfl rfl rfl) fun a hf=>?_
 refine zp 12 hf hS fun a hf=>?_
 obtain ⟨l2,hl2_,hF⟩:=bs_ hF
 obtain ⟨A10,c11,hx3,H⟩:=gaQ H Tryz.underlying28 TF.sz49 1 (lov:=some (.int .i64 out')) (hiv:=none) (.inr rfl) (.inl ⟨rfl,rfl⟩) rfl hl2_
 refine zP 13 rfl rfl rfl rfl hf hS (fun w=>gaP hf rfl rfl rfl hx3 w) fun a hf=>?_
 refine nn 0 rfl (bl hf H 49 ([]:List Light) [] el0 fun A11 a w hf H=>?_)
 have hS:=H.lk 5 0 0 []
 refine aS hS ?_
 obtain ⟨l3,hl3_,hF⟩:=bs_ hF
 refine nn 5 rfl (xH hf H Tryz.underlying28 TF.ai49 rfl (by decide) 0 1 rfl rfl rfl rfl (.inr rfl) hl3_ (by decide) fun E A12 c12 a w hf H=>?_)
 have hS:=H.lk 5 0 0 []
 refine aS hS ?_
 obtain ⟨y2,hy2,hF⟩:=bs_ hF
 refine nn 7 rfl (oC hf TF.ggB (yL (S:=TT) (uT (x:=x1) (H.rt 5 rfl)) hy2) fun v2 w a hp3 hf=>?_)
 obtain ⟨hb2,F5,hp4,hN2⟩:=hp3
 obtain ⟨A13,c13,F6,rfl,rfl,hl9⟩:=ga8 hp4
 have H:=H.aO1 hb2 hN2 hl9
 have H:=H.lend 0 rfl
 have hS:=H.lk 5 0 0 []
 refine aS hS ?_
 have H:=H.recast (X:=[(⟨F6,MP.own F6 [(.slice A13 y2.Route.Fibers.length c13)] (y2.Route.Fibers:List Int)⟩:DI)]) (Y:=[(⟨F6,MP.own F6 [(.int .i64 y2.Id),(.int .i64 y2.Route.Start),(.slice A13 y2.Route.Fibers.length c13),(.int .i64 y2.Block.First),(.int .i64 y2.Block.Count)] (y2:Light)⟩:DI)]) (List.Perm.of_eq (by simp)) fun _=>ps1 (xR (x:=y2) (H.ownAt 0 rfl)) ps0
 refine nn 8 rfl (yh hf 49 H rfl (fun w=>by kernel_rfl) (by decide) fun A14 a w hf H=>?_)
 have hS:=H.lk 5 0 0 []
 refine aS hS ?_
 have H:=H.rowSh 0 rfl
 obtain ⟨l4,hl4_,hF⟩:=bs_ hF
 refine nn 9 rfl (xg hf H Tryz.underlying28 TF.ai49 rfl (by decide) 1 0 rfl rfl rfl rfl (.inr rfl) hl4_ (by decide) fun E2 A15 c14 a w hf H=>?_)
 have hS:=H.lk 5 0 0 []
 refine aS hS ?_
 obtain ⟨l5,hl5_,hF⟩:=bs_ hF
 refine nn 14 rfl (xH hf H Tryz.underlying28 TF.ai49 rfl (by decide) 1 1 rfl rfl rfl rfl (.inr rfl) hl5_ (by decide) fun E3 A16 c15 a w hf H=>?_)
 have hS:=H.lk 5 0 0 []
 refine aS hS ?_
 refine zp 15 hf hS fun a hf=>?_
 refine nn 16 rfl (uh hf H 0 TF.sz28 rfl rfl rfl rfl rfl rfl (nle rfl) fun w H=>?_)
 refine ⟨fun h=>absurd h (by decide),?_⟩
 refine dk ?_
 have hf:=hf.pn [4,5]
 refine ua (sq (reg (lN 0 hf H TF.la30 fun a hf=>?_)))
 refine sB 1 hf H TF.sz30 fun w H=>?_
 refine wer ?_
 have H:=H.lm 7 2 7 7 127
 have H:=H.frontD 1 rfl
 have H:=H.frontD 1 rfl
 obtain rfl:=oi hF
 refine xi hf rfl (um hf H 1 TF.la30 rfl rfl rfl) ?_
 have H:=H.lk 0 1 3 []
 exact ⟨_,rfl,A5,c5,F2,A6,c6,F3,A16,c15,E3,rfl,H⟩
end AT
