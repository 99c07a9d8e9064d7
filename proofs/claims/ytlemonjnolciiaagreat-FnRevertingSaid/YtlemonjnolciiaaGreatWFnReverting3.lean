/- The Go functions do what is told of them, by program (gen.py). -/
import Derived.Test.YtlemonjnolciiaaGreatWFnReverting2
set_option linter.unusedVariables false
set_option linter.unusedSimpArgs false
set_option maxRecDepth 100000
set_option maxHeartbeats 1000000
namespace AT
open Go Go.RowKit Go.Proofs
variable {fu:Nat} {w0:World}
theorem spec_l4Compare_ok {S:Nat→Prop} {v0_:Value} {v1_:Value} {v2_:Value} {n':Network} {a':Route} {b':Route} {r:Int} (h0:VR w0 S v0_ n') (h1:VR w0 S v1_ a') (h2:VR w0 S v2_ b') (hF:spec_l4Compare fu n' a' b'=some r) :
    Calls Tryz.prog 366 [v0_,v1_,v2_].toArray w0 fun e w'=>∃ v,e=.returned v∧(Below w0.heap.size w0 w'∧VR w' (St ⟨w0,[]⟩ S [] [] [] true) v r):=by
 obtain ⟨A,c,A2,c2,rfl,hl,hl2⟩:=Network_open h0
 obtain ⟨A3,c3,rfl,hl3⟩:=Route_open h1
 obtain ⟨A4,c4,rfl,hl4⟩:=Route_open h2
 have H:=Mem.start ⟨w0,[]⟩ S
 have H:=H.pA hl
 have H:=H.pA hl2
 have H:=H.pA hl3
 have H:=H.pA hl4
 refine en Tryz.func366 fun a hf=>?_
 rw [spec_l4Compare] at hF
 refine bx hf H fun b2 a w hf H=>?_
 refine wl0 rfl (op_box hf H rfl rfl (by decide) fun b3 a w hf H=>?_)
 refine wl0 rfl (op_box hf H rfl rfl (by decide) fun b4 a w hf H=>?_)
 refine pz 1 hf fun a hf=>?_
 refine wl_end (then_n (sq (sq (dw [] 8 fun w hb=>?_))))
 have H:=H.keep hb
 refine strT (H.lk 4 0 0 []) (fun w H=>trivial) fun hS=>?_
 refine zS 0 [] rfl rfl rfl rfl hf hS (fun w H=>rq_loadBN hf H TF.la27 0 rfl rfl rfl rfl) fun a hf=>?_
 refine strT (H.lk 6 0 0 []) (fun w H=>H.lk 2 0 0 []) fun hS=>?_
 refine zS 1 [] rfl rfl rfl rfl hf hS (fun w H=>rq_loadBN hf H TF.la45 0 rfl rfl rfl rfl) fun a hf=>?_
 refine zS 3 [] rfl rfl rfl rfl hf hS (fun w H=>rq_loadBN hf H TF.la27 1 rfl rfl rfl rfl) fun a hf=>?_
 refine strT (H.lk 7 0 0 []) (fun w H=>H.lk 6 0 0 []) fun hS=>?_
 refine zS 4 [] rfl rfl rfl rfl hf hS (fun w H=>rq_loadBN hf H TF.la45 0 rfl rfl rfl rfl) fun a hf=>?_
 obtain ⟨y,hy,hF⟩:=bs_ hF
 refine nn 2 rfl (oC hf TF.cl332 (spec_l4Length_ok (S:=TT) (Network_mkv (x:=n') (H.rt 3 rfl) (H.rt 2 rfl)) (Route_mkv (x:=a') (H.rt 1 rfl)) hy) fun v w a hp hf=>?_)
 obtain ⟨hb,hp⟩:=hp
 obtain rfl:=VR_int hp
 have H:=H.keep hb
 have hS:=H.lk 7 0 0 []
 refine aS hS ?_
 obtain ⟨y2,hy2,hF⟩:=bs_ hF
 refine nn 5 rfl (oC hf TF.cl332 (spec_l4Length_ok (S:=TT) (Network_mkv (x:=n') (H.rt 3 rfl) (H.rt 2 rfl)) (Route_mkv (x:=b') (H.rt 0 rfl)) hy2) fun v2 w a hp2 hf=>?_)
 obtain ⟨hb2,hp2⟩:=hp2
 obtain rfl:=VR_int hp2
 have H:=H.keep hb2
 have hS:=H.lk 7 0 0 []
 refine aS hS ?_
 refine zp 6 hf hS fun a hf=>?_
 refine zp 7 hf hS fun a hf=>?_
 refine dk ?_
 refine then_n (sqz (pz 2 hf fun a hf=>?_))
 have hf:=hf.pn [4,5,7,18]
 refine wl_end (then_n (ib hF hf (fun hc hF=>?_) fun hc hF=>?_))
 ·refine sqz (pz 1 hf fun a hf=>?_)
  obtain ⟨y3,hy3,hF⟩:=bs_ hF
  refine oc hf TF.cl369 (spec_l4Sign_ok (S:=TT) mk_int hy3) fun v3 w a hp3 hf=>?_
  obtain ⟨hb3,hp3⟩:=hp3
  obtain rfl:=VR_int hp3
  have H:=H.keep hb3
  refine pz 1 hf fun a hf=>?_
  refine wl_end (then_n (wp_ret (then_r (?_))))
  obtain rfl:=oi hF
  refine rT hf ?_
  exact ⟨_,rfl,H.bel,mk_int⟩
 refine wp_skip (then_n (sq (sqz (pz 1 hf fun a hf=>?_))))
 refine lB 1 hf H TF.ls35 fun a hf=>?_
 refine pz 2 hf fun a hf=>?_
 refine lB 0 hf H TF.ls35 fun a hf=>?_
 refine pz 3 hf fun a hf=>?_
 refine wr (pz 2 hf fun a hf=>?_)
 refine wl_end (then_n (ib hF hf (fun hc2 hF=>?_) fun hc2 hF=>?_))
 ·refine sqz (pz 1 hf fun a hf=>?_)
  obtain ⟨y4,hy4,hF⟩:=bs_ hF
  refine oc hf TF.cl369 (spec_l4Sign_ok (S:=TT) mk_int hy4) fun v4 w a hp4 hf=>?_
  obtain ⟨hb4,hp4⟩:=hp4
  obtain rfl:=VR_int hp4
  have H:=H.keep hb4
  refine pz 1 hf fun a hf=>?_
  have hf:=hf.pn [6]
  refine wl_end (then_n (wp_ret (then_r (?_))))
  obtain rfl:=oi hF
  refine rT hf ?_
  exact ⟨_,rfl,H.bel,mk_int⟩
 refine wp_skip (then_n (sq (sqz (pz 1 hf fun a hf=>?_))))
 refine wl_end (then_n ?_)
 obtain ⟨out',hB1,hF⟩:=bs_ hF
 have hf:=hf.pn [4,5,9]
 have H:=H.lk 3 0 0 [0,1]
 refine loopC (fun (s:Int) (a:Act) (w:World)=>match s with | i=>Fr a 68 [(4,(.pointer (some ⟨b3,0,none⟩))),(5,(.pointer (some ⟨b4,0,none⟩))),(9,(.int .i64 i))]∧Mem ⟨w0,[]⟩ S [⟨b4,45,[(.int .i64 b'.Start),(.slice A4 b'.Fibers.length c4)]⟩,⟨b3,45,[(.int .i64 a'.Start),(.slice A3 a'.Fibers.length c3)]⟩] [] [] [(false,MP.val [(.slice A4 b'.Fibers.length c4)] (b'.Fibers:List Int)),(false,MP.val [(.slice A3 a'.Fibers.length c3)] (a'.Fibers:List Int))] w) (fun k (s:Int)=>spec_l4Compare_L1 fu a' b' k s=some out') (fun s=>out'=Out.next s) 0 fu hB1 ⟨hf,H⟩ (fun s h=>by cases h) ?_ ?_
 ·rintro fk i a w hR1 hI
  replace hR1:spec_l4Compare_L1 fu a' b' (fk + 1) i=some out':=hR1
  rw [spec_l4Compare_L1] at hR1
  obtain ⟨hf,H⟩:=hI
  refine sq (sqz (pz 2 hf fun a hf=>?_))
  refine lB 1 hf H TF.ls35 fun a hf=>?_
  refine pz 2 hf fun a hf=>?_
  refine wl_end (then_n (ib hR1 hf (fun hc3 hR1=>?_) fun hc3 hR1=>?_))
  ·refine wp_skip (then_n (sq (wp_block (sq (dw [] 11 fun w hb=>?_)))))
   have H:=H.keep hb
   refine zp 0 hf trivial fun a hf=>?_
   refine strT (H.lk 2 0 0 []) (fun w H=>trivial) fun hS=>?_
   refine zS 1 [] rfl rfl rfl rfl hf hS (fun w H=>rq_loadB hf H TF.ls35 0 rfl rfl rfl) fun a hf=>?_
   refine zp 2 hf hS fun a hf=>?_
   obtain ⟨e,he,hR1⟩:=bs_ hR1
   obtain ⟨p,o,cs,hx,hr,H⟩:=pre_iaddr H Tryz.underlying35 TF.sz3 1 rfl he
   refine zP 3 rfl rfl rfl rfl hf hS (fun w=>rq_iaddrE hf rfl rfl rfl hx w) fun a hf=>?_
   obtain rfl:=hr
   refine strT (H.lk 2 0 0 [0]) (fun w H=>H.lk 1 0 0 []) fun hS=>?_
   refine zS 4 [] rfl rfl rfl rfl hf hS (fun w H=>rq_loadI hf H TF.ls3 0 0 rfl rfl rfl) fun a hf=>?_
   refine zp 5 hf hS fun a hf=>?_
   refine strT (H.lk 3 0 0 [0]) (fun w H=>H.lk 2 0 0 [0]) fun hS=>?_
   refine zS 6 [] rfl rfl rfl rfl hf hS (fun w H=>rq_loadB hf H TF.ls35 0 rfl rfl rfl) fun a hf=>?_
   refine zp 7 hf hS fun a hf=>?_
   obtain ⟨e2,he2,hR1⟩:=bs_ hR1
   obtain ⟨p2,o2,cs2,hx2,hr2,H⟩:=pre_iaddr H Tryz.underlying35 TF.sz3 1 rfl he2
   refine zP 8 rfl rfl rfl rfl hf hS (fun w=>rq_iaddrE hf rfl rfl rfl hx2 w) fun a hf=>?_
   obtain rfl:=hr2
   refine strT (H.lk 3 0 0 [0,1]) (fun w H=>H.lk 3 0 0 [1]) fun hS=>?_
   refine zS 9 [] rfl rfl rfl rfl hf hS (fun w H=>rq_loadI hf H TF.ls3 0 0 rfl rfl rfl) fun a hf=>?_
   refine zp 10 hf hS fun a hf=>?_
   refine dk ?_
   have hf:=hf.pn [4,5,9,49]
   refine then_n (ib hR1 hf (fun hc4 hR1=>?_) fun hc4 hR1=>?_)
   ·refine sq (dw [] 13 fun w hb=>?_)
    have H:=H.keep hb
    refine zp 0 hf trivial fun a hf=>?_
    refine strT (H.lk 2 0 0 []) (fun w H=>trivial) fun hS=>?_
    refine zS 1 [] rfl rfl rfl rfl hf hS (fun w H=>rq_loadB hf H TF.ls35 0 rfl rfl rfl) fun a hf=>?_
    refine zp 2 hf hS fun a hf=>?_
    obtain ⟨e3,he3,hR1⟩:=bs_ hR1
    obtain ⟨p3,o3,cs3,hx3,hr3,H⟩:=pre_iaddr H Tryz.underlying35 TF.sz3 3 rfl he3
    refine zP 3 rfl rfl rfl rfl hf hS (fun w=>rq_iaddrE hf rfl rfl rfl hx3 w) fun a hf=>?_
    obtain rfl:=hr3
    refine strT (H.lk 2 0 0 [0]) (fun w H=>H.lk 1 0 0 []) fun hS=>?_
    refine zS 4 [] rfl rfl rfl rfl hf hS (fun w H=>rq_loadI hf H TF.ls3 0 0 rfl rfl rfl) fun a hf=>?_
    refine zp 5 hf hS fun a hf=>?_
    refine strT (H.lk 3 0 0 [0]) (fun w H=>H.lk 2 0 0 [0]) fun hS=>?_
    refine zS 6 [] rfl rfl rfl rfl hf hS (fun w H=>rq_loadB hf H TF.ls35 0 rfl rfl rfl) fun a hf=>?_
    refine zp 7 hf hS fun a hf=>?_
    obtain ⟨e4,he4,hR1⟩:=bs_ hR1
    obtain ⟨p4,o4,cs4,hx4,hr4,H⟩:=pre_iaddr H Tryz.underlying35 TF.sz3 3 rfl he4
    refine zP 8 rfl rfl rfl rfl hf hS (fun w=>rq_iaddrE hf rfl rfl rfl hx4 w) fun a hf=>?_
    obtain rfl:=hr4
    refine strT (H.lk 3 0 0 [0,1]) (fun w H=>H.lk 3 0 0 [1]) fun hS=>?_
    refine zS 9 [] rfl rfl rfl rfl hf hS (fun w H=>rq_loadI hf H TF.ls3 0 0 rfl rfl rfl) fun a hf=>?_
    refine zp 10 hf hS fun a hf=>?_
    obtain ⟨y5,hy5,hR1⟩:=bs_ hR1
    refine nn 11 rfl (oC hf TF.cl369 (spec_l4Sign_ok (S:=TT) mk_int hy5) fun v5 w a hp5 hf=>?_)
    obtain ⟨hb5,hp5⟩:=hp5
    obtain rfl:=VR_int hp5
    have H:=H.keep hb5
    have hS:=H.lk 3 0 0 [0,1]
    refine aS hS ?_
    refine zp 12 hf hS fun a hf=>?_
    refine dk ?_
    have hf:=hf.pn [6]
    refine then_n (wp_ret (blk_r (then_r (then_r (blk_r (then_r (then_r (?_))))))))
    obtain rfl:=oi hR1
    replace hF:=on_ret hF
    obtain rfl:=oi hF
    refine rT hf ?_
    exact ⟨_,rfl,H.bel,mk_int⟩
   refine wp_skip (blk_n (then_n (reg (pz 3 hf fun a hf=>?_))))
   refine wl_end ?_
   have hf:=hf.pn [4,5,9]
   have H:=H.lk 3 0 0 [2,3]
   exact then_n ⟨w64 (i + 1),hR1,hf,H⟩
  refine wp_exit (then_x (then_x (blk_e (?_))))
  have hf:=hf.pn [4,5,9]
  have H:=H.lk 3 0 0 [0,1]
  exact ⟨i,(Option.some.inj hR1).symm,hf,H⟩
 rintro a w ⟨i2,rfl,hf,H⟩
 replace hF:=on_next hF
 refine then_n (sqz (pz 1 hf fun a hf=>?_))
 refine lB 1 hf H TF.ls3 fun a hf=>?_
 refine pz 1 hf fun a hf=>?_
 refine lB 0 hf H TF.ls3 fun a hf=>?_
 refine pz 1 hf fun a hf=>?_
 obtain ⟨y6,hy6,hF⟩:=bs_ hF
 refine oc hf TF.cl369 (spec_l4Sign_ok (S:=TT) mk_int hy6) fun v6 w a hp6 hf=>?_
 obtain ⟨hb6,hp6⟩:=hp6
 obtain rfl:=VR_int hp6
 have H:=H.keep hb6
 refine pz 1 hf fun a hf=>?_
 refine wer ?_
 obtain rfl:=oi hF
 refine rT hf ?_
 exact ⟨_,rfl,H.bel,mk_int⟩
theorem spec_l4Search_put_ok {S:Nat→Prop} {b0:Nat} {cs0:List Value} {v1_:Value} {x1:L4SearchP} {r':Route} {r:L4SearchP} (hp0:w0.heap[b0]?=some (.cells cs0.toArray 322 (0,0))) (hr0:GoTy.rep w0 S cs0 x1) (hS0:¬S b0) (h1:VR w0 S v1_ r') (hF:spec_l4Search_put fu x1 r'=some r) :
    Calls Tryz.prog 361 [(.pointer (some ⟨b0,0,none⟩)),v1_].toArray w0 fun e w'=>∃ v,e=.returned v∧(Chg w0 w' [b0]∧∃ cs',w'.heap[b0]?=some (.cells cs'.toArray 322 (0,0))∧GoTy.rep w' (St ⟨w0,[b0]⟩ S [⟨b0,322,cs'⟩] [] [] false) cs' r∧v=.tuple #[]):=by
 obtain ⟨A,c,A2,c2,A3,c3,rfl,hl,hl2,hl3⟩:=L4SearchP_cells hr0
 obtain ⟨A4,c4,rfl,hl4⟩:=Route_open h1
 have H:=Mem.startB S hp0
 have H:=H.pB hS0 hl
 have H:=H.pB hS0 hl2
 have H:=H.pB hS0 hl3
 have H:=H.pB hS0 hl4
 refine en Tryz.func361 fun a hf=>?_
 rw [spec_l4Search_put] at hF
 refine bx hf H fun b3 a w hf H=>?_
 refine wr (pz 3 hf fun a hf=>?_)
 refine lB 1 hf H TF.ls230 fun a hf=>?_
 refine pz 2 hf fun a hf=>?_
 refine wl_end (then_n (sq ?_))
 obtain ⟨out',hB1,hF⟩:=bs_ hF
 have hf:=hf.pn [0,3,4]
 have H:=H.lm 3 0 0 4 15
 refine loopC (fun (s:Int) (a:Act) (w:World)=>match s with | i=>Fr a 52 [(0,(.pointer (some ⟨b0,0,none⟩))),(3,(.pointer (some ⟨b3,0,none⟩))),(4,(.int .i64 i))]∧Mem ⟨w0,[b0]⟩ S [⟨b3,45,[(.int .i64 r'.Start),(.slice A4 r'.Fibers.length c4)]⟩,⟨b0,322,[(.slice A x1.n.Nodes.length c),(.slice A2 x1.n.Fibers.length c2),(.int .i64 x1.to),(.slice A3 x1.list.length c3)]⟩] [] [] [(false,MP.val [(.slice A4 r'.Fibers.length c4)] (r'.Fibers:List Int)),(false,MP.val [(.slice A3 x1.list.length c3)] (x1.list:List Route)),(false,MP.val [(.slice A2 x1.n.Fibers.length c2)] (x1.n.Fibers:List Fiber)),(false,MP.val [(.slice A x1.n.Nodes.length c)] (x1.n.Nodes:List ByteArray))] w) (fun k (s:Int)=>spec_l4Search_put_L1 fu x1 r' k s=some out') (fun s=>out'=s) (x1.list.length:Int) fu hB1 ⟨hf,H⟩ (fun s h=>by cases h) ?_ ?_
 ·rintro fk i a w hR1 hI
  replace hR1:spec_l4Search_put_L1 fu x1 r' (fk + 1) i=some out':=hR1
  rw [spec_l4Search_put_L1] at hR1
  obtain ⟨hf,H⟩:=hI
  refine sq (sq ?_)
  obtain ⟨c5,hGc5,hR1⟩:=bs_ hR1
  have fh:=hf.prune [0,3,4] rfl
  have Hm:=H.lm 3 0 0 4 15
  refine midF 28 (.bool c5) fh Hm ?_ fun a w hf H=>?_
  ·refine dw [] 19 fun w hb=>?_
   have H:=H.keep hb
   refine zp 0 hf trivial fun a hf=>?_
   refine zp 1 hf trivial fun a hf=>?_
   refine zp 2 hf trivial fun a hf=>?_
   refine iteB hGc5 (fun hc hGc5=>?_) fun hc hGc5=>?_
   ·have hf:=hf.lit 12 rfl hc
    refine zg 3 hf trivial fun a hf=>?_
    refine zg 4 hf trivial fun a hf=>?_
    refine zg 5 hf trivial fun a hf=>?_
    refine strT (H.lk 2 0 0 []) (fun w H=>trivial) fun hS=>?_
    refine tSg 6 [] rfl rfl rfl rfl rfl rfl hf (by kernel_rfl) (by kernel_rfl) hS (fun w H=>rq_loadBN hf H TF.la27 0 rfl rfl rfl rfl) fun a hf=>?_
    refine strT (H.lk 3 0 0 []) (fun w H=>H.lk 2 0 0 []) fun hS=>?_
    refine tSg 7 [] rfl rfl rfl rfl rfl rfl hf (by kernel_rfl) (by kernel_rfl) hS (fun w H=>rq_loadBN hf H TF.la45 0 rfl rfl rfl rfl) fun a hf=>?_
    refine zg 8 hf hS fun a hf=>?_
    refine zg 9 hf hS fun a hf=>?_
    refine zg 10 hf hS fun a hf=>?_
    refine tSg 11 [] rfl rfl rfl rfl rfl rfl hf (by kernel_rfl) (by kernel_rfl) hS (fun w H=>rq_loadB hf H TF.ls230 1 rfl rfl rfl) fun a hf=>?_
    refine zg 12 hf hS fun a hf=>?_
    refine zg 13 hf hS fun a hf=>?_
    obtain ⟨e,he,hGc5⟩:=bs_ hGc5
    obtain ⟨p,o3,cs3,hx,hr3,H⟩:=pre_iaddr H Tryz.underlying230 TF.sz45 1 rfl he
    refine tPg 14 rfl rfl rfl rfl rfl rfl hf (by kernel_rfl) (fun _=>hS) (fun w=>rq_iaddrE hf rfl rfl rfl hx w) fun a hf=>?_
    obtain ⟨A5,c6,rfl,hl5⟩:=Route_cells hr3
    have H:=H.pF hl5
    refine strT (H.lk 3 0 0 [1]) (fun w H=>H.lk 3 0 0 []) fun hS=>?_
    refine tSg 15 [] rfl rfl rfl rfl rfl rfl hf (by kernel_rfl) (by kernel_rfl) hS (fun w H=>rq_loadIN hf H TF.la45 0 0 rfl rfl rfl rfl) fun a hf=>?_
    obtain ⟨y,hy,hGc5⟩:=bs_ hGc5
    refine n1g 16 (by kernel_rfl) rfl rfl rfl rfl hf (oC hf TF.cl366 (spec_l4Compare_ok (S:=TT) (Network_mkv (x:=x1.n) (H.rt 5 rfl) (H.rt 4 rfl)) (Route_mkv (x:=r') (H.rt 2 rfl)) (Route_mkv (x:=e) (H.rt 0 rfl)) hy) fun v w a hp3 hf=>?_)
    obtain ⟨hb,hp3⟩:=hp3
    obtain rfl:=VR_int hp3
    have H:=H.keep hb
    have hS:=H.lk 3 0 0 [1]
    refine aS hS ?_
    refine zg 17 hf hS fun a hf=>?_
    refine zp 18 hf hS fun a hf=>?_
    refine dk ?_
    obtain rfl:=oi hGc5
    have hf:=hf.pn [28,0,3,4]
    have H:=H.lm 3 0 0 6 60
    exact ⟨hf,H⟩
   have hf:=hf.lit 12 rfl hc
   refine zU 3 hf trivial fun a hf=>?_
   refine zU 4 hf trivial fun a hf=>?_
   refine zU 5 hf trivial fun a hf=>?_
   refine zU 6 hf trivial fun a hf=>?_
   refine zU 7 hf trivial fun a hf=>?_
   refine zU 8 hf trivial fun a hf=>?_
   refine zU 9 hf trivial fun a hf=>?_
   refine zU 10 hf trivial fun a hf=>?_
   refine zU 11 hf trivial fun a hf=>?_
   refine zU 12 hf trivial fun a hf=>?_
   refine zU 13 hf trivial fun a hf=>?_
   refine zU 14 hf trivial fun a hf=>?_
   refine zU 15 hf trivial fun a hf=>?_
   refine zU 16 hf trivial fun a hf=>?_
   refine zU 17 hf trivial fun a hf=>?_
   refine zp 18 hf trivial fun a hf=>?_
   refine dk ?_
   obtain rfl:=oi hGc5
   have hf:=hf.pn [28,0,3,4]
   have H:=H.lm 3 0 0 4 15
   exact ⟨hf,H⟩
  refine then_n (ib hR1 hf (fun hc2 hR1=>?_) fun hc2 hR1=>?_)
  ·refine wp_skip (then_n (wp_block (reg (pz 3 hf fun a hf=>?_))))
   refine wl_end (blk_n ?_)
   have hf:=hf.pn [0,3,4]
   have H:=H.lm 3 0 0 4 15
   exact then_n ⟨w64 (i - 1),hR1,hf,H⟩
  refine wp_exit (then_x (then_x (blk_e (?_))))
  have hf:=hf.pn [0,3,4]
  have H:=H.lm 3 0 0 4 15
  exact ⟨i,(Option.some.inj hR1).symm,hf,H⟩
 rintro a w ⟨out',rfl,hf,H⟩
 refine then_n (dw [21] 22 fun w hb=>?_)
 have H:=H.keep hb
 refine zp 0 hf trivial fun a hf=>?_
 refine zp 2 hf trivial fun a hf=>?_
 refine zp 3 hf trivial fun a hf=>?_
 refine zp 4 hf trivial fun a hf=>?_
 refine strT (H.lk 2 0 0 []) (fun w H=>trivial) fun hS=>?_
 refine zS 5 [5,7,8,11,18,19,20,21] rfl rfl rfl rfl hf hS (fun w H=>rq_loadB hf H TF.ls230 0 rfl rfl rfl) fun a hf=>?_
 refine zp 6 hf hS fun a hf=>?_
 obtain ⟨l,hl_,hF⟩:=bs_ hF
 obtain ⟨A6,c7,hx2,H⟩:=pre_slice H Tryz.underlying230 TF.sz45 1 (lov:=none) (hiv:=some (.int .i64 out')) (.inl ⟨rfl,rfl⟩) (.inr rfl) rfl hl_
 refine zP 7 rfl rfl rfl rfl hf hS (fun w=>rq_sliceE hf rfl rfl rfl hx2 w) fun a hf=>?_
 refine strT (H.lk 3 0 0 []) (fun w H=>H.lk 2 0 0 []) fun hS=>?_
 refine zS 9 [9,10,11,18,19,20,21] rfl rfl rfl rfl hf hS (fun w H=>rq_loadBN hf H TF.la45 0 rfl rfl rfl rfl) fun a hf=>?_
 refine zp 12 hf hS fun a hf=>?_
 refine zp 13 hf hS fun a hf=>?_
 refine zp 14 hf hS fun a hf=>?_
 refine zS 15 [15,17,18,19,20,21] rfl rfl rfl rfl hf hS (fun w H=>rq_loadB hf H TF.ls230 1 rfl rfl rfl) fun a hf=>?_
 refine zp 16 hf hS fun a hf=>?_
 obtain ⟨l2,hl2_,hF⟩:=bs_ hF
 obtain ⟨A7,c8,hx3,H⟩:=pre_slice H Tryz.underlying230 TF.sz45 2 (lov:=some (.int .i64 out')) (hiv:=none) (.inr rfl) (.inl ⟨rfl,rfl⟩) rfl hl2_
 refine zP 17 rfl rfl rfl rfl hf hS (fun w=>rq_sliceE hf rfl rfl rfl hx3 w) fun a hf=>?_
 refine on2 (i:=1) (j:=10) (bi:=[true,true,true,true,true,true,true,true,false,true,false,false,true,true,true,true,true,true,false,false,false,false]) (bj:=[true,false,true,true,true,true,true,true,false,true,true,false,true,true,true,true,true,true,false,false,false,false]) (by kernel_rfl) rfl rfl rfl rfl rfl rfl ?_ ?_
 ·refine (bl hf H 45 ([]:List Route) [] el0 fun A8 a w hf H=>?_)
  have hS:=H.lk 3 0 0 []
  refine aS hS ?_
  refine on2 (i:=8) (j:=10) (bi:=[true,true,true,true,true,true,true,true,true,true,false,false,true,true,true,true,true,true,false,false,false,false]) (bj:=[true,true,true,true,true,true,true,true,false,true,true,false,true,true,true,true,true,true,false,false,false,false]) (by kernel_rfl) rfl rfl rfl rfl rfl rfl ?_ ?_
  ·obtain ⟨l3,hl3_,hF⟩:=bs_ hF
   have H:=H.rowWeak 0 rfl
   refine (op_appI hf H Tryz.underlying230 TF.ai45 rfl (by decide) 0 1 rfl rfl rfl rfl (.inl rfl) hl3_ (by decide) fun E A9 c9 a w hf H=>?_)
   have hS:=H.lk 3 0 0 []
   refine aS hS ?_
   refine nn 10 rfl (op_bslice hf H (.sh false) rfl 45 ([r']:List Route) [(.int .i64 r'.Start),(.slice A4 r'.Fibers.length c4)] rfl (fun w=>by kernel_rfl) rfl (by decide) rfl trivial (el1 (y:=r') ((Route_mk (x:=r') (H.get 2 rfl)))) (by decide) fun A10 a w hf H=>?_)
   have hS:=H.lk 3 0 0 []
   refine aS hS ?_
   obtain ⟨l4,hl4_,hF⟩:=bs_ hF
   refine nn 11 rfl (op_appR hf H Tryz.underlying230 TF.ai45 rfl (by decide) 1 0 rfl rfl rfl rfl (.inl rfl) hl4_ (by decide) fun E2 A11 c10 a w hf H=>?_)
   have hS:=H.lk 3 0 0 []
   refine aS hS ?_
   obtain ⟨l5,hl5_,hF⟩:=bs_ hF
   refine nn 18 rfl (op_appI hf H Tryz.underlying230 TF.ai45 rfl (by decide) 1 0 rfl rfl rfl rfl (.inl rfl) hl5_ (by decide) fun E3 A12 c11 a w hf H=>?_)
   have hS:=H.lk 3 0 0 []
   refine aS hS ?_
   refine zp 19 hf hS fun a hf=>?_
   refine zp 20 hf hS fun a hf=>?_
   refine nn 21 rfl (op_storeB hf H 1 TF.sz230 rfl rfl rfl rfl rfl rfl (nle rfl) fun w H=>?_)
   refine ⟨fun h=>absurd h (by decide),?_⟩
   refine dk ?_
   have hf:=hf.pn []
   have H:=H.freeze 1 rfl
   obtain rfl:=oi hF
   refine ret_0 hf rfl ?_
   exact ⟨_,rfl,H.chg,_,H.boxAt 1 rfl,(L4SearchP_mk (x:=({ n:=x1.n,to:=x1.to,list:=l5 }:L4SearchP)) (eB 1 (H.get 6 rfl)) (eB 1 (H.get 5 rfl)) (eB 1 (H.get 0 rfl))),rfl⟩
  refine (op_bslice hf H (.sh false) rfl 45 ([r']:List Route) [(.int .i64 r'.Start),(.slice A4 r'.Fibers.length c4)] rfl (fun w=>by kernel_rfl) rfl (by decide) rfl trivial (el1 (y:=r') ((Route_mk (x:=r') (H.get 2 rfl)))) (by decide) fun A9 a w hf H=>?_)
  have hS:=H.lk 3 0 0 []
  refine aS hS ?_
  obtain ⟨l3,hl3_,hF⟩:=bs_ hF
  have H:=H.rowWeak 1 rfl
  refine nn 8 rfl (op_appI hf H Tryz.underlying230 TF.ai45 rfl (by decide) 1 1 rfl rfl rfl rfl (.inl rfl) hl3_ (by decide) fun E A10 c9 a w hf H=>?_)
  have hS:=H.lk 3 0 0 []
  refine aS hS ?_
  obtain ⟨l4,hl4_,hF⟩:=bs_ hF
  refine nn 11 rfl (op_appR hf H Tryz.underlying230 TF.ai45 rfl (by decide) 1 0 rfl rfl rfl rfl (.inl rfl) hl4_ (by decide) fun E2 A11 c10 a w hf H=>?_)
  have hS:=H.lk 3 0 0 []
  refine aS hS ?_
  obtain ⟨l5,hl5_,hF⟩:=bs_ hF
  refine nn 18 rfl (op_appI hf H Tryz.underlying230 TF.ai45 rfl (by decide) 1 0 rfl rfl rfl rfl (.inl rfl) hl5_ (by decide) fun E3 A12 c11 a w hf H=>?_)
  have hS:=H.lk 3 0 0 []
  refine aS hS ?_
  refine zp 19 hf hS fun a hf=>?_
  refine zp 20 hf hS fun a hf=>?_
  refine nn 21 rfl (op_storeB hf H 1 TF.sz230 rfl rfl rfl rfl rfl rfl (nle rfl) fun w H=>?_)
  refine ⟨fun h=>absurd h (by decide),?_⟩
  refine dk ?_
  have hf:=hf.pn []
  have H:=H.freeze 1 rfl
  obtain rfl:=oi hF
  refine ret_0 hf rfl ?_
  exact ⟨_,rfl,H.chg,_,H.boxAt 1 rfl,(L4SearchP_mk (x:=({ n:=x1.n,to:=x1.to,list:=l5 }:L4SearchP)) (eB 1 (H.get 6 rfl)) (eB 1 (H.get 5 rfl)) (eB 1 (H.get 0 rfl))),rfl⟩
 refine (op_bslice hf H (.sh false) rfl 45 ([r']:List Route) [(.int .i64 r'.Start),(.slice A4 r'.Fibers.length c4)] rfl (fun w=>by kernel_rfl) rfl (by decide) rfl trivial (el1 (y:=r') ((Route_mk (x:=r') (H.get 2 rfl)))) (by decide) fun A8 a w hf H=>?_)
 have hS:=H.lk 3 0 0 []
 refine aS hS ?_
 refine nn 1 rfl (bl hf H 45 ([]:List Route) [] el0 fun A9 a w hf H=>?_)
 have hS:=H.lk 3 0 0 []
 refine aS hS ?_
 obtain ⟨l3,hl3_,hF⟩:=bs_ hF
 have H:=H.rowWeak 0 rfl
 refine nn 8 rfl (op_appI hf H Tryz.underlying230 TF.ai45 rfl (by decide) 0 1 rfl rfl rfl rfl (.inl rfl) hl3_ (by decide) fun E A10 c9 a w hf H=>?_)
 have hS:=H.lk 3 0 0 []
 refine aS hS ?_
 obtain ⟨l4,hl4_,hF⟩:=bs_ hF
 refine nn 11 rfl (op_appR hf H Tryz.underlying230 TF.ai45 rfl (by decide) 0 1 rfl rfl rfl rfl (.inl rfl) hl4_ (by decide) fun E2 A11 c10 a w hf H=>?_)
 have hS:=H.lk 3 0 0 []
 refine aS hS ?_
 obtain ⟨l5,hl5_,hF⟩:=bs_ hF
 refine nn 18 rfl (op_appI hf H Tryz.underlying230 TF.ai45 rfl (by decide) 0 0 rfl rfl rfl rfl (.inl rfl) hl5_ (by decide) fun E3 A12 c11 a w hf H=>?_)
 have hS:=H.lk 3 0 0 []
 refine aS hS ?_
 refine zp 19 hf hS fun a hf=>?_
 refine zp 20 hf hS fun a hf=>?_
 refine nn 21 rfl (op_storeB hf H 1 TF.sz230 rfl rfl rfl rfl rfl rfl (nle rfl) fun w H=>?_)
 refine ⟨fun h=>absurd h (by decide),?_⟩
 refine dk ?_
 have hf:=hf.pn []
 have H:=H.freeze 0 rfl
 obtain rfl:=oi hF
 refine ret_0 hf rfl ?_
 exact ⟨_,rfl,H.chg,_,H.boxAt 1 rfl,(L4SearchP_mk (x:=({ n:=x1.n,to:=x1.to,list:=l5 }:L4SearchP)) (eB 1 (H.get 6 rfl)) (eB 1 (H.get 5 rfl)) (eB 1 (H.get 0 rfl))),rfl⟩
theorem spec_l4Search_extend_B_ok {fu:Nat} {rec_:(L4SearchP)→(Route)→(List Int)→Option (L4SearchP)} (ih:∀ {w0:World} {S:Nat→Prop} {b0:Nat} {cs0:List Value} {v1_:Value} {v2_:Value} {x1:L4SearchP} {r':Route} {seen:List Int} {r:L4SearchP} (hp0:w0.heap[b0]?=some (.cells cs0.toArray 322 (0,0))) (hr0:GoTy.rep w0 S cs0 x1) (hS0:¬S b0) (h1:VR w0 S v1_ r') (h2:VR w0 S v2_ seen) (hF:rec_ x1 r' seen=some r),Calls Tryz.prog 347 [(.pointer (some ⟨b0,0,none⟩)),v1_,v2_].toArray w0 fun e w'=>∃ v,e=.returned v∧(Chg w0 w' [b0]∧∃ cs',w'.heap[b0]?=some (.cells cs'.toArray 322 (0,0))∧GoTy.rep w' (St ⟨w0,[b0]⟩ S [⟨b0,322,cs'⟩] [] [] false) cs' r∧v=.tuple #[])) {w0:World} {S:Nat→Prop} {b0:Nat} {cs0:List Value} {v1_:Value} {v2_:Value} {x1:L4SearchP} {r':Route} {seen:List Int} {r:L4SearchP} (hp0:w0.heap[b0]?=some (.cells cs0.toArray 322 (0,0))) (hr0:GoTy.rep w0 S cs0 x1) (hS0:¬S b0) (h1:VR w0 S v1_ r') (h2:VR w0 S v2_ seen) (hF:spec_l4Search_extend_B fu rec_ x1 r' seen=some r) :
    Calls Tryz.prog 347 [(.pointer (some ⟨b0,0,none⟩)),v1_,v2_].toArray w0 fun e w'=>∃ v,e=.returned v∧(Chg w0 w' [b0]∧∃ cs',w'.heap[b0]?=some (.cells cs'.toArray 322 (0,0))∧GoTy.rep w' (St ⟨w0,[b0]⟩ S [⟨b0,322,cs'⟩] [] [] false) cs' r∧v=.tuple #[]):=by
 obtain ⟨A,c,A2,c2,A3,c3,rfl,hl,hl2,hl3⟩:=L4SearchP_cells hr0
 obtain ⟨A4,c4,rfl,hl4⟩:=Route_open h1
 obtain ⟨A5,c5,rfl,hl5⟩:=VR_list h2
 have H:=Mem.startB S hp0
 have H:=H.pB hS0 hl
 have H:=H.pB hS0 hl2
 have H:=H.pB hS0 hl3
 have H:=H.pB hS0 hl4
 have H:=H.pB hS0 hl5
 refine en Tryz.func347 fun a hf=>?_
 rw [spec_l4Search_extend_B] at hF
 refine bx hf H fun b4 a w hf H=>?_
 refine wr (pz 4 hf fun a hf=>?_)
 obtain ⟨e,he,hF⟩:=bs_ hF
 refine wl0 rfl (op_iaddr hf H Tryz.underlying35 TF.sz3 0 rfl rfl rfl he (by decide) fun p o4 cs4 a hf hr4 H=>?_)
 obtain rfl:=hr4
 refine oq hf (rq_loadI hf H TF.ls3 0 0 rfl rfl rfl) fun a hf=>?_
 refine pz 1 hf fun a hf=>?_
 refine we (sqz (pz 4 hf fun a hf=>?_))
 refine lB 1 hf H TF.ls3 fun a hf=>?_
 refine pz 1 hf fun a hf=>?_
 refine wl_end (then_n (ib hF hf (fun hc hF=>?_) fun hc hF=>?_))
 ·refine sqz (pz 1 hf fun a hf=>?_)
  refine lN 0 hf H TF.la45 fun a hf=>?_
  obtain ⟨y,hy,hF⟩:=bs_ hF
  refine oc hf TF.cl361 (spec_l4Search_put_ok (S:=St ⟨w0,[b0]⟩ S [⟨b4,45,[(.int .i64 r'.Start),(.slice A4 r'.Fibers.length c4)]⟩,⟨b0,322,[(.slice A x1.n.Nodes.length c),(.slice A2 x1.n.Fibers.length c2),(.int .i64 x1.to),(.slice A3 x1.list.length c3)]⟩] [] [] false) (H.boxAt 1 rfl) ((L4SearchP_mk (x:=x1) (H.get 5 rfl) (H.get 4 rfl) (H.get 3 rfl))) (H.notSt 1 rfl _) (Route_mkv (x:=r') (H.get 2 rfl)) hy) fun v w a hp4 hf=>?_
  obtain ⟨hch,cs5,hbx,hr5,hs⟩:=hp4
  obtain rfl:=hs
  replace hr5:=GoTy.mono hr5 (H.movesB 1 rfl false)
  obtain ⟨A6,c6,A7,c7,A8,c8,rfl,hl6,hl7,hl8⟩:=L4SearchP_cells hr5
  have H:=H.wroteBox 1 rfl hch hbx
  have H:=H.pF hl6
  have H:=H.pF hl7
  have H:=H.pF hl8
  have hf:=hf.pn []
  refine wl_end (then_n (wp_ret (then_r (?_))))
  obtain rfl:=oi hF
  refine ret_0r (fn:=Tryz.f347) hf rfl ?_
  exact ⟨_,rfl,H.chg,_,H.boxAt 1 rfl,(L4SearchP_mk (x:=y) (eB 1 (H.get 2 rfl)) (eB 1 (H.get 1 rfl)) (eB 1 (H.get 0 rfl))),rfl⟩
 refine wp_skip (then_n (sqz (pz 1 hf fun a hf=>?_)))
 have hf:=hf.pn [0,2,4,6,7]
 refine wl_end (then_n ?_)
 obtain ⟨out',hB1,hF⟩:=bs_ hF
 have hf:=hf.pn [0,2,4,6,7]
 have H:=H.lk 3 0 0 [3,4,5,1,2]
 refine loopC (fun (s:Int×List ByteArray×List Fiber×Int×List Route) (a:Act) (w:World)=>match s with | (i,m,m2,m3,m4)=>∃ (A9:Option Addr) (c9:Nat) (A10:Option Addr) (c10:Nat) (A11:Option Addr) (c11:Nat),Fr a 73 [(0,(.pointer (some ⟨b0,0,none⟩))),(2,(.slice A5 seen.length c5)),(4,(.pointer (some ⟨b4,0,none⟩))),(6,(.int .i64 e)),(7,(.int .i64 i))]∧Mem ⟨w0,[b0]⟩ S [⟨b4,45,[(.int .i64 r'.Start),(.slice A4 r'.Fibers.length c4)]⟩,⟨b0,322,[(.slice A9 m.length c9),(.slice A10 m2.length c10),(.int .i64 m3),(.slice A11 m4.length c11)]⟩] [] [] [(false,MP.val [(.slice A11 m4.length c11)] (m4:List Route)),(false,MP.val [(.slice A10 m2.length c10)] (m2:List Fiber)),(false,MP.val [(.slice A9 m.length c9)] (m:List ByteArray)),(false,MP.val [(.slice A5 seen.length c5)] (seen:List Int)),(false,MP.val [(.slice A4 r'.Fibers.length c4)] (r'.Fibers:List Int))] w) (fun k (s:Int×List ByteArray×List Fiber×Int×List Route)=>spec_l4Search_extend_L1 fu r' seen rec_ e k s.1 s.2.1 s.2.2.1 s.2.2.2.1 s.2.2.2.2=some out') (fun s=>out'=s) (0,x1.n.Nodes,x1.n.Fibers,x1.to,x1.list) fu hB1 ⟨A,c,A2,c2,A3,c3,hf,H⟩ (fun s h=>by cases h) ?_ ?_
 ·rintro fk ⟨i,m,m2,m3,m4⟩ a w hR1 hI
  replace hR1:spec_l4Search_extend_L1 fu r' seen rec_ e (fk + 1) i m m2 m3 m4=some out':=hR1
  rw [spec_l4Search_extend_L1] at hR1
  obtain ⟨A9,c9,A10,c10,A11,c11,hf,H⟩:=hI
  refine sq (sq ?_)
  obtain ⟨c12,hGc12,hR1⟩:=bs_ hR1
  have fh:=hf.prune [0,2,4,6,7] rfl
  have Hm:=H.lm 3 0 0 5 31
  refine midF 39 (.bool c12) fh Hm ?_ fun a w hf H=>?_
  ·refine reg (pz 5 hf fun a hf=>?_)
   refine lB 1 hf H TF.ls25 fun a hf=>?_
   refine pz 3 hf fun a hf=>?_
   refine iteB hGc12 (fun hc2 hGc12=>?_) fun hc2 hGc12=>?_
   ·have hf:=hf.lit 32 rfl hc2
    refine pz 3 hf fun a hf=>?_
    refine wlg hf rfl rfl rfl (op_q hf (rq_loadB hf H TF.ls230 1 rfl rfl rfl) rfl (by decide) fun a hf=>?_)
    refine pz 3 hf fun a hf=>?_
    obtain rfl:=oi hGc12
    have hf:=hf.pn [39,0,2,4,6,7]
    have H:=H.lm 3 0 0 5 31
    exact wl_end ⟨hf,H⟩
   have hf:=hf.lit 32 rfl hc2
   refine pz 7 hf fun a hf=>?_
   obtain rfl:=oi hGc12
   have hf:=hf.pn [39,0,2,4,6,7]
   have H:=H.lm 3 0 0 5 31
   exact wl_end ⟨hf,H⟩
  refine then_n (ib hR1 hf (fun hc3 hR1=>?_) fun hc3 hR1=>?_)
  ·refine ws (pz 3 hf fun a hf=>?_)
   refine lN 1 hf H TF.la27 fun a hf=>?_
   refine pz 2 hf fun a hf=>?_
   obtain ⟨y2,hy2,hR1⟩:=bs_ hR1
   refine oc hf TF.cl290 (spec_l2Other_ok (S:=TT) (Network_mkv (x:=({ Nodes:=m,Fibers:=m2 }:Network)) (H.rt 2 rfl) (H.rt 1 rfl)) mk_int mk_int hy2) fun v2 w a hp5 hf=>?_
   obtain ⟨hb,hp5⟩:=hp5
   obtain rfl:=VR_int hp5
   have H:=H.keep hb
   refine pz 1 hf fun a hf=>?_
   refine wl_end (then_n (sq ?_))
   obtain ⟨c13,hGc13,hR1⟩:=bs_ hR1
   have fh2:=hf.prune [0,2,4,6,7,8] rfl
   have Hm2:=H.lm 3 0 0 5 31
   refine midF 56 (.bool c13) fh2 Hm2 ?_ fun a w hf H=>?_
   ·refine reg (pz 3 hf fun a hf=>?_)
    refine iteB hGc13 (fun hc4 hGc13=>?_) fun hc4 hGc13=>?_
    ·have hf:=hf.lit 51 rfl hc4
     refine pz 2 hf fun a hf=>?_
     obtain ⟨y3,hy3,hGc13⟩:=bs_ hGc13
     refine wlg hf rfl rfl rfl (oC hf TF.cl178 (spec_l1Has_ok (S:=TT) (mk_list (H.rt 3 rfl)) mk_int hy3) fun v3 w a hp6 hf=>?_)
     obtain ⟨hb2,hp6⟩:=hp6
     obtain rfl:=VR_bool hp6
     have H:=H.keep hb2
     refine pz 2 hf fun a hf=>?_
     obtain rfl:=oi hGc13
     have hf:=hf.pn [56,0,2,4,6,7,8]
     have H:=H.lm 3 0 0 5 31
     exact wl_end ⟨hf,H⟩
    have hf:=hf.lit 51 rfl hc4
    refine pz 5 hf fun a hf=>?_
    obtain rfl:=oi hGc13
    have hf:=hf.pn [56,0,2,4,6,7,8]
    have H:=H.lm 3 0 0 5 31
    exact wl_end ⟨hf,H⟩
   refine then_n (ib hR1 hf (fun hc5 hR1=>?_) fun hc5 hR1=>?_)
   ·obtain ⟨y4,hy4,hR1⟩:=bs_ hR1
    obtain ⟨l,hl_,hR1⟩:=bs_ hR1
    obtain ⟨y5,hy5,hR1⟩:=bs_ hR1
    obtain ⟨l2,hl2_,hR1⟩:=bs_ hR1
    obtain ⟨y6,hy6,hR1⟩:=bs_ hR1
    refine mid (fun a w=>∃ (A18:Option Addr) (c18:Nat) (A19:Option Addr) (c19:Nat) (A20:Option Addr) (c20:Nat),Fr a 73 [(0,(.pointer (some ⟨b0,0,none⟩))),(2,(.slice A5 seen.length c5)),(4,(.pointer (some ⟨b4,0,none⟩))),(6,(.int .i64 e)),(7,(.int .i64 i))]∧Mem ⟨w0,[b0]⟩ S [⟨b4,45,[(.int .i64 r'.Start),(.slice A4 r'.Fibers.length c4)]⟩,⟨b0,322,[(.slice A18 y6.n.Nodes.length c18),(.slice A19 y6.n.Fibers.length c19),(.int .i64 y6.to),(.slice A20 y6.list.length c20)]⟩] [] [] [(false,MP.val [(.slice A20 y6.list.length c20)] (y6.list:List Route)),(false,MP.val [(.slice A19 y6.n.Fibers.length c19)] (y6.n.Fibers:List Fiber)),(false,MP.val [(.slice A18 y6.n.Nodes.length c18)] (y6.n.Nodes:List ByteArray)),(false,MP.val [(.slice A5 seen.length c5)] (seen:List Int)),(false,MP.val [(.slice A4 r'.Fibers.length c4)] (r'.Fibers:List Int))] w) ?_ ?_
    ·refine dw [] 16 fun w hb=>?_
     have H:=H.keep hb
     refine zp 0 hf trivial fun a hf=>?_
     refine zp 1 hf trivial fun a hf=>?_
     refine strT (H.lk 1 0 0 []) (fun w H=>trivial) fun hS=>?_
     refine zS 2 [] rfl rfl rfl rfl hf hS (fun w H=>rq_loadB hf H TF.ls3 0 rfl rfl rfl) fun a hf=>?_
     refine zp 3 hf hS fun a hf=>?_
     refine zS 4 [] rfl rfl rfl rfl hf hS (fun w H=>rq_loadB hf H TF.ls35 0 rfl rfl rfl) fun a hf=>?_
     refine zp 6 hf hS fun a hf=>?_
     refine zp 10 hf hS fun a hf=>?_
     refine zp 12 hf hS fun a hf=>?_
     refine on3 (i:=5) (j:=7) (k:=13) (bi:=[true,true,true,true,true,true,true,false,false,false,true,false,true,false,false,false]) (bj:=[true,true,true,true,true,false,true,true,false,false,true,false,true,false,false,false]) (bk:=[true,true,true,true,true,false,true,false,false,false,true,false,true,true,false,false]) (by kernel_rfl) rfl rfl rfl rfl rfl rfl rfl rfl rfl ?_ ?_ ?_
     ·refine (oC hf TF.cl192 (spec_l1Own_ok (S:=TT) (mk_list (H.rt 4 rfl)) hy4) fun v4 w a hp7 hf=>?_)
      obtain ⟨hb3,F,hp8,hN⟩:=hp7
      obtain ⟨A12,c14,rfl,hl9⟩:=VO_list hp8
      obtain ⟨Fs,E,H⟩:=H.addRow hb3 hl9 hN
      have H:=H.rowSh 0 rfl
      have hS:=H.lk 1 0 0 []
      refine aS hS ?_
      refine on2 (i:=7) (j:=13) (bi:=[true,true,true,true,true,true,true,true,false,false,true,false,true,false,false,false]) (bj:=[true,true,true,true,true,true,true,false,false,false,true,false,true,true,false,false]) (by kernel_rfl) rfl rfl rfl rfl rfl rfl ?_ ?_
      ·refine (bl hf H 3 ([i]:List Int) [(.int .i64 i)] (el1 (y:=i) (rfl)) fun A13 a w hf H=>?_)
       have hS:=H.lk 1 0 0 []
       refine aS hS ?_
       refine on2 (i:=8) (j:=13) (bi:=[true,true,true,true,true,true,true,true,true,false,true,false,true,false,false,false]) (bj:=[true,true,true,true,true,true,true,true,false,false,true,false,true,true,false,false]) (by kernel_rfl) rfl rfl rfl rfl rfl rfl ?_ ?_
       ·refine (op_appR hf H Tryz.underlying35 TF.ai3 rfl (by decide) 1 0 rfl rfl rfl rfl (.inr rfl) hl_ (by decide) fun E2 A14 c15 a w hf H=>?_)
        have hS:=H.lk 1 0 0 []
        refine aS hS ?_
        refine zP 9 rfl rfl rfl rfl hf hS (fun w=>rq_build hf (cs:=[(.int .i64 r'.Start),(.slice A14 l.length c15)]) rfl (fun w=>by kernel_rfl)) fun a hf=>?_
        refine on2 (i:=11) (j:=13) (bi:=[true,true,true,true,true,true,true,true,true,true,true,true,true,false,false,false]) (bj:=[true,true,true,true,true,true,true,true,true,true,true,false,true,true,false,false]) (by kernel_rfl) rfl rfl rfl rfl rfl rfl ?_ ?_
        ·refine (oC hf TF.cl192 (spec_l1Own_ok (S:=TT) (mk_list (H.rt 3 rfl)) hy5) fun v5 w a hp9 hf=>?_)
         obtain ⟨hb4,F3,hp10,hN2⟩:=hp9
         obtain ⟨A15,c16,rfl,hl10⟩:=VO_list hp10
         obtain ⟨Fs2,E3,H⟩:=H.addRow hb4 hl10 hN2
         have H:=H.rowSh 0 rfl
         have hS:=H.lk 1 0 0 []
         refine aS hS ?_
         refine nn 13 rfl (bl hf H 3 ([y2]:List Int) [(.int .i64 y2)] (el1 (y:=y2) (rfl)) fun A16 a w hf H=>?_)
         have hS:=H.lk 1 0 0 []
         refine aS hS ?_
         refine nn 14 rfl (op_appR hf H Tryz.underlying35 TF.ai3 rfl (by decide) 1 0 rfl rfl rfl rfl (.inr rfl) hl2_ (by decide) fun E4 A17 c17 a w hf H=>?_)
         have hS:=H.lk 1 0 0 []
         refine aS hS ?_
         have H:=H.freeze 3 rfl
         have H:=H.freeze 1 rfl
         refine nn 15 rfl (oC hf TF.cl347 (ih (S:=St ⟨w0,[b0]⟩ S [⟨b4,45,[(.int .i64 r'.Start),(.slice A4 r'.Fibers.length c4)]⟩,⟨b0,322,[(.slice A9 m.length c9),(.slice A10 m2.length c10),(.int .i64 m3),(.slice A11 m4.length c11)]⟩] [⟨.sh true,3,A16,1,([y2]:List Int)⟩,⟨.sh true,3,A13,1,([i]:List Int)⟩] [] false) (H.boxAt 1 rfl) ((L4SearchP_mk (x:=({ n:=({ Nodes:=m,Fibers:=m2 }:Network),to:=m3,list:=m4 }:L4SearchP)) (H.get 4 rfl) (H.get 3 rfl) (H.get 2 rfl))) (H.notSt 1 rfl _) (Route_mkv (x:=({ Start:=r'.Start,Fibers:=l }:Route)) (rep_weak (α:=List Int) (H.get 1 rfl))) (mk_list (rep_weak (α:=List Int) (H.get 0 rfl))) hy6) fun v6 w a hp11 hf=>?_)
         obtain ⟨hch2,cs6,hbx2,hr6,hs2⟩:=hp11
         obtain rfl:=hs2
         replace hr6:=GoTy.mono hr6 (H.movesB 1 rfl false)
         obtain ⟨A18,c18,A19,c19,A20,c20,rfl,hl11,hl12,hl13⟩:=L4SearchP_cells hr6
         have H:=H.wroteBox 1 rfl hch2 hbx2
         have H:=H.pF hl11
         have H:=H.pF hl12
         have H:=H.pF hl13
         have hS:=H.lk 1 0 0 []
         refine aS hS ?_
         refine dk ?_
         have hf:=hf.pn [0,2,4,6,7]
         have H:=H.lm 3 0 0 10 775
         exact ⟨A18,c18,A19,c19,A20,c20,hf,H⟩
        refine (bl hf H 3 ([y2]:List Int) [(.int .i64 y2)] (el1 (y:=y2) (rfl)) fun A15 a w hf H=>?_)
        have hS:=H.lk 1 0 0 []
        refine aS hS ?_
        refine nn 11 rfl (oC hf TF.cl192 (spec_l1Own_ok (S:=TT) (mk_list (H.rt 3 rfl)) hy5) fun v5 w a hp9 hf=>?_)
        obtain ⟨hb4,F3,hp10,hN2⟩:=hp9
        obtain ⟨A16,c16,rfl,hl10⟩:=VO_list hp10
        obtain ⟨Fs2,E3,H⟩:=H.addRow hb4 hl10 hN2
        have H:=H.rowSh 0 rfl
        have hS:=H.lk 1 0 0 []
        refine aS hS ?_
        refine nn 14 rfl (op_appR hf H Tryz.underlying35 TF.ai3 rfl (by decide) 0 1 rfl rfl rfl rfl (.inr rfl) hl2_ (by decide) fun E4 A17 c17 a w hf H=>?_)
        have hS:=H.lk 1 0 0 []
        refine aS hS ?_
        have H:=H.freeze 3 rfl
        have H:=H.freeze 0 rfl
        refine nn 15 rfl (oC hf TF.cl347 (ih (S:=St ⟨w0,[b0]⟩ S [⟨b4,45,[(.int .i64 r'.Start),(.slice A4 r'.Fibers.length c4)]⟩,⟨b0,322,[(.slice A9 m.length c9),(.slice A10 m2.length c10),(.int .i64 m3),(.slice A11 m4.length c11)]⟩] [⟨.sh true,3,A15,1,([y2]:List Int)⟩,⟨.sh true,3,A13,1,([i]:List Int)⟩] [] false) (H.boxAt 1 rfl) ((L4SearchP_mk (x:=({ n:=({ Nodes:=m,Fibers:=m2 }:Network),to:=m3,list:=m4 }:L4SearchP)) (H.get 4 rfl) (H.get 3 rfl) (H.get 2 rfl))) (H.notSt 1 rfl _) (Route_mkv (x:=({ Start:=r'.Start,Fibers:=l }:Route)) (rep_weak (α:=List Int) (H.get 1 rfl))) (mk_list (rep_weak (α:=List Int) (H.get 0 rfl))) hy6) fun v6 w a hp11 hf=>?_)
        obtain ⟨hch2,cs6,hbx2,hr6,hs2⟩:=hp11
        obtain rfl:=hs2
        replace hr6:=GoTy.mono hr6 (H.movesB 1 rfl false)
        obtain ⟨A18,c18,A19,c19,A20,c20,rfl,hl11,hl12,hl13⟩:=L4SearchP_cells hr6
        have H:=H.wroteBox 1 rfl hch2 hbx2
        have H:=H.pF hl11
        have H:=H.pF hl12
        have H:=H.pF hl13
        have hS:=H.lk 1 0 0 []
        refine aS hS ?_
        refine dk ?_
        have hf:=hf.pn [0,2,4,6,7]
        have H:=H.lm 3 0 0 10 775
        exact ⟨A18,c18,A19,c19,A20,c20,hf,H⟩
       refine (bl hf H 3 ([y2]:List Int) [(.int .i64 y2)] (el1 (y:=y2) (rfl)) fun A14 a w hf H=>?_)
       have hS:=H.lk 1 0 0 []
       refine aS hS ?_
       refine nn 8 rfl (op_appR hf H Tryz.underlying35 TF.ai3 rfl (by decide) 2 1 rfl rfl rfl rfl (.inr rfl) hl_ (by decide) fun E2 A15 c15 a w hf H=>?_)
       have hS:=H.lk 1 0 0 []
       refine aS hS ?_
       refine zP 9 rfl rfl rfl rfl hf hS (fun w=>rq_build hf (cs:=[(.int .i64 r'.Start),(.slice A15 l.length c15)]) rfl (fun w=>by kernel_rfl)) fun a hf=>?_
       refine nn 11 rfl (oC hf TF.cl192 (spec_l1Own_ok (S:=TT) (mk_list (H.rt 3 rfl)) hy5) fun v5 w a hp9 hf=>?_)
       obtain ⟨hb4,F3,hp10,hN2⟩:=hp9
       obtain ⟨A16,c16,rfl,hl10⟩:=VO_list hp10
       obtain ⟨Fs2,E3,H⟩:=H.addRow hb4 hl10 hN2
       have H:=H.rowSh 0 rfl
       have hS:=H.lk 1 0 0 []
       refine aS hS ?_
       refine nn 14 rfl (op_appR hf H Tryz.underlying35 TF.ai3 rfl (by decide) 0 1 rfl rfl rfl rfl (.inr rfl) hl2_ (by decide) fun E4 A17 c17 a w hf H=>?_)
       have hS:=H.lk 1 0 0 []
       refine aS hS ?_
       have H:=H.freeze 3 rfl
       have H:=H.freeze 0 rfl
       refine nn 15 rfl (oC hf TF.cl347 (ih (S:=St ⟨w0,[b0]⟩ S [⟨b4,45,[(.int .i64 r'.Start),(.slice A4 r'.Fibers.length c4)]⟩,⟨b0,322,[(.slice A9 m.length c9),(.slice A10 m2.length c10),(.int .i64 m3),(.slice A11 m4.length c11)]⟩] [⟨.sh true,3,A14,1,([y2]:List Int)⟩,⟨.sh true,3,A13,1,([i]:List Int)⟩] [] false) (H.boxAt 1 rfl) ((L4SearchP_mk (x:=({ n:=({ Nodes:=m,Fibers:=m2 }:Network),to:=m3,list:=m4 }:L4SearchP)) (H.get 4 rfl) (H.get 3 rfl) (H.get 2 rfl))) (H.notSt 1 rfl _) (Route_mkv (x:=({ Start:=r'.Start,Fibers:=l }:Route)) (rep_weak (α:=List Int) (H.get 1 rfl))) (mk_list (rep_weak (α:=List Int) (H.get 0 rfl))) hy6) fun v6 w a hp11 hf=>?_)
       obtain ⟨hch2,cs6,hbx2,hr6,hs2⟩:=hp11
       obtain rfl:=hs2
       replace hr6:=GoTy.mono hr6 (H.movesB 1 rfl false)
       obtain ⟨A18,c18,A19,c19,A20,c20,rfl,hl11,hl12,hl13⟩:=L4SearchP_cells hr6
       have H:=H.wroteBox 1 rfl hch2 hbx2
       have H:=H.pF hl11
       have H:=H.pF hl12
       have H:=H.pF hl13
       have hS:=H.lk 1 0 0 []
       refine aS hS ?_
       refine dk ?_
       have hf:=hf.pn [0,2,4,6,7]
       have H:=H.lm 3 0 0 10 775
       exact ⟨A18,c18,A19,c19,A20,c20,hf,H⟩
      refine (bl hf H 3 ([y2]:List Int) [(.int .i64 y2)] (el1 (y:=y2) (rfl)) fun A13 a w hf H=>?_)
      have hS:=H.lk 1 0 0 []
      refine aS hS ?_
      refine nn 7 rfl (bl hf H 3 ([i]:List Int) [(.int .i64 i)] (el1 (y:=i) (rfl)) fun A14 a w hf H=>?_)
      have hS:=H.lk 1 0 0 []
      refine aS hS ?_
      refine nn 8 rfl (op_appR hf H Tryz.underlying35 TF.ai3 rfl (by decide) 2 0 rfl rfl rfl rfl (.inr rfl) hl_ (by decide) fun E2 A15 c15 a w hf H=>?_)
      have hS:=H.lk 1 0 0 []
      refine aS hS ?_
      refine zP 9 rfl rfl rfl rfl hf hS (fun w=>rq_build hf (cs:=[(.int .i64 r'.Start),(.slice A15 l.length c15)]) rfl (fun w=>by kernel_rfl)) fun a hf=>?_
      refine nn 11 rfl (oC hf TF.cl192 (spec_l1Own_ok (S:=TT) (mk_list (H.rt 3 rfl)) hy5) fun v5 w a hp9 hf=>?_)
      obtain ⟨hb4,F3,hp10,hN2⟩:=hp9
      obtain ⟨A16,c16,rfl,hl10⟩:=VO_list hp10
      obtain ⟨Fs2,E3,H⟩:=H.addRow hb4 hl10 hN2
      have H:=H.rowSh 0 rfl
      have hS:=H.lk 1 0 0 []
      refine aS hS ?_
      refine nn 14 rfl (op_appR hf H Tryz.underlying35 TF.ai3 rfl (by decide) 0 2 rfl rfl rfl rfl (.inr rfl) hl2_ (by decide) fun E4 A17 c17 a w hf H=>?_)
      have hS:=H.lk 1 0 0 []
      refine aS hS ?_
      have H:=H.freeze 3 rfl
      have H:=H.freeze 0 rfl
      refine nn 15 rfl (oC hf TF.cl347 (ih (S:=St ⟨w0,[b0]⟩ S [⟨b4,45,[(.int .i64 r'.Start),(.slice A4 r'.Fibers.length c4)]⟩,⟨b0,322,[(.slice A9 m.length c9),(.slice A10 m2.length c10),(.int .i64 m3),(.slice A11 m4.length c11)]⟩] [⟨.sh true,3,A14,1,([i]:List Int)⟩,⟨.sh true,3,A13,1,([y2]:List Int)⟩] [] false) (H.boxAt 1 rfl) ((L4SearchP_mk (x:=({ n:=({ Nodes:=m,Fibers:=m2 }:Network),to:=m3,list:=m4 }:L4SearchP)) (H.get 4 rfl) (H.get 3 rfl) (H.get 2 rfl))) (H.notSt 1 rfl _) (Route_mkv (x:=({ Start:=r'.Start,Fibers:=l }:Route)) (rep_weak (α:=List Int) (H.get 1 rfl))) (mk_list (rep_weak (α:=List Int) (H.get 0 rfl))) hy6) fun v6 w a hp11 hf=>?_)
      obtain ⟨hch2,cs6,hbx2,hr6,hs2⟩:=hp11
      obtain rfl:=hs2
      replace hr6:=GoTy.mono hr6 (H.movesB 1 rfl false)
      obtain ⟨A18,c18,A19,c19,A20,c20,rfl,hl11,hl12,hl13⟩:=L4SearchP_cells hr6
      have H:=H.wroteBox 1 rfl hch2 hbx2
      have H:=H.pF hl11
      have H:=H.pF hl12
      have H:=H.pF hl13
      have hS:=H.lk 1 0 0 []
      refine aS hS ?_
      refine dk ?_
      have hf:=hf.pn [0,2,4,6,7]
      have H:=H.lm 3 0 0 10 775
      exact ⟨A18,c18,A19,c19,A20,c20,hf,H⟩
     ·refine (bl hf H 3 ([i]:List Int) [(.int .i64 i)] (el1 (y:=i) (rfl)) fun A12 a w hf H=>?_)
      have hS:=H.lk 1 0 0 []
      refine aS hS ?_
      refine on2 (i:=5) (j:=13) (bi:=[true,true,true,true,true,true,true,true,false,false,true,false,true,false,false,false]) (bj:=[true,true,true,true,true,false,true,true,false,false,true,false,true,true,false,false]) (by kernel_rfl) rfl rfl rfl rfl rfl rfl ?_ ?_
      ·refine (oC hf TF.cl192 (spec_l1Own_ok (S:=TT) (mk_list (H.rt 4 rfl)) hy4) fun v4 w a hp7 hf=>?_)
       obtain ⟨hb3,F,hp8,hN⟩:=hp7
       obtain ⟨A13,c14,rfl,hl9⟩:=VO_list hp8
       obtain ⟨Fs,E,H⟩:=H.addRow hb3 hl9 hN
       have H:=H.rowSh 0 rfl
       have hS:=H.lk 1 0 0 []
       refine aS hS ?_
       refine on2 (i:=8) (j:=13) (bi:=[true,true,true,true,true,true,true,true,true,false,true,false,true,false,false,false]) (bj:=[true,true,true,true,true,true,true,true,false,false,true,false,true,true,false,false]) (by kernel_rfl) rfl rfl rfl rfl rfl rfl ?_ ?_
       ·refine (op_appR hf H Tryz.underlying35 TF.ai3 rfl (by decide) 0 1 rfl rfl rfl rfl (.inr rfl) hl_ (by decide) fun E2 A14 c15 a w hf H=>?_)
        have hS:=H.lk 1 0 0 []
        refine aS hS ?_
        refine zP 9 rfl rfl rfl rfl hf hS (fun w=>rq_build hf (cs:=[(.int .i64 r'.Start),(.slice A14 l.length c15)]) rfl (fun w=>by kernel_rfl)) fun a hf=>?_
        refine on2 (i:=11) (j:=13) (bi:=[true,true,true,true,true,true,true,true,true,true,true,true,true,false,false,false]) (bj:=[true,true,true,true,true,true,true,true,true,true,true,false,true,true,false,false]) (by kernel_rfl) rfl rfl rfl rfl rfl rfl ?_ ?_
        ·refine (oC hf TF.cl192 (spec_l1Own_ok (S:=TT) (mk_list (H.rt 3 rfl)) hy5) fun v5 w a hp9 hf=>?_)
         obtain ⟨hb4,F3,hp10,hN2⟩:=hp9
         obtain ⟨A15,c16,rfl,hl10⟩:=VO_list hp10
         obtain ⟨Fs2,E3,H⟩:=H.addRow hb4 hl10 hN2
         have H:=H.rowSh 0 rfl
         have hS:=H.lk 1 0 0 []
         refine aS hS ?_
         refine nn 13 rfl (bl hf H 3 ([y2]:List Int) [(.int .i64 y2)] (el1 (y:=y2) (rfl)) fun A16 a w hf H=>?_)
         have hS:=H.lk 1 0 0 []
         refine aS hS ?_
         refine nn 14 rfl (op_appR hf H Tryz.underlying35 TF.ai3 rfl (by decide) 1 0 rfl rfl rfl rfl (.inr rfl) hl2_ (by decide) fun E4 A17 c17 a w hf H=>?_)
         have hS:=H.lk 1 0 0 []
         refine aS hS ?_
         have H:=H.freeze 2 rfl
         have H:=H.freeze 1 rfl
         refine nn 15 rfl (oC hf TF.cl347 (ih (S:=St ⟨w0,[b0]⟩ S [⟨b4,45,[(.int .i64 r'.Start),(.slice A4 r'.Fibers.length c4)]⟩,⟨b0,322,[(.slice A9 m.length c9),(.slice A10 m2.length c10),(.int .i64 m3),(.slice A11 m4.length c11)]⟩] [⟨.sh true,3,A16,1,([y2]:List Int)⟩,⟨.sh true,3,A12,1,([i]:List Int)⟩] [] false) (H.boxAt 1 rfl) ((L4SearchP_mk (x:=({ n:=({ Nodes:=m,Fibers:=m2 }:Network),to:=m3,list:=m4 }:L4SearchP)) (H.get 4 rfl) (H.get 3 rfl) (H.get 2 rfl))) (H.notSt 1 rfl _) (Route_mkv (x:=({ Start:=r'.Start,Fibers:=l }:Route)) (rep_weak (α:=List Int) (H.get 1 rfl))) (mk_list (rep_weak (α:=List Int) (H.get 0 rfl))) hy6) fun v6 w a hp11 hf=>?_)
         obtain ⟨hch2,cs6,hbx2,hr6,hs2⟩:=hp11
         obtain rfl:=hs2
         replace hr6:=GoTy.mono hr6 (H.movesB 1 rfl false)
         obtain ⟨A18,c18,A19,c19,A20,c20,rfl,hl11,hl12,hl13⟩:=L4SearchP_cells hr6
         have H:=H.wroteBox 1 rfl hch2 hbx2
         have H:=H.pF hl11
         have H:=H.pF hl12
         have H:=H.pF hl13
         have hS:=H.lk 1 0 0 []
         refine aS hS ?_
         refine dk ?_
         have hf:=hf.pn [0,2,4,6,7]
         have H:=H.lm 3 0 0 10 775
         exact ⟨A18,c18,A19,c19,A20,c20,hf,H⟩
        refine (bl hf H 3 ([y2]:List Int) [(.int .i64 y2)] (el1 (y:=y2) (rfl)) fun A15 a w hf H=>?_)
        have hS:=H.lk 1 0 0 []
        refine aS hS ?_
        refine nn 11 rfl (oC hf TF.cl192 (spec_l1Own_ok (S:=TT) (mk_list (H.rt 3 rfl)) hy5) fun v5 w a hp9 hf=>?_)
        obtain ⟨hb4,F3,hp10,hN2⟩:=hp9
        obtain ⟨A16,c16,rfl,hl10⟩:=VO_list hp10
        obtain ⟨Fs2,E3,H⟩:=H.addRow hb4 hl10 hN2
        have H:=H.rowSh 0 rfl
        have hS:=H.lk 1 0 0 []
        refine aS hS ?_
        refine nn 14 rfl (op_appR hf H Tryz.underlying35 TF.ai3 rfl (by decide) 0 1 rfl rfl rfl rfl (.inr rfl) hl2_ (by decide) fun E4 A17 c17 a w hf H=>?_)
        have hS:=H.lk 1 0 0 []
        refine aS hS ?_
        have H:=H.freeze 2 rfl
        have H:=H.freeze 0 rfl
        refine nn 15 rfl (oC hf TF.cl347 (ih (S:=St ⟨w0,[b0]⟩ S [⟨b4,45,[(.int .i64 r'.Start),(.slice A4 r'.Fibers.length c4)]⟩,⟨b0,322,[(.slice A9 m.length c9),(.slice A10 m2.length c10),(.int .i64 m3),(.slice A11 m4.length c11)]⟩] [⟨.sh true,3,A15,1,([y2]:List Int)⟩,⟨.sh true,3,A12,1,([i]:List Int)⟩] [] false) (H.boxAt 1 rfl) ((L4SearchP_mk (x:=({ n:=({ Nodes:=m,Fibers:=m2 }:Network),to:=m3,list:=m4 }:L4SearchP)) (H.get 4 rfl) (H.get 3 rfl) (H.get 2 rfl))) (H.notSt 1 rfl _) (Route_mkv (x:=({ Start:=r'.Start,Fibers:=l }:Route)) (rep_weak (α:=List Int) (H.get 1 rfl))) (mk_list (rep_weak (α:=List Int) (H.get 0 rfl))) hy6) fun v6 w a hp11 hf=>?_)
        obtain ⟨hch2,cs6,hbx2,hr6,hs2⟩:=hp11
        obtain rfl:=hs2
        replace hr6:=GoTy.mono hr6 (H.movesB 1 rfl false)
        obtain ⟨A18,c18,A19,c19,A20,c20,rfl,hl11,hl12,hl13⟩:=L4SearchP_cells hr6
        have H:=H.wroteBox 1 rfl hch2 hbx2
        have H:=H.pF hl11
        have H:=H.pF hl12
        have H:=H.pF hl13
        have hS:=H.lk 1 0 0 []
        refine aS hS ?_
        refine dk ?_
        have hf:=hf.pn [0,2,4,6,7]
        have H:=H.lm 3 0 0 10 775
        exact ⟨A18,c18,A19,c19,A20,c20,hf,H⟩
       refine (bl hf H 3 ([y2]:List Int) [(.int .i64 y2)] (el1 (y:=y2) (rfl)) fun A14 a w hf H=>?_)
       have hS:=H.lk 1 0 0 []
       refine aS hS ?_
       refine nn 8 rfl (op_appR hf H Tryz.underlying35 TF.ai3 rfl (by decide) 1 2 rfl rfl rfl rfl (.inr rfl) hl_ (by decide) fun E2 A15 c15 a w hf H=>?_)
       have hS:=H.lk 1 0 0 []
       refine aS hS ?_
       refine zP 9 rfl rfl rfl rfl hf hS (fun w=>rq_build hf (cs:=[(.int .i64 r'.Start),(.slice A15 l.length c15)]) rfl (fun w=>by kernel_rfl)) fun a hf=>?_
       refine nn 11 rfl (oC hf TF.cl192 (spec_l1Own_ok (S:=TT) (mk_list (H.rt 3 rfl)) hy5) fun v5 w a hp9 hf=>?_)
       obtain ⟨hb4,F3,hp10,hN2⟩:=hp9
       obtain ⟨A16,c16,rfl,hl10⟩:=VO_list hp10
       obtain ⟨Fs2,E3,H⟩:=H.addRow hb4 hl10 hN2
       have H:=H.rowSh 0 rfl
       have hS:=H.lk 1 0 0 []
       refine aS hS ?_
       refine nn 14 rfl (op_appR hf H Tryz.underlying35 TF.ai3 rfl (by decide) 0 1 rfl rfl rfl rfl (.inr rfl) hl2_ (by decide) fun E4 A17 c17 a w hf H=>?_)
       have hS:=H.lk 1 0 0 []
       refine aS hS ?_
       have H:=H.freeze 2 rfl
       have H:=H.freeze 0 rfl
       refine nn 15 rfl (oC hf TF.cl347 (ih (S:=St ⟨w0,[b0]⟩ S [⟨b4,45,[(.int .i64 r'.Start),(.slice A4 r'.Fibers.length c4)]⟩,⟨b0,322,[(.slice A9 m.length c9),(.slice A10 m2.length c10),(.int .i64 m3),(.slice A11 m4.length c11)]⟩] [⟨.sh true,3,A14,1,([y2]:List Int)⟩,⟨.sh true,3,A12,1,([i]:List Int)⟩] [] false) (H.boxAt 1 rfl) ((L4SearchP_mk (x:=({ n:=({ Nodes:=m,Fibers:=m2 }:Network),to:=m3,list:=m4 }:L4SearchP)) (H.get 4 rfl) (H.get 3 rfl) (H.get 2 rfl))) (H.notSt 1 rfl _) (Route_mkv (x:=({ Start:=r'.Start,Fibers:=l }:Route)) (rep_weak (α:=List Int) (H.get 1 rfl))) (mk_list (rep_weak (α:=List Int) (H.get 0 rfl))) hy6) fun v6 w a hp11 hf=>?_)
       obtain ⟨hch2,cs6,hbx2,hr6,hs2⟩:=hp11
       obtain rfl:=hs2
       replace hr6:=GoTy.mono hr6 (H.movesB 1 rfl false)
       obtain ⟨A18,c18,A19,c19,A20,c20,rfl,hl11,hl12,hl13⟩:=L4SearchP_cells hr6
       have H:=H.wroteBox 1 rfl hch2 hbx2
       have H:=H.pF hl11
       have H:=H.pF hl12
       have H:=H.pF hl13
       have hS:=H.lk 1 0 0 []
       refine aS hS ?_
       refine dk ?_
       have hf:=hf.pn [0,2,4,6,7]
       have H:=H.lm 3 0 0 10 775
       exact ⟨A18,c18,A19,c19,A20,c20,hf,H⟩
      refine (bl hf H 3 ([y2]:List Int) [(.int .i64 y2)] (el1 (y:=y2) (rfl)) fun A13 a w hf H=>?_)
      have hS:=H.lk 1 0 0 []
      refine aS hS ?_
      refine nn 5 rfl (oC hf TF.cl192 (spec_l1Own_ok (S:=TT) (mk_list (H.rt 4 rfl)) hy4) fun v4 w a hp7 hf=>?_)
      obtain ⟨hb3,F,hp8,hN⟩:=hp7
      obtain ⟨A14,c14,rfl,hl9⟩:=VO_list hp8
      obtain ⟨Fs,E,H⟩:=H.addRow hb3 hl9 hN
      have H:=H.rowSh 0 rfl
      have hS:=H.lk 1 0 0 []
      refine aS hS ?_
      refine nn 8 rfl (op_appR hf H Tryz.underlying35 TF.ai3 rfl (by decide) 0 2 rfl rfl rfl rfl (.inr rfl) hl_ (by decide) fun E2 A15 c15 a w hf H=>?_)
      have hS:=H.lk 1 0 0 []
      refine aS hS ?_
      refine zP 9 rfl rfl rfl rfl hf hS (fun w=>rq_build hf (cs:=[(.int .i64 r'.Start),(.slice A15 l.length c15)]) rfl (fun w=>by kernel_rfl)) fun a hf=>?_
      refine nn 11 rfl (oC hf TF.cl192 (spec_l1Own_ok (S:=TT) (mk_list (H.rt 3 rfl)) hy5) fun v5 w a hp9 hf=>?_)
      obtain ⟨hb4,F3,hp10,hN2⟩:=hp9
      obtain ⟨A16,c16,rfl,hl10⟩:=VO_list hp10
      obtain ⟨Fs2,E3,H⟩:=H.addRow hb4 hl10 hN2
      have H:=H.rowSh 0 rfl
      have hS:=H.lk 1 0 0 []
      refine aS hS ?_
      refine nn 14 rfl (op_appR hf H Tryz.underlying35 TF.ai3 rfl (by decide) 0 2 rfl rfl rfl rfl (.inr rfl) hl2_ (by decide) fun E4 A17 c17 a w hf H=>?_)
      have hS:=H.lk 1 0 0 []
      refine aS hS ?_
      have H:=H.freeze 1 rfl
      have H:=H.freeze 0 rfl
      refine nn 15 rfl (oC hf TF.cl347 (ih (S:=St ⟨w0,[b0]⟩ S [⟨b4,45,[(.int .i64 r'.Start),(.slice A4 r'.Fibers.length c4)]⟩,⟨b0,322,[(.slice A9 m.length c9),(.slice A10 m2.length c10),(.int .i64 m3),(.slice A11 m4.length c11)]⟩] [⟨.sh true,3,A13,1,([y2]:List Int)⟩,⟨.sh true,3,A12,1,([i]:List Int)⟩] [] false) (H.boxAt 1 rfl) ((L4SearchP_mk (x:=({ n:=({ Nodes:=m,Fibers:=m2 }:Network),to:=m3,list:=m4 }:L4SearchP)) (H.get 4 rfl) (H.get 3 rfl) (H.get 2 rfl))) (H.notSt 1 rfl _) (Route_mkv (x:=({ Start:=r'.Start,Fibers:=l }:Route)) (rep_weak (α:=List Int) (H.get 1 rfl))) (mk_list (rep_weak (α:=List Int) (H.get 0 rfl))) hy6) fun v6 w a hp11 hf=>?_)
      obtain ⟨hch2,cs6,hbx2,hr6,hs2⟩:=hp11
      obtain rfl:=hs2
      replace hr6:=GoTy.mono hr6 (H.movesB 1 rfl false)
      obtain ⟨A18,c18,A19,c19,A20,c20,rfl,hl11,hl12,hl13⟩:=L4SearchP_cells hr6
      have H:=H.wroteBox 1 rfl hch2 hbx2
      have H:=H.pF hl11
      have H:=H.pF hl12
      have H:=H.pF hl13
      have hS:=H.lk 1 0 0 []
      refine aS hS ?_
      refine dk ?_
      have hf:=hf.pn [0,2,4,6,7]
      have H:=H.lm 3 0 0 10 775
      exact ⟨A18,c18,A19,c19,A20,c20,hf,H⟩
     refine (bl hf H 3 ([y2]:List Int) [(.int .i64 y2)] (el1 (y:=y2) (rfl)) fun A12 a w hf H=>?_)
     have hS:=H.lk 1 0 0 []
     refine aS hS ?_
     refine on2 (i:=5) (j:=7) (bi:=[true,true,true,true,true,true,true,false,false,false,true,false,true,true,false,false]) (bj:=[true,true,true,true,true,false,true,true,false,false,true,false,true,true,false,false]) (by kernel_rfl) rfl rfl rfl rfl rfl rfl ?_ ?_
     ·refine (oC hf TF.cl192 (spec_l1Own_ok (S:=TT) (mk_list (H.rt 4 rfl)) hy4) fun v4 w a hp7 hf=>?_)
      obtain ⟨hb3,F,hp8,hN⟩:=hp7
      obtain ⟨A13,c14,rfl,hl9⟩:=VO_list hp8
      obtain ⟨Fs,E,H⟩:=H.addRow hb3 hl9 hN
      have H:=H.rowSh 0 rfl
      have hS:=H.lk 1 0 0 []
      refine aS hS ?_
      refine nn 7 rfl (bl hf H 3 ([i]:List Int) [(.int .i64 i)] (el1 (y:=i) (rfl)) fun A14 a w hf H=>?_)
      have hS:=H.lk 1 0 0 []
      refine aS hS ?_
      refine nn 8 rfl (op_appR hf H Tryz.underlying35 TF.ai3 rfl (by decide) 1 0 rfl rfl rfl rfl (.inr rfl) hl_ (by decide) fun E2 A15 c15 a w hf H=>?_)
      have hS:=H.lk 1 0 0 []
      refine aS hS ?_
      refine zP 9 rfl rfl rfl rfl hf hS (fun w=>rq_build hf (cs:=[(.int .i64 r'.Start),(.slice A15 l.length c15)]) rfl (fun w=>by kernel_rfl)) fun a hf=>?_
      refine nn 11 rfl (oC hf TF.cl192 (spec_l1Own_ok (S:=TT) (mk_list (H.rt 3 rfl)) hy5) fun v5 w a hp9 hf=>?_)
      obtain ⟨hb4,F3,hp10,hN2⟩:=hp9
      obtain ⟨A16,c16,rfl,hl10⟩:=VO_list hp10
      obtain ⟨Fs2,E3,H⟩:=H.addRow hb4 hl10 hN2
      have H:=H.rowSh 0 rfl
      have hS:=H.lk 1 0 0 []
      refine aS hS ?_
      refine nn 14 rfl (op_appR hf H Tryz.underlying35 TF.ai3 rfl (by decide) 0 3 rfl rfl rfl rfl (.inr rfl) hl2_ (by decide) fun E4 A17 c17 a w hf H=>?_)
      have hS:=H.lk 1 0 0 []
      refine aS hS ?_
      have H:=H.freeze 2 rfl
      have H:=H.freeze 0 rfl
      refine nn 15 rfl (oC hf TF.cl347 (ih (S:=St ⟨w0,[b0]⟩ S [⟨b4,45,[(.int .i64 r'.Start),(.slice A4 r'.Fibers.length c4)]⟩,⟨b0,322,[(.slice A9 m.length c9),(.slice A10 m2.length c10),(.int .i64 m3),(.slice A11 m4.length c11)]⟩] [⟨.sh true,3,A14,1,([i]:List Int)⟩,⟨.sh true,3,A12,1,([y2]:List Int)⟩] [] false) (H.boxAt 1 rfl) ((L4SearchP_mk (x:=({ n:=({ Nodes:=m,Fibers:=m2 }:Network),to:=m3,list:=m4 }:L4SearchP)) (H.get 4 rfl) (H.get 3 rfl) (H.get 2 rfl))) (H.notSt 1 rfl _) (Route_mkv (x:=({ Start:=r'.Start,Fibers:=l }:Route)) (rep_weak (α:=List Int) (H.get 1 rfl))) (mk_list (rep_weak (α:=List Int) (H.get 0 rfl))) hy6) fun v6 w a hp11 hf=>?_)
      obtain ⟨hch2,cs6,hbx2,hr6,hs2⟩:=hp11
      obtain rfl:=hs2
      replace hr6:=GoTy.mono hr6 (H.movesB 1 rfl false)
      obtain ⟨A18,c18,A19,c19,A20,c20,rfl,hl11,hl12,hl13⟩:=L4SearchP_cells hr6
      have H:=H.wroteBox 1 rfl hch2 hbx2
      have H:=H.pF hl11
      have H:=H.pF hl12
      have H:=H.pF hl13
      have hS:=H.lk 1 0 0 []
      refine aS hS ?_
      refine dk ?_
      have hf:=hf.pn [0,2,4,6,7]
      have H:=H.lm 3 0 0 10 775
      exact ⟨A18,c18,A19,c19,A20,c20,hf,H⟩
     refine (bl hf H 3 ([i]:List Int) [(.int .i64 i)] (el1 (y:=i) (rfl)) fun A13 a w hf H=>?_)
     have hS:=H.lk 1 0 0 []
     refine aS hS ?_
     refine nn 5 rfl (oC hf TF.cl192 (spec_l1Own_ok (S:=TT) (mk_list (H.rt 4 rfl)) hy4) fun v4 w a hp7 hf=>?_)
     obtain ⟨hb3,F,hp8,hN⟩:=hp7
     obtain ⟨A14,c14,rfl,hl9⟩:=VO_list hp8
     obtain ⟨Fs,E,H⟩:=H.addRow hb3 hl9 hN
     have H:=H.rowSh 0 rfl
     have hS:=H.lk 1 0 0 []
     refine aS hS ?_
     refine nn 8 rfl (op_appR hf H Tryz.underlying35 TF.ai3 rfl (by decide) 0 1 rfl rfl rfl rfl (.inr rfl) hl_ (by decide) fun E2 A15 c15 a w hf H=>?_)
     have hS:=H.lk 1 0 0 []
     refine aS hS ?_
     refine zP 9 rfl rfl rfl rfl hf hS (fun w=>rq_build hf (cs:=[(.int .i64 r'.Start),(.slice A15 l.length c15)]) rfl (fun w=>by kernel_rfl)) fun a hf=>?_
     refine nn 11 rfl (oC hf TF.cl192 (spec_l1Own_ok (S:=TT) (mk_list (H.rt 3 rfl)) hy5) fun v5 w a hp9 hf=>?_)
     obtain ⟨hb4,F3,hp10,hN2⟩:=hp9
     obtain ⟨A16,c16,rfl,hl10⟩:=VO_list hp10
     obtain ⟨Fs2,E3,H⟩:=H.addRow hb4 hl10 hN2
     have H:=H.rowSh 0 rfl
     have hS:=H.lk 1 0 0 []
     refine aS hS ?_
     refine nn 14 rfl (op_appR hf H Tryz.underlying35 TF.ai3 rfl (by decide) 0 3 rfl rfl rfl rfl (.inr rfl) hl2_ (by decide) fun E4 A17 c17 a w hf H=>?_)
     have hS:=H.lk 1 0 0 []
     refine aS hS ?_
     have H:=H.freeze 1 rfl
     have H:=H.freeze 0 rfl
     refine nn 15 rfl (oC hf TF.cl347 (ih (S:=St ⟨w0,[b0]⟩ S [⟨b4,45,[(.int .i64 r'.Start),(.slice A4 r'.Fibers.length c4)]⟩,⟨b0,322,[(.slice A9 m.length c9),(.slice A10 m2.length c10),(.int .i64 m3),(.slice A11 m4.length c11)]⟩] [⟨.sh true,3,A13,1,([i]:List Int)⟩,⟨.sh true,3,A12,1,([y2]:List Int)⟩] [] false) (H.boxAt 1 rfl) ((L4SearchP_mk (x:=({ n:=({ Nodes:=m,Fibers:=m2 }:Network),to:=m3,list:=m4 }:L4SearchP)) (H.get 4 rfl) (H.get 3 rfl) (H.get 2 rfl))) (H.notSt 1 rfl _) (Route_mkv (x:=({ Start:=r'.Start,Fibers:=l }:Route)) (rep_weak (α:=List Int) (H.get 1 rfl))) (mk_list (rep_weak (α:=List Int) (H.get 0 rfl))) hy6) fun v6 w a hp11 hf=>?_)
     obtain ⟨hch2,cs6,hbx2,hr6,hs2⟩:=hp11
     obtain rfl:=hs2
     replace hr6:=GoTy.mono hr6 (H.movesB 1 rfl false)
     obtain ⟨A18,c18,A19,c19,A20,c20,rfl,hl11,hl12,hl13⟩:=L4SearchP_cells hr6
     have H:=H.wroteBox 1 rfl hch2 hbx2
     have H:=H.pF hl11
     have H:=H.pF hl12
     have H:=H.pF hl13
     have hS:=H.lk 1 0 0 []
     refine aS hS ?_
     refine dk ?_
     have hf:=hf.pn [0,2,4,6,7]
     have H:=H.lm 3 0 0 10 775
     exact ⟨A18,c18,A19,c19,A20,c20,hf,H⟩
    rintro a w ⟨A18,c18,A19,c19,A20,c20,hf,H⟩
    refine blk_n (then_n (reg (pz 3 hf fun a hf=>?_)))
    refine wl_end ?_
    have hf:=hf.pn [0,2,4,6,7]
    have H:=H.lm 3 0 0 5 31
    exact then_n ⟨(w64 (i + 1),y6.n.Nodes,y6.n.Fibers,y6.to,y6.list),hR1,A18,c18,A19,c19,A20,c20,hf,H⟩
   refine wp_skip (blk_n (then_n (reg (pz 3 hf fun a hf=>?_))))
   refine wl_end ?_
   have hf:=hf.pn [0,2,4,6,7]
   have H:=H.lm 3 0 0 5 31
   exact then_n ⟨(w64 (i + 1),m,m2,m3,m4),hR1,A9,c9,A10,c10,A11,c11,hf,H⟩
  refine wp_exit (then_x (then_x (blk_e (?_))))
  have hf:=hf.pn [0,2,4,6,7]
  have H:=H.lm 3 0 0 5 31
  exact ⟨(i,m,m2,m3,m4),(Option.some.inj hR1).symm,A9,c9,A10,c10,A11,c11,hf,H⟩
 rintro a w ⟨⟨i2,m5,m6,m7,m8⟩,rfl,A21,c21,A22,c22,A23,c23,hf,H⟩
 try dsimp only at hF
 obtain rfl:=oi hF
 refine ret_0 hf rfl ?_
 exact ⟨_,rfl,H.chg,_,H.boxAt 1 rfl,(L4SearchP_mk (x:=({ n:=({ Nodes:=m5,Fibers:=m6 }:Network),to:=m7,list:=m8 }:L4SearchP)) (eB 1 (H.get 2 rfl)) (eB 1 (H.get 1 rfl)) (eB 1 (H.get 0 rfl))),rfl⟩
theorem spec_l4Search_extend_ok {fu:Nat}:∀ {w0:World} {S:Nat→Prop} {b0:Nat} {cs0:List Value} {v1_:Value} {v2_:Value} {x1:L4SearchP} {r':Route} {seen:List Int} {r:L4SearchP} (hp0:w0.heap[b0]?=some (.cells cs0.toArray 322 (0,0))) (hr0:GoTy.rep w0 S cs0 x1) (hS0:¬S b0) (h1:VR w0 S v1_ r') (h2:VR w0 S v2_ seen) (hF:spec_l4Search_extend fu x1 r' seen=some r),Calls Tryz.prog 347 [(.pointer (some ⟨b0,0,none⟩)),v1_,v2_].toArray w0 fun e w'=>∃ v,e=.returned v∧(Chg w0 w' [b0]∧∃ cs',w'.heap[b0]?=some (.cells cs'.toArray 322 (0,0))∧GoTy.rep w' (St ⟨w0,[b0]⟩ S [⟨b0,322,cs'⟩] [] [] false) cs' r∧v=.tuple #[]):=by
  induction fu with
  | zero=>intro w0 S b0 cs0 v1_ v2_ x1 r' seen r hp0 hr0 hS0 h1 h2 hF; rw [spec_l4Search_extend] at hF; cases hF
  | succ fu ih=>intro w0 S b0 cs0 v1_ v2_ x1 r' seen r hp0 hr0 hS0 h1 h2 hF; rw [spec_l4Search_extend] at hF; exact spec_l4Search_extend_B_ok (rec_:=fun x1 r' seen=>spec_l4Search_extend fu x1 r' seen) (fun hp0 hr0 hS0 h1 h2 hF=>ih hp0 hr0 hS0 h1 h2 hF) hp0 hr0 hS0 h1 h2 hF
theorem spec_l4All_ok {S:Nat→Prop} {v0_:Value} {v1_:Value} {v2_:Value} {n':Network} {from':Int} {to:Int} {r:List Route×Bool} (h0:VR w0 S v0_ n') (h1:VR w0 S v1_ from') (h2:VR w0 S v2_ to) (hF:spec_l4All fu n' from' to=some r) :
    Calls Tryz.prog 330 [v0_,v1_,v2_].toArray w0 fun e w'=>∃ v,e=.returned v∧(Below w0.heap.size w0 w'∧∃ u0 u1,v=.tuple #[u0,u1]∧VR w' (St ⟨w0,[]⟩ S [] [] [] false) u0 r.1∧VR w' (St ⟨w0,[]⟩ S [] [] [] true) u1 r.2):=by
 obtain ⟨A,c,A2,c2,rfl,hl,hl2⟩:=Network_open h0
 obtain rfl:=VR_int h1
 obtain rfl:=VR_int h2
 have H:=Mem.start ⟨w0,[]⟩ S
 have H:=H.pA hl
 have H:=H.pA hl2
 refine en Tryz.func330 fun a hf=>?_
 rw [spec_l4All] at hF
 refine bx hf H fun b' a w hf H=>?_
 refine pz 2 hf fun a hf=>?_
 refine wr (lN 0 hf H TF.la27 fun a hf=>?_)
 refine pz 1 hf fun a hf=>?_
 refine oq hf (rq_build hf (cs:=[(.slice A n'.Nodes.length c),(.slice A2 n'.Fibers.length c2),(.int .i64 to),(.slice none 0 0)]) rfl (fun w=>by kernel_rfl)) fun a hf=>?_
 refine wl0 rfl (op_box hf H rfl rfl (by decide) fun b2 a w hf H=>?_)
 refine pz 1 hf fun a hf=>?_
 refine wr (pz 2 hf fun a hf=>?_)
 refine oq hf (rq_build hf (cs:=[(.int .i64 from'),(.slice none 0 0)]) rfl (fun w=>by kernel_rfl)) fun a hf=>?_
 refine pz 1 hf fun a hf=>?_
 refine wl0 rfl (bl hf H 3 ([from']:List Int) [(.int .i64 from')] (el1 (y:=from') (rfl)) fun A3 a w hf H=>?_)
 have H:=H.pushNil (Int) true
 have H:=H.freeze 0 rfl
 have H:=H.pushNil (Route) true
 obtain ⟨y,hy,hF⟩:=bs_ hF
 refine oc hf TF.cl347 (spec_l4Search_extend_ok (S:=St ⟨w0,[]⟩ S [⟨b2,322,[(.slice A n'.Nodes.length c),(.slice A2 n'.Fibers.length c2),(.int .i64 to),(.slice none 0 0)]⟩,⟨b',27,[(.slice A n'.Nodes.length c),(.slice A2 n'.Fibers.length c2)]⟩] [] [] false) (H.boxAt 0 rfl) ((L4SearchP_mk (x:=({ n:=n',to:=to,list:=[] }:L4SearchP)) (H.get 4 rfl) (H.get 3 rfl) (rep_weak (α:=List Route) (H.get 0 rfl)))) (H.notSt 0 rfl _) (Route_mkv (x:=({ Start:=from',Fibers:=[] }:Route)) (rep_weak (α:=List Int) (H.get 2 rfl))) (mk_list (rep_weak (α:=List Int) (H.get 1 rfl))) hy) fun v w a hp hf=>?_
 obtain ⟨hch,cs,hbx,hr,hs⟩:=hp
 obtain rfl:=hs
 replace hr:=GoTy.mono hr (H.movesB 0 rfl false)
 obtain ⟨A4,c3,A5,c4,A6,c5,rfl,hl3,hl4,hl5⟩:=L4SearchP_cells hr
 have H:=H.wroteBox 0 rfl hch hbx
 have H:=H.pF hl3
 have H:=H.pF hl4
 have H:=H.pF hl5
 have hf:=hf.pn [8]
 refine we (sqz (pz 3 hf fun a hf=>?_))
 refine lB 0 hf H TF.ls230 fun a hf=>?_
 refine pz 2 hf fun a hf=>?_
 refine wl_end (then_n (ib hF hf (fun hc hF=>?_) fun hc hF=>?_))
 ·refine sq (reg (wl0 rfl (bl hf H 45 ([]:List Route) [] el0 fun A7 a w hf H=>?_)))
  refine pz 2 hf fun a hf=>?_
  refine wl_end (then_n (wp_ret (then_r (?_))))
  have H:=H.freeze 0 rfl
  obtain rfl:=oi hF
  refine ret_2 hf rfl (rv_tmp hf rfl) (rv_tmp hf rfl) ?_
  exact ⟨_,rfl,H.bel,_,_,rfl,(mk_list (rep_endw (α:=List Route) (H.get 0 rfl))),mk_bool⟩
 refine wp_skip (then_n (sq (reg (wl0 rfl (bl hf H 45 ([]:List Route) [] el0 fun A8 a w hf H=>?_)))))
 refine pz 3 hf fun a hf=>?_
 refine lB 0 hf H TF.ls230 fun a hf=>?_
 obtain ⟨l,hl_,hF⟩:=bs_ hF
 have H:=H.rowWeak 0 rfl
 refine wl0 rfl (op_appI hf H Tryz.underlying230 TF.ai45 rfl (by decide) 0 0 rfl rfl rfl rfl (.inl rfl) hl_ (by decide) fun E A9 c6 a w hf H=>?_)
 refine pz 2 hf fun a hf=>?_
 have hf:=hf.pn [6,7]
 refine wer ?_
 have H:=H.freeze 0 rfl
 obtain rfl:=oi hF
 refine ret_2 hf rfl (rv_tmp hf rfl) (rv_tmp hf rfl) ?_
 exact ⟨_,rfl,H.bel,_,_,rfl,(mk_list (rep_end (α:=List Route) (H.get 0 rfl))),mk_bool⟩
theorem spec_AllRoutes_mm {S:Nat→Prop} {v0_:Value} {v1_:Value} {v2_:Value} {n':Network} {from':Int} {to:Int} {r:List Route×Bool} (h0:VR w0 S v0_ n') (h1:VR w0 S v1_ from') (h2:VR w0 S v2_ to) (hF:spec_AllRoutes fu n' from' to=some r) :
    Calls Tryz.prog 303 [v0_,v1_,v2_].toArray w0 fun e w'=>∃ v,e=.returned v∧(∃ (A0_0:Option Addr) (c0_0:Nat),v=.tuple #[(.slice A0_0 r.1.length c0_0),(.bool r.2)]∧Mem ⟨w0,[]⟩ S [] [] [] [(false,MP.val [(.slice A0_0 r.1.length c0_0)] (r.1:List Route))] w'):=by
 obtain ⟨A,c,A2,c2,rfl,hl,hl2⟩:=Network_open h0
 obtain rfl:=VR_int h1
 obtain rfl:=VR_int h2
 have H:=Mem.start ⟨w0,[]⟩ S
 have H:=H.pA hl
 have H:=H.pA hl2
 refine en Tryz.func303 fun a hf=>?_
 rw [spec_AllRoutes] at hF
 refine bx hf H fun b' a w hf H=>?_
 refine pz 2 hf fun a hf=>?_
 refine wl_end (then_n (sq (sq (reg (lN 0 hf H TF.la27 fun a hf=>?_)))))
 refine pz 2 hf fun a hf=>?_
 obtain ⟨y,hy,hF⟩:=bs_ hF
 refine oc hf TF.cl336 (spec_l4Pair_ok (S:=TT) (Network_mkv (x:=n') (H.rt 1 rfl) (H.rt 0 rfl)) mk_int mk_int hy) fun v w a hp hf=>?_
 obtain ⟨hb,hp⟩:=hp
 obtain rfl:=VR_bool hp
 have H:=H.keep hb
 refine pz 1 hf fun a hf=>?_
 refine wl_end (then_n (ib hF hf (fun hc hF=>?_) fun hc hF=>?_))
 ·refine sq (reg (wl0 rfl (op_bslice hf H (.ow []) rfl 45 ([]:List Route) [] rfl (fun w=>by kernel_rfl) rfl (by decide) rfl rfl (fun i x h=>by simp at h) (by decide) fun A3 a w hf H=>?_)))
  refine pz 2 hf fun a hf=>?_
  refine wl_end (then_n (wp_ret (then_r (?_))))
  have H:=H.freeze 0 rfl
  have H:=H.copyI 0 rfl (.inl rfl)
  obtain rfl:=oi hF
  refine ret_2 hf rfl (rv_tmp hf rfl) (rv_tmp hf rfl) ?_
  have H:=H.lk 0 0 0 [0]
  exact ⟨_,rfl,A3,0,rfl,H⟩
 refine wp_skip (then_n (sq (reg (lN 0 hf H TF.la27 fun a hf=>?_))))
 refine pz 2 hf fun a hf=>?_
 obtain ⟨y2,hy2,hF⟩:=bs_ hF
 refine oc hf TF.cl330 (spec_l4All_ok (Network_mkv (x:=n') (H.get 1 rfl) (H.get 0 rfl)) mk_int mk_int hy2) fun v2 w a hp2 hf=>?_
 obtain ⟨hb2,v3,v4,rfl,hp3,hp4⟩:=hp2
 obtain ⟨A4,c3,rfl,hl3⟩:=VR_list hp3
 replace hl3:=H.res (f:=MP.val [(.slice A4 y2.1.length c3)] y2.1) hl3
 obtain rfl:=VR_bool hp4
 have H:=H.keep hb2
 have H:=H.pF hl3
 refine pz 4 hf fun a hf=>?_
 have hf:=hf.pn [6,7]
 refine wer ?_
 obtain rfl:=oi hF
 refine ret_2 hf rfl (rv_tmp hf rfl) (rv_tmp hf rfl) ?_
 have H:=H.lk 0 0 0 [0]
 exact ⟨_,rfl,A4,c3,rfl,H⟩
theorem spec_l15Place_ok {S:Nat→Prop} {v0_:Value} {v1_:Value} {r':Restoration} {home:Light} {r:Light×Bool} (h0:VR w0 S v0_ r') (h1:VR w0 S v1_ home) (hF:spec_l15Place fu r' home=some r) :
    Calls Tryz.prog 246 [v0_,v1_].toArray w0 fun e w'=>∃ v,e=.returned v∧(Below w0.heap.size w0 w'∧∃ F0,∃ u0 u1,v=.tuple #[u0,u1]∧VO w' F0 u0 r.1∧VR w' (St ⟨w0,[]⟩ S [] [] [] true) u1 r.2∧New w0 w' F0):=by
 obtain ⟨A,c,A2,c2,A3,c3,A4,c4,A5,c5,rfl,hl,hl2,hl3,hl4,hl5⟩:=Restoration_open h0
 obtain ⟨A6,c6,rfl,hl6⟩:=Light_open h1
 have H:=Mem.start ⟨w0,[]⟩ S
 have H:=H.pA hl
 have H:=H.pA hl2
 have H:=H.pA hl3
 have H:=H.pA hl4
 have H:=H.pA hl5
 have H:=H.pA hl6
 refine en Tryz.func246 fun a hf=>?_
 rw [spec_l15Place] at hF
 refine bx hf H fun b' a w hf H=>?_
 refine wl0 rfl (op_box hf H rfl rfl (by decide) fun b2 a w hf H=>?_)
 refine aL hf H TF.zv49 fun b3 a w hf H=>?_
 refine pz 1 hf fun a hf=>?_
 refine wr (pz 2 hf fun a hf=>?_)
 refine lN 2 hf H TF.la27 fun a hf=>?_
 refine aL hf H TF.zv27 fun b4 a w hf H=>?_
 refine sB 0 hf H TF.sz27 fun w H=>?_
 refine wl_end (then_n (sq (sq ?_)))
 obtain ⟨c7,hGc7,hF⟩:=bs_ hF
 have fh:=hf.prune [2,3,4,6] rfl
 have Hm:=H.lm 15 0 0 6 63
 refine midF 31 (.bool c7) fh Hm ?_ fun a w hf H=>?_
 ·refine dw [] 18 fun w hb=>?_
  have H:=H.keep hb
  refine zp 0 hf trivial fun a hf=>?_
  refine strT (H.lk 4 0 0 []) (fun w H=>trivial) fun hS=>?_
  refine zS 1 [] rfl rfl rfl rfl hf hS (fun w H=>rq_loadBN hf H TF.la45 0 rfl rfl rfl rfl) fun a hf=>?_
  refine zp 2 hf hS fun a hf=>?_
  refine strT (H.lk 12 0 0 []) (fun w H=>H.lk 1 0 0 []) fun hS=>?_
  refine zS 3 [] rfl rfl rfl rfl hf hS (fun w H=>rq_loadB hf H TF.ls35 1 rfl rfl rfl) fun a hf=>?_
  obtain ⟨y,hy,hGc7⟩:=bs_ hGc7
  refine nn 4 rfl (oC hf TF.cl174 (spec_l4Uses_ok (S:=TT) (Route_mkv (x:=home.Route) (H.rt 0 rfl)) (mk_list (H.rt 1 rfl)) hy) fun v w a hp hf=>?_)
  obtain ⟨hb,hp⟩:=hp
  obtain rfl:=VR_bool hp
  have H:=H.keep hb
  have hS:=H.lk 12 0 0 []
  refine aS hS ?_
  refine zp 5 hf hS fun a hf=>?_
  refine zp 6 hf hS fun a hf=>?_
  refine iteB hGc7 (fun hc hGc7=>?_) fun hc hGc7=>?_
  ·have hf:=hf.lit 20 rfl hc
   refine zg 7 hf hS fun a hf=>?_
   refine tSg 8 [] rfl rfl rfl rfl rfl rfl hf (by kernel_rfl) (by kernel_rfl) hS (fun w H=>rq_loadBN hf H TF.la30 1 rfl rfl rfl rfl) fun a hf=>?_
   refine zg 9 hf hS fun a hf=>?_
   refine tSg 10 [] rfl rfl rfl rfl rfl rfl hf (by kernel_rfl) (by kernel_rfl) hS (fun w H=>rq_loadBN hf H TF.la45 0 rfl rfl rfl rfl) fun a hf=>?_
   refine zg 12 hf hS fun a hf=>?_
   refine tSg 13 [] rfl rfl rfl rfl rfl rfl hf (by kernel_rfl) (by kernel_rfl) hS (fun w H=>rq_loadBN hf H TF.la47 0 rfl rfl rfl rfl) fun a hf=>?_
   obtain ⟨y2,hy2,hGc7⟩:=bs_ hGc7
   refine n1g 11 (by kernel_rfl) rfl rfl rfl rfl hf (oC hf TF.cl185 (spec_l9Along_ok (S:=TT) (Plan_mkv (x:=r'.Plan) (H.rt 5 rfl) (H.rt 4 rfl) (H.rt 3 rfl)) (Route_mkv (x:=home.Route) (H.rt 0 rfl)) hy2) fun v2 w a hp2 hf=>?_)
   obtain ⟨hb2,hp2⟩:=hp2
   obtain rfl:=VR_int hp2
   have H:=H.keep hb2
   have hS:=H.lk 12 0 0 []
   refine aS hS ?_
   obtain ⟨y3,hy3,hGc7⟩:=bs_ hGc7
   refine n1g 14 (by kernel_rfl) rfl rfl rfl rfl hf (oC hf TF.cl186 (spec_l8Bits_ok (S:=TT) Block_mkv hy3) fun v3 w a hp3 hf=>?_)
   obtain ⟨hb3,hp3⟩:=hp3
   obtain rfl:=VR_int hp3
   have H:=H.keep hb3
   have hS:=H.lk 12 0 0 []
   refine aS hS ?_
   refine zg 15 hf hS fun a hf=>?_
   refine zg 16 hf hS fun a hf=>?_
   refine zp 17 hf hS fun a hf=>?_
   refine dk ?_
   obtain rfl:=oi hGc7
   have hf:=hf.pn [31,2,3,4,6]
   have H:=H.lm 15 0 0 6 63
   exact ⟨hf,H⟩
  have hf:=hf.lit 20 rfl hc
  refine zU 7 hf hS fun a hf=>?_
  refine zU 8 hf hS fun a hf=>?_
  refine zU 9 hf hS fun a hf=>?_
  refine zU 10 hf hS fun a hf=>?_
  refine zU 11 hf hS fun a hf=>?_
  refine zU 12 hf hS fun a hf=>?_
  refine zU 13 hf hS fun a hf=>?_
  refine zU 14 hf hS fun a hf=>?_
  refine zU 15 hf hS fun a hf=>?_
  refine zU 16 hf hS fun a hf=>?_
  refine zp 17 hf hS fun a hf=>?_
  refine dk ?_
  obtain rfl:=oi hGc7
  have hf:=hf.pn [31,2,3,4,6]
  have H:=H.lm 15 0 0 6 63
  exact ⟨hf,H⟩
 refine then_n (ib hF hf (fun hc2 hF=>?_) fun hc2 hF=>?_)
 ·refine sq (reg (lN 2 hf H TF.la49 fun a hf=>?_))
  obtain ⟨y4,hy4,hF⟩:=bs_ hF
  refine oc hf TF.cl188 (spec_l9Copy_ok (S:=TT) (Light_mkv (x:=home) (H.rt 0 rfl)) hy4) fun v4 w a hp4 hf=>?_
  obtain ⟨hb4,F,hp5,hN⟩:=hp4
  obtain ⟨A7,c8,F2,rfl,rfl,hl7⟩:=Light_vo hp5
  have H:=H.aO1 hb4 hN hl7
  have H:=H.lend 0 rfl
  refine sB 1 hf H TF.sz49 fun w H=>?_
  refine pz 1 hf fun a hf=>?_
  refine wl_end (then_n (wp_ret (then_r (?_))))
  obtain rfl:=oi hF
  refine ret_2 hf rfl (rv_cellN hf H 1 TF.la49 rfl rfl rfl) (rv_tmp hf rfl) ?_
  have hN:=H.ends1
  exact ⟨_,rfl,H.bel,F2,_,_,rfl,⟨_,Light_ownmk (x:=y4) (H.ownAt 0 rfl),rfl⟩,mk_bool,by first | exact hN | simpa using hN⟩
 refine wp_skip (then_n (sq (dw [] 14 fun w hb=>?_)))
 have H:=H.keep hb
 refine strT (H.lk 1 0 0 []) (fun w H=>trivial) fun hS=>?_
 refine zS 0 [] rfl rfl rfl rfl hf hS (fun w H=>rq_loadBN hf H TF.la27 0 rfl rfl rfl rfl) fun a hf=>?_
 refine zp 1 hf hS fun a hf=>?_
 refine zp 2 hf hS fun a hf=>?_
 refine strT (H.lk 5 0 0 []) (fun w H=>H.lk 1 0 0 []) fun hS=>?_
 refine zS 3 [] rfl rfl rfl rfl hf hS (fun w H=>rq_loadB hf H TF.ls3 1 rfl rfl rfl) fun a hf=>?_
 refine zS 4 [] rfl rfl rfl rfl hf hS (fun w H=>rq_loadBN hf H TF.la27 0 rfl rfl rfl rfl) fun a hf=>?_
 refine zp 5 hf hS fun a hf=>?_
 refine zS 6 [] rfl rfl rfl rfl hf hS (fun w H=>rq_loadBN hf H TF.la45 1 rfl rfl rfl rfl) fun a hf=>?_
 obtain ⟨y5,hy5,hF⟩:=bs_ hF
 refine nn 7 rfl (oC hf TF.cl175 (spec_l4End_ok (S:=TT) (Network_mkv (x:=r'.Plan.Network) (H.rt 5 rfl) (H.rt 4 rfl)) (Route_mkv (x:=home.Route) (H.rt 0 rfl)) hy5) fun v5 w a hp6 hf=>?_)
 obtain ⟨hb5,hp6⟩:=hp6
 obtain rfl:=VR_int hp6
 have H:=H.keep hb5
 have hS:=H.lk 5 0 0 []
 refine aS hS ?_
 obtain ⟨y6,hy6,hF⟩:=bs_ hF
 refine nn 8 rfl (oC hf TF.cl303 (spec_AllRoutes_mm (S:=St ⟨w0,[]⟩ S [⟨b4,27,[(.slice A r'.Plan.Network.Nodes.length c),(.slice A2 r'.Plan.Network.Fibers.length c2)]⟩,⟨b3,49,[(.int .i64 0),(.int .i64 0),(.slice none 0 0),(.int .i64 0),(.int .i64 0)]⟩,⟨b2,49,[(.int .i64 home.Id),(.int .i64 home.Route.Start),(.slice A6 home.Route.Fibers.length c6),(.int .i64 home.Block.First),(.int .i64 home.Block.Count)]⟩,⟨b',60,[(.slice A r'.Plan.Network.Nodes.length c),(.slice A2 r'.Plan.Network.Fibers.length c2),(.slice A3 r'.Plan.Lights.length c3),(.slice A4 r'.Home.length c4),(.slice A5 r'.Down.length c5)]⟩] [] [] false) (Network_mkv (x:=r'.Plan.Network) (H.get 5 rfl) (H.get 4 rfl)) mk_int mk_int hy6) fun v6 w a hp7 hf=>?_)
 obtain ⟨A8,c9,rfl,Hc⟩:=hp7
 have H:=H.comp Hc (.inr rfl)
 have hS:=H.lk 5 0 0 []
 refine aS hS ?_
 refine zp 9 hf hS fun a hf=>?_
 refine zp 10 hf hS fun a hf=>?_
 refine zp 11 hf hS fun a hf=>?_
 refine zp 12 hf hS fun a hf=>?_
 refine zp 13 hf hS fun a hf=>?_
 refine dk ?_
 have hf:=hf.pn [2,3,4,7,8]
 refine then_n (sq (sqz (pz 1 hf fun a hf=>?_)))
 refine wl_end (then_n ?_)
 obtain ⟨out',hB1,hF⟩:=bs_ hF
 have hf:=hf.pn [2,3,4,7,8,9]
 have H:=H.lm 14 0 0 7 127
 refine loopC (fun (s:Int) (a:Act) (w:World)=>match s with | i=>Fr a 92 [(2,(.pointer (some ⟨b',0,none⟩))),(3,(.pointer (some ⟨b2,0,none⟩))),(4,(.pointer (some ⟨b3,0,none⟩))),(7,(.slice A8 y6.1.length c9)),(8,(.bool y6.2)),(9,(.int .i64 i))]∧Mem ⟨w0,[]⟩ S [⟨b3,49,[(.int .i64 0),(.int .i64 0),(.slice none 0 0),(.int .i64 0),(.int .i64 0)]⟩,⟨b2,49,[(.int .i64 home.Id),(.int .i64 home.Route.Start),(.slice A6 home.Route.Fibers.length c6),(.int .i64 home.Block.First),(.int .i64 home.Block.Count)]⟩,⟨b',60,[(.slice A r'.Plan.Network.Nodes.length c),(.slice A2 r'.Plan.Network.Fibers.length c2),(.slice A3 r'.Plan.Lights.length c3),(.slice A4 r'.Home.length c4),(.slice A5 r'.Down.length c5)]⟩] [] [] [(false,MP.val [(.slice A8 y6.1.length c9)] (y6.1:List Route)),(false,MP.val [(.slice A6 home.Route.Fibers.length c6)] (home.Route.Fibers:List Int)),(false,MP.val [(.slice A5 r'.Down.length c5)] (r'.Down:List Int)),(false,MP.val [(.slice A4 r'.Home.length c4)] (r'.Home:List Light)),(false,MP.val [(.slice A3 r'.Plan.Lights.length c3)] (r'.Plan.Lights:List Light)),(false,MP.val [(.slice A2 r'.Plan.Network.Fibers.length c2)] (r'.Plan.Network.Fibers:List Fiber)),(false,MP.val [(.slice A r'.Plan.Network.Nodes.length c)] (r'.Plan.Network.Nodes:List ByteArray))] w) (fun k (s:Int)=>spec_l15Place_L1 fu r' home y6 k s=some out') (fun s=>out'=Out.next s) 0 fu hB1 ⟨hf,H⟩ (fun s h=>by cases h) ?_ ?_
 ·rintro fk i a w hR1 hI
  replace hR1:spec_l15Place_L1 fu r' home y6 (fk + 1) i=some out':=hR1
  rw [spec_l15Place_L1] at hR1
  obtain ⟨hf,H⟩:=hI
  refine sq (sq ?_)
  obtain ⟨c10,hGc10,hR1⟩:=bs_ hR1
  have fh2:=hf.prune [2,3,4,7,8,9] rfl
  have Hm2:=H.lm 7 0 0 7 127
  refine midF 52 (.bool c10) fh2 Hm2 ?_ fun a w hf H=>?_
  ·refine reg (pz 5 hf fun a hf=>?_)
   refine iteB hGc10 (fun hc3 hGc10=>?_) fun hc3 hGc10=>?_
   ·have hf:=hf.lit 50 rfl hc3
    refine pz 2 hf fun a hf=>?_
    obtain rfl:=oi hGc10
    have hf:=hf.pn [52,2,3,4,7,8,9]
    have H:=H.lm 7 0 0 7 127
    exact wl_end ⟨hf,H⟩
   have hf:=hf.lit 50 rfl hc3
   refine pz 2 hf fun a hf=>?_
   obtain rfl:=oi hGc10
   have hf:=hf.pn [52,2,3,4,7,8,9]
   have H:=H.lm 7 0 0 7 127
   exact wl_end ⟨hf,H⟩
  refine then_n (ib hR1 hf (fun hc4 hR1=>?_) fun hc4 hR1=>?_)
  ·refine wp_skip (then_n (sq (wp_block (sq (sq (dw [] 7 fun w hb=>?_))))))
   have H:=H.keep hb
   refine zp 0 hf trivial fun a hf=>?_
   refine zp 1 hf trivial fun a hf=>?_
   obtain ⟨e,he,hR1⟩:=bs_ hR1
   obtain ⟨p,o,cs,hx,hr,H⟩:=pre_iaddr H Tryz.underlying230 TF.sz45 0 rfl he
   refine tP 2 rfl rfl rfl rfl hf (by kernel_rfl) (fun _=>trivial) (fun w=>rq_iaddrE hf rfl rfl rfl hx w) fun a hf=>?_
   obtain ⟨A9,c11,rfl,hl8⟩:=Route_cells hr
   have H:=H.pF hl8
   refine strT (H.lk 0 0 0 [1]) (fun w H=>trivial) fun hS=>?_
   refine zS 3 [] rfl rfl rfl rfl hf hS (fun w H=>rq_loadIN hf H TF.la45 0 0 rfl rfl rfl rfl) fun a hf=>?_
   refine zp 4 hf hS fun a hf=>?_
   refine strT (H.lk 4 0 0 [1]) (fun w H=>H.lk 0 0 0 [0]) fun hS=>?_
   refine zS 5 [] rfl rfl rfl rfl hf hS (fun w H=>rq_loadB hf H TF.ls35 0 rfl rfl rfl) fun a hf=>?_
   obtain ⟨y7,hy7,hR1⟩:=bs_ hR1
   refine nn 6 rfl (oC hf TF.cl174 (spec_l4Uses_ok (S:=TT) (Route_mkv (x:=e) (H.rt 0 rfl)) (mk_list (H.rt 4 rfl)) hy7) fun v7 w a hp8 hf=>?_)
   obtain ⟨hb6,hp8⟩:=hp8
   obtain rfl:=VR_bool hp8
   have H:=H.keep hb6
   have hS:=H.lk 4 0 0 [1]
   refine aS hS ?_
   refine dk ?_
   refine then_n (ib hR1 hf (fun hc5 hR1=>?_) fun hc5 hR1=>?_)
   ·refine wp_exit (then_x (blk_e (?_)))
    refine then_n (reg (pz 3 hf fun a hf=>?_))
    refine wl_end ?_
    have hf:=hf.pn [2,3,4,7,8,9]
    have H:=H.lm 7 0 0 9 508
    exact then_n ⟨w64 (i + 1),hR1,hf,H⟩
   refine wp_skip (then_n (sq (dw [] 12 fun w hb=>?_)))
   have H:=H.keep hb
   refine zp 0 hf trivial fun a hf=>?_
   refine strT (H.lk 4 0 0 []) (fun w H=>trivial) fun hS=>?_
   refine zS 1 [] rfl rfl rfl rfl hf hS (fun w H=>rq_loadBN hf H TF.la30 0 rfl rfl rfl rfl) fun a hf=>?_
   refine zp 2 hf hS fun a hf=>?_
   refine zp 3 hf hS fun a hf=>?_
   obtain ⟨e2,he2,hR1⟩:=bs_ hR1
   obtain ⟨p2,o2,cs2,hx2,hr2,H⟩:=pre_iaddr H Tryz.underlying230 TF.sz45 2 rfl he2
   refine zP 4 rfl rfl rfl rfl hf hS (fun w=>rq_iaddrE hf rfl rfl rfl hx2 w) fun a hf=>?_
   obtain ⟨A10,c12,rfl,hl9⟩:=Route_cells hr2
   have H:=H.pF hl9
   refine strT (H.lk 4 0 0 [1]) (fun w H=>H.lk 1 0 0 []) fun hS=>?_
   refine zS 5 [] rfl rfl rfl rfl hf hS (fun w H=>rq_loadIN hf H TF.la45 0 0 rfl rfl rfl rfl) fun a hf=>?_
   refine zp 7 hf hS fun a hf=>?_
   refine zp 8 hf hS fun a hf=>?_
   refine strT (H.lk 6 0 0 [1]) (fun w H=>H.lk 2 0 0 [0]) fun hS=>?_
   refine zS 9 [] rfl rfl rfl rfl hf hS (fun w H=>rq_loadB hf H TF.ls3 0 rfl rfl rfl) fun a hf=>?_
   obtain ⟨y8,hy8,hR1⟩:=bs_ hR1
   refine nn 6 rfl (oC hf TF.cl185 (spec_l9Along_ok (S:=TT) (Plan_mkv (x:=r'.Plan) (H.rt 10 rfl) (H.rt 9 rfl) (H.rt 8 rfl)) (Route_mkv (x:=e2) (H.rt 0 rfl)) hy8) fun v8 w a hp9 hf=>?_)
   obtain ⟨hb7,hp9⟩:=hp9
   obtain rfl:=VR_int hp9
   have H:=H.keep hb7
   have hS:=H.lk 6 0 0 [1]
   refine aS hS ?_
   obtain ⟨y9,hy9,hR1⟩:=bs_ hR1
   refine nn 10 rfl (oC hf TF.cl228 (spec_l8Fits_ok (S:=TT) mk_int mk_int hy9) fun v9 w a hp10 hf=>?_)
   obtain ⟨hb8,F3,hp11,hN2⟩:=hp10
   obtain ⟨A11,c13,rfl,hl10⟩:=VO_list hp11
   have H:=H.aO1 hb8 hN2 hl10
   have H:=H.lend 0 rfl
   have hS:=H.lk 6 0 0 [2]
   refine aS hS ?_
   refine zp 11 hf hS fun a hf=>?_
   refine dk ?_
   have hf:=hf.pn [2,3,4,7,8,9,10]
   refine then_n (sqz (pz 3 hf fun a hf=>?_))
   refine wl_end (then_n (ib hR1 hf (fun hc6 hR1=>?_) fun hc6 hR1=>?_))
   ·refine sq (dw [15] 17 fun w hb=>?_)
    have H:=H.keep hb
    refine zp 0 hf trivial fun a hf=>?_
    refine strT (H.lk 2 0 0 []) (fun w H=>trivial) fun hS=>?_
    refine zS 1 [1,14,15,16] rfl rfl rfl rfl hf hS (fun w H=>rq_loadB hf H TF.ls3 0 rfl rfl rfl) fun a hf=>?_
    refine zp 2 hf hS fun a hf=>?_
    refine zp 3 hf hS fun a hf=>?_
    obtain ⟨e3,he3,hR1⟩:=bs_ hR1
    obtain ⟨p3,o3,cs3,hx3,hr3,H⟩:=pre_iaddr H Tryz.underlying230 TF.sz45 5 rfl he3
    refine zP 4 rfl rfl rfl rfl hf hS (fun w=>rq_iaddrE hf rfl rfl rfl hx3 w) fun a hf=>?_
    obtain ⟨A12,c14,rfl,hl11⟩:=Route_cells hr3
    have H:=H.pF hl11
    refine strT (H.lk 2 0 0 [1]) (fun w H=>H.lk 1 0 0 []) fun hS=>?_
    refine zS 5 [5,6,14,15,16] rfl rfl rfl rfl hf hS (fun w H=>rq_loadIN hf H TF.la45 0 0 rfl rfl rfl rfl) fun a hf=>?_
    refine zp 7 hf hS fun a hf=>?_
    obtain ⟨e4,he4,hR1⟩:=bs_ hR1
    obtain ⟨p4,o4,cs4,hx4,hr4,H⟩:=pre_iaddr H Tryz.underlying35 TF.sz3 2 rfl he4
    refine zP 8 rfl rfl rfl rfl hf hS (fun w=>rq_iaddrE hf rfl rfl rfl hx4 w) fun a hf=>?_
    obtain rfl:=hr4
    refine strT (H.lk 2 0 0 [0,2]) (fun w H=>H.lk 1 0 0 [1]) fun hS=>?_
    refine zS 9 [9,13,14,15,16] rfl rfl rfl rfl hf hS (fun w H=>rq_loadI hf H TF.ls3 0 0 rfl rfl rfl) fun a hf=>?_
    refine zp 10 hf hS fun a hf=>?_
    refine zp 11 hf hS fun a hf=>?_
    refine zS 12 [12,13,14,15,16] rfl rfl rfl rfl hf hS (fun w H=>rq_loadB hf H TF.ls3 0 rfl rfl rfl) fun a hf=>?_
    refine zP 13 rfl rfl rfl rfl hf hS (fun w=>rq_build hf (cs:=[(.int .i64 e4),(.int .i64 home.Block.Count)]) rfl (fun w=>by kernel_rfl)) fun a hf=>?_
    obtain ⟨y10,hy10,hR1⟩:=bs_ hR1
    refine nn 6 rfl (oC hf TF.cl249 (spec_l4Own_ok (S:=TT) (Route_mkv (x:=e3) (H.rt 1 rfl)) hy10) fun v10 w a hp12 hf=>?_)
    obtain ⟨hb9,F5,hp13,hN3⟩:=hp12
    obtain ⟨A13,c15,F6,rfl,rfl,hl12⟩:=Route_vo hp13
    have H:=H.aO1 hb9 hN3 hl12
    have H:=H.lend 0 rfl
    have hS:=H.lk 2 0 0 [1,3]
    refine aS hS ?_
    refine zP 14 rfl rfl rfl rfl hf hS (fun w=>rq_build hf (cs:=[(.int .i64 home.Id),(.int .i64 y10.Start),(.slice A13 y10.Fibers.length c15),(.int .i64 e4),(.int .i64 home.Block.Count)]) rfl (fun w=>by kernel_rfl)) fun a hf=>?_
    refine nn 15 rfl (op_storeB hf H 0 TF.sz49 rfl rfl rfl rfl rfl rfl (nle rfl) fun w H=>?_)
    refine ⟨fun h=>absurd h (by decide),?_⟩
    refine tp 16 rfl rfl hf (by kernel_rfl) (fun h=>absurd h (by decide)) rfl fun a hf=>?_
    refine dk ?_
    have hf:=hf.pn [4,5]
    refine then_n (wp_ret (blk_r (then_r (then_r (blk_r (then_r (then_r (?_))))))))
    obtain rfl:=oi hR1
    replace hF:=on_ret hF
    obtain rfl:=oi hF
    refine ret_2 hf rfl (rv_cellN hf H 0 TF.la49 rfl rfl rfl) (rv_tmp hf rfl) ?_
    have hN:=H.ends1
    exact ⟨_,rfl,H.bel,F6,_,_,rfl,⟨_,Light_ownmk (x:=({ Id:=home.Id,Route:=y10,Block:=({ First:=e4,Count:=home.Block.Count }:Block) }:Light)) (H.ownAt 0 rfl),rfl⟩,mk_bool,by first | exact hN | simpa using hN⟩
   refine wp_skip (blk_n (then_n (reg (pz 3 hf fun a hf=>?_))))
   refine wl_end ?_
   have hf:=hf.pn [2,3,4,7,8,9]
   have H:=H.lm 7 0 0 12 4064
   exact then_n ⟨w64 (i + 1),hR1,hf,H⟩
  refine wp_exit (then_x (then_x (blk_e (?_))))
  have hf:=hf.pn [2,3,4,7,8,9]
  have H:=H.lm 7 0 0 7 127
  exact ⟨i,(Option.some.inj hR1).symm,hf,H⟩
 rintro a w ⟨i2,rfl,hf,H⟩
 replace hF:=on_next hF
 refine then_n (sq (reg (oq hf (rq_build hf (cs:=[(.int .i64 0),(.int .i64 0),(.slice none 0 0),(.int .i64 0),(.int .i64 0)]) rfl (fun w=>by kernel_rfl)) fun a hf=>?_)))
 refine sB 0 hf H TF.sz49 fun w H=>?_
 refine pz 1 hf fun a hf=>?_
 refine wer ?_
 have H:=H.ownNil (Int)
 have H:=H.lend 0 rfl
 obtain rfl:=oi hF
 refine ret_2 hf rfl (rv_cellN hf H 0 TF.la49 rfl rfl rfl) (rv_tmp hf rfl) ?_
 have hN:=H.ends1
 exact ⟨_,rfl,H.bel,[],_,_,rfl,⟨_,Light_ownmk (x:=({ Id:=0,Route:=({ Start:=0,Fibers:=[] }:Route),Block:=({ First:=0,Count:=0 }:Block) }:Light)) (H.ownAt 0 rfl),rfl⟩,mk_bool,by first | exact hN | simpa using hN⟩
theorem spec_l15Restore_ok {S:Nat→Prop} {v0_:Value} {v1_:Value} {r':Restoration} {i:Int} {r:Restoration×Bool} (h0:VR w0 S v0_ r') (h1:VR w0 S v1_ i) (hF:spec_l15Restore fu r' i=some r) :
    Calls Tryz.prog 177 [v0_,v1_].toArray w0 fun e w'=>∃ v,e=.returned v∧(∃ (A0_0:Option Addr) (c0_0:Nat) (F0_0:List Nat) (A0_1:Option Addr) (c0_1:Nat) (F0_1:List Nat) (A0_2:Option Addr) (c0_2:Nat) (E0_2:Go.TypeId) (A0_3:Option Addr) (c0_3:Nat) (F0_3:List Nat) (A0_4:Option Addr) (c0_4:Nat) (E0_4:Go.TypeId),v=.tuple #[(.agg #[(.slice A0_0 r.1.Plan.Network.Nodes.length c0_0),(.slice A0_1 r.1.Plan.Network.Fibers.length c0_1),(.slice A0_2 r.1.Plan.Lights.length c0_2),(.slice A0_3 r.1.Home.length c0_3),(.slice A0_4 r.1.Down.length c0_4)]),(.bool r.2)]∧Mem ⟨w0,[]⟩ S [] [⟨.sh true,E0_2,A0_2,c0_2,(r.1.Plan.Lights:List Light)⟩,⟨.sh true,E0_4,A0_4,c0_4,(r.1.Down:List Int)⟩] [⟨F0_0,MP.own F0_0 [(.slice A0_0 r.1.Plan.Network.Nodes.length c0_0)] (r.1.Plan.Network.Nodes:List ByteArray)⟩,⟨F0_1,MP.own F0_1 [(.slice A0_1 r.1.Plan.Network.Fibers.length c0_1)] (r.1.Plan.Network.Fibers:List Fiber)⟩,⟨F0_3,MP.own F0_3 [(.slice A0_3 r.1.Home.length c0_3)] (r.1.Home:List Light)⟩] [] w'):=by
 obtain ⟨A,c,A2,c2,A3,c3,A4,c4,A5,c5,rfl,hl,hl2,hl3,hl4,hl5⟩:=Restoration_open h0
 obtain rfl:=VR_int h1
 have H:=Mem.start ⟨w0,[]⟩ S
 have H:=H.pA hl
 have H:=H.pA hl2
 have H:=H.pA hl3
 have H:=H.pA hl4
 have H:=H.pA hl5
 refine en Tryz.func177 fun a hf=>?_
 rw [spec_l15Restore] at hF
 refine bx hf H fun b' a w hf H=>?_
 refine aL hf H TF.zv60 fun b2 a w hf H=>?_
 refine pz 1 hf fun a hf=>?_
 refine wl_end (then_n (sq ?_))
 obtain ⟨e,he,hF⟩:=bs_ hF
 obtain ⟨y,hy,hF⟩:=bs_ hF
 refine mid (fun a w=>∃ (b3:Nat) (A7:Option Addr) (c7:Nat) (F2:List Nat),Fr a 29 [(2,(.pointer (some ⟨b',0,none⟩))),(4,(.pointer (some ⟨b2,0,none⟩))),(6,(.pointer (some ⟨b3,0,none⟩))),(7,(.bool y.2))]∧Mem ⟨w0,[]⟩ S [⟨b3,49,[(.int .i64 y.1.Id),(.int .i64 y.1.Route.Start),(.slice A7 y.1.Route.Fibers.length c7),(.int .i64 y.1.Block.First),(.int .i64 y.1.Block.Count)]⟩,⟨b2,60,[(.slice none 0 0),(.slice none 0 0),(.slice none 0 0),(.slice none 0 0),(.slice none 0 0)]⟩,⟨b',60,[(.slice A r'.Plan.Network.Nodes.length c),(.slice A2 r'.Plan.Network.Fibers.length c2),(.slice A3 r'.Plan.Lights.length c3),(.slice A4 r'.Home.length c4),(.slice A5 r'.Down.length c5)]⟩] [] [⟨F2,MP.own F2 [(.slice A7 y.1.Route.Fibers.length c7)] (y.1.Route.Fibers:List Int)⟩] [(true,MP.val [(.slice A7 y.1.Route.Fibers.length c7)] (y.1.Route.Fibers:List Int)),(false,MP.val [(.slice A5 r'.Down.length c5)] (r'.Down:List Int)),(false,MP.val [(.slice A4 r'.Home.length c4)] (r'.Home:List Light)),(false,MP.val [(.slice A3 r'.Plan.Lights.length c3)] (r'.Plan.Lights:List Light)),(false,MP.val [(.slice A2 r'.Plan.Network.Fibers.length c2)] (r'.Plan.Network.Fibers:List Fiber)),(false,MP.val [(.slice A r'.Plan.Network.Nodes.length c)] (r'.Plan.Network.Nodes:List ByteArray))] w) ?_ ?_
 ·refine dw [11] 13 fun w hb=>?_
  have H:=H.keep hb
  refine strT (H.lk 2 0 0 []) (fun w H=>trivial) fun hS=>?_
  refine zS 0 [0,6,7,8,9,11,12] rfl rfl rfl rfl hf hS (fun w H=>rq_loadBN hf H TF.la60 0 rfl rfl rfl rfl) fun a hf=>?_
  refine zp 1 hf hS fun a hf=>?_
  refine zS 2 [2,4,5,6,7,8,9,11,12] rfl rfl rfl rfl hf hS (fun w H=>rq_loadB hf H TF.ls28 0 rfl rfl rfl) fun a hf=>?_
  refine zp 3 hf hS fun a hf=>?_
  obtain ⟨p,o,cs,hx,hr,H⟩:=pre_iaddr H Tryz.underlying28 TF.sz49 1 rfl he
  refine zP 4 rfl rfl rfl rfl hf hS (fun w=>rq_iaddrE hf rfl rfl rfl hx w) fun a hf=>?_
  obtain ⟨A6,c6,rfl,hl6⟩:=Light_cells hr
  have H:=H.pF hl6
  refine strT (H.lk 2 0 0 [1]) (fun w H=>H.lk 1 0 0 []) fun hS=>?_
  refine zS 5 [5,6,7,8,9,11,12] rfl rfl rfl rfl hf hS (fun w H=>rq_loadIN hf H TF.la49 0 0 rfl rfl rfl rfl) fun a hf=>?_
  refine on2 (i:=6) (j:=10) (bi:=[true,true,true,true,true,true,true,false,false,false,false,false,false]) (bj:=[true,true,true,true,true,true,false,false,false,false,true,false,false]) (by kernel_rfl) rfl rfl rfl rfl rfl rfl ?_ ?_
  ·refine (oC hf TF.cl246 (spec_l15Place_ok (S:=TT) (Restoration_mkv (x:=r') (H.rt 6 rfl) (H.rt 5 rfl) (H.rt 4 rfl) (H.rt 3 rfl) (H.rt 2 rfl)) (Light_mkv (x:=e) (H.rt 0 rfl)) hy) fun v w a hp hf=>?_)
   obtain ⟨hb,F,v2,v3,rfl,hp2,hp3,hN⟩:=hp
   obtain ⟨A7,c7,F2,rfl,rfl,hl7⟩:=Light_vo hp2
   obtain rfl:=VR_bool hp3
   have H:=H.aO1 hb hN hl7
   have H:=H.lend 0 rfl
   have hS:=H.lk 2 0 0 [2]
   refine aS hS ?_
   refine zp 7 hf hS fun a hf=>?_
   refine zp 8 hf hS fun a hf=>?_
   refine zp 9 hf hS fun a hf=>?_
   refine nn 10 rfl (op_alloc hf H TF.zv49 rfl (by decide) fun b3 a w hf H=>?_)
   have hS:=H.lk 4 0 0 [2]
   refine aS hS ?_
   refine nn 11 rfl (op_storeB hf H 0 TF.sz49 rfl rfl rfl rfl rfl rfl (nle rfl) fun w H=>?_)
   refine ⟨fun h=>absurd h (by decide),?_⟩
   refine tp 12 rfl rfl hf (by kernel_rfl) (fun h=>absurd h (by decide)) rfl fun a hf=>?_
   refine dk ?_
   have hf:=hf.pn [2,4,6,7]
   have H:=H.lm 7 0 1 8 249
   exact ⟨b3,A7,c7,F2,hf,H⟩
  refine (op_alloc hf H TF.zv49 rfl (by decide) fun b3 a w hf H=>?_)
  have hS:=H.lk 4 0 0 [1]
  refine aS hS ?_
  refine nn 6 rfl (oC hf TF.cl246 (spec_l15Place_ok (S:=TT) (Restoration_mkv (x:=r') (H.rt 6 rfl) (H.rt 5 rfl) (H.rt 4 rfl) (H.rt 3 rfl) (H.rt 2 rfl)) (Light_mkv (x:=e) (H.rt 0 rfl)) hy) fun v w a hp hf=>?_)
  obtain ⟨hb,F,v2,v3,rfl,hp2,hp3,hN⟩:=hp
  obtain ⟨A7,c7,F2,rfl,rfl,hl7⟩:=Light_vo hp2
  obtain rfl:=VR_bool hp3
  have H:=H.aO1 hb hN hl7
  have H:=H.lend 0 rfl
  have hS:=H.lk 4 0 0 [2]
  refine aS hS ?_
  refine zp 7 hf hS fun a hf=>?_
  refine zp 8 hf hS fun a hf=>?_
  refine zp 9 hf hS fun a hf=>?_
  refine nn 11 rfl (op_storeB hf H 0 TF.sz49 rfl rfl rfl rfl rfl rfl (nle rfl) fun w H=>?_)
  refine ⟨fun h=>absurd h (by decide),?_⟩
  refine tp 12 rfl rfl hf (by kernel_rfl) (fun h=>absurd h (by decide)) rfl fun a hf=>?_
  refine dk ?_
  have hf:=hf.pn [2,4,6,7]
  have H:=H.lm 7 0 1 8 249
  exact ⟨b3,A7,c7,F2,hf,H⟩
 rintro a w ⟨b3,A7,c7,F2,hf,H⟩
 refine then_n (sq (reg (lN 2 hf H TF.la60 fun a hf=>?_)))
 obtain ⟨y2,hy2,hF⟩:=bs_ hF
 refine oc hf TF.cl176 (spec_l15Own_ok (S:=TT) (Restoration_mkv (x:=r') (H.rt 5 rfl) (H.rt 4 rfl) (H.rt 3 rfl) (H.rt 2 rfl) (H.rt 1 rfl)) hy2) fun v4 w a hp4 hf=>?_
 obtain ⟨hb2,F3,hp5,hN2⟩:=hp4
 obtain ⟨A8,c8,F4,A9,c9,F5,A10,c10,F6,A11,c11,F7,A12,c12,F8,rfl,rfl,hl8,hl9,hl10,hl11,hl12⟩:=Restoration_vo hp5
 obtain ⟨Fs,E,H⟩:=H.addOwnRow hb2 (X:=[(⟨F4,MP.own F4 [(.slice A8 y2.Plan.Network.Nodes.length c8)] (y2.Plan.Network.Nodes:List ByteArray)⟩:DI),(⟨F5,MP.own F5 [(.slice A9 y2.Plan.Network.Fibers.length c9)] (y2.Plan.Network.Fibers:List Fiber)⟩:DI),(⟨F6,MP.own F6 [(.slice A10 y2.Plan.Lights.length c10)] (y2.Plan.Lights:List Light)⟩:DI),(⟨F7,MP.own F7 [(.slice A11 y2.Home.length c11)] (y2.Home:List Light)⟩:DI)]) (by simpa using hN2.1) (ps1 hl8 (ps1 hl9 (ps1 hl10 (ps1 hl11 ps0)))) hl12 (by simpa using hN2.2)
 have H:=H.rowSh 0 rfl
 have H:=H.lend 0 rfl
 have H:=H.lend 1 rfl
 have H:=H.lend 2 rfl
 have H:=H.lend 3 rfl
 refine aL hf H TF.zv60 fun b4 a w hf H=>?_
 refine sB 0 hf H TF.sz60 fun w H=>?_
 refine we (sqz (pz 1 hf fun a hf=>?_))
 refine wl_end (then_n (ib hF hf (fun hc hF=>?_) fun hc hF=>?_))
 ·refine reg (pz 1 hf fun a hf=>?_)
  refine lN 0 hf H TF.la30 fun a hf=>?_
  refine lN 1 hf H TF.la49 fun a hf=>?_
  obtain ⟨y3,hy3,hF⟩:=bs_ hF
  refine oc hf TF.cl187 (spec_l9Put_ok (S:=TT) (Plan_mkv (x:=y2.Plan) (H.rt 3 rfl) (H.rt 2 rfl) (H.rt 1 rfl)) (Light_mkv (x:=y.1) (H.rt 4 rfl)) hy3) fun v5 w a hp6 hf=>?_
  obtain ⟨A13,c13,F9,A14,c14,F10,A15,c15,E2,rfl,Hc⟩:=hp6
  have H:=H.comp Hc (.inl rfl)
  have H:=H.lend 0 rfl
  have H:=H.lend 1 rfl
  refine pz 1 hf fun a hf=>?_
  refine sB 0 hf H TF.sz30 fun w H=>?_
  refine wr (lN 0 hf H TF.la60 fun a hf=>?_)
  refine pz 1 hf fun a hf=>?_
  refine sB 2 hf H TF.sz60 fun w H=>?_
  refine pz 1 hf fun a hf=>?_
  have hf:=hf.pn [4,5]
  refine wer ?_
  have H:=H.frontR 1 rfl
  have H:=H.frontR 1 rfl
  have H:=H.frontD 5 rfl
  have H:=H.frontD 2 rfl
  have H:=H.frontD 2 rfl
  obtain rfl:=oi hF
  refine ret_2 hf rfl (rv_cellN hf H 2 TF.la60 rfl rfl rfl) (rv_tmp hf rfl) ?_
  have H:=H.lk 0 3 7 []
  exact ⟨_,rfl,A13,c13,F9,A14,c14,F10,A15,c15,E2,A11,c11,F7,A12,c12,E,rfl,H⟩
 refine wp_skip (then_n (sq (reg (lN 0 hf H TF.la60 fun a hf=>?_))))
 refine pz 1 hf fun a hf=>?_
 refine sB 2 hf H TF.sz60 fun w H=>?_
 refine pz 1 hf fun a hf=>?_
 refine wer ?_
 have H:=H.frontD 2 rfl
 obtain ⟨Fs2,E3,H,-⟩:=H.thaw rfl
 have H:=H.pA hl
 have H:=H.pA hl2
 have H:=H.pA hl3
 have H:=H.pA hl4
 have H:=H.pA hl5
 have H:=H.lend 0 rfl
 have H:=H.lend 1 rfl
 have H:=H.lend 2 rfl
 have H:=H.lend 3 rfl
 have H:=H.rowSh 0 rfl
 have H:=H.frontR 1 rfl
 have H:=H.frontR 1 rfl
 have H:=H.frontD 2 rfl
 have H:=H.frontD 2 rfl
 have H:=H.frontD 2 rfl
 obtain rfl:=oi hF
 refine ret_2 hf rfl (rv_cellN hf H 2 TF.la60 rfl rfl rfl) (rv_tmp hf rfl) ?_
 have H:=H.lk 0 3 7 []
 exact ⟨_,rfl,A8,c8,F4,A9,c9,F5,A10,c10,E3,A11,c11,F7,A12,c12,E,rfl,H⟩
theorem spec_l15All_ok {S:Nat→Prop} {v0_:Value} {r':Restoration} {r:Restoration×List Int} (h0:VR w0 S v0_ r') (hF:spec_l15All fu r'=some r) :
    Calls Tryz.prog 85 [v0_].toArray w0 fun e w'=>∃ v,e=.returned v∧(∃ (A0_0:Option Addr) (c0_0:Nat) (F0_0:List Nat) (A0_1:Option Addr) (c0_1:Nat) (F0_1:List Nat) (A0_2:Option Addr) (c0_2:Nat) (E0_2:Go.TypeId) (A0_3:Option Addr) (c0_3:Nat) (F0_3:List Nat) (A0_4:Option Addr) (c0_4:Nat) (E0_4:Go.TypeId) (A1_0:Option Addr) (c1_0:Nat) (F1_0:List Nat),v=.tuple #[(.agg #[(.slice A0_0 r.1.Plan.Network.Nodes.length c0_0),(.slice A0_1 r.1.Plan.Network.Fibers.length c0_1),(.slice A0_2 r.1.Plan.Lights.length c0_2),(.slice A0_3 r.1.Home.length c0_3),(.slice A0_4 r.1.Down.length c0_4)]),(.slice A1_0 r.2.length c1_0)]∧Mem ⟨w0,[]⟩ S [] [⟨.sh true,E0_2,A0_2,c0_2,(r.1.Plan.Lights:List Light)⟩,⟨.sh true,E0_4,A0_4,c0_4,(r.1.Down:List Int)⟩] [⟨F0_0,MP.own F0_0 [(.slice A0_0 r.1.Plan.Network.Nodes.length c0_0)] (r.1.Plan.Network.Nodes:List ByteArray)⟩,⟨F0_1,MP.own F0_1 [(.slice A0_1 r.1.Plan.Network.Fibers.length c0_1)] (r.1.Plan.Network.Fibers:List Fiber)⟩,⟨F0_3,MP.own F0_3 [(.slice A0_3 r.1.Home.length c0_3)] (r.1.Home:List Light)⟩,⟨F1_0,MP.own F1_0 [(.slice A1_0 r.2.length c1_0)] (r.2:List Int)⟩] [] w'):=by
 obtain ⟨A,c,A2,c2,A3,c3,A4,c4,A5,c5,rfl,hl,hl2,hl3,hl4,hl5⟩:=Restoration_open h0
 have H:=Mem.start ⟨w0,[]⟩ S
 have H:=H.pA hl
 have H:=H.pA hl2
 have H:=H.pA hl3
 have H:=H.pA hl4
 have H:=H.pA hl5
 refine en Tryz.func85 fun a hf=>?_
 rw [spec_l15All] at hF
 refine bx hf H fun b' a w hf H=>?_
 refine aL hf H TF.zv60 fun b2 a w hf H=>?_
 refine pz 1 hf fun a hf=>?_
 refine wr (lN 1 hf H TF.la60 fun a hf=>?_)
 obtain ⟨y,hy,hF⟩:=bs_ hF
 refine oc hf TF.cl176 (spec_l15Own_ok (S:=TT) (Restoration_mkv (x:=r') (H.rt 4 rfl) (H.rt 3 rfl) (H.rt 2 rfl) (H.rt 1 rfl) (H.rt 0 rfl)) hy) fun v w a hp hf=>?_
 obtain ⟨hb,F,hp2,hN⟩:=hp
 obtain ⟨A6,c6,F2,A7,c7,F3,A8,c8,F4,A9,c9,F5,A10,c10,F6,rfl,rfl,hl6,hl7,hl8,hl9,hl10⟩:=Restoration_vo hp2
 obtain ⟨Fs,E,H⟩:=H.addOwnRow hb (X:=[(⟨F2,MP.own F2 [(.slice A6 y.Plan.Network.Nodes.length c6)] (y.Plan.Network.Nodes:List ByteArray)⟩:DI),(⟨F3,MP.own F3 [(.slice A7 y.Plan.Network.Fibers.length c7)] (y.Plan.Network.Fibers:List Fiber)⟩:DI),(⟨F4,MP.own F4 [(.slice A8 y.Plan.Lights.length c8)] (y.Plan.Lights:List Light)⟩:DI),(⟨F5,MP.own F5 [(.slice A9 y.Home.length c9)] (y.Home:List Light)⟩:DI)]) (by simpa using hN.1) (ps1 hl6 (ps1 hl7 (ps1 hl8 (ps1 hl9 ps0)))) hl10 (by simpa using hN.2)
 have H:=H.rowSh 0 rfl
 have H:=H.lend 0 rfl
 have H:=H.lend 1 rfl
 have H:=H.lend 2 rfl
 have H:=H.lend 3 rfl
 refine aL hf H TF.zv60 fun b3 a w hf H=>?_
 refine sB 0 hf H TF.sz60 fun w H=>?_
 refine wr (wl0 rfl (bl hf H 3 ([]:List Int) [] el0 fun A11 a w hf H=>?_))
 refine pz 1 hf fun a hf=>?_
 refine wr (lN 2 hf H TF.la60 fun a hf=>?_)
 obtain ⟨y2,hy2,hF⟩:=bs_ hF
 refine oc hf TF.cl128 (spec_l15Waiting_ok (S:=TT) (Restoration_mkv (x:=r') (H.rt 8 rfl) (H.rt 7 rfl) (H.rt 6 rfl) (H.rt 5 rfl) (H.rt 4 rfl)) hy2) fun v2 w a hp3 hf=>?_
 obtain ⟨hb2,F7,hp4,hN2⟩:=hp3
 obtain ⟨A12,c11,rfl,hl11⟩:=VO_list hp4
 obtain ⟨Fs2,E2,H⟩:=H.addRow hb2 hl11 hN2
 have H:=H.rowSh 0 rfl
 refine pz 1 hf fun a hf=>?_
 refine we (sqz (pz 1 hf fun a hf=>?_))
 refine wl_end (then_n ?_)
 have H:=H.frontD 2 rfl
 obtain ⟨Fs3,E6,H,-⟩:=H.thaw rfl
 have H:=H.pA hl
 have H:=H.pA hl2
 have H:=H.pA hl3
 have H:=H.pA hl4
 have H:=H.pA hl5
 have H:=H.lend 0 rfl
 have H:=H.lend 1 rfl
 have H:=H.lend 2 rfl
 have H:=H.rowSh 0 rfl
 obtain ⟨out',hB1,hF⟩:=bs_ hF
 have hf:=hf.pn [1,2,4,5,6,7]
 have H:=H.frontR 1 rfl
 have H:=H.frontR 2 rfl
 have H:=H.frontR 2 rfl
 have H:=H.frontR 3 rfl
 have H:=H.frontD 1 rfl
 have H:=H.frontD 2 rfl
 have H:=H.lm 7 15 7 8 255
 refine loopC (fun (s:List Int×Int×List ByteArray×List Fiber×List Light×List Light×List Int) (a:Act) (w:World)=>match s with | (ids,i,m,m2,m3,m4,m5)=>∃ (A13:Option Addr) (c12:Nat) (E3:Go.TypeId) (A14:Option Addr) (c13:Nat) (F9:List Nat) (A15:Option Addr) (c14:Nat) (F10:List Nat) (A16:Option Addr) (c15:Nat) (E4:Go.TypeId) (A17:Option Addr) (c16:Nat) (F11:List Nat) (A18:Option Addr) (c17:Nat) (E5:Go.TypeId),Fr a 46 [(1,(.pointer (some ⟨b',0,none⟩))),(2,(.pointer (some ⟨b2,0,none⟩))),(4,(.pointer (some ⟨b3,0,none⟩))),(5,(.slice A13 ids.length c12)),(6,(.slice A12 y2.length c11)),(7,(.int .i64 i))]∧Mem ⟨w0,[]⟩ S [⟨b3,60,[(.slice A14 m.length c13),(.slice A15 m2.length c14),(.slice A16 m3.length c15),(.slice A17 m4.length c16),(.slice A18 m5.length c17)]⟩,⟨b2,60,[(.slice none 0 0),(.slice none 0 0),(.slice none 0 0),(.slice none 0 0),(.slice none 0 0)]⟩,⟨b',60,[(.slice A r'.Plan.Network.Nodes.length c),(.slice A2 r'.Plan.Network.Fibers.length c2),(.slice A3 r'.Plan.Lights.length c3),(.slice A4 r'.Home.length c4),(.slice A5 r'.Down.length c5)]⟩] [⟨.sh true,E5,A18,c17,(m5:List Int)⟩,⟨.sh true,E4,A16,c15,(m3:List Light)⟩,⟨.sh true,E3,A13,c12,(ids:List Int)⟩,⟨.sh true,E2,A12,c11,(y2:List Int)⟩] [⟨F11,MP.own F11 [(.slice A17 m4.length c16)] (m4:List Light)⟩,⟨F10,MP.own F10 [(.slice A15 m2.length c14)] (m2:List Fiber)⟩,⟨F9,MP.own F9 [(.slice A14 m.length c13)] (m:List ByteArray)⟩] [(true,MP.val [(.slice A17 m4.length c16)] (m4:List Light)),(true,MP.val [(.slice A15 m2.length c14)] (m2:List Fiber)),(true,MP.val [(.slice A14 m.length c13)] (m:List ByteArray)),(false,MP.val [(.slice A5 r'.Down.length c5)] (r'.Down:List Int)),(false,MP.val [(.slice A4 r'.Home.length c4)] (r'.Home:List Light)),(false,MP.val [(.slice A3 r'.Plan.Lights.length c3)] (r'.Plan.Lights:List Light)),(false,MP.val [(.slice A2 r'.Plan.Network.Fibers.length c2)] (r'.Plan.Network.Fibers:List Fiber)),(false,MP.val [(.slice A r'.Plan.Network.Nodes.length c)] (r'.Plan.Network.Nodes:List ByteArray))] w) (fun k (s:List Int×Int×List ByteArray×List Fiber×List Light×List Light×List Int)=>spec_l15All_L1 fu r' y2 k s.1 s.2.1 s.2.2.1 s.2.2.2.1 s.2.2.2.2.1 s.2.2.2.2.2.1 s.2.2.2.2.2.2=some out') (fun s=>out'=s) (([]:List Int),0,y.Plan.Network.Nodes,y.Plan.Network.Fibers,y.Plan.Lights,y.Home,y.Down) fu hB1 ⟨A11,0,3,A6,c6,F2,A7,c7,F3,A8,c8,E6,A9,c9,F5,A10,c10,E,hf,H⟩ (fun s h=>by cases h) ?_ ?_
 ·rintro fk ⟨ids,i,m,m2,m3,m4,m5⟩ a w hR1 hI
  replace hR1:spec_l15All_L1 fu r' y2 (fk + 1) ids i m m2 m3 m4 m5=some out':=hR1
  rw [spec_l15All_L1] at hR1
  obtain ⟨A13,c12,E3,A14,c13,F9,A15,c14,F10,A16,c15,E4,A17,c16,F11,A18,c17,E5,hf,H⟩:=hI
  refine sq (sqz (pz 4 hf fun a hf=>?_))
  refine wl_end (then_n (ib hR1 hf (fun hc hR1=>?_) fun hc hR1=>?_))
  ·refine wp_skip (then_n (sq (wp_block (sq ?_))))
   obtain ⟨e,he,hR1⟩:=bs_ hR1
   obtain ⟨y3,hy3,hR1⟩:=bs_ hR1
   refine mid (fun a w=>∃ (b4:Nat) (A19:Option Addr) (c18:Nat) (F12:List Nat) (A20:Option Addr) (c19:Nat) (F13:List Nat) (A21:Option Addr) (c20:Nat) (E7:Go.TypeId) (A22:Option Addr) (c21:Nat) (F14:List Nat) (A23:Option Addr) (c22:Nat) (E8:Go.TypeId),Fr a 46 [(1,(.pointer (some ⟨b',0,none⟩))),(2,(.pointer (some ⟨b2,0,none⟩))),(4,(.pointer (some ⟨b3,0,none⟩))),(5,(.slice A13 ids.length c12)),(6,(.slice A12 y2.length c11)),(7,(.int .i64 i)),(8,(.pointer (some ⟨b4,0,none⟩))),(9,(.bool y3.2))]∧Mem ⟨w0,[]⟩ S [⟨b4,60,[(.slice A19 y3.1.Plan.Network.Nodes.length c18),(.slice A20 y3.1.Plan.Network.Fibers.length c19),(.slice A21 y3.1.Plan.Lights.length c20),(.slice A22 y3.1.Home.length c21),(.slice A23 y3.1.Down.length c22)]⟩,⟨b3,60,[(.slice A14 m.length c13),(.slice A15 m2.length c14),(.slice A16 m3.length c15),(.slice A17 m4.length c16),(.slice A18 m5.length c17)]⟩,⟨b2,60,[(.slice none 0 0),(.slice none 0 0),(.slice none 0 0),(.slice none 0 0),(.slice none 0 0)]⟩,⟨b',60,[(.slice A r'.Plan.Network.Nodes.length c),(.slice A2 r'.Plan.Network.Fibers.length c2),(.slice A3 r'.Plan.Lights.length c3),(.slice A4 r'.Home.length c4),(.slice A5 r'.Down.length c5)]⟩] [⟨.sh true,E7,A21,c20,(y3.1.Plan.Lights:List Light)⟩,⟨.sh true,E8,A23,c22,(y3.1.Down:List Int)⟩,⟨.sh true,E5,A18,c17,(m5:List Int)⟩,⟨.sh true,E4,A16,c15,(m3:List Light)⟩,⟨.sh true,E3,A13,c12,(ids:List Int)⟩,⟨.sh true,E2,A12,c11,(y2:List Int)⟩] [⟨F12,MP.own F12 [(.slice A19 y3.1.Plan.Network.Nodes.length c18)] (y3.1.Plan.Network.Nodes:List ByteArray)⟩,⟨F13,MP.own F13 [(.slice A20 y3.1.Plan.Network.Fibers.length c19)] (y3.1.Plan.Network.Fibers:List Fiber)⟩,⟨F14,MP.own F14 [(.slice A22 y3.1.Home.length c21)] (y3.1.Home:List Light)⟩,⟨F11,MP.own F11 [(.slice A17 m4.length c16)] (m4:List Light)⟩,⟨F10,MP.own F10 [(.slice A15 m2.length c14)] (m2:List Fiber)⟩,⟨F9,MP.own F9 [(.slice A14 m.length c13)] (m:List ByteArray)⟩] [(true,MP.val [(.slice A22 y3.1.Home.length c21)] (y3.1.Home:List Light)),(true,MP.val [(.slice A20 y3.1.Plan.Network.Fibers.length c19)] (y3.1.Plan.Network.Fibers:List Fiber)),(true,MP.val [(.slice A19 y3.1.Plan.Network.Nodes.length c18)] (y3.1.Plan.Network.Nodes:List ByteArray)),(true,MP.val [(.slice A17 m4.length c16)] (m4:List Light)),(true,MP.val [(.slice A15 m2.length c14)] (m2:List Fiber)),(true,MP.val [(.slice A14 m.length c13)] (m:List ByteArray)),(false,MP.val [(.slice A5 r'.Down.length c5)] (r'.Down:List Int)),(false,MP.val [(.slice A4 r'.Home.length c4)] (r'.Home:List Light)),(false,MP.val [(.slice A3 r'.Plan.Lights.length c3)] (r'.Plan.Lights:List Light)),(false,MP.val [(.slice A2 r'.Plan.Network.Fibers.length c2)] (r'.Plan.Network.Fibers:List Fiber)),(false,MP.val [(.slice A r'.Plan.Network.Nodes.length c)] (r'.Plan.Network.Nodes:List ByteArray))] w) ?_ ?_
   ·refine dw [10] 12 fun w hb=>?_
    have H:=H.keep hb
    refine strT (H.lk 1 0 0 []) (fun w H=>trivial) fun hS=>?_
    refine zS 0 [0,5,6,7,8,10,11] rfl rfl rfl rfl hf hS (fun w H=>rq_loadBN hf H TF.la60 0 rfl rfl rfl rfl) fun a hf=>?_
    refine zp 1 hf hS fun a hf=>?_
    refine zp 2 hf hS fun a hf=>?_
    obtain ⟨p,o,hA,hx⟩:=pre_iaddrR H Tryz.underlying35 TF.sz3 3 rfl he
    refine zP 3 rfl rfl rfl rfl hf hS (fun w=>rq_iaddrE hf rfl rfl rfl hx w) fun a hf=>?_
    refine strT (H.lk 1 8 0 []) (fun w H=>H.lk 1 0 0 []) fun hS=>?_
    refine zS 4 [4,5,6,7,8,10,11] rfl rfl rfl rfl hf hS (fun w H=>rq_loadRow (off:=0) hf H TF.ls3 0 rfl rfl hA he (fun w T cs h=>by obtain rfl:=h; rfl)) fun a hf=>?_
    refine on2 (i:=5) (j:=9) (bi:=[true,true,true,true,true,true,false,false,false,false,false,false]) (bj:=[true,true,true,true,true,false,false,false,false,true,false,false]) (by kernel_rfl) rfl rfl rfl rfl rfl rfl ?_ ?_
    ·refine (oC hf TF.cl177 (spec_l15Restore_ok (S:=TT) (Restoration_mkv (x:=({ Plan:=({ Network:=({ Nodes:=m,Fibers:=m2 }:Network),Lights:=m3 }:Plan),Home:=m4,Down:=m5 }:Restoration)) (H.rt 2 rfl) (H.rt 1 rfl) (H.rowTrue 1 rfl) (H.rt 0 rfl) (H.rowTrue 0 rfl)) mk_int hy3) fun v3 w a hp5 hf=>?_)
     obtain ⟨A19,c18,F12,A20,c19,F13,A21,c20,E7,A22,c21,F14,A23,c22,E8,rfl,Hc⟩:=hp5
     have H:=H.comp Hc (.inl rfl)
     have H:=H.lend 0 rfl
     have H:=H.lend 1 rfl
     have H:=H.lend 2 rfl
     have hS:=H.lk 1 32 0 []
     refine aS hS ?_
     refine zp 6 hf hS fun a hf=>?_
     refine zp 7 hf hS fun a hf=>?_
     refine zp 8 hf hS fun a hf=>?_
     refine nn 9 rfl (op_alloc hf H TF.zv60 rfl (by decide) fun b4 a w hf H=>?_)
     have hS:=H.lk 2 32 0 []
     refine aS hS ?_
     refine nn 10 rfl (op_storeB hf H 0 TF.sz60 rfl rfl rfl rfl rfl rfl (nle rfl) fun w H=>?_)
     refine ⟨fun h=>absurd h (by decide),?_⟩
     refine tp 11 rfl rfl hf (by kernel_rfl) (fun h=>absurd h (by decide)) rfl fun a hf=>?_
     refine dk ?_
     have hf:=hf.pn [1,2,4,5,6,7,8,9]
     have H:=H.lm 15 63 63 11 2047
     exact ⟨b4,A19,c18,F12,A20,c19,F13,A21,c20,E7,A22,c21,F14,A23,c22,E8,hf,H⟩
    refine (op_alloc hf H TF.zv60 rfl (by decide) fun b4 a w hf H=>?_)
    have hS:=H.lk 2 8 0 []
    refine aS hS ?_
    refine nn 5 rfl (oC hf TF.cl177 (spec_l15Restore_ok (S:=TT) (Restoration_mkv (x:=({ Plan:=({ Network:=({ Nodes:=m,Fibers:=m2 }:Network),Lights:=m3 }:Plan),Home:=m4,Down:=m5 }:Restoration)) (H.rt 2 rfl) (H.rt 1 rfl) (H.rowTrue 1 rfl) (H.rt 0 rfl) (H.rowTrue 0 rfl)) mk_int hy3) fun v3 w a hp5 hf=>?_)
    obtain ⟨A19,c18,F12,A20,c19,F13,A21,c20,E7,A22,c21,F14,A23,c22,E8,rfl,Hc⟩:=hp5
    have H:=H.comp Hc (.inl rfl)
    have H:=H.lend 0 rfl
    have H:=H.lend 1 rfl
    have H:=H.lend 2 rfl
    have hS:=H.lk 2 32 0 []
    refine aS hS ?_
    refine zp 6 hf hS fun a hf=>?_
    refine zp 7 hf hS fun a hf=>?_
    refine zp 8 hf hS fun a hf=>?_
    refine nn 10 rfl (op_storeB hf H 0 TF.sz60 rfl rfl rfl rfl rfl rfl (nle rfl) fun w H=>?_)
    refine ⟨fun h=>absurd h (by decide),?_⟩
    refine tp 11 rfl rfl hf (by kernel_rfl) (fun h=>absurd h (by decide)) rfl fun a hf=>?_
    refine dk ?_
    have hf:=hf.pn [1,2,4,5,6,7,8,9]
    have H:=H.lm 15 63 63 11 2047
    exact ⟨b4,A19,c18,F12,A20,c19,F13,A21,c20,E7,A22,c21,F14,A23,c22,E8,hf,H⟩
   rintro a w ⟨b4,A19,c18,F12,A20,c19,F13,A21,c20,E7,A22,c21,F14,A23,c22,E8,hf,H⟩
   refine then_n (sq (reg (lN 0 hf H TF.la60 fun a hf=>?_)))
   refine sB 1 hf H TF.sz60 fun w H=>?_
   refine wr (pz 1 hf fun a hf=>?_)
   refine wl_end (then_n (ib hR1 hf (fun hc2 hR1=>?_) fun hc2 hR1=>?_))
   ·refine dw [] 13 fun w hb=>?_
    have H:=H.keep hb
    refine zp 0 hf trivial fun a hf=>?_
    refine zp 1 hf trivial fun a hf=>?_
    refine strT (H.lk 8 0 0 []) (fun w H=>trivial) fun hS=>?_
    refine zS 2 [] rfl rfl rfl rfl hf hS (fun w H=>rq_loadB hf H TF.ls28 0 rfl rfl rfl) fun a hf=>?_
    refine zp 3 hf hS fun a hf=>?_
    refine zp 4 hf hS fun a hf=>?_
    obtain ⟨e2,he2,hR1⟩:=bs_ hR1
    obtain ⟨p2,o2,hA2,hx2⟩:=pre_iaddrR H Tryz.underlying35 TF.sz3 5 rfl he2
    refine zP 5 rfl rfl rfl rfl hf hS (fun w=>rq_iaddrE hf rfl rfl rfl hx2 w) fun a hf=>?_
    refine strT (H.lk 8 32 0 []) (fun w H=>H.lk 1 0 0 []) fun hS=>?_
    refine zS 6 [] rfl rfl rfl rfl hf hS (fun w H=>rq_loadRow (off:=0) hf H TF.ls3 0 rfl rfl hA2 he2 (fun w T cs h=>by obtain rfl:=h; rfl)) fun a hf=>?_
    obtain ⟨e3,he3,hR1⟩:=bs_ hR1
    obtain ⟨p3,o3,cs,hx3,hr,H⟩:=pre_iaddr H Tryz.underlying28 TF.sz49 7 rfl he3
    refine zP 7 rfl rfl rfl rfl hf hS (fun w=>rq_iaddrE hf rfl rfl rfl hx3 w) fun a hf=>?_
    obtain ⟨A24,c23,rfl,hl12⟩:=Light_cells hr
    have H:=H.pF hl12
    refine zp 8 hf hS fun a hf=>?_
    refine strT (H.lk 8 32 0 [1]) (fun w H=>H.lk 1 1 0 []) fun hS=>?_
    refine zS 9 [] rfl rfl rfl rfl hf hS (fun w H=>rq_loadI hf H TF.ls3 0 0 rfl rfl rfl) fun a hf=>?_
    refine nn 10 rfl (bl hf H 3 ([e3.Id]:List Int) [(.int .i64 e3.Id)] (el1 (y:=e3.Id) (rfl)) fun A25 a w hf H=>?_)
    have hS:=H.lk 8 64 0 [1]
    refine aS hS ?_
    obtain ⟨l,hl_,hR1⟩:=bs_ hR1
    refine nn 11 rfl (op_appR hf H Tryz.underlying35 TF.ai3 rfl (by decide) 5 0 rfl rfl rfl rfl (.inr rfl) hl_ (by decide) fun E9 A26 c24 a w hf H=>?_)
    have hS:=H.lk 8 64 0 [1]
    refine aS hS ?_
    refine zp 12 hf hS fun a hf=>?_
    refine dk ?_
    have hf:=hf.pn [1,2,4,5,6,7]
    refine blk_n (then_n (reg (pz 3 hf fun a hf=>?_)))
    refine wl_end ?_
    have H:=H.lm 15 111 63 13 8191
    have hf:=hf.pn [1,2,4,5,6,7]
    have H:=H.frontR 5 rfl
    have H:=H.frontR 5 rfl
    have H:=H.frontR 3 rfl
    have H:=H.frontR 4 rfl
    have H:=H.frontD 1 rfl
    have H:=H.frontD 2 rfl
    have H:=H.lm 14 15 7 13 7964
    exact then_n ⟨(l,w64 (i + 1),y3.1.Plan.Network.Nodes,y3.1.Plan.Network.Fibers,y3.1.Plan.Lights,y3.1.Home,y3.1.Down),hR1,A26,c24,E9,A19,c18,F12,A20,c19,F13,A21,c20,E7,A22,c21,F14,A23,c22,E8,hf,H⟩
   refine wp_skip (blk_n (then_n (reg (pz 3 hf fun a hf=>?_))))
   refine wl_end ?_
   have H:=H.lm 15 55 63 11 2047
   have hf:=hf.pn [1,2,4,5,6,7]
   have H:=H.frontR 4 rfl
   have H:=H.frontR 4 rfl
   have H:=H.frontR 2 rfl
   have H:=H.frontR 3 rfl
   have H:=H.frontD 1 rfl
   have H:=H.frontD 2 rfl
   have H:=H.lm 14 15 7 11 1991
   exact then_n ⟨(ids,w64 (i + 1),y3.1.Plan.Network.Nodes,y3.1.Plan.Network.Fibers,y3.1.Plan.Lights,y3.1.Home,y3.1.Down),hR1,A13,c12,E3,A19,c18,F12,A20,c19,F13,A21,c20,E7,A22,c21,F14,A23,c22,E8,hf,H⟩
  refine wp_exit (then_x (then_x (blk_e (?_))))
  have hf:=hf.pn [1,2,4,5,6,7]
  have H:=H.lm 7 15 7 8 255
  exact ⟨(ids,i,m,m2,m3,m4,m5),(Option.some.inj hR1).symm,A13,c12,E3,A14,c13,F9,A15,c14,F10,A16,c15,E4,A17,c16,F11,A18,c17,E5,hf,H⟩
 rintro a w ⟨⟨ids2,i2,m6,m7,m8,m9,m10⟩,rfl,A27,c25,E10,A28,c26,F15,A29,c27,F16,A30,c28,E11,A31,c29,F17,A32,c30,E12,hf,H⟩
 try dsimp only at hF
 refine then_n (sq (reg (lN 0 hf H TF.la60 fun a hf=>?_)))
 refine pz 1 hf fun a hf=>?_
 refine sB 1 hf H TF.sz60 fun w H=>?_
 refine pz 1 hf fun a hf=>?_
 refine wer ?_
 have H:=H.rowOwn 2 rfl rfl
 obtain ⟨F18,H⟩:=H.freezeOwn 2 rfl
 have H:=H.lend 0 rfl
 have H:=H.frontR 1 rfl
 have H:=H.frontD 1 rfl
 have H:=H.frontD 2 rfl
 have H:=H.frontD 3 rfl
 obtain rfl:=oi hF
 refine ret_2 hf rfl (rv_cellN hf H 1 TF.la60 rfl rfl rfl) (rv_tmp hf rfl) ?_
 have H:=H.lk 0 3 15 []
 exact ⟨_,rfl,A28,c26,F15,A29,c27,F16,A30,c28,E11,A31,c29,F17,A32,c30,E12,A27,c25,F18,rfl,H⟩
theorem spec_l1Put_ot {S:Nat→Prop} {v0_:Value} {v1_:Value} {l:List Int} {n':Int} {r:List Int} (h0:VR w0 S v0_ l) (h1:VR w0 S v1_ n') (hF:spec_l1Put fu l n'=some r) :
    Calls Tryz.prog 215 [v0_,v1_].toArray w0 fun e w'=>∃ v,e=.returned v∧(Below w0.heap.size w0 w'∧((∃ F0,VO w' F0 v r∧New w0 w' F0)∨(v=v0_∧r=l))):=by
 obtain ⟨A,c,rfl,hl⟩:=VR_list h0
 obtain rfl:=VR_int h1
 have H:=Mem.start ⟨w0,[]⟩ S
 have H:=H.pA hl
 refine en Tryz.func215 fun a hf=>?_
 rw [spec_l1Put] at hF
 refine sqz (pz 1 hf fun a hf=>?_)
 refine wr (pz 1 hf fun a hf=>?_)
 refine wl_end (then_n (sq ?_))
 obtain ⟨out',hB1,hF⟩:=bs_ hF
 have hf:=hf.pn [0,1,5]
 have H:=H.lk 0 0 0 [0]
 refine loopC (fun (s:Int) (a:Act) (w:World)=>match s with | k'=>Fr a 45 [(0,(.slice A l.length c)),(1,(.int .i64 n')),(5,(.int .i64 k'))]∧Mem ⟨w0,[]⟩ S [] [] [] [(false,MP.val [(.slice A l.length c)] (l:List Int))] w) (fun k (s:Int)=>spec_l1Put_L1 fu l n' k s=some out') (fun s=>out'=s) 0 fu hB1 ⟨hf,H⟩ (fun s h=>by cases h) ?_ ?_
 ·rintro fk k' a w hR1 hI
  replace hR1:spec_l1Put_L1 fu l n' (fk + 1) k'=some out':=hR1
  rw [spec_l1Put_L1] at hR1
  obtain ⟨hf,H⟩:=hI
  refine sq (sq ?_)
  obtain ⟨c2,hGc2,hR1⟩:=bs_ hR1
  have fh:=hf.prune [0,1,5] rfl
  have Hm:=H.lk 0 0 0 [0]
  refine midF 17 (.bool c2) fh Hm ?_ fun a w hf H=>?_
  ·refine reg (pz 5 hf fun a hf=>?_)
   refine iteB hGc2 (fun hc hGc2=>?_) fun hc hGc2=>?_
   ·have hf:=hf.lit 10 rfl hc
    refine pz 2 hf fun a hf=>?_
    obtain ⟨e,he,hGc2⟩:=bs_ hGc2
    refine wlg hf rfl rfl rfl (op_iaddr hf H Tryz.underlying35 TF.sz3 0 rfl rfl rfl he (by decide) fun p o cs a hf hr H=>?_)
    obtain rfl:=hr
    refine wlg hf rfl rfl rfl (op_q hf (rq_loadI hf H TF.ls3 0 0 rfl rfl rfl) rfl (by decide) fun a hf=>?_)
    refine pz 3 hf fun a hf=>?_
    obtain rfl:=oi hGc2
    have hf:=hf.pn [17,0,1,5]
    have H:=H.lk 0 0 0 [1]
    exact wl_end ⟨hf,H⟩
   have hf:=hf.lit 10 rfl hc
   refine pz 7 hf fun a hf=>?_
   obtain rfl:=oi hGc2
   have hf:=hf.pn [17,0,1,5]
   have H:=H.lk 0 0 0 [0]
   exact wl_end ⟨hf,H⟩
  refine then_n (ib hR1 hf (fun hc2 hR1=>?_) fun hc2 hR1=>?_)
  ·refine wp_skip (then_n (wp_block (reg (pz 3 hf fun a hf=>?_))))
   refine wl_end (blk_n ?_)
   have hf:=hf.pn [0,1,5]
   have H:=H.lk 0 0 0 [0]
   exact then_n ⟨w64 (k' + 1),hR1,hf,H⟩
  refine wp_exit (then_x (then_x (blk_e (?_))))
  have hf:=hf.pn [0,1,5]
  have H:=H.lk 0 0 0 [0]
  exact ⟨k',(Option.some.inj hR1).symm,hf,H⟩
 rintro a w ⟨out',rfl,hf,H⟩
 refine then_n (sq (sq ?_))
 obtain ⟨c3,hGc3,hF⟩:=bs_ hF
 have fh2:=hf.prune [0,1,5] rfl
 have Hm2:=H.lk 0 0 0 [0]
 refine midF 31 (.bool c3) fh2 Hm2 ?_ fun a w hf H=>?_
 ·refine reg (pz 5 hf fun a hf=>?_)
  refine iteB hGc3 (fun hc3 hGc3=>?_) fun hc3 hGc3=>?_
  ·have hf:=hf.lit 24 rfl hc3
   refine pz 2 hf fun a hf=>?_
   obtain ⟨e2,he2,hGc3⟩:=bs_ hGc3
   refine wlg hf rfl rfl rfl (op_iaddr hf H Tryz.underlying35 TF.sz3 0 rfl rfl rfl he2 (by decide) fun p2 o2 cs2 a hf hr2 H=>?_)
   obtain rfl:=hr2
   refine wlg hf rfl rfl rfl (op_q hf (rq_loadI hf H TF.ls3 0 0 rfl rfl rfl) rfl (by decide) fun a hf=>?_)
   refine pz 3 hf fun a hf=>?_
   obtain rfl:=oi hGc3
   have hf:=hf.pn [31,0,1,5]
   have H:=H.lk 0 0 0 [1]
   exact wl_end ⟨hf,H⟩
  have hf:=hf.lit 24 rfl hc3
  refine pz 7 hf fun a hf=>?_
  obtain rfl:=oi hGc3
  have hf:=hf.pn [31,0,1,5]
  have H:=H.lk 0 0 0 [0]
  exact wl_end ⟨hf,H⟩
 refine then_n (ib hF hf (fun hc4 hF=>?_) fun hc4 hF=>?_)
 ·refine sqz (pz 2 hf fun a hf=>?_)
  refine wl_end (then_n (wp_ret (then_r (?_))))
  obtain rfl:=oi hF
  refine rT hf ?_
  exact ⟨_,rfl,H.bel,.inr ⟨rfl,rfl⟩⟩
 refine wp_skip (then_n (sq ?_))
 obtain ⟨l2,hl2_,hF⟩:=bs_ hF
 obtain ⟨l3,hl3_,hF⟩:=bs_ hF
 obtain ⟨l4,hl4_,hF⟩:=bs_ hF
 obtain ⟨l5,hl5_,hF⟩:=bs_ hF
 obtain ⟨l6,hl6_,hF⟩:=bs_ hF
 refine mid (fun a w=>∃ (A8:Option Addr) (c8:Nat) (E3:Go.TypeId),Fr a 45 [(4,(.slice A8 l6.length c8))]∧Mem ⟨w0,[]⟩ S [] [⟨.sh true,E3,A8,c8,(l6:List Int)⟩] [] [] w) ?_ ?_
 ·refine dw [] 13 fun w hb=>?_
  have H:=H.keep hb
  refine zp 1 hf trivial fun a hf=>?_
  refine zp 2 hf trivial fun a hf=>?_
  obtain ⟨A2,c4,hx,H⟩:=pre_slice H Tryz.underlying35 TF.sz3 0 (lov:=none) (hiv:=some (.int .i64 out')) (.inl ⟨rfl,rfl⟩) (.inr rfl) rfl hl2_
  refine tP 3 rfl rfl rfl rfl hf (by kernel_rfl) (fun _=>trivial) (fun w=>rq_sliceE hf rfl rfl rfl hx w) fun a hf=>?_
  refine zp 5 hf trivial fun a hf=>?_
  refine zp 8 hf trivial fun a hf=>?_
  refine zp 9 hf trivial fun a hf=>?_
  obtain ⟨A3,c5,hx2,H⟩:=pre_slice H Tryz.underlying35 TF.sz3 1 (lov:=some (.int .i64 out')) (hiv:=none) (.inr rfl) (.inl ⟨rfl,rfl⟩) rfl hl3_
  refine tP 10 rfl rfl rfl rfl hf (by kernel_rfl) (fun _=>trivial) (fun w=>rq_sliceE hf rfl rfl rfl hx2 w) fun a hf=>?_
  refine on2 (i:=0) (j:=6) (bi:=[true,true,true,true,false,true,false,false,true,true,true,false,false]) (bj:=[false,true,true,true,false,true,true,false,true,true,true,false,false]) (by kernel_rfl) rfl rfl rfl rfl rfl rfl ?_ ?_
  ·refine (bl hf H 3 ([]:List Int) [] el0 fun A4 a w hf H=>?_)
   refine ⟨fun _=>trivial,?_⟩
   refine on2 (i:=4) (j:=6) (bi:=[true,true,true,true,true,true,false,false,true,true,true,false,false]) (bj:=[true,true,true,true,false,true,true,false,true,true,true,false,false]) (by kernel_rfl) rfl rfl rfl rfl rfl rfl ?_ ?_
   ·have H:=H.rowWeak 0 rfl
    refine (op_appI hf H Tryz.underlying35 TF.ai3 rfl (by decide) 0 1 rfl rfl rfl rfl (.inl rfl) hl4_ (by decide) fun E A5 c6 a w hf H=>?_)
    have H:=H.rowOwn 0 rfl rfl
    have H:=H.rowSh 0 rfl
    refine ⟨fun _=>trivial,?_⟩
    refine nn 6 rfl (bl hf H 3 ([n']:List Int) [(.int .i64 n')] (el1 (y:=n') (rfl)) fun A6 a w hf H=>?_)
    refine ⟨fun _=>trivial,?_⟩
    refine nn 7 rfl (op_appR hf H Tryz.underlying35 TF.ai3 rfl (by decide) 1 0 rfl rfl rfl rfl (.inr rfl) hl5_ (by decide) fun E2 A7 c7 a w hf H=>?_)
    refine ⟨fun _=>trivial,?_⟩
    have H:=H.rowWeak 1 rfl
    refine nn 11 rfl (op_appI hf H Tryz.underlying35 TF.ai3 rfl (by decide) 1 0 rfl rfl rfl rfl (.inl rfl) hl6_ (by decide) fun E3 A8 c8 a w hf H=>?_)
    have H:=H.rowOwn 1 rfl rfl
    have H:=H.rowSh 1 rfl
    refine ⟨fun _=>trivial,?_⟩
    refine zp 12 hf trivial fun a hf=>?_
    refine dk ?_
    have hf:=hf.pn [4]
    have H:=H.lk 0 2 0 []
    exact ⟨A8,c8,E3,hf,H⟩
   refine (bl hf H 3 ([n']:List Int) [(.int .i64 n')] (el1 (y:=n') (rfl)) fun A5 a w hf H=>?_)
   refine ⟨fun _=>trivial,?_⟩
   have H:=H.rowWeak 1 rfl
   refine nn 4 rfl (op_appI hf H Tryz.underlying35 TF.ai3 rfl (by decide) 1 1 rfl rfl rfl rfl (.inl rfl) hl4_ (by decide) fun E A6 c6 a w hf H=>?_)
   have H:=H.rowOwn 1 rfl rfl
   have H:=H.rowSh 1 rfl
   refine ⟨fun _=>trivial,?_⟩
   refine nn 7 rfl (op_appR hf H Tryz.underlying35 TF.ai3 rfl (by decide) 1 0 rfl rfl rfl rfl (.inr rfl) hl5_ (by decide) fun E2 A7 c7 a w hf H=>?_)
   refine ⟨fun _=>trivial,?_⟩
   have H:=H.rowWeak 1 rfl
   refine nn 11 rfl (op_appI hf H Tryz.underlying35 TF.ai3 rfl (by decide) 1 0 rfl rfl rfl rfl (.inl rfl) hl6_ (by decide) fun E3 A8 c8 a w hf H=>?_)
   have H:=H.rowOwn 1 rfl rfl
   have H:=H.rowSh 1 rfl
   refine ⟨fun _=>trivial,?_⟩
   refine zp 12 hf trivial fun a hf=>?_
   refine dk ?_
   have hf:=hf.pn [4]
   have H:=H.lk 0 2 0 []
   exact ⟨A8,c8,E3,hf,H⟩
  refine (bl hf H 3 ([n']:List Int) [(.int .i64 n')] (el1 (y:=n') (rfl)) fun A4 a w hf H=>?_)
  refine ⟨fun _=>trivial,?_⟩
  refine nn 0 rfl (bl hf H 3 ([]:List Int) [] el0 fun A5 a w hf H=>?_)
  refine ⟨fun _=>trivial,?_⟩
  have H:=H.rowWeak 0 rfl
  refine nn 4 rfl (op_appI hf H Tryz.underlying35 TF.ai3 rfl (by decide) 0 1 rfl rfl rfl rfl (.inl rfl) hl4_ (by decide) fun E A6 c6 a w hf H=>?_)
  have H:=H.rowOwn 0 rfl rfl
  have H:=H.rowSh 0 rfl
  refine ⟨fun _=>trivial,?_⟩
  refine nn 7 rfl (op_appR hf H Tryz.underlying35 TF.ai3 rfl (by decide) 0 1 rfl rfl rfl rfl (.inr rfl) hl5_ (by decide) fun E2 A7 c7 a w hf H=>?_)
  refine ⟨fun _=>trivial,?_⟩
  have H:=H.rowWeak 0 rfl
  refine nn 11 rfl (op_appI hf H Tryz.underlying35 TF.ai3 rfl (by decide) 0 0 rfl rfl rfl rfl (.inl rfl) hl6_ (by decide) fun E3 A8 c8 a w hf H=>?_)
  have H:=H.rowOwn 0 rfl rfl
  have H:=H.rowSh 0 rfl
  refine ⟨fun _=>trivial,?_⟩
  refine zp 12 hf trivial fun a hf=>?_
  refine dk ?_
  have hf:=hf.pn [4]
  have H:=H.lk 0 1 0 []
  exact ⟨A8,c8,E3,hf,H⟩
 rintro a w ⟨A8,c8,E3,hf,H⟩
 refine then_n (wp_ret (?_))
 have H:=H.rowOwn 0 rfl rfl
 obtain ⟨F,H⟩:=H.freezeOwn 0 rfl
 have H:=H.lend 0 rfl
 obtain rfl:=oi hF
 refine rT hf ?_
 have hN:=H.ends1
 exact ⟨_,rfl,H.bel,.inl ⟨F,(mko_list (H.ownAt 0 rfl)),by first | exact hN | simpa using hN⟩⟩
theorem spec_l9Without_ok {S:Nat→Prop} {v0_:Value} {v1_:Value} {p:Plan} {i:Int} {r:Plan} (h0:VR w0 S v0_ p) (h1:VR w0 S v1_ i) (hF:spec_l9Without fu p i=some r) :
    Calls Tryz.prog 184 [v0_,v1_].toArray w0 fun e w'=>∃ v,e=.returned v∧(∃ (A0_0:Option Addr) (c0_0:Nat) (F0_0:List Nat) (A0_1:Option Addr) (c0_1:Nat) (F0_1:List Nat) (A0_2:Option Addr) (c0_2:Nat) (E0_2:Go.TypeId),v=(.agg #[(.slice A0_0 r.Network.Nodes.length c0_0),(.slice A0_1 r.Network.Fibers.length c0_1),(.slice A0_2 r.Lights.length c0_2)])∧Mem ⟨w0,[]⟩ S [] [⟨.sh true,E0_2,A0_2,c0_2,(r.Lights:List Light)⟩] [⟨F0_0,MP.own F0_0 [(.slice A0_0 r.Network.Nodes.length c0_0)] (r.Network.Nodes:List ByteArray)⟩,⟨F0_1,MP.own F0_1 [(.slice A0_1 r.Network.Fibers.length c0_1)] (r.Network.Fibers:List Fiber)⟩] [] w'):=by
 obtain ⟨A,c,A2,c2,A3,c3,rfl,hl,hl2,hl3⟩:=Plan_open h0
 obtain rfl:=VR_int h1
 have H:=Mem.start ⟨w0,[]⟩ S
 have H:=H.pA hl
 have H:=H.pA hl2
 have H:=H.pA hl3
 refine en Tryz.func184 fun a hf=>?_
 rw [spec_l9Without] at hF
 refine bx hf H fun b' a w hf H=>?_
 refine aL hf H TF.zv30 fun b2 a w hf H=>?_
 refine wr (lN 1 hf H TF.la30 fun a hf=>?_)
 obtain ⟨y,hy,hF⟩:=bs_ hF
 refine oc hf TF.cl154 (spec_l9Own_ok (S:=TT) (Plan_mkv (x:=p) (H.rt 2 rfl) (H.rt 1 rfl) (H.rt 0 rfl)) hy) fun v w a hp hf=>?_
 obtain ⟨hb,F,hp2,hN⟩:=hp
 obtain ⟨A4,c4,F2,A5,c5,F3,A6,c6,F4,rfl,rfl,hl4,hl5,hl6⟩:=Plan_vo hp2
 have H:=H.aO3 hb (by first | exact hN | simpa using hN) hl4 hl5 hl6
 have H:=H.lend 0 rfl
 have H:=H.lend 1 rfl
 have H:=H.lend 2 rfl
 refine aL hf H TF.zv30 fun b3 a w hf H=>?_
 refine sB 0 hf H TF.sz30 fun w H=>?_
 refine wl_end (then_n (sq (dw [13] 14 fun w hb=>?_)))
 have H:=H.keep hb
 refine zp 1 hf trivial fun a hf=>?_
 refine strT (H.lk 1 0 0 []) (fun w H=>trivial) fun hS=>?_
 refine zS 2 [2,4,5,11,12,13] rfl rfl rfl rfl hf hS (fun w H=>rq_loadB hf H TF.ls28 0 rfl rfl rfl) fun a hf=>?_
 refine zp 3 hf hS fun a hf=>?_
 obtain ⟨l,hl_,hF⟩:=bs_ hF
 obtain ⟨A7,c7,hx,H⟩:=pre_slice H Tryz.underlying28 TF.sz49 0 (lov:=none) (hiv:=some (.int .i64 i)) (.inl ⟨rfl,rfl⟩) (.inr rfl) rfl hl_
 refine zP 4 rfl rfl rfl rfl hf hS (fun w=>rq_sliceE hf rfl rfl rfl hx w) fun a hf=>?_
 refine zp 6 hf hS fun a hf=>?_
 refine zS 7 [7,10,11,12,13] rfl rfl rfl rfl hf hS (fun w H=>rq_loadB hf H TF.ls28 0 rfl rfl rfl) fun a hf=>?_
 refine zp 8 hf hS fun a hf=>?_
 refine zp 9 hf hS fun a hf=>?_
 obtain ⟨l2,hl2_,hF⟩:=bs_ hF
 obtain ⟨A8,c8,hx2,H⟩:=pre_slice H Tryz.underlying28 TF.sz49 1 (lov:=some (.int .i64 (w64 (i + 1)))) (hiv:=none) (.inr rfl) (.inl ⟨rfl,rfl⟩) rfl hl2_
 refine zP 10 rfl rfl rfl rfl hf hS (fun w=>rq_sliceE hf rfl rfl rfl hx2 w) fun a hf=>?_
 refine nn 0 rfl (bl hf H 49 ([]:List Light) [] el0 fun A9 a w hf H=>?_)
 have hS:=H.lk 1 0 0 []
 refine aS hS ?_
 obtain ⟨l3,hl3_,hF⟩:=bs_ hF
 refine nn 5 rfl (op_appI hf H Tryz.underlying28 TF.ai49 rfl (by decide) 0 1 rfl rfl rfl rfl (.inr rfl) hl3_ (by decide) fun E A10 c9 a w hf H=>?_)
 have hS:=H.lk 1 0 0 []
 refine aS hS ?_
 obtain ⟨l4,hl4_,hF⟩:=bs_ hF
 refine nn 11 rfl (op_appI hf H Tryz.underlying28 TF.ai49 rfl (by decide) 0 0 rfl rfl rfl rfl (.inr rfl) hl4_ (by decide) fun E2 A11 c10 a w hf H=>?_)
 have hS:=H.lk 1 0 0 []
 refine aS hS ?_
 refine zp 12 hf hS fun a hf=>?_
 refine nn 13 rfl (op_storeB hf H 0 TF.sz28 rfl rfl rfl rfl rfl rfl (nle rfl) fun w H=>?_)
 refine ⟨fun h=>absurd h (by decide),?_⟩
 refine dk ?_
 have hf:=hf.pn [4,5]
 refine then_n (sq (reg (lN 0 hf H TF.la30 fun a hf=>?_)))
 refine sB 1 hf H TF.sz30 fun w H=>?_
 refine wer ?_
 have H:=H.frontD 1 rfl
 have H:=H.frontD 1 rfl
 obtain rfl:=oi hF
 refine ret_1 hf rfl (rv_cellN hf H 1 TF.la30 rfl rfl rfl) ?_
 have H:=H.lk 0 1 3 []
 exact ⟨_,rfl,A4,c4,F2,A5,c5,F3,A11,c10,E2,rfl,H⟩
end AT
