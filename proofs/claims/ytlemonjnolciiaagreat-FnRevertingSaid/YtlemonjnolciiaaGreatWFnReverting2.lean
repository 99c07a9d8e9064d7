/- The Go functions do what is told of them, by program (gen.py). -/
import Derived.Test.YtlemonjnolciiaaGreatWFnReverting1
set_option linter.unusedVariables false
set_option linter.unusedSimpArgs false
set_option maxRecDepth 100000
set_option maxHeartbeats 1000000
namespace AT
open Go Go.RowKit Go.Proofs
variable {fu:Nat} {w0:World}
theorem spec_l2Good_ok {S:Nat→Prop} {v0_:Value} {n':Network} {r:Bool} (h0:VR w0 S v0_ n') (hF:spec_l2Good fu n'=some r) :
    Calls Tryz.prog 197 [v0_].toArray w0 fun e w'=>∃ v,e=.returned v∧(Below w0.heap.size w0 w'∧VR w' (St ⟨w0,[]⟩ S [] [] [] true) v r):=by
 obtain ⟨A,c,A2,c2,rfl,hl,hl2⟩:=Network_open h0
 have H:=Mem.start ⟨w0,[]⟩ S
 have H:=H.pA hl
 have H:=H.pA hl2
 refine en Tryz.func197 fun a hf=>?_
 rw [spec_l2Good] at hF
 refine bx hf H fun b' a w hf H=>?_
 refine pz 1 hf fun a hf=>?_
 refine wl_end (then_n (sq (sq ?_)))
 obtain ⟨c3,hGc3,hF⟩:=bs_ hF
 have fh:=hf.prune [1] rfl
 have Hm:=H.lk 1 0 0 [0,1]
 refine midF 15 (.bool c3) fh Hm ?_ fun a w hf H=>?_
 ·refine reg (pz 1 hf fun a hf=>?_)
  refine lB 0 hf H TF.ls24 fun a hf=>?_
  refine pz 1 hf fun a hf=>?_
  obtain ⟨y,hy,hGc3⟩:=bs_ hGc3
  refine oc hf TF.cl153 (spec_l1In_ok (S:=TT) mk_int mk_int mk_int hy) fun v w a hp hf=>?_
  obtain ⟨hb,hp⟩:=hp
  obtain rfl:=VR_bool hp
  have H:=H.keep hb
  refine pz 2 hf fun a hf=>?_
  refine iteB hGc3 (fun hc hGc3=>?_) fun hc hGc3=>?_
  ·have hf:=hf.lit 10 rfl hc
   refine pz 5 hf fun a hf=>?_
   obtain rfl:=oi hGc3
   have hf:=hf.pn [15,1]
   have H:=H.lk 1 0 0 [0,1]
   exact wl_end ⟨hf,H⟩
  have hf:=hf.lit 10 rfl hc
  refine pz 1 hf fun a hf=>?_
  refine wlg hf rfl rfl rfl (op_q hf (rq_loadB hf H TF.ls25 0 rfl rfl rfl) rfl (by decide) fun a hf=>?_)
  refine pz 3 hf fun a hf=>?_
  obtain rfl:=oi hGc3
  have hf:=hf.pn [15,1]
  have H:=H.lk 1 0 0 [0,1]
  exact wl_end ⟨hf,H⟩
 refine then_n (ib hF hf (fun hc2 hF=>?_) fun hc2 hF=>?_)
 ·refine sqz (pz 1 hf fun a hf=>?_)
  refine wl_end (then_n (wp_ret (then_r (?_))))
  obtain rfl:=oi hF
  refine rT hf ?_
  exact ⟨_,rfl,H.bel,mk_bool⟩
 refine wp_skip (then_n (sq (sqz (pz 1 hf fun a hf=>?_))))
 refine wl_end (then_n ?_)
 obtain ⟨out',hB1,hF⟩:=bs_ hF
 have hf:=hf.pn [1,3]
 have H:=H.lk 1 0 0 [0,1]
 refine loopC (fun (s:Int) (a:Act) (w:World)=>match s with | i=>Fr a 78 [(1,(.pointer (some ⟨b',0,none⟩))),(3,(.int .i64 i))]∧Mem ⟨w0,[]⟩ S [⟨b',27,[(.slice A n'.Nodes.length c),(.slice A2 n'.Fibers.length c2)]⟩] [] [] [(false,MP.val [(.slice A2 n'.Fibers.length c2)] (n'.Fibers:List Fiber)),(false,MP.val [(.slice A n'.Nodes.length c)] (n'.Nodes:List ByteArray))] w) (fun k (s:Int)=>spec_l2Good_L1 fu n' k s=some out') (fun s=>out'=Out.next s) 0 fu hB1 ⟨hf,H⟩ (fun s h=>by cases h) ?_ ?_
 ·rintro fk i a w hR1 hI
  replace hR1:spec_l2Good_L1 fu n' (fk + 1) i=some out':=hR1
  rw [spec_l2Good_L1] at hR1
  obtain ⟨hf,H⟩:=hI
  refine sq (sqz (pz 2 hf fun a hf=>?_))
  refine lB 0 hf H TF.ls24 fun a hf=>?_
  refine pz 2 hf fun a hf=>?_
  refine wl_end (then_n (ib hR1 hf (fun hc3 hR1=>?_) fun hc3 hR1=>?_))
  ·refine wp_skip (then_n (sq (wp_block (sq ?_))))
   obtain ⟨c4,hGc4,hR1⟩:=bs_ hR1
   have fh2:=hf.prune [1,3] rfl
   have Hm2:=H.lk 1 0 0 [0,1]
   refine midF 41 (.bool c4) fh2 Hm2 ?_ fun a w hf H=>?_
   ·refine dw [] 19 fun w hb=>?_
    have H:=H.keep hb
    refine zp 0 hf trivial fun a hf=>?_
    refine strT (H.lk 1 0 0 []) (fun w H=>trivial) fun hS=>?_
    refine zS 1 [] rfl rfl rfl rfl hf hS (fun w H=>rq_loadB hf H TF.ls24 0 rfl rfl rfl) fun a hf=>?_
    refine zp 2 hf hS fun a hf=>?_
    obtain ⟨e,he,hGc4⟩:=bs_ hGc4
    obtain ⟨p,o,cs,hx,hr,H⟩:=pre_iaddr H Tryz.underlying24 TF.sz9 1 rfl he
    refine zP 3 rfl rfl rfl rfl hf hS (fun w=>rq_iaddrE hf rfl rfl rfl hx w) fun a hf=>?_
    obtain rfl:=hr
    refine strT (H.lk 1 0 0 [0]) (fun w H=>H.lk 1 0 0 []) fun hS=>?_
    refine zS 4 [] rfl rfl rfl rfl hf hS (fun w H=>rq_loadI hf H TF.ls9 0 0 rfl rfl rfl) fun a hf=>?_
    obtain ⟨y2,hy2,hGc4⟩:=bs_ hGc4
    refine nn 5 rfl (oC hf TF.cl257 (spec_l2Name_ok (S:=TT) mk_str hy2) fun v2 w a hp2 hf=>?_)
    obtain ⟨hb2,hp2⟩:=hp2
    obtain rfl:=VR_bool hp2
    have H:=H.keep hb2
    have hS:=H.lk 1 0 0 [0]
    refine aS hS ?_
    refine zp 6 hf hS fun a hf=>?_
    refine zp 7 hf hS fun a hf=>?_
    refine iteB hGc4 (fun hc4 hGc4=>?_) fun hc4 hGc4=>?_
    ·have hf:=hf.lit 30 rfl hc4
     refine zU 8 hf hS fun a hf=>?_
     refine zU 9 hf hS fun a hf=>?_
     refine zU 10 hf hS fun a hf=>?_
     refine zU 11 hf hS fun a hf=>?_
     refine zU 12 hf hS fun a hf=>?_
     refine zU 13 hf hS fun a hf=>?_
     refine zU 14 hf hS fun a hf=>?_
     refine zU 15 hf hS fun a hf=>?_
     refine zU 16 hf hS fun a hf=>?_
     refine zU 17 hf hS fun a hf=>?_
     refine zp 18 hf hS fun a hf=>?_
     refine dk ?_
     obtain rfl:=oi hGc4
     have hf:=hf.pn [41,1,3]
     have H:=H.lk 1 0 0 [1,2]
     exact ⟨hf,H⟩
    have hf:=hf.lit 30 rfl hc4
    refine zg 8 hf hS fun a hf=>?_
    refine tSg 9 [] rfl rfl rfl rfl rfl rfl hf (by kernel_rfl) (by kernel_rfl) hS (fun w H=>rq_loadB hf H TF.ls24 0 rfl rfl rfl) fun a hf=>?_
    refine zg 10 hf hS fun a hf=>?_
    refine tSg 11 [] rfl rfl rfl rfl rfl rfl hf (by kernel_rfl) (by kernel_rfl) hS (fun w H=>rq_loadB hf H TF.ls24 0 rfl rfl rfl) fun a hf=>?_
    refine zg 12 hf hS fun a hf=>?_
    obtain ⟨e2,he2,hGc4⟩:=bs_ hGc4
    obtain ⟨p2,o2,cs2,hx2,hr2,H⟩:=pre_iaddr H Tryz.underlying24 TF.sz9 2 rfl he2
    refine tPg 13 rfl rfl rfl rfl rfl rfl hf (by kernel_rfl) (fun _=>hS) (fun w=>rq_iaddrE hf rfl rfl rfl hx2 w) fun a hf=>?_
    obtain rfl:=hr2
    refine strT (H.lk 1 0 0 [0,1]) (fun w H=>H.lk 1 0 0 [1]) fun hS=>?_
    refine tSg 14 [] rfl rfl rfl rfl rfl rfl hf (by kernel_rfl) (by kernel_rfl) hS (fun w H=>rq_loadI hf H TF.ls9 0 0 rfl rfl rfl) fun a hf=>?_
    refine zg 16 hf hS fun a hf=>?_
    obtain ⟨y3,hy3,hGc4⟩:=bs_ hGc4
    refine n1g 15 (by kernel_rfl) rfl rfl rfl rfl hf (oC hf TF.cl258 (spec_l2Find_ok (S:=TT) (mk_list (H.rt 3 rfl)) mk_str hy3) fun v3 w a hp3 hf=>?_)
    obtain ⟨hb3,hp3⟩:=hp3
    obtain rfl:=VR_int hp3
    have H:=H.keep hb3
    have hS:=H.lk 1 0 0 [0,1]
    refine aS hS ?_
    refine zg 17 hf hS fun a hf=>?_
    refine zp 18 hf hS fun a hf=>?_
    refine dk ?_
    obtain rfl:=oi hGc4
    have hf:=hf.pn [41,1,3]
    have H:=H.lk 1 0 0 [2,3]
    exact ⟨hf,H⟩
   refine then_n (ib hR1 hf (fun hc5 hR1=>?_) fun hc5 hR1=>?_)
   ·refine sqz (pz 1 hf fun a hf=>?_)
    refine wl_end (then_n (wp_ret (blk_r (then_r (then_r (blk_r (then_r (then_r (?_)))))))))
    obtain rfl:=oi hR1
    replace hF:=on_ret hF
    obtain rfl:=oi hF
    refine rT hf ?_
    exact ⟨_,rfl,H.bel,mk_bool⟩
   refine wp_skip (blk_n (then_n (reg (pz 3 hf fun a hf=>?_))))
   refine wl_end ?_
   have hf:=hf.pn [1,3]
   have H:=H.lk 1 0 0 [0,1]
   exact then_n ⟨w64 (i + 1),hR1,hf,H⟩
  refine wp_exit (then_x (then_x (blk_e (?_))))
  have hf:=hf.pn [1,3]
  have H:=H.lk 1 0 0 [0,1]
  exact ⟨i,(Option.some.inj hR1).symm,hf,H⟩
 rintro a w ⟨i2,rfl,hf,H⟩
 replace hF:=on_next hF
 refine then_n (sq (sqz (pz 1 hf fun a hf=>?_)))
 refine wl_end (then_n ?_)
 obtain ⟨out2,hB1,hF⟩:=bs_ hF
 have hf:=hf.pn [1,4]
 have H:=H.lk 1 0 0 [0,1]
 refine loopC (fun (s:Int) (a:Act) (w:World)=>match s with | i3=>Fr a 78 [(1,(.pointer (some ⟨b',0,none⟩))),(4,(.int .i64 i3))]∧Mem ⟨w0,[]⟩ S [⟨b',27,[(.slice A n'.Nodes.length c),(.slice A2 n'.Fibers.length c2)]⟩] [] [] [(false,MP.val [(.slice A2 n'.Fibers.length c2)] (n'.Fibers:List Fiber)),(false,MP.val [(.slice A n'.Nodes.length c)] (n'.Nodes:List ByteArray))] w) (fun k (s:Int)=>spec_l2Good_L2 fu n' k s=some out2) (fun s=>out2=Out.next s) 0 fu hB1 ⟨hf,H⟩ (fun s h=>by cases h) ?_ ?_
 ·rintro fk i3 a w hR1 hI
  replace hR1:spec_l2Good_L2 fu n' (fk + 1) i3=some out2:=hR1
  rw [spec_l2Good_L2] at hR1
  obtain ⟨hf,H⟩:=hI
  refine sq (sqz (pz 2 hf fun a hf=>?_))
  refine lB 0 hf H TF.ls25 fun a hf=>?_
  refine pz 2 hf fun a hf=>?_
  refine wl_end (then_n (ib hR1 hf (fun hc6 hR1=>?_) fun hc6 hR1=>?_))
  ·refine wp_skip (then_n (sq (wp_block (sq ?_))))
   obtain ⟨c5,hGc5,hR1⟩:=bs_ hR1
   have fh3:=hf.prune [1,4] rfl
   have Hm3:=H.lk 1 0 0 [0,1]
   refine midF 77 (.bool c5) fh3 Hm3 ?_ fun a w hf H=>?_
   ·refine dw [] 29 fun w hb=>?_
    have H:=H.keep hb
    refine zp 0 hf trivial fun a hf=>?_
    refine strT (H.lk 1 0 0 []) (fun w H=>trivial) fun hS=>?_
    refine zS 1 [] rfl rfl rfl rfl hf hS (fun w H=>rq_loadB hf H TF.ls25 0 rfl rfl rfl) fun a hf=>?_
    refine zp 2 hf hS fun a hf=>?_
    obtain ⟨e3,he3,hGc5⟩:=bs_ hGc5
    obtain ⟨p3,o3,cs3,hx3,hr3,H⟩:=pre_iaddr H Tryz.underlying25 TF.sz180 0 rfl he3
    refine zP 3 rfl rfl rfl rfl hf hS (fun w=>rq_iaddrE hf rfl rfl rfl hx3 w) fun a hf=>?_
    obtain rfl:=Fiber_cells hr3
    refine strT (H.lk 1 0 0 [0]) (fun w H=>H.lk 1 0 0 []) fun hS=>?_
    refine zS 4 [] rfl rfl rfl rfl hf hS (fun w H=>rq_loadIN hf H TF.la180 0 0 rfl rfl rfl rfl) fun a hf=>?_
    refine zp 5 hf hS fun a hf=>?_
    refine zS 6 [] rfl rfl rfl rfl hf hS (fun w H=>rq_loadB hf H TF.ls24 0 rfl rfl rfl) fun a hf=>?_
    refine zp 7 hf hS fun a hf=>?_
    obtain ⟨y4,hy4,hGc5⟩:=bs_ hGc5
    refine nn 8 rfl (oC hf TF.cl259 (spec_l2Fiber_ok (S:=TT) Fiber_mkv mk_int hy4) fun v4 w a hp4 hf=>?_)
    obtain ⟨hb4,hp4⟩:=hp4
    obtain rfl:=VR_bool hp4
    have H:=H.keep hb4
    have hS:=H.lk 1 0 0 [0]
    refine aS hS ?_
    refine zp 9 hf hS fun a hf=>?_
    refine zp 10 hf hS fun a hf=>?_
    refine iteB hGc5 (fun hc7 hGc5=>?_) fun hc7 hGc5=>?_
    ·have hf:=hf.lit 59 rfl hc7
     refine zU 11 hf hS fun a hf=>?_
     refine zU 12 hf hS fun a hf=>?_
     refine zU 13 hf hS fun a hf=>?_
     refine zV 14 hf hS fun a hf=>?_
     refine zV 15 hf hS fun a hf=>?_
     refine zV 16 hf hS fun a hf=>?_
     refine zV 17 hf hS fun a hf=>?_
     refine zV 18 hf hS fun a hf=>?_
     refine zV 19 hf hS fun a hf=>?_
     refine zV 20 hf hS fun a hf=>?_
     refine zV 21 hf hS fun a hf=>?_
     refine zV 22 hf hS fun a hf=>?_
     refine zV 23 hf hS fun a hf=>?_
     refine zV 24 hf hS fun a hf=>?_
     refine zV 25 hf hS fun a hf=>?_
     refine zV 26 hf hS fun a hf=>?_
     refine zU 27 hf hS fun a hf=>?_
     refine zp 28 hf hS fun a hf=>?_
     refine dk ?_
     obtain rfl:=oi hGc5
     have hf:=hf.pn [77,1,4]
     have H:=H.lk 1 0 0 [1,2]
     exact ⟨hf,H⟩
    have hf:=hf.lit 59 rfl hc7
    refine zg 11 hf hS fun a hf=>?_
    refine zg 12 hf hS fun a hf=>?_
    refine zg 13 hf hS fun a hf=>?_
    refine iteB hGc5 (fun hc8 hGc5=>?_) fun hc8 hGc5=>?_
    ·have hf:=hf.lit 62 rfl hc8
     refine zg 14 hf hS fun a hf=>?_
     refine tSg 15 [] rfl rfl rfl rfl rfl rfl hf (by kernel_rfl) (by kernel_rfl) hS (fun w H=>rq_loadB hf H TF.ls25 0 rfl rfl rfl) fun a hf=>?_
     refine zg 16 hf hS fun a hf=>?_
     refine zg 17 hf hS fun a hf=>?_
     obtain ⟨e4,he4,hGc5⟩:=bs_ hGc5
     obtain ⟨p4,o4,cs4,hx4,hr4,H⟩:=pre_iaddr H Tryz.underlying25 TF.sz180 1 rfl he4
     refine tPg 18 rfl rfl rfl rfl rfl rfl hf (by kernel_rfl) (fun _=>hS) (fun w=>rq_iaddrE hf rfl rfl rfl hx4 w) fun a hf=>?_
     obtain rfl:=Fiber_cells hr4
     refine strT (H.lk 1 0 0 [0,1]) (fun w H=>H.lk 1 0 0 [1]) fun hS=>?_
     refine tSg 19 [] rfl rfl rfl rfl rfl rfl hf (by kernel_rfl) (by kernel_rfl) hS (fun w H=>rq_loadIN hf H TF.la180 0 0 rfl rfl rfl rfl) fun a hf=>?_
     refine zg 20 hf hS fun a hf=>?_
     refine tSg 21 [] rfl rfl rfl rfl rfl rfl hf (by kernel_rfl) (by kernel_rfl) hS (fun w H=>rq_loadB hf H TF.ls25 0 rfl rfl rfl) fun a hf=>?_
     refine zg 22 hf hS fun a hf=>?_
     obtain ⟨e5,he5,hGc5⟩:=bs_ hGc5
     obtain ⟨p5,o5,cs5,hx5,hr5,H⟩:=pre_iaddr H Tryz.underlying25 TF.sz180 2 rfl he5
     refine tPg 23 rfl rfl rfl rfl rfl rfl hf (by kernel_rfl) (fun _=>hS) (fun w=>rq_iaddrE hf rfl rfl rfl hx5 w) fun a hf=>?_
     obtain rfl:=Fiber_cells hr5
     refine strT (H.lm 1 0 0 3 7) (fun w H=>H.lk 1 0 0 [1,2]) fun hS=>?_
     refine tSg 24 [] rfl rfl rfl rfl rfl rfl hf (by kernel_rfl) (by kernel_rfl) hS (fun w H=>rq_loadIN hf H TF.la180 0 0 rfl rfl rfl rfl) fun a hf=>?_
     obtain ⟨y5,hy5,hGc5⟩:=bs_ hGc5
     refine n1g 25 (by kernel_rfl) rfl rfl rfl rfl hf (oC hf TF.cl260 (spec_l2Before_ok (S:=TT) Fiber_mkv Fiber_mkv hy5) fun v5 w a hp5 hf=>?_)
     obtain ⟨hb5,hp5⟩:=hp5
     obtain rfl:=VR_int hp5
     have H:=H.keep hb5
     have hS:=H.lm 1 0 0 3 7
     refine aS hS ?_
     refine zg 26 hf hS fun a hf=>?_
     refine zg 27 hf hS fun a hf=>?_
     refine zp 28 hf hS fun a hf=>?_
     refine dk ?_
     obtain rfl:=oi hGc5
     have hf:=hf.pn [77,1,4]
     have H:=H.lk 1 0 0 [3,4]
     exact ⟨hf,H⟩
    have hf:=hf.lit 62 rfl hc8
    refine zU 14 hf hS fun a hf=>?_
    refine zU 15 hf hS fun a hf=>?_
    refine zU 16 hf hS fun a hf=>?_
    refine zU 17 hf hS fun a hf=>?_
    refine zU 18 hf hS fun a hf=>?_
    refine zU 19 hf hS fun a hf=>?_
    refine zU 20 hf hS fun a hf=>?_
    refine zU 21 hf hS fun a hf=>?_
    refine zU 22 hf hS fun a hf=>?_
    refine zU 23 hf hS fun a hf=>?_
    refine zU 24 hf hS fun a hf=>?_
    refine zU 25 hf hS fun a hf=>?_
    refine zU 26 hf hS fun a hf=>?_
    refine zg 27 hf hS fun a hf=>?_
    refine zp 28 hf hS fun a hf=>?_
    refine dk ?_
    obtain rfl:=oi hGc5
    have hf:=hf.pn [77,1,4]
    have H:=H.lk 1 0 0 [1,2]
    exact ⟨hf,H⟩
   refine then_n (ib hR1 hf (fun hc9 hR1=>?_) fun hc9 hR1=>?_)
   ·refine sqz (pz 1 hf fun a hf=>?_)
    refine wl_end (then_n (wp_ret (blk_r (then_r (then_r (blk_r (then_r (then_r (?_)))))))))
    obtain rfl:=oi hR1
    replace hF:=on_ret hF
    obtain rfl:=oi hF
    refine rT hf ?_
    exact ⟨_,rfl,H.bel,mk_bool⟩
   refine wp_skip (blk_n (then_n (reg (pz 3 hf fun a hf=>?_))))
   refine wl_end ?_
   have hf:=hf.pn [1,4]
   have H:=H.lk 1 0 0 [0,1]
   exact then_n ⟨w64 (i3 + 1),hR1,hf,H⟩
  refine wp_exit (then_x (then_x (blk_e (?_))))
  have hf:=hf.pn [1,4]
  have H:=H.lk 1 0 0 [0,1]
  exact ⟨i3,(Option.some.inj hR1).symm,hf,H⟩
 rintro a w ⟨i4,rfl,hf,H⟩
 replace hF:=on_next hF
 refine then_n (sqz (pz 1 hf fun a hf=>?_))
 refine wer ?_
 obtain rfl:=oi hF
 refine rT hf ?_
 exact ⟨_,rfl,H.bel,mk_bool⟩
theorem spec_l4Walk_ok {S:Nat→Prop} {v0_:Value} {v1_:Value} {n':Network} {r':Route} {r:List Int×Bool} (h0:VR w0 S v0_ n') (h1:VR w0 S v1_ r') (hF:spec_l4Walk fu n' r'=some r) :
    Calls Tryz.prog 302 [v0_,v1_].toArray w0 fun e w'=>∃ v,e=.returned v∧(Below w0.heap.size w0 w'∧∃ F0,∃ u0 u1,v=.tuple #[u0,u1]∧VO w' F0 u0 r.1∧VR w' (St ⟨w0,[]⟩ S [] [] [] true) u1 r.2∧New w0 w' F0):=by
 obtain ⟨A,c,A2,c2,rfl,hl,hl2⟩:=Network_open h0
 obtain ⟨A3,c3,rfl,hl3⟩:=Route_open h1
 have H:=Mem.start ⟨w0,[]⟩ S
 have H:=H.pA hl
 have H:=H.pA hl2
 have H:=H.pA hl3
 refine en Tryz.func302 fun a hf=>?_
 rw [spec_l4Walk] at hF
 refine bx hf H fun b' a w hf H=>?_
 refine wl0 rfl (op_box hf H rfl rfl (by decide) fun b2 a w hf H=>?_)
 refine pz 2 hf fun a hf=>?_
 refine wr (pz 1 hf fun a hf=>?_)
 refine lB 0 hf H TF.ls3 fun a hf=>?_
 refine wl0 rfl (bl hf H 3 ([r'.Start]:List Int) [(.int .i64 r'.Start)] (el1 (y:=r'.Start) (rfl)) fun A4 a w hf H=>?_)
 refine pz 1 hf fun a hf=>?_
 refine wl_end (then_n (sq (sq ?_)))
 obtain ⟨c4,hGc4,hF⟩:=bs_ hF
 have fh:=hf.prune [2,3,6] rfl
 have Hm:=H.lm 3 1 0 3 7
 refine midF 25 (.bool c4) fh Hm ?_ fun a w hf H=>?_
 ·refine reg (pz 1 hf fun a hf=>?_)
  refine lB 0 hf H TF.ls3 fun a hf=>?_
  refine pz 1 hf fun a hf=>?_
  refine lB 1 hf H TF.ls24 fun a hf=>?_
  refine pz 2 hf fun a hf=>?_
  obtain ⟨y,hy,hGc4⟩:=bs_ hGc4
  refine oc hf TF.cl153 (spec_l1In_ok (S:=TT) mk_int mk_int mk_int hy) fun v w a hp hf=>?_
  obtain ⟨hb,hp⟩:=hp
  obtain rfl:=VR_bool hp
  have H:=H.keep hb
  refine pz 2 hf fun a hf=>?_
  refine iteB hGc4 (fun hc hGc4=>?_) fun hc hGc4=>?_
  ·have hf:=hf.lit 20 rfl hc
   refine pz 5 hf fun a hf=>?_
   obtain rfl:=oi hGc4
   have hf:=hf.pn [25,2,3,6]
   have H:=H.lm 3 1 0 3 7
   exact wl_end ⟨hf,H⟩
  have hf:=hf.lit 20 rfl hc
  refine pz 1 hf fun a hf=>?_
  refine wlg hf rfl rfl rfl (op_q hf (rq_loadB hf H TF.ls35 0 rfl rfl rfl) rfl (by decide) fun a hf=>?_)
  refine pz 3 hf fun a hf=>?_
  obtain rfl:=oi hGc4
  have hf:=hf.pn [25,2,3,6]
  have H:=H.lm 3 1 0 3 7
  exact wl_end ⟨hf,H⟩
 refine then_n (ib hF hf (fun hc2 hF=>?_) fun hc2 hF=>?_)
 ·refine sqz (pz 3 hf fun a hf=>?_)
  refine wl_end (then_n (wp_ret (then_r (?_))))
  have H:=H.rowOwn 0 rfl rfl
  obtain ⟨F,H⟩:=H.freezeOwn 0 rfl
  have H:=H.lend 0 rfl
  obtain rfl:=oi hF
  refine ret_2 hf rfl (rv_tmp hf rfl) (rv_tmp hf rfl) ?_
  have hN:=H.ends1
  exact ⟨_,rfl,H.bel,F,_,_,rfl,(mko_list (H.ownAt 0 rfl)),mk_bool,by first | exact hN | simpa using hN⟩
 refine wp_skip (then_n (sq (sqz (pz 1 hf fun a hf=>?_))))
 refine wl_end (then_n ?_)
 obtain ⟨out2,hB1,hF⟩:=bs_ hF
 have hf:=hf.pn [2,3,6,7]
 have H:=H.lm 3 1 0 3 7
 refine loopC (fun (s:List Int×Int) (a:Act) (w:World)=>match s with | (out',i)=>∃ (A5:Option Addr) (c5:Nat) (E:Go.TypeId),Fr a 72 [(2,(.pointer (some ⟨b',0,none⟩))),(3,(.pointer (some ⟨b2,0,none⟩))),(6,(.slice A5 out'.length c5)),(7,(.int .i64 i))]∧Mem ⟨w0,[]⟩ S [⟨b2,45,[(.int .i64 r'.Start),(.slice A3 r'.Fibers.length c3)]⟩,⟨b',27,[(.slice A n'.Nodes.length c),(.slice A2 n'.Fibers.length c2)]⟩] [⟨.sh true,E,A5,c5,(out':List Int)⟩] [] [(false,MP.val [(.slice A3 r'.Fibers.length c3)] (r'.Fibers:List Int)),(false,MP.val [(.slice A2 n'.Fibers.length c2)] (n'.Fibers:List Fiber)),(false,MP.val [(.slice A n'.Nodes.length c)] (n'.Nodes:List ByteArray))] w) (fun k (s:List Int×Int)=>spec_l4Walk_L1 fu n' r' k s.1 s.2=some out2) (fun s=>out2=Out.next s) ([r'.Start],0) fu hB1 ⟨A4,1,3,hf,H⟩ (fun s h=>by cases h) ?_ ?_
 ·rintro fk ⟨out',i⟩ a w hR1 hI
  replace hR1:spec_l4Walk_L1 fu n' r' (fk + 1) out' i=some out2:=hR1
  rw [spec_l4Walk_L1] at hR1
  obtain ⟨A5,c5,E,hf,H⟩:=hI
  refine sq (sqz (pz 2 hf fun a hf=>?_))
  refine lB 0 hf H TF.ls35 fun a hf=>?_
  refine pz 2 hf fun a hf=>?_
  refine wl_end (then_n (ib hR1 hf (fun hc3 hR1=>?_) fun hc3 hR1=>?_))
  ·refine wp_skip (then_n (sq (wp_block (sq (sq (dw [] 11 fun w hb=>?_))))))
   have H:=H.keep hb
   refine zp 0 hf trivial fun a hf=>?_
   refine strT (H.lk 1 0 0 []) (fun w H=>trivial) fun hS=>?_
   refine zS 1 [] rfl rfl rfl rfl hf hS (fun w H=>rq_loadB hf H TF.ls35 0 rfl rfl rfl) fun a hf=>?_
   refine zp 2 hf hS fun a hf=>?_
   obtain ⟨e,he,hR1⟩:=bs_ hR1
   obtain ⟨p,o,cs,hx,hr,H⟩:=pre_iaddr H Tryz.underlying35 TF.sz3 0 rfl he
   refine zP 3 rfl rfl rfl rfl hf hS (fun w=>rq_iaddrE hf rfl rfl rfl hx w) fun a hf=>?_
   obtain rfl:=hr
   refine strT (H.lk 1 0 0 [0]) (fun w H=>H.lk 1 0 0 []) fun hS=>?_
   refine zS 4 [] rfl rfl rfl rfl hf hS (fun w H=>rq_loadI hf H TF.ls3 0 0 rfl rfl rfl) fun a hf=>?_
   refine zp 5 hf hS fun a hf=>?_
   refine strT (H.lk 3 0 0 [0]) (fun w H=>H.lk 1 0 0 [0]) fun hS=>?_
   refine zS 6 [] rfl rfl rfl rfl hf hS (fun w H=>rq_loadB hf H TF.ls25 1 rfl rfl rfl) fun a hf=>?_
   refine zp 7 hf hS fun a hf=>?_
   refine zp 8 hf hS fun a hf=>?_
   obtain ⟨y2,hy2,hR1⟩:=bs_ hR1
   refine nn 9 rfl (oC hf TF.cl153 (spec_l1In_ok (S:=TT) mk_int mk_int mk_int hy2) fun v2 w a hp2 hf=>?_)
   obtain ⟨hb2,hp2⟩:=hp2
   obtain rfl:=VR_bool hp2
   have H:=H.keep hb2
   have hS:=H.lk 3 0 0 [0]
   refine aS hS ?_
   refine zp 10 hf hS fun a hf=>?_
   refine dk ?_
   have hf:=hf.pn [2,3,6,7,44]
   refine then_n (ib hR1 hf (fun hc4 hR1=>?_) fun hc4 hR1=>?_)
   ·refine sqz (pz 3 hf fun a hf=>?_)
    refine wl_end (then_n (wp_ret (then_r (blk_r (then_r (then_r (blk_r (then_r (then_r (?_))))))))))
    have H:=H.rowOwn 0 rfl rfl
    obtain ⟨F2,H⟩:=H.freezeOwn 0 rfl
    have H:=H.lend 0 rfl
    obtain rfl:=oi hR1
    replace hF:=on_ret hF
    obtain rfl:=oi hF
    refine ret_2 hf rfl (rv_tmp hf rfl) (rv_tmp hf rfl) ?_
    have hN:=H.ends1
    exact ⟨_,rfl,H.bel,F2,_,_,rfl,(mko_list (H.ownAt 0 rfl)),mk_bool,by first | exact hN | simpa using hN⟩
   refine wp_skip (then_n (sq (dw [] 14 fun w hb=>?_)))
   have H:=H.keep hb
   refine strT (H.lk 2 0 0 []) (fun w H=>trivial) fun hS=>?_
   refine zS 0 [] rfl rfl rfl rfl hf hS (fun w H=>rq_loadBN hf H TF.la27 0 rfl rfl rfl rfl) fun a hf=>?_
   refine zp 1 hf hS fun a hf=>?_
   refine strT (H.lk 3 0 0 []) (fun w H=>H.lk 2 0 0 []) fun hS=>?_
   refine zS 2 [] rfl rfl rfl rfl hf hS (fun w H=>rq_loadB hf H TF.ls35 0 rfl rfl rfl) fun a hf=>?_
   refine zp 3 hf hS fun a hf=>?_
   obtain ⟨e2,he2,hR1⟩:=bs_ hR1
   obtain ⟨p2,o2,cs2,hx2,hr2,H⟩:=pre_iaddr H Tryz.underlying35 TF.sz3 1 rfl he2
   refine zP 4 rfl rfl rfl rfl hf hS (fun w=>rq_iaddrE hf rfl rfl rfl hx2 w) fun a hf=>?_
   obtain rfl:=hr2
   refine strT (H.lk 3 0 0 [0]) (fun w H=>H.lk 3 0 0 []) fun hS=>?_
   refine zS 5 [] rfl rfl rfl rfl hf hS (fun w H=>rq_loadI hf H TF.ls3 0 0 rfl rfl rfl) fun a hf=>?_
   refine zp 6 hf hS fun a hf=>?_
   refine zp 7 hf hS fun a hf=>?_
   refine zp 8 hf hS fun a hf=>?_
   refine zp 9 hf hS fun a hf=>?_
   obtain ⟨e3,he3,hR1⟩:=bs_ hR1
   obtain ⟨p3,o3,hA,hx3⟩:=pre_iaddrR H Tryz.underlying35 TF.sz3 0 rfl he3
   refine zP 10 rfl rfl rfl rfl hf hS (fun w=>rq_iaddrE hf rfl rfl rfl hx3 w) fun a hf=>?_
   refine strT (H.lk 3 1 0 [0]) (fun w H=>H.lk 3 0 0 [0]) fun hS=>?_
   refine zS 11 [] rfl rfl rfl rfl hf hS (fun w H=>rq_loadRow (off:=0) hf H TF.ls3 0 rfl rfl hA he3 (fun w T cs h=>by obtain rfl:=h; rfl)) fun a hf=>?_
   obtain ⟨y3,hy3,hR1⟩:=bs_ hR1
   refine nn 12 rfl (oC hf TF.cl290 (spec_l2Other_ok (S:=TT) (Network_mkv (x:=n') (H.rt 4 rfl) (H.rt 3 rfl)) mk_int mk_int hy3) fun v3 w a hp3 hf=>?_)
   obtain ⟨hb3,hp3⟩:=hp3
   obtain rfl:=VR_int hp3
   have H:=H.keep hb3
   have hS:=H.lk 3 1 0 [0]
   refine aS hS ?_
   refine zp 13 hf hS fun a hf=>?_
   refine dk ?_
   have hf:=hf.pn [2,3,6,7,8]
   refine then_n (sq (sq ?_))
   obtain ⟨c6,hGc6,hR1⟩:=bs_ hR1
   have fh2:=hf.prune [2,3,6,7,8] rfl
   have Hm2:=H.lm 3 1 0 5 28
   refine midF 65 (.bool c6) fh2 Hm2 ?_ fun a w hf H=>?_
   ·refine reg (pz 3 hf fun a hf=>?_)
    refine iteB hGc6 (fun hc5 hGc6=>?_) fun hc5 hGc6=>?_
    ·have hf:=hf.lit 61 rfl hc5
     refine pz 4 hf fun a hf=>?_
     obtain rfl:=oi hGc6
     have hf:=hf.pn [65,2,3,6,7,8]
     have H:=H.lm 3 1 0 5 28
     exact wl_end ⟨hf,H⟩
    have hf:=hf.lit 61 rfl hc5
    refine pz 2 hf fun a hf=>?_
    obtain ⟨y4,hy4,hGc6⟩:=bs_ hGc6
    refine wlg hf rfl rfl rfl (oC hf TF.cl178 (spec_l1Has_ok (S:=TT) (mk_list (H.rowTrue 0 rfl)) mk_int hy4) fun v4 w a hp4 hf=>?_)
    obtain ⟨hb4,hp4⟩:=hp4
    obtain rfl:=VR_bool hp4
    have H:=H.keep hb4
    refine pz 1 hf fun a hf=>?_
    obtain rfl:=oi hGc6
    have hf:=hf.pn [65,2,3,6,7,8]
    have H:=H.lm 3 1 0 5 28
    exact wl_end ⟨hf,H⟩
   refine then_n (ib hR1 hf (fun hc6 hR1=>?_) fun hc6 hR1=>?_)
   ·refine sqz (pz 3 hf fun a hf=>?_)
    refine wl_end (then_n (wp_ret (then_r (blk_r (then_r (then_r (blk_r (then_r (then_r (?_))))))))))
    have H:=H.rowOwn 0 rfl rfl
    obtain ⟨F3,H⟩:=H.freezeOwn 0 rfl
    have H:=H.lend 0 rfl
    obtain rfl:=oi hR1
    replace hF:=on_ret hF
    obtain rfl:=oi hF
    refine ret_2 hf rfl (rv_tmp hf rfl) (rv_tmp hf rfl) ?_
    have hN:=H.ends1
    exact ⟨_,rfl,H.bel,F3,_,_,rfl,(mko_list (H.ownAt 0 rfl)),mk_bool,by first | exact hN | simpa using hN⟩
   refine wp_skip (then_n (reg (pz 2 hf fun a hf=>?_)))
   refine wl0 rfl (bl hf H 3 ([y3]:List Int) [(.int .i64 y3)] (el1 (y:=y3) (rfl)) fun A6 a w hf H=>?_)
   obtain ⟨l,hl_,hR1⟩:=bs_ hR1
   refine wl0 rfl (op_appR hf H Tryz.underlying35 TF.ai3 rfl (by decide) 1 0 rfl rfl rfl rfl (.inr rfl) hl_ (by decide) fun E2 A7 c7 a w hf H=>?_)
   refine pz 1 hf fun a hf=>?_
   refine wl_end (blk_n (then_n (reg (pz 3 hf fun a hf=>?_))))
   refine wl_end ?_
   have hf:=hf.pn [2,3,6,7]
   have H:=H.lm 3 2 0 3 7
   exact then_n ⟨(l,w64 (i + 1)),hR1,A7,c7,E2,hf,H⟩
  refine wp_exit (then_x (then_x (blk_e (?_))))
  have hf:=hf.pn [2,3,6,7]
  have H:=H.lm 3 1 0 3 7
  exact ⟨(out',i),(Option.some.inj hR1).symm,A5,c5,E,hf,H⟩
 rintro a w ⟨⟨out3,i2⟩,rfl,A8,c8,E3,hf,H⟩
 replace hF:=on_next hF
 try dsimp only at hF
 refine then_n (sqz (pz 3 hf fun a hf=>?_))
 refine wer ?_
 have H:=H.rowOwn 0 rfl rfl
 obtain ⟨F4,H⟩:=H.freezeOwn 0 rfl
 have H:=H.lend 0 rfl
 obtain rfl:=oi hF
 refine ret_2 hf rfl (rv_tmp hf rfl) (rv_tmp hf rfl) ?_
 have hN:=H.ends1
 exact ⟨_,rfl,H.bel,F4,_,_,rfl,(mko_list (H.ownAt 0 rfl)),mk_bool,by first | exact hN | simpa using hN⟩
theorem spec_l4Good_ok {S:Nat→Prop} {v0_:Value} {v1_:Value} {n':Network} {r':Route} {r:Bool} (h0:VR w0 S v0_ n') (h1:VR w0 S v1_ r') (hF:spec_l4Good fu n' r'=some r) :
    Calls Tryz.prog 261 [v0_,v1_].toArray w0 fun e w'=>∃ v,e=.returned v∧(Below w0.heap.size w0 w'∧VR w' (St ⟨w0,[]⟩ S [] [] [] true) v r):=by
 obtain ⟨A,c,A2,c2,rfl,hl,hl2⟩:=Network_open h0
 obtain ⟨A3,c3,rfl,hl3⟩:=Route_open h1
 have H:=Mem.start ⟨w0,[]⟩ S
 have H:=H.pA hl
 have H:=H.pA hl2
 have H:=H.pA hl3
 refine en Tryz.func261 fun a hf=>?_
 rw [spec_l4Good] at hF
 refine bx hf H fun b' a w hf H=>?_
 refine wl0 rfl (op_box hf H rfl rfl (by decide) fun b2 a w hf H=>?_)
 refine pz 1 hf fun a hf=>?_
 refine wl_end (then_n (sq (sq (reg (lN 1 hf H TF.la27 fun a hf=>?_)))))
 obtain ⟨y,hy,hF⟩:=bs_ hF
 refine oc hf TF.cl197 (spec_l2Good_ok (S:=TT) (Network_mkv (x:=n') (H.rt 2 rfl) (H.rt 1 rfl)) hy) fun v w a hp hf=>?_
 obtain ⟨hb,hp⟩:=hp
 obtain rfl:=VR_bool hp
 have H:=H.keep hb
 refine pz 1 hf fun a hf=>?_
 refine wl_end (then_n (ib hF hf (fun hc hF=>?_) fun hc hF=>?_))
 ·refine sqz (pz 1 hf fun a hf=>?_)
  refine wl_end (then_n (wp_ret (then_r (?_))))
  obtain rfl:=oi hF
  refine rT hf ?_
  exact ⟨_,rfl,H.bel,mk_bool⟩
 refine wp_skip (then_n (sq (reg (lN 1 hf H TF.la27 fun a hf=>?_))))
 refine lN 0 hf H TF.la45 fun a hf=>?_
 obtain ⟨y2,hy2,hF⟩:=bs_ hF
 refine oc hf TF.cl302 (spec_l4Walk_ok (S:=TT) (Network_mkv (x:=n') (H.rt 2 rfl) (H.rt 1 rfl)) (Route_mkv (x:=r') (H.rt 0 rfl)) hy2) fun v2 w a hp2 hf=>?_
 obtain ⟨hb2,F,v3,v4,rfl,hp3,hp4,hN⟩:=hp2
 obtain ⟨A4,c4,rfl,hl4⟩:=VO_list hp3
 obtain rfl:=VR_bool hp4
 have H:=H.aO1 hb2 hN hl4
 have H:=H.lend 0 rfl
 refine pz 5 hf fun a hf=>?_
 have hf:=hf.pn [6]
 refine wr (pz 2 hf fun a hf=>?_)
 refine wer ?_
 obtain rfl:=oi hF
 refine rT hf ?_
 exact ⟨_,rfl,H.bel,mk_bool⟩
theorem spec_l8Good_ok {S:Nat→Prop} {v0_:Value} {b':Block} {r:Bool} (h0:VR w0 S v0_ b') (hF:spec_l8Good fu b'=some r) :
    Calls Tryz.prog 262 [v0_].toArray w0 fun e w'=>∃ v,e=.returned v∧(Below w0.heap.size w0 w'∧VR w' (St ⟨w0,[]⟩ S [] [] [] true) v r):=by
 obtain rfl:=Block_open h0
 have H:=Mem.start ⟨w0,[]⟩ S
 refine en Tryz.func262 fun a hf=>?_
 rw [spec_l8Good] at hF
 refine bx hf H fun b2 a w hf H=>?_
 refine pz 1 hf fun a hf=>?_
 refine wl_end (then_n (sq ?_))
 obtain ⟨c,hGc,hF⟩:=bs_ hF
 have fh:=hf.prune [] rfl
 have Hm:=H.lk 0 0 0 []
 refine midF 2 (.bool c) fh Hm ?_ fun a w hf H=>?_
 ·refine reg (pz 1 hf fun a hf=>?_)
  refine lB 0 hf H TF.ls3 fun a hf=>?_
  obtain ⟨y,hy,hGc⟩:=bs_ hGc
  refine oc hf TF.cl153 (spec_l1In_ok (S:=TT) mk_int mk_int mk_int hy) fun v w a hp hf=>?_
  obtain ⟨hb,hp⟩:=hp
  obtain rfl:=VR_bool hp
  have H:=H.keep hb
  refine pz 1 hf fun a hf=>?_
  refine iteB hGc (fun hc hGc=>?_) fun hc hGc=>?_
  ·have hf:=hf.lit 6 rfl hc
   refine pz 1 hf fun a hf=>?_
   refine wlg hf rfl rfl rfl (op_q hf (rq_loadB hf H TF.ls3 0 rfl rfl rfl) rfl (by decide) fun a hf=>?_)
   refine pz 1 hf fun a hf=>?_
   refine wlg hf rfl rfl rfl (op_q hf (rq_loadB hf H TF.ls3 0 rfl rfl rfl) rfl (by decide) fun a hf=>?_)
   refine pz 1 hf fun a hf=>?_
   obtain ⟨y2,hy2,hGc⟩:=bs_ hGc
   refine wlg hf rfl rfl rfl (oC hf TF.cl153 (spec_l1In_ok (S:=TT) mk_int mk_int mk_int hy2) fun v2 w a hp2 hf=>?_)
   obtain ⟨hb2,hp2⟩:=hp2
   obtain rfl:=VR_bool hp2
   have H:=H.keep hb2
   refine pz 2 hf fun a hf=>?_
   obtain rfl:=oi hGc
   have hf:=hf.pn [2]
   have H:=H.lk 0 0 0 []
   exact wl_end ⟨hf,H⟩
  have hf:=hf.lit 6 rfl hc
  refine pz 8 hf fun a hf=>?_
  obtain rfl:=oi hGc
  have hf:=hf.pn [2]
  have H:=H.lk 0 0 0 []
  exact wl_end ⟨hf,H⟩
 refine then_n (wp_ret (?_))
 obtain rfl:=oi hF
 refine rT hf ?_
 exact ⟨_,rfl,H.bel,mk_bool⟩
theorem spec_l9Light_ok {S:Nat→Prop} {v0_:Value} {v1_:Value} {n':Network} {x1:Light} {r:Bool} (h0:VR w0 S v0_ n') (h1:VR w0 S v1_ x1) (hF:spec_l9Light fu n' x1=some r) :
    Calls Tryz.prog 198 [v0_,v1_].toArray w0 fun e w'=>∃ v,e=.returned v∧(Below w0.heap.size w0 w'∧VR w' (St ⟨w0,[]⟩ S [] [] [] true) v r):=by
 obtain ⟨A,c,A2,c2,rfl,hl,hl2⟩:=Network_open h0
 obtain ⟨A3,c3,rfl,hl3⟩:=Light_open h1
 have H:=Mem.start ⟨w0,[]⟩ S
 have H:=H.pA hl
 have H:=H.pA hl2
 have H:=H.pA hl3
 refine en Tryz.func198 fun a hf=>?_
 rw [spec_l9Light] at hF
 refine bx hf H fun b' a w hf H=>?_
 refine wl0 rfl (op_box hf H rfl rfl (by decide) fun b2 a w hf H=>?_)
 refine pz 1 hf fun a hf=>?_
 refine wl_end (then_n (sq ?_))
 obtain ⟨c4,hGc4,hF⟩:=bs_ hF
 have fh:=hf.prune [] rfl
 have Hm:=H.lk 0 0 0 []
 refine midF 4 (.bool c4) fh Hm ?_ fun a w hf H=>?_
 ·refine reg (pz 1 hf fun a hf=>?_)
  refine lB 0 hf H TF.ls3 fun a hf=>?_
  obtain ⟨y,hy,hGc4⟩:=bs_ hGc4
  refine oc hf TF.cl153 (spec_l1In_ok (S:=TT) mk_int mk_int mk_int hy) fun v w a hp hf=>?_
  obtain ⟨hb,hp⟩:=hp
  obtain rfl:=VR_bool hp
  have H:=H.keep hb
  refine pz 1 hf fun a hf=>?_
  refine iteB hGc4 (fun hc hGc4=>?_) fun hc hGc4=>?_
  ·have hf:=hf.lit 8 rfl hc
   refine wlg hf rfl rfl rfl (op_q hf (rq_loadBN hf H TF.la27 1 rfl rfl rfl rfl) rfl (by decide) fun a hf=>?_)
   refine pz 1 hf fun a hf=>?_
   refine wlg hf rfl rfl rfl (op_q hf (rq_loadBN hf H TF.la45 0 rfl rfl rfl rfl) rfl (by decide) fun a hf=>?_)
   obtain ⟨y2,hy2,hGc4⟩:=bs_ hGc4
   refine wlg hf rfl rfl rfl (oC hf TF.cl261 (spec_l4Good_ok (S:=TT) (Network_mkv (x:=n') (H.rt 2 rfl) (H.rt 1 rfl)) (Route_mkv (x:=x1.Route) (H.rt 0 rfl)) hy2) fun v2 w a hp2 hf=>?_)
   obtain ⟨hb2,hp2⟩:=hp2
   obtain rfl:=VR_bool hp2
   have H:=H.keep hb2
   refine pz 2 hf fun a hf=>?_
   refine iteB hGc4 (fun hc2 hGc4=>?_) fun hc2 hGc4=>?_
   ·have hf:=hf.lit 14 rfl hc2
    refine pz 1 hf fun a hf=>?_
    refine wlg hf rfl rfl rfl (op_q hf (rq_loadBN hf H TF.la47 0 rfl rfl rfl rfl) rfl (by decide) fun a hf=>?_)
    obtain ⟨y3,hy3,hGc4⟩:=bs_ hGc4
    refine wlg hf rfl rfl rfl (oC hf TF.cl262 (spec_l8Good_ok (S:=TT) Block_mkv hy3) fun v3 w a hp3 hf=>?_)
    obtain ⟨hb3,hp3⟩:=hp3
    obtain rfl:=VR_bool hp3
    have H:=H.keep hb3
    refine pz 2 hf fun a hf=>?_
    obtain rfl:=oi hGc4
    have hf:=hf.pn [4]
    have H:=H.lk 0 0 0 []
    exact wl_end ⟨hf,H⟩
   have hf:=hf.lit 14 rfl hc2
   refine pz 5 hf fun a hf=>?_
   obtain rfl:=oi hGc4
   have hf:=hf.pn [4]
   have H:=H.lk 0 0 0 []
   exact wl_end ⟨hf,H⟩
  have hf:=hf.lit 8 rfl hc
  refine pz 11 hf fun a hf=>?_
  obtain rfl:=oi hGc4
  have hf:=hf.pn [4]
  have H:=H.lk 0 0 0 []
  exact wl_end ⟨hf,H⟩
 refine then_n (wp_ret (?_))
 obtain rfl:=oi hF
 refine rT hf ?_
 exact ⟨_,rfl,H.bel,mk_bool⟩
theorem spec_l4Uses_ok {S:Nat→Prop} {v0_:Value} {v1_:Value} {r':Route} {group:List Int} {r:Bool} (h0:VR w0 S v0_ r') (h1:VR w0 S v1_ group) (hF:spec_l4Uses fu r' group=some r) :
    Calls Tryz.prog 174 [v0_,v1_].toArray w0 fun e w'=>∃ v,e=.returned v∧(Below w0.heap.size w0 w'∧VR w' (St ⟨w0,[]⟩ S [] [] [] true) v r):=by
 obtain ⟨A,c,rfl,hl⟩:=Route_open h0
 obtain ⟨A2,c2,rfl,hl2⟩:=VR_list h1
 have H:=Mem.start ⟨w0,[]⟩ S
 have H:=H.pA hl
 have H:=H.pA hl2
 refine en Tryz.func174 fun a hf=>?_
 rw [spec_l4Uses] at hF
 refine bx hf H fun b' a w hf H=>?_
 refine pz 1 hf fun a hf=>?_
 refine we (sqz (pz 1 hf fun a hf=>?_))
 refine wl_end (then_n ?_)
 obtain ⟨out',hB1,hF⟩:=bs_ hF
 have hf:=hf.pn [1,2,5]
 have H:=H.lk 1 0 0 [0,1]
 refine loopC (fun (s:Int) (a:Act) (w:World)=>match s with | i=>Fr a 20 [(1,(.slice A2 group.length c2)),(2,(.pointer (some ⟨b',0,none⟩))),(5,(.int .i64 i))]∧Mem ⟨w0,[]⟩ S [⟨b',45,[(.int .i64 r'.Start),(.slice A r'.Fibers.length c)]⟩] [] [] [(false,MP.val [(.slice A2 group.length c2)] (group:List Int)),(false,MP.val [(.slice A r'.Fibers.length c)] (r'.Fibers:List Int))] w) (fun k (s:Int)=>spec_l4Uses_L1 fu r' group k s=some out') (fun s=>out'=Out.next s) 0 fu hB1 ⟨hf,H⟩ (fun s h=>by cases h) ?_ ?_
 ·rintro fk i a w hR1 hI
  replace hR1:spec_l4Uses_L1 fu r' group (fk + 1) i=some out':=hR1
  rw [spec_l4Uses_L1] at hR1
  obtain ⟨hf,H⟩:=hI
  refine sq (sqz (pz 2 hf fun a hf=>?_))
  refine lB 0 hf H TF.ls35 fun a hf=>?_
  refine pz 2 hf fun a hf=>?_
  refine wl_end (then_n (ib hR1 hf (fun hc hR1=>?_) fun hc hR1=>?_))
  ·refine ws (pz 2 hf fun a hf=>?_)
   refine lB 0 hf H TF.ls35 fun a hf=>?_
   refine pz 1 hf fun a hf=>?_
   obtain ⟨e,he,hR1⟩:=bs_ hR1
   refine wl0 rfl (op_iaddr hf H Tryz.underlying35 TF.sz3 1 rfl rfl rfl he (by decide) fun p o cs a hf hr H=>?_)
   obtain rfl:=hr
   refine oq hf (rq_loadI hf H TF.ls3 0 0 rfl rfl rfl) fun a hf=>?_
   obtain ⟨y,hy,hR1⟩:=bs_ hR1
   refine oc hf TF.cl178 (spec_l1Has_ok (S:=TT) (mk_list (H.rt 1 rfl)) mk_int hy) fun v w a hp hf=>?_
   obtain ⟨hb,hp⟩:=hp
   obtain rfl:=VR_bool hp
   have H:=H.keep hb
   refine wl_end (then_n (ib hR1 hf (fun hc2 hR1=>?_) fun hc2 hR1=>?_))
   ·refine sqz (pz 1 hf fun a hf=>?_)
    have hf:=hf.pn [4]
    refine wl_end (then_n (wp_ret (blk_r (then_r (then_r (blk_r (then_r (then_r (?_)))))))))
    obtain rfl:=oi hR1
    replace hF:=on_ret hF
    obtain rfl:=oi hF
    refine rT hf ?_
    exact ⟨_,rfl,H.bel,mk_bool⟩
   refine wp_skip (blk_n (then_n (reg (pz 3 hf fun a hf=>?_))))
   have hf:=hf.pn [1,2,5]
   refine wl_end ?_
   have hf:=hf.pn [1,2,5]
   have H:=H.lk 1 0 0 [1,2]
   exact then_n ⟨w64 (i + 1),hR1,hf,H⟩
  refine wp_exit (then_x (then_x (blk_e (?_))))
  have hf:=hf.pn [1,2,5]
  have H:=H.lk 1 0 0 [0,1]
  exact ⟨i,(Option.some.inj hR1).symm,hf,H⟩
 rintro a w ⟨i2,rfl,hf,H⟩
 replace hF:=on_next hF
 refine then_n (sqz (pz 1 hf fun a hf=>?_))
 refine wer ?_
 obtain rfl:=oi hF
 refine rT hf ?_
 exact ⟨_,rfl,H.bel,mk_bool⟩
theorem spec_l9Collide_ok {S:Nat→Prop} {v0_:Value} {v1_:Value} {x1:Light} {y:Light} {r:Bool} (h0:VR w0 S v0_ x1) (h1:VR w0 S v1_ y) (hF:spec_l9Collide fu x1 y=some r) :
    Calls Tryz.prog 199 [v0_,v1_].toArray w0 fun e w'=>∃ v,e=.returned v∧(Below w0.heap.size w0 w'∧VR w' (St ⟨w0,[]⟩ S [] [] [] true) v r):=by
 obtain ⟨A,c,rfl,hl⟩:=Light_open h0
 obtain ⟨A2,c2,rfl,hl2⟩:=Light_open h1
 have H:=Mem.start ⟨w0,[]⟩ S
 have H:=H.pA hl
 have H:=H.pA hl2
 refine en Tryz.func199 fun a hf=>?_
 rw [spec_l9Collide] at hF
 refine bx hf H fun b' a w hf H=>?_
 refine wl0 rfl (op_box hf H rfl rfl (by decide) fun b2 a w hf H=>?_)
 refine pz 1 hf fun a hf=>?_
 refine wl_end (then_n (sq ?_))
 obtain ⟨c3,hGc3,hF⟩:=bs_ hF
 have fh:=hf.prune [] rfl
 have Hm:=H.lk 0 0 0 []
 refine midF 4 (.bool c3) fh Hm ?_ fun a w hf H=>?_
 ·refine dw [] 17 fun w hb=>?_
  have H:=H.keep hb
  refine zp 0 hf trivial fun a hf=>?_
  refine strT (H.lk 2 0 0 []) (fun w H=>trivial) fun hS=>?_
  refine zS 1 [] rfl rfl rfl rfl hf hS (fun w H=>rq_loadBN hf H TF.la45 0 rfl rfl rfl rfl) fun a hf=>?_
  refine zp 2 hf hS fun a hf=>?_
  refine zp 3 hf hS fun a hf=>?_
  refine strT (H.lk 3 0 0 []) (fun w H=>H.lk 2 0 0 []) fun hS=>?_
  refine zS 4 [] rfl rfl rfl rfl hf hS (fun w H=>rq_loadB hf H TF.ls35 0 rfl rfl rfl) fun a hf=>?_
  obtain ⟨y2,hy2,hGc3⟩:=bs_ hGc3
  refine nn 5 rfl (oC hf TF.cl174 (spec_l4Uses_ok (S:=TT) (Route_mkv (x:=x1.Route) (H.rt 1 rfl)) (mk_list (H.rt 0 rfl)) hy2) fun v w a hp hf=>?_)
  obtain ⟨hb,hp⟩:=hp
  obtain rfl:=VR_bool hp
  have H:=H.keep hb
  have hS:=H.lk 3 0 0 []
  refine aS hS ?_
  refine zp 6 hf hS fun a hf=>?_
  refine iteB hGc3 (fun hc hGc3=>?_) fun hc hGc3=>?_
  ·have hf:=hf.lit 11 rfl hc
   refine zg 7 hf hS fun a hf=>?_
   refine tSg 8 [] rfl rfl rfl rfl rfl rfl hf (by kernel_rfl) (by kernel_rfl) hS (fun w H=>rq_loadBN hf H TF.la47 1 rfl rfl rfl rfl) fun a hf=>?_
   refine zg 10 hf hS fun a hf=>?_
   refine tSg 11 [] rfl rfl rfl rfl rfl rfl hf (by kernel_rfl) (by kernel_rfl) hS (fun w H=>rq_loadBN hf H TF.la47 0 rfl rfl rfl rfl) fun a hf=>?_
   obtain ⟨y3,hy3,hGc3⟩:=bs_ hGc3
   refine n1g 9 (by kernel_rfl) rfl rfl rfl rfl hf (oC hf TF.cl186 (spec_l8Bits_ok (S:=TT) Block_mkv hy3) fun v2 w a hp2 hf=>?_)
   obtain ⟨hb2,hp2⟩:=hp2
   obtain rfl:=VR_int hp2
   have H:=H.keep hb2
   have hS:=H.lk 3 0 0 []
   refine aS hS ?_
   obtain ⟨y4,hy4,hGc3⟩:=bs_ hGc3
   refine n1g 12 (by kernel_rfl) rfl rfl rfl rfl hf (oC hf TF.cl186 (spec_l8Bits_ok (S:=TT) Block_mkv hy4) fun v3 w a hp3 hf=>?_)
   obtain ⟨hb3,hp3⟩:=hp3
   obtain rfl:=VR_int hp3
   have H:=H.keep hb3
   have hS:=H.lk 3 0 0 []
   refine aS hS ?_
   refine zg 13 hf hS fun a hf=>?_
   refine zg 14 hf hS fun a hf=>?_
   refine zp 15 hf hS fun a hf=>?_
   refine zp 16 hf hS fun a hf=>?_
   refine dk ?_
   obtain rfl:=oi hGc3
   have hf:=hf.pn [4]
   have H:=H.lk 0 0 0 []
   exact ⟨hf,H⟩
  have hf:=hf.lit 11 rfl hc
  refine zU 7 hf hS fun a hf=>?_
  refine zU 8 hf hS fun a hf=>?_
  refine zU 9 hf hS fun a hf=>?_
  refine zU 10 hf hS fun a hf=>?_
  refine zU 11 hf hS fun a hf=>?_
  refine zU 12 hf hS fun a hf=>?_
  refine zU 13 hf hS fun a hf=>?_
  refine zU 14 hf hS fun a hf=>?_
  refine zp 15 hf hS fun a hf=>?_
  refine zp 16 hf hS fun a hf=>?_
  refine dk ?_
  obtain rfl:=oi hGc3
  have hf:=hf.pn [4]
  have H:=H.lk 0 0 0 []
  exact ⟨hf,H⟩
 refine then_n (wp_ret (?_))
 obtain rfl:=oi hF
 refine rT hf ?_
 exact ⟨_,rfl,H.bel,mk_bool⟩
theorem spec_l9Good_ok {S:Nat→Prop} {v0_:Value} {p:Plan} {r:Bool} (h0:VR w0 S v0_ p) (hF:spec_l9Good fu p=some r) :
    Calls Tryz.prog 106 [v0_].toArray w0 fun e w'=>∃ v,e=.returned v∧(Below w0.heap.size w0 w'∧VR w' (St ⟨w0,[]⟩ S [] [] [] true) v r):=by
 obtain ⟨A,c,A2,c2,A3,c3,rfl,hl,hl2,hl3⟩:=Plan_open h0
 have H:=Mem.start ⟨w0,[]⟩ S
 have H:=H.pA hl
 have H:=H.pA hl2
 have H:=H.pA hl3
 refine en Tryz.func106 fun a hf=>?_
 rw [spec_l9Good] at hF
 refine bx hf H fun b' a w hf H=>?_
 refine pz 1 hf fun a hf=>?_
 refine wl_end (then_n (sq (sq ?_)))
 obtain ⟨c4,hGc4,hF⟩:=bs_ hF
 have fh:=hf.prune [1] rfl
 have Hm:=H.lm 1 0 0 3 7
 refine midF 14 (.bool c4) fh Hm ?_ fun a w hf H=>?_
 ·refine reg (pz 1 hf fun a hf=>?_)
  refine lN 0 hf H TF.la27 fun a hf=>?_
  obtain ⟨y,hy,hGc4⟩:=bs_ hGc4
  refine oc hf TF.cl197 (spec_l2Good_ok (S:=TT) (Network_mkv (x:=p.Network) (H.rt 2 rfl) (H.rt 1 rfl)) hy) fun v w a hp hf=>?_
  obtain ⟨hb,hp⟩:=hp
  obtain rfl:=VR_bool hp
  have H:=H.keep hb
  refine pz 2 hf fun a hf=>?_
  refine iteB hGc4 (fun hc hGc4=>?_) fun hc hGc4=>?_
  ·have hf:=hf.lit 9 rfl hc
   refine pz 5 hf fun a hf=>?_
   obtain rfl:=oi hGc4
   have hf:=hf.pn [14,1]
   have H:=H.lm 1 0 0 3 7
   exact wl_end ⟨hf,H⟩
  have hf:=hf.lit 9 rfl hc
  refine pz 1 hf fun a hf=>?_
  refine wlg hf rfl rfl rfl (op_q hf (rq_loadB hf H TF.ls28 0 rfl rfl rfl) rfl (by decide) fun a hf=>?_)
  refine pz 3 hf fun a hf=>?_
  obtain rfl:=oi hGc4
  have hf:=hf.pn [14,1]
  have H:=H.lm 1 0 0 3 7
  exact wl_end ⟨hf,H⟩
 refine then_n (ib hF hf (fun hc2 hF=>?_) fun hc2 hF=>?_)
 ·refine sqz (pz 1 hf fun a hf=>?_)
  refine wl_end (then_n (wp_ret (then_r (?_))))
  obtain rfl:=oi hF
  refine rT hf ?_
  exact ⟨_,rfl,H.bel,mk_bool⟩
 refine wp_skip (then_n (sq (sqz (pz 1 hf fun a hf=>?_))))
 refine wl_end (then_n ?_)
 obtain ⟨out',hB1,hF⟩:=bs_ hF
 have hf:=hf.pn [1,3]
 have H:=H.lm 1 0 0 3 7
 refine loopC (fun (s:Int) (a:Act) (w:World)=>match s with | i=>Fr a 67 [(1,(.pointer (some ⟨b',0,none⟩))),(3,(.int .i64 i))]∧Mem ⟨w0,[]⟩ S [⟨b',30,[(.slice A p.Network.Nodes.length c),(.slice A2 p.Network.Fibers.length c2),(.slice A3 p.Lights.length c3)]⟩] [] [] [(false,MP.val [(.slice A3 p.Lights.length c3)] (p.Lights:List Light)),(false,MP.val [(.slice A2 p.Network.Fibers.length c2)] (p.Network.Fibers:List Fiber)),(false,MP.val [(.slice A p.Network.Nodes.length c)] (p.Network.Nodes:List ByteArray))] w) (fun k (s:Int)=>spec_l9Good_L1 fu p k s=some out') (fun s=>out'=Out.next s) 0 fu hB1 ⟨hf,H⟩ (fun s h=>by cases h) ?_ ?_
 ·rintro fk i a w hR1 hI
  replace hR1:spec_l9Good_L1 fu p (fk + 1) i=some out':=hR1
  rw [spec_l9Good_L1] at hR1
  obtain ⟨hf,H⟩:=hI
  refine sq (sqz (pz 2 hf fun a hf=>?_))
  refine lB 0 hf H TF.ls28 fun a hf=>?_
  refine pz 2 hf fun a hf=>?_
  refine wl_end (then_n (ib hR1 hf (fun hc3 hR1=>?_) fun hc3 hR1=>?_))
  ·refine wp_skip (then_n (sq (wp_block (sq (sq ?_)))))
   obtain ⟨c5,hGc5,hR1⟩:=bs_ hR1
   have fh2:=hf.prune [1,3] rfl
   have Hm2:=H.lm 1 0 0 3 7
   refine midF 50 (.bool c5) fh2 Hm2 ?_ fun a w hf H=>?_
   ·refine dw [] 29 fun w hb=>?_
    have H:=H.keep hb
    refine zp 0 hf trivial fun a hf=>?_
    refine strT (H.lk 1 0 0 []) (fun w H=>trivial) fun hS=>?_
    refine zS 1 [] rfl rfl rfl rfl hf hS (fun w H=>rq_loadBN hf H TF.la27 0 rfl rfl rfl rfl) fun a hf=>?_
    refine zp 2 hf hS fun a hf=>?_
    refine zS 3 [] rfl rfl rfl rfl hf hS (fun w H=>rq_loadB hf H TF.ls28 0 rfl rfl rfl) fun a hf=>?_
    refine zp 4 hf hS fun a hf=>?_
    obtain ⟨e,he,hGc5⟩:=bs_ hGc5
    obtain ⟨p2,o,cs,hx,hr,H⟩:=pre_iaddr H Tryz.underlying28 TF.sz49 0 rfl he
    refine zP 5 rfl rfl rfl rfl hf hS (fun w=>rq_iaddrE hf rfl rfl rfl hx w) fun a hf=>?_
    obtain ⟨A4,c6,rfl,hl4⟩:=Light_cells hr
    have H:=H.pF hl4
    refine strT (H.lk 1 0 0 [1]) (fun w H=>H.lk 1 0 0 []) fun hS=>?_
    refine zS 6 [] rfl rfl rfl rfl hf hS (fun w H=>rq_loadIN hf H TF.la49 0 0 rfl rfl rfl rfl) fun a hf=>?_
    obtain ⟨y2,hy2,hGc5⟩:=bs_ hGc5
    refine nn 7 rfl (oC hf TF.cl198 (spec_l9Light_ok (S:=TT) (Network_mkv (x:=p.Network) (H.rt 4 rfl) (H.rt 3 rfl)) (Light_mkv (x:=e) (H.rt 0 rfl)) hy2) fun v2 w a hp2 hf=>?_)
    obtain ⟨hb2,hp2⟩:=hp2
    obtain rfl:=VR_bool hp2
    have H:=H.keep hb2
    have hS:=H.lk 1 0 0 [1]
    refine aS hS ?_
    refine zp 8 hf hS fun a hf=>?_
    refine zp 9 hf hS fun a hf=>?_
    refine iteB hGc5 (fun hc4 hGc5=>?_) fun hc4 hGc5=>?_
    ·have hf:=hf.lit 31 rfl hc4
     refine zU 10 hf hS fun a hf=>?_
     refine zU 11 hf hS fun a hf=>?_
     refine zU 12 hf hS fun a hf=>?_
     refine zV 13 hf hS fun a hf=>?_
     refine zV 14 hf hS fun a hf=>?_
     refine zV 15 hf hS fun a hf=>?_
     refine zV 16 hf hS fun a hf=>?_
     refine zV 17 hf hS fun a hf=>?_
     refine zV 18 hf hS fun a hf=>?_
     refine zV 19 hf hS fun a hf=>?_
     refine zV 20 hf hS fun a hf=>?_
     refine zV 21 hf hS fun a hf=>?_
     refine zV 22 hf hS fun a hf=>?_
     refine zV 23 hf hS fun a hf=>?_
     refine zV 24 hf hS fun a hf=>?_
     refine zV 25 hf hS fun a hf=>?_
     refine zV 26 hf hS fun a hf=>?_
     refine zU 27 hf hS fun a hf=>?_
     refine zp 28 hf hS fun a hf=>?_
     refine dk ?_
     obtain rfl:=oi hGc5
     have hf:=hf.pn [50,1,3]
     have H:=H.lm 1 0 0 5 28
     exact ⟨hf,H⟩
    have hf:=hf.lit 31 rfl hc4
    refine zg 10 hf hS fun a hf=>?_
    refine zg 11 hf hS fun a hf=>?_
    refine zg 12 hf hS fun a hf=>?_
    refine iteB hGc5 (fun hc5 hGc5=>?_) fun hc5 hGc5=>?_
    ·have hf:=hf.lit 34 rfl hc5
     refine zg 13 hf hS fun a hf=>?_
     refine tSg 14 [] rfl rfl rfl rfl rfl rfl hf (by kernel_rfl) (by kernel_rfl) hS (fun w H=>rq_loadB hf H TF.ls28 0 rfl rfl rfl) fun a hf=>?_
     refine zg 15 hf hS fun a hf=>?_
     refine zg 16 hf hS fun a hf=>?_
     obtain ⟨e2,he2,hGc5⟩:=bs_ hGc5
     obtain ⟨p3,o2,cs2,hx2,hr2,H⟩:=pre_iaddr H Tryz.underlying28 TF.sz49 2 rfl he2
     refine tPg 17 rfl rfl rfl rfl rfl rfl hf (by kernel_rfl) (fun _=>hS) (fun w=>rq_iaddrE hf rfl rfl rfl hx2 w) fun a hf=>?_
     obtain ⟨A5,c7,rfl,hl5⟩:=Light_cells hr2
     have H:=H.pF hl5
     refine zg 18 hf hS fun a hf=>?_
     refine strT (H.lk 1 0 0 [1,3]) (fun w H=>H.lk 1 0 0 [1]) fun hS=>?_
     refine tSg 19 [] rfl rfl rfl rfl rfl rfl hf (by kernel_rfl) (by kernel_rfl) hS (fun w H=>rq_loadI hf H TF.ls3 0 0 rfl rfl rfl) fun a hf=>?_
     refine zg 20 hf hS fun a hf=>?_
     refine tSg 21 [] rfl rfl rfl rfl rfl rfl hf (by kernel_rfl) (by kernel_rfl) hS (fun w H=>rq_loadB hf H TF.ls28 0 rfl rfl rfl) fun a hf=>?_
     refine zg 22 hf hS fun a hf=>?_
     obtain ⟨e3,he3,hGc5⟩:=bs_ hGc5
     obtain ⟨p4,o3,cs3,hx3,hr3,H⟩:=pre_iaddr H Tryz.underlying28 TF.sz49 4 rfl he3
     refine tPg 23 rfl rfl rfl rfl rfl rfl hf (by kernel_rfl) (fun _=>hS) (fun w=>rq_iaddrE hf rfl rfl rfl hx3 w) fun a hf=>?_
     obtain ⟨A6,c8,rfl,hl6⟩:=Light_cells hr3
     have H:=H.pF hl6
     refine zg 24 hf hS fun a hf=>?_
     refine strT (H.lm 1 0 0 6 42) (fun w H=>H.lk 1 0 0 [1,2]) fun hS=>?_
     refine tSg 25 [] rfl rfl rfl rfl rfl rfl hf (by kernel_rfl) (by kernel_rfl) hS (fun w H=>rq_loadI hf H TF.ls3 0 0 rfl rfl rfl) fun a hf=>?_
     refine zg 26 hf hS fun a hf=>?_
     refine zg 27 hf hS fun a hf=>?_
     refine zp 28 hf hS fun a hf=>?_
     refine dk ?_
     obtain rfl:=oi hGc5
     have hf:=hf.pn [50,1,3]
     have H:=H.lm 1 0 0 9 448
     exact ⟨hf,H⟩
    have hf:=hf.lit 34 rfl hc5
    refine zU 13 hf hS fun a hf=>?_
    refine zU 14 hf hS fun a hf=>?_
    refine zU 15 hf hS fun a hf=>?_
    refine zU 16 hf hS fun a hf=>?_
    refine zU 17 hf hS fun a hf=>?_
    refine zU 18 hf hS fun a hf=>?_
    refine zU 19 hf hS fun a hf=>?_
    refine zU 20 hf hS fun a hf=>?_
    refine zU 21 hf hS fun a hf=>?_
    refine zU 22 hf hS fun a hf=>?_
    refine zU 23 hf hS fun a hf=>?_
    refine zU 24 hf hS fun a hf=>?_
    refine zU 25 hf hS fun a hf=>?_
    refine zU 26 hf hS fun a hf=>?_
    refine zg 27 hf hS fun a hf=>?_
    refine zp 28 hf hS fun a hf=>?_
    refine dk ?_
    obtain rfl:=oi hGc5
    have hf:=hf.pn [50,1,3]
    have H:=H.lm 1 0 0 5 28
    exact ⟨hf,H⟩
   refine then_n (ib hR1 hf (fun hc6 hR1=>?_) fun hc6 hR1=>?_)
   ·refine sqz (pz 1 hf fun a hf=>?_)
    refine wl_end (then_n (wp_ret (then_r (blk_r (then_r (then_r (blk_r (then_r (then_r (?_))))))))))
    obtain rfl:=oi hR1
    replace hF:=on_ret hF
    obtain rfl:=oi hF
    refine rT hf ?_
    exact ⟨_,rfl,H.bel,mk_bool⟩
   refine wp_skip (then_n (sqz (pz 1 hf fun a hf=>?_)))
   refine wl_end (then_n ?_)
   obtain ⟨out2,hB2,hR1⟩:=bs_ hR1
   have hf:=hf.pn [1,3,4]
   have H:=H.lm 1 0 0 3 7
   refine loopC (fun (s:Int) (a:Act) (w:World)=>match s with | k'=>Fr a 67 [(1,(.pointer (some ⟨b',0,none⟩))),(3,(.int .i64 i)),(4,(.int .i64 k'))]∧Mem ⟨w0,[]⟩ S [⟨b',30,[(.slice A p.Network.Nodes.length c),(.slice A2 p.Network.Fibers.length c2),(.slice A3 p.Lights.length c3)]⟩] [] [] [(false,MP.val [(.slice A3 p.Lights.length c3)] (p.Lights:List Light)),(false,MP.val [(.slice A2 p.Network.Fibers.length c2)] (p.Network.Fibers:List Fiber)),(false,MP.val [(.slice A p.Network.Nodes.length c)] (p.Network.Nodes:List ByteArray))] w) (fun k (s:Int)=>spec_l9Good_L2 fu p i k s=some out2) (fun s=>out2=Out.next s) 0 fu hB2 ⟨hf,H⟩ (fun s h=>by cases h) ?_ ?_
   ·rintro fk k' a w hR2 hI
    replace hR2:spec_l9Good_L2 fu p i (fk + 1) k'=some out2:=hR2
    rw [spec_l9Good_L2] at hR2
    obtain ⟨hf,H⟩:=hI
    refine sq (sqz (pz 3 hf fun a hf=>?_))
    refine wl_end (then_n (ib hR2 hf (fun hc7 hR2=>?_) fun hc7 hR2=>?_))
    ·refine wp_skip (then_n (sq (wp_block (sq (dw [] 11 fun w hb=>?_)))))
     have H:=H.keep hb
     refine zp 0 hf trivial fun a hf=>?_
     refine strT (H.lk 1 0 0 []) (fun w H=>trivial) fun hS=>?_
     refine zS 1 [] rfl rfl rfl rfl hf hS (fun w H=>rq_loadB hf H TF.ls28 0 rfl rfl rfl) fun a hf=>?_
     refine zp 2 hf hS fun a hf=>?_
     obtain ⟨e4,he4,hR2⟩:=bs_ hR2
     obtain ⟨p5,o4,cs4,hx4,hr4,H⟩:=pre_iaddr H Tryz.underlying28 TF.sz49 0 rfl he4
     refine zP 3 rfl rfl rfl rfl hf hS (fun w=>rq_iaddrE hf rfl rfl rfl hx4 w) fun a hf=>?_
     obtain ⟨A7,c9,rfl,hl7⟩:=Light_cells hr4
     have H:=H.pF hl7
     refine strT (H.lk 1 0 0 [1]) (fun w H=>H.lk 1 0 0 []) fun hS=>?_
     refine zS 4 [] rfl rfl rfl rfl hf hS (fun w H=>rq_loadIN hf H TF.la49 0 0 rfl rfl rfl rfl) fun a hf=>?_
     refine zp 5 hf hS fun a hf=>?_
     refine zS 6 [] rfl rfl rfl rfl hf hS (fun w H=>rq_loadB hf H TF.ls28 0 rfl rfl rfl) fun a hf=>?_
     refine zp 7 hf hS fun a hf=>?_
     obtain ⟨e5,he5,hR2⟩:=bs_ hR2
     obtain ⟨p6,o5,cs5,hx5,hr5,H⟩:=pre_iaddr H Tryz.underlying28 TF.sz49 2 rfl he5
     refine zP 8 rfl rfl rfl rfl hf hS (fun w=>rq_iaddrE hf rfl rfl rfl hx5 w) fun a hf=>?_
     obtain ⟨A8,c10,rfl,hl8⟩:=Light_cells hr5
     have H:=H.pF hl8
     refine strT (H.lk 1 0 0 [1,3]) (fun w H=>H.lk 1 0 0 [1]) fun hS=>?_
     refine zS 9 [] rfl rfl rfl rfl hf hS (fun w H=>rq_loadIN hf H TF.la49 0 0 rfl rfl rfl rfl) fun a hf=>?_
     obtain ⟨y3,hy3,hR2⟩:=bs_ hR2
     refine nn 10 rfl (oC hf TF.cl199 (spec_l9Collide_ok (S:=TT) (Light_mkv (x:=e4) (H.rt 2 rfl)) (Light_mkv (x:=e5) (H.rt 0 rfl)) hy3) fun v3 w a hp3 hf=>?_)
     obtain ⟨hb3,hp3⟩:=hp3
     obtain rfl:=VR_bool hp3
     have H:=H.keep hb3
     have hS:=H.lk 1 0 0 [1,3]
     refine aS hS ?_
     refine dk ?_
     have hf:=hf.pn [1,3,4,66]
     refine then_n (ib hR2 hf (fun hc8 hR2=>?_) fun hc8 hR2=>?_)
     ·refine sqz (pz 1 hf fun a hf=>?_)
      refine wl_end (then_n (wp_ret (blk_r (then_r (then_r (blk_r (then_r (blk_r (then_r (then_r (blk_r (then_r (then_r (?_))))))))))))))
      obtain rfl:=oi hR2
      replace hR1:=on_ret hR1
      obtain rfl:=oi hR1
      replace hF:=on_ret hF
      obtain rfl:=oi hF
      refine rT hf ?_
      exact ⟨_,rfl,H.bel,mk_bool⟩
     refine wp_skip (blk_n (then_n (reg (pz 3 hf fun a hf=>?_))))
     refine wl_end ?_
     have hf:=hf.pn [1,3,4]
     have H:=H.lm 1 0 0 7 112
     exact then_n ⟨w64 (k' + 1),hR2,hf,H⟩
    refine wp_exit (then_x (then_x (blk_e (?_))))
    have hf:=hf.pn [1,3,4]
    have H:=H.lm 1 0 0 3 7
    exact ⟨k',(Option.some.inj hR2).symm,hf,H⟩
   rintro a w ⟨k2,rfl,hf,H⟩
   replace hR1:=on_next hR1
   refine blk_n (then_n (reg (pz 3 hf fun a hf=>?_)))
   refine wl_end ?_
   have hf:=hf.pn [1,3]
   have H:=H.lm 1 0 0 3 7
   exact then_n ⟨w64 (i + 1),hR1,hf,H⟩
  refine wp_exit (then_x (then_x (blk_e (?_))))
  have hf:=hf.pn [1,3]
  have H:=H.lm 1 0 0 3 7
  exact ⟨i,(Option.some.inj hR1).symm,hf,H⟩
 rintro a w ⟨i2,rfl,hf,H⟩
 replace hF:=on_next hF
 refine then_n (sqz (pz 1 hf fun a hf=>?_))
 refine wer ?_
 obtain rfl:=oi hF
 refine rT hf ?_
 exact ⟨_,rfl,H.bel,mk_bool⟩
theorem spec_l15Copy_ok {S:Nat→Prop} {v0_:Value} {list:List Light} {r:List Light} (h0:VR w0 S v0_ list) (hF:spec_l15Copy fu list=some r) :
    Calls Tryz.prog 214 [v0_].toArray w0 fun e w'=>∃ v,e=.returned v∧(Below w0.heap.size w0 w'∧∃ F0,VO w' F0 v r∧New w0 w' F0):=by
 obtain ⟨A,c,rfl,hl⟩:=VR_list h0
 have H:=Mem.start ⟨w0,[]⟩ S
 have H:=H.pA hl
 refine en Tryz.func214 fun a hf=>?_
 rw [spec_l15Copy] at hF
 refine sqz (pz 1 hf fun a hf=>?_)
 refine wr (wl0 rfl (op_bslice hf H (.ow []) rfl 49 ([]:List Light) [] rfl (fun w=>by kernel_rfl) rfl (by decide) rfl rfl (fun i x h=>by simp at h) (by decide) fun A2 a w hf H=>?_))
 refine pz 1 hf fun a hf=>?_
 refine we (sqz (pz 1 hf fun a hf=>?_))
 refine wl_end (then_n ?_)
 obtain ⟨out2,hB1,hF⟩:=bs_ hF
 have hf:=hf.pn [0,3,4]
 have H:=H.lk 0 1 0 [0]
 refine loopC (fun (s:List Light×Int) (a:Act) (w:World)=>match s with | (out',i)=>∃ (A3:Option Addr) (c2:Nat) (E:Go.TypeId) (Fs:List (List Nat)),Fr a 21 [(0,(.slice A list.length c)),(3,(.slice A3 out'.length c2)),(4,(.int .i64 i))]∧Mem ⟨w0,[]⟩ S [] [⟨.ow Fs,E,A3,c2,(out':List Light)⟩] [] [(false,MP.val [(.slice A list.length c)] (list:List Light))] w) (fun k (s:List Light×Int)=>spec_l15Copy_L1 fu list k s.1 s.2=some out2) (fun s=>out2=s) (([]:List Light),0) fu hB1 ⟨A2,0,49,[],hf,H⟩ (fun s h=>by cases h) ?_ ?_
 ·rintro fk ⟨out',i⟩ a w hR1 hI
  replace hR1:spec_l15Copy_L1 fu list (fk + 1) out' i=some out2:=hR1
  rw [spec_l15Copy_L1] at hR1
  obtain ⟨A3,c2,E,Fs,hf,H⟩:=hI
  refine sq (sqz (pz 4 hf fun a hf=>?_))
  refine wl_end (then_n (ib hR1 hf (fun hc hR1=>?_) fun hc hR1=>?_))
  ·refine wp_skip (then_n (sq (wp_block (reg (pz 3 hf fun a hf=>?_)))))
   obtain ⟨e,he,hR1⟩:=bs_ hR1
   refine wl0 rfl (op_iaddr hf H Tryz.underlying28 TF.sz49 0 rfl rfl rfl he (by decide) fun p o cs a hf hr H=>?_)
   obtain ⟨A4,c3,rfl,hl2⟩:=Light_cells hr
   have H:=H.pF hl2
   refine oq hf (rq_loadIN hf H TF.la49 1 0 rfl rfl rfl rfl) fun a hf=>?_
   obtain ⟨y,hy,hR1⟩:=bs_ hR1
   refine oc hf TF.cl188 (spec_l9Copy_ok (S:=TT) (Light_mkv (x:=e) (H.rt 0 rfl)) hy) fun v w a hp hf=>?_
   obtain ⟨hb,F,hp2,hN⟩:=hp
   obtain ⟨A5,c4,F2,rfl,rfl,hl3⟩:=Light_vo hp2
   have H:=H.aO1 hb hN hl3
   have H:=H.lend 0 rfl
   have H:=H.recast (X:=[(⟨F2,MP.own F2 [(.slice A5 y.Route.Fibers.length c4)] (y.Route.Fibers:List Int)⟩:DI)]) (Y:=[(⟨F2,MP.own F2 [(.int .i64 y.Id),(.int .i64 y.Route.Start),(.slice A5 y.Route.Fibers.length c4),(.int .i64 y.Block.First),(.int .i64 y.Block.Count)] (y:Light)⟩:DI)]) (List.Perm.of_eq (by simp)) fun _=>ps1 (Light_ownmk (x:=y) (H.ownAt 0 rfl)) ps0
   refine wl0 rfl (op_bsliceO hf 49 H rfl (fun w=>by kernel_rfl) (by decide) fun A6 a w hf H=>?_)
   obtain ⟨al,hal,hR1⟩:=bs_ hR1
   have H:=H.frontR 1 rfl
   refine wl0 rfl (op_appO hf H Tryz.underlying28 TF.ai49 rfl (by decide) rfl rfl hal (by decide) fun E2 A7 c5 a w hf H=>?_)
   refine pz 1 hf fun a hf=>?_
   refine wl_end (blk_n (then_n (reg (pz 3 hf fun a hf=>?_))))
   have hf:=hf.pn [0,3,4]
   refine wl_end ?_
   have hf:=hf.pn [0,3,4]
   have H:=H.lk 0 1 0 [3]
   exact then_n ⟨(al,w64 (i + 1)),hR1,A7,c5,E2,Fs++[F2],hf,H⟩
  refine wp_exit (then_x (then_x (blk_e (?_))))
  have hf:=hf.pn [0,3,4]
  have H:=H.lk 0 1 0 [0]
  exact ⟨(out',i),(Option.some.inj hR1).symm,A3,c2,E,Fs,hf,H⟩
 rintro a w ⟨⟨out3,i2⟩,rfl,A8,c6,E3,Fs2,hf,H⟩
 try dsimp only at hF
 refine then_n (sqz (pz 2 hf fun a hf=>?_))
 refine wer ?_
 obtain ⟨F3,H⟩:=H.freezeOwn 0 rfl
 have H:=H.lend 0 rfl
 obtain rfl:=oi hF
 refine rT hf ?_
 have hN:=H.ends1
 exact ⟨_,rfl,H.bel,F3,(mko_list (H.ownAt 0 rfl)),by first | exact hN | simpa using hN⟩
theorem spec_StartRestoration_ok {S:Nat→Prop} {v0_:Value} {p:Plan} {r:Restoration×Bool} (h0:VR w0 S v0_ p) (hF:spec_StartRestoration fu p=some r) :
    Calls Tryz.prog 125 [v0_].toArray w0 fun e w'=>∃ v,e=.returned v∧(Below w0.heap.size w0 w'∧∃ F0,∃ u0 u1,v=.tuple #[u0,u1]∧VO w' F0 u0 r.1∧VR w' (St ⟨w0,[]⟩ S [] [] [] true) u1 r.2∧New w0 w' F0):=by
 obtain ⟨A,c,A2,c2,A3,c3,rfl,hl,hl2,hl3⟩:=Plan_open h0
 have H:=Mem.start ⟨w0,[]⟩ S
 have H:=H.pA hl
 have H:=H.pA hl2
 have H:=H.pA hl3
 refine en Tryz.func125 fun a hf=>?_
 rw [spec_StartRestoration] at hF
 refine bx hf H fun b' a w hf H=>?_
 refine aL hf H TF.zv60 fun b2 a w hf H=>?_
 refine pz 1 hf fun a hf=>?_
 refine wl_end (then_n (sq (sq (reg (lN 1 hf H TF.la30 fun a hf=>?_)))))
 obtain ⟨y,hy,hF⟩:=bs_ hF
 refine oc hf TF.cl106 (spec_l9Good_ok (S:=TT) (Plan_mkv (x:=p) (H.rt 2 rfl) (H.rt 1 rfl) (H.rt 0 rfl)) hy) fun v w a hp hf=>?_
 obtain ⟨hb,hp⟩:=hp
 obtain rfl:=VR_bool hp
 have H:=H.keep hb
 refine pz 1 hf fun a hf=>?_
 refine wl_end (then_n (ib hF hf (fun hc hF=>?_) fun hc hF=>?_))
 ·refine sq (reg (oq hf (rq_build hf (cs:=[(.slice none 0 0),(.slice none 0 0),(.slice none 0 0),(.slice none 0 0),(.slice none 0 0)]) rfl (fun w=>by kernel_rfl)) fun a hf=>?_))
  refine sB 0 hf H TF.sz60 fun w H=>?_
  refine pz 1 hf fun a hf=>?_
  refine wl_end (then_n (wp_ret (then_r (?_))))
  have H:=H.ownNil (ByteArray)
  have H:=H.lend 0 rfl
  have H:=H.ownNil (Fiber)
  have H:=H.lend 0 rfl
  have H:=H.ownNil (Light)
  have H:=H.lend 0 rfl
  have H:=H.ownNil (Light)
  have H:=H.lend 0 rfl
  have H:=H.ownNil (Int)
  have H:=H.lend 0 rfl
  have H:=H.frontD 1 rfl
  have H:=H.frontD 2 rfl
  have H:=H.frontD 3 rfl
  have H:=H.frontD 4 rfl
  obtain rfl:=oi hF
  refine ret_2 hf rfl (rv_cellN hf H 0 TF.la60 rfl rfl rfl) (rv_tmp hf rfl) ?_
  have hN:=H.ends (X:=[(⟨[],MP.own [] [(.slice none 0 0)] ([]:List ByteArray)⟩:DI),(⟨[],MP.own [] [(.slice none 0 0)] ([]:List Fiber)⟩:DI),(⟨[],MP.own [] [(.slice none 0 0)] ([]:List Light)⟩:DI),(⟨[],MP.own [] [(.slice none 0 0)] ([]:List Light)⟩:DI),(⟨[],MP.own [] [(.slice none 0 0)] ([]:List Int)⟩:DI)])
  simp only [List.flatMap_cons,List.flatMap_nil,List.append_nil,List.append_assoc] at hN
  exact ⟨_,rfl,H.bel,([]++([]++([]++([]++[])))),_,_,rfl,⟨_,Restoration_ownmk (x:=({ Plan:=({ Network:=({ Nodes:=[],Fibers:=[] }:Network),Lights:=[] }:Plan),Home:=[],Down:=[] }:Restoration)) (H.ownAt 0 rfl) (H.ownAt 1 rfl) (H.ownAt 2 rfl) (H.ownAt 3 rfl) (H.ownAt 4 rfl),rfl⟩,mk_bool,by first | exact hN | simpa using hN⟩
 refine wp_skip (then_n (sq ?_))
 obtain ⟨y2,hy2,hF⟩:=bs_ hF
 obtain ⟨y3,hy3,hF⟩:=bs_ hF
 refine mid (fun a w=>∃ (A4:Option Addr) (c4:Nat) (F2:List Nat) (A5:Option Addr) (c5:Nat) (F3:List Nat) (A6:Option Addr) (c6:Nat) (F4:List Nat) (A7:Option Addr) (c7:Nat) (F5:List Nat) (A8:Option Addr),Fr a 15 [(2,(.pointer (some ⟨b2,0,none⟩))),(3,(.bool true))]∧Mem ⟨w0,[]⟩ S [⟨b2,60,[(.slice A4 y2.Network.Nodes.length c4),(.slice A5 y2.Network.Fibers.length c5),(.slice A6 y2.Lights.length c6),(.slice A7 y3.length c7),(.slice A8 0 0)]⟩] [⟨.sh true,3,A8,0,(([]:List Int):List Int)⟩] [⟨F5,MP.own F5 [(.slice A7 y3.length c7)] (y3:List Light)⟩,⟨F2,MP.own F2 [(.slice A4 y2.Network.Nodes.length c4)] (y2.Network.Nodes:List ByteArray)⟩,⟨F3,MP.own F3 [(.slice A5 y2.Network.Fibers.length c5)] (y2.Network.Fibers:List Fiber)⟩,⟨F4,MP.own F4 [(.slice A6 y2.Lights.length c6)] (y2.Lights:List Light)⟩] [(true,MP.val [(.slice A7 y3.length c7)] (y3:List Light)),(true,MP.val [(.slice A6 y2.Lights.length c6)] (y2.Lights:List Light)),(true,MP.val [(.slice A5 y2.Network.Fibers.length c5)] (y2.Network.Fibers:List Fiber)),(true,MP.val [(.slice A4 y2.Network.Nodes.length c4)] (y2.Network.Nodes:List ByteArray))] w) ?_ ?_
 ·refine dw [7] 9 fun w hb=>?_
  have H:=H.keep hb
  refine strT (H.lk 2 0 0 []) (fun w H=>trivial) fun hS=>?_
  refine zS 0 [0,1,4,6,7,8] rfl rfl rfl rfl hf hS (fun w H=>rq_loadBN hf H TF.la30 0 rfl rfl rfl rfl) fun a hf=>?_
  refine zp 2 hf hS fun a hf=>?_
  refine zS 3 [3,4,6,7,8] rfl rfl rfl rfl hf hS (fun w H=>rq_loadB hf H TF.ls28 0 rfl rfl rfl) fun a hf=>?_
  refine on2 (i:=1) (j:=5) (bi:=[true,true,true,true,false,false,false,false,false]) (bj:=[true,false,true,true,false,true,false,false,false]) (by kernel_rfl) rfl rfl rfl rfl rfl rfl ?_ ?_
  ·refine (oC hf TF.cl154 (spec_l9Own_ok (S:=TT) (Plan_mkv (x:=p) (H.rt 2 rfl) (H.rt 1 rfl) (H.rt 0 rfl)) hy2) fun v2 w a hp2 hf=>?_)
   obtain ⟨hb2,F,hp3,hN⟩:=hp2
   obtain ⟨A4,c4,F2,A5,c5,F3,A6,c6,F4,rfl,rfl,hl4,hl5,hl6⟩:=Plan_vo hp3
   have H:=H.aO3 hb2 (by first | exact hN | simpa using hN) hl4 hl5 hl6
   have H:=H.lend 0 rfl
   have H:=H.lend 1 rfl
   have H:=H.lend 2 rfl
   have hS:=H.lk 2 0 0 []
   refine aS hS ?_
   refine on2 (i:=4) (j:=5) (bi:=[true,true,true,true,true,false,false,false,false]) (bj:=[true,true,true,true,false,true,false,false,false]) (by kernel_rfl) rfl rfl rfl rfl rfl rfl ?_ ?_
   ·refine (oC hf TF.cl214 (spec_l15Copy_ok (S:=TT) (mk_list (H.rt 3 rfl)) hy3) fun v3 w a hp4 hf=>?_)
    obtain ⟨hb3,F5,hp5,hN2⟩:=hp4
    obtain ⟨A7,c7,rfl,hl7⟩:=VO_list hp5
    have H:=H.aO1 hb3 hN2 hl7
    have H:=H.lend 0 rfl
    have hS:=H.lk 2 0 0 []
    refine aS hS ?_
    refine nn 5 rfl (bl hf H 3 ([]:List Int) [] el0 fun A8 a w hf H=>?_)
    have hS:=H.lk 2 0 0 []
    refine aS hS ?_
    refine zP 6 rfl rfl rfl rfl hf hS (fun w=>rq_build hf (cs:=[(.slice A4 y2.Network.Nodes.length c4),(.slice A5 y2.Network.Fibers.length c5),(.slice A6 y2.Lights.length c6),(.slice A7 y3.length c7),(.slice A8 0 0)]) rfl (fun w=>by kernel_rfl)) fun a hf=>?_
    refine nn 7 rfl (op_storeB hf H 0 TF.sz60 rfl rfl rfl rfl rfl rfl (nle rfl) fun w H=>?_)
    refine ⟨fun h=>absurd h (by decide),?_⟩
    refine tp 8 rfl rfl hf (by kernel_rfl) (fun h=>absurd h (by decide)) rfl fun a hf=>?_
    refine dk ?_
    have hf:=hf.pn [2,3]
    have H:=H.lm 1 1 15 4 15
    exact ⟨A4,c4,F2,A5,c5,F3,A6,c6,F4,A7,c7,F5,A8,hf,H⟩
   refine (bl hf H 3 ([]:List Int) [] el0 fun A7 a w hf H=>?_)
   have hS:=H.lk 2 0 0 []
   refine aS hS ?_
   refine nn 4 rfl (oC hf TF.cl214 (spec_l15Copy_ok (S:=TT) (mk_list (H.rt 3 rfl)) hy3) fun v3 w a hp4 hf=>?_)
   obtain ⟨hb3,F5,hp5,hN2⟩:=hp4
   obtain ⟨A8,c7,rfl,hl7⟩:=VO_list hp5
   have H:=H.aO1 hb3 hN2 hl7
   have H:=H.lend 0 rfl
   have hS:=H.lk 2 0 0 []
   refine aS hS ?_
   refine zP 6 rfl rfl rfl rfl hf hS (fun w=>rq_build hf (cs:=[(.slice A4 y2.Network.Nodes.length c4),(.slice A5 y2.Network.Fibers.length c5),(.slice A6 y2.Lights.length c6),(.slice A8 y3.length c7),(.slice A7 0 0)]) rfl (fun w=>by kernel_rfl)) fun a hf=>?_
   refine nn 7 rfl (op_storeB hf H 0 TF.sz60 rfl rfl rfl rfl rfl rfl (nle rfl) fun w H=>?_)
   refine ⟨fun h=>absurd h (by decide),?_⟩
   refine tp 8 rfl rfl hf (by kernel_rfl) (fun h=>absurd h (by decide)) rfl fun a hf=>?_
   refine dk ?_
   have hf:=hf.pn [2,3]
   have H:=H.lm 1 1 15 4 15
   exact ⟨A4,c4,F2,A5,c5,F3,A6,c6,F4,A8,c7,F5,A7,hf,H⟩
  refine (bl hf H 3 ([]:List Int) [] el0 fun A4 a w hf H=>?_)
  have hS:=H.lk 2 0 0 []
  refine aS hS ?_
  refine nn 1 rfl (oC hf TF.cl154 (spec_l9Own_ok (S:=TT) (Plan_mkv (x:=p) (H.rt 2 rfl) (H.rt 1 rfl) (H.rt 0 rfl)) hy2) fun v2 w a hp2 hf=>?_)
  obtain ⟨hb2,F,hp3,hN⟩:=hp2
  obtain ⟨A5,c4,F2,A6,c5,F3,A7,c6,F4,rfl,rfl,hl4,hl5,hl6⟩:=Plan_vo hp3
  have H:=H.aO3 hb2 (by first | exact hN | simpa using hN) hl4 hl5 hl6
  have H:=H.lend 0 rfl
  have H:=H.lend 1 rfl
  have H:=H.lend 2 rfl
  have hS:=H.lk 2 0 0 []
  refine aS hS ?_
  refine nn 4 rfl (oC hf TF.cl214 (spec_l15Copy_ok (S:=TT) (mk_list (H.rt 3 rfl)) hy3) fun v3 w a hp4 hf=>?_)
  obtain ⟨hb3,F5,hp5,hN2⟩:=hp4
  obtain ⟨A8,c7,rfl,hl7⟩:=VO_list hp5
  have H:=H.aO1 hb3 hN2 hl7
  have H:=H.lend 0 rfl
  have hS:=H.lk 2 0 0 []
  refine aS hS ?_
  refine zP 6 rfl rfl rfl rfl hf hS (fun w=>rq_build hf (cs:=[(.slice A5 y2.Network.Nodes.length c4),(.slice A6 y2.Network.Fibers.length c5),(.slice A7 y2.Lights.length c6),(.slice A8 y3.length c7),(.slice A4 0 0)]) rfl (fun w=>by kernel_rfl)) fun a hf=>?_
  refine nn 7 rfl (op_storeB hf H 0 TF.sz60 rfl rfl rfl rfl rfl rfl (nle rfl) fun w H=>?_)
  refine ⟨fun h=>absurd h (by decide),?_⟩
  refine tp 8 rfl rfl hf (by kernel_rfl) (fun h=>absurd h (by decide)) rfl fun a hf=>?_
  refine dk ?_
  have hf:=hf.pn [2,3]
  have H:=H.lm 1 1 15 4 15
  exact ⟨A5,c4,F2,A6,c5,F3,A7,c6,F4,A8,c7,F5,A4,hf,H⟩
 rintro a w ⟨A4,c4,F2,A5,c5,F3,A6,c6,F4,A7,c7,F5,A8,hf,H⟩
 refine then_n (wp_ret (?_))
 have H:=H.rowOwn 0 rfl rfl
 obtain ⟨F7,H⟩:=H.freezeOwn 0 rfl
 have H:=H.lend 0 rfl
 have H:=H.frontD 1 rfl
 have H:=H.frontD 4 rfl
 have H:=H.frontD 4 rfl
 have H:=H.frontD 4 rfl
 obtain rfl:=oi hF
 refine ret_2 hf rfl (rv_cellN hf H 0 TF.la60 rfl rfl rfl) (rv_tmp hf rfl) ?_
 have hN:=H.ends (X:=[(⟨F2,MP.own F2 [(.slice A4 y2.Network.Nodes.length c4)] (y2.Network.Nodes:List ByteArray)⟩:DI),(⟨F3,MP.own F3 [(.slice A5 y2.Network.Fibers.length c5)] (y2.Network.Fibers:List Fiber)⟩:DI),(⟨F4,MP.own F4 [(.slice A6 y2.Lights.length c6)] (y2.Lights:List Light)⟩:DI),(⟨F5,MP.own F5 [(.slice A7 y3.length c7)] (y3:List Light)⟩:DI),(⟨F7,MP.own F7 [(.slice A8 0 0)] (([]:List Int):List Int)⟩:DI)])
 simp only [List.flatMap_cons,List.flatMap_nil,List.append_nil,List.append_assoc] at hN
 exact ⟨_,rfl,H.bel,(F2++(F3++(F4++(F5++F7)))),_,_,rfl,⟨_,Restoration_ownmk (x:=({ Plan:=y2,Home:=y3,Down:=([]:List Int) }:Restoration)) (H.ownAt 0 rfl) (H.ownAt 1 rfl) (H.ownAt 2 rfl) (H.ownAt 3 rfl) (H.ownAt 4 rfl),rfl⟩,mk_bool,by first | exact hN | simpa using hN⟩
theorem spec_l1Cur_some15_ok {S:Nat→Prop} {b0:Nat} {cs0:List Value} {v1_:Value} {c:L1CurP} {n':Network} {r:List Int×L1CurP} (hp0:w0.heap[b0]?=some (.cells cs0.toArray 109 (0,0))) (hr0:GoTy.rep w0 S cs0 c) (hS0:¬S b0) (h1:VR w0 S v1_ n') (hF:spec_l1Cur_some15 fu c n'=some r) :
    Calls Tryz.prog 87 [(.pointer (some ⟨b0,0,none⟩)),v1_].toArray w0 fun e w'=>∃ v,e=.returned v∧(Chg w0 w' [b0]∧∃ cs',w'.heap[b0]?=some (.cells cs'.toArray 109 (0,0))∧GoTy.rep w' (St ⟨w0,[b0]⟩ S [⟨b0,109,cs'⟩] [] [] false) cs' r.2∧(cs'[0]?=cs0[0]?∧r.2.code=c.code)∧∃ F0,VO w' F0 v r.1∧New w0 w' F0):=by
 obtain ⟨A,c2,rfl,hl⟩:=L1CurP_cells hr0
 obtain ⟨A2,c3,A3,c4,rfl,hl2,hl3⟩:=Network_open h1
 have H:=Mem.startB S hp0
 have H:=H.pB hS0 hl
 have H:=H.pB hS0 hl2
 have H:=H.pB hS0 hl3
 refine en Tryz.func87 fun a hf=>?_
 rw [spec_l1Cur_some15] at hF
 refine bx hf H fun b3 a w hf H=>?_
 refine pz 1 hf fun a hf=>?_
 refine wr (wl0 rfl (bl hf H 3 ([]:List Int) [] el0 fun A4 a w hf H=>?_))
 refine pz 1 hf fun a hf=>?_
 refine we (sqz (pz 1 hf fun a hf=>?_))
 refine wl_end (then_n ?_)
 obtain ⟨out2,hB1,hF⟩:=bs_ hF
 have hf:=hf.pn [0,3,5,6]
 have H:=H.lk 3 1 0 [2,0,1]
 refine loopC (fun (s:List Int×Int×List By×Int×U64) (a:Act) (w:World)=>match s with | (out',i,m,m2,m3)=>∃ (A5:Option Addr) (c5:Nat) (E:Go.TypeId),m=c.code∧Fr a 30 [(0,(.pointer (some ⟨b0,0,none⟩))),(3,(.pointer (some ⟨b3,0,none⟩))),(5,(.slice A5 out'.length c5)),(6,(.int .i64 i))]∧Mem ⟨w0,[b0]⟩ S [⟨b3,27,[(.slice A2 n'.Nodes.length c3),(.slice A3 n'.Fibers.length c4)]⟩,⟨b0,109,[(.slice A m.length c2),(.int .i64 m2),(.int .u64 m3.n)]⟩] [⟨.sh true,E,A5,c5,(out':List Int)⟩] [] [(false,MP.val [(.slice A m.length c2)] (m:List By)),(false,MP.val [(.slice A3 n'.Fibers.length c4)] (n'.Fibers:List Fiber)),(false,MP.val [(.slice A2 n'.Nodes.length c3)] (n'.Nodes:List ByteArray))] w) (fun k (s:List Int×Int×List By×Int×U64)=>spec_l1Cur_some15_L1 fu n' k s.1 s.2.1 s.2.2.1 s.2.2.2.1 s.2.2.2.2=some out2) (fun s=>out2=s) (([]:List Int),0,c.code,c.at_,c.seed) fu hB1 ⟨A4,0,3,rfl,hf,H⟩ (fun s h=>by cases h) ?_ ?_
 ·rintro fk ⟨out',i,m,m2,m3⟩ a w hR1 hI
  replace hR1:spec_l1Cur_some15_L1 fu n' (fk + 1) out' i m m2 m3=some out2:=hR1
  rw [spec_l1Cur_some15_L1] at hR1
  obtain ⟨A5,c5,E,hsm,hf,H⟩:=hI
  refine sq (sqz (pz 2 hf fun a hf=>?_))
  refine lB 0 hf H TF.ls25 fun a hf=>?_
  refine pz 2 hf fun a hf=>?_
  refine wl_end (then_n (ib hR1 hf (fun hc hR1=>?_) fun hc hR1=>?_))
  ·refine ws (pz 1 hf fun a hf=>?_)
   obtain ⟨y,hy,hR1⟩:=bs_ hR1
   refine oc hf TF.cl84 (spec_l1Cur_one_ok (S:=NB b0) (H.boxAt 1 rfl) ((L1CurP_mk (x:=({ code:=m,at_:=m2,seed:=m3 }:L1CurP)) (H.nb 1 rfl (H.get 0 rfl)))) (fun h=>h rfl) mk_int hy) fun v w a hp3 hf=>?_
   obtain ⟨hch,cs3,hbx,hr3,⟨hx,hx2⟩,hs⟩:=hp3
   obtain rfl:=VR_bool hs
   obtain ⟨A6,c6,rfl,hl4⟩:=L1CurP_cells hr3
   obtain ⟨rfl,rfl⟩:=fx_slice hx rfl rfl
   have hx3:=hx2.trans hsm
   have H:=H.wroteBox 1 rfl hch hbx
   have H:=H.pX 0 rfl hx2
   refine wl_end (then_n (ib hR1 hf (fun hc2 hR1=>?_) fun hc2 hR1=>?_))
   ·refine reg (pz 2 hf fun a hf=>?_)
    refine wl0 rfl (bl hf H 3 ([i]:List Int) [(.int .i64 i)] (el1 (y:=i) (rfl)) fun A7 a w hf H=>?_)
    obtain ⟨l,hl_,hR1⟩:=bs_ hR1
    refine wl0 rfl (op_appR hf H Tryz.underlying35 TF.ai3 rfl (by decide) 1 0 rfl rfl rfl rfl (.inr rfl) hl_ (by decide) fun E2 A8 c7 a w hf H=>?_)
    refine pz 1 hf fun a hf=>?_
    refine wl_end (blk_n (then_n (reg (pz 3 hf fun a hf=>?_))))
    have hf:=hf.pn [0,3,5,6]
    refine wl_end ?_
    have hf:=hf.pn [0,3,5,6]
    have H:=H.lm 3 2 0 4 13
    exact then_n ⟨(l,w64 (i + 1),y.2.code,y.2.at_,y.2.seed),hR1,A8,c7,E2,hx3,hf,H⟩
   refine wp_skip (blk_n (then_n (reg (pz 3 hf fun a hf=>?_))))
   refine wl_end ?_
   have hf:=hf.pn [0,3,5,6]
   have H:=H.lm 3 1 0 4 13
   exact then_n ⟨(out',w64 (i + 1),y.2.code,y.2.at_,y.2.seed),hR1,A5,c5,E,hx3,hf,H⟩
  refine wp_exit (then_x (then_x (blk_e (?_))))
  have hf:=hf.pn [0,3,5,6]
  have H:=H.lm 3 1 0 3 7
  exact ⟨(out',i,m,m2,m3),(Option.some.inj hR1).symm,A5,c5,E,hsm,hf,H⟩
 rintro a w ⟨⟨out3,i2,m4,m5,m6⟩,rfl,A9,c8,E3,hsm,hf,H⟩
 try dsimp only at hsm
 try dsimp only at hF
 refine then_n (sq (sqz (pz 1 hf fun a hf=>?_)))
 obtain ⟨y2,hy2,hF⟩:=bs_ hF
 refine oc hf TF.cl84 (spec_l1Cur_one_ok (S:=NB b0) (H.boxAt 1 rfl) ((L1CurP_mk (x:=({ code:=m4,at_:=m5,seed:=m6 }:L1CurP)) (H.nb 1 rfl (H.get 0 rfl)))) (fun h=>h rfl) mk_int hy2) fun v2 w a hp4 hf=>?_
 obtain ⟨hch2,cs4,hbx2,hr4,⟨hx4,hx5⟩,hs2⟩:=hp4
 obtain rfl:=VR_bool hs2
 obtain ⟨A10,c9,rfl,hl5⟩:=L1CurP_cells hr4
 obtain ⟨rfl,rfl⟩:=fx_slice hx4 rfl rfl
 have hx6:=hx5.trans hsm
 have H:=H.wroteBox 1 rfl hch2 hbx2
 have H:=H.pX 0 rfl hx5
 refine wl_end (then_n (ib hF hf (fun hc3 hF=>?_) fun hc3 hF=>?_))
 ·refine reg (pz 2 hf fun a hf=>?_)
  obtain ⟨y3,hy3,hF⟩:=bs_ hF
  refine oc hf TF.cl121 (spec_l1Cur_pick_ok (S:=NB b0) (H.boxAt 1 rfl) ((L1CurP_mk (x:=y2.2) (H.nb 1 rfl (H.get 0 rfl)))) (fun h=>h rfl) mk_int hy3) fun v3 w a hp5 hf=>?_
  obtain ⟨hch3,cs5,hbx3,hr5,⟨hx7,hx8⟩,hs3⟩:=hp5
  obtain rfl:=VR_int hs3
  obtain ⟨A11,c10,rfl,hl6⟩:=L1CurP_cells hr5
  obtain ⟨rfl,rfl⟩:=fx_slice hx7 rfl rfl
  have hx9:=hx8.trans hx6
  have H:=H.wroteBox 1 rfl hch3 hbx3
  have H:=H.pX 0 rfl hx8
  refine pz 1 hf fun a hf=>?_
  refine wl0 rfl (bl hf H 3 ([w64 (y3.1 - 1)]:List Int) [(.int .i64 (w64 (y3.1 - 1)))] (el1 (y:=w64 (y3.1 - 1)) (rfl)) fun A12 a w hf H=>?_)
  obtain ⟨l2,hl2_,hF⟩:=bs_ hF
  refine wl0 rfl (op_appR hf H Tryz.underlying35 TF.ai3 rfl (by decide) 1 0 rfl rfl rfl rfl (.inr rfl) hl2_ (by decide) fun E4 A13 c11 a w hf H=>?_)
  refine pz 1 hf fun a hf=>?_
  refine wr (pz 2 hf fun a hf=>?_)
  have hf:=hf.pn [4]
  refine wer ?_
  have H:=H.rowOwn 1 rfl rfl
  obtain ⟨F,H⟩:=H.freezeOwn 1 rfl
  have H:=H.lend 0 rfl
  obtain rfl:=oi hF
  refine rT hf ?_
  have hN:=H.endsB1 1 rfl
  exact ⟨_,rfl,H.chg,_,H.boxAt 1 rfl,(L1CurP_mk (x:=y3.2) (eB 1 (H.get 1 rfl))),⟨fxc hx9,hx9⟩,F,(mko_list (H.ownAt 0 rfl)),by first | exact hN | simpa using hN⟩
 refine wp_skip (then_n (sqz (pz 2 hf fun a hf=>?_)))
 refine wer ?_
 have H:=H.rowOwn 0 rfl rfl
 obtain ⟨F2,H⟩:=H.freezeOwn 0 rfl
 have H:=H.lend 0 rfl
 obtain rfl:=oi hF
 refine rT hf ?_
 have hN:=H.endsB1 1 rfl
 exact ⟨_,rfl,H.chg,_,H.boxAt 1 rfl,(L1CurP_mk (x:=y2.2) (eB 1 (H.get 1 rfl))),⟨fxc hx6,hx6⟩,F2,(mko_list (H.ownAt 0 rfl)),by first | exact hN | simpa using hN⟩
theorem spec_l1Rising_ok {S:Nat→Prop} {v0_:Value} {v1_:Value} {v2_:Value} {l:List Int} {lo:Int} {hi:Int} {r:Bool} (h0:VR w0 S v0_ l) (h1:VR w0 S v1_ lo) (h2:VR w0 S v2_ hi) (hF:spec_l1Rising fu l lo hi=some r) :
    Calls Tryz.prog 126 [v0_,v1_,v2_].toArray w0 fun e w'=>∃ v,e=.returned v∧(Below w0.heap.size w0 w'∧VR w' (St ⟨w0,[]⟩ S [] [] [] true) v r):=by
 obtain ⟨A,c,rfl,hl⟩:=VR_list h0
 obtain rfl:=VR_int h1
 obtain rfl:=VR_int h2
 have H:=Mem.start ⟨w0,[]⟩ S
 have H:=H.pA hl
 refine en Tryz.func126 fun a hf=>?_
 rw [spec_l1Rising] at hF
 refine sqz (pz 1 hf fun a hf=>?_)
 refine we (sqz (pz 1 hf fun a hf=>?_))
 refine wl_end (then_n ?_)
 obtain ⟨out',hB1,hF⟩:=bs_ hF
 have hf:=hf.pn [0,1,2,7]
 have H:=H.lk 0 0 0 [0]
 refine loopC (fun (s:Int) (a:Act) (w:World)=>match s with | i=>Fr a 38 [(0,(.slice A l.length c)),(1,(.int .i64 lo)),(2,(.int .i64 hi)),(7,(.int .i64 i))]∧Mem ⟨w0,[]⟩ S [] [] [] [(false,MP.val [(.slice A l.length c)] (l:List Int))] w) (fun k (s:Int)=>spec_l1Rising_L1 fu l lo hi k s=some out') (fun s=>out'=Out.next s) 0 fu hB1 ⟨hf,H⟩ (fun s h=>by cases h) ?_ ?_
 ·rintro fk i a w hR1 hI
  replace hR1:spec_l1Rising_L1 fu l lo hi (fk + 1) i=some out':=hR1
  rw [spec_l1Rising_L1] at hR1
  obtain ⟨hf,H⟩:=hI
  refine sq (sqz (pz 4 hf fun a hf=>?_))
  refine wl_end (then_n (ib hR1 hf (fun hc hR1=>?_) fun hc hR1=>?_))
  ·refine wp_skip (then_n (sq (wp_block (sq ?_))))
   obtain ⟨c2,hGc2,hR1⟩:=bs_ hR1
   have fh:=hf.prune [0,1,2,7] rfl
   have Hm:=H.lk 0 0 0 [0]
   refine midF 37 (.bool c2) fh Hm ?_ fun a w hf H=>?_
   ·refine dw [] 24 fun w hb=>?_
    have H:=H.keep hb
    refine zp 0 hf trivial fun a hf=>?_
    refine zp 1 hf trivial fun a hf=>?_
    obtain ⟨e,he,hGc2⟩:=bs_ hGc2
    obtain ⟨p,o,cs,hx,hr,H⟩:=pre_iaddr H Tryz.underlying35 TF.sz3 0 rfl he
    refine tP 2 rfl rfl rfl rfl hf (by kernel_rfl) (fun _=>trivial) (fun w=>rq_iaddrE hf rfl rfl rfl hx w) fun a hf=>?_
    obtain rfl:=hr
    refine strT (H.lk 0 0 0 [0]) (fun w H=>trivial) fun hS=>?_
    refine zS 3 [] rfl rfl rfl rfl hf hS (fun w H=>rq_loadI hf H TF.ls3 0 0 rfl rfl rfl) fun a hf=>?_
    refine zp 4 hf hS fun a hf=>?_
    refine zp 5 hf hS fun a hf=>?_
    obtain ⟨y,hy,hGc2⟩:=bs_ hGc2
    refine nn 6 rfl (oC hf TF.cl153 (spec_l1In_ok (S:=TT) mk_int mk_int mk_int hy) fun v w a hp hf=>?_)
    obtain ⟨hb,hp⟩:=hp
    obtain rfl:=VR_bool hp
    have H:=H.keep hb
    have hS:=H.lk 0 0 0 [0]
    refine aS hS ?_
    refine zp 7 hf hS fun a hf=>?_
    refine zp 8 hf hS fun a hf=>?_
    refine iteB hGc2 (fun hc2 hGc2=>?_) fun hc2 hGc2=>?_
    ·have hf:=hf.lit 22 rfl hc2
     refine zU 9 hf hS fun a hf=>?_
     refine zU 10 hf hS fun a hf=>?_
     refine zU 11 hf hS fun a hf=>?_
     refine zV 12 hf hS fun a hf=>?_
     refine zV 13 hf hS fun a hf=>?_
     refine zV 14 hf hS fun a hf=>?_
     refine zV 15 hf hS fun a hf=>?_
     refine zV 16 hf hS fun a hf=>?_
     refine zV 17 hf hS fun a hf=>?_
     refine zV 18 hf hS fun a hf=>?_
     refine zV 19 hf hS fun a hf=>?_
     refine zV 20 hf hS fun a hf=>?_
     refine zV 21 hf hS fun a hf=>?_
     refine zU 22 hf hS fun a hf=>?_
     refine zp 23 hf hS fun a hf=>?_
     refine dk ?_
     obtain rfl:=oi hGc2
     have hf:=hf.pn [37,0,1,2,7]
     have H:=H.lk 0 0 0 [1]
     exact ⟨hf,H⟩
    have hf:=hf.lit 22 rfl hc2
    refine zg 9 hf hS fun a hf=>?_
    refine zg 10 hf hS fun a hf=>?_
    refine zg 11 hf hS fun a hf=>?_
    refine iteB hGc2 (fun hc3 hGc2=>?_) fun hc3 hGc2=>?_
    ·have hf:=hf.lit 25 rfl hc3
     refine zg 12 hf hS fun a hf=>?_
     refine zg 13 hf hS fun a hf=>?_
     refine zg 14 hf hS fun a hf=>?_
     obtain ⟨e2,he2,hGc2⟩:=bs_ hGc2
     obtain ⟨p2,o2,cs2,hx2,hr2,H⟩:=pre_iaddr H Tryz.underlying35 TF.sz3 1 rfl he2
     refine tPg 15 rfl rfl rfl rfl rfl rfl hf (by kernel_rfl) (fun _=>hS) (fun w=>rq_iaddrE hf rfl rfl rfl hx2 w) fun a hf=>?_
     obtain rfl:=hr2
     refine strT (H.lk 0 0 0 [0,1]) (fun w H=>H.lk 0 0 0 [1]) fun hS=>?_
     refine tSg 16 [] rfl rfl rfl rfl rfl rfl hf (by kernel_rfl) (by kernel_rfl) hS (fun w H=>rq_loadI hf H TF.ls3 0 0 rfl rfl rfl) fun a hf=>?_
     refine zg 17 hf hS fun a hf=>?_
     refine zg 18 hf hS fun a hf=>?_
     obtain ⟨e3,he3,hGc2⟩:=bs_ hGc2
     obtain ⟨p3,o3,cs3,hx3,hr3,H⟩:=pre_iaddr H Tryz.underlying35 TF.sz3 2 rfl he3
     refine tPg 19 rfl rfl rfl rfl rfl rfl hf (by kernel_rfl) (fun _=>hS) (fun w=>rq_iaddrE hf rfl rfl rfl hx3 w) fun a hf=>?_
     obtain rfl:=hr3
     refine strT (H.lm 0 0 0 3 7) (fun w H=>H.lk 0 0 0 [1,2]) fun hS=>?_
     refine tSg 20 [] rfl rfl rfl rfl rfl rfl hf (by kernel_rfl) (by kernel_rfl) hS (fun w H=>rq_loadI hf H TF.ls3 0 0 rfl rfl rfl) fun a hf=>?_
     refine zg 21 hf hS fun a hf=>?_
     refine zg 22 hf hS fun a hf=>?_
     refine zp 23 hf hS fun a hf=>?_
     refine dk ?_
     obtain rfl:=oi hGc2
     have hf:=hf.pn [37,0,1,2,7]
     have H:=H.lk 0 0 0 [3]
     exact ⟨hf,H⟩
    have hf:=hf.lit 25 rfl hc3
    refine zU 12 hf hS fun a hf=>?_
    refine zU 13 hf hS fun a hf=>?_
    refine zU 14 hf hS fun a hf=>?_
    refine zU 15 hf hS fun a hf=>?_
    refine zU 16 hf hS fun a hf=>?_
    refine zU 17 hf hS fun a hf=>?_
    refine zU 18 hf hS fun a hf=>?_
    refine zU 19 hf hS fun a hf=>?_
    refine zU 20 hf hS fun a hf=>?_
    refine zU 21 hf hS fun a hf=>?_
    refine zg 22 hf hS fun a hf=>?_
    refine zp 23 hf hS fun a hf=>?_
    refine dk ?_
    obtain rfl:=oi hGc2
    have hf:=hf.pn [37,0,1,2,7]
    have H:=H.lk 0 0 0 [1]
    exact ⟨hf,H⟩
   refine then_n (ib hR1 hf (fun hc4 hR1=>?_) fun hc4 hR1=>?_)
   ·refine sqz (pz 1 hf fun a hf=>?_)
    refine wl_end (then_n (wp_ret (blk_r (then_r (then_r (blk_r (then_r (then_r (?_)))))))))
    obtain rfl:=oi hR1
    replace hF:=on_ret hF
    obtain rfl:=oi hF
    refine rT hf ?_
    exact ⟨_,rfl,H.bel,mk_bool⟩
   refine wp_skip (blk_n (then_n (reg (pz 3 hf fun a hf=>?_))))
   refine wl_end ?_
   have hf:=hf.pn [0,1,2,7]
   have H:=H.lk 0 0 0 [0]
   exact then_n ⟨w64 (i + 1),hR1,hf,H⟩
  refine wp_exit (then_x (then_x (blk_e (?_))))
  have hf:=hf.pn [0,1,2,7]
  have H:=H.lk 0 0 0 [0]
  exact ⟨i,(Option.some.inj hR1).symm,hf,H⟩
 rintro a w ⟨i2,rfl,hf,H⟩
 replace hF:=on_next hF
 refine then_n (sqz (pz 1 hf fun a hf=>?_))
 refine wer ?_
 obtain rfl:=oi hF
 refine rT hf ?_
 exact ⟨_,rfl,H.bel,mk_bool⟩
theorem spec_l15Find_ok {S:Nat→Prop} {v0_:Value} {v1_:Value} {list:List Light} {id:Int} {r:Int} (h0:VR w0 S v0_ list) (h1:VR w0 S v1_ id) (hF:spec_l15Find fu list id=some r) :
    Calls Tryz.prog 173 [v0_,v1_].toArray w0 fun e w'=>∃ v,e=.returned v∧(Below w0.heap.size w0 w'∧VR w' (St ⟨w0,[]⟩ S [] [] [] true) v r):=by
 obtain ⟨A,c,rfl,hl⟩:=VR_list h0
 obtain rfl:=VR_int h1
 have H:=Mem.start ⟨w0,[]⟩ S
 have H:=H.pA hl
 refine en Tryz.func173 fun a hf=>?_
 rw [spec_l15Find] at hF
 refine sqz (pz 1 hf fun a hf=>?_)
 refine we (sqz (pz 1 hf fun a hf=>?_))
 refine wl_end (then_n ?_)
 obtain ⟨out',hB1,hF⟩:=bs_ hF
 have hf:=hf.pn [0,1,5]
 have H:=H.lk 0 0 0 [0]
 refine loopC (fun (s:Int) (a:Act) (w:World)=>match s with | i=>Fr a 20 [(0,(.slice A list.length c)),(1,(.int .i64 id)),(5,(.int .i64 i))]∧Mem ⟨w0,[]⟩ S [] [] [] [(false,MP.val [(.slice A list.length c)] (list:List Light))] w) (fun k (s:Int)=>spec_l15Find_L1 fu list id k s=some out') (fun s=>out'=Out.next s) 0 fu hB1 ⟨hf,H⟩ (fun s h=>by cases h) ?_ ?_
 ·rintro fk i a w hR1 hI
  replace hR1:spec_l15Find_L1 fu list id (fk + 1) i=some out':=hR1
  rw [spec_l15Find_L1] at hR1
  obtain ⟨hf,H⟩:=hI
  refine sq (sqz (pz 4 hf fun a hf=>?_))
  refine wl_end (then_n (ib hR1 hf (fun hc hR1=>?_) fun hc hR1=>?_))
  ·refine ws (pz 2 hf fun a hf=>?_)
   obtain ⟨e,he,hR1⟩:=bs_ hR1
   refine wl0 rfl (op_iaddr hf H Tryz.underlying28 TF.sz49 0 rfl rfl rfl he (by decide) fun p o cs a hf hr H=>?_)
   obtain ⟨A2,c2,rfl,hl2⟩:=Light_cells hr
   have H:=H.pF hl2
   refine pz 1 hf fun a hf=>?_
   refine oq hf (rq_loadI hf H TF.ls3 1 0 rfl rfl rfl) fun a hf=>?_
   refine pz 2 hf fun a hf=>?_
   refine wl_end (then_n (ib hR1 hf (fun hc2 hR1=>?_) fun hc2 hR1=>?_))
   ·refine sqz (pz 2 hf fun a hf=>?_)
    have hf:=hf.pn [4]
    refine wl_end (then_n (wp_ret (blk_r (then_r (then_r (blk_r (then_r (then_r (?_)))))))))
    obtain rfl:=oi hR1
    replace hF:=on_ret hF
    obtain rfl:=oi hF
    refine rT hf ?_
    exact ⟨_,rfl,H.bel,mk_int⟩
   refine wp_skip (blk_n (then_n (reg (pz 3 hf fun a hf=>?_))))
   have hf:=hf.pn [0,1,5]
   refine wl_end ?_
   have hf:=hf.pn [0,1,5]
   have H:=H.lk 0 0 0 [2]
   exact then_n ⟨w64 (i + 1),hR1,hf,H⟩
  refine wp_exit (then_x (then_x (blk_e (?_))))
  have hf:=hf.pn [0,1,5]
  have H:=H.lk 0 0 0 [0]
  exact ⟨i,(Option.some.inj hR1).symm,hf,H⟩
 rintro a w ⟨i2,rfl,hf,H⟩
 replace hF:=on_next hF
 refine then_n (sqz (pz 1 hf fun a hf=>?_))
 refine wer ?_
 obtain rfl:=oi hF
 refine rT hf ?_
 exact ⟨_,rfl,H.bel,mk_int⟩
theorem spec_l4Nodes_ok {S:Nat→Prop} {v0_:Value} {v1_:Value} {n':Network} {r':Route} {r:List Int} (h0:VR w0 S v0_ n') (h1:VR w0 S v1_ r') (hF:spec_l4Nodes fu n' r'=some r) :
    Calls Tryz.prog 245 [v0_,v1_].toArray w0 fun e w'=>∃ v,e=.returned v∧(Below w0.heap.size w0 w'∧∃ F0,VO w' F0 v r∧New w0 w' F0):=by
 obtain ⟨A,c,A2,c2,rfl,hl,hl2⟩:=Network_open h0
 obtain ⟨A3,c3,rfl,hl3⟩:=Route_open h1
 have H:=Mem.start ⟨w0,[]⟩ S
 have H:=H.pA hl
 have H:=H.pA hl2
 have H:=H.pA hl3
 refine en Tryz.func245 fun a hf=>?_
 rw [spec_l4Nodes] at hF
 refine bx hf H fun b' a w hf H=>?_
 refine wl0 rfl (op_box hf H rfl rfl (by decide) fun b2 a w hf H=>?_)
 refine pz 1 hf fun a hf=>?_
 refine wr (lN 1 hf H TF.la27 fun a hf=>?_)
 refine lN 0 hf H TF.la45 fun a hf=>?_
 obtain ⟨y,hy,hF⟩:=bs_ hF
 refine oc hf TF.cl302 (spec_l4Walk_ok (S:=TT) (Network_mkv (x:=n') (H.rt 2 rfl) (H.rt 1 rfl)) (Route_mkv (x:=r') (H.rt 0 rfl)) hy) fun v w a hp hf=>?_
 obtain ⟨hb,F,v2,v3,rfl,hp2,hp3,hN⟩:=hp
 obtain ⟨A4,c4,rfl,hl4⟩:=VO_list hp2
 obtain rfl:=VR_bool hp3
 have H:=H.aO1 hb hN hl4
 have H:=H.lend 0 rfl
 refine pz 5 hf fun a hf=>?_
 refine wr (pz 2 hf fun a hf=>?_)
 have hf:=hf.pn [4]
 refine wer ?_
 obtain rfl:=oi hF
 refine rT hf ?_
 have hN:=H.ends1
 exact ⟨_,rfl,H.bel,F,(mko_list (H.ownAt 0 rfl)),by first | exact hN | simpa using hN⟩
theorem spec_l4End_ok {S:Nat→Prop} {v0_:Value} {v1_:Value} {n':Network} {r':Route} {r:Int} (h0:VR w0 S v0_ n') (h1:VR w0 S v1_ r') (hF:spec_l4End fu n' r'=some r) :
    Calls Tryz.prog 175 [v0_,v1_].toArray w0 fun e w'=>∃ v,e=.returned v∧(Below w0.heap.size w0 w'∧VR w' (St ⟨w0,[]⟩ S [] [] [] true) v r):=by
 obtain ⟨A,c,A2,c2,rfl,hl,hl2⟩:=Network_open h0
 obtain ⟨A3,c3,rfl,hl3⟩:=Route_open h1
 have H:=Mem.start ⟨w0,[]⟩ S
 have H:=H.pA hl
 have H:=H.pA hl2
 have H:=H.pA hl3
 refine en Tryz.func175 fun a hf=>?_
 rw [spec_l4End] at hF
 refine bx hf H fun b' a w hf H=>?_
 refine wl0 rfl (op_box hf H rfl rfl (by decide) fun b2 a w hf H=>?_)
 refine pz 1 hf fun a hf=>?_
 refine wr (lN 1 hf H TF.la27 fun a hf=>?_)
 refine lN 0 hf H TF.la45 fun a hf=>?_
 obtain ⟨y,hy,hF⟩:=bs_ hF
 refine oc hf TF.cl245 (spec_l4Nodes_ok (S:=TT) (Network_mkv (x:=n') (H.rt 2 rfl) (H.rt 1 rfl)) (Route_mkv (x:=r') (H.rt 0 rfl)) hy) fun v w a hp hf=>?_
 obtain ⟨hb,F,hp2,hN⟩:=hp
 obtain ⟨A4,c4,rfl,hl4⟩:=VO_list hp2
 have H:=H.aO1 hb hN hl4
 have H:=H.lend 0 rfl
 refine pz 1 hf fun a hf=>?_
 refine wr (pz 4 hf fun a hf=>?_)
 obtain ⟨e,he,hF⟩:=bs_ hF
 refine wl0 rfl (op_iaddr hf H Tryz.underlying35 TF.sz3 0 rfl rfl rfl he (by decide) fun p o cs a hf hr H=>?_)
 obtain rfl:=hr
 refine oq hf (rq_loadI hf H TF.ls3 0 0 rfl rfl rfl) fun a hf=>?_
 refine pz 1 hf fun a hf=>?_
 have hf:=hf.pn [4]
 refine wer ?_
 obtain rfl:=oi hF
 refine rT hf ?_
 exact ⟨_,rfl,H.bel,mk_int⟩
theorem spec_l15Good_ok {S:Nat→Prop} {v0_:Value} {r':Restoration} {r:Bool} (h0:VR w0 S v0_ r') (hF:spec_l15Good fu r'=some r) :
    Calls Tryz.prog 83 [v0_].toArray w0 fun e w'=>∃ v,e=.returned v∧(Below w0.heap.size w0 w'∧VR w' (St ⟨w0,[]⟩ S [] [] [] true) v r):=by
 obtain ⟨A,c,A2,c2,A3,c3,A4,c4,A5,c5,rfl,hl,hl2,hl3,hl4,hl5⟩:=Restoration_open h0
 have H:=Mem.start ⟨w0,[]⟩ S
 have H:=H.pA hl
 have H:=H.pA hl2
 have H:=H.pA hl3
 have H:=H.pA hl4
 have H:=H.pA hl5
 refine en Tryz.func83 fun a hf=>?_
 rw [spec_l15Good] at hF
 refine bx hf H fun b' a w hf H=>?_
 refine pz 1 hf fun a hf=>?_
 refine wr (pz 2 hf fun a hf=>?_)
 refine lN 0 hf H TF.la27 fun a hf=>?_
 refine aL hf H TF.zv27 fun b2 a w hf H=>?_
 refine sB 0 hf H TF.sz27 fun w H=>?_
 refine wl_end (then_n (sq (sq ?_)))
 obtain ⟨c6,hGc6,hF⟩:=bs_ hF
 have fh:=hf.prune [1,3] rfl
 have Hm:=H.lm 3 0 0 5 31
 refine midF 32 (.bool c6) fh Hm ?_ fun a w hf H=>?_
 ·refine reg (pz 1 hf fun a hf=>?_)
  refine lN 1 hf H TF.la30 fun a hf=>?_
  obtain ⟨y,hy,hGc6⟩:=bs_ hGc6
  refine oc hf TF.cl106 (spec_l9Good_ok (S:=TT) (Plan_mkv (x:=r'.Plan) (H.rt 4 rfl) (H.rt 3 rfl) (H.rt 2 rfl)) hy) fun v w a hp hf=>?_
  obtain ⟨hb,hp⟩:=hp
  obtain rfl:=VR_bool hp
  have H:=H.keep hb
  refine pz 2 hf fun a hf=>?_
  refine iteB hGc6 (fun hc hGc6=>?_) fun hc hGc6=>?_
  ·have hf:=hf.lit 15 rfl hc
   refine pz 17 hf fun a hf=>?_
   obtain rfl:=oi hGc6
   have hf:=hf.pn [32,1,3]
   have H:=H.lm 3 0 0 5 31
   exact wl_end ⟨hf,H⟩
  have hf:=hf.lit 15 rfl hc
  refine wlg hf rfl rfl rfl (op_q hf (rq_loadBN hf H TF.la27 0 rfl rfl rfl rfl) rfl (by decide) fun a hf=>?_)
  refine pz 1 hf fun a hf=>?_
  refine wlg hf rfl rfl rfl (op_q hf (rq_loadB hf H TF.ls28 1 rfl rfl rfl) rfl (by decide) fun a hf=>?_)
  refine wlg hf rfl rfl rfl (op_q hf (rq_build hf (cs:=[(.slice A r'.Plan.Network.Nodes.length c),(.slice A2 r'.Plan.Network.Fibers.length c2),(.slice A4 r'.Home.length c4)]) rfl (fun w=>by kernel_rfl)) rfl (by decide) fun a hf=>?_)
  obtain ⟨y2,hy2,hGc6⟩:=bs_ hGc6
  refine wlg hf rfl rfl rfl (oC hf TF.cl106 (spec_l9Good_ok (S:=TT) (Plan_mkv (x:=({ Network:=r'.Plan.Network,Lights:=r'.Home }:Plan)) (H.rt 4 rfl) (H.rt 3 rfl) (H.rt 1 rfl)) hy2) fun v2 w a hp2 hf=>?_)
  obtain ⟨hb2,hp2⟩:=hp2
  obtain rfl:=VR_bool hp2
  have H:=H.keep hb2
  refine pz 3 hf fun a hf=>?_
  refine iteB hGc6 (fun hc2 hGc6=>?_) fun hc2 hGc6=>?_
  ·have hf:=hf.lit 23 rfl hc2
   refine pz 9 hf fun a hf=>?_
   obtain rfl:=oi hGc6
   have hf:=hf.pn [32,1,3]
   have H:=H.lm 3 0 0 5 31
   exact wl_end ⟨hf,H⟩
  have hf:=hf.lit 23 rfl hc2
  refine pz 1 hf fun a hf=>?_
  refine wlg hf rfl rfl rfl (op_q hf (rq_loadB hf H TF.ls35 1 rfl rfl rfl) rfl (by decide) fun a hf=>?_)
  refine pz 1 hf fun a hf=>?_
  refine wlg hf rfl rfl rfl (op_q hf (rq_loadB hf H TF.ls25 0 rfl rfl rfl) rfl (by decide) fun a hf=>?_)
  refine pz 2 hf fun a hf=>?_
  obtain ⟨y3,hy3,hGc6⟩:=bs_ hGc6
  refine wlg hf rfl rfl rfl (oC hf TF.cl126 (spec_l1Rising_ok (S:=TT) (mk_list (H.rt 0 rfl)) mk_int mk_int hy3) fun v3 w a hp3 hf=>?_)
  obtain ⟨hb3,hp3⟩:=hp3
  obtain rfl:=VR_bool hp3
  have H:=H.keep hb3
  refine pz 2 hf fun a hf=>?_
  obtain rfl:=oi hGc6
  have hf:=hf.pn [32,1,3]
  have H:=H.lm 3 0 0 5 31
  exact wl_end ⟨hf,H⟩
 refine then_n (ib hF hf (fun hc3 hF=>?_) fun hc3 hF=>?_)
 ·refine sqz (pz 1 hf fun a hf=>?_)
  refine wl_end (then_n (wp_ret (then_r (?_))))
  obtain rfl:=oi hF
  refine rT hf ?_
  exact ⟨_,rfl,H.bel,mk_bool⟩
 refine wp_skip (then_n (sq (sqz (pz 1 hf fun a hf=>?_))))
 refine wl_end (then_n ?_)
 obtain ⟨out',hB1,hF⟩:=bs_ hF
 have hf:=hf.pn [1,3,4]
 have H:=H.lm 3 0 0 5 31
 refine loopC (fun (s:Int) (a:Act) (w:World)=>match s with | i=>Fr a 93 [(1,(.pointer (some ⟨b',0,none⟩))),(3,(.pointer (some ⟨b2,0,none⟩))),(4,(.int .i64 i))]∧Mem ⟨w0,[]⟩ S [⟨b2,27,[(.slice A r'.Plan.Network.Nodes.length c),(.slice A2 r'.Plan.Network.Fibers.length c2)]⟩,⟨b',60,[(.slice A r'.Plan.Network.Nodes.length c),(.slice A2 r'.Plan.Network.Fibers.length c2),(.slice A3 r'.Plan.Lights.length c3),(.slice A4 r'.Home.length c4),(.slice A5 r'.Down.length c5)]⟩] [] [] [(false,MP.val [(.slice A5 r'.Down.length c5)] (r'.Down:List Int)),(false,MP.val [(.slice A4 r'.Home.length c4)] (r'.Home:List Light)),(false,MP.val [(.slice A3 r'.Plan.Lights.length c3)] (r'.Plan.Lights:List Light)),(false,MP.val [(.slice A2 r'.Plan.Network.Fibers.length c2)] (r'.Plan.Network.Fibers:List Fiber)),(false,MP.val [(.slice A r'.Plan.Network.Nodes.length c)] (r'.Plan.Network.Nodes:List ByteArray))] w) (fun k (s:Int)=>spec_l15Good_L1 fu r' k s=some out') (fun s=>out'=Out.next s) 0 fu hB1 ⟨hf,H⟩ (fun s h=>by cases h) ?_ ?_
 ·rintro fk i a w hR1 hI
  replace hR1:spec_l15Good_L1 fu r' (fk + 1) i=some out':=hR1
  rw [spec_l15Good_L1] at hR1
  obtain ⟨hf,H⟩:=hI
  refine sq (sqz (pz 3 hf fun a hf=>?_))
  refine lB 1 hf H TF.ls28 fun a hf=>?_
  refine pz 2 hf fun a hf=>?_
  refine wl_end (then_n (ib hR1 hf (fun hc4 hR1=>?_) fun hc4 hR1=>?_))
  ·refine ws (pz 2 hf fun a hf=>?_)
   refine lB 1 hf H TF.ls28 fun a hf=>?_
   refine pz 1 hf fun a hf=>?_
   obtain ⟨e,he,hR1⟩:=bs_ hR1
   refine wl0 rfl (op_iaddr hf H Tryz.underlying28 TF.sz49 2 rfl rfl rfl he (by decide) fun p o cs a hf hr H=>?_)
   obtain ⟨A6,c7,rfl,hl6⟩:=Light_cells hr
   have H:=H.pF hl6
   refine oq hf (rq_loadIN hf H TF.la49 1 0 rfl rfl rfl rfl) fun a hf=>?_
   refine aL hf H TF.zv49 fun b3 a w hf H=>?_
   refine sB 0 hf H TF.sz49 fun w H=>?_
   refine wr (pz 1 hf fun a hf=>?_)
   refine lB 2 hf H TF.ls28 fun a hf=>?_
   refine pz 1 hf fun a hf=>?_
   refine lB 0 hf H TF.ls3 fun a hf=>?_
   obtain ⟨y4,hy4,hR1⟩:=bs_ hR1
   refine oc hf TF.cl173 (spec_l15Find_ok (S:=TT) (mk_list (H.rt 3 rfl)) mk_int hy4) fun v4 w a hp4 hf=>?_
   obtain ⟨hb4,hp4⟩:=hp4
   obtain rfl:=VR_int hp4
   have H:=H.keep hb4
   refine pz 1 hf fun a hf=>?_
   have hf:=hf.pn [1,3,4,5,6]
   refine wl_end (then_n (sq (sq ?_)))
   obtain ⟨c8,hGc8,hR1⟩:=bs_ hR1
   have fh2:=hf.prune [1,3,4,5,6] rfl
   have Hm2:=H.lm 7 0 0 7 125
   refine midF 60 (.bool c8) fh2 Hm2 ?_ fun a w hf H=>?_
   ·refine reg (pz 3 hf fun a hf=>?_)
    refine iteB hGc8 (fun hc5 hGc8=>?_) fun hc5 hGc8=>?_
    ·have hf:=hf.lit 54 rfl hc5
     refine pz 6 hf fun a hf=>?_
     obtain rfl:=oi hGc8
     have hf:=hf.pn [60,1,3,4,5,6]
     have H:=H.lm 7 0 0 7 125
     exact wl_end ⟨hf,H⟩
    have hf:=hf.lit 54 rfl hc5
    refine pz 1 hf fun a hf=>?_
    refine wlg hf rfl rfl rfl (op_q hf (rq_loadBN hf H TF.la45 0 rfl rfl rfl rfl) rfl (by decide) fun a hf=>?_)
    refine pz 1 hf fun a hf=>?_
    refine wlg hf rfl rfl rfl (op_q hf (rq_loadB hf H TF.ls35 2 rfl rfl rfl) rfl (by decide) fun a hf=>?_)
    obtain ⟨y5,hy5,hGc8⟩:=bs_ hGc8
    refine wlg hf rfl rfl rfl (oC hf TF.cl174 (spec_l4Uses_ok (S:=TT) (Route_mkv (x:=e.Route) (H.rt 0 rfl)) (mk_list (H.rt 2 rfl)) hy5) fun v5 w a hp5 hf=>?_)
    obtain ⟨hb5,hp5⟩:=hp5
    obtain rfl:=VR_bool hp5
    have H:=H.keep hb5
    refine pz 1 hf fun a hf=>?_
    obtain rfl:=oi hGc8
    have hf:=hf.pn [60,1,3,4,5,6]
    have H:=H.lm 7 0 0 7 125
    exact wl_end ⟨hf,H⟩
   refine then_n (ib hR1 hf (fun hc6 hR1=>?_) fun hc6 hR1=>?_)
   ·refine sqz (pz 1 hf fun a hf=>?_)
    refine wl_end (then_n (wp_ret (then_r (blk_r (then_r (then_r (blk_r (then_r (then_r (?_))))))))))
    obtain rfl:=oi hR1
    replace hF:=on_ret hF
    obtain rfl:=oi hF
    refine rT hf ?_
    exact ⟨_,rfl,H.bel,mk_bool⟩
   refine wp_skip (then_n (sqz (pz 1 hf fun a hf=>?_)))
   refine lB 2 hf H TF.ls28 fun a hf=>?_
   refine pz 1 hf fun a hf=>?_
   obtain ⟨e2,he2,hR1⟩:=bs_ hR1
   refine wl0 rfl (op_iaddr hf H Tryz.underlying28 TF.sz49 2 rfl rfl rfl he2 (by decide) fun p2 o2 cs2 a hf hr2 H=>?_)
   obtain ⟨A7,c9,rfl,hl7⟩:=Light_cells hr2
   have H:=H.pF hl7
   refine oq hf (rq_loadIN hf H TF.la49 1 0 rfl rfl rfl rfl) fun a hf=>?_
   refine aL hf H TF.zv49 fun b4 a w hf H=>?_
   refine sB 0 hf H TF.sz49 fun w H=>?_
   refine wl_end (then_n (sq ?_))
   obtain ⟨c10,hGc10,hR1⟩:=bs_ hR1
   have fh3:=hf.prune [1,3,4] rfl
   have Hm3:=H.lm 12 0 0 8 248
   refine midF 92 (.bool c10) fh3 Hm3 ?_ fun a w hf H=>?_
   ·refine dw [] 27 fun w hb=>?_
    have H:=H.keep hb
    refine zp 0 hf trivial fun a hf=>?_
    refine zp 1 hf trivial fun a hf=>?_
    refine strT (H.lk 2 0 0 []) (fun w H=>trivial) fun hS=>?_
    refine zS 2 [] rfl rfl rfl rfl hf hS (fun w H=>rq_loadB hf H TF.ls3 0 rfl rfl rfl) fun a hf=>?_
    refine zp 3 hf hS fun a hf=>?_
    refine zp 4 hf hS fun a hf=>?_
    refine strT (H.lk 3 0 0 []) (fun w H=>H.lk 2 0 0 []) fun hS=>?_
    refine zS 5 [] rfl rfl rfl rfl hf hS (fun w H=>rq_loadB hf H TF.ls3 0 rfl rfl rfl) fun a hf=>?_
    refine zp 6 hf hS fun a hf=>?_
    refine zp 7 hf hS fun a hf=>?_
    refine iteB hGc10 (fun hc7 hGc10=>?_) fun hc7 hGc10=>?_
    ·have hf:=hf.lit 73 rfl hc7
     refine zU 8 hf hS fun a hf=>?_
     refine zU 9 hf hS fun a hf=>?_
     refine zU 10 hf hS fun a hf=>?_
     refine zU 11 hf hS fun a hf=>?_
     refine zU 12 hf hS fun a hf=>?_
     refine zU 13 hf hS fun a hf=>?_
     refine zU 14 hf hS fun a hf=>?_
     refine zU 15 hf hS fun a hf=>?_
     refine zU 16 hf hS fun a hf=>?_
     refine zp 17 hf hS fun a hf=>?_
     refine zp 18 hf hS fun a hf=>?_
     refine zU 19 hf hS fun a hf=>?_
     refine zU 20 hf hS fun a hf=>?_
     refine zU 21 hf hS fun a hf=>?_
     refine zU 22 hf hS fun a hf=>?_
     refine zU 23 hf hS fun a hf=>?_
     refine zU 24 hf hS fun a hf=>?_
     refine zU 25 hf hS fun a hf=>?_
     refine zp 26 hf hS fun a hf=>?_
     refine dk ?_
     obtain rfl:=oi hGc10
     have hf:=hf.pn [92,1,3,4]
     have H:=H.lm 12 0 0 8 248
     exact ⟨hf,H⟩
    have hf:=hf.lit 73 rfl hc7
    refine strT (H.lk 7 0 0 []) (fun w H=>H.lk 3 0 0 []) fun hS=>?_
    refine tSg 8 [] rfl rfl rfl rfl rfl rfl hf (by kernel_rfl) (by kernel_rfl) hS (fun w H=>rq_loadBN hf H TF.la27 2 rfl rfl rfl rfl) fun a hf=>?_
    refine zg 9 hf hS fun a hf=>?_
    refine tSg 10 [] rfl rfl rfl rfl rfl rfl hf (by kernel_rfl) (by kernel_rfl) hS (fun w H=>rq_loadBN hf H TF.la45 1 rfl rfl rfl rfl) fun a hf=>?_
    refine tSg 12 [] rfl rfl rfl rfl rfl rfl hf (by kernel_rfl) (by kernel_rfl) hS (fun w H=>rq_loadBN hf H TF.la27 2 rfl rfl rfl rfl) fun a hf=>?_
    refine zg 13 hf hS fun a hf=>?_
    refine tSg 14 [] rfl rfl rfl rfl rfl rfl hf (by kernel_rfl) (by kernel_rfl) hS (fun w H=>rq_loadBN hf H TF.la45 0 rfl rfl rfl rfl) fun a hf=>?_
    obtain ⟨y6,hy6,hGc10⟩:=bs_ hGc10
    refine n1g 11 (by kernel_rfl) rfl rfl rfl rfl hf (oC hf TF.cl175 (spec_l4End_ok (S:=TT) (Network_mkv (x:=r'.Plan.Network) (H.rt 7 rfl) (H.rt 6 rfl)) (Route_mkv (x:=e.Route) (H.rt 2 rfl)) hy6) fun v6 w a hp6 hf=>?_)
    obtain ⟨hb6,hp6⟩:=hp6
    obtain rfl:=VR_int hp6
    have H:=H.keep hb6
    have hS:=H.lk 7 0 0 []
    refine aS hS ?_
    obtain ⟨y7,hy7,hGc10⟩:=bs_ hGc10
    refine n1g 15 (by kernel_rfl) rfl rfl rfl rfl hf (oC hf TF.cl175 (spec_l4End_ok (S:=TT) (Network_mkv (x:=r'.Plan.Network) (H.rt 7 rfl) (H.rt 6 rfl)) (Route_mkv (x:=e2.Route) (H.rt 0 rfl)) hy7) fun v7 w a hp7 hf=>?_)
    obtain ⟨hb7,hp7⟩:=hp7
    obtain rfl:=VR_int hp7
    have H:=H.keep hb7
    have hS:=H.lk 7 0 0 []
    refine aS hS ?_
    refine zg 16 hf hS fun a hf=>?_
    refine zp 17 hf hS fun a hf=>?_
    refine zp 18 hf hS fun a hf=>?_
    refine iteB hGc10 (fun hc8 hGc10=>?_) fun hc8 hGc10=>?_
    ·have hf:=hf.lit 84 rfl hc8
     refine zU 19 hf hS fun a hf=>?_
     refine zU 20 hf hS fun a hf=>?_
     refine zU 21 hf hS fun a hf=>?_
     refine zU 22 hf hS fun a hf=>?_
     refine zU 23 hf hS fun a hf=>?_
     refine zU 24 hf hS fun a hf=>?_
     refine zU 25 hf hS fun a hf=>?_
     refine zp 26 hf hS fun a hf=>?_
     refine dk ?_
     obtain rfl:=oi hGc10
     have hf:=hf.pn [92,1,3,4]
     have H:=H.lm 12 0 0 8 248
     exact ⟨hf,H⟩
    have hf:=hf.lit 84 rfl hc8
    refine zg 19 hf hS fun a hf=>?_
    refine zg 20 hf hS fun a hf=>?_
    refine tSg 21 [] rfl rfl rfl rfl rfl rfl hf (by kernel_rfl) (by kernel_rfl) hS (fun w H=>rq_loadB hf H TF.ls3 1 rfl rfl rfl) fun a hf=>?_
    refine zg 22 hf hS fun a hf=>?_
    refine zg 23 hf hS fun a hf=>?_
    refine tSg 24 [] rfl rfl rfl rfl rfl rfl hf (by kernel_rfl) (by kernel_rfl) hS (fun w H=>rq_loadB hf H TF.ls3 0 rfl rfl rfl) fun a hf=>?_
    refine zg 25 hf hS fun a hf=>?_
    refine zp 26 hf hS fun a hf=>?_
    refine dk ?_
    obtain rfl:=oi hGc10
    have hf:=hf.pn [92,1,3,4]
    have H:=H.lm 12 0 0 8 248
    exact ⟨hf,H⟩
   refine then_n (ib hR1 hf (fun hc9 hR1=>?_) fun hc9 hR1=>?_)
   ·refine sqz (pz 1 hf fun a hf=>?_)
    refine wl_end (then_n (wp_ret (blk_r (then_r (then_r (blk_r (then_r (then_r (?_)))))))))
    obtain rfl:=oi hR1
    replace hF:=on_ret hF
    obtain rfl:=oi hF
    refine rT hf ?_
    exact ⟨_,rfl,H.bel,mk_bool⟩
   refine wp_skip (blk_n (then_n (reg (pz 3 hf fun a hf=>?_))))
   refine wl_end ?_
   have hf:=hf.pn [1,3,4]
   have H:=H.lm 3 0 0 5 31
   exact then_n ⟨w64 (i + 1),hR1,hf,H⟩
  refine wp_exit (then_x (then_x (blk_e (?_))))
  have hf:=hf.pn [1,3,4]
  have H:=H.lm 3 0 0 5 31
  exact ⟨i,(Option.some.inj hR1).symm,hf,H⟩
 rintro a w ⟨i2,rfl,hf,H⟩
 replace hF:=on_next hF
 refine then_n (sqz (pz 1 hf fun a hf=>?_))
 refine wer ?_
 obtain rfl:=oi hF
 refine rT hf ?_
 exact ⟨_,rfl,H.bel,mk_bool⟩
theorem spec_l15Fibers_ok {S:Nat→Prop} {v0_:Value} {v1_:Value} {r':Restoration} {fibers:List Int} {r:Bool} (h0:VR w0 S v0_ r') (h1:VR w0 S v1_ fibers) (hF:spec_l15Fibers fu r' fibers=some r) :
    Calls Tryz.prog 133 [v0_,v1_].toArray w0 fun e w'=>∃ v,e=.returned v∧(Below w0.heap.size w0 w'∧VR w' (St ⟨w0,[]⟩ S [] [] [] true) v r):=by
 obtain ⟨A,c,A2,c2,A3,c3,A4,c4,A5,c5,rfl,hl,hl2,hl3,hl4,hl5⟩:=Restoration_open h0
 obtain ⟨A6,c6,rfl,hl6⟩:=VR_list h1
 have H:=Mem.start ⟨w0,[]⟩ S
 have H:=H.pA hl
 have H:=H.pA hl2
 have H:=H.pA hl3
 have H:=H.pA hl4
 have H:=H.pA hl5
 have H:=H.pA hl6
 refine en Tryz.func133 fun a hf=>?_
 rw [spec_l15Fibers] at hF
 refine bx hf H fun b' a w hf H=>?_
 refine pz 1 hf fun a hf=>?_
 refine wl_end (then_n (sq ?_))
 obtain ⟨c7,hGc7,hF⟩:=bs_ hF
 have fh:=hf.prune [] rfl
 have Hm:=H.lk 0 0 0 []
 refine midF 4 (.bool c7) fh Hm ?_ fun a w hf H=>?_
 ·refine reg (lN 0 hf H TF.la60 fun a hf=>?_)
  obtain ⟨y,hy,hGc7⟩:=bs_ hGc7
  refine oc hf TF.cl83 (spec_l15Good_ok (S:=TT) (Restoration_mkv (x:=r') (H.rt 5 rfl) (H.rt 4 rfl) (H.rt 3 rfl) (H.rt 2 rfl) (H.rt 1 rfl)) hy) fun v w a hp hf=>?_
  obtain ⟨hb,hp⟩:=hp
  obtain rfl:=VR_bool hp
  have H:=H.keep hb
  refine pz 1 hf fun a hf=>?_
  refine iteB hGc7 (fun hc hGc7=>?_) fun hc hGc7=>?_
  ·have hf:=hf.lit 7 rfl hc
   refine pz 4 hf fun a hf=>?_
   refine wlg hf rfl rfl rfl (op_q hf (rq_loadB hf H TF.ls25 0 rfl rfl rfl) rfl (by decide) fun a hf=>?_)
   refine pz 2 hf fun a hf=>?_
   obtain ⟨y2,hy2,hGc7⟩:=bs_ hGc7
   refine wlg hf rfl rfl rfl (oC hf TF.cl126 (spec_l1Rising_ok (S:=TT) (mk_list (H.rt 0 rfl)) mk_int mk_int hy2) fun v2 w a hp2 hf=>?_)
   obtain ⟨hb2,hp2⟩:=hp2
   obtain rfl:=VR_bool hp2
   have H:=H.keep hb2
   refine pz 2 hf fun a hf=>?_
   obtain rfl:=oi hGc7
   have hf:=hf.pn [4]
   have H:=H.lk 0 0 0 []
   exact wl_end ⟨hf,H⟩
  have hf:=hf.lit 7 rfl hc
  refine pz 10 hf fun a hf=>?_
  obtain rfl:=oi hGc7
  have hf:=hf.pn [4]
  have H:=H.lk 0 0 0 []
  exact wl_end ⟨hf,H⟩
 refine then_n (wp_ret (?_))
 obtain rfl:=oi hF
 refine rT hf ?_
 exact ⟨_,rfl,H.bel,mk_bool⟩
theorem spec_l15Own_ok {S:Nat→Prop} {v0_:Value} {r':Restoration} {r:Restoration} (h0:VR w0 S v0_ r') (hF:spec_l15Own fu r'=some r) :
    Calls Tryz.prog 176 [v0_].toArray w0 fun e w'=>∃ v,e=.returned v∧(Below w0.heap.size w0 w'∧∃ F0,VO w' F0 v r∧New w0 w' F0):=by
 obtain ⟨A,c,A2,c2,A3,c3,A4,c4,A5,c5,rfl,hl,hl2,hl3,hl4,hl5⟩:=Restoration_open h0
 have H:=Mem.start ⟨w0,[]⟩ S
 have H:=H.pA hl
 have H:=H.pA hl2
 have H:=H.pA hl3
 have H:=H.pA hl4
 have H:=H.pA hl5
 refine en Tryz.func176 fun a hf=>?_
 rw [spec_l15Own] at hF
 refine bx hf H fun b' a w hf H=>?_
 refine aL hf H TF.zv60 fun b2 a w hf H=>?_
 refine wl_end (then_n (sq (dw [10] 11 fun w hb=>?_)))
 have H:=H.keep hb
 refine zp 0 hf trivial fun a hf=>?_
 refine strT (H.lk 2 0 0 []) (fun w H=>trivial) fun hS=>?_
 refine zS 1 [1,2,5,8,9,10] rfl rfl rfl rfl hf hS (fun w H=>rq_loadBN hf H TF.la30 0 rfl rfl rfl rfl) fun a hf=>?_
 refine zp 3 hf hS fun a hf=>?_
 refine zS 4 [4,5,8,9,10] rfl rfl rfl rfl hf hS (fun w H=>rq_loadB hf H TF.ls28 0 rfl rfl rfl) fun a hf=>?_
 refine zp 6 hf hS fun a hf=>?_
 refine zS 7 [7,8,9,10] rfl rfl rfl rfl hf hS (fun w H=>rq_loadB hf H TF.ls35 0 rfl rfl rfl) fun a hf=>?_
 obtain ⟨y,hy,hF⟩:=bs_ hF
 refine nn 2 rfl (oC hf TF.cl154 (spec_l9Own_ok (S:=TT) (Plan_mkv (x:=r'.Plan) (H.rt 4 rfl) (H.rt 3 rfl) (H.rt 2 rfl)) hy) fun v w a hp hf=>?_)
 obtain ⟨hb,F,hp2,hN⟩:=hp
 obtain ⟨A6,c6,F2,A7,c7,F3,A8,c8,F4,rfl,rfl,hl6,hl7,hl8⟩:=Plan_vo hp2
 have H:=H.aO3 hb (by first | exact hN | simpa using hN) hl6 hl7 hl8
 have H:=H.lend 0 rfl
 have H:=H.lend 1 rfl
 have H:=H.lend 2 rfl
 have hS:=H.lk 2 0 0 []
 refine aS hS ?_
 obtain ⟨y2,hy2,hF⟩:=bs_ hF
 refine nn 5 rfl (oC hf TF.cl214 (spec_l15Copy_ok (S:=TT) (mk_list (H.rt 4 rfl)) hy2) fun v2 w a hp3 hf=>?_)
 obtain ⟨hb2,F5,hp4,hN2⟩:=hp3
 obtain ⟨A9,c9,rfl,hl9⟩:=VO_list hp4
 have H:=H.aO1 hb2 hN2 hl9
 have H:=H.lend 0 rfl
 have hS:=H.lk 2 0 0 []
 refine aS hS ?_
 obtain ⟨y3,hy3,hF⟩:=bs_ hF
 refine nn 8 rfl (oC hf TF.cl192 (spec_l1Own_ok (S:=TT) (mk_list (H.rt 4 rfl)) hy3) fun v3 w a hp5 hf=>?_)
 obtain ⟨hb3,F7,hp6,hN3⟩:=hp5
 obtain ⟨A10,c10,rfl,hl10⟩:=VO_list hp6
 have H:=H.aO1 hb3 hN3 hl10
 have H:=H.lend 0 rfl
 have hS:=H.lk 2 0 0 []
 refine aS hS ?_
 refine zP 9 rfl rfl rfl rfl hf hS (fun w=>rq_build hf (cs:=[(.slice A6 y.Network.Nodes.length c6),(.slice A7 y.Network.Fibers.length c7),(.slice A8 y.Lights.length c8),(.slice A9 y2.length c9),(.slice A10 y3.length c10)]) rfl (fun w=>by kernel_rfl)) fun a hf=>?_
 refine nn 10 rfl (op_storeB hf H 0 TF.sz60 rfl rfl rfl rfl rfl rfl (nle rfl) fun w H=>?_)
 refine ⟨fun h=>absurd h (by decide),?_⟩
 refine dk ?_
 refine then_n (wp_ret (?_))
 have H:=H.frontD 1 rfl
 have H:=H.frontD 4 rfl
 have H:=H.frontD 4 rfl
 have H:=H.frontD 4 rfl
 obtain rfl:=oi hF
 refine ret_1 hf rfl (rv_cellN hf H 0 TF.la60 rfl rfl rfl) ?_
 have hN:=H.ends (X:=[(⟨F2,MP.own F2 [(.slice A6 y.Network.Nodes.length c6)] (y.Network.Nodes:List ByteArray)⟩:DI),(⟨F3,MP.own F3 [(.slice A7 y.Network.Fibers.length c7)] (y.Network.Fibers:List Fiber)⟩:DI),(⟨F4,MP.own F4 [(.slice A8 y.Lights.length c8)] (y.Lights:List Light)⟩:DI),(⟨F5,MP.own F5 [(.slice A9 y2.length c9)] (y2:List Light)⟩:DI),(⟨F7,MP.own F7 [(.slice A10 y3.length c10)] (y3:List Int)⟩:DI)])
 simp only [List.flatMap_cons,List.flatMap_nil,List.append_nil,List.append_assoc] at hN
 exact ⟨_,rfl,H.bel,(F2++(F3++(F4++(F5++F7)))),⟨_,Restoration_ownmk (x:=({ Plan:=y,Home:=y2,Down:=y3 }:Restoration)) (H.ownAt 0 rfl) (H.ownAt 1 rfl) (H.ownAt 2 rfl) (H.ownAt 3 rfl) (H.ownAt 4 rfl),rfl⟩,by first | exact hN | simpa using hN⟩
theorem spec_l15Repair_ok {S:Nat→Prop} {v0_:Value} {v1_:Value} {r':Restoration} {fibers:List Int} {r:Restoration} (h0:VR w0 S v0_ r') (h1:VR w0 S v1_ fibers) (hF:spec_l15Repair fu r' fibers=some r) :
    Calls Tryz.prog 86 [v0_,v1_].toArray w0 fun e w'=>∃ v,e=.returned v∧(Below w0.heap.size w0 w'∧∃ F0,VO w' F0 v r∧New w0 w' F0):=by
 obtain ⟨A,c,A2,c2,A3,c3,A4,c4,A5,c5,rfl,hl,hl2,hl3,hl4,hl5⟩:=Restoration_open h0
 obtain ⟨A6,c6,rfl,hl6⟩:=VR_list h1
 have H:=Mem.start ⟨w0,[]⟩ S
 have H:=H.pA hl
 have H:=H.pA hl2
 have H:=H.pA hl3
 have H:=H.pA hl4
 have H:=H.pA hl5
 have H:=H.pA hl6
 refine en Tryz.func86 fun a hf=>?_
 rw [spec_l15Repair] at hF
 refine bx hf H fun b' a w hf H=>?_
 refine aL hf H TF.zv60 fun b2 a w hf H=>?_
 refine wr (lN 1 hf H TF.la60 fun a hf=>?_)
 obtain ⟨y,hy,hF⟩:=bs_ hF
 refine oc hf TF.cl176 (spec_l15Own_ok (S:=TT) (Restoration_mkv (x:=r') (H.rt 5 rfl) (H.rt 4 rfl) (H.rt 3 rfl) (H.rt 2 rfl) (H.rt 1 rfl)) hy) fun v w a hp hf=>?_
 obtain ⟨hb,F,hp2,hN⟩:=hp
 obtain ⟨A7,c7,F2,A8,c8,F3,A9,c9,F4,A10,c10,F5,A11,c11,F6,rfl,rfl,hl7,hl8,hl9,hl10,hl11⟩:=Restoration_vo hp2
 have H:=H.addOwn hb (X:=[(⟨F2,MP.own F2 [(.slice A7 y.Plan.Network.Nodes.length c7)] (y.Plan.Network.Nodes:List ByteArray)⟩:DI),(⟨F3,MP.own F3 [(.slice A8 y.Plan.Network.Fibers.length c8)] (y.Plan.Network.Fibers:List Fiber)⟩:DI),(⟨F4,MP.own F4 [(.slice A9 y.Plan.Lights.length c9)] (y.Plan.Lights:List Light)⟩:DI),(⟨F5,MP.own F5 [(.slice A10 y.Home.length c10)] (y.Home:List Light)⟩:DI),(⟨F6,MP.own F6 [(.slice A11 y.Down.length c11)] (y.Down:List Int)⟩:DI)]) (by simpa using hN.1) (ps1 hl7 (ps1 hl8 (ps1 hl9 (ps1 hl10 (ps1 hl11 ps0))))) (by simpa using hN.2)
 have H:=H.lend 0 rfl
 have H:=H.lend 1 rfl
 have H:=H.lend 2 rfl
 have H:=H.lend 3 rfl
 have H:=H.lend 4 rfl
 refine aL hf H TF.zv60 fun b3 a w hf H=>?_
 refine sB 0 hf H TF.sz60 fun w H=>?_
 refine wr (wl0 rfl (bl hf H 3 ([]:List Int) [] el0 fun A12 a w hf H=>?_))
 refine pz 1 hf fun a hf=>?_
 refine sB 0 hf H TF.sz35 fun w H=>?_
 refine we (sqz (pz 1 hf fun a hf=>?_))
 refine wl_end (then_n ?_)
 obtain ⟨out',hB1,hF⟩:=bs_ hF
 have hf:=hf.pn [1,2,4,5,6]
 have H:=H.lm 7 1 15 11 2046
 refine loopC (fun (s:Int×List Int) (a:Act) (w:World)=>match s with | (i,m)=>∃ (A13:Option Addr) (c12:Nat) (E:Go.TypeId),Fr a 37 [(1,(.slice A6 fibers.length c6)),(2,(.pointer (some ⟨b',0,none⟩))),(4,(.pointer (some ⟨b2,0,none⟩))),(5,(.pointer (some ⟨b3,0,none⟩))),(6,(.int .i64 i))]∧Mem ⟨w0,[]⟩ S [⟨b3,60,[(.slice A7 y.Plan.Network.Nodes.length c7),(.slice A8 y.Plan.Network.Fibers.length c8),(.slice A9 y.Plan.Lights.length c9),(.slice A10 y.Home.length c10),(.slice A13 m.length c12)]⟩,⟨b2,60,[(.slice none 0 0),(.slice none 0 0),(.slice none 0 0),(.slice none 0 0),(.slice none 0 0)]⟩,⟨b',60,[(.slice A r'.Plan.Network.Nodes.length c),(.slice A2 r'.Plan.Network.Fibers.length c2),(.slice A3 r'.Plan.Lights.length c3),(.slice A4 r'.Home.length c4),(.slice A5 r'.Down.length c5)]⟩] [⟨.sh true,E,A13,c12,(m:List Int)⟩] [⟨F2,MP.own F2 [(.slice A7 y.Plan.Network.Nodes.length c7)] (y.Plan.Network.Nodes:List ByteArray)⟩,⟨F3,MP.own F3 [(.slice A8 y.Plan.Network.Fibers.length c8)] (y.Plan.Network.Fibers:List Fiber)⟩,⟨F4,MP.own F4 [(.slice A9 y.Plan.Lights.length c9)] (y.Plan.Lights:List Light)⟩,⟨F5,MP.own F5 [(.slice A10 y.Home.length c10)] (y.Home:List Light)⟩] [(true,MP.val [(.slice A10 y.Home.length c10)] (y.Home:List Light)),(true,MP.val [(.slice A9 y.Plan.Lights.length c9)] (y.Plan.Lights:List Light)),(true,MP.val [(.slice A8 y.Plan.Network.Fibers.length c8)] (y.Plan.Network.Fibers:List Fiber)),(true,MP.val [(.slice A7 y.Plan.Network.Nodes.length c7)] (y.Plan.Network.Nodes:List ByteArray)),(false,MP.val [(.slice A6 fibers.length c6)] (fibers:List Int)),(false,MP.val [(.slice A5 r'.Down.length c5)] (r'.Down:List Int)),(false,MP.val [(.slice A4 r'.Home.length c4)] (r'.Home:List Light)),(false,MP.val [(.slice A3 r'.Plan.Lights.length c3)] (r'.Plan.Lights:List Light)),(false,MP.val [(.slice A2 r'.Plan.Network.Fibers.length c2)] (r'.Plan.Network.Fibers:List Fiber)),(false,MP.val [(.slice A r'.Plan.Network.Nodes.length c)] (r'.Plan.Network.Nodes:List ByteArray))] w) (fun k (s:Int×List Int)=>spec_l15Repair_L1 fu r' fibers k s.1 s.2=some out') (fun s=>out'=s) (0,([]:List Int)) fu hB1 ⟨A12,0,3,hf,H⟩ (fun s h=>by cases h) ?_ ?_
 ·rintro fk ⟨i,m⟩ a w hR1 hI
  replace hR1:spec_l15Repair_L1 fu r' fibers (fk + 1) i m=some out':=hR1
  rw [spec_l15Repair_L1] at hR1
  obtain ⟨A13,c12,E,hf,H⟩:=hI
  refine sq (sqz (pz 2 hf fun a hf=>?_))
  refine lB 2 hf H TF.ls35 fun a hf=>?_
  refine pz 2 hf fun a hf=>?_
  refine wl_end (then_n (ib hR1 hf (fun hc hR1=>?_) fun hc hR1=>?_))
  ·refine ws (pz 2 hf fun a hf=>?_)
   refine lB 2 hf H TF.ls35 fun a hf=>?_
   refine pz 1 hf fun a hf=>?_
   obtain ⟨e,he,hR1⟩:=bs_ hR1
   refine wl0 rfl (op_iaddr hf H Tryz.underlying35 TF.sz3 5 rfl rfl rfl he (by decide) fun p o cs a hf hr H=>?_)
   obtain rfl:=hr
   refine oq hf (rq_loadI hf H TF.ls3 0 0 rfl rfl rfl) fun a hf=>?_
   obtain ⟨y2,hy2,hR1⟩:=bs_ hR1
   refine oc hf TF.cl178 (spec_l1Has_ok (S:=TT) (mk_list (H.rt 5 rfl)) mk_int hy2) fun v2 w a hp3 hf=>?_
   obtain ⟨hb2,hp3⟩:=hp3
   obtain rfl:=VR_bool hp3
   have H:=H.keep hb2
   refine pz 1 hf fun a hf=>?_
   refine wl_end (then_n (ib hR1 hf (fun hc2 hR1=>?_) fun hc2 hR1=>?_))
   ·refine dw [10] 11 fun w hb=>?_
    have H:=H.keep hb
    refine zp 0 hf trivial fun a hf=>?_
    refine strT (H.lk 1 0 0 []) (fun w H=>trivial) fun hS=>?_
    refine zS 1 [1,8,9,10] rfl rfl rfl rfl hf hS (fun w H=>rq_loadB hf H TF.ls35 0 rfl rfl rfl) fun a hf=>?_
    refine zp 2 hf hS fun a hf=>?_
    refine strT (H.lk 5 0 0 []) (fun w H=>H.lk 1 0 0 []) fun hS=>?_
    refine zS 3 [3,5,6,7,8,9,10] rfl rfl rfl rfl hf hS (fun w H=>rq_loadB hf H TF.ls35 1 rfl rfl rfl) fun a hf=>?_
    refine zp 4 hf hS fun a hf=>?_
    obtain ⟨e2,he2,hR1⟩:=bs_ hR1
    obtain ⟨p2,o2,cs2,hx,hr2,H⟩:=pre_iaddr H Tryz.underlying35 TF.sz3 6 rfl he2
    refine zP 5 rfl rfl rfl rfl hf hS (fun w=>rq_iaddrE hf rfl rfl rfl hx w) fun a hf=>?_
    obtain rfl:=hr2
    refine strT (H.lk 5 0 0 [0]) (fun w H=>H.lk 3 0 0 []) fun hS=>?_
    refine zS 6 [6,7,8,9,10] rfl rfl rfl rfl hf hS (fun w H=>rq_loadI hf H TF.ls3 0 0 rfl rfl rfl) fun a hf=>?_
    refine nn 7 rfl (bl hf H 3 ([e2]:List Int) [(.int .i64 e2)] (el1 (y:=e2) (rfl)) fun A14 a w hf H=>?_)
    have hS:=H.lk 5 0 0 [0]
    refine aS hS ?_
    obtain ⟨l,hl_,hR1⟩:=bs_ hR1
    refine nn 8 rfl (op_appR hf H Tryz.underlying35 TF.ai3 rfl (by decide) 1 0 rfl rfl rfl rfl (.inr rfl) hl_ (by decide) fun E2 A15 c13 a w hf H=>?_)
    have hS:=H.lk 5 0 0 [0]
    refine aS hS ?_
    refine zp 9 hf hS fun a hf=>?_
    refine nn 10 rfl (op_storeB hf H 0 TF.sz35 rfl rfl rfl rfl rfl rfl (nle rfl) fun w H=>?_)
    refine ⟨fun h=>absurd h (by decide),?_⟩
    refine dk ?_
    have hf:=hf.pn [1,2,4,5,6]
    refine blk_n (then_n (reg (pz 3 hf fun a hf=>?_)))
    refine wl_end ?_
    have hf:=hf.pn [1,2,4,5,6]
    have H:=H.lm 7 2 15 12 4092
    exact then_n ⟨(w64 (i + 1),l),hR1,A15,c13,E2,hf,H⟩
   refine wp_skip (blk_n (then_n (reg (pz 3 hf fun a hf=>?_))))
   have hf:=hf.pn [1,2,4,5,6]
   refine wl_end ?_
   have hf:=hf.pn [1,2,4,5,6]
   have H:=H.lm 7 1 15 11 2046
   exact then_n ⟨(w64 (i + 1),m),hR1,A13,c12,E,hf,H⟩
  refine wp_exit (then_x (then_x (blk_e (?_))))
  have hf:=hf.pn [1,2,4,5,6]
  have H:=H.lm 7 1 15 10 1023
  exact ⟨(i,m),(Option.some.inj hR1).symm,A13,c12,E,hf,H⟩
 rintro a w ⟨⟨i2,m2⟩,rfl,A16,c14,E3,hf,H⟩
 try dsimp only at hF
 refine then_n (sq (reg (lN 0 hf H TF.la60 fun a hf=>?_)))
 refine sB 1 hf H TF.sz60 fun w H=>?_
 refine wer ?_
 have H:=H.rowOwn 0 rfl rfl
 obtain ⟨F7,H⟩:=H.freezeOwn 0 rfl
 have H:=H.lend 0 rfl
 have H:=H.frontD 4 rfl
 have H:=H.frontD 4 rfl
 have H:=H.frontD 4 rfl
 have H:=H.frontD 4 rfl
 obtain rfl:=oi hF
 refine ret_1 hf rfl (rv_cellN hf H 1 TF.la60 rfl rfl rfl) ?_
 have hN:=H.ends (X:=[(⟨F2,MP.own F2 [(.slice A7 y.Plan.Network.Nodes.length c7)] (y.Plan.Network.Nodes:List ByteArray)⟩:DI),(⟨F3,MP.own F3 [(.slice A8 y.Plan.Network.Fibers.length c8)] (y.Plan.Network.Fibers:List Fiber)⟩:DI),(⟨F4,MP.own F4 [(.slice A9 y.Plan.Lights.length c9)] (y.Plan.Lights:List Light)⟩:DI),(⟨F5,MP.own F5 [(.slice A10 y.Home.length c10)] (y.Home:List Light)⟩:DI),(⟨F7,MP.own F7 [(.slice A16 m2.length c14)] (m2:List Int)⟩:DI)])
 simp only [List.flatMap_cons,List.flatMap_nil,List.append_nil,List.append_assoc] at hN
 exact ⟨_,rfl,H.bel,(F2++(F3++(F4++(F5++F7)))),⟨_,Restoration_ownmk (x:=({ Plan:=y.Plan,Home:=y.Home,Down:=m2 }:Restoration)) (H.ownAt 0 rfl) (H.ownAt 1 rfl) (H.ownAt 2 rfl) (H.ownAt 3 rfl) (H.ownAt 4 rfl),rfl⟩,by first | exact hN | simpa using hN⟩
theorem spec_l9Find_ok {S:Nat→Prop} {v0_:Value} {v1_:Value} {p:Plan} {id:Int} {r:Int} (h0:VR w0 S v0_ p) (h1:VR w0 S v1_ id) (hF:spec_l9Find fu p id=some r) :
    Calls Tryz.prog 182 [v0_,v1_].toArray w0 fun e w'=>∃ v,e=.returned v∧(Below w0.heap.size w0 w'∧VR w' (St ⟨w0,[]⟩ S [] [] [] true) v r):=by
 obtain ⟨A,c,A2,c2,A3,c3,rfl,hl,hl2,hl3⟩:=Plan_open h0
 obtain rfl:=VR_int h1
 have H:=Mem.start ⟨w0,[]⟩ S
 have H:=H.pA hl
 have H:=H.pA hl2
 have H:=H.pA hl3
 refine en Tryz.func182 fun a hf=>?_
 rw [spec_l9Find] at hF
 refine bx hf H fun b' a w hf H=>?_
 refine pz 1 hf fun a hf=>?_
 refine we (sqz (pz 1 hf fun a hf=>?_))
 refine wl_end (then_n ?_)
 obtain ⟨out',hB1,hF⟩:=bs_ hF
 have hf:=hf.pn [1,2,5]
 have H:=H.lm 1 0 0 3 7
 refine loopC (fun (s:Int) (a:Act) (w:World)=>match s with | i=>Fr a 22 [(1,(.int .i64 id)),(2,(.pointer (some ⟨b',0,none⟩))),(5,(.int .i64 i))]∧Mem ⟨w0,[]⟩ S [⟨b',30,[(.slice A p.Network.Nodes.length c),(.slice A2 p.Network.Fibers.length c2),(.slice A3 p.Lights.length c3)]⟩] [] [] [(false,MP.val [(.slice A3 p.Lights.length c3)] (p.Lights:List Light)),(false,MP.val [(.slice A2 p.Network.Fibers.length c2)] (p.Network.Fibers:List Fiber)),(false,MP.val [(.slice A p.Network.Nodes.length c)] (p.Network.Nodes:List ByteArray))] w) (fun k (s:Int)=>spec_l9Find_L1 fu p id k s=some out') (fun s=>out'=Out.next s) 0 fu hB1 ⟨hf,H⟩ (fun s h=>by cases h) ?_ ?_
 ·rintro fk i a w hR1 hI
  replace hR1:spec_l9Find_L1 fu p id (fk + 1) i=some out':=hR1
  rw [spec_l9Find_L1] at hR1
  obtain ⟨hf,H⟩:=hI
  refine sq (sqz (pz 2 hf fun a hf=>?_))
  refine lB 0 hf H TF.ls28 fun a hf=>?_
  refine pz 2 hf fun a hf=>?_
  refine wl_end (then_n (ib hR1 hf (fun hc hR1=>?_) fun hc hR1=>?_))
  ·refine ws (pz 1 hf fun a hf=>?_)
   refine lB 0 hf H TF.ls28 fun a hf=>?_
   refine pz 1 hf fun a hf=>?_
   obtain ⟨e,he,hR1⟩:=bs_ hR1
   refine wl0 rfl (op_iaddr hf H Tryz.underlying28 TF.sz49 0 rfl rfl rfl he (by decide) fun p2 o cs a hf hr H=>?_)
   obtain ⟨A4,c4,rfl,hl4⟩:=Light_cells hr
   have H:=H.pF hl4
   refine pz 1 hf fun a hf=>?_
   refine oq hf (rq_loadI hf H TF.ls3 1 0 rfl rfl rfl) fun a hf=>?_
   refine pz 2 hf fun a hf=>?_
   refine wl_end (then_n (ib hR1 hf (fun hc2 hR1=>?_) fun hc2 hR1=>?_))
   ·refine sqz (pz 2 hf fun a hf=>?_)
    have hf:=hf.pn [4]
    refine wl_end (then_n (wp_ret (blk_r (then_r (then_r (blk_r (then_r (then_r (?_)))))))))
    obtain rfl:=oi hR1
    replace hF:=on_ret hF
    obtain rfl:=oi hF
    refine rT hf ?_
    exact ⟨_,rfl,H.bel,mk_int⟩
   refine wp_skip (blk_n (then_n (reg (pz 3 hf fun a hf=>?_))))
   have hf:=hf.pn [1,2,5]
   refine wl_end ?_
   have hf:=hf.pn [1,2,5]
   have H:=H.lm 1 0 0 5 28
   exact then_n ⟨w64 (i + 1),hR1,hf,H⟩
  refine wp_exit (then_x (then_x (blk_e (?_))))
  have hf:=hf.pn [1,2,5]
  have H:=H.lm 1 0 0 3 7
  exact ⟨i,(Option.some.inj hR1).symm,hf,H⟩
 rintro a w ⟨i2,rfl,hf,H⟩
 replace hF:=on_next hF
 refine then_n (sqz (pz 1 hf fun a hf=>?_))
 refine wer ?_
 obtain rfl:=oi hF
 refine rT hf ?_
 exact ⟨_,rfl,H.bel,mk_int⟩
theorem spec_l15Waiting_ok {S:Nat→Prop} {v0_:Value} {r':Restoration} {r:List Int} (h0:VR w0 S v0_ r') (hF:spec_l15Waiting fu r'=some r) :
    Calls Tryz.prog 128 [v0_].toArray w0 fun e w'=>∃ v,e=.returned v∧(Below w0.heap.size w0 w'∧∃ F0,VO w' F0 v r∧New w0 w' F0):=by
 obtain ⟨A,c,A2,c2,A3,c3,A4,c4,A5,c5,rfl,hl,hl2,hl3,hl4,hl5⟩:=Restoration_open h0
 have H:=Mem.start ⟨w0,[]⟩ S
 have H:=H.pA hl
 have H:=H.pA hl2
 have H:=H.pA hl3
 have H:=H.pA hl4
 have H:=H.pA hl5
 refine en Tryz.func128 fun a hf=>?_
 rw [spec_l15Waiting] at hF
 refine bx hf H fun b' a w hf H=>?_
 refine pz 1 hf fun a hf=>?_
 refine wr (wl0 rfl (bl hf H 3 ([]:List Int) [] el0 fun A6 a w hf H=>?_))
 refine pz 1 hf fun a hf=>?_
 refine we (sqz (pz 1 hf fun a hf=>?_))
 refine wl_end (then_n ?_)
 obtain ⟨out2,hB1,hF⟩:=bs_ hF
 have hf:=hf.pn [1,3,4]
 have H:=H.lm 1 1 0 5 31
 refine loopC (fun (s:List Int×Int) (a:Act) (w:World)=>match s with | (out',i)=>∃ (A7:Option Addr) (c6:Nat) (E:Go.TypeId),Fr a 28 [(1,(.pointer (some ⟨b',0,none⟩))),(3,(.slice A7 out'.length c6)),(4,(.int .i64 i))]∧Mem ⟨w0,[]⟩ S [⟨b',60,[(.slice A r'.Plan.Network.Nodes.length c),(.slice A2 r'.Plan.Network.Fibers.length c2),(.slice A3 r'.Plan.Lights.length c3),(.slice A4 r'.Home.length c4),(.slice A5 r'.Down.length c5)]⟩] [⟨.sh true,E,A7,c6,(out':List Int)⟩] [] [(false,MP.val [(.slice A5 r'.Down.length c5)] (r'.Down:List Int)),(false,MP.val [(.slice A4 r'.Home.length c4)] (r'.Home:List Light)),(false,MP.val [(.slice A3 r'.Plan.Lights.length c3)] (r'.Plan.Lights:List Light)),(false,MP.val [(.slice A2 r'.Plan.Network.Fibers.length c2)] (r'.Plan.Network.Fibers:List Fiber)),(false,MP.val [(.slice A r'.Plan.Network.Nodes.length c)] (r'.Plan.Network.Nodes:List ByteArray))] w) (fun k (s:List Int×Int)=>spec_l15Waiting_L1 fu r' k s.1 s.2=some out2) (fun s=>out2=s) (([]:List Int),0) fu hB1 ⟨A6,0,3,hf,H⟩ (fun s h=>by cases h) ?_ ?_
 ·rintro fk ⟨out',i⟩ a w hR1 hI
  replace hR1:spec_l15Waiting_L1 fu r' (fk + 1) out' i=some out2:=hR1
  rw [spec_l15Waiting_L1] at hR1
  obtain ⟨A7,c6,E,hf,H⟩:=hI
  refine sq (sqz (pz 2 hf fun a hf=>?_))
  refine lB 0 hf H TF.ls28 fun a hf=>?_
  refine pz 2 hf fun a hf=>?_
  refine wl_end (then_n (ib hR1 hf (fun hc hR1=>?_) fun hc hR1=>?_))
  ·refine wp_skip (then_n (sq (wp_block (sq (dw [] 10 fun w hb=>?_)))))
   have H:=H.keep hb
   refine zp 0 hf trivial fun a hf=>?_
   refine strT (H.lk 1 0 0 []) (fun w H=>trivial) fun hS=>?_
   refine zS 1 [] rfl rfl rfl rfl hf hS (fun w H=>rq_loadBN hf H TF.la30 0 rfl rfl rfl rfl) fun a hf=>?_
   refine zp 2 hf hS fun a hf=>?_
   refine zS 3 [] rfl rfl rfl rfl hf hS (fun w H=>rq_loadB hf H TF.ls28 0 rfl rfl rfl) fun a hf=>?_
   refine zp 4 hf hS fun a hf=>?_
   obtain ⟨e,he,hR1⟩:=bs_ hR1
   obtain ⟨p,o,cs,hx,hr,H⟩:=pre_iaddr H Tryz.underlying28 TF.sz49 1 rfl he
   refine zP 5 rfl rfl rfl rfl hf hS (fun w=>rq_iaddrE hf rfl rfl rfl hx w) fun a hf=>?_
   obtain ⟨A8,c7,rfl,hl6⟩:=Light_cells hr
   have H:=H.pF hl6
   refine zp 6 hf hS fun a hf=>?_
   refine strT (H.lk 1 0 0 [1]) (fun w H=>H.lk 1 0 0 []) fun hS=>?_
   refine zS 7 [] rfl rfl rfl rfl hf hS (fun w H=>rq_loadI hf H TF.ls3 0 0 rfl rfl rfl) fun a hf=>?_
   obtain ⟨y,hy,hR1⟩:=bs_ hR1
   refine nn 8 rfl (oC hf TF.cl182 (spec_l9Find_ok (S:=TT) (Plan_mkv (x:=r'.Plan) (H.rt 6 rfl) (H.rt 5 rfl) (H.rt 4 rfl)) mk_int hy) fun v w a hp hf=>?_)
   obtain ⟨hb,hp⟩:=hp
   obtain rfl:=VR_int hp
   have H:=H.keep hb
   have hS:=H.lk 1 0 0 [1]
   refine aS hS ?_
   refine zp 9 hf hS fun a hf=>?_
   refine dk ?_
   have hf:=hf.pn [1,3,4,22]
   refine then_n (ib hR1 hf (fun hc2 hR1=>?_) fun hc2 hR1=>?_)
   ·refine reg (pz 2 hf fun a hf=>?_)
    refine wl0 rfl (bl hf H 3 ([i]:List Int) [(.int .i64 i)] (el1 (y:=i) (rfl)) fun A9 a w hf H=>?_)
    obtain ⟨l,hl_,hR1⟩:=bs_ hR1
    refine wl0 rfl (op_appR hf H Tryz.underlying35 TF.ai3 rfl (by decide) 1 0 rfl rfl rfl rfl (.inr rfl) hl_ (by decide) fun E2 A10 c8 a w hf H=>?_)
    refine pz 1 hf fun a hf=>?_
    refine wl_end (blk_n (then_n (reg (pz 3 hf fun a hf=>?_))))
    refine wl_end ?_
    have hf:=hf.pn [1,3,4]
    have H:=H.lm 1 2 0 7 124
    exact then_n ⟨(l,w64 (i + 1)),hR1,A10,c8,E2,hf,H⟩
   refine wp_skip (blk_n (then_n (reg (pz 3 hf fun a hf=>?_))))
   refine wl_end ?_
   have hf:=hf.pn [1,3,4]
   have H:=H.lm 1 1 0 7 124
   exact then_n ⟨(out',w64 (i + 1)),hR1,A7,c6,E,hf,H⟩
  refine wp_exit (then_x (then_x (blk_e (?_))))
  have hf:=hf.pn [1,3,4]
  have H:=H.lm 1 1 0 5 31
  exact ⟨(out',i),(Option.some.inj hR1).symm,A7,c6,E,hf,H⟩
 rintro a w ⟨⟨out3,i2⟩,rfl,A11,c9,E3,hf,H⟩
 try dsimp only at hF
 refine then_n (sqz (pz 2 hf fun a hf=>?_))
 refine wer ?_
 have H:=H.rowOwn 0 rfl rfl
 obtain ⟨F,H⟩:=H.freezeOwn 0 rfl
 have H:=H.lend 0 rfl
 obtain rfl:=oi hF
 refine rT hf ?_
 have hN:=H.ends1
 exact ⟨_,rfl,H.bel,F,(mko_list (H.ownAt 0 rfl)),by first | exact hN | simpa using hN⟩
theorem spec_l4Pair_ok {S:Nat→Prop} {v0_:Value} {v1_:Value} {v2_:Value} {n':Network} {from':Int} {to:Int} {r:Bool} (h0:VR w0 S v0_ n') (h1:VR w0 S v1_ from') (h2:VR w0 S v2_ to) (hF:spec_l4Pair fu n' from' to=some r) :
    Calls Tryz.prog 336 [v0_,v1_,v2_].toArray w0 fun e w'=>∃ v,e=.returned v∧(Below w0.heap.size w0 w'∧VR w' (St ⟨w0,[]⟩ S [] [] [] true) v r):=by
 obtain ⟨A,c,A2,c2,rfl,hl,hl2⟩:=Network_open h0
 obtain rfl:=VR_int h1
 obtain rfl:=VR_int h2
 have H:=Mem.start ⟨w0,[]⟩ S
 have H:=H.pA hl
 have H:=H.pA hl2
 refine en Tryz.func336 fun a hf=>?_
 rw [spec_l4Pair] at hF
 refine bx hf H fun b' a w hf H=>?_
 refine pz 1 hf fun a hf=>?_
 refine wl_end (then_n (sq ?_))
 obtain ⟨c3,hGc3,hF⟩:=bs_ hF
 have fh:=hf.prune [] rfl
 have Hm:=H.lk 0 0 0 []
 refine midF 6 (.bool c3) fh Hm ?_ fun a w hf H=>?_
 ·refine reg (lN 0 hf H TF.la27 fun a hf=>?_)
  obtain ⟨y,hy,hGc3⟩:=bs_ hGc3
  refine oc hf TF.cl197 (spec_l2Good_ok (S:=TT) (Network_mkv (x:=n') (H.rt 1 rfl) (H.rt 0 rfl)) hy) fun v w a hp hf=>?_
  obtain ⟨hb,hp⟩:=hp
  obtain rfl:=VR_bool hp
  have H:=H.keep hb
  refine pz 1 hf fun a hf=>?_
  refine iteB hGc3 (fun hc hGc3=>?_) fun hc hGc3=>?_
  ·have hf:=hf.lit 9 rfl hc
   refine pz 2 hf fun a hf=>?_
   refine wlg hf rfl rfl rfl (op_q hf (rq_loadB hf H TF.ls24 0 rfl rfl rfl) rfl (by decide) fun a hf=>?_)
   refine pz 2 hf fun a hf=>?_
   obtain ⟨y2,hy2,hGc3⟩:=bs_ hGc3
   refine wlg hf rfl rfl rfl (oC hf TF.cl153 (spec_l1In_ok (S:=TT) mk_int mk_int mk_int hy2) fun v2 w a hp2 hf=>?_)
   obtain ⟨hb2,hp2⟩:=hp2
   obtain rfl:=VR_bool hp2
   have H:=H.keep hb2
   refine pz 2 hf fun a hf=>?_
   refine iteB hGc3 (fun hc2 hGc3=>?_) fun hc2 hGc3=>?_
   ·have hf:=hf.lit 17 rfl hc2
    refine pz 2 hf fun a hf=>?_
    refine wlg hf rfl rfl rfl (op_q hf (rq_loadB hf H TF.ls24 0 rfl rfl rfl) rfl (by decide) fun a hf=>?_)
    refine pz 2 hf fun a hf=>?_
    obtain ⟨y3,hy3,hGc3⟩:=bs_ hGc3
    refine wlg hf rfl rfl rfl (oC hf TF.cl153 (spec_l1In_ok (S:=TT) mk_int mk_int mk_int hy3) fun v3 w a hp3 hf=>?_)
    obtain ⟨hb3,hp3⟩:=hp3
    obtain rfl:=VR_bool hp3
    have H:=H.keep hb3
    refine pz 2 hf fun a hf=>?_
    refine iteB hGc3 (fun hc3 hGc3=>?_) fun hc3 hGc3=>?_
    ·have hf:=hf.lit 25 rfl hc3
     refine pz 5 hf fun a hf=>?_
     obtain rfl:=oi hGc3
     have hf:=hf.pn [6]
     have H:=H.lk 0 0 0 []
     exact wl_end ⟨hf,H⟩
    have hf:=hf.lit 25 rfl hc3
    refine pz 5 hf fun a hf=>?_
    obtain rfl:=oi hGc3
    have hf:=hf.pn [6]
    have H:=H.lk 0 0 0 []
    exact wl_end ⟨hf,H⟩
   have hf:=hf.lit 17 rfl hc2
   refine pz 13 hf fun a hf=>?_
   obtain rfl:=oi hGc3
   have hf:=hf.pn [6]
   have H:=H.lk 0 0 0 []
   exact wl_end ⟨hf,H⟩
  have hf:=hf.lit 9 rfl hc
  refine pz 21 hf fun a hf=>?_
  obtain rfl:=oi hGc3
  have hf:=hf.pn [6]
  have H:=H.lk 0 0 0 []
  exact wl_end ⟨hf,H⟩
 refine then_n (wp_ret (?_))
 obtain rfl:=oi hF
 refine rT hf ?_
 exact ⟨_,rfl,H.bel,mk_bool⟩
theorem spec_l4Length_ok {S:Nat→Prop} {v0_:Value} {v1_:Value} {n':Network} {r':Route} {r:Int} (h0:VR w0 S v0_ n') (h1:VR w0 S v1_ r') (hF:spec_l4Length fu n' r'=some r) :
    Calls Tryz.prog 332 [v0_,v1_].toArray w0 fun e w'=>∃ v,e=.returned v∧(Below w0.heap.size w0 w'∧VR w' (St ⟨w0,[]⟩ S [] [] [] true) v r):=by
 obtain ⟨A,c,A2,c2,rfl,hl,hl2⟩:=Network_open h0
 obtain ⟨A3,c3,rfl,hl3⟩:=Route_open h1
 have H:=Mem.start ⟨w0,[]⟩ S
 have H:=H.pA hl
 have H:=H.pA hl2
 have H:=H.pA hl3
 refine en Tryz.func332 fun a hf=>?_
 rw [spec_l4Length] at hF
 refine bx hf H fun b' a w hf H=>?_
 refine wl0 rfl (op_box hf H rfl rfl (by decide) fun b2 a w hf H=>?_)
 refine pz 1 hf fun a hf=>?_
 refine wr (pz 1 hf fun a hf=>?_)
 refine we (sqz (pz 1 hf fun a hf=>?_))
 refine wl_end (then_n ?_)
 obtain ⟨out',hB1,hF⟩:=bs_ hF
 have hf:=hf.pn [2,3,5,6]
 have H:=H.lm 3 0 0 3 7
 refine loopC (fun (s:Int×Int) (a:Act) (w:World)=>match s with | (sum,i)=>Fr a 27 [(2,(.pointer (some ⟨b',0,none⟩))),(3,(.pointer (some ⟨b2,0,none⟩))),(5,(.int .i64 sum)),(6,(.int .i64 i))]∧Mem ⟨w0,[]⟩ S [⟨b2,45,[(.int .i64 r'.Start),(.slice A3 r'.Fibers.length c3)]⟩,⟨b',27,[(.slice A n'.Nodes.length c),(.slice A2 n'.Fibers.length c2)]⟩] [] [] [(false,MP.val [(.slice A3 r'.Fibers.length c3)] (r'.Fibers:List Int)),(false,MP.val [(.slice A2 n'.Fibers.length c2)] (n'.Fibers:List Fiber)),(false,MP.val [(.slice A n'.Nodes.length c)] (n'.Nodes:List ByteArray))] w) (fun k (s:Int×Int)=>spec_l4Length_L1 fu n' r' k s.1 s.2=some out') (fun s=>out'=s) (0,0) fu hB1 ⟨hf,H⟩ (fun s h=>by cases h) ?_ ?_
 ·rintro fk ⟨sum,i⟩ a w hR1 hI
  replace hR1:spec_l4Length_L1 fu n' r' (fk + 1) sum i=some out':=hR1
  rw [spec_l4Length_L1] at hR1
  obtain ⟨hf,H⟩:=hI
  refine sq (sqz (pz 2 hf fun a hf=>?_))
  refine lB 0 hf H TF.ls35 fun a hf=>?_
  refine pz 2 hf fun a hf=>?_
  refine wl_end (then_n (ib hR1 hf (fun hc hR1=>?_) fun hc hR1=>?_))
  ·refine wp_skip (then_n (sq (wp_block (dw [] 13 fun w hb=>?_))))
   have H:=H.keep hb
   refine zp 0 hf trivial fun a hf=>?_
   refine zp 1 hf trivial fun a hf=>?_
   refine strT (H.lk 2 0 0 []) (fun w H=>trivial) fun hS=>?_
   refine zS 2 [] rfl rfl rfl rfl hf hS (fun w H=>rq_loadB hf H TF.ls25 0 rfl rfl rfl) fun a hf=>?_
   refine zp 3 hf hS fun a hf=>?_
   refine strT (H.lk 3 0 0 []) (fun w H=>H.lk 2 0 0 []) fun hS=>?_
   refine zS 4 [] rfl rfl rfl rfl hf hS (fun w H=>rq_loadB hf H TF.ls35 0 rfl rfl rfl) fun a hf=>?_
   refine zp 5 hf hS fun a hf=>?_
   obtain ⟨e,he,hR1⟩:=bs_ hR1
   obtain ⟨p,o,cs,hx,hr,H⟩:=pre_iaddr H Tryz.underlying35 TF.sz3 0 rfl he
   refine zP 6 rfl rfl rfl rfl hf hS (fun w=>rq_iaddrE hf rfl rfl rfl hx w) fun a hf=>?_
   obtain rfl:=hr
   refine strT (H.lk 3 0 0 [0]) (fun w H=>H.lk 3 0 0 []) fun hS=>?_
   refine zS 7 [] rfl rfl rfl rfl hf hS (fun w H=>rq_loadI hf H TF.ls3 0 0 rfl rfl rfl) fun a hf=>?_
   obtain ⟨e2,he2,hR1⟩:=bs_ hR1
   obtain ⟨p2,o2,cs2,hx2,hr2,H⟩:=pre_iaddr H Tryz.underlying25 TF.sz180 2 rfl he2
   refine zP 8 rfl rfl rfl rfl hf hS (fun w=>rq_iaddrE hf rfl rfl rfl hx2 w) fun a hf=>?_
   obtain rfl:=Fiber_cells hr2
   refine zp 9 hf hS fun a hf=>?_
   refine strT (H.lk 3 0 0 [0,1]) (fun w H=>H.lk 3 0 0 [1]) fun hS=>?_
   refine zS 10 [] rfl rfl rfl rfl hf hS (fun w H=>rq_loadI hf H TF.ls3 0 2 rfl rfl rfl) fun a hf=>?_
   refine zp 11 hf hS fun a hf=>?_
   refine zp 12 hf hS fun a hf=>?_
   refine dk ?_
   have hf:=hf.pn [2,3,5,6]
   refine blk_n (then_n (reg (pz 3 hf fun a hf=>?_)))
   refine wl_end ?_
   have hf:=hf.pn [2,3,5,6]
   have H:=H.lm 3 0 0 5 28
   exact then_n ⟨(w64 (sum + e2.Length),w64 (i + 1)),hR1,hf,H⟩
  refine wp_exit (then_x (then_x (blk_e (?_))))
  have hf:=hf.pn [2,3,5,6]
  have H:=H.lm 3 0 0 3 7
  exact ⟨(sum,i),(Option.some.inj hR1).symm,hf,H⟩
 rintro a w ⟨⟨sum2,i2⟩,rfl,hf,H⟩
 try dsimp only at hF
 refine then_n (sqz (pz 2 hf fun a hf=>?_))
 refine wer ?_
 obtain rfl:=oi hF
 refine rT hf ?_
 exact ⟨_,rfl,H.bel,mk_int⟩
theorem spec_l4Sign_ok {S:Nat→Prop} {v0_:Value} {x1:Int} {r:Int} (h0:VR w0 S v0_ x1) (hF:spec_l4Sign fu x1=some r) :
    Calls Tryz.prog 369 [v0_].toArray w0 fun e w'=>∃ v,e=.returned v∧(Below w0.heap.size w0 w'∧VR w' (St ⟨w0,[]⟩ S [] [] [] true) v r):=by
 obtain rfl:=VR_int h0
 have H:=Mem.start ⟨w0,[]⟩ S
 refine en Tryz.func369 fun a hf=>?_
 rw [spec_l4Sign] at hF
 refine sqz (pz 1 hf fun a hf=>?_)
 refine wl_end (then_n (sq (wp_block (sqz (pz 3 hf fun a hf=>?_)))))
 refine wl_end (then_n (ib hF hf (fun hc hF=>?_) fun hc hF=>?_))
 ·refine sqz (pz 1 hf fun a hf=>?_)
  refine wl_end (then_n (wp_ret (blk_r (then_r (?_)))))
  obtain rfl:=oi hF
  refine rT hf ?_
  exact ⟨_,rfl,H.bel,mk_int⟩
 refine sqz (pz 3 hf fun a hf=>?_)
 refine wl_end (then_n (ib hF hf (fun hc2 hF=>?_) fun hc2 hF=>?_))
 ·refine sqz (pz 1 hf fun a hf=>?_)
  refine wl_end (then_n (wp_ret (blk_r (then_r (?_)))))
  obtain rfl:=oi hF
  refine rT hf ?_
  exact ⟨_,rfl,H.bel,mk_int⟩
 refine wp_skip (blk_n (then_n (sqz (pz 1 hf fun a hf=>?_))))
 refine wer ?_
 obtain rfl:=oi hF
 refine rT hf ?_
 exact ⟨_,rfl,H.bel,mk_int⟩
end AT
