/- The Go functions do what is told of them, by program (gen.py). -/
import Derived.Test.YtlemonjnolciiaaGreatWC1
set_option linter.unusedVariables false
set_option linter.unusedSimpArgs false
set_option maxRecDepth 100000
set_option maxHeartbeats 1000000
namespace AT
open Go Go.RowKit Go.Proofs
variable {fu:Nat} {w0:World}
theorem gcE {S:Nat→Prop} {v0_:Value} {n':Network} {r:Bool} (h0:VR w0 S v0_ n') (hF:gax fu n'=some r) :
    Calls Tryz.prog 197 [v0_].toArray w0 fun e w'=>∃ v,e=.returned v∧(Below w0.heap.size w0 w'∧VR w' (St ⟨w0,[]⟩ S [] [] [] true) v r):=by
 obtain ⟨A,c,A2,c2,rfl,hl,hl2⟩:=vA h0
 have H:=Mem.start ⟨w0,[]⟩ S
 have H:=H.pA hl
 have H:=H.pA hl2
 refine en Tryz.func197 fun a hf=>?_
 rw [gax] at hF
 refine bx hf H fun b' a w hf H=>?_
 refine pz 1 hf fun a hf=>?_
 refine ub (ua (sq (sq ?_)))
 obtain ⟨c3,hGc3,hF⟩:=bs_ hF
 have fh:=hf.prune [1] rfl
 have Hm:=H.lk 1 0 0 [0,1]
 refine midF 15 (.bool c3) fh Hm ?_ fun a w hf H=>?_
 refine reg (pz 1 hf fun a hf=>?_)
 refine lB 0 hf H TF.ls24 fun a hf=>?_
 refine pz 1 hf fun a hf=>?_
 obtain ⟨y,hy,hGc3⟩:=bs_ hGc3
 refine oc hf TF.gey (xF (S:=TT) ug ug ug hy) fun v w a hp hf=>?_
 obtain ⟨hb,hp⟩:=hp
 obtain rfl:=uo hp
 have H:=H.keep hb
 refine pz 2 hf fun a hf=>?_
 refine iteB hGc3 (fun hc hGc3=>?_) fun hc hGc3=>?_
 have hf:=hf.lit 10 rfl hc
 refine pz 5 hf fun a hf=>?_
 obtain rfl:=oi hGc3
 have hf:=hf.pn [15,1]
 have H:=H.lk 1 0 0 [0,1]
 exact ub ⟨hf,H⟩
 have hf:=hf.lit 10 rfl hc
 refine pz 1 hf fun a hf=>?_
 refine wlg hf rfl rfl rfl (op_q hf (ue hf H TF.ls25 0 rfl rfl rfl) rfl (by decide) fun a hf=>?_)
 refine pz 3 hf fun a hf=>?_
 obtain rfl:=oi hGc3
 have hf:=hf.pn [15,1]
 have H:=H.lk 1 0 0 [0,1]
 exact ub ⟨hf,H⟩
 refine ua (ib hF hf (fun hc2 hF=>?_) fun hc2 hF=>?_)
 refine sqz (pz 1 hf fun a hf=>?_)
 refine ub (ua (wp_ret (uf (?_))))
 obtain rfl:=oi hF
 refine rT hf ?_
 exact ⟨_,rfl,H.bel,uk⟩
 refine wp_skip (ua (sq (sqz (pz 1 hf fun a hf=>?_))))
 refine ub (ua ?_)
 obtain ⟨out',hB1,hF⟩:=bs_ hF
 have hf:=hf.pn [1,3]
 have H:=H.lk 1 0 0 [0,1]
 refine vU (fun (s:Int) (a:Act) (w:World)=>match s with | i=>Fr a 78 [(1,(.pointer (some ⟨b',0,none⟩))),(3,(.int .i64 i))]∧Mem ⟨w0,[]⟩ S [⟨b',27,[(.slice A n'.Nodes.length c),(.slice A2 n'.Fibers.length c2)]⟩] [] [] [(false,MP.val [(.slice A2 n'.Fibers.length c2)] (n'.Fibers:List Fiber)),(false,MP.val [(.slice A n'.Nodes.length c)] (n'.Nodes:List ByteArray))] w) (fun k (s:Int)=>x8 fu n' k s=some out') (fun s=>out'=Out.next s) 0 fu hB1 ⟨hf,H⟩ (fun s h=>by cases h) ?_ ?_
 rintro fk i a w hR1 hI
 replace hR1:x8 fu n' (fk + 1) i=some out':=hR1
 rw [x8] at hR1
 obtain ⟨hf,H⟩:=hI
 refine sq (sqz (pz 2 hf fun a hf=>?_))
 refine lB 0 hf H TF.ls24 fun a hf=>?_
 refine pz 2 hf fun a hf=>?_
 refine ub (ua (ib hR1 hf (fun hc3 hR1=>?_) fun hc3 hR1=>?_))
 refine wp_skip (ua (sq (wp_block (sq ?_))))
 obtain ⟨c4,hGc4,hR1⟩:=bs_ hR1
 have fh2:=hf.prune [1,3] rfl
 have Hm2:=H.lk 1 0 0 [0,1]
 refine midF 41 (.bool c4) fh2 Hm2 ?_ fun a w hf H=>?_
 refine dw [] 19 fun w hb=>?_
 have H:=H.keep hb
 refine zp 0 hf trivial fun a hf=>?_
 refine strT (H.lk 1 0 0 []) (fun w H=>trivial) fun hS=>?_
 refine zS 1 [] rfl rfl rfl rfl hf hS (fun w H=>ue hf H TF.ls24 0 rfl rfl rfl) fun a hf=>?_
 refine zp 2 hf hS fun a hf=>?_
 obtain ⟨e,he,hGc4⟩:=bs_ hGc4
 obtain ⟨p,o,cs,hx,hr,H⟩:=ux H Tryz.underlying24 TF.sz9 1 rfl he
 refine zP 3 rfl rfl rfl rfl hf hS (fun w=>uu hf rfl rfl rfl hx w) fun a hf=>?_
 obtain rfl:=hr
 refine strT (H.lk 1 0 0 [0]) (fun w H=>H.lk 1 0 0 []) fun hS=>?_
 refine zS 4 [] rfl rfl rfl rfl hf hS (fun w H=>uI hf H TF.ls9 0 0 rfl rfl rfl) fun a hf=>?_
 obtain ⟨y2,hy2,hGc4⟩:=bs_ hGc4
 refine nn 5 rfl (oC hf TF.glU (geM (S:=TT) ge2 hy2) fun v2 w a hp2 hf=>?_)
 obtain ⟨hb2,hp2⟩:=hp2
 obtain rfl:=uo hp2
 have H:=H.keep hb2
 have hS:=H.lk 1 0 0 [0]
 refine aS hS ?_
 refine zp 6 hf hS fun a hf=>?_
 refine zp 7 hf hS fun a hf=>?_
 refine iteB hGc4 (fun hc4 hGc4=>?_) fun hc4 hGc4=>?_
 have hf:=hf.lit 30 rfl hc4
 refine zU 8 hf hS fun a hf=>?_
 refine zU 9 hf hS fun a hf=>?_
 refine zU 10 hf hS fun a hf=>?_
 refine zU 11 hf hS fun a hf=>?_
 refine zU 12 hf hS fun a hf=>?_
 refine zU 13 hf hS fun a hf=>?_
 refine zU 14 hf hS fun a hf=>?_
 refine zU 15 hf hS fun a hf=>?_
 refine zU 16 hf hS fun a hf=>?_
 refine zU 17 hf hS fun a hf=>?_
 refine zp 18 hf hS fun a hf=>?_
 refine dk ?_
 obtain rfl:=oi hGc4
 have hf:=hf.pn [41,1,3]
 have H:=H.lk 1 0 0 [1,2]
 exact ⟨hf,H⟩
 have hf:=hf.lit 30 rfl hc4
 refine zg 8 hf hS fun a hf=>?_
 refine tSg 9 [] rfl rfl rfl rfl rfl rfl hf (by kernel_rfl) (by kernel_rfl) hS (fun w H=>ue hf H TF.ls24 0 rfl rfl rfl) fun a hf=>?_
 refine zg 10 hf hS fun a hf=>?_
 refine tSg 11 [] rfl rfl rfl rfl rfl rfl hf (by kernel_rfl) (by kernel_rfl) hS (fun w H=>ue hf H TF.ls24 0 rfl rfl rfl) fun a hf=>?_
 refine zg 12 hf hS fun a hf=>?_
 obtain ⟨e2,he2,hGc4⟩:=bs_ hGc4
 obtain ⟨p2,o2,cs2,hx2,hr2,H⟩:=ux H Tryz.underlying24 TF.sz9 2 rfl he2
 refine tPg 13 rfl rfl rfl rfl rfl rfl hf (by kernel_rfl) (fun _=>hS) (fun w=>uu hf rfl rfl rfl hx2 w) fun a hf=>?_
 obtain rfl:=hr2
 refine strT (H.lk 1 0 0 [0,1]) (fun w H=>H.lk 1 0 0 [1]) fun hS=>?_
 refine tSg 14 [] rfl rfl rfl rfl rfl rfl hf (by kernel_rfl) (by kernel_rfl) hS (fun w H=>uI hf H TF.ls9 0 0 rfl rfl rfl) fun a hf=>?_
 refine zg 16 hf hS fun a hf=>?_
 obtain ⟨y3,hy3,hGc4⟩:=bs_ hGc4
 refine n1g 15 (by kernel_rfl) rfl rfl rfl rfl hf (oC hf TF.glT (geN (S:=TT) (uB (H.rt 3 rfl)) ge2 hy3) fun v3 w a hp3 hf=>?_)
 obtain ⟨hb3,hp3⟩:=hp3
 obtain rfl:=uv hp3
 have H:=H.keep hb3
 have hS:=H.lk 1 0 0 [0,1]
 refine aS hS ?_
 refine zg 17 hf hS fun a hf=>?_
 refine zp 18 hf hS fun a hf=>?_
 refine dk ?_
 obtain rfl:=oi hGc4
 have hf:=hf.pn [41,1,3]
 have H:=H.lk 1 0 0 [2,3]
 exact ⟨hf,H⟩
 refine ua (ib hR1 hf (fun hc5 hR1=>?_) fun hc5 hR1=>?_)
 refine sqz (pz 1 hf fun a hf=>?_)
 refine ub (ua (wp_ret (u9 (uf (uf (u9 (uf (uf (?_)))))))))
 obtain rfl:=oi hR1
 replace hF:=xc hF
 obtain rfl:=oi hF
 refine rT hf ?_
 exact ⟨_,rfl,H.bel,uk⟩
 refine wp_skip (uV (ua (reg (pz 3 hf fun a hf=>?_))))
 refine ub ?_
 have hf:=hf.pn [1,3]
 have H:=H.lk 1 0 0 [0,1]
 exact ua ⟨w64 (i + 1),hR1,hf,H⟩
 refine wp_exit (uy (uy (vJ (?_))))
 have hf:=hf.pn [1,3]
 have H:=H.lk 1 0 0 [0,1]
 exact ⟨i,(Option.some.inj hR1).symm,hf,H⟩
 rintro a w ⟨i2,rfl,hf,H⟩
 replace hF:=vG hF
 refine ua (sq (sqz (pz 1 hf fun a hf=>?_)))
 refine ub (ua ?_)
 obtain ⟨out2,hB1,hF⟩:=bs_ hF
 have hf:=hf.pn [1,4]
 have H:=H.lk 1 0 0 [0,1]
 refine vU (fun (s:Int) (a:Act) (w:World)=>match s with | i3=>Fr a 78 [(1,(.pointer (some ⟨b',0,none⟩))),(4,(.int .i64 i3))]∧Mem ⟨w0,[]⟩ S [⟨b',27,[(.slice A n'.Nodes.length c),(.slice A2 n'.Fibers.length c2)]⟩] [] [] [(false,MP.val [(.slice A2 n'.Fibers.length c2)] (n'.Fibers:List Fiber)),(false,MP.val [(.slice A n'.Nodes.length c)] (n'.Nodes:List ByteArray))] w) (fun k (s:Int)=>x7 fu n' k s=some out2) (fun s=>out2=Out.next s) 0 fu hB1 ⟨hf,H⟩ (fun s h=>by cases h) ?_ ?_
 rintro fk i3 a w hR1 hI
 replace hR1:x7 fu n' (fk + 1) i3=some out2:=hR1
 rw [x7] at hR1
 obtain ⟨hf,H⟩:=hI
 refine sq (sqz (pz 2 hf fun a hf=>?_))
 refine lB 0 hf H TF.ls25 fun a hf=>?_
 refine pz 2 hf fun a hf=>?_
 refine ub (ua (ib hR1 hf (fun hc6 hR1=>?_) fun hc6 hR1=>?_))
 refine wp_skip (ua (sq (wp_block (sq ?_))))
 obtain ⟨c5,hGc5,hR1⟩:=bs_ hR1
 have fh3:=hf.prune [1,4] rfl
 have Hm3:=H.lk 1 0 0 [0,1]
 refine midF 77 (.bool c5) fh3 Hm3 ?_ fun a w hf H=>?_
 refine dw [] 29 fun w hb=>?_
 have H:=H.keep hb
 refine zp 0 hf trivial fun a hf=>?_
 refine strT (H.lk 1 0 0 []) (fun w H=>trivial) fun hS=>?_
 refine zS 1 [] rfl rfl rfl rfl hf hS (fun w H=>ue hf H TF.ls25 0 rfl rfl rfl) fun a hf=>?_
 refine zp 2 hf hS fun a hf=>?_
 obtain ⟨e3,he3,hGc5⟩:=bs_ hGc5
 obtain ⟨p3,o3,cs3,hx3,hr3,H⟩:=ux H Tryz.underlying25 TF.zc 0 rfl he3
 refine zP 3 rfl rfl rfl rfl hf hS (fun w=>uu hf rfl rfl rfl hx3 w) fun a hf=>?_
 obtain rfl:=uZ hr3
 refine strT (H.lk 1 0 0 [0]) (fun w H=>H.lk 1 0 0 []) fun hS=>?_
 refine zS 4 [] rfl rfl rfl rfl hf hS (fun w H=>uz hf H TF.gas 0 0 rfl rfl rfl rfl) fun a hf=>?_
 refine zp 5 hf hS fun a hf=>?_
 refine zS 6 [] rfl rfl rfl rfl hf hS (fun w H=>ue hf H TF.ls24 0 rfl rfl rfl) fun a hf=>?_
 refine zp 7 hf hS fun a hf=>?_
 obtain ⟨y4,hy4,hGc5⟩:=bs_ hGc5
 refine nn 8 rfl (oC hf TF.glS (geg (S:=TT) xU ug hy4) fun v4 w a hp4 hf=>?_)
 obtain ⟨hb4,hp4⟩:=hp4
 obtain rfl:=uo hp4
 have H:=H.keep hb4
 have hS:=H.lk 1 0 0 [0]
 refine aS hS ?_
 refine zp 9 hf hS fun a hf=>?_
 refine zp 10 hf hS fun a hf=>?_
 refine iteB hGc5 (fun hc7 hGc5=>?_) fun hc7 hGc5=>?_
 have hf:=hf.lit 59 rfl hc7
 refine zU 11 hf hS fun a hf=>?_
 refine zU 12 hf hS fun a hf=>?_
 refine zU 13 hf hS fun a hf=>?_
 refine zV 14 hf hS fun a hf=>?_
 refine zV 15 hf hS fun a hf=>?_
 refine zV 16 hf hS fun a hf=>?_
 refine zV 17 hf hS fun a hf=>?_
 refine zV 18 hf hS fun a hf=>?_
 refine zV 19 hf hS fun a hf=>?_
 refine zV 20 hf hS fun a hf=>?_
 refine zV 21 hf hS fun a hf=>?_
 refine zV 22 hf hS fun a hf=>?_
 refine zV 23 hf hS fun a hf=>?_
 refine zV 24 hf hS fun a hf=>?_
 refine zV 25 hf hS fun a hf=>?_
 refine zV 26 hf hS fun a hf=>?_
 refine zU 27 hf hS fun a hf=>?_
 refine zp 28 hf hS fun a hf=>?_
 refine dk ?_
 obtain rfl:=oi hGc5
 have hf:=hf.pn [77,1,4]
 have H:=H.lk 1 0 0 [1,2]
 exact ⟨hf,H⟩
 have hf:=hf.lit 59 rfl hc7
 refine zg 11 hf hS fun a hf=>?_
 refine zg 12 hf hS fun a hf=>?_
 refine zg 13 hf hS fun a hf=>?_
 refine iteB hGc5 (fun hc8 hGc5=>?_) fun hc8 hGc5=>?_
 have hf:=hf.lit 62 rfl hc8
 refine zg 14 hf hS fun a hf=>?_
 refine tSg 15 [] rfl rfl rfl rfl rfl rfl hf (by kernel_rfl) (by kernel_rfl) hS (fun w H=>ue hf H TF.ls25 0 rfl rfl rfl) fun a hf=>?_
 refine zg 16 hf hS fun a hf=>?_
 refine zg 17 hf hS fun a hf=>?_
 obtain ⟨e4,he4,hGc5⟩:=bs_ hGc5
 obtain ⟨p4,o4,cs4,hx4,hr4,H⟩:=ux H Tryz.underlying25 TF.zc 1 rfl he4
 refine tPg 18 rfl rfl rfl rfl rfl rfl hf (by kernel_rfl) (fun _=>hS) (fun w=>uu hf rfl rfl rfl hx4 w) fun a hf=>?_
 obtain rfl:=uZ hr4
 refine strT (H.lk 1 0 0 [0,1]) (fun w H=>H.lk 1 0 0 [1]) fun hS=>?_
 refine tSg 19 [] rfl rfl rfl rfl rfl rfl hf (by kernel_rfl) (by kernel_rfl) hS (fun w H=>uz hf H TF.gas 0 0 rfl rfl rfl rfl) fun a hf=>?_
 refine zg 20 hf hS fun a hf=>?_
 refine tSg 21 [] rfl rfl rfl rfl rfl rfl hf (by kernel_rfl) (by kernel_rfl) hS (fun w H=>ue hf H TF.ls25 0 rfl rfl rfl) fun a hf=>?_
 refine zg 22 hf hS fun a hf=>?_
 obtain ⟨e5,he5,hGc5⟩:=bs_ hGc5
 obtain ⟨p5,o5,cs5,hx5,hr5,H⟩:=ux H Tryz.underlying25 TF.zc 2 rfl he5
 refine tPg 23 rfl rfl rfl rfl rfl rfl hf (by kernel_rfl) (fun _=>hS) (fun w=>uu hf rfl rfl rfl hx5 w) fun a hf=>?_
 obtain rfl:=uZ hr5
 refine strT (H.lm 1 0 0 3 7) (fun w H=>H.lk 1 0 0 [1,2]) fun hS=>?_
 refine tSg 24 [] rfl rfl rfl rfl rfl rfl hf (by kernel_rfl) (by kernel_rfl) hS (fun w H=>uz hf H TF.gas 0 0 rfl rfl rfl rfl) fun a hf=>?_
 obtain ⟨y5,hy5,hGc5⟩:=bs_ hGc5
 refine n1g 25 (by kernel_rfl) rfl rfl rfl rfl hf (oC hf TF.gld (gb7 (S:=TT) xU xU hy5) fun v5 w a hp5 hf=>?_)
 obtain ⟨hb5,hp5⟩:=hp5
 obtain rfl:=uv hp5
 have H:=H.keep hb5
 have hS:=H.lm 1 0 0 3 7
 refine aS hS ?_
 refine zg 26 hf hS fun a hf=>?_
 refine zg 27 hf hS fun a hf=>?_
 refine zp 28 hf hS fun a hf=>?_
 refine dk ?_
 obtain rfl:=oi hGc5
 have hf:=hf.pn [77,1,4]
 have H:=H.lk 1 0 0 [3,4]
 exact ⟨hf,H⟩
 have hf:=hf.lit 62 rfl hc8
 refine zU 14 hf hS fun a hf=>?_
 refine zU 15 hf hS fun a hf=>?_
 refine zU 16 hf hS fun a hf=>?_
 refine zU 17 hf hS fun a hf=>?_
 refine zU 18 hf hS fun a hf=>?_
 refine zU 19 hf hS fun a hf=>?_
 refine zU 20 hf hS fun a hf=>?_
 refine zU 21 hf hS fun a hf=>?_
 refine zU 22 hf hS fun a hf=>?_
 refine zU 23 hf hS fun a hf=>?_
 refine zU 24 hf hS fun a hf=>?_
 refine zU 25 hf hS fun a hf=>?_
 refine zU 26 hf hS fun a hf=>?_
 refine zg 27 hf hS fun a hf=>?_
 refine zp 28 hf hS fun a hf=>?_
 refine dk ?_
 obtain rfl:=oi hGc5
 have hf:=hf.pn [77,1,4]
 have H:=H.lk 1 0 0 [1,2]
 exact ⟨hf,H⟩
 refine ua (ib hR1 hf (fun hc9 hR1=>?_) fun hc9 hR1=>?_)
 refine sqz (pz 1 hf fun a hf=>?_)
 refine ub (ua (wp_ret (u9 (uf (uf (u9 (uf (uf (?_)))))))))
 obtain rfl:=oi hR1
 replace hF:=xc hF
 obtain rfl:=oi hF
 refine rT hf ?_
 exact ⟨_,rfl,H.bel,uk⟩
 refine wp_skip (uV (ua (reg (pz 3 hf fun a hf=>?_))))
 refine ub ?_
 have hf:=hf.pn [1,4]
 have H:=H.lk 1 0 0 [0,1]
 exact ua ⟨w64 (i3 + 1),hR1,hf,H⟩
 refine wp_exit (uy (uy (vJ (?_))))
 have hf:=hf.pn [1,4]
 have H:=H.lk 1 0 0 [0,1]
 exact ⟨i3,(Option.some.inj hR1).symm,hf,H⟩
 rintro a w ⟨i4,rfl,hf,H⟩
 replace hF:=vG hF
 refine ua (sqz (pz 1 hf fun a hf=>?_))
 refine wer ?_
 obtain rfl:=oi hF
 refine rT hf ?_
 exact ⟨_,rfl,H.bel,uk⟩
theorem geI {S:Nat→Prop} {v0_:Value} {v1_:Value} {n':Network} {r':Route} {r:List Int×Bool} (h0:VR w0 S v0_ n') (h1:VR w0 S v1_ r') (hF:gbf fu n' r'=some r) :
    Calls Tryz.prog 302 [v0_,v1_].toArray w0 fun e w'=>∃ v,e=.returned v∧(Below w0.heap.size w0 w'∧∃ F0,∃ u0 u1,v=.tuple #[u0,u1]∧VO w' F0 u0 r.1∧VR w' (St ⟨w0,[]⟩ S [] [] [] true) u1 r.2∧New w0 w' F0):=by
 obtain ⟨A,c,A2,c2,rfl,hl,hl2⟩:=vA h0
 obtain ⟨A3,c3,rfl,hl3⟩:=yi h1
 have H:=Mem.start ⟨w0,[]⟩ S
 have H:=H.pA hl
 have H:=H.pA hl2
 have H:=H.pA hl3
 refine en Tryz.func302 fun a hf=>?_
 rw [gbf] at hF
 refine bx hf H fun b' a w hf H=>?_
 refine wl0 rfl (xl hf H rfl rfl (by decide) fun b2 a w hf H=>?_)
 refine pz 2 hf fun a hf=>?_
 refine wr (pz 1 hf fun a hf=>?_)
 refine lB 0 hf H TF.ls3 fun a hf=>?_
 refine wl0 rfl (bl hf H 3 ([r'.Start]:List Int) [(.int .i64 r'.Start)] (el1 (y:=r'.Start) (rfl)) fun A4 a w hf H=>?_)
 refine pz 1 hf fun a hf=>?_
 refine ub (ua (sq (sq ?_)))
 obtain ⟨c4,hGc4,hF⟩:=bs_ hF
 have fh:=hf.prune [2,3,6] rfl
 have Hm:=H.lm 3 1 0 3 7
 refine midF 25 (.bool c4) fh Hm ?_ fun a w hf H=>?_
 refine reg (pz 1 hf fun a hf=>?_)
 refine lB 0 hf H TF.ls3 fun a hf=>?_
 refine pz 1 hf fun a hf=>?_
 refine lB 1 hf H TF.ls24 fun a hf=>?_
 refine pz 2 hf fun a hf=>?_
 obtain ⟨y,hy,hGc4⟩:=bs_ hGc4
 refine oc hf TF.gey (xF (S:=TT) ug ug ug hy) fun v w a hp hf=>?_
 obtain ⟨hb,hp⟩:=hp
 obtain rfl:=uo hp
 have H:=H.keep hb
 refine pz 2 hf fun a hf=>?_
 refine iteB hGc4 (fun hc hGc4=>?_) fun hc hGc4=>?_
 have hf:=hf.lit 20 rfl hc
 refine pz 5 hf fun a hf=>?_
 obtain rfl:=oi hGc4
 have hf:=hf.pn [25,2,3,6]
 have H:=H.lm 3 1 0 3 7
 exact ub ⟨hf,H⟩
 have hf:=hf.lit 20 rfl hc
 refine pz 1 hf fun a hf=>?_
 refine wlg hf rfl rfl rfl (op_q hf (ue hf H TF.ls35 0 rfl rfl rfl) rfl (by decide) fun a hf=>?_)
 refine pz 3 hf fun a hf=>?_
 obtain rfl:=oi hGc4
 have hf:=hf.pn [25,2,3,6]
 have H:=H.lm 3 1 0 3 7
 exact ub ⟨hf,H⟩
 refine ua (ib hF hf (fun hc2 hF=>?_) fun hc2 hF=>?_)
 refine sqz (pz 3 hf fun a hf=>?_)
 refine ub (ua (wp_ret (uf (?_))))
 have H:=H.rowOwn 0 rfl rfl
 obtain ⟨F,H⟩:=H.freezeOwn 0 rfl
 have H:=H.lend 0 rfl
 obtain rfl:=oi hF
 refine vL hf rfl (uE hf rfl) (uE hf rfl) ?_
 have hN:=H.ends1
 exact ⟨_,rfl,H.bel,F,_,_,rfl,(xE (H.ownAt 0 rfl)),uk,by first | exact hN | simpa using hN⟩
 refine wp_skip (ua (sq (sqz (pz 1 hf fun a hf=>?_))))
 refine ub (ua ?_)
 obtain ⟨out2,hB1,hF⟩:=bs_ hF
 have hf:=hf.pn [2,3,6,7]
 have H:=H.lm 3 1 0 3 7
 refine vU (fun (s:List Int×Int) (a:Act) (w:World)=>match s with | (out',i)=>∃ (A5:Option Addr) (c5:Nat) (E:Go.TypeId),Fr a 72 [(2,(.pointer (some ⟨b',0,none⟩))),(3,(.pointer (some ⟨b2,0,none⟩))),(6,(.slice A5 out'.length c5)),(7,(.int .i64 i))]∧Mem ⟨w0,[]⟩ S [⟨b2,45,[(.int .i64 r'.Start),(.slice A3 r'.Fibers.length c3)]⟩,⟨b',27,[(.slice A n'.Nodes.length c),(.slice A2 n'.Fibers.length c2)]⟩] [⟨.sh true,E,A5,c5,(out':List Int)⟩] [] [(false,MP.val [(.slice A3 r'.Fibers.length c3)] (r'.Fibers:List Int)),(false,MP.val [(.slice A2 n'.Fibers.length c2)] (n'.Fibers:List Fiber)),(false,MP.val [(.slice A n'.Nodes.length c)] (n'.Nodes:List ByteArray))] w) (fun k (s:List Int×Int)=>yN fu n' r' k s.1 s.2=some out2) (fun s=>out2=Out.next s) ([r'.Start],0) fu hB1 ⟨A4,1,3,hf,H⟩ (fun s h=>by cases h) ?_ ?_
 rintro fk ⟨out',i⟩ a w hR1 hI
 replace hR1:yN fu n' r' (fk + 1) out' i=some out2:=hR1
 rw [yN] at hR1
 obtain ⟨A5,c5,E,hf,H⟩:=hI
 refine sq (sqz (pz 2 hf fun a hf=>?_))
 refine lB 0 hf H TF.ls35 fun a hf=>?_
 refine pz 2 hf fun a hf=>?_
 refine ub (ua (ib hR1 hf (fun hc3 hR1=>?_) fun hc3 hR1=>?_))
 refine wp_skip (ua (sq (wp_block (sq (sq (dw [] 11 fun w hb=>?_))))))
 have H:=H.keep hb
 refine zp 0 hf trivial fun a hf=>?_
 refine strT (H.lk 1 0 0 []) (fun w H=>trivial) fun hS=>?_
 refine zS 1 [] rfl rfl rfl rfl hf hS (fun w H=>ue hf H TF.ls35 0 rfl rfl rfl) fun a hf=>?_
 refine zp 2 hf hS fun a hf=>?_
 obtain ⟨e,he,hR1⟩:=bs_ hR1
 obtain ⟨p,o,cs,hx,hr,H⟩:=ux H Tryz.underlying35 TF.sz3 0 rfl he
 refine zP 3 rfl rfl rfl rfl hf hS (fun w=>uu hf rfl rfl rfl hx w) fun a hf=>?_
 obtain rfl:=hr
 refine strT (H.lk 1 0 0 [0]) (fun w H=>H.lk 1 0 0 []) fun hS=>?_
 refine zS 4 [] rfl rfl rfl rfl hf hS (fun w H=>uI hf H TF.ls3 0 0 rfl rfl rfl) fun a hf=>?_
 refine zp 5 hf hS fun a hf=>?_
 refine strT (H.lk 3 0 0 [0]) (fun w H=>H.lk 1 0 0 [0]) fun hS=>?_
 refine zS 6 [] rfl rfl rfl rfl hf hS (fun w H=>ue hf H TF.ls25 1 rfl rfl rfl) fun a hf=>?_
 refine zp 7 hf hS fun a hf=>?_
 refine zp 8 hf hS fun a hf=>?_
 obtain ⟨y2,hy2,hR1⟩:=bs_ hR1
 refine nn 9 rfl (oC hf TF.gey (xF (S:=TT) ug ug ug hy2) fun v2 w a hp2 hf=>?_)
 obtain ⟨hb2,hp2⟩:=hp2
 obtain rfl:=uo hp2
 have H:=H.keep hb2
 have hS:=H.lk 3 0 0 [0]
 refine aS hS ?_
 refine zp 10 hf hS fun a hf=>?_
 refine dk ?_
 have hf:=hf.pn [2,3,6,7,44]
 refine ua (ib hR1 hf (fun hc4 hR1=>?_) fun hc4 hR1=>?_)
 refine sqz (pz 3 hf fun a hf=>?_)
 refine ub (ua (wp_ret (uf (u9 (uf (uf (u9 (uf (uf (?_))))))))))
 have H:=H.rowOwn 0 rfl rfl
 obtain ⟨F2,H⟩:=H.freezeOwn 0 rfl
 have H:=H.lend 0 rfl
 obtain rfl:=oi hR1
 replace hF:=xc hF
 obtain rfl:=oi hF
 refine vL hf rfl (uE hf rfl) (uE hf rfl) ?_
 have hN:=H.ends1
 exact ⟨_,rfl,H.bel,F2,_,_,rfl,(xE (H.ownAt 0 rfl)),uk,by first | exact hN | simpa using hN⟩
 refine wp_skip (ua (sq (dw [] 14 fun w hb=>?_)))
 have H:=H.keep hb
 refine strT (H.lk 2 0 0 []) (fun w H=>trivial) fun hS=>?_
 refine zS 0 [] rfl rfl rfl rfl hf hS (fun w H=>ul hf H TF.la27 0 rfl rfl rfl rfl) fun a hf=>?_
 refine zp 1 hf hS fun a hf=>?_
 refine strT (H.lk 3 0 0 []) (fun w H=>H.lk 2 0 0 []) fun hS=>?_
 refine zS 2 [] rfl rfl rfl rfl hf hS (fun w H=>ue hf H TF.ls35 0 rfl rfl rfl) fun a hf=>?_
 refine zp 3 hf hS fun a hf=>?_
 obtain ⟨e2,he2,hR1⟩:=bs_ hR1
 obtain ⟨p2,o2,cs2,hx2,hr2,H⟩:=ux H Tryz.underlying35 TF.sz3 1 rfl he2
 refine zP 4 rfl rfl rfl rfl hf hS (fun w=>uu hf rfl rfl rfl hx2 w) fun a hf=>?_
 obtain rfl:=hr2
 refine strT (H.lk 3 0 0 [0]) (fun w H=>H.lk 3 0 0 []) fun hS=>?_
 refine zS 5 [] rfl rfl rfl rfl hf hS (fun w H=>uI hf H TF.ls3 0 0 rfl rfl rfl) fun a hf=>?_
 refine zp 6 hf hS fun a hf=>?_
 refine zp 7 hf hS fun a hf=>?_
 refine zp 8 hf hS fun a hf=>?_
 refine zp 9 hf hS fun a hf=>?_
 obtain ⟨e3,he3,hR1⟩:=bs_ hR1
 obtain ⟨p3,o3,hA,hx3⟩:=zM H Tryz.underlying35 TF.sz3 0 rfl he3
 refine zP 10 rfl rfl rfl rfl hf hS (fun w=>uu hf rfl rfl rfl hx3 w) fun a hf=>?_
 refine strT (H.lk 3 1 0 [0]) (fun w H=>H.lk 3 0 0 [0]) fun hS=>?_
 refine zS 11 [] rfl rfl rfl rfl hf hS (fun w H=>gaz (off:=0) hf H TF.ls3 0 rfl rfl hA he3 (fun w T cs h=>by obtain rfl:=h; rfl)) fun a hf=>?_
 obtain ⟨y3,hy3,hR1⟩:=bs_ hR1
 refine nn 12 rfl (oC hf TF.gkE (gbk (S:=TT) (uY (x:=n') (H.rt 4 rfl) (H.rt 3 rfl)) ug ug hy3) fun v3 w a hp3 hf=>?_)
 obtain ⟨hb3,hp3⟩:=hp3
 obtain rfl:=uv hp3
 have H:=H.keep hb3
 have hS:=H.lk 3 1 0 [0]
 refine aS hS ?_
 refine zp 13 hf hS fun a hf=>?_
 refine dk ?_
 have hf:=hf.pn [2,3,6,7,8]
 refine ua (sq (sq ?_))
 obtain ⟨c6,hGc6,hR1⟩:=bs_ hR1
 have fh2:=hf.prune [2,3,6,7,8] rfl
 have Hm2:=H.lm 3 1 0 5 28
 refine midF 65 (.bool c6) fh2 Hm2 ?_ fun a w hf H=>?_
 refine reg (pz 3 hf fun a hf=>?_)
 refine iteB hGc6 (fun hc5 hGc6=>?_) fun hc5 hGc6=>?_
 have hf:=hf.lit 61 rfl hc5
 refine pz 4 hf fun a hf=>?_
 obtain rfl:=oi hGc6
 have hf:=hf.pn [65,2,3,6,7,8]
 have H:=H.lm 3 1 0 5 28
 exact ub ⟨hf,H⟩
 have hf:=hf.lit 61 rfl hc5
 refine pz 2 hf fun a hf=>?_
 obtain ⟨y4,hy4,hGc6⟩:=bs_ hGc6
 refine wlg hf rfl rfl rfl (oC hf TF.gjE (ga3 (S:=TT) (uB (H.rowTrue 0 rfl)) ug hy4) fun v4 w a hp4 hf=>?_)
 obtain ⟨hb4,hp4⟩:=hp4
 obtain rfl:=uo hp4
 have H:=H.keep hb4
 refine pz 1 hf fun a hf=>?_
 obtain rfl:=oi hGc6
 have hf:=hf.pn [65,2,3,6,7,8]
 have H:=H.lm 3 1 0 5 28
 exact ub ⟨hf,H⟩
 refine ua (ib hR1 hf (fun hc6 hR1=>?_) fun hc6 hR1=>?_)
 refine sqz (pz 3 hf fun a hf=>?_)
 refine ub (ua (wp_ret (uf (u9 (uf (uf (u9 (uf (uf (?_))))))))))
 have H:=H.rowOwn 0 rfl rfl
 obtain ⟨F3,H⟩:=H.freezeOwn 0 rfl
 have H:=H.lend 0 rfl
 obtain rfl:=oi hR1
 replace hF:=xc hF
 obtain rfl:=oi hF
 refine vL hf rfl (uE hf rfl) (uE hf rfl) ?_
 have hN:=H.ends1
 exact ⟨_,rfl,H.bel,F3,_,_,rfl,(xE (H.ownAt 0 rfl)),uk,by first | exact hN | simpa using hN⟩
 refine wp_skip (ua (reg (pz 2 hf fun a hf=>?_)))
 refine wl0 rfl (bl hf H 3 ([y3]:List Int) [(.int .i64 y3)] (el1 (y:=y3) (rfl)) fun A6 a w hf H=>?_)
 obtain ⟨l,hl_,hR1⟩:=bs_ hR1
 refine wl0 rfl (xg hf H Tryz.underlying35 TF.ai3 rfl (by decide) 1 0 rfl rfl rfl rfl (.inr rfl) hl_ (by decide) fun E2 A7 c7 a w hf H=>?_)
 refine pz 1 hf fun a hf=>?_
 refine ub (uV (ua (reg (pz 3 hf fun a hf=>?_))))
 refine ub ?_
 have hf:=hf.pn [2,3,6,7]
 have H:=H.lm 3 2 0 3 7
 exact ua ⟨(l,w64 (i + 1)),hR1,A7,c7,E2,hf,H⟩
 refine wp_exit (uy (uy (vJ (?_))))
 have hf:=hf.pn [2,3,6,7]
 have H:=H.lm 3 1 0 3 7
 exact ⟨(out',i),(Option.some.inj hR1).symm,A5,c5,E,hf,H⟩
 rintro a w ⟨⟨out3,i2⟩,rfl,A8,c8,E3,hf,H⟩
 replace hF:=vG hF
 try dsimp only at hF
 refine ua (sqz (pz 3 hf fun a hf=>?_))
 refine wer ?_
 have H:=H.rowOwn 0 rfl rfl
 obtain ⟨F4,H⟩:=H.freezeOwn 0 rfl
 have H:=H.lend 0 rfl
 obtain rfl:=oi hF
 refine vL hf rfl (uE hf rfl) (uE hf rfl) ?_
 have hN:=H.ends1
 exact ⟨_,rfl,H.bel,F4,_,_,rfl,(xE (H.ownAt 0 rfl)),uk,by first | exact hN | simpa using hN⟩
theorem geK {S:Nat→Prop} {v0_:Value} {v1_:Value} {n':Network} {r':Route} {r:Bool} (h0:VR w0 S v0_ n') (h1:VR w0 S v1_ r') (hF:gbi fu n' r'=some r) :
    Calls Tryz.prog 261 [v0_,v1_].toArray w0 fun e w'=>∃ v,e=.returned v∧(Below w0.heap.size w0 w'∧VR w' (St ⟨w0,[]⟩ S [] [] [] true) v r):=by
 obtain ⟨A,c,A2,c2,rfl,hl,hl2⟩:=vA h0
 obtain ⟨A3,c3,rfl,hl3⟩:=yi h1
 have H:=Mem.start ⟨w0,[]⟩ S
 have H:=H.pA hl
 have H:=H.pA hl2
 have H:=H.pA hl3
 refine en Tryz.func261 fun a hf=>?_
 rw [gbi] at hF
 refine bx hf H fun b' a w hf H=>?_
 refine wl0 rfl (xl hf H rfl rfl (by decide) fun b2 a w hf H=>?_)
 refine pz 1 hf fun a hf=>?_
 refine ub (ua (sq (sq (reg (lN 1 hf H TF.la27 fun a hf=>?_)))))
 obtain ⟨y,hy,hF⟩:=bs_ hF
 refine oc hf TF.glp (gcE (S:=TT) (uY (x:=n') (H.rt 2 rfl) (H.rt 1 rfl)) hy) fun v w a hp hf=>?_
 obtain ⟨hb,hp⟩:=hp
 obtain rfl:=uo hp
 have H:=H.keep hb
 refine pz 1 hf fun a hf=>?_
 refine ub (ua (ib hF hf (fun hc hF=>?_) fun hc hF=>?_))
 refine sqz (pz 1 hf fun a hf=>?_)
 refine ub (ua (wp_ret (uf (?_))))
 obtain rfl:=oi hF
 refine rT hf ?_
 exact ⟨_,rfl,H.bel,uk⟩
 refine wp_skip (ua (sq (reg (lN 1 hf H TF.la27 fun a hf=>?_))))
 refine lN 0 hf H TF.la45 fun a hf=>?_
 obtain ⟨y2,hy2,hF⟩:=bs_ hF
 refine oc hf TF.glL (geI (S:=TT) (uY (x:=n') (H.rt 2 rfl) (H.rt 1 rfl)) (xk (x:=r') (H.rt 0 rfl)) hy2) fun v2 w a hp2 hf=>?_
 obtain ⟨hb2,F,v3,v4,rfl,hp3,hp4,hN⟩:=hp2
 obtain ⟨A4,c4,rfl,hl4⟩:=xP hp3
 obtain rfl:=uo hp4
 have H:=H.aO1 hb2 hN hl4
 have H:=H.lend 0 rfl
 refine pz 5 hf fun a hf=>?_
 have hf:=hf.pn [6]
 refine wr (pz 2 hf fun a hf=>?_)
 refine wer ?_
 obtain rfl:=oi hF
 refine rT hf ?_
 exact ⟨_,rfl,H.bel,uk⟩
theorem geG {S:Nat→Prop} {v0_:Value} {b':Block} {r:Bool} (h0:VR w0 S v0_ b') (hF:gbd fu b'=some r) :
    Calls Tryz.prog 262 [v0_].toArray w0 fun e w'=>∃ v,e=.returned v∧(Below w0.heap.size w0 w'∧VR w' (St ⟨w0,[]⟩ S [] [] [] true) v r):=by
 obtain rfl:=yj h0
 have H:=Mem.start ⟨w0,[]⟩ S
 refine en Tryz.func262 fun a hf=>?_
 rw [gbd] at hF
 refine bx hf H fun b2 a w hf H=>?_
 refine pz 1 hf fun a hf=>?_
 refine ub (ua (sq ?_))
 obtain ⟨c,hGc,hF⟩:=bs_ hF
 have fh:=hf.prune [] rfl
 have Hm:=H.lk 0 0 0 []
 refine midF 2 (.bool c) fh Hm ?_ fun a w hf H=>?_
 refine reg (pz 1 hf fun a hf=>?_)
 refine lB 0 hf H TF.ls3 fun a hf=>?_
 obtain ⟨y,hy,hGc⟩:=bs_ hGc
 refine oc hf TF.gey (xF (S:=TT) ug ug ug hy) fun v w a hp hf=>?_
 obtain ⟨hb,hp⟩:=hp
 obtain rfl:=uo hp
 have H:=H.keep hb
 refine pz 1 hf fun a hf=>?_
 refine iteB hGc (fun hc hGc=>?_) fun hc hGc=>?_
 have hf:=hf.lit 6 rfl hc
 refine pz 1 hf fun a hf=>?_
 refine wlg hf rfl rfl rfl (op_q hf (ue hf H TF.ls3 0 rfl rfl rfl) rfl (by decide) fun a hf=>?_)
 refine pz 1 hf fun a hf=>?_
 refine wlg hf rfl rfl rfl (op_q hf (ue hf H TF.ls3 0 rfl rfl rfl) rfl (by decide) fun a hf=>?_)
 refine pz 1 hf fun a hf=>?_
 obtain ⟨y2,hy2,hGc⟩:=bs_ hGc
 refine wlg hf rfl rfl rfl (oC hf TF.gey (xF (S:=TT) ug ug ug hy2) fun v2 w a hp2 hf=>?_)
 obtain ⟨hb2,hp2⟩:=hp2
 obtain rfl:=uo hp2
 have H:=H.keep hb2
 refine pz 2 hf fun a hf=>?_
 obtain rfl:=oi hGc
 have hf:=hf.pn [2]
 have H:=H.lk 0 0 0 []
 exact ub ⟨hf,H⟩
 have hf:=hf.lit 6 rfl hc
 refine pz 8 hf fun a hf=>?_
 obtain rfl:=oi hGc
 have hf:=hf.pn [2]
 have H:=H.lk 0 0 0 []
 exact ub ⟨hf,H⟩
 refine ua (wp_ret (?_))
 obtain rfl:=oi hF
 refine rT hf ?_
 exact ⟨_,rfl,H.bel,uk⟩
theorem gee {S:Nat→Prop} {v0_:Value} {v1_:Value} {n':Network} {x1:Light} {r:Bool} (h0:VR w0 S v0_ n') (h1:VR w0 S v1_ x1) (hF:gaK fu n' x1=some r) :
    Calls Tryz.prog 198 [v0_,v1_].toArray w0 fun e w'=>∃ v,e=.returned v∧(Below w0.heap.size w0 w'∧VR w' (St ⟨w0,[]⟩ S [] [] [] true) v r):=by
 obtain ⟨A,c,A2,c2,rfl,hl,hl2⟩:=vA h0
 obtain ⟨A3,c3,rfl,hl3⟩:=vK h1
 have H:=Mem.start ⟨w0,[]⟩ S
 have H:=H.pA hl
 have H:=H.pA hl2
 have H:=H.pA hl3
 refine en Tryz.func198 fun a hf=>?_
 rw [gaK] at hF
 refine bx hf H fun b' a w hf H=>?_
 refine wl0 rfl (xl hf H rfl rfl (by decide) fun b2 a w hf H=>?_)
 refine pz 1 hf fun a hf=>?_
 refine ub (ua (sq ?_))
 obtain ⟨c4,hGc4,hF⟩:=bs_ hF
 have fh:=hf.prune [] rfl
 have Hm:=H.lk 0 0 0 []
 refine midF 4 (.bool c4) fh Hm ?_ fun a w hf H=>?_
 refine reg (pz 1 hf fun a hf=>?_)
 refine lB 0 hf H TF.ls3 fun a hf=>?_
 obtain ⟨y,hy,hGc4⟩:=bs_ hGc4
 refine oc hf TF.gey (xF (S:=TT) ug ug ug hy) fun v w a hp hf=>?_
 obtain ⟨hb,hp⟩:=hp
 obtain rfl:=uo hp
 have H:=H.keep hb
 refine pz 1 hf fun a hf=>?_
 refine iteB hGc4 (fun hc hGc4=>?_) fun hc hGc4=>?_
 have hf:=hf.lit 8 rfl hc
 refine wlg hf rfl rfl rfl (op_q hf (ul hf H TF.la27 1 rfl rfl rfl rfl) rfl (by decide) fun a hf=>?_)
 refine pz 1 hf fun a hf=>?_
 refine wlg hf rfl rfl rfl (op_q hf (ul hf H TF.la45 0 rfl rfl rfl rfl) rfl (by decide) fun a hf=>?_)
 obtain ⟨y2,hy2,hGc4⟩:=bs_ hGc4
 refine wlg hf rfl rfl rfl (oC hf TF.glR (geK (S:=TT) (uY (x:=n') (H.rt 2 rfl) (H.rt 1 rfl)) (xk (x:=x1.Route) (H.rt 0 rfl)) hy2) fun v2 w a hp2 hf=>?_)
 obtain ⟨hb2,hp2⟩:=hp2
 obtain rfl:=uo hp2
 have H:=H.keep hb2
 refine pz 2 hf fun a hf=>?_
 refine iteB hGc4 (fun hc2 hGc4=>?_) fun hc2 hGc4=>?_
 have hf:=hf.lit 14 rfl hc2
 refine pz 1 hf fun a hf=>?_
 refine wlg hf rfl rfl rfl (op_q hf (ul hf H TF.la47 0 rfl rfl rfl rfl) rfl (by decide) fun a hf=>?_)
 obtain ⟨y3,hy3,hGc4⟩:=bs_ hGc4
 refine wlg hf rfl rfl rfl (oC hf TF.glQ (geG (S:=TT) zb hy3) fun v3 w a hp3 hf=>?_)
 obtain ⟨hb3,hp3⟩:=hp3
 obtain rfl:=uo hp3
 have H:=H.keep hb3
 refine pz 2 hf fun a hf=>?_
 obtain rfl:=oi hGc4
 have hf:=hf.pn [4]
 have H:=H.lk 0 0 0 []
 exact ub ⟨hf,H⟩
 have hf:=hf.lit 14 rfl hc2
 refine pz 5 hf fun a hf=>?_
 obtain rfl:=oi hGc4
 have hf:=hf.pn [4]
 have H:=H.lk 0 0 0 []
 exact ub ⟨hf,H⟩
 have hf:=hf.lit 8 rfl hc
 refine pz 11 hf fun a hf=>?_
 obtain rfl:=oi hGc4
 have hf:=hf.pn [4]
 have H:=H.lk 0 0 0 []
 exact ub ⟨hf,H⟩
 refine ua (wp_ret (?_))
 obtain rfl:=oi hF
 refine rT hf ?_
 exact ⟨_,rfl,H.bel,uk⟩
theorem geJ {S:Nat→Prop} {v0_:Value} {v1_:Value} {r':Route} {group:List Int} {r:Bool} (h0:VR w0 S v0_ r') (h1:VR w0 S v1_ group) (hF:gbg fu r' group=some r) :
    Calls Tryz.prog 174 [v0_,v1_].toArray w0 fun e w'=>∃ v,e=.returned v∧(Below w0.heap.size w0 w'∧VR w' (St ⟨w0,[]⟩ S [] [] [] true) v r):=by
 obtain ⟨A,c,rfl,hl⟩:=yi h0
 obtain ⟨A2,c2,rfl,hl2⟩:=u4 h1
 have H:=Mem.start ⟨w0,[]⟩ S
 have H:=H.pA hl
 have H:=H.pA hl2
 refine en Tryz.func174 fun a hf=>?_
 rw [gbg] at hF
 refine bx hf H fun b' a w hf H=>?_
 refine pz 1 hf fun a hf=>?_
 refine we (sqz (pz 1 hf fun a hf=>?_))
 refine ub (ua ?_)
 obtain ⟨out',hB1,hF⟩:=bs_ hF
 have hf:=hf.pn [1,2,5]
 have H:=H.lk 1 0 0 [0,1]
 refine vU (fun (s:Int) (a:Act) (w:World)=>match s with | i=>Fr a 20 [(1,(.slice A2 group.length c2)),(2,(.pointer (some ⟨b',0,none⟩))),(5,(.int .i64 i))]∧Mem ⟨w0,[]⟩ S [⟨b',45,[(.int .i64 r'.Start),(.slice A r'.Fibers.length c)]⟩] [] [] [(false,MP.val [(.slice A2 group.length c2)] (group:List Int)),(false,MP.val [(.slice A r'.Fibers.length c)] (r'.Fibers:List Int))] w) (fun k (s:Int)=>x6 fu r' group k s=some out') (fun s=>out'=Out.next s) 0 fu hB1 ⟨hf,H⟩ (fun s h=>by cases h) ?_ ?_
 rintro fk i a w hR1 hI
 replace hR1:x6 fu r' group (fk + 1) i=some out':=hR1
 rw [x6] at hR1
 obtain ⟨hf,H⟩:=hI
 refine sq (sqz (pz 2 hf fun a hf=>?_))
 refine lB 0 hf H TF.ls35 fun a hf=>?_
 refine pz 2 hf fun a hf=>?_
 refine ub (ua (ib hR1 hf (fun hc hR1=>?_) fun hc hR1=>?_))
 refine ws (pz 2 hf fun a hf=>?_)
 refine lB 0 hf H TF.ls35 fun a hf=>?_
 refine pz 1 hf fun a hf=>?_
 obtain ⟨e,he,hR1⟩:=bs_ hR1
 refine wl0 rfl (vn hf H Tryz.underlying35 TF.sz3 1 rfl rfl rfl he (by decide) fun p o cs a hf hr H=>?_)
 obtain rfl:=hr
 refine oq hf (uI hf H TF.ls3 0 0 rfl rfl rfl) fun a hf=>?_
 obtain ⟨y,hy,hR1⟩:=bs_ hR1
 refine oc hf TF.gjE (ga3 (S:=TT) (uB (H.rt 1 rfl)) ug hy) fun v w a hp hf=>?_
 obtain ⟨hb,hp⟩:=hp
 obtain rfl:=uo hp
 have H:=H.keep hb
 refine ub (ua (ib hR1 hf (fun hc2 hR1=>?_) fun hc2 hR1=>?_))
 refine sqz (pz 1 hf fun a hf=>?_)
 have hf:=hf.pn [4]
 refine ub (ua (wp_ret (u9 (uf (uf (u9 (uf (uf (?_)))))))))
 obtain rfl:=oi hR1
 replace hF:=xc hF
 obtain rfl:=oi hF
 refine rT hf ?_
 exact ⟨_,rfl,H.bel,uk⟩
 refine wp_skip (uV (ua (reg (pz 3 hf fun a hf=>?_))))
 have hf:=hf.pn [1,2,5]
 refine ub ?_
 have hf:=hf.pn [1,2,5]
 have H:=H.lk 1 0 0 [1,2]
 exact ua ⟨w64 (i + 1),hR1,hf,H⟩
 refine wp_exit (uy (uy (vJ (?_))))
 have hf:=hf.pn [1,2,5]
 have H:=H.lk 1 0 0 [0,1]
 exact ⟨i,(Option.some.inj hR1).symm,hf,H⟩
 rintro a w ⟨i2,rfl,hf,H⟩
 replace hF:=vG hF
 refine ua (sqz (pz 1 hf fun a hf=>?_))
 refine wer ?_
 obtain rfl:=oi hF
 refine rT hf ?_
 exact ⟨_,rfl,H.bel,uk⟩
theorem gdu {S:Nat→Prop} {v0_:Value} {v1_:Value} {x1:Light} {y:Light} {r:Bool} (h0:VR w0 S v0_ x1) (h1:VR w0 S v1_ y) (hF:zT fu x1 y=some r) :
    Calls Tryz.prog 199 [v0_,v1_].toArray w0 fun e w'=>∃ v,e=.returned v∧(Below w0.heap.size w0 w'∧VR w' (St ⟨w0,[]⟩ S [] [] [] true) v r):=by
 obtain ⟨A,c,rfl,hl⟩:=vK h0
 obtain ⟨A2,c2,rfl,hl2⟩:=vK h1
 have H:=Mem.start ⟨w0,[]⟩ S
 have H:=H.pA hl
 have H:=H.pA hl2
 refine en Tryz.func199 fun a hf=>?_
 rw [zT] at hF
 refine bx hf H fun b' a w hf H=>?_
 refine wl0 rfl (xl hf H rfl rfl (by decide) fun b2 a w hf H=>?_)
 refine pz 1 hf fun a hf=>?_
 refine ub (ua (sq ?_))
 obtain ⟨c3,hGc3,hF⟩:=bs_ hF
 have fh:=hf.prune [] rfl
 have Hm:=H.lk 0 0 0 []
 refine midF 4 (.bool c3) fh Hm ?_ fun a w hf H=>?_
 refine dw [] 17 fun w hb=>?_
 have H:=H.keep hb
 refine zp 0 hf trivial fun a hf=>?_
 refine strT (H.lk 2 0 0 []) (fun w H=>trivial) fun hS=>?_
 refine zS 1 [] rfl rfl rfl rfl hf hS (fun w H=>ul hf H TF.la45 0 rfl rfl rfl rfl) fun a hf=>?_
 refine zp 2 hf hS fun a hf=>?_
 refine zp 3 hf hS fun a hf=>?_
 refine strT (H.lk 3 0 0 []) (fun w H=>H.lk 2 0 0 []) fun hS=>?_
 refine zS 4 [] rfl rfl rfl rfl hf hS (fun w H=>ue hf H TF.ls35 0 rfl rfl rfl) fun a hf=>?_
 obtain ⟨y2,hy2,hGc3⟩:=bs_ hGc3
 refine nn 5 rfl (oC hf TF.gmf (geJ (S:=TT) (xk (x:=x1.Route) (H.rt 1 rfl)) (uB (H.rt 0 rfl)) hy2) fun v w a hp hf=>?_)
 obtain ⟨hb,hp⟩:=hp
 obtain rfl:=uo hp
 have H:=H.keep hb
 have hS:=H.lk 3 0 0 []
 refine aS hS ?_
 refine zp 6 hf hS fun a hf=>?_
 refine iteB hGc3 (fun hc hGc3=>?_) fun hc hGc3=>?_
 have hf:=hf.lit 11 rfl hc
 refine zg 7 hf hS fun a hf=>?_
 refine tSg 8 [] rfl rfl rfl rfl rfl rfl hf (by kernel_rfl) (by kernel_rfl) hS (fun w H=>ul hf H TF.la47 1 rfl rfl rfl rfl) fun a hf=>?_
 refine zg 10 hf hS fun a hf=>?_
 refine tSg 11 [] rfl rfl rfl rfl rfl rfl hf (by kernel_rfl) (by kernel_rfl) hS (fun w H=>ul hf H TF.la47 0 rfl rfl rfl rfl) fun a hf=>?_
 obtain ⟨y3,hy3,hGc3⟩:=bs_ hGc3
 refine n1g 9 (by kernel_rfl) rfl rfl rfl rfl hf (oC hf TF.gjD (gaG (S:=TT) zb hy3) fun v2 w a hp2 hf=>?_)
 obtain ⟨hb2,hp2⟩:=hp2
 obtain rfl:=uv hp2
 have H:=H.keep hb2
 have hS:=H.lk 3 0 0 []
 refine aS hS ?_
 obtain ⟨y4,hy4,hGc3⟩:=bs_ hGc3
 refine n1g 12 (by kernel_rfl) rfl rfl rfl rfl hf (oC hf TF.gjD (gaG (S:=TT) zb hy4) fun v3 w a hp3 hf=>?_)
 obtain ⟨hb3,hp3⟩:=hp3
 obtain rfl:=uv hp3
 have H:=H.keep hb3
 have hS:=H.lk 3 0 0 []
 refine aS hS ?_
 refine zg 13 hf hS fun a hf=>?_
 refine zg 14 hf hS fun a hf=>?_
 refine zp 15 hf hS fun a hf=>?_
 refine zp 16 hf hS fun a hf=>?_
 refine dk ?_
 obtain rfl:=oi hGc3
 have hf:=hf.pn [4]
 have H:=H.lk 0 0 0 []
 exact ⟨hf,H⟩
 have hf:=hf.lit 11 rfl hc
 refine zU 7 hf hS fun a hf=>?_
 refine zU 8 hf hS fun a hf=>?_
 refine zU 9 hf hS fun a hf=>?_
 refine zU 10 hf hS fun a hf=>?_
 refine zU 11 hf hS fun a hf=>?_
 refine zU 12 hf hS fun a hf=>?_
 refine zU 13 hf hS fun a hf=>?_
 refine zU 14 hf hS fun a hf=>?_
 refine zp 15 hf hS fun a hf=>?_
 refine zp 16 hf hS fun a hf=>?_
 refine dk ?_
 obtain rfl:=oi hGc3
 have hf:=hf.pn [4]
 have H:=H.lk 0 0 0 []
 exact ⟨hf,H⟩
 refine ua (wp_ret (?_))
 obtain rfl:=oi hF
 refine rT hf ?_
 exact ⟨_,rfl,H.bel,uk⟩
theorem xA {S:Nat→Prop} {v0_:Value} {p:Plan} {r:Bool} (h0:VR w0 S v0_ p) (hF:xr fu p=some r) :
    Calls Tryz.prog 106 [v0_].toArray w0 fun e w'=>∃ v,e=.returned v∧(Below w0.heap.size w0 w'∧VR w' (St ⟨w0,[]⟩ S [] [] [] true) v r):=by
 obtain ⟨A,c,A2,c2,A3,c3,rfl,hl,hl2,hl3⟩:=uD h0
 have H:=Mem.start ⟨w0,[]⟩ S
 have H:=H.pA hl
 have H:=H.pA hl2
 have H:=H.pA hl3
 refine en Tryz.func106 fun a hf=>?_
 rw [xr] at hF
 refine bx hf H fun b' a w hf H=>?_
 refine pz 1 hf fun a hf=>?_
 refine ub (ua (sq (sq ?_)))
 obtain ⟨c4,hGc4,hF⟩:=bs_ hF
 have fh:=hf.prune [1] rfl
 have Hm:=H.lm 1 0 0 3 7
 refine midF 14 (.bool c4) fh Hm ?_ fun a w hf H=>?_
 refine reg (pz 1 hf fun a hf=>?_)
 refine lN 0 hf H TF.la27 fun a hf=>?_
 obtain ⟨y,hy,hGc4⟩:=bs_ hGc4
 refine oc hf TF.glp (gcE (S:=TT) (uY (x:=p.Network) (H.rt 2 rfl) (H.rt 1 rfl)) hy) fun v w a hp hf=>?_
 obtain ⟨hb,hp⟩:=hp
 obtain rfl:=uo hp
 have H:=H.keep hb
 refine pz 2 hf fun a hf=>?_
 refine iteB hGc4 (fun hc hGc4=>?_) fun hc hGc4=>?_
 have hf:=hf.lit 9 rfl hc
 refine pz 5 hf fun a hf=>?_
 obtain rfl:=oi hGc4
 have hf:=hf.pn [14,1]
 have H:=H.lm 1 0 0 3 7
 exact ub ⟨hf,H⟩
 have hf:=hf.lit 9 rfl hc
 refine pz 1 hf fun a hf=>?_
 refine wlg hf rfl rfl rfl (op_q hf (ue hf H TF.ls28 0 rfl rfl rfl) rfl (by decide) fun a hf=>?_)
 refine pz 3 hf fun a hf=>?_
 obtain rfl:=oi hGc4
 have hf:=hf.pn [14,1]
 have H:=H.lm 1 0 0 3 7
 exact ub ⟨hf,H⟩
 refine ua (ib hF hf (fun hc2 hF=>?_) fun hc2 hF=>?_)
 refine sqz (pz 1 hf fun a hf=>?_)
 refine ub (ua (wp_ret (uf (?_))))
 obtain rfl:=oi hF
 refine rT hf ?_
 exact ⟨_,rfl,H.bel,uk⟩
 refine wp_skip (ua (sq (sqz (pz 1 hf fun a hf=>?_))))
 refine ub (ua ?_)
 obtain ⟨out',hB1,hF⟩:=bs_ hF
 have hf:=hf.pn [1,3]
 have H:=H.lm 1 0 0 3 7
 refine vU (fun (s:Int) (a:Act) (w:World)=>match s with | i=>Fr a 67 [(1,(.pointer (some ⟨b',0,none⟩))),(3,(.int .i64 i))]∧Mem ⟨w0,[]⟩ S [⟨b',30,[(.slice A p.Network.Nodes.length c),(.slice A2 p.Network.Fibers.length c2),(.slice A3 p.Lights.length c3)]⟩] [] [] [(false,MP.val [(.slice A3 p.Lights.length c3)] (p.Lights:List Light)),(false,MP.val [(.slice A2 p.Network.Fibers.length c2)] (p.Network.Fibers:List Fiber)),(false,MP.val [(.slice A p.Network.Nodes.length c)] (p.Network.Nodes:List ByteArray))] w) (fun k (s:Int)=>x2 fu p k s=some out') (fun s=>out'=Out.next s) 0 fu hB1 ⟨hf,H⟩ (fun s h=>by cases h) ?_ ?_
 rintro fk i a w hR1 hI
 replace hR1:x2 fu p (fk + 1) i=some out':=hR1
 rw [x2] at hR1
 obtain ⟨hf,H⟩:=hI
 refine sq (sqz (pz 2 hf fun a hf=>?_))
 refine lB 0 hf H TF.ls28 fun a hf=>?_
 refine pz 2 hf fun a hf=>?_
 refine ub (ua (ib hR1 hf (fun hc3 hR1=>?_) fun hc3 hR1=>?_))
 refine wp_skip (ua (sq (wp_block (sq (sq ?_)))))
 obtain ⟨c5,hGc5,hR1⟩:=bs_ hR1
 have fh2:=hf.prune [1,3] rfl
 have Hm2:=H.lm 1 0 0 3 7
 refine midF 50 (.bool c5) fh2 Hm2 ?_ fun a w hf H=>?_
 refine dw [] 29 fun w hb=>?_
 have H:=H.keep hb
 refine zp 0 hf trivial fun a hf=>?_
 refine strT (H.lk 1 0 0 []) (fun w H=>trivial) fun hS=>?_
 refine zS 1 [] rfl rfl rfl rfl hf hS (fun w H=>ul hf H TF.la27 0 rfl rfl rfl rfl) fun a hf=>?_
 refine zp 2 hf hS fun a hf=>?_
 refine zS 3 [] rfl rfl rfl rfl hf hS (fun w H=>ue hf H TF.ls28 0 rfl rfl rfl) fun a hf=>?_
 refine zp 4 hf hS fun a hf=>?_
 obtain ⟨e,he,hGc5⟩:=bs_ hGc5
 obtain ⟨p2,o,cs,hx,hr,H⟩:=ux H Tryz.underlying28 TF.sz49 0 rfl he
 refine zP 5 rfl rfl rfl rfl hf hS (fun w=>uu hf rfl rfl rfl hx w) fun a hf=>?_
 obtain ⟨A4,c6,rfl,hl4⟩:=uq hr
 have H:=H.pF hl4
 refine strT (H.lk 1 0 0 [1]) (fun w H=>H.lk 1 0 0 []) fun hS=>?_
 refine zS 6 [] rfl rfl rfl rfl hf hS (fun w H=>uz hf H TF.la49 0 0 rfl rfl rfl rfl) fun a hf=>?_
 obtain ⟨y2,hy2,hGc5⟩:=bs_ hGc5
 refine nn 7 rfl (oC hf TF.gl8 (gee (S:=TT) (uY (x:=p.Network) (H.rt 4 rfl) (H.rt 3 rfl)) (uT (x:=e) (H.rt 0 rfl)) hy2) fun v2 w a hp2 hf=>?_)
 obtain ⟨hb2,hp2⟩:=hp2
 obtain rfl:=uo hp2
 have H:=H.keep hb2
 have hS:=H.lk 1 0 0 [1]
 refine aS hS ?_
 refine zp 8 hf hS fun a hf=>?_
 refine zp 9 hf hS fun a hf=>?_
 refine iteB hGc5 (fun hc4 hGc5=>?_) fun hc4 hGc5=>?_
 have hf:=hf.lit 31 rfl hc4
 refine zU 10 hf hS fun a hf=>?_
 refine zU 11 hf hS fun a hf=>?_
 refine zU 12 hf hS fun a hf=>?_
 refine zV 13 hf hS fun a hf=>?_
 refine zV 14 hf hS fun a hf=>?_
 refine zV 15 hf hS fun a hf=>?_
 refine zV 16 hf hS fun a hf=>?_
 refine zV 17 hf hS fun a hf=>?_
 refine zV 18 hf hS fun a hf=>?_
 refine zV 19 hf hS fun a hf=>?_
 refine zV 20 hf hS fun a hf=>?_
 refine zV 21 hf hS fun a hf=>?_
 refine zV 22 hf hS fun a hf=>?_
 refine zV 23 hf hS fun a hf=>?_
 refine zV 24 hf hS fun a hf=>?_
 refine zV 25 hf hS fun a hf=>?_
 refine zV 26 hf hS fun a hf=>?_
 refine zU 27 hf hS fun a hf=>?_
 refine zp 28 hf hS fun a hf=>?_
 refine dk ?_
 obtain rfl:=oi hGc5
 have hf:=hf.pn [50,1,3]
 have H:=H.lm 1 0 0 5 28
 exact ⟨hf,H⟩
 have hf:=hf.lit 31 rfl hc4
 refine zg 10 hf hS fun a hf=>?_
 refine zg 11 hf hS fun a hf=>?_
 refine zg 12 hf hS fun a hf=>?_
 refine iteB hGc5 (fun hc5 hGc5=>?_) fun hc5 hGc5=>?_
 have hf:=hf.lit 34 rfl hc5
 refine zg 13 hf hS fun a hf=>?_
 refine tSg 14 [] rfl rfl rfl rfl rfl rfl hf (by kernel_rfl) (by kernel_rfl) hS (fun w H=>ue hf H TF.ls28 0 rfl rfl rfl) fun a hf=>?_
 refine zg 15 hf hS fun a hf=>?_
 refine zg 16 hf hS fun a hf=>?_
 obtain ⟨e2,he2,hGc5⟩:=bs_ hGc5
 obtain ⟨p3,o2,cs2,hx2,hr2,H⟩:=ux H Tryz.underlying28 TF.sz49 2 rfl he2
 refine tPg 17 rfl rfl rfl rfl rfl rfl hf (by kernel_rfl) (fun _=>hS) (fun w=>uu hf rfl rfl rfl hx2 w) fun a hf=>?_
 obtain ⟨A5,c7,rfl,hl5⟩:=uq hr2
 have H:=H.pF hl5
 refine zg 18 hf hS fun a hf=>?_
 refine strT (H.lk 1 0 0 [1,3]) (fun w H=>H.lk 1 0 0 [1]) fun hS=>?_
 refine tSg 19 [] rfl rfl rfl rfl rfl rfl hf (by kernel_rfl) (by kernel_rfl) hS (fun w H=>uI hf H TF.ls3 0 0 rfl rfl rfl) fun a hf=>?_
 refine zg 20 hf hS fun a hf=>?_
 refine tSg 21 [] rfl rfl rfl rfl rfl rfl hf (by kernel_rfl) (by kernel_rfl) hS (fun w H=>ue hf H TF.ls28 0 rfl rfl rfl) fun a hf=>?_
 refine zg 22 hf hS fun a hf=>?_
 obtain ⟨e3,he3,hGc5⟩:=bs_ hGc5
 obtain ⟨p4,o3,cs3,hx3,hr3,H⟩:=ux H Tryz.underlying28 TF.sz49 4 rfl he3
 refine tPg 23 rfl rfl rfl rfl rfl rfl hf (by kernel_rfl) (fun _=>hS) (fun w=>uu hf rfl rfl rfl hx3 w) fun a hf=>?_
 obtain ⟨A6,c8,rfl,hl6⟩:=uq hr3
 have H:=H.pF hl6
 refine zg 24 hf hS fun a hf=>?_
 refine strT (H.lm 1 0 0 6 42) (fun w H=>H.lk 1 0 0 [1,2]) fun hS=>?_
 refine tSg 25 [] rfl rfl rfl rfl rfl rfl hf (by kernel_rfl) (by kernel_rfl) hS (fun w H=>uI hf H TF.ls3 0 0 rfl rfl rfl) fun a hf=>?_
 refine zg 26 hf hS fun a hf=>?_
 refine zg 27 hf hS fun a hf=>?_
 refine zp 28 hf hS fun a hf=>?_
 refine dk ?_
 obtain rfl:=oi hGc5
 have hf:=hf.pn [50,1,3]
 have H:=H.lm 1 0 0 9 448
 exact ⟨hf,H⟩
 have hf:=hf.lit 34 rfl hc5
 refine zU 13 hf hS fun a hf=>?_
 refine zU 14 hf hS fun a hf=>?_
 refine zU 15 hf hS fun a hf=>?_
 refine zU 16 hf hS fun a hf=>?_
 refine zU 17 hf hS fun a hf=>?_
 refine zU 18 hf hS fun a hf=>?_
 refine zU 19 hf hS fun a hf=>?_
 refine zU 20 hf hS fun a hf=>?_
 refine zU 21 hf hS fun a hf=>?_
 refine zU 22 hf hS fun a hf=>?_
 refine zU 23 hf hS fun a hf=>?_
 refine zU 24 hf hS fun a hf=>?_
 refine zU 25 hf hS fun a hf=>?_
 refine zU 26 hf hS fun a hf=>?_
 refine zg 27 hf hS fun a hf=>?_
 refine zp 28 hf hS fun a hf=>?_
 refine dk ?_
 obtain rfl:=oi hGc5
 have hf:=hf.pn [50,1,3]
 have H:=H.lm 1 0 0 5 28
 exact ⟨hf,H⟩
 refine ua (ib hR1 hf (fun hc6 hR1=>?_) fun hc6 hR1=>?_)
 refine sqz (pz 1 hf fun a hf=>?_)
 refine ub (ua (wp_ret (uf (u9 (uf (uf (u9 (uf (uf (?_))))))))))
 obtain rfl:=oi hR1
 replace hF:=xc hF
 obtain rfl:=oi hF
 refine rT hf ?_
 exact ⟨_,rfl,H.bel,uk⟩
 refine wp_skip (ua (sqz (pz 1 hf fun a hf=>?_)))
 refine ub (ua ?_)
 obtain ⟨out2,hB2,hR1⟩:=bs_ hR1
 have hf:=hf.pn [1,3,4]
 have H:=H.lm 1 0 0 3 7
 refine vU (fun (s:Int) (a:Act) (w:World)=>match s with | k'=>Fr a 67 [(1,(.pointer (some ⟨b',0,none⟩))),(3,(.int .i64 i)),(4,(.int .i64 k'))]∧Mem ⟨w0,[]⟩ S [⟨b',30,[(.slice A p.Network.Nodes.length c),(.slice A2 p.Network.Fibers.length c2),(.slice A3 p.Lights.length c3)]⟩] [] [] [(false,MP.val [(.slice A3 p.Lights.length c3)] (p.Lights:List Light)),(false,MP.val [(.slice A2 p.Network.Fibers.length c2)] (p.Network.Fibers:List Fiber)),(false,MP.val [(.slice A p.Network.Nodes.length c)] (p.Network.Nodes:List ByteArray))] w) (fun k (s:Int)=>xB fu p i k s=some out2) (fun s=>out2=Out.next s) 0 fu hB2 ⟨hf,H⟩ (fun s h=>by cases h) ?_ ?_
 rintro fk k' a w hR2 hI
 replace hR2:xB fu p i (fk + 1) k'=some out2:=hR2
 rw [xB] at hR2
 obtain ⟨hf,H⟩:=hI
 refine sq (sqz (pz 3 hf fun a hf=>?_))
 refine ub (ua (ib hR2 hf (fun hc7 hR2=>?_) fun hc7 hR2=>?_))
 refine wp_skip (ua (sq (wp_block (sq (dw [] 11 fun w hb=>?_)))))
 have H:=H.keep hb
 refine zp 0 hf trivial fun a hf=>?_
 refine strT (H.lk 1 0 0 []) (fun w H=>trivial) fun hS=>?_
 refine zS 1 [] rfl rfl rfl rfl hf hS (fun w H=>ue hf H TF.ls28 0 rfl rfl rfl) fun a hf=>?_
 refine zp 2 hf hS fun a hf=>?_
 obtain ⟨e4,he4,hR2⟩:=bs_ hR2
 obtain ⟨p5,o4,cs4,hx4,hr4,H⟩:=ux H Tryz.underlying28 TF.sz49 0 rfl he4
 refine zP 3 rfl rfl rfl rfl hf hS (fun w=>uu hf rfl rfl rfl hx4 w) fun a hf=>?_
 obtain ⟨A7,c9,rfl,hl7⟩:=uq hr4
 have H:=H.pF hl7
 refine strT (H.lk 1 0 0 [1]) (fun w H=>H.lk 1 0 0 []) fun hS=>?_
 refine zS 4 [] rfl rfl rfl rfl hf hS (fun w H=>uz hf H TF.la49 0 0 rfl rfl rfl rfl) fun a hf=>?_
 refine zp 5 hf hS fun a hf=>?_
 refine zS 6 [] rfl rfl rfl rfl hf hS (fun w H=>ue hf H TF.ls28 0 rfl rfl rfl) fun a hf=>?_
 refine zp 7 hf hS fun a hf=>?_
 obtain ⟨e5,he5,hR2⟩:=bs_ hR2
 obtain ⟨p6,o5,cs5,hx5,hr5,H⟩:=ux H Tryz.underlying28 TF.sz49 2 rfl he5
 refine zP 8 rfl rfl rfl rfl hf hS (fun w=>uu hf rfl rfl rfl hx5 w) fun a hf=>?_
 obtain ⟨A8,c10,rfl,hl8⟩:=uq hr5
 have H:=H.pF hl8
 refine strT (H.lk 1 0 0 [1,3]) (fun w H=>H.lk 1 0 0 [1]) fun hS=>?_
 refine zS 9 [] rfl rfl rfl rfl hf hS (fun w H=>uz hf H TF.la49 0 0 rfl rfl rfl rfl) fun a hf=>?_
 obtain ⟨y3,hy3,hR2⟩:=bs_ hR2
 refine nn 10 rfl (oC hf TF.gl7 (gdu (S:=TT) (uT (x:=e4) (H.rt 2 rfl)) (uT (x:=e5) (H.rt 0 rfl)) hy3) fun v3 w a hp3 hf=>?_)
 obtain ⟨hb3,hp3⟩:=hp3
 obtain rfl:=uo hp3
 have H:=H.keep hb3
 have hS:=H.lk 1 0 0 [1,3]
 refine aS hS ?_
 refine dk ?_
 have hf:=hf.pn [1,3,4,66]
 refine ua (ib hR2 hf (fun hc8 hR2=>?_) fun hc8 hR2=>?_)
 refine sqz (pz 1 hf fun a hf=>?_)
 refine ub (ua (wp_ret (u9 (uf (uf (u9 (uf (u9 (uf (uf (u9 (uf (uf (?_))))))))))))))
 obtain rfl:=oi hR2
 replace hR1:=xc hR1
 obtain rfl:=oi hR1
 replace hF:=xc hF
 obtain rfl:=oi hF
 refine rT hf ?_
 exact ⟨_,rfl,H.bel,uk⟩
 refine wp_skip (uV (ua (reg (pz 3 hf fun a hf=>?_))))
 refine ub ?_
 have hf:=hf.pn [1,3,4]
 have H:=H.lm 1 0 0 7 112
 exact ua ⟨w64 (k' + 1),hR2,hf,H⟩
 refine wp_exit (uy (uy (vJ (?_))))
 have hf:=hf.pn [1,3,4]
 have H:=H.lm 1 0 0 3 7
 exact ⟨k',(Option.some.inj hR2).symm,hf,H⟩
 rintro a w ⟨k2,rfl,hf,H⟩
 replace hR1:=vG hR1
 refine uV (ua (reg (pz 3 hf fun a hf=>?_)))
 refine ub ?_
 have hf:=hf.pn [1,3]
 have H:=H.lm 1 0 0 3 7
 exact ua ⟨w64 (i + 1),hR1,hf,H⟩
 refine wp_exit (uy (uy (vJ (?_))))
 have hf:=hf.pn [1,3]
 have H:=H.lm 1 0 0 3 7
 exact ⟨i,(Option.some.inj hR1).symm,hf,H⟩
 rintro a w ⟨i2,rfl,hf,H⟩
 replace hF:=vG hF
 refine ua (sqz (pz 1 hf fun a hf=>?_))
 refine wer ?_
 obtain rfl:=oi hF
 refine rT hf ?_
 exact ⟨_,rfl,H.bel,uk⟩
theorem x3 {S:Nat→Prop} {v0_:Value} {v1_:Value} {p:Plan} {id:Int} {r:Int} (h0:VR w0 S v0_ p) (h1:VR w0 S v1_ id) (hF:yl fu p id=some r) :
    Calls Tryz.prog 182 [v0_,v1_].toArray w0 fun e w'=>∃ v,e=.returned v∧(Below w0.heap.size w0 w'∧VR w' (St ⟨w0,[]⟩ S [] [] [] true) v r):=by
 obtain ⟨A,c,A2,c2,A3,c3,rfl,hl,hl2,hl3⟩:=uD h0
 obtain rfl:=uv h1
 have H:=Mem.start ⟨w0,[]⟩ S
 have H:=H.pA hl
 have H:=H.pA hl2
 have H:=H.pA hl3
 refine en Tryz.func182 fun a hf=>?_
 rw [yl] at hF
 refine bx hf H fun b' a w hf H=>?_
 refine pz 1 hf fun a hf=>?_
 refine we (sqz (pz 1 hf fun a hf=>?_))
 refine ub (ua ?_)
 obtain ⟨out',hB1,hF⟩:=bs_ hF
 have hf:=hf.pn [1,2,5]
 have H:=H.lm 1 0 0 3 7
 refine vU (fun (s:Int) (a:Act) (w:World)=>match s with | i=>Fr a 22 [(1,(.int .i64 id)),(2,(.pointer (some ⟨b',0,none⟩))),(5,(.int .i64 i))]∧Mem ⟨w0,[]⟩ S [⟨b',30,[(.slice A p.Network.Nodes.length c),(.slice A2 p.Network.Fibers.length c2),(.slice A3 p.Lights.length c3)]⟩] [] [] [(false,MP.val [(.slice A3 p.Lights.length c3)] (p.Lights:List Light)),(false,MP.val [(.slice A2 p.Network.Fibers.length c2)] (p.Network.Fibers:List Fiber)),(false,MP.val [(.slice A p.Network.Nodes.length c)] (p.Network.Nodes:List ByteArray))] w) (fun k (s:Int)=>x4 fu p id k s=some out') (fun s=>out'=Out.next s) 0 fu hB1 ⟨hf,H⟩ (fun s h=>by cases h) ?_ ?_
 rintro fk i a w hR1 hI
 replace hR1:x4 fu p id (fk + 1) i=some out':=hR1
 rw [x4] at hR1
 obtain ⟨hf,H⟩:=hI
 refine sq (sqz (pz 2 hf fun a hf=>?_))
 refine lB 0 hf H TF.ls28 fun a hf=>?_
 refine pz 2 hf fun a hf=>?_
 refine ub (ua (ib hR1 hf (fun hc hR1=>?_) fun hc hR1=>?_))
 refine ws (pz 1 hf fun a hf=>?_)
 refine lB 0 hf H TF.ls28 fun a hf=>?_
 refine pz 1 hf fun a hf=>?_
 obtain ⟨e,he,hR1⟩:=bs_ hR1
 refine wl0 rfl (vn hf H Tryz.underlying28 TF.sz49 0 rfl rfl rfl he (by decide) fun p2 o cs a hf hr H=>?_)
 obtain ⟨A4,c4,rfl,hl4⟩:=uq hr
 have H:=H.pF hl4
 refine pz 1 hf fun a hf=>?_
 refine oq hf (uI hf H TF.ls3 1 0 rfl rfl rfl) fun a hf=>?_
 refine pz 2 hf fun a hf=>?_
 refine ub (ua (ib hR1 hf (fun hc2 hR1=>?_) fun hc2 hR1=>?_))
 refine sqz (pz 2 hf fun a hf=>?_)
 have hf:=hf.pn [4]
 refine ub (ua (wp_ret (u9 (uf (uf (u9 (uf (uf (?_)))))))))
 obtain rfl:=oi hR1
 replace hF:=xc hF
 obtain rfl:=oi hF
 refine rT hf ?_
 exact ⟨_,rfl,H.bel,ug⟩
 refine wp_skip (uV (ua (reg (pz 3 hf fun a hf=>?_))))
 have hf:=hf.pn [1,2,5]
 refine ub ?_
 have hf:=hf.pn [1,2,5]
 have H:=H.lm 1 0 0 5 28
 exact ua ⟨w64 (i + 1),hR1,hf,H⟩
 refine wp_exit (uy (uy (vJ (?_))))
 have hf:=hf.pn [1,2,5]
 have H:=H.lm 1 0 0 3 7
 exact ⟨i,(Option.some.inj hR1).symm,hf,H⟩
 rintro a w ⟨i2,rfl,hf,H⟩
 replace hF:=vG hF
 refine ua (sqz (pz 1 hf fun a hf=>?_))
 refine wer ?_
 obtain rfl:=oi hF
 refine rT hf ?_
 exact ⟨_,rfl,H.bel,ug⟩
theorem yV {S:Nat→Prop} {v0_:Value} {v1_:Value} {p:Plan} {i:Int} {r:Plan} (h0:VR w0 S v0_ p) (h1:VR w0 S v1_ i) (hF:zA fu p i=some r) :
    Calls Tryz.prog 184 [v0_,v1_].toArray w0 fun e w'=>∃ v,e=.returned v∧(∃ (A0_0:Option Addr) (c0_0:Nat) (F0_0:List Nat) (A0_1:Option Addr) (c0_1:Nat) (F0_1:List Nat) (A0_2:Option Addr) (c0_2:Nat) (E0_2:Go.TypeId),v=(.agg #[(.slice A0_0 r.Network.Nodes.length c0_0),(.slice A0_1 r.Network.Fibers.length c0_1),(.slice A0_2 r.Lights.length c0_2)])∧Mem ⟨w0,[]⟩ S [] [⟨.sh true,E0_2,A0_2,c0_2,(r.Lights:List Light)⟩] [⟨F0_0,MP.own F0_0 [(.slice A0_0 r.Network.Nodes.length c0_0)] (r.Network.Nodes:List ByteArray)⟩,⟨F0_1,MP.own F0_1 [(.slice A0_1 r.Network.Fibers.length c0_1)] (r.Network.Fibers:List Fiber)⟩] [] w'):=by
 obtain ⟨A,c,A2,c2,A3,c3,rfl,hl,hl2,hl3⟩:=uD h0
 obtain rfl:=uv h1
 have H:=Mem.start ⟨w0,[]⟩ S
 have H:=H.pA hl
 have H:=H.pA hl2
 have H:=H.pA hl3
 refine en Tryz.func184 fun a hf=>?_
 rw [zA] at hF
 refine bx hf H fun b' a w hf H=>?_
 refine aL hf H TF.zv30 fun b2 a w hf H=>?_
 refine wr (lN 1 hf H TF.la30 fun a hf=>?_)
 obtain ⟨y,hy,hF⟩:=bs_ hF
 refine oc hf TF.gjF (gbZ (S:=TT) (uj (x:=p) (H.rt 2 rfl) (H.rt 1 rfl) (H.rt 0 rfl)) hy) fun v w a hp hf=>?_
 obtain ⟨hb,F,hp2,hN⟩:=hp
 obtain ⟨A4,c4,F2,A5,c5,F3,A6,c6,F4,rfl,rfl,hl4,hl5,hl6⟩:=zH hp2
 have H:=H.aO3 hb (by first | exact hN | simpa using hN) hl4 hl5 hl6
 have H:=H.lend 0 rfl
 have H:=H.lend 1 rfl
 have H:=H.lend 2 rfl
 refine aL hf H TF.zv30 fun b3 a w hf H=>?_
 refine sB 0 hf H TF.sz30 fun w H=>?_
 refine ub (ua (sq (dw [13] 14 fun w hb=>?_)))
 have H:=H.keep hb
 refine zp 1 hf trivial fun a hf=>?_
 refine strT (H.lk 1 0 0 []) (fun w H=>trivial) fun hS=>?_
 refine zS 2 [2,4,5,11,12,13] rfl rfl rfl rfl hf hS (fun w H=>ue hf H TF.ls28 0 rfl rfl rfl) fun a hf=>?_
 refine zp 3 hf hS fun a hf=>?_
 obtain ⟨l,hl_,hF⟩:=bs_ hF
 obtain ⟨A7,c7,hx,H⟩:=gaQ H Tryz.underlying28 TF.sz49 0 (lov:=none) (hiv:=some (.int .i64 i)) (.inl ⟨rfl,rfl⟩) (.inr rfl) rfl hl_
 refine zP 4 rfl rfl rfl rfl hf hS (fun w=>gaP hf rfl rfl rfl hx w) fun a hf=>?_
 refine zp 6 hf hS fun a hf=>?_
 refine zS 7 [7,10,11,12,13] rfl rfl rfl rfl hf hS (fun w H=>ue hf H TF.ls28 0 rfl rfl rfl) fun a hf=>?_
 refine zp 8 hf hS fun a hf=>?_
 refine zp 9 hf hS fun a hf=>?_
 obtain ⟨l2,hl2_,hF⟩:=bs_ hF
 obtain ⟨A8,c8,hx2,H⟩:=gaQ H Tryz.underlying28 TF.sz49 1 (lov:=some (.int .i64 (w64 (i + 1)))) (hiv:=none) (.inr rfl) (.inl ⟨rfl,rfl⟩) rfl hl2_
 refine zP 10 rfl rfl rfl rfl hf hS (fun w=>gaP hf rfl rfl rfl hx2 w) fun a hf=>?_
 refine nn 0 rfl (bl hf H 49 ([]:List Light) [] el0 fun A9 a w hf H=>?_)
 have hS:=H.lk 1 0 0 []
 refine aS hS ?_
 obtain ⟨l3,hl3_,hF⟩:=bs_ hF
 refine nn 5 rfl (xH hf H Tryz.underlying28 TF.ai49 rfl (by decide) 0 1 rfl rfl rfl rfl (.inr rfl) hl3_ (by decide) fun E A10 c9 a w hf H=>?_)
 have hS:=H.lk 1 0 0 []
 refine aS hS ?_
 obtain ⟨l4,hl4_,hF⟩:=bs_ hF
 refine nn 11 rfl (xH hf H Tryz.underlying28 TF.ai49 rfl (by decide) 0 0 rfl rfl rfl rfl (.inr rfl) hl4_ (by decide) fun E2 A11 c10 a w hf H=>?_)
 have hS:=H.lk 1 0 0 []
 refine aS hS ?_
 refine zp 12 hf hS fun a hf=>?_
 refine nn 13 rfl (uh hf H 0 TF.sz28 rfl rfl rfl rfl rfl rfl (nle rfl) fun w H=>?_)
 refine ⟨fun h=>absurd h (by decide),?_⟩
 refine dk ?_
 have hf:=hf.pn [4,5]
 refine ua (sq (reg (lN 0 hf H TF.la30 fun a hf=>?_)))
 refine sB 1 hf H TF.sz30 fun w H=>?_
 refine wer ?_
 have H:=H.frontD 1 rfl
 have H:=H.frontD 1 rfl
 obtain rfl:=oi hF
 refine xi hf rfl (um hf H 1 TF.la30 rfl rfl rfl) ?_
 have H:=H.lk 0 1 3 []
 exact ⟨_,rfl,A4,c4,F2,A5,c5,F3,A11,c10,E2,rfl,H⟩
theorem yb {S:Nat→Prop} {v0_:Value} {v1_:Value} {v2_:Value} {n':Int} {low:Int} {high:Int} {r:Bool} (h0:VR w0 S v0_ n') (h1:VR w0 S v1_ low) (h2:VR w0 S v2_ high) (hF:xM fu n' low high=some r) :
    Calls Tryz.prog 160 [v0_,v1_,v2_].toArray w0 fun e w'=>∃ v,e=.returned v∧(Below w0.heap.size w0 w'∧VR w' (St ⟨w0,[]⟩ S [] [] [] true) v r):=by
 obtain rfl:=uv h0
 obtain rfl:=uv h1
 obtain rfl:=uv h2
 have H:=Mem.start ⟨w0,[]⟩ S
 refine en Tryz.func160 fun a hf=>?_
 rw [xM] at hF
 refine sqz (pz 1 hf fun a hf=>?_)
 refine ub (ua (sq ?_))
 obtain ⟨c,hGc,hF⟩:=bs_ hF
 have fh:=hf.prune [] rfl
 have Hm:=H.lk 0 0 0 []
 refine midF 6 (.bool c) fh Hm ?_ fun a w hf H=>?_
 refine reg (pz 4 hf fun a hf=>?_)
 refine iteB hGc (fun hc hGc=>?_) fun hc hGc=>?_
 have hf:=hf.lit 10 rfl hc
 refine pz 5 hf fun a hf=>?_
 obtain rfl:=oi hGc
 have hf:=hf.pn [6]
 have H:=H.lk 0 0 0 []
 exact ub ⟨hf,H⟩
 have hf:=hf.lit 10 rfl hc
 refine pz 5 hf fun a hf=>?_
 obtain rfl:=oi hGc
 have hf:=hf.pn [6]
 have H:=H.lk 0 0 0 []
 exact ub ⟨hf,H⟩
 refine ua (wp_ret (?_))
 obtain rfl:=oi hF
 refine rT hf ?_
 exact ⟨_,rfl,H.bel,uk⟩
theorem geT {S:Nat→Prop} {v0_:Value} {s':ByteArray} {r:Bool} (h0:VR w0 S v0_ s') (hF:gbv fu s'=some r) :
    Calls Tryz.prog 158 [v0_].toArray w0 fun e w'=>∃ v,e=.returned v∧(Below w0.heap.size w0 w'∧VR w' (St ⟨w0,[]⟩ S [] [] [] true) v r):=by
 obtain rfl:=ge6 h0
 have H:=Mem.start ⟨w0,[]⟩ S
 refine en Tryz.func158 fun a hf=>?_
 rw [gbv] at hF
 refine sqz (pz 1 hf fun a hf=>?_)
 refine we (sqz (pz 3 hf fun a hf=>?_))
 refine ub (ua ?_)
 obtain ⟨out',hB1,hF⟩:=bs_ hF
 have hf:=hf.pn [0,7,8]
 have H:=H.lk 0 0 0 []
 refine vU (fun (s:Int) (a:Act) (w:World)=>match s with | i=>Fr a 45 [(0,(.string s')),(7,(.int .i64 (s'.size:Int))),(8,(.int .i64 i))]∧Mem ⟨w0,[]⟩ S [] [] [] [] w) (fun k (s:Int)=>v1 fu s' k s=some out') (fun s=>out'=Out.next s) 0 fu hB1 ⟨hf,H⟩ (fun s h=>by cases h) ?_ ?_
 rintro fk i a w hR1 hI
 replace hR1:v1 fu s' (fk + 1) i=some out':=hR1
 rw [v1] at hR1
 obtain ⟨hf,H⟩:=hI
 refine sqz (pz 1 hf fun a hf=>?_)
 refine ub (ua (sq (ib hR1 hf (fun hc hR1=>?_) fun hc hR1=>?_)))
 refine ws (pz 2 hf fun a hf=>?_)
 refine ub (ua (sq (dw [] 22 fun w hb=>?_)))
 have H:=H.keep hb
 refine zp 0 hf trivial fun a hf=>?_
 refine zp 1 hf trivial fun a hf=>?_
 obtain ⟨e,he,hR1⟩:=bs_ hR1
 refine tP 2 rfl rfl rfl rfl hf (by kernel_rfl) (fun _=>trivial) (fun w=>gal hf Tryz.underlying9 rfl rfl he) fun a hf=>?_
 refine tP 3 rfl rfl rfl rfl hf (by kernel_rfl) (fun _=>trivial) (fun w=>gdP hf rfl rfl) fun a hf=>?_
 refine zp 4 hf trivial fun a hf=>?_
 refine zp 10 hf trivial fun a hf=>?_
 refine zp 11 hf trivial fun a hf=>?_
 obtain ⟨e2,he2,hR1⟩:=bs_ hR1
 refine tP 12 rfl rfl rfl rfl hf (by kernel_rfl) (fun _=>trivial) (fun w=>gal hf Tryz.underlying9 rfl rfl he2) fun a hf=>?_
 refine tP 13 rfl rfl rfl rfl hf (by kernel_rfl) (fun _=>trivial) (fun w=>gdP hf rfl rfl) fun a hf=>?_
 refine zp 14 hf trivial fun a hf=>?_
 refine iteB hR1 (fun hc2 hR1=>?_) fun hc2 hR1=>?_
 have hf:=hf.lit 15 rfl hc2
 refine zg 5 hf trivial fun a hf=>?_
 refine zg 6 hf trivial fun a hf=>?_
 obtain ⟨e3,he3,hR1⟩:=bs_ hR1
 refine tPg 7 rfl rfl rfl rfl rfl rfl hf (by kernel_rfl) (fun _=>trivial) (fun w=>gal hf Tryz.underlying9 rfl rfl he3) fun a hf=>?_
 refine tPg 8 rfl rfl rfl rfl rfl rfl hf (by kernel_rfl) (fun _=>trivial) (fun w=>geZ hf rfl rfl) fun a hf=>?_
 refine zp 9 hf trivial fun a hf=>?_
 refine zp 20 hf trivial fun a hf=>?_
 refine iteB hR1 (fun hc3 hR1=>?_) fun hc3 hR1=>?_
 have hf:=hf.lit 25 rfl hc3
 refine zg 15 hf trivial fun a hf=>?_
 refine zg 16 hf trivial fun a hf=>?_
 obtain ⟨e4,he4,hR1⟩:=bs_ hR1
 refine tPg 17 rfl rfl rfl rfl rfl rfl hf (by kernel_rfl) (fun _=>trivial) (fun w=>gal hf Tryz.underlying9 rfl rfl he4) fun a hf=>?_
 refine tPg 18 rfl rfl rfl rfl rfl rfl hf (by kernel_rfl) (fun _=>trivial) (fun w=>geZ hf rfl rfl) fun a hf=>?_
 refine zp 19 hf trivial fun a hf=>?_
 refine zp 21 hf trivial fun a hf=>?_
 refine dk ?_
 have hf:=hf.pn [0,3,4,5,7,8,16,17,18,19,26,27,28,29]
 refine ua (sq ?_)
 obtain ⟨c,hGc,hR1⟩:=bs_ hR1
 have fh:=hf.prune [0,7,8,16,17,18,19,26,27,28,29] rfl
 have Hm:=H.lk 0 0 0 []
 refine midF 40 (.bool c) fh Hm ?_ fun a w hf H=>?_
 refine reg (pz 3 hf fun a hf=>?_)
 refine iteB hGc (fun hc4 hGc=>?_) fun hc4 hGc=>?_
 have hf:=hf.lit 33 rfl hc4
 refine pz 3 hf fun a hf=>?_
 refine iteB hGc (fun hc5 hGc=>?_) fun hc5 hGc=>?_
 have hf:=hf.lit 36 rfl hc5
 refine pz 4 hf fun a hf=>?_
 obtain rfl:=oi hGc
 have hf:=hf.pn [40,0,7,8,16,17,18,19,26,27,28,29]
 have H:=H.lk 0 0 0 []
 exact ub ⟨hf,H⟩
 have hf:=hf.lit 36 rfl hc5
 refine pz 4 hf fun a hf=>?_
 obtain rfl:=oi hGc
 have hf:=hf.pn [40,0,7,8,16,17,18,19,26,27,28,29]
 have H:=H.lk 0 0 0 []
 exact ub ⟨hf,H⟩
 have hf:=hf.lit 33 rfl hc4
 refine pz 3 hf fun a hf=>?_
 refine wlsu hf rfl rfl rfl rfl (by decide) fun a hf=>?_
 refine wlsu hf rfl rfl rfl rfl (by decide) fun a hf=>?_
 refine pz 2 hf fun a hf=>?_
 obtain rfl:=oi hGc
 have hf:=hf.pn [40,0,7,8,16,17,18,19,26,27,28,29]
 have H:=H.lk 0 0 0 []
 exact ub ⟨hf,H⟩
 refine ua (ib hR1 hf (fun hc6 hR1=>?_) fun hc6 hR1=>?_)
 refine sqz (pz 1 hf fun a hf=>?_)
 refine ub (ua (wp_ret (u9 (uf (uf (u9 (uf (uf (?_)))))))))
 obtain rfl:=oi hR1
 replace hF:=xc hF
 obtain rfl:=oi hF
 refine rT hf ?_
 exact ⟨_,rfl,H.bel,uk⟩
 refine wp_skip (uV (ua (reg (pz 2 hf fun a hf=>?_))))
 refine ub ?_
 have hf:=hf.pn [0,7,8]
 have H:=H.lk 0 0 0 []
 exact ua ⟨w64 (i + 1),hR1,hf,H⟩
 have hf:=hf.lit 25 rfl hc3
 refine zU 15 hf trivial fun a hf=>?_
 refine zU 16 hf trivial fun a hf=>?_
 refine zU 17 hf trivial fun a hf=>?_
 refine zU 18 hf trivial fun a hf=>?_
 refine zp 19 hf trivial fun a hf=>?_
 refine zp 21 hf trivial fun a hf=>?_
 refine dk ?_
 have hf:=hf.pn [0,3,4,5,7,8,16,17,18,19]
 refine ua (sq ?_)
 obtain ⟨c2,hGc2,hR1⟩:=bs_ hR1
 have fh2:=hf.prune [0,7,8,16,17,18,19] rfl
 have Hm2:=H.lk 0 0 0 []
 refine midF 40 (.bool c2) fh2 Hm2 ?_ fun a w hf H=>?_
 refine reg (pz 3 hf fun a hf=>?_)
 refine iteB hGc2 (fun hc7 hGc2=>?_) fun hc7 hGc2=>?_
 have hf:=hf.lit 33 rfl hc7
 refine pz 3 hf fun a hf=>?_
 refine iteB hGc2 (fun hc8 hGc2=>?_) fun hc8 hGc2=>?_
 have hf:=hf.lit 36 rfl hc8
 refine pz 4 hf fun a hf=>?_
 obtain rfl:=oi hGc2
 have hf:=hf.pn [40,0,7,8,16,17,18,19]
 have H:=H.lk 0 0 0 []
 exact ub ⟨hf,H⟩
 have hf:=hf.lit 36 rfl hc8
 refine pz 4 hf fun a hf=>?_
 obtain rfl:=oi hGc2
 have hf:=hf.pn [40,0,7,8,16,17,18,19]
 have H:=H.lk 0 0 0 []
 exact ub ⟨hf,H⟩
 have hf:=hf.lit 33 rfl hc7
 refine pz 3 hf fun a hf=>?_
 refine wlsu hf rfl rfl rfl rfl (by decide) fun a hf=>?_
 refine wlsu hf rfl rfl rfl rfl (by decide) fun a hf=>?_
 refine pz 2 hf fun a hf=>?_
 obtain rfl:=oi hGc2
 have hf:=hf.pn [40,0,7,8,16,17,18,19]
 have H:=H.lk 0 0 0 []
 exact ub ⟨hf,H⟩
 refine ua (ib hR1 hf (fun hc9 hR1=>?_) fun hc9 hR1=>?_)
 refine sqz (pz 1 hf fun a hf=>?_)
 refine ub (ua (wp_ret (u9 (uf (uf (u9 (uf (uf (?_)))))))))
 obtain rfl:=oi hR1
 replace hF:=xc hF
 obtain rfl:=oi hF
 refine rT hf ?_
 exact ⟨_,rfl,H.bel,uk⟩
 refine wp_skip (uV (ua (reg (pz 2 hf fun a hf=>?_))))
 refine ub ?_
 have hf:=hf.pn [0,7,8]
 have H:=H.lk 0 0 0 []
 exact ua ⟨w64 (i + 1),hR1,hf,H⟩
 have hf:=hf.lit 15 rfl hc2
 refine zU 5 hf trivial fun a hf=>?_
 refine zU 6 hf trivial fun a hf=>?_
 refine zU 7 hf trivial fun a hf=>?_
 refine zU 8 hf trivial fun a hf=>?_
 refine zp 9 hf trivial fun a hf=>?_
 refine zp 20 hf trivial fun a hf=>?_
 refine iteB hR1 (fun hc10 hR1=>?_) fun hc10 hR1=>?_
 have hf:=hf.lit 25 rfl hc10
 refine zg 15 hf trivial fun a hf=>?_
 refine zg 16 hf trivial fun a hf=>?_
 obtain ⟨e5,he5,hR1⟩:=bs_ hR1
 refine tPg 17 rfl rfl rfl rfl rfl rfl hf (by kernel_rfl) (fun _=>trivial) (fun w=>gal hf Tryz.underlying9 rfl rfl he5) fun a hf=>?_
 refine tPg 18 rfl rfl rfl rfl rfl rfl hf (by kernel_rfl) (fun _=>trivial) (fun w=>geZ hf rfl rfl) fun a hf=>?_
 refine zp 19 hf trivial fun a hf=>?_
 refine zp 21 hf trivial fun a hf=>?_
 refine dk ?_
 have hf:=hf.pn [0,3,4,5,7,8,26,27,28,29]
 refine ua (sq ?_)
 obtain ⟨c3,hGc3,hR1⟩:=bs_ hR1
 have fh3:=hf.prune [0,7,8,26,27,28,29] rfl
 have Hm3:=H.lk 0 0 0 []
 refine midF 40 (.bool c3) fh3 Hm3 ?_ fun a w hf H=>?_
 refine reg (pz 3 hf fun a hf=>?_)
 refine iteB hGc3 (fun hc11 hGc3=>?_) fun hc11 hGc3=>?_
 have hf:=hf.lit 33 rfl hc11
 refine pz 3 hf fun a hf=>?_
 refine iteB hGc3 (fun hc12 hGc3=>?_) fun hc12 hGc3=>?_
 have hf:=hf.lit 36 rfl hc12
 refine pz 4 hf fun a hf=>?_
 obtain rfl:=oi hGc3
 have hf:=hf.pn [40,0,7,8,26,27,28,29]
 have H:=H.lk 0 0 0 []
 exact ub ⟨hf,H⟩
 have hf:=hf.lit 36 rfl hc12
 refine pz 4 hf fun a hf=>?_
 obtain rfl:=oi hGc3
 have hf:=hf.pn [40,0,7,8,26,27,28,29]
 have H:=H.lk 0 0 0 []
 exact ub ⟨hf,H⟩
 have hf:=hf.lit 33 rfl hc11
 refine pz 3 hf fun a hf=>?_
 refine wlsu hf rfl rfl rfl rfl (by decide) fun a hf=>?_
 refine wlsu hf rfl rfl rfl rfl (by decide) fun a hf=>?_
 refine pz 2 hf fun a hf=>?_
 obtain rfl:=oi hGc3
 have hf:=hf.pn [40,0,7,8,26,27,28,29]
 have H:=H.lk 0 0 0 []
 exact ub ⟨hf,H⟩
 refine ua (ib hR1 hf (fun hc13 hR1=>?_) fun hc13 hR1=>?_)
 refine sqz (pz 1 hf fun a hf=>?_)
 refine ub (ua (wp_ret (u9 (uf (uf (u9 (uf (uf (?_)))))))))
 obtain rfl:=oi hR1
 replace hF:=xc hF
 obtain rfl:=oi hF
 refine rT hf ?_
 exact ⟨_,rfl,H.bel,uk⟩
 refine wp_skip (uV (ua (reg (pz 2 hf fun a hf=>?_))))
 refine ub ?_
 have hf:=hf.pn [0,7,8]
 have H:=H.lk 0 0 0 []
 exact ua ⟨w64 (i + 1),hR1,hf,H⟩
 have hf:=hf.lit 25 rfl hc10
 refine zU 15 hf trivial fun a hf=>?_
 refine zU 16 hf trivial fun a hf=>?_
 refine zU 17 hf trivial fun a hf=>?_
 refine zU 18 hf trivial fun a hf=>?_
 refine zp 19 hf trivial fun a hf=>?_
 refine zp 21 hf trivial fun a hf=>?_
 refine dk ?_
 have hf:=hf.pn [0,3,4,5,7,8]
 refine ua (sq ?_)
 obtain ⟨c4,hGc4,hR1⟩:=bs_ hR1
 have fh4:=hf.prune [0,7,8] rfl
 have Hm4:=H.lk 0 0 0 []
 refine midF 40 (.bool c4) fh4 Hm4 ?_ fun a w hf H=>?_
 refine reg (pz 3 hf fun a hf=>?_)
 refine iteB hGc4 (fun hc14 hGc4=>?_) fun hc14 hGc4=>?_
 have hf:=hf.lit 33 rfl hc14
 refine pz 3 hf fun a hf=>?_
 refine iteB hGc4 (fun hc15 hGc4=>?_) fun hc15 hGc4=>?_
 have hf:=hf.lit 36 rfl hc15
 refine pz 4 hf fun a hf=>?_
 obtain rfl:=oi hGc4
 have hf:=hf.pn [40,0,7,8]
 have H:=H.lk 0 0 0 []
 exact ub ⟨hf,H⟩
 have hf:=hf.lit 36 rfl hc15
 refine pz 4 hf fun a hf=>?_
 obtain rfl:=oi hGc4
 have hf:=hf.pn [40,0,7,8]
 have H:=H.lk 0 0 0 []
 exact ub ⟨hf,H⟩
 have hf:=hf.lit 33 rfl hc14
 refine pz 3 hf fun a hf=>?_
 refine wlsu hf rfl rfl rfl rfl (by decide) fun a hf=>?_
 refine wlsu hf rfl rfl rfl rfl (by decide) fun a hf=>?_
 refine pz 2 hf fun a hf=>?_
 obtain rfl:=oi hGc4
 have hf:=hf.pn [40,0,7,8]
 have H:=H.lk 0 0 0 []
 exact ub ⟨hf,H⟩
 refine ua (ib hR1 hf (fun hc16 hR1=>?_) fun hc16 hR1=>?_)
 refine sqz (pz 1 hf fun a hf=>?_)
 refine ub (ua (wp_ret (u9 (uf (uf (u9 (uf (uf (?_)))))))))
 obtain rfl:=oi hR1
 replace hF:=xc hF
 obtain rfl:=oi hF
 refine rT hf ?_
 exact ⟨_,rfl,H.bel,uk⟩
 refine wp_skip (uV (ua (reg (pz 2 hf fun a hf=>?_))))
 refine ub ?_
 have hf:=hf.pn [0,7,8]
 have H:=H.lk 0 0 0 []
 exact ua ⟨w64 (i + 1),hR1,hf,H⟩
 refine wp_exit (uy (uy (vJ (?_))))
 have hf:=hf.pn [0,7,8]
 have H:=H.lk 0 0 0 []
 exact ⟨i,(Option.some.inj hR1).symm,hf,H⟩
 rintro a w ⟨i2,rfl,hf,H⟩
 replace hF:=vG hF
 refine ua (sqz (pz 2 hf fun a hf=>?_))
 obtain ⟨y,hy,hF⟩:=bs_ hF
 refine oc hf TF.ggd (yb (S:=TT) ug ug ug hy) fun v w a hp hf=>?_
 obtain ⟨hb,hp⟩:=hp
 obtain rfl:=uo hp
 have H:=H.keep hb
 refine pz 1 hf fun a hf=>?_
 refine wer ?_
 obtain rfl:=oi hF
 refine rT hf ?_
 exact ⟨_,rfl,H.bel,uk⟩
theorem gaX {S:Nat→Prop} {v0_:Value} {v1_:Value} {s':List ByteArray} {v:ByteArray} {r:Int} (h0:VR w0 S v0_ s') (h1:VR w0 S v1_ v) (hF:vT fu s' v=some r) :
    Calls Tryz.prog 241 [v0_,v1_].toArray w0 fun e w'=>∃ v,e=.returned v∧(Below w0.heap.size w0 w'∧VR w' (St ⟨w0,[]⟩ S [] [] [] true) v r):=by
 obtain ⟨A,c,rfl,hl⟩:=u4 h0
 obtain rfl:=ge6 h1
 have H:=Mem.start ⟨w0,[]⟩ S
 have H:=H.pA hl
 refine en Tryz.func241 fun a hf=>?_
 rw [vT] at hF
 refine sqz (pz 1 hf fun a hf=>?_)
 refine we (sqz (pz 3 hf fun a hf=>?_))
 refine ub (ua ?_)
 obtain ⟨out',hB1,hF⟩:=bs_ hF
 have hf:=hf.pn [0,1,7,8]
 have H:=H.lk 0 0 0 [0]
 refine vU (fun (s:Int) (a:Act) (w:World)=>match s with | i=>Fr a 19 [(0,(.slice A s'.length c)),(1,(.string v)),(7,(.int .i64 (s'.length:Int))),(8,(.int .i64 i))]∧Mem ⟨w0,[]⟩ S [] [] [] [(false,MP.val [(.slice A s'.length c)] (s':List ByteArray))] w) (fun k (s:Int)=>uW fu s' v k s=some out') (fun s=>out'=Out.next s) 0 fu hB1 ⟨hf,H⟩ (fun s h=>by cases h) ?_ ?_
 rintro fk i a w hR1 hI
 replace hR1:uW fu s' v (fk + 1) i=some out':=hR1
 rw [uW] at hR1
 obtain ⟨hf,H⟩:=hI
 refine sqz (pz 1 hf fun a hf=>?_)
 refine ub (ua (sq (ib hR1 hf (fun hc hR1=>?_) fun hc hR1=>?_)))
 refine ws (pz 2 hf fun a hf=>?_)
 refine wr (pz 3 hf fun a hf=>?_)
 obtain ⟨e,he,hR1⟩:=bs_ hR1
 refine wl0 rfl (vn hf H Tryz.underlying24 TF.sz9 0 rfl rfl rfl he (by decide) fun p o cs a hf hr H=>?_)
 obtain rfl:=hr
 refine oq hf (uI hf H TF.ls9 0 0 rfl rfl rfl) fun a hf=>?_
 refine pz 1 hf fun a hf=>?_
 refine ub (ua (ib hR1 hf (fun hc2 hR1=>?_) fun hc2 hR1=>?_))
 refine sqz (pz 2 hf fun a hf=>?_)
 have hf:=hf.pn [4]
 refine ub (ua (wp_ret (u9 (uf (uf (u9 (uf (uf (?_)))))))))
 obtain rfl:=oi hR1
 replace hF:=xc hF
 obtain rfl:=oi hF
 refine rT hf ?_
 exact ⟨_,rfl,H.bel,ug⟩
 refine wp_skip (uV (ua (reg (pz 2 hf fun a hf=>?_))))
 refine ub ?_
 have hf:=hf.pn [0,1,7,8]
 have H:=H.lk 0 0 0 [1]
 exact ua ⟨w64 (i + 1),hR1,hf,H⟩
 refine wp_exit (uy (uy (vJ (?_))))
 have hf:=hf.pn [0,1,7,8]
 have H:=H.lk 0 0 0 [0]
 exact ⟨i,(Option.some.inj hR1).symm,hf,H⟩
 rintro a w ⟨i2,rfl,hf,H⟩
 replace hF:=vG hF
 refine ua (sqz (pz 1 hf fun a hf=>?_))
 refine wer ?_
 obtain rfl:=oi hF
 refine rT hf ?_
 exact ⟨_,rfl,H.bel,ug⟩
theorem gar {S:Nat→Prop} {v0_:Value} {v1_:Value} {s':List ByteArray} {v:ByteArray} {r:Bool} (h0:VR w0 S v0_ s') (h1:VR w0 S v1_ v) (hF:vC fu s' v=some r) :
    Calls Tryz.prog 159 [v0_,v1_].toArray w0 fun e w'=>∃ v,e=.returned v∧(Below w0.heap.size w0 w'∧VR w' (St ⟨w0,[]⟩ S [] [] [] true) v r):=by
 obtain ⟨A,c,rfl,hl⟩:=u4 h0
 obtain rfl:=ge6 h1
 have H:=Mem.start ⟨w0,[]⟩ S
 have H:=H.pA hl
 refine en Tryz.func159 fun a hf=>?_
 rw [vC] at hF
 refine sqz (pz 1 hf fun a hf=>?_)
 refine wr (pz 2 hf fun a hf=>?_)
 obtain ⟨y,hy,hF⟩:=bs_ hF
 refine oc hf TF.gl0 (gaX (S:=TT) (uB (H.rt 0 rfl)) ge2 hy) fun v2 w a hp hf=>?_
 obtain ⟨hb,hp⟩:=hp
 obtain rfl:=uv hp
 have H:=H.keep hb
 refine pz 2 hf fun a hf=>?_
 refine wer ?_
 obtain rfl:=oi hF
 refine rT hf ?_
 exact ⟨_,rfl,H.bel,uk⟩
theorem z8 {S:Nat→Prop} {v0_:Value} {x1:Int} {r:Bool} (h0:VR w0 S v0_ x1) (hF:cmp_isNaN_int fu x1=some r) :
    Calls Tryz.prog 225 [v0_].toArray w0 fun e w'=>∃ v,e=.returned v∧(Below w0.heap.size w0 w'∧VR w' (St ⟨w0,[]⟩ S [] [] [] true) v r):=by
 obtain rfl:=uv h0
 have H:=Mem.start ⟨w0,[]⟩ S
 refine en Tryz.func225 fun a hf=>?_
 rw [cmp_isNaN_int] at hF
 refine sqz (pz 1 hf fun a hf=>?_)
 refine wr (pz 4 hf fun a hf=>?_)
 refine wer ?_
 obtain rfl:=oi hF
 refine rT hf ?_
 exact ⟨_,rfl,H.bel,uk⟩
theorem zF {S:Nat→Prop} {v0_:Value} {v1_:Value} {x1:Int} {y:Int} {r:Int} (h0:VR w0 S v0_ x1) (h1:VR w0 S v1_ y) (hF:cmp_Compare_int fu x1 y=some r) :
    Calls Tryz.prog 140 [v0_,v1_].toArray w0 fun e w'=>∃ v,e=.returned v∧(Below w0.heap.size w0 w'∧VR w' (St ⟨w0,[]⟩ S [] [] [] true) v r):=by
 obtain rfl:=uv h0
 obtain rfl:=uv h1
 have H:=Mem.start ⟨w0,[]⟩ S
 refine en Tryz.func140 fun a hf=>?_
 rw [cmp_Compare_int] at hF
 refine sqz (pz 1 hf fun a hf=>?_)
 refine wr (pz 1 hf fun a hf=>?_)
 obtain ⟨y2,hy2,hF⟩:=bs_ hF
 refine oc hf TF.gjC (z8 (S:=TT) ug hy2) fun v w a hp hf=>?_
 obtain ⟨hb,hp⟩:=hp
 obtain rfl:=uo hp
 have H:=H.keep hb
 refine pz 1 hf fun a hf=>?_
 refine wr (pz 1 hf fun a hf=>?_)
 obtain ⟨y3,hy3,hF⟩:=bs_ hF
 refine oc hf TF.gjC (z8 (S:=TT) ug hy3) fun v2 w a hp2 hf=>?_
 obtain ⟨hb2,hp2⟩:=hp2
 obtain rfl:=uo hp2
 have H:=H.keep hb2
 refine pz 1 hf fun a hf=>?_
 refine we (sqz (pz 1 hf fun a hf=>?_))
 refine ub (ua (ib hF hf (fun hc hF=>?_) fun hc hF=>?_))
 refine sq (sqz (pz 1 hf fun a hf=>?_))
 refine ub (ua (ib hF hf (fun hc2 hF=>?_) fun hc2 hF=>?_))
 refine sqz (pz 1 hf fun a hf=>?_)
 refine ub (ua (wp_ret (uf (uf (?_)))))
 obtain rfl:=oi hF
 refine rT hf ?_
 exact ⟨_,rfl,H.bel,ug⟩
 refine wp_skip (ua (sqz (pz 1 hf fun a hf=>?_)))
 refine ub (ua (wp_ret (uf (?_))))
 obtain rfl:=oi hF
 refine rT hf ?_
 exact ⟨_,rfl,H.bel,ug⟩
 refine wp_skip (ua (sq (sqz (pz 1 hf fun a hf=>?_))))
 refine ub (ua (ib hF hf (fun hc3 hF=>?_) fun hc3 hF=>?_))
 refine sqz (pz 1 hf fun a hf=>?_)
 refine ub (ua (wp_ret (uf (?_))))
 obtain rfl:=oi hF
 refine rT hf ?_
 exact ⟨_,rfl,H.bel,ug⟩
 refine wp_skip (ua (sq (sqz (pz 3 hf fun a hf=>?_))))
 refine ub (ua (ib hF hf (fun hc4 hF=>?_) fun hc4 hF=>?_))
 refine sqz (pz 1 hf fun a hf=>?_)
 have hf:=hf.pn [4]
 refine ub (ua (wp_ret (uf (?_))))
 obtain rfl:=oi hF
 refine rT hf ?_
 exact ⟨_,rfl,H.bel,ug⟩
 refine wp_skip (ua (sq (sqz (pz 3 hf fun a hf=>?_))))
 have hf:=hf.pn [19]
 refine ub (ua (ib hF hf (fun hc5 hF=>?_) fun hc5 hF=>?_))
 refine sqz (pz 1 hf fun a hf=>?_)
 refine ub (ua (wp_ret (uf (?_))))
 obtain rfl:=oi hF
 refine rT hf ?_
 exact ⟨_,rfl,H.bel,ug⟩
 refine wp_skip (ua (sqz (pz 1 hf fun a hf=>?_)))
 refine wer ?_
 obtain rfl:=oi hF
 refine rT hf ?_
 exact ⟨_,rfl,H.bel,ug⟩
theorem gfs {S:Nat→Prop} {v0_:Value} {vals:List Int} {r:Int} (h0:VR w0 S v0_ vals) (hF:gbV fu vals=some r) :
    Calls Tryz.prog 242 [v0_].toArray w0 fun e w'=>∃ v,e=.returned v∧(Below w0.heap.size w0 w'∧VR w' (St ⟨w0,[]⟩ S [] [] [] true) v r):=by
 obtain ⟨A,c,rfl,hl⟩:=u4 h0
 have H:=Mem.start ⟨w0,[]⟩ S
 have H:=H.pA hl
 refine en Tryz.func242 fun a hf=>?_
 rw [gbV] at hF
 refine sqz (pz 1 hf fun a hf=>?_)
 refine wr (pz 1 hf fun a hf=>?_)
 refine we (sqz (pz 3 hf fun a hf=>?_))
 refine ub (ua ?_)
 obtain ⟨out',hB1,hF⟩:=bs_ hF
 have hf:=hf.pn [3,6,7,8]
 have H:=H.lk 0 0 0 [0]
 refine vU (fun (s:Int) (a:Act) (w:World)=>match s with | i=>Fr a 18 [(3,(.int .i64 0)),(6,(.slice A vals.length c)),(7,(.int .i64 (vals.length:Int))),(8,(.int .i64 i))]∧Mem ⟨w0,[]⟩ S [] [] [] [(false,MP.val [(.slice A vals.length c)] (vals:List Int))] w) (fun k (s:Int)=>yI fu vals k s=some out') (fun s=>out'=Out.next s) 0 fu hB1 ⟨hf,H⟩ (fun s h=>by cases h) ?_ ?_
 rintro fk i a w hR1 hI
 replace hR1:yI fu vals (fk + 1) i=some out':=hR1
 rw [yI] at hR1
 obtain ⟨hf,H⟩:=hI
 refine sqz (pz 1 hf fun a hf=>?_)
 refine ub (ua (sq (ib hR1 hf (fun hc hR1=>?_) fun hc hR1=>?_)))
 refine wp_skip (ua (sq (wp_block (sq (reg ?_)))))
 obtain ⟨e,he,hR1⟩:=bs_ hR1
 refine wl0 rfl (vn hf H Tryz.underlying35 TF.sz3 0 rfl rfl rfl he (by decide) fun p o cs a hf hr H=>?_)
 obtain rfl:=hr
 refine oq hf (uI hf H TF.ls3 0 0 rfl rfl rfl) fun a hf=>?_
 refine pz 1 hf fun a hf=>?_
 refine wr (pz 3 hf fun a hf=>?_)
 refine ub (ua (ib hR1 hf (fun hc2 hR1=>?_) fun hc2 hR1=>?_))
 refine sqz (pz 2 hf fun a hf=>?_)
 refine ub (ua (wp_ret (u9 (uf (uf (u9 (uf (uf (?_)))))))))
 obtain rfl:=oi hR1
 replace hF:=xc hF
 obtain rfl:=oi hF
 refine rT hf ?_
 exact ⟨_,rfl,H.bel,ug⟩
 refine wp_skip (uV (ua (reg (pz 2 hf fun a hf=>?_))))
 refine ub ?_
 have hf:=hf.pn [3,6,7,8]
 have H:=H.lk 0 0 0 [1]
 exact ua ⟨w64 (i + 1),hR1,hf,H⟩
 refine wp_exit (uy (uy (vJ (?_))))
 have hf:=hf.pn [3,6,7,8]
 have H:=H.lk 0 0 0 [0]
 exact ⟨i,(Option.some.inj hR1).symm,hf,H⟩
 rintro a w ⟨i2,rfl,hf,H⟩
 replace hF:=vG hF
 refine ua (sqz (pz 2 hf fun a hf=>?_))
 refine wer ?_
 obtain rfl:=oi hF
 refine rT hf ?_
 exact ⟨_,rfl,H.bel,ug⟩
theorem gcn {S:Nat→Prop} {v0_:Value} {v1_:Value} {a':Fiber} {b':Fiber} {r:Int} (h0:VR w0 S v0_ a') (h1:VR w0 S v1_ b') (hF:yH fu a' b'=some r) :
    Calls Tryz.prog 161 [v0_,v1_].toArray w0 fun e w'=>∃ v,e=.returned v∧(Below w0.heap.size w0 w'∧VR w' (St ⟨w0,[]⟩ S [] [] [] true) v r):=by
 obtain rfl:=gaD h0
 obtain rfl:=gaD h1
 have H:=Mem.start ⟨w0,[]⟩ S
 refine en Tryz.func161 fun a hf=>?_
 rw [yH] at hF
 refine bx hf H fun b2 a w hf H=>?_
 refine wl0 rfl (xl hf H rfl rfl (by decide) fun b3 a w hf H=>?_)
 refine pz 1 hf fun a hf=>?_
 refine ub (ua (sq (dw [] 23 fun w hb=>?_)))
 have H:=H.keep hb
 refine zp 0 hf trivial fun a hf=>?_
 refine strT (H.lk 2 0 0 []) (fun w H=>trivial) fun hS=>?_
 refine zS 1 [] rfl rfl rfl rfl hf hS (fun w H=>ue hf H TF.ls3 0 rfl rfl rfl) fun a hf=>?_
 refine zp 2 hf hS fun a hf=>?_
 refine strT H (fun w H=>H.lk 2 0 0 []) fun hS=>?_
 refine zS 3 [] rfl rfl rfl rfl hf hS (fun w H=>ue hf H TF.ls3 0 rfl rfl rfl) fun a hf=>?_
 refine zp 5 hf hS fun a hf=>?_
 refine zS 6 [] rfl rfl rfl rfl hf hS (fun w H=>ue hf H TF.ls3 1 rfl rfl rfl) fun a hf=>?_
 refine zp 7 hf hS fun a hf=>?_
 refine zS 8 [] rfl rfl rfl rfl hf hS (fun w H=>ue hf H TF.ls3 0 rfl rfl rfl) fun a hf=>?_
 refine zp 10 hf hS fun a hf=>?_
 refine zS 11 [] rfl rfl rfl rfl hf hS (fun w H=>ue hf H TF.ls3 1 rfl rfl rfl) fun a hf=>?_
 refine zp 12 hf hS fun a hf=>?_
 refine zS 13 [] rfl rfl rfl rfl hf hS (fun w H=>ue hf H TF.ls3 0 rfl rfl rfl) fun a hf=>?_
 refine zp 15 hf hS fun a hf=>?_
 refine zS 16 [] rfl rfl rfl rfl hf hS (fun w H=>ue hf H TF.ls3 1 rfl rfl rfl) fun a hf=>?_
 refine zp 17 hf hS fun a hf=>?_
 refine zS 18 [] rfl rfl rfl rfl hf hS (fun w H=>ue hf H TF.ls3 0 rfl rfl rfl) fun a hf=>?_
 obtain ⟨y,hy,hF⟩:=bs_ hF
 refine nn 4 rfl (oC hf TF.gjG (zF (S:=TT) ug ug hy) fun v w a hp hf=>?_)
 obtain ⟨hb,hp⟩:=hp
 obtain rfl:=uv hp
 have H:=H.keep hb
 have hS:=H
 refine aS hS ?_
 obtain ⟨y2,hy2,hF⟩:=bs_ hF
 refine nn 9 rfl (oC hf TF.gjG (zF (S:=TT) ug ug hy2) fun v2 w a hp2 hf=>?_)
 obtain ⟨hb2,hp2⟩:=hp2
 obtain rfl:=uv hp2
 have H:=H.keep hb2
 have hS:=H
 refine aS hS ?_
 obtain ⟨y3,hy3,hF⟩:=bs_ hF
 refine nn 14 rfl (oC hf TF.gjG (zF (S:=TT) ug ug hy3) fun v3 w a hp3 hf=>?_)
 obtain ⟨hb3,hp3⟩:=hp3
 obtain rfl:=uv hp3
 have H:=H.keep hb3
 have hS:=H
 refine aS hS ?_
 obtain ⟨y4,hy4,hF⟩:=bs_ hF
 refine nn 19 rfl (oC hf TF.gjG (zF (S:=TT) ug ug hy4) fun v4 w a hp4 hf=>?_)
 obtain ⟨hb4,hp4⟩:=hp4
 obtain rfl:=uv hp4
 have H:=H.keep hb4
 have hS:=H
 refine aS hS ?_
 refine nn 20 rfl (bl hf H 3 ([y,y2,y3,y4]:List Int) [(.int .i64 y),(.int .i64 y2),(.int .i64 y3),(.int .i64 y4)] (elI [y,y2,y3,y4]) fun A a w hf H=>?_)
 have hS:=H.lk 3 0 0 []
 refine aS hS ?_
 obtain ⟨y5,hy5,hF⟩:=bs_ hF
 refine nn 21 rfl (oC hf TF.glZ (gfs (S:=TT) (uB (H.rowTrue 0 rfl)) hy5) fun v5 w a hp5 hf=>?_)
 obtain ⟨hb5,hp5⟩:=hp5
 obtain rfl:=uv hp5
 have H:=H.keep hb5
 have hS:=H.lk 3 0 0 []
 refine aS hS ?_
 refine zp 22 hf hS fun a hf=>?_
 refine dk ?_
 have hf:=hf.pn [4]
 refine ua (wp_ret (?_))
 obtain rfl:=oi hF
 refine rT hf ?_
 exact ⟨_,rfl,H.bel,ug⟩
theorem gcc {S:Nat→Prop} {v0_:Value} {n':Network} {r:Bool} (h0:VR w0 S v0_ n') (hF:yt fu n'=some r) :
    Calls Tryz.prog 65 [v0_].toArray w0 fun e w'=>∃ v,e=.returned v∧(Below w0.heap.size w0 w'∧VR w' (St ⟨w0,[]⟩ S [] [] [] true) v r):=by
 obtain ⟨A,c,A2,c2,rfl,hl,hl2⟩:=vA h0
 have H:=Mem.start ⟨w0,[]⟩ S
 have H:=H.pA hl
 have H:=H.pA hl2
 refine en Tryz.func65 fun a hf=>?_
 rw [yt] at hF
 refine bx hf H fun b' a w hf H=>?_
 refine pz 1 hf fun a hf=>?_
 refine we (sqz (pz 1 hf fun a hf=>?_))
 refine lB 0 hf H TF.ls24 fun a hf=>?_
 refine pz 2 hf fun a hf=>?_
 refine ub (ua ?_)
 obtain ⟨out',hB1,hF⟩:=bs_ hF
 have hf:=hf.pn [1,8,9,10]
 have H:=H.lk 1 0 0 [0,1]
 refine vU (fun (s:Int) (a:Act) (w:World)=>match s with | i=>Fr a 91 [(1,(.pointer (some ⟨b',0,none⟩))),(8,(.slice A n'.Nodes.length c)),(9,(.int .i64 (n'.Nodes.length:Int))),(10,(.int .i64 i))]∧Mem ⟨w0,[]⟩ S [⟨b',27,[(.slice A n'.Nodes.length c),(.slice A2 n'.Fibers.length c2)]⟩] [] [] [(false,MP.val [(.slice A2 n'.Fibers.length c2)] (n'.Fibers:List Fiber)),(false,MP.val [(.slice A n'.Nodes.length c)] (n'.Nodes:List ByteArray))] w) (fun k (s:Int)=>vv fu n' k s=some out') (fun s=>out'=Out.next s) 0 fu hB1 ⟨hf,H⟩ (fun s h=>by cases h) ?_ ?_
 rintro fk i a w hR1 hI
 replace hR1:vv fu n' (fk + 1) i=some out':=hR1
 rw [vv] at hR1
 obtain ⟨hf,H⟩:=hI
 refine sqz (pz 1 hf fun a hf=>?_)
 refine ub (ua (sq (ib hR1 hf (fun hc hR1=>?_) fun hc hR1=>?_)))
 refine ws (pz 1 hf fun a hf=>?_)
 obtain ⟨e,he,hR1⟩:=bs_ hR1
 refine wl0 rfl (vn hf H Tryz.underlying24 TF.sz9 1 rfl rfl rfl he (by decide) fun p o cs a hf hr H=>?_)
 obtain rfl:=hr
 refine oq hf (uI hf H TF.ls9 0 0 rfl rfl rfl) fun a hf=>?_
 refine pz 2 hf fun a hf=>?_
 refine ub (ua (sq ?_))
 obtain ⟨c3,hGc3,hR1⟩:=bs_ hR1
 have fh:=hf.prune [1,8,9,10] rfl
 have Hm:=H.lk 1 0 0 [1,2]
 refine midF 25 (.bool c3) fh Hm ?_ fun a w hf H=>?_
 refine reg (pz 1 hf fun a hf=>?_)
 obtain ⟨y,hy,hGc3⟩:=bs_ hGc3
 refine oc hf TF.gmm (geT (S:=TT) ge2 hy) fun v w a hp hf=>?_
 obtain ⟨hb,hp⟩:=hp
 obtain rfl:=uo hp
 have H:=H.keep hb
 refine pz 2 hf fun a hf=>?_
 refine iteB hGc3 (fun hc2 hGc3=>?_) fun hc2 hGc3=>?_
 have hf:=hf.lit 18 rfl hc2
 refine pz 7 hf fun a hf=>?_
 obtain rfl:=oi hGc3
 have hf:=hf.pn [25,1,8,9,10]
 have H:=H.lk 1 0 0 [1,2]
 exact ub ⟨hf,H⟩
 have hf:=hf.lit 18 rfl hc2
 refine pz 1 hf fun a hf=>?_
 refine wlg hf rfl rfl rfl (op_q hf (ue hf H TF.ls24 0 rfl rfl rfl) rfl (by decide) fun a hf=>?_)
 refine pz 1 hf fun a hf=>?_
 obtain ⟨l,hl_,hGc3⟩:=bs_ hGc3
 refine wlg hf rfl rfl rfl (gid hf H Tryz.underlying24 TF.sz9 2 rfl rfl rfl rfl hl_ (by decide) fun A3 c4 a hf H=>?_)
 refine pz 1 hf fun a hf=>?_
 obtain ⟨y2,hy2,hGc3⟩:=bs_ hGc3
 refine wlg hf rfl rfl rfl (oC hf TF.gml (gar (S:=TT) (uB (H.rt 0 rfl)) ge2 hy2) fun v2 w a hp2 hf=>?_)
 obtain ⟨hb2,hp2⟩:=hp2
 obtain rfl:=uo hp2
 have H:=H.keep hb2
 refine pz 1 hf fun a hf=>?_
 obtain rfl:=oi hGc3
 have hf:=hf.pn [25,1,8,9,10]
 have H:=H.lk 1 0 0 [2,3]
 exact ub ⟨hf,H⟩
 refine ua (ib hR1 hf (fun hc3 hR1=>?_) fun hc3 hR1=>?_)
 refine sqz (pz 1 hf fun a hf=>?_)
 refine ub (ua (wp_ret (u9 (uf (uf (u9 (uf (uf (?_)))))))))
 obtain rfl:=oi hR1
 replace hF:=xc hF
 obtain rfl:=oi hF
 refine rT hf ?_
 exact ⟨_,rfl,H.bel,uk⟩
 refine wp_skip (uV (ua (reg (pz 2 hf fun a hf=>?_))))
 refine ub ?_
 have hf:=hf.pn [1,8,9,10]
 have H:=H.lk 1 0 0 [0,1]
 exact ua ⟨w64 (i + 1),hR1,hf,H⟩
 refine wp_exit (uy (uy (vJ (?_))))
 have hf:=hf.pn [1,8,9,10]
 have H:=H.lk 1 0 0 [0,1]
 exact ⟨i,(Option.some.inj hR1).symm,hf,H⟩
 rintro a w ⟨i2,rfl,hf,H⟩
 replace hF:=vG hF
 refine ua (sq (sqz (pz 1 hf fun a hf=>?_)))
 refine lB 0 hf H TF.ls25 fun a hf=>?_
 refine pz 2 hf fun a hf=>?_
 refine ub (ua ?_)
 obtain ⟨out2,hB1,hF⟩:=bs_ hF
 have hf:=hf.pn [1,28,29,30]
 have H:=H.lk 1 0 0 [0,1]
 refine vU (fun (s:Int) (a:Act) (w:World)=>match s with | i3=>Fr a 91 [(1,(.pointer (some ⟨b',0,none⟩))),(28,(.slice A2 n'.Fibers.length c2)),(29,(.int .i64 (n'.Fibers.length:Int))),(30,(.int .i64 i3))]∧Mem ⟨w0,[]⟩ S [⟨b',27,[(.slice A n'.Nodes.length c),(.slice A2 n'.Fibers.length c2)]⟩] [] [] [(false,MP.val [(.slice A2 n'.Fibers.length c2)] (n'.Fibers:List Fiber)),(false,MP.val [(.slice A n'.Nodes.length c)] (n'.Nodes:List ByteArray))] w) (fun k (s:Int)=>vu fu n' k s=some out2) (fun s=>out2=Out.next s) 0 fu hB1 ⟨hf,H⟩ (fun s h=>by cases h) ?_ ?_
 rintro fk i3 a w hR1 hI
 replace hR1:vu fu n' (fk + 1) i3=some out2:=hR1
 rw [vu] at hR1
 obtain ⟨hf,H⟩:=hI
 refine sqz (pz 1 hf fun a hf=>?_)
 refine ub (ua (sq (ib hR1 hf (fun hc4 hR1=>?_) fun hc4 hR1=>?_)))
 refine ws (pz 1 hf fun a hf=>?_)
 obtain ⟨e2,he2,hR1⟩:=bs_ hR1
 refine wl0 rfl (vn hf H Tryz.underlying25 TF.zc 0 rfl rfl rfl he2 (by decide) fun p2 o2 cs2 a hf hr2 H=>?_)
 obtain rfl:=uZ hr2
 refine oq hf (uz hf H TF.gas 0 0 rfl rfl rfl rfl) fun a hf=>?_
 refine aL hf H TF.gj2 fun b2 a w hf H=>?_
 refine pz 1 hf fun a hf=>?_
 refine sB 0 hf H TF.zc fun w H=>?_
 refine ub (ua (sq ?_))
 obtain ⟨c5,hGc5,hR1⟩:=bs_ hR1
 have fh2:=hf.prune [1,28,29,30] rfl
 have Hm2:=H.lk 2 0 0 [1,2]
 refine midF 79 (.bool c5) fh2 Hm2 ?_ fun a w hf H=>?_
 refine dw [] 45 fun w hb=>?_
 have H:=H.keep hb
 refine zp 0 hf trivial fun a hf=>?_
 refine strT (H.lk 1 0 0 []) (fun w H=>trivial) fun hS=>?_
 refine zS 1 [] rfl rfl rfl rfl hf hS (fun w H=>ue hf H TF.ls3 0 rfl rfl rfl) fun a hf=>?_
 refine zp 2 hf hS fun a hf=>?_
 refine zp 3 hf hS fun a hf=>?_
 refine iteB hGc5 (fun hc5 hGc5=>?_) fun hc5 hGc5=>?_
 have hf:=hf.lit 38 rfl hc5
 refine zU 4 hf hS fun a hf=>?_
 refine zU 5 hf hS fun a hf=>?_
 refine zU 6 hf hS fun a hf=>?_
 refine zU 7 hf hS fun a hf=>?_
 refine zU 8 hf hS fun a hf=>?_
 refine zp 9 hf hS fun a hf=>?_
 refine zp 10 hf hS fun a hf=>?_
 refine zU 11 hf hS fun a hf=>?_
 refine zU 12 hf hS fun a hf=>?_
 refine zU 13 hf hS fun a hf=>?_
 refine zU 14 hf hS fun a hf=>?_
 refine zU 15 hf hS fun a hf=>?_
 refine zU 16 hf hS fun a hf=>?_
 refine zp 17 hf hS fun a hf=>?_
 refine zp 18 hf hS fun a hf=>?_
 refine zU 19 hf hS fun a hf=>?_
 refine zU 20 hf hS fun a hf=>?_
 refine zU 21 hf hS fun a hf=>?_
 refine zU 22 hf hS fun a hf=>?_
 refine zp 23 hf hS fun a hf=>?_
 refine zp 24 hf hS fun a hf=>?_
 refine zU 25 hf hS fun a hf=>?_
 refine zU 26 hf hS fun a hf=>?_
 refine zU 27 hf hS fun a hf=>?_
 refine zU 28 hf hS fun a hf=>?_
 refine zp 29 hf hS fun a hf=>?_
 refine zp 30 hf hS fun a hf=>?_
 refine zU 31 hf hS fun a hf=>?_
 refine zU 32 hf hS fun a hf=>?_
 refine zU 33 hf hS fun a hf=>?_
 refine zV 34 hf hS fun a hf=>?_
 refine zV 35 hf hS fun a hf=>?_
 refine zV 36 hf hS fun a hf=>?_
 refine zV 37 hf hS fun a hf=>?_
 refine zV 38 hf hS fun a hf=>?_
 refine zV 39 hf hS fun a hf=>?_
 refine zV 40 hf hS fun a hf=>?_
 refine zV 41 hf hS fun a hf=>?_
 refine zV 42 hf hS fun a hf=>?_
 refine zU 43 hf hS fun a hf=>?_
 refine zp 44 hf hS fun a hf=>?_
 refine dk ?_
 obtain rfl:=oi hGc5
 have hf:=hf.pn [79,1,28,29,30]
 have H:=H.lk 2 0 0 [1,2]
 exact ⟨hf,H⟩
 have hf:=hf.lit 38 rfl hc5
 refine zg 4 hf hS fun a hf=>?_
 refine tSg 5 [] rfl rfl rfl rfl rfl rfl hf (by kernel_rfl) (by kernel_rfl) hS (fun w H=>ue hf H TF.ls3 0 rfl rfl rfl) fun a hf=>?_
 refine zg 6 hf hS fun a hf=>?_
 refine tSg 7 [] rfl rfl rfl rfl rfl rfl hf (by kernel_rfl) (by kernel_rfl) hS (fun w H=>ue hf H TF.ls3 0 rfl rfl rfl) fun a hf=>?_
 refine zg 8 hf hS fun a hf=>?_
 refine zp 9 hf hS fun a hf=>?_
 refine zp 10 hf hS fun a hf=>?_
 refine iteB hGc5 (fun hc6 hGc5=>?_) fun hc6 hGc5=>?_
 have hf:=hf.lit 45 rfl hc6
 refine zU 11 hf hS fun a hf=>?_
 refine zU 12 hf hS fun a hf=>?_
 refine zU 13 hf hS fun a hf=>?_
 refine zU 14 hf hS fun a hf=>?_
 refine zU 15 hf hS fun a hf=>?_
 refine zU 16 hf hS fun a hf=>?_
 refine zp 17 hf hS fun a hf=>?_
 refine zp 18 hf hS fun a hf=>?_
 refine zU 19 hf hS fun a hf=>?_
 refine zU 20 hf hS fun a hf=>?_
 refine zU 21 hf hS fun a hf=>?_
 refine zU 22 hf hS fun a hf=>?_
 refine zp 23 hf hS fun a hf=>?_
 refine zp 24 hf hS fun a hf=>?_
 refine zU 25 hf hS fun a hf=>?_
 refine zU 26 hf hS fun a hf=>?_
 refine zU 27 hf hS fun a hf=>?_
 refine zU 28 hf hS fun a hf=>?_
 refine zp 29 hf hS fun a hf=>?_
 refine zp 30 hf hS fun a hf=>?_
 refine zU 31 hf hS fun a hf=>?_
 refine zU 32 hf hS fun a hf=>?_
 refine zU 33 hf hS fun a hf=>?_
 refine zV 34 hf hS fun a hf=>?_
 refine zV 35 hf hS fun a hf=>?_
 refine zV 36 hf hS fun a hf=>?_
 refine zV 37 hf hS fun a hf=>?_
 refine zV 38 hf hS fun a hf=>?_
 refine zV 39 hf hS fun a hf=>?_
 refine zV 40 hf hS fun a hf=>?_
 refine zV 41 hf hS fun a hf=>?_
 refine zV 42 hf hS fun a hf=>?_
 refine zU 43 hf hS fun a hf=>?_
 refine zp 44 hf hS fun a hf=>?_
 refine dk ?_
 obtain rfl:=oi hGc5
 have hf:=hf.pn [79,1,28,29,30]
 have H:=H.lk 2 0 0 [1,2]
 exact ⟨hf,H⟩
 have hf:=hf.lit 45 rfl hc6
 refine zg 11 hf hS fun a hf=>?_
 refine tSg 12 [] rfl rfl rfl rfl rfl rfl hf (by kernel_rfl) (by kernel_rfl) hS (fun w H=>ue hf H TF.ls3 0 rfl rfl rfl) fun a hf=>?_
 refine zg 13 hf hS fun a hf=>?_
 refine strT (H.lk 3 0 0 []) (fun w H=>H.lk 1 0 0 []) fun hS=>?_
 refine tSg 14 [] rfl rfl rfl rfl rfl rfl hf (by kernel_rfl) (by kernel_rfl) hS (fun w H=>ue hf H TF.ls24 1 rfl rfl rfl) fun a hf=>?_
 refine zg 15 hf hS fun a hf=>?_
 refine zg 16 hf hS fun a hf=>?_
 refine zp 17 hf hS fun a hf=>?_
 refine zp 18 hf hS fun a hf=>?_
 refine iteB hGc5 (fun hc7 hGc5=>?_) fun hc7 hGc5=>?_
 have hf:=hf.lit 53 rfl hc7
 refine zU 19 hf hS fun a hf=>?_
 refine zU 20 hf hS fun a hf=>?_
 refine zU 21 hf hS fun a hf=>?_
 refine zU 22 hf hS fun a hf=>?_
 refine zp 23 hf hS fun a hf=>?_
 refine zp 24 hf hS fun a hf=>?_
 refine zU 25 hf hS fun a hf=>?_
 refine zU 26 hf hS fun a hf=>?_
 refine zU 27 hf hS fun a hf=>?_
 refine zU 28 hf hS fun a hf=>?_
 refine zp 29 hf hS fun a hf=>?_
 refine zp 30 hf hS fun a hf=>?_
 refine zU 31 hf hS fun a hf=>?_
 refine zU 32 hf hS fun a hf=>?_
 refine zU 33 hf hS fun a hf=>?_
 refine zV 34 hf hS fun a hf=>?_
 refine zV 35 hf hS fun a hf=>?_
 refine zV 36 hf hS fun a hf=>?_
 refine zV 37 hf hS fun a hf=>?_
 refine zV 38 hf hS fun a hf=>?_
 refine zV 39 hf hS fun a hf=>?_
 refine zV 40 hf hS fun a hf=>?_
 refine zV 41 hf hS fun a hf=>?_
 refine zV 42 hf hS fun a hf=>?_
 refine zU 43 hf hS fun a hf=>?_
 refine zp 44 hf hS fun a hf=>?_
 refine dk ?_
 obtain rfl:=oi hGc5
 have hf:=hf.pn [79,1,28,29,30]
 have H:=H.lk 2 0 0 [1,2]
 exact ⟨hf,H⟩
 have hf:=hf.lit 53 rfl hc7
 refine zg 19 hf hS fun a hf=>?_
 refine tSg 20 [] rfl rfl rfl rfl rfl rfl hf (by kernel_rfl) (by kernel_rfl) hS (fun w H=>ue hf H TF.ls3 0 rfl rfl rfl) fun a hf=>?_
 obtain ⟨y3,hy3,hGc5⟩:=bs_ hGc5
 refine n1g 21 (by kernel_rfl) rfl rfl rfl rfl hf (oC hf TF.ggd (yb (S:=TT) ug ug ug hy3) fun v3 w a hp3 hf=>?_)
 obtain ⟨hb3,hp3⟩:=hp3
 obtain rfl:=uo hp3
 have H:=H.keep hb3
 have hS:=H.lk 3 0 0 []
 refine aS hS ?_
 refine zg 22 hf hS fun a hf=>?_
 refine zp 23 hf hS fun a hf=>?_
 refine zp 24 hf hS fun a hf=>?_
 refine iteB hGc5 (fun hc8 hGc5=>?_) fun hc8 hGc5=>?_
 have hf:=hf.lit 59 rfl hc8
 refine zU 25 hf hS fun a hf=>?_
 refine zU 26 hf hS fun a hf=>?_
 refine zU 27 hf hS fun a hf=>?_
 refine zU 28 hf hS fun a hf=>?_
 refine zp 29 hf hS fun a hf=>?_
 refine zp 30 hf hS fun a hf=>?_
 refine zU 31 hf hS fun a hf=>?_
 refine zU 32 hf hS fun a hf=>?_
 refine zU 33 hf hS fun a hf=>?_
 refine zV 34 hf hS fun a hf=>?_
 refine zV 35 hf hS fun a hf=>?_
 refine zV 36 hf hS fun a hf=>?_
 refine zV 37 hf hS fun a hf=>?_
 refine zV 38 hf hS fun a hf=>?_
 refine zV 39 hf hS fun a hf=>?_
 refine zV 40 hf hS fun a hf=>?_
 refine zV 41 hf hS fun a hf=>?_
 refine zV 42 hf hS fun a hf=>?_
 refine zU 43 hf hS fun a hf=>?_
 refine zp 44 hf hS fun a hf=>?_
 refine dk ?_
 obtain rfl:=oi hGc5
 have hf:=hf.pn [79,1,28,29,30]
 have H:=H.lk 2 0 0 [1,2]
 exact ⟨hf,H⟩
 have hf:=hf.lit 59 rfl hc8
 refine zg 25 hf hS fun a hf=>?_
 refine tSg 26 [] rfl rfl rfl rfl rfl rfl hf (by kernel_rfl) (by kernel_rfl) hS (fun w H=>ue hf H TF.ls3 0 rfl rfl rfl) fun a hf=>?_
 obtain ⟨y4,hy4,hGc5⟩:=bs_ hGc5
 refine n1g 27 (by kernel_rfl) rfl rfl rfl rfl hf (oC hf TF.ggd (yb (S:=TT) ug ug ug hy4) fun v4 w a hp4 hf=>?_)
 obtain ⟨hb4,hp4⟩:=hp4
 obtain rfl:=uo hp4
 have H:=H.keep hb4
 have hS:=H.lk 3 0 0 []
 refine aS hS ?_
 refine zg 28 hf hS fun a hf=>?_
 refine zp 29 hf hS fun a hf=>?_
 refine zp 30 hf hS fun a hf=>?_
 refine iteB hGc5 (fun hc9 hGc5=>?_) fun hc9 hGc5=>?_
 have hf:=hf.lit 65 rfl hc9
 refine zU 31 hf hS fun a hf=>?_
 refine zU 32 hf hS fun a hf=>?_
 refine zU 33 hf hS fun a hf=>?_
 refine zV 34 hf hS fun a hf=>?_
 refine zV 35 hf hS fun a hf=>?_
 refine zV 36 hf hS fun a hf=>?_
 refine zV 37 hf hS fun a hf=>?_
 refine zV 38 hf hS fun a hf=>?_
 refine zV 39 hf hS fun a hf=>?_
 refine zV 40 hf hS fun a hf=>?_
 refine zV 41 hf hS fun a hf=>?_
 refine zV 42 hf hS fun a hf=>?_
 refine zU 43 hf hS fun a hf=>?_
 refine zp 44 hf hS fun a hf=>?_
 refine dk ?_
 obtain rfl:=oi hGc5
 have hf:=hf.pn [79,1,28,29,30]
 have H:=H.lk 2 0 0 [1,2]
 exact ⟨hf,H⟩
 have hf:=hf.lit 65 rfl hc9
 refine zg 31 hf hS fun a hf=>?_
 refine zg 32 hf hS fun a hf=>?_
 refine zg 33 hf hS fun a hf=>?_
 refine iteB hGc5 (fun hc10 hGc5=>?_) fun hc10 hGc5=>?_
 have hf:=hf.lit 68 rfl hc10
 refine zg 34 hf hS fun a hf=>?_
 refine tSg 35 [] rfl rfl rfl rfl rfl rfl hf (by kernel_rfl) (by kernel_rfl) hS (fun w H=>ue hf H TF.ls25 1 rfl rfl rfl) fun a hf=>?_
 refine zg 36 hf hS fun a hf=>?_
 refine zg 37 hf hS fun a hf=>?_
 obtain ⟨e3,he3,hGc5⟩:=bs_ hGc5
 obtain ⟨p3,o3,cs3,hx,hr3,H⟩:=ux H Tryz.underlying25 TF.zc 1 rfl he3
 refine tPg 38 rfl rfl rfl rfl rfl rfl hf (by kernel_rfl) (fun _=>hS) (fun w=>uu hf rfl rfl rfl hx w) fun a hf=>?_
 obtain rfl:=uZ hr3
 refine strT (H.lk 3 0 0 [0]) (fun w H=>H.lk 3 0 0 []) fun hS=>?_
 refine tSg 39 [] rfl rfl rfl rfl rfl rfl hf (by kernel_rfl) (by kernel_rfl) hS (fun w H=>uz hf H TF.gas 0 0 rfl rfl rfl rfl) fun a hf=>?_
 refine tSg 40 [] rfl rfl rfl rfl rfl rfl hf (by kernel_rfl) (by kernel_rfl) hS (fun w H=>ul hf H TF.gas 0 rfl rfl rfl rfl) fun a hf=>?_
 obtain ⟨y5,hy5,hGc5⟩:=bs_ hGc5
 refine n1g 41 (by kernel_rfl) rfl rfl rfl rfl hf (oC hf TF.gmk (gcn (S:=TT) xU xU hy5) fun v5 w a hp5 hf=>?_)
 obtain ⟨hb5,hp5⟩:=hp5
 obtain rfl:=uv hp5
 have H:=H.keep hb5
 have hS:=H.lk 3 0 0 [0]
 refine aS hS ?_
 refine zg 42 hf hS fun a hf=>?_
 refine zg 43 hf hS fun a hf=>?_
 refine zp 44 hf hS fun a hf=>?_
 refine dk ?_
 obtain rfl:=oi hGc5
 have hf:=hf.pn [79,1,28,29,30]
 have H:=H.lk 2 0 0 [2,3]
 exact ⟨hf,H⟩
 have hf:=hf.lit 68 rfl hc10
 refine zU 34 hf hS fun a hf=>?_
 refine zU 35 hf hS fun a hf=>?_
 refine zU 36 hf hS fun a hf=>?_
 refine zU 37 hf hS fun a hf=>?_
 refine zU 38 hf hS fun a hf=>?_
 refine zU 39 hf hS fun a hf=>?_
 refine zU 40 hf hS fun a hf=>?_
 refine zU 41 hf hS fun a hf=>?_
 refine zU 42 hf hS fun a hf=>?_
 refine zg 43 hf hS fun a hf=>?_
 refine zp 44 hf hS fun a hf=>?_
 refine dk ?_
 obtain rfl:=oi hGc5
 have hf:=hf.pn [79,1,28,29,30]
 have H:=H.lk 2 0 0 [1,2]
 exact ⟨hf,H⟩
 refine ua (ib hR1 hf (fun hc11 hR1=>?_) fun hc11 hR1=>?_)
 refine sqz (pz 1 hf fun a hf=>?_)
 refine ub (ua (wp_ret (u9 (uf (uf (u9 (uf (uf (?_)))))))))
 obtain rfl:=oi hR1
 replace hF:=xc hF
 obtain rfl:=oi hF
 refine rT hf ?_
 exact ⟨_,rfl,H.bel,uk⟩
 refine wp_skip (uV (ua (reg (pz 2 hf fun a hf=>?_))))
 refine ub ?_
 have hf:=hf.pn [1,28,29,30]
 have H:=H.lk 1 0 0 [0,1]
 exact ua ⟨w64 (i3 + 1),hR1,hf,H⟩
 refine wp_exit (uy (uy (vJ (?_))))
 have hf:=hf.pn [1,28,29,30]
 have H:=H.lk 1 0 0 [0,1]
 exact ⟨i3,(Option.some.inj hR1).symm,hf,H⟩
 rintro a w ⟨i4,rfl,hf,H⟩
 replace hF:=vG hF
 refine ua (sq ?_)
 obtain ⟨c6,hGc6,hF⟩:=bs_ hF
 have fh3:=hf.prune [] rfl
 have Hm3:=H.lk 0 0 0 []
 refine midF 2 (.bool c6) fh3 Hm3 ?_ fun a w hf H=>?_
 refine reg (pz 1 hf fun a hf=>?_)
 refine lB 0 hf H TF.ls24 fun a hf=>?_
 refine pz 1 hf fun a hf=>?_
 obtain ⟨y6,hy6,hGc6⟩:=bs_ hGc6
 refine oc hf TF.ggd (yb (S:=TT) ug ug ug hy6) fun v6 w a hp6 hf=>?_
 obtain ⟨hb6,hp6⟩:=hp6
 obtain rfl:=uo hp6
 have H:=H.keep hb6
 refine pz 1 hf fun a hf=>?_
 refine iteB hGc6 (fun hc12 hGc6=>?_) fun hc12 hGc6=>?_
 have hf:=hf.lit 85 rfl hc12
 refine pz 1 hf fun a hf=>?_
 refine wlg hf rfl rfl rfl (op_q hf (ue hf H TF.ls25 0 rfl rfl rfl) rfl (by decide) fun a hf=>?_)
 refine pz 4 hf fun a hf=>?_
 obtain rfl:=oi hGc6
 have hf:=hf.pn [2]
 have H:=H.lk 0 0 0 []
 exact ub ⟨hf,H⟩
 have hf:=hf.lit 85 rfl hc12
 refine pz 6 hf fun a hf=>?_
 obtain rfl:=oi hGc6
 have hf:=hf.pn [2]
 have H:=H.lk 0 0 0 []
 exact ub ⟨hf,H⟩
 refine ua (wp_ret (?_))
 obtain rfl:=oi hF
 refine rT hf ?_
 exact ⟨_,rfl,H.bel,uk⟩
theorem gdZ {S:Nat→Prop} {v0_:Value} {v1_:Value} {f:Fiber} {node:Int} {r:Int} (h0:VR w0 S v0_ f) (h1:VR w0 S v1_ node) (hF:ga5 fu f node=some r) :
    Calls Tryz.prog 162 [v0_,v1_].toArray w0 fun e w'=>∃ v,e=.returned v∧(Below w0.heap.size w0 w'∧VR w' (St ⟨w0,[]⟩ S [] [] [] true) v r):=by
 obtain rfl:=gaD h0
 obtain rfl:=uv h1
 have H:=Mem.start ⟨w0,[]⟩ S
 refine en Tryz.func162 fun a hf=>?_
 rw [ga5] at hF
 refine bx hf H fun b' a w hf H=>?_
 refine pz 1 hf fun a hf=>?_
 refine we (sqz (pz 1 hf fun a hf=>?_))
 refine ub (ua (wp_block (sqz (pz 1 hf fun a hf=>?_))))
 refine lB 0 hf H TF.ls3 fun a hf=>?_
 refine pz 2 hf fun a hf=>?_
 refine ub (ua (ib hF hf (fun hc hF=>?_) fun hc hF=>?_))
 refine sqz (pz 1 hf fun a hf=>?_)
 refine lB 0 hf H TF.ls3 fun a hf=>?_
 refine pz 1 hf fun a hf=>?_
 refine ub (ua (wp_ret (u9 (uf (?_)))))
 obtain rfl:=oi hF
 refine rT hf ?_
 exact ⟨_,rfl,H.bel,ug⟩
 refine sqz (pz 1 hf fun a hf=>?_)
 refine lB 0 hf H TF.ls3 fun a hf=>?_
 refine pz 2 hf fun a hf=>?_
 refine ub (ua (ib hF hf (fun hc2 hF=>?_) fun hc2 hF=>?_))
 refine sqz (pz 1 hf fun a hf=>?_)
 refine lB 0 hf H TF.ls3 fun a hf=>?_
 refine pz 1 hf fun a hf=>?_
 have hf:=hf.pn [4]
 refine ub (ua (wp_ret (u9 (uf (?_)))))
 obtain rfl:=oi hF
 refine rT hf ?_
 exact ⟨_,rfl,H.bel,ug⟩
 refine wp_skip (uV (ua (sqz (pz 1 hf fun a hf=>?_))))
 refine wer ?_
 obtain rfl:=oi hF
 refine rT hf ?_
 exact ⟨_,rfl,H.bel,ug⟩
theorem gb0 {S:Nat→Prop} {v0_:Value} {v1_:Value} {s':List Int} {v:Int} {r:Int} (h0:VR w0 S v0_ s') (h1:VR w0 S v1_ v) (hF:xS fu s' v=some r) :
    Calls Tryz.prog 165 [v0_,v1_].toArray w0 fun e w'=>∃ v,e=.returned v∧(Below w0.heap.size w0 w'∧VR w' (St ⟨w0,[]⟩ S [] [] [] true) v r):=by
 obtain ⟨A,c,rfl,hl⟩:=u4 h0
 obtain rfl:=uv h1
 have H:=Mem.start ⟨w0,[]⟩ S
 have H:=H.pA hl
 refine en Tryz.func165 fun a hf=>?_
 rw [xS] at hF
 refine sqz (pz 1 hf fun a hf=>?_)
 refine we (sqz (pz 3 hf fun a hf=>?_))
 refine ub (ua ?_)
 obtain ⟨out',hB1,hF⟩:=bs_ hF
 have hf:=hf.pn [0,1,7,8]
 have H:=H.lk 0 0 0 [0]
 refine vU (fun (s:Int) (a:Act) (w:World)=>match s with | i=>Fr a 19 [(0,(.slice A s'.length c)),(1,(.int .i64 v)),(7,(.int .i64 (s'.length:Int))),(8,(.int .i64 i))]∧Mem ⟨w0,[]⟩ S [] [] [] [(false,MP.val [(.slice A s'.length c)] (s':List Int))] w) (fun k (s:Int)=>vk fu s' v k s=some out') (fun s=>out'=Out.next s) 0 fu hB1 ⟨hf,H⟩ (fun s h=>by cases h) ?_ ?_
 rintro fk i a w hR1 hI
 replace hR1:vk fu s' v (fk + 1) i=some out':=hR1
 rw [vk] at hR1
 obtain ⟨hf,H⟩:=hI
 refine sqz (pz 1 hf fun a hf=>?_)
 refine ub (ua (sq (ib hR1 hf (fun hc hR1=>?_) fun hc hR1=>?_)))
 refine ws (pz 2 hf fun a hf=>?_)
 refine wr (pz 3 hf fun a hf=>?_)
 obtain ⟨e,he,hR1⟩:=bs_ hR1
 refine wl0 rfl (vn hf H Tryz.underlying35 TF.sz3 0 rfl rfl rfl he (by decide) fun p o cs a hf hr H=>?_)
 obtain rfl:=hr
 refine oq hf (uI hf H TF.ls3 0 0 rfl rfl rfl) fun a hf=>?_
 refine pz 1 hf fun a hf=>?_
 refine ub (ua (ib hR1 hf (fun hc2 hR1=>?_) fun hc2 hR1=>?_))
 refine sqz (pz 2 hf fun a hf=>?_)
 have hf:=hf.pn [4]
 refine ub (ua (wp_ret (u9 (uf (uf (u9 (uf (uf (?_)))))))))
 obtain rfl:=oi hR1
 replace hF:=xc hF
 obtain rfl:=oi hF
 refine rT hf ?_
 exact ⟨_,rfl,H.bel,ug⟩
 refine wp_skip (uV (ua (reg (pz 2 hf fun a hf=>?_))))
 refine ub ?_
 have hf:=hf.pn [0,1,7,8]
 have H:=H.lk 0 0 0 [1]
 exact ua ⟨w64 (i + 1),hR1,hf,H⟩
 refine wp_exit (uy (uy (vJ (?_))))
 have hf:=hf.pn [0,1,7,8]
 have H:=H.lk 0 0 0 [0]
 exact ⟨i,(Option.some.inj hR1).symm,hf,H⟩
 rintro a w ⟨i2,rfl,hf,H⟩
 replace hF:=vG hF
 refine ua (sqz (pz 1 hf fun a hf=>?_))
 refine wer ?_
 obtain rfl:=oi hF
 refine rT hf ?_
 exact ⟨_,rfl,H.bel,ug⟩
theorem zO {S:Nat→Prop} {v0_:Value} {v1_:Value} {s':List Int} {v:Int} {r:Bool} (h0:VR w0 S v0_ s') (h1:VR w0 S v1_ v) (hF:vS fu s' v=some r) :
    Calls Tryz.prog 72 [v0_,v1_].toArray w0 fun e w'=>∃ v,e=.returned v∧(Below w0.heap.size w0 w'∧VR w' (St ⟨w0,[]⟩ S [] [] [] true) v r):=by
 obtain ⟨A,c,rfl,hl⟩:=u4 h0
 obtain rfl:=uv h1
 have H:=Mem.start ⟨w0,[]⟩ S
 have H:=H.pA hl
 refine en Tryz.func72 fun a hf=>?_
 rw [vS] at hF
 refine sqz (pz 1 hf fun a hf=>?_)
 refine wr (pz 2 hf fun a hf=>?_)
 obtain ⟨y,hy,hF⟩:=bs_ hF
 refine oc hf TF.gmh (gb0 (S:=TT) (uB (H.rt 0 rfl)) ug hy) fun v2 w a hp hf=>?_
 obtain ⟨hb,hp⟩:=hp
 obtain rfl:=uv hp
 have H:=H.keep hb
 refine pz 2 hf fun a hf=>?_
 refine wer ?_
 obtain rfl:=oi hF
 refine rT hf ?_
 exact ⟨_,rfl,H.bel,uk⟩
theorem ger {S:Nat→Prop} {v0_:Value} {v1_:Value} {n':Network} {r':Route} {r:List Int×Bool} (h0:VR w0 S v0_ n') (h1:VR w0 S v1_ r') (hF:gaT fu n' r'=some r) :
    Calls Tryz.prog 66 [v0_,v1_].toArray w0 fun e w'=>∃ v,e=.returned v∧(Below w0.heap.size w0 w'∧∃ F0,∃ u0 u1,v=.tuple #[u0,u1]∧VO w' F0 u0 r.1∧VR w' (St ⟨w0,[]⟩ S [] [] [] true) u1 r.2∧New w0 w' F0):=by
 obtain ⟨A,c,A2,c2,rfl,hl,hl2⟩:=vA h0
 obtain ⟨A3,c3,rfl,hl3⟩:=yi h1
 have H:=Mem.start ⟨w0,[]⟩ S
 have H:=H.pA hl
 have H:=H.pA hl2
 have H:=H.pA hl3
 refine en Tryz.func66 fun a hf=>?_
 rw [gaT] at hF
 refine bx hf H fun b' a w hf H=>?_
 refine wl0 rfl (xl hf H rfl rfl (by decide) fun b2 a w hf H=>?_)
 refine pz 2 hf fun a hf=>?_
 refine ub (ua (sq (sq ?_)))
 obtain ⟨c4,hGc4,hF⟩:=bs_ hF
 have fh:=hf.prune [2,3] rfl
 have Hm:=H.lm 3 0 0 3 7
 refine midF 23 (.bool c4) fh Hm ?_ fun a w hf H=>?_
 refine reg (pz 1 hf fun a hf=>?_)
 refine lB 0 hf H TF.ls3 fun a hf=>?_
 refine pz 1 hf fun a hf=>?_
 refine lB 1 hf H TF.ls24 fun a hf=>?_
 refine pz 2 hf fun a hf=>?_
 obtain ⟨y,hy,hGc4⟩:=bs_ hGc4
 refine oc hf TF.ggd (yb (S:=TT) ug ug ug hy) fun v w a hp hf=>?_
 obtain ⟨hb,hp⟩:=hp
 obtain rfl:=uo hp
 have H:=H.keep hb
 refine pz 2 hf fun a hf=>?_
 refine iteB hGc4 (fun hc hGc4=>?_) fun hc hGc4=>?_
 have hf:=hf.lit 18 rfl hc
 refine pz 5 hf fun a hf=>?_
 obtain rfl:=oi hGc4
 have hf:=hf.pn [23,2,3]
 have H:=H.lm 3 0 0 3 7
 exact ub ⟨hf,H⟩
 have hf:=hf.lit 18 rfl hc
 refine pz 1 hf fun a hf=>?_
 refine wlg hf rfl rfl rfl (op_q hf (ue hf H TF.ls35 0 rfl rfl rfl) rfl (by decide) fun a hf=>?_)
 refine pz 3 hf fun a hf=>?_
 obtain rfl:=oi hGc4
 have hf:=hf.pn [23,2,3]
 have H:=H.lm 3 0 0 3 7
 exact ub ⟨hf,H⟩
 refine ua (ib hF hf (fun hc2 hF=>?_) fun hc2 hF=>?_)
 refine sqz (pz 2 hf fun a hf=>?_)
 refine ub (ua (wp_ret (uf (?_))))
 have H:=H.ownNil (Int)
 have H:=H.lend 0 rfl
 obtain rfl:=oi hF
 refine vL hf rfl (uE hf rfl) (uE hf rfl) ?_
 have hN:=H.ends1
 exact ⟨_,rfl,H.bel,[],_,_,rfl,(xE (H.ownAt 0 rfl)),uk,by first | exact hN | simpa using hN⟩
 refine wp_skip (ua (sq (dw [] 7 fun w hb=>?_)))
 have H:=H.keep hb
 refine zp 0 hf trivial fun a hf=>?_
 refine strT (H.lk 1 0 0 []) (fun w H=>trivial) fun hS=>?_
 refine zS 1 [] rfl rfl rfl rfl hf hS (fun w H=>ue hf H TF.ls3 0 rfl rfl rfl) fun a hf=>?_
 refine zp 3 hf hS fun a hf=>?_
 refine zS 4 [] rfl rfl rfl rfl hf hS (fun w H=>ue hf H TF.ls3 0 rfl rfl rfl) fun a hf=>?_
 refine nn 2 rfl (bl hf H 3 ([r'.Start]:List Int) [(.int .i64 r'.Start)] (el1 (y:=r'.Start) (rfl)) fun A4 a w hf H=>?_)
 have hS:=H.lk 1 0 0 []
 refine aS hS ?_
 refine zp 5 hf hS fun a hf=>?_
 refine zp 6 hf hS fun a hf=>?_
 refine dk ?_
 refine ua (sq (sqz (pz 1 hf fun a hf=>?_)))
 refine lB 0 hf H TF.ls35 fun a hf=>?_
 refine pz 2 hf fun a hf=>?_
 refine ub (ua ?_)
 obtain ⟨out2,hB1,hF⟩:=bs_ hF
 have hf:=hf.pn [2,6,7,30,31,32]
 have H:=H.lm 2 1 0 3 7
 refine vU (fun (s:List Int×Int×Int) (a:Act) (w:World)=>match s with | (out',at',i)=>∃ (A5:Option Addr) (c5:Nat) (E:Go.TypeId),Fr a 63 [(2,(.pointer (some ⟨b',0,none⟩))),(6,(.slice A5 out'.length c5)),(7,(.int .i64 at')),(30,(.slice A3 r'.Fibers.length c3)),(31,(.int .i64 (r'.Fibers.length:Int))),(32,(.int .i64 i))]∧Mem ⟨w0,[]⟩ S [⟨b',27,[(.slice A n'.Nodes.length c),(.slice A2 n'.Fibers.length c2)]⟩] [⟨.sh true,E,A5,c5,(out':List Int)⟩] [] [(false,MP.val [(.slice A3 r'.Fibers.length c3)] (r'.Fibers:List Int)),(false,MP.val [(.slice A2 n'.Fibers.length c2)] (n'.Fibers:List Fiber)),(false,MP.val [(.slice A n'.Nodes.length c)] (n'.Nodes:List ByteArray))] w) (fun k (s:List Int×Int×Int)=>yq fu n' r' k s.1 s.2.1 s.2.2=some out2) (fun s=>out2=Out.next s) ([r'.Start],r'.Start,0) fu hB1 ⟨A4,1,3,hf,H⟩ (fun s h=>by cases h) ?_ ?_
 rintro fk ⟨out',at',i⟩ a w hR1 hI
 replace hR1:yq fu n' r' (fk + 1) out' at' i=some out2:=hR1
 rw [yq] at hR1
 obtain ⟨A5,c5,E,hf,H⟩:=hI
 refine sqz (pz 1 hf fun a hf=>?_)
 refine ub (ua (sq (ib hR1 hf (fun hc3 hR1=>?_) fun hc3 hR1=>?_)))
 refine wp_skip (ua (sq (wp_block (sq (reg ?_)))))
 obtain ⟨e,he,hR1⟩:=bs_ hR1
 refine wl0 rfl (vn hf H Tryz.underlying35 TF.sz3 0 rfl rfl rfl he (by decide) fun p o cs a hf hr H=>?_)
 obtain rfl:=hr
 refine oq hf (uI hf H TF.ls3 0 0 rfl rfl rfl) fun a hf=>?_
 refine pz 1 hf fun a hf=>?_
 refine we (sqz (pz 2 hf fun a hf=>?_))
 refine lB 0 hf H TF.ls25 fun a hf=>?_
 refine pz 2 hf fun a hf=>?_
 obtain ⟨y2,hy2,hR1⟩:=bs_ hR1
 refine oc hf TF.ggd (yb (S:=TT) ug ug ug hy2) fun v2 w a hp2 hf=>?_
 obtain ⟨hb2,hp2⟩:=hp2
 obtain rfl:=uo hp2
 have H:=H.keep hb2
 refine pz 1 hf fun a hf=>?_
 refine ub (ua (ib hR1 hf (fun hc4 hR1=>?_) fun hc4 hR1=>?_))
 refine sqz (pz 2 hf fun a hf=>?_)
 have hf:=hf.pn [4,5]
 refine ub (ua (wp_ret (uf (u9 (uf (uf (u9 (uf (uf (?_))))))))))
 have H:=H.ownNil (Int)
 have H:=H.lend 0 rfl
 obtain rfl:=oi hR1
 replace hF:=xc hF
 obtain rfl:=oi hF
 refine vL hf rfl (uE hf rfl) (uE hf rfl) ?_
 have hN:=H.ends1
 exact ⟨_,rfl,H.bel,[],_,_,rfl,(xE (H.ownAt 0 rfl)),uk,by first | exact hN | simpa using hN⟩
 refine wp_skip (ua (sqz (pz 1 hf fun a hf=>?_)))
 refine lB 0 hf H TF.ls25 fun a hf=>?_
 refine pz 1 hf fun a hf=>?_
 obtain ⟨e2,he2,hR1⟩:=bs_ hR1
 refine wl0 rfl (vn hf H Tryz.underlying25 TF.zc 2 rfl rfl rfl he2 (by decide) fun p2 o2 cs2 a hf hr2 H=>?_)
 obtain rfl:=uZ hr2
 refine oq hf (uz hf H TF.gas 0 0 rfl rfl rfl rfl) fun a hf=>?_
 refine pz 1 hf fun a hf=>?_
 obtain ⟨y3,hy3,hR1⟩:=bs_ hR1
 refine oc hf TF.gmj (gdZ (S:=TT) xU ug hy3) fun v3 w a hp3 hf=>?_
 obtain ⟨hb3,hp3⟩:=hp3
 obtain rfl:=uv hp3
 have H:=H.keep hb3
 refine pz 1 hf fun a hf=>?_
 have hf:=hf.pn [2,6,7,30,31,32]
 refine ub (ua (sq (sq ?_)))
 obtain ⟨c6,hGc6,hR1⟩:=bs_ hR1
 have fh2:=hf.prune [2,6,7,30,31,32] rfl
 have Hm2:=H.lm 1 1 0 5 28
 refine midF 56 (.bool c6) fh2 Hm2 ?_ fun a w hf H=>?_
 refine reg (pz 3 hf fun a hf=>?_)
 refine iteB hGc6 (fun hc5 hGc6=>?_) fun hc5 hGc6=>?_
 have hf:=hf.lit 52 rfl hc5
 refine pz 4 hf fun a hf=>?_
 obtain rfl:=oi hGc6
 have hf:=hf.pn [56,2,6,7,30,31,32]
 have H:=H.lm 1 1 0 5 28
 exact ub ⟨hf,H⟩
 have hf:=hf.lit 52 rfl hc5
 refine pz 2 hf fun a hf=>?_
 obtain ⟨y4,hy4,hGc6⟩:=bs_ hGc6
 refine wlg hf rfl rfl rfl (oC hf TF.cl72 (zO (S:=TT) (uB (H.rowTrue 0 rfl)) ug hy4) fun v4 w a hp4 hf=>?_)
 obtain ⟨hb4,hp4⟩:=hp4
 obtain rfl:=uo hp4
 have H:=H.keep hb4
 refine pz 1 hf fun a hf=>?_
 obtain rfl:=oi hGc6
 have hf:=hf.pn [56,2,6,7,30,31,32]
 have H:=H.lm 1 1 0 5 28
 exact ub ⟨hf,H⟩
 refine ua (ib hR1 hf (fun hc6 hR1=>?_) fun hc6 hR1=>?_)
 refine sqz (pz 2 hf fun a hf=>?_)
 refine ub (ua (wp_ret (uf (u9 (uf (uf (u9 (uf (uf (?_))))))))))
 have H:=H.ownNil (Int)
 have H:=H.lend 0 rfl
 obtain rfl:=oi hR1
 replace hF:=xc hF
 obtain rfl:=oi hF
 refine vL hf rfl (uE hf rfl) (uE hf rfl) ?_
 have hN:=H.ends1
 exact ⟨_,rfl,H.bel,[],_,_,rfl,(xE (H.ownAt 0 rfl)),uk,by first | exact hN | simpa using hN⟩
 refine wp_skip (ua (reg (pz 2 hf fun a hf=>?_)))
 refine wl0 rfl (bl hf H 3 ([y3]:List Int) [(.int .i64 y3)] (el1 (y:=y3) (rfl)) fun A6 a w hf H=>?_)
 obtain ⟨l,hl_,hR1⟩:=bs_ hR1
 refine wl0 rfl (xg hf H Tryz.underlying35 TF.ai3 rfl (by decide) 1 0 rfl rfl rfl rfl (.inr rfl) hl_ (by decide) fun E2 A7 c7 a w hf H=>?_)
 refine pz 1 hf fun a hf=>?_
 refine ub (uV (ua (reg (pz 2 hf fun a hf=>?_))))
 refine ub ?_
 have hf:=hf.pn [2,6,7,30,31,32]
 have H:=H.lm 1 2 0 3 7
 exact ua ⟨(l,y3,w64 (i + 1)),hR1,A7,c7,E2,hf,H⟩
 refine wp_exit (uy (uy (vJ (?_))))
 have hf:=hf.pn [2,6,7,30,31,32]
 have H:=H.lm 1 1 0 3 7
 exact ⟨(out',at',i),(Option.some.inj hR1).symm,A5,c5,E,hf,H⟩
 rintro a w ⟨⟨out3,at2,i2⟩,rfl,A8,c8,E3,hf,H⟩
 replace hF:=vG hF
 try dsimp only at hF
 refine ua (sqz (pz 3 hf fun a hf=>?_))
 refine wer ?_
 have H:=H.rowOwn 0 rfl rfl
 obtain ⟨F,H⟩:=H.freezeOwn 0 rfl
 have H:=H.lend 0 rfl
 obtain rfl:=oi hF
 refine vL hf rfl (uE hf rfl) (uE hf rfl) ?_
 have hN:=H.ends1
 exact ⟨_,rfl,H.bel,F,_,_,rfl,(xE (H.ownAt 0 rfl)),uk,by first | exact hN | simpa using hN⟩
theorem gcA {S:Nat→Prop} {v0_:Value} {b':Block} {r:Bool} (h0:VR w0 S v0_ b') (hF:yZ fu b'=some r) :
    Calls Tryz.prog 166 [v0_].toArray w0 fun e w'=>∃ v,e=.returned v∧(Below w0.heap.size w0 w'∧VR w' (St ⟨w0,[]⟩ S [] [] [] true) v r):=by
 obtain rfl:=yj h0
 have H:=Mem.start ⟨w0,[]⟩ S
 refine en Tryz.func166 fun a hf=>?_
 rw [yZ] at hF
 refine bx hf H fun b2 a w hf H=>?_
 refine pz 1 hf fun a hf=>?_
 refine ub (ua (sq ?_))
 obtain ⟨c,hGc,hF⟩:=bs_ hF
 have fh:=hf.prune [] rfl
 have Hm:=H.lk 0 0 0 []
 refine midF 2 (.bool c) fh Hm ?_ fun a w hf H=>?_
 refine reg (pz 1 hf fun a hf=>?_)
 refine lB 0 hf H TF.ls3 fun a hf=>?_
 refine pz 2 hf fun a hf=>?_
 refine iteB hGc (fun hc hGc=>?_) fun hc hGc=>?_
 have hf:=hf.lit 6 rfl hc
 refine pz 1 hf fun a hf=>?_
 refine wlg hf rfl rfl rfl (op_q hf (ue hf H TF.ls3 0 rfl rfl rfl) rfl (by decide) fun a hf=>?_)
 obtain ⟨y,hy,hGc⟩:=bs_ hGc
 refine wlg hf rfl rfl rfl (oC hf TF.ggd (yb (S:=TT) ug ug ug hy) fun v w a hp hf=>?_)
 obtain ⟨hb,hp⟩:=hp
 obtain rfl:=uo hp
 have H:=H.keep hb
 refine pz 2 hf fun a hf=>?_
 refine iteB hGc (fun hc2 hGc=>?_) fun hc2 hGc=>?_
 have hf:=hf.lit 11 rfl hc2
 refine pz 1 hf fun a hf=>?_
 refine wlg hf rfl rfl rfl (op_q hf (ue hf H TF.ls3 0 rfl rfl rfl) rfl (by decide) fun a hf=>?_)
 refine pz 1 hf fun a hf=>?_
 refine wlg hf rfl rfl rfl (op_q hf (ue hf H TF.ls3 0 rfl rfl rfl) rfl (by decide) fun a hf=>?_)
 refine pz 4 hf fun a hf=>?_
 obtain rfl:=oi hGc
 have hf:=hf.pn [2]
 have H:=H.lk 0 0 0 []
 exact ub ⟨hf,H⟩
 have hf:=hf.lit 11 rfl hc2
 refine pz 8 hf fun a hf=>?_
 obtain rfl:=oi hGc
 have hf:=hf.pn [2]
 have H:=H.lk 0 0 0 []
 exact ub ⟨hf,H⟩
 have hf:=hf.lit 6 rfl hc
 refine pz 13 hf fun a hf=>?_
 obtain rfl:=oi hGc
 have hf:=hf.pn [2]
 have H:=H.lk 0 0 0 []
 exact ub ⟨hf,H⟩
 refine ua (wp_ret (?_))
 obtain rfl:=oi hF
 refine rT hf ?_
 exact ⟨_,rfl,H.bel,uk⟩
theorem ges {S:Nat→Prop} {v0_:Value} {v1_:Value} {n':Network} {x1:Light} {r:Bool} (h0:VR w0 S v0_ n') (h1:VR w0 S v1_ x1) (hF:gaU fu n' x1=some r) :
    Calls Tryz.prog 74 [v0_,v1_].toArray w0 fun e w'=>∃ v,e=.returned v∧(Below w0.heap.size w0 w'∧VR w' (St ⟨w0,[]⟩ S [] [] [] true) v r):=by
 obtain ⟨A,c,A2,c2,rfl,hl,hl2⟩:=vA h0
 obtain ⟨A3,c3,rfl,hl3⟩:=vK h1
 have H:=Mem.start ⟨w0,[]⟩ S
 have H:=H.pA hl
 have H:=H.pA hl2
 have H:=H.pA hl3
 refine en Tryz.func74 fun a hf=>?_
 rw [gaU] at hF
 refine bx hf H fun b' a w hf H=>?_
 refine wl0 rfl (xl hf H rfl rfl (by decide) fun b2 a w hf H=>?_)
 refine pz 1 hf fun a hf=>?_
 refine wr (lN 1 hf H TF.la27 fun a hf=>?_)
 refine pz 1 hf fun a hf=>?_
 refine lN 0 hf H TF.la45 fun a hf=>?_
 obtain ⟨y,hy,hF⟩:=bs_ hF
 refine oc hf TF.cl66 (ger (S:=TT) (uY (x:=n') (H.rt 2 rfl) (H.rt 1 rfl)) (xk (x:=x1.Route) (H.rt 0 rfl)) hy) fun v w a hp hf=>?_
 obtain ⟨hb,F,v2,v3,rfl,hp2,hp3,hN⟩:=hp
 obtain ⟨A4,c4,rfl,hl4⟩:=xP hp2
 obtain rfl:=uo hp3
 have H:=H.aO1 hb hN hl4
 have H:=H.lend 0 rfl
 refine pz 5 hf fun a hf=>?_
 refine ub (ua (sq ?_))
 obtain ⟨c5,hGc5,hF⟩:=bs_ hF
 have fh:=hf.prune [] rfl
 have Hm:=H.lk 0 0 0 []
 refine midF 4 (.bool c5) fh Hm ?_ fun a w hf H=>?_
 refine reg (pz 2 hf fun a hf=>?_)
 refine iteB hGc5 (fun hc hGc5=>?_) fun hc hGc5=>?_
 have hf:=hf.lit 15 rfl hc
 refine pz 1 hf fun a hf=>?_
 refine wlg hf rfl rfl rfl (op_q hf (ue hf H TF.ls3 0 rfl rfl rfl) rfl (by decide) fun a hf=>?_)
 obtain ⟨y2,hy2,hGc5⟩:=bs_ hGc5
 refine wlg hf rfl rfl rfl (oC hf TF.ggd (yb (S:=TT) ug ug ug hy2) fun v4 w a hp4 hf=>?_)
 obtain ⟨hb2,hp4⟩:=hp4
 obtain rfl:=uo hp4
 have H:=H.keep hb2
 refine pz 2 hf fun a hf=>?_
 refine iteB hGc5 (fun hc2 hGc5=>?_) fun hc2 hGc5=>?_
 have hf:=hf.lit 20 rfl hc2
 refine pz 1 hf fun a hf=>?_
 refine wlg hf rfl rfl rfl (op_q hf (ul hf H TF.la47 0 rfl rfl rfl rfl) rfl (by decide) fun a hf=>?_)
 obtain ⟨y3,hy3,hGc5⟩:=bs_ hGc5
 refine wlg hf rfl rfl rfl (oC hf TF.gmg (gcA (S:=TT) zb hy3) fun v5 w a hp5 hf=>?_)
 obtain ⟨hb3,hp5⟩:=hp5
 obtain rfl:=uo hp5
 have H:=H.keep hb3
 refine pz 2 hf fun a hf=>?_
 obtain rfl:=oi hGc5
 have hf:=hf.pn [4]
 have H:=H.lk 0 0 0 []
 exact ub ⟨hf,H⟩
 have hf:=hf.lit 20 rfl hc2
 refine pz 5 hf fun a hf=>?_
 obtain rfl:=oi hGc5
 have hf:=hf.pn [4]
 have H:=H.lk 0 0 0 []
 exact ub ⟨hf,H⟩
 have hf:=hf.lit 15 rfl hc
 refine pz 10 hf fun a hf=>?_
 obtain rfl:=oi hGc5
 have hf:=hf.pn [4]
 have H:=H.lk 0 0 0 []
 exact ub ⟨hf,H⟩
 refine ua (wp_ret (?_))
 obtain rfl:=oi hF
 refine rT hf ?_
 exact ⟨_,rfl,H.bel,uk⟩
theorem gcJ {S:Nat→Prop} {v0_:Value} {b':Block} {r:Int} (h0:VR w0 S v0_ b') (hF:gbu fu b'=some r) :
    Calls Tryz.prog 167 [v0_].toArray w0 fun e w'=>∃ v,e=.returned v∧(Below w0.heap.size w0 w'∧VR w' (St ⟨w0,[]⟩ S [] [] [] true) v r):=by
 obtain rfl:=yj h0
 have H:=Mem.start ⟨w0,[]⟩ S
 refine en Tryz.func167 fun a hf=>?_
 rw [gbu] at hF
 refine bx hf H fun b2 a w hf H=>?_
 refine pz 1 hf fun a hf=>?_
 refine ub (ua (sq (dw [] 8 fun w hb=>?_)))
 have H:=H.keep hb
 refine zp 0 hf trivial fun a hf=>?_
 refine strT H (fun w H=>trivial) fun hS=>?_
 refine zS 1 [] rfl rfl rfl rfl hf hS (fun w H=>ue hf H TF.ls3 0 rfl rfl rfl) fun a hf=>?_
 obtain ⟨q,hq,hF⟩:=bs_ hF
 refine zP 2 rfl rfl rfl rfl hf hS (fun w=>gbI hf rfl rfl hq) fun a hf=>?_
 refine zp 3 hf hS fun a hf=>?_
 refine zp 4 hf hS fun a hf=>?_
 refine zS 5 [] rfl rfl rfl rfl hf hS (fun w H=>ue hf H TF.ls3 0 rfl rfl rfl) fun a hf=>?_
 obtain ⟨q2,hq2,hF⟩:=bs_ hF
 refine zP 6 rfl rfl rfl rfl hf hS (fun w=>gbI hf rfl rfl hq2) fun a hf=>?_
 refine zp 7 hf hS fun a hf=>?_
 refine dk ?_
 refine ua (wp_ret (?_))
 obtain rfl:=oi hF
 refine rT hf ?_
 exact ⟨_,rfl,H.bel,ug⟩
theorem gdi {S:Nat→Prop} {v0_:Value} {x1:U64} {r:Int} (h0:VR w0 S v0_ x1) (hF:gam fu x1=some r) :
    Calls Tryz.prog 281 [v0_].toArray w0 fun e w'=>∃ v,e=.returned v∧(Below w0.heap.size w0 w'∧VR w' (St ⟨w0,[]⟩ S [] [] [] true) v r):=by
 obtain rfl:=gj1 h0
 have H:=Mem.start ⟨w0,[]⟩ S
 refine en Tryz.func281 fun a hf=>?_
 rw [gam] at hF
 refine sqz (pz 1 hf fun a hf=>?_)
 refine we (sqz (pz 1 hf fun a hf=>?_))
 refine oq hf (gdP hf rfl rfl) fun a hf=>?_
 refine ub (ua (ib hF hf (fun hc hF=>?_) fun hc hF=>?_))
 cases hF
 refine wp_skip (ua (sq (sqz (pz 1 hf fun a hf=>?_))))
 refine oq hf (gdP hf rfl rfl) fun a hf=>?_
 refine ub (ua (ib hF hf (fun hc2 hF=>?_) fun hc2 hF=>?_))
 cases hF
 refine wp_skip (ua (sq (sqz (pz 1 hf fun a hf=>?_))))
 refine oq hf (gdP hf rfl rfl) fun a hf=>?_
 refine ub (ua (ib hF hf (fun hc3 hF=>?_) fun hc3 hF=>?_))
 cases hF
 refine wp_skip (ua (sqz (pz 2 hf fun a hf=>?_)))
 refine oq hf (zk u8w Tryz.underlying107 Tryz.underlying5 hf rfl) fun a hf=>?_
 obtain ⟨e,he,hF⟩:=bs_ hF
 refine oq hf (gal hf Tryz.underlying9 rfl rfl he) fun a hf=>?_
 refine oq hf (zk i64w Tryz.underlying5 Tryz.underlying3 hf rfl) fun a hf=>?_
 refine pz 2 hf fun a hf=>?_
 have hf:=hf.pn [2]
 refine wer ?_
 obtain rfl:=oi hF
 refine rT hf ?_
 exact ⟨_,rfl,H.bel,ug⟩
theorem gdX {S:Nat→Prop} {v0_:Value} {x1:U64} {r:Int} (h0:VR w0 S v0_ x1) (hF:gan fu x1=some r) :
    Calls Tryz.prog 218 [v0_].toArray w0 fun e w'=>∃ v,e=.returned v∧(Below w0.heap.size w0 w'∧VR w' (St ⟨w0,[]⟩ S [] [] [] true) v r):=by
 obtain rfl:=gj1 h0
 have H:=Mem.start ⟨w0,[]⟩ S
 refine en Tryz.func218 fun a hf=>?_
 rw [gan] at hF
 refine sqz (pz 1 hf fun a hf=>?_)
 refine ub (ua (sq (cd_f hf rfl rfl (wp_skip (ua (sqz (pz 1 hf fun a hf=>?_)))))))
 obtain ⟨y,hy,hF⟩:=bs_ hF
 refine oc hf TF.glN (gdi (S:=TT) gjY hy) fun v w a hp hf=>?_
 obtain ⟨hb,hp⟩:=hp
 obtain rfl:=uv hp
 have H:=H.keep hb
 refine pz 1 hf fun a hf=>?_
 refine wer ?_
 obtain rfl:=oi hF
 refine rT hf ?_
 exact ⟨_,rfl,H.bel,ug⟩
theorem gex {S:Nat→Prop} {v0_:Value} {v1_:Value} {x1:Int} {y:Int} {r:Bool} (h0:VR w0 S v0_ x1) (h1:VR w0 S v1_ y) (hF:cmp_Less_int fu x1 y=some r) :
    Calls Tryz.prog 277 [v0_,v1_].toArray w0 fun e w'=>∃ v,e=.returned v∧(Below w0.heap.size w0 w'∧VR w' (St ⟨w0,[]⟩ S [] [] [] true) v r):=by
 obtain rfl:=uv h0
 obtain rfl:=uv h1
 have H:=Mem.start ⟨w0,[]⟩ S
 refine en Tryz.func277 fun a hf=>?_
 rw [cmp_Less_int] at hF
 refine sqz (pz 1 hf fun a hf=>?_)
 refine ub (ua (sq ?_))
 obtain ⟨c,hGc,hF⟩:=bs_ hF
 have fh:=hf.prune [] rfl
 have Hm:=H.lk 0 0 0 []
 refine midF 4 (.bool c) fh Hm ?_ fun a w hf H=>?_
 refine reg (pz 1 hf fun a hf=>?_)
 obtain ⟨y2,hy2,hGc⟩:=bs_ hGc
 refine oc hf TF.gjC (z8 (S:=TT) ug hy2) fun v w a hp hf=>?_
 obtain ⟨hb,hp⟩:=hp
 obtain rfl:=uo hp
 have H:=H.keep hb
 refine pz 1 hf fun a hf=>?_
 refine iteB hGc (fun hc hGc=>?_) fun hc hGc=>?_
 have hf:=hf.lit 7 rfl hc
 refine pz 1 hf fun a hf=>?_
 obtain ⟨y3,hy3,hGc⟩:=bs_ hGc
 refine wlg hf rfl rfl rfl (oC hf TF.gjC (z8 (S:=TT) ug hy3) fun v2 w a hp2 hf=>?_)
 obtain ⟨hb2,hp2⟩:=hp2
 obtain rfl:=uo hp2
 have H:=H.keep hb2
 refine pz 3 hf fun a hf=>?_
 refine iteB hGc (fun hc2 hGc=>?_) fun hc2 hGc=>?_
 have hf:=hf.lit 12 rfl hc2
 refine pz 5 hf fun a hf=>?_
 obtain rfl:=oi hGc
 have hf:=hf.pn [4]
 have H:=H.lk 0 0 0 []
 exact ub ⟨hf,H⟩
 have hf:=hf.lit 12 rfl hc2
 refine pz 5 hf fun a hf=>?_
 obtain rfl:=oi hGc
 have hf:=hf.pn [4]
 have H:=H.lk 0 0 0 []
 exact ub ⟨hf,H⟩
 have hf:=hf.lit 7 rfl hc
 refine pz 10 hf fun a hf=>?_
 obtain rfl:=oi hGc
 have hf:=hf.pn [4]
 have H:=H.lk 0 0 0 []
 exact ub ⟨hf,H⟩
 refine ua (wp_ret (?_))
 obtain rfl:=oi hF
 refine rT hf ?_
 exact ⟨_,rfl,H.bel,uk⟩
end AT
