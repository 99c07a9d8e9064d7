/- The Go functions do what is told of them, by program (gen.py). -/
import Derived.Test.YtlemonjnolciiaaGreatWJC
import Derived.Test.YtlemonjnolciiaaGreatK
set_option linter.unusedVariables false
set_option linter.unusedSimpArgs false
set_option maxRecDepth 100000
set_option maxHeartbeats 1000000
namespace AT
open Go Go.RowKit Go.Proofs
variable {fu:Nat} {w0:World}
theorem gcO {S:Nat→Prop} {b0:Nat} {cs0:List Value} {v1_:Value} {c:L1CurP} {p:Plan} {r:Light×L1CurP} (hp0:w0.heap[b0]?=some (.cells cs0.toArray 109 (0,0))) (hr0:GoTy.rep w0 S cs0 c) (hS0:¬S b0) (h1:VR w0 S v1_ p) (hF:zu fu c p=some r) :
    Calls Tryz.prog 337 [(.pointer (some ⟨b0,0,none⟩)),v1_].toArray w0 fun e w'=>∃ v,e=.returned v∧(Chg w0 w' [b0]∧∃ cs',w'.heap[b0]?=some (.cells cs'.toArray 109 (0,0))∧GoTy.rep w' (St ⟨w0,[b0]⟩ S [⟨b0,109,cs'⟩] [] [] false) cs' r.2∧(cs'[0]?=cs0[0]?∧r.2.code=c.code)∧∃ F0,VO w' F0 v r.1∧New w0 w' F0):=by
 obtain ⟨A,c2,rfl,hl⟩:=uc hr0
 obtain ⟨A2,c3,A3,c4,A4,c5,rfl,hl2,hl3,hl4⟩:=uD h1
 have H:=Mem.startB S hp0
 have H:=H.pB hS0 hl
 have H:=H.pB hS0 hl2
 have H:=H.pB hS0 hl3
 have H:=H.pB hS0 hl4
 refine en Tryz.func337 fun a hf=>?_
 rw [zu] at hF
 refine bx hf H fun b3 a w hf H=>?_
 refine aL hf H TF.zv49 fun b4 a w hf H=>?_
 refine ub (ua (sq ?_))
 obtain ⟨y,hy,hF⟩:=bs_ hF
 obtain ⟨y2,hy2,hF⟩:=bs_ hF
 obtain ⟨y3,hy3,hF⟩:=bs_ hF
 refine mid (fun a w=>∃ (b5:Nat) (A7:Option Addr) (c7:Nat) (F2:List Nat),y3.2.code=c.code∧Fr a 23 [(0,(.pointer (some ⟨b0,0,none⟩))),(4,(.pointer (some ⟨b4,0,none⟩))),(5,(.pointer (some ⟨b5,0,none⟩)))]∧Mem ⟨w0,[b0]⟩ S [⟨b5,49,[(.int .i64 y.1),(.int .i64 y2.1.Start),(.slice A7 y2.1.Fibers.length c7),(.int .i64 y3.1.First),(.int .i64 y3.1.Count)]⟩,⟨b4,49,[(.int .i64 0),(.int .i64 0),(.slice none 0 0),(.int .i64 0),(.int .i64 0)]⟩,⟨b0,109,[(.slice A y3.2.code.length c2),(.int .i64 y3.2.at_),(.int .u64 y3.2.seed.n)]⟩] [] [⟨F2,MP.own F2 [(.slice A7 y2.1.Fibers.length c7)] (y2.1.Fibers:List Int)⟩] [(false,MP.val [(.slice A y3.2.code.length c2)] (y3.2.code:List By)),(true,MP.val [(.slice A7 y2.1.Fibers.length c7)] (y2.1.Fibers:List Int))] w) ?_ ?_
 refine dw [11] 12 fun w hb=>?_
 have H:=H.keep hb
 refine zp 0 hf trivial fun a hf=>?_
 refine zp 3 hf trivial fun a hf=>?_
 refine zp 4 hf trivial fun a hf=>?_
 refine strT (H.lk 2 0 0 []) (fun w H=>trivial) fun hS=>?_
 refine zS 5 [5,6,8,9,11] rfl rfl rfl rfl hf hS (fun w H=>ul hf H TF.la27 0 rfl rfl rfl rfl) fun a hf=>?_
 refine zp 7 hf hS fun a hf=>?_
 refine on2 (i:=1) (j:=10) (bi:=[true,true,false,true,true,true,false,true,false,false,false,false]) (bj:=[true,false,false,true,true,true,false,true,false,false,true,false]) (by kernel_rfl) rfl rfl rfl rfl rfl rfl ?_ ?_
 refine (bl hf H 3 ([30,31,1,2,4,5,999]:List Int) [(.int .i64 30),(.int .i64 31),(.int .i64 1),(.int .i64 2),(.int .i64 4),(.int .i64 5),(.int .i64 999)] (elI [30,31,1,2,4,5,999]) fun A5 a w hf H=>?_)
 have hS:=H.lk 2 0 0 []
 refine aS hS ?_
 refine on2 (i:=2) (j:=10) (bi:=[true,true,true,true,true,true,false,true,false,false,false,false]) (bj:=[true,true,false,true,true,true,false,true,false,false,true,false]) (by kernel_rfl) rfl rfl rfl rfl rfl rfl ?_ ?_
 have H:=H.freeze 0 rfl
 refine (oC hf TF.gcq (uJ (S:=NB b0) (H.boxAt 2 rfl) ((ud (x:=c) (H.nb 2 rfl (H.get 4 rfl)))) (fun h=>h rfl) (uB (H.nb 2 rfl (H.get 0 rfl))) hy) fun v w a hp3 hf=>?_)
 obtain ⟨hch,cs3,hbx,hr3,⟨hx,hx2⟩,hs⟩:=hp3
 obtain rfl:=uv hs
 obtain ⟨A6,c6,rfl,hl5⟩:=uc hr3
 obtain ⟨rfl,rfl⟩:=un hx rfl rfl
 have H:=H.wroteBox 2 rfl hch hbx
 have H:=H.pX 4 rfl hx2
 have hS:=H.lk 2 0 0 []
 refine aS hS ?_
 refine on2 (i:=6) (j:=10) (bi:=[true,true,true,true,true,true,true,true,false,false,false,false]) (bj:=[true,true,true,true,true,true,false,true,false,false,true,false]) (by kernel_rfl) rfl rfl rfl rfl rfl rfl ?_ ?_
 refine (oC hf TF.ghx (vX (S:=NB b0) (H.boxAt 2 rfl) ((ud (x:=y.2) (H.nb 2 rfl (H.get 0 rfl)))) (fun h=>h rfl) (uY (x:=p.Network) (H.nb 2 rfl (H.get 4 rfl)) (H.nb 2 rfl (H.get 3 rfl))) hy2) fun v2 w a hp4 hf=>?_)
 obtain ⟨hch2,cs4,hbx2,hr4,⟨hx3,hx4⟩,hs2⟩:=hp4
 obtain ⟨F,hp5,hN⟩:=hs2
 obtain ⟨A7,c7,F2,rfl,rfl,hl6⟩:=yT hp5
 obtain ⟨A8,c8,rfl,hl7⟩:=uc hr4
 obtain ⟨rfl,rfl⟩:=un hx3 rfl rfl
 have hx5:=hx4.trans hx2
 have H:=H.bO1 2 rfl hch2 hbx2 hN hl6
 have H:=H.pX 0 rfl hx4
 have H:=H.lend 0 rfl
 have hS:=H.lk 2 0 0 []
 refine aS hS ?_
 refine on2 (i:=8) (j:=10) (bi:=[true,true,true,true,true,true,true,true,true,false,false,false]) (bj:=[true,true,true,true,true,true,true,true,false,false,true,false]) (by kernel_rfl) rfl rfl rfl rfl rfl rfl ?_ ?_
 refine (oC hf TF.ggD (xe (S:=NB b0) (H.boxAt 2 rfl) ((ud (x:=y2.2) (H.nb 2 rfl (H.get 1 rfl)))) (fun h=>h rfl) hy3) fun v3 w a hp6 hf=>?_)
 obtain ⟨hch3,cs5,hbx3,hr5,⟨hx6,hx7⟩,hs3⟩:=hp6
 obtain rfl:=yj hs3
 obtain ⟨A9,c9,rfl,hl8⟩:=uc hr5
 obtain ⟨rfl,rfl⟩:=un hx6 rfl rfl
 have hx8:=hx7.trans hx5
 have H:=H.wroteBox 2 rfl hch3 hbx3
 have H:=H.pX 1 rfl hx7
 have hS:=H.lk 2 0 0 []
 refine aS hS ?_
 refine zP 9 rfl rfl rfl rfl hf hS (fun w=>uA hf (cs:=[(.int .i64 y.1),(.int .i64 y2.1.Start),(.slice A7 y2.1.Fibers.length c7),(.int .i64 y3.1.First),(.int .i64 y3.1.Count)]) rfl (fun w=>by kernel_rfl)) fun a hf=>?_
 refine nn 10 rfl (vc hf H TF.zv49 rfl (by decide) fun b5 a w hf H=>?_)
 have hS:=H.lk 4 0 0 []
 refine aS hS ?_
 refine nn 11 rfl (uh hf H 0 TF.sz49 rfl rfl rfl rfl rfl rfl (nle rfl) fun w H=>?_)
 refine ⟨fun h=>absurd h (by decide),?_⟩
 refine dk ?_
 have hf:=hf.pn [0,4,5]
 have H:=H.lk 11 0 1 [0,1]
 exact ⟨b5,A7,c7,F2,hx8,hf,H⟩
 refine (vc hf H TF.zv49 rfl (by decide) fun b5 a w hf H=>?_)
 have hS:=H.lk 4 0 0 []
 refine aS hS ?_
 refine nn 8 rfl (oC hf TF.ggD (xe (S:=NB b0) (H.boxAt 3 rfl) ((ud (x:=y2.2) (H.nb 3 rfl (H.get 1 rfl)))) (fun h=>h rfl) hy3) fun v3 w a hp6 hf=>?_)
 obtain ⟨hch3,cs5,hbx3,hr5,⟨hx6,hx7⟩,hs3⟩:=hp6
 obtain rfl:=yj hs3
 obtain ⟨A9,c9,rfl,hl8⟩:=uc hr5
 obtain ⟨rfl,rfl⟩:=un hx6 rfl rfl
 have hx8:=hx7.trans hx5
 have H:=H.wroteBox 3 rfl hch3 hbx3
 have H:=H.pX 1 rfl hx7
 have hS:=H.lk 4 0 0 []
 refine aS hS ?_
 refine zP 9 rfl rfl rfl rfl hf hS (fun w=>uA hf (cs:=[(.int .i64 y.1),(.int .i64 y2.1.Start),(.slice A7 y2.1.Fibers.length c7),(.int .i64 y3.1.First),(.int .i64 y3.1.Count)]) rfl (fun w=>by kernel_rfl)) fun a hf=>?_
 refine nn 11 rfl (uh hf H 0 TF.sz49 rfl rfl rfl rfl rfl rfl (nle rfl) fun w H=>?_)
 refine ⟨fun h=>absurd h (by decide),?_⟩
 refine dk ?_
 have hf:=hf.pn [0,4,5]
 have H:=H.lk 11 0 1 [0,1]
 exact ⟨b5,A7,c7,F2,hx8,hf,H⟩
 refine (vc hf H TF.zv49 rfl (by decide) fun b5 a w hf H=>?_)
 have hS:=H.lk 4 0 0 []
 refine aS hS ?_
 refine nn 6 rfl (oC hf TF.ghx (vX (S:=NB b0) (H.boxAt 3 rfl) ((ud (x:=y.2) (H.nb 3 rfl (H.get 0 rfl)))) (fun h=>h rfl) (uY (x:=p.Network) (H.nb 3 rfl (H.get 4 rfl)) (H.nb 3 rfl (H.get 3 rfl))) hy2) fun v2 w a hp4 hf=>?_)
 obtain ⟨hch2,cs4,hbx2,hr4,⟨hx3,hx4⟩,hs2⟩:=hp4
 obtain ⟨F,hp5,hN⟩:=hs2
 obtain ⟨A7,c7,F2,rfl,rfl,hl6⟩:=yT hp5
 obtain ⟨A8,c8,rfl,hl7⟩:=uc hr4
 obtain ⟨rfl,rfl⟩:=un hx3 rfl rfl
 have hx5:=hx4.trans hx2
 have H:=H.bO1 3 rfl hch2 hbx2 hN hl6
 have H:=H.pX 0 rfl hx4
 have H:=H.lend 0 rfl
 have hS:=H.lk 4 0 0 []
 refine aS hS ?_
 refine nn 8 rfl (oC hf TF.ggD (xe (S:=NB b0) (H.boxAt 3 rfl) ((ud (x:=y2.2) (H.nb 3 rfl (H.get 1 rfl)))) (fun h=>h rfl) hy3) fun v3 w a hp6 hf=>?_)
 obtain ⟨hch3,cs5,hbx3,hr5,⟨hx6,hx7⟩,hs3⟩:=hp6
 obtain rfl:=yj hs3
 obtain ⟨A9,c9,rfl,hl8⟩:=uc hr5
 obtain ⟨rfl,rfl⟩:=un hx6 rfl rfl
 have hx8:=hx7.trans hx5
 have H:=H.wroteBox 3 rfl hch3 hbx3
 have H:=H.pX 1 rfl hx7
 have hS:=H.lk 4 0 0 []
 refine aS hS ?_
 refine zP 9 rfl rfl rfl rfl hf hS (fun w=>uA hf (cs:=[(.int .i64 y.1),(.int .i64 y2.1.Start),(.slice A7 y2.1.Fibers.length c7),(.int .i64 y3.1.First),(.int .i64 y3.1.Count)]) rfl (fun w=>by kernel_rfl)) fun a hf=>?_
 refine nn 11 rfl (uh hf H 0 TF.sz49 rfl rfl rfl rfl rfl rfl (nle rfl) fun w H=>?_)
 refine ⟨fun h=>absurd h (by decide),?_⟩
 refine dk ?_
 have hf:=hf.pn [0,4,5]
 have H:=H.lk 11 0 1 [0,1]
 exact ⟨b5,A7,c7,F2,hx8,hf,H⟩
 refine (vc hf H TF.zv49 rfl (by decide) fun b5 a w hf H=>?_)
 have hS:=H.lk 4 0 0 []
 refine aS hS ?_
 have H:=H.freeze 0 rfl
 refine nn 2 rfl (oC hf TF.gcq (uJ (S:=NB b0) (H.boxAt 3 rfl) ((ud (x:=c) (H.nb 3 rfl (H.get 4 rfl)))) (fun h=>h rfl) (uB (H.nb 3 rfl (H.get 0 rfl))) hy) fun v w a hp3 hf=>?_)
 obtain ⟨hch,cs3,hbx,hr3,⟨hx,hx2⟩,hs⟩:=hp3
 obtain rfl:=uv hs
 obtain ⟨A6,c6,rfl,hl5⟩:=uc hr3
 obtain ⟨rfl,rfl⟩:=un hx rfl rfl
 have H:=H.wroteBox 3 rfl hch hbx
 have H:=H.pX 4 rfl hx2
 have hS:=H.lk 4 0 0 []
 refine aS hS ?_
 refine nn 6 rfl (oC hf TF.ghx (vX (S:=NB b0) (H.boxAt 3 rfl) ((ud (x:=y.2) (H.nb 3 rfl (H.get 0 rfl)))) (fun h=>h rfl) (uY (x:=p.Network) (H.nb 3 rfl (H.get 4 rfl)) (H.nb 3 rfl (H.get 3 rfl))) hy2) fun v2 w a hp4 hf=>?_)
 obtain ⟨hch2,cs4,hbx2,hr4,⟨hx3,hx4⟩,hs2⟩:=hp4
 obtain ⟨F,hp5,hN⟩:=hs2
 obtain ⟨A7,c7,F2,rfl,rfl,hl6⟩:=yT hp5
 obtain ⟨A8,c8,rfl,hl7⟩:=uc hr4
 obtain ⟨rfl,rfl⟩:=un hx3 rfl rfl
 have hx5:=hx4.trans hx2
 have H:=H.bO1 3 rfl hch2 hbx2 hN hl6
 have H:=H.pX 0 rfl hx4
 have H:=H.lend 0 rfl
 have hS:=H.lk 4 0 0 []
 refine aS hS ?_
 refine nn 8 rfl (oC hf TF.ggD (xe (S:=NB b0) (H.boxAt 3 rfl) ((ud (x:=y2.2) (H.nb 3 rfl (H.get 1 rfl)))) (fun h=>h rfl) hy3) fun v3 w a hp6 hf=>?_)
 obtain ⟨hch3,cs5,hbx3,hr5,⟨hx6,hx7⟩,hs3⟩:=hp6
 obtain rfl:=yj hs3
 obtain ⟨A9,c9,rfl,hl8⟩:=uc hr5
 obtain ⟨rfl,rfl⟩:=un hx6 rfl rfl
 have hx8:=hx7.trans hx5
 have H:=H.wroteBox 3 rfl hch3 hbx3
 have H:=H.pX 1 rfl hx7
 have hS:=H.lk 4 0 0 []
 refine aS hS ?_
 refine zP 9 rfl rfl rfl rfl hf hS (fun w=>uA hf (cs:=[(.int .i64 y.1),(.int .i64 y2.1.Start),(.slice A7 y2.1.Fibers.length c7),(.int .i64 y3.1.First),(.int .i64 y3.1.Count)]) rfl (fun w=>by kernel_rfl)) fun a hf=>?_
 refine nn 11 rfl (uh hf H 0 TF.sz49 rfl rfl rfl rfl rfl rfl (nle rfl) fun w H=>?_)
 refine ⟨fun h=>absurd h (by decide),?_⟩
 refine dk ?_
 have hf:=hf.pn [0,4,5]
 have H:=H.lk 11 0 1 [0,1]
 exact ⟨b5,A7,c7,F2,hx8,hf,H⟩
 refine (vc hf H TF.zv49 rfl (by decide) fun b5 a w hf H=>?_)
 have hS:=H.lk 4 0 0 []
 refine aS hS ?_
 refine nn 1 rfl (bl hf H 3 ([30,31,1,2,4,5,999]:List Int) [(.int .i64 30),(.int .i64 31),(.int .i64 1),(.int .i64 2),(.int .i64 4),(.int .i64 5),(.int .i64 999)] (elI [30,31,1,2,4,5,999]) fun A5 a w hf H=>?_)
 have hS:=H.lk 4 0 0 []
 refine aS hS ?_
 have H:=H.freeze 0 rfl
 refine nn 2 rfl (oC hf TF.gcq (uJ (S:=NB b0) (H.boxAt 3 rfl) ((ud (x:=c) (H.nb 3 rfl (H.get 4 rfl)))) (fun h=>h rfl) (uB (H.nb 3 rfl (H.get 0 rfl))) hy) fun v w a hp3 hf=>?_)
 obtain ⟨hch,cs3,hbx,hr3,⟨hx,hx2⟩,hs⟩:=hp3
 obtain rfl:=uv hs
 obtain ⟨A6,c6,rfl,hl5⟩:=uc hr3
 obtain ⟨rfl,rfl⟩:=un hx rfl rfl
 have H:=H.wroteBox 3 rfl hch hbx
 have H:=H.pX 4 rfl hx2
 have hS:=H.lk 4 0 0 []
 refine aS hS ?_
 refine nn 6 rfl (oC hf TF.ghx (vX (S:=NB b0) (H.boxAt 3 rfl) ((ud (x:=y.2) (H.nb 3 rfl (H.get 0 rfl)))) (fun h=>h rfl) (uY (x:=p.Network) (H.nb 3 rfl (H.get 4 rfl)) (H.nb 3 rfl (H.get 3 rfl))) hy2) fun v2 w a hp4 hf=>?_)
 obtain ⟨hch2,cs4,hbx2,hr4,⟨hx3,hx4⟩,hs2⟩:=hp4
 obtain ⟨F,hp5,hN⟩:=hs2
 obtain ⟨A7,c7,F2,rfl,rfl,hl6⟩:=yT hp5
 obtain ⟨A8,c8,rfl,hl7⟩:=uc hr4
 obtain ⟨rfl,rfl⟩:=un hx3 rfl rfl
 have hx5:=hx4.trans hx2
 have H:=H.bO1 3 rfl hch2 hbx2 hN hl6
 have H:=H.pX 0 rfl hx4
 have H:=H.lend 0 rfl
 have hS:=H.lk 4 0 0 []
 refine aS hS ?_
 refine nn 8 rfl (oC hf TF.ggD (xe (S:=NB b0) (H.boxAt 3 rfl) ((ud (x:=y2.2) (H.nb 3 rfl (H.get 1 rfl)))) (fun h=>h rfl) hy3) fun v3 w a hp6 hf=>?_)
 obtain ⟨hch3,cs5,hbx3,hr5,⟨hx6,hx7⟩,hs3⟩:=hp6
 obtain rfl:=yj hs3
 obtain ⟨A9,c9,rfl,hl8⟩:=uc hr5
 obtain ⟨rfl,rfl⟩:=un hx6 rfl rfl
 have hx8:=hx7.trans hx5
 have H:=H.wroteBox 3 rfl hch3 hbx3
 have H:=H.pX 1 rfl hx7
 have hS:=H.lk 4 0 0 []
 refine aS hS ?_
 refine zP 9 rfl rfl rfl rfl hf hS (fun w=>uA hf (cs:=[(.int .i64 y.1),(.int .i64 y2.1.Start),(.slice A7 y2.1.Fibers.length c7),(.int .i64 y3.1.First),(.int .i64 y3.1.Count)]) rfl (fun w=>by kernel_rfl)) fun a hf=>?_
 refine nn 11 rfl (uh hf H 0 TF.sz49 rfl rfl rfl rfl rfl rfl (nle rfl) fun w H=>?_)
 refine ⟨fun h=>absurd h (by decide),?_⟩
 refine dk ?_
 have hf:=hf.pn [0,4,5]
 have H:=H.lk 11 0 1 [0,1]
 exact ⟨b5,A7,c7,F2,hx8,hf,H⟩
 rintro a w ⟨b5,A7,c7,F2,hx8,hf,H⟩
 refine ua (sq (sqz (pz 1 hf fun a hf=>?_)))
 obtain ⟨y4,hy4,hF⟩:=bs_ hF
 refine oc hf TF.cl84 (vQ (S:=NB b0) (H.boxAt 2 rfl) ((ud (x:=y3.2) (H.nb 2 rfl (H.get 0 rfl)))) (fun h=>h rfl) ug hy4) fun v4 w a hp7 hf=>?_
 obtain ⟨hch4,cs6,hbx4,hr6,⟨hx9,hx10⟩,hs4⟩:=hp7
 obtain rfl:=uo hs4
 obtain ⟨A10,c10,rfl,hl9⟩:=uc hr6
 obtain ⟨rfl,rfl⟩:=un hx9 rfl rfl
 have hx11:=hx10.trans hx8
 have H:=H.wroteBox 2 rfl hch4 hbx4
 have H:=H.pX 0 rfl hx10
 refine ub (ua (ib hF hf (fun hc hF=>?_) fun hc hF=>?_))
 refine reg (pz 1 hf fun a hf=>?_)
 refine wl0 rfl (bl hf H 3 ([0,1000]:List Int) [(.int .i64 0),(.int .i64 1000)] (elI [0,1000]) fun A11 a w hf H=>?_)
 have H:=H.freeze 0 rfl
 obtain ⟨y5,hy5,hF⟩:=bs_ hF
 refine oc hf TF.gcq (uJ (S:=NB b0) (H.boxAt 2 rfl) ((ud (x:=y4.2) (H.nb 2 rfl (H.get 1 rfl)))) (fun h=>h rfl) (uB (H.nb 2 rfl (H.get 0 rfl))) hy5) fun v5 w a hp8 hf=>?_
 obtain ⟨hch5,cs7,hbx5,hr7,⟨hx12,hx13⟩,hs5⟩:=hp8
 obtain rfl:=uv hs5
 obtain ⟨A12,c11,rfl,hl10⟩:=uc hr7
 obtain ⟨rfl,rfl⟩:=un hx12 rfl rfl
 have hx14:=hx13.trans hx11
 have H:=H.wroteBox 2 rfl hch5 hbx5
 have H:=H.pX 1 rfl hx13
 refine pz 1 hf fun a hf=>?_
 refine sB 0 hf H TF.sz3 fun w H=>?_
 refine wr (lN 0 hf H TF.la49 fun a hf=>?_)
 refine sB 1 hf H TF.sz49 fun w H=>?_
 refine wer ?_
 obtain rfl:=oi hF
 refine xi hf rfl (um hf H 1 TF.la49 rfl rfl rfl) ?_
 have hN:=H.endsB1 2 rfl
 exact ⟨_,rfl,H.chg,_,H.boxAt 2 rfl,(ud (x:=y5.2) (eB 2 (H.get 0 rfl))),⟨fxc hx14,hx14⟩,F2,⟨_,xR (x:=({ Id:=y5.1,Route:=y2.1,Block:=y3.1 }:Light)) (H.ownAt 0 rfl),rfl⟩,by first | exact hN | simpa using hN⟩
 refine wp_skip (ua (sq (reg (lN 0 hf H TF.la49 fun a hf=>?_))))
 refine sB 1 hf H TF.sz49 fun w H=>?_
 refine wer ?_
 obtain rfl:=oi hF
 refine xi hf rfl (um hf H 1 TF.la49 rfl rfl rfl) ?_
 have hN:=H.endsB1 2 rfl
 exact ⟨_,rfl,H.chg,_,H.boxAt 2 rfl,(ud (x:=y4.2) (eB 2 (H.get 0 rfl))),⟨fxc hx11,hx11⟩,F2,⟨_,xR (x:=({ Id:=y.1,Route:=y2.1,Block:=y3.1 }:Light)) (H.ownAt 0 rfl),rfl⟩,by first | exact hN | simpa using hN⟩
theorem gcx {S:Nat→Prop} {b0:Nat} {cs0:List Value} {v1_:Value} {c:L1CurP} {p:Plan} {r:Action×L1CurP} (hp0:w0.heap[b0]?=some (.cells cs0.toArray 109 (0,0))) (hr0:GoTy.rep w0 S cs0 c) (hS0:¬S b0) (h1:VR w0 S v1_ p) (hF:yg fu c p=some r) :
    Calls Tryz.prog 305 [(.pointer (some ⟨b0,0,none⟩)),v1_].toArray w0 fun e w'=>∃ v,e=.returned v∧(Chg w0 w' [b0]∧∃ cs',w'.heap[b0]?=some (.cells cs'.toArray 109 (0,0))∧GoTy.rep w' (St ⟨w0,[b0]⟩ S [⟨b0,109,cs'⟩] [] [] false) cs' r.2∧(cs'[0]?=cs0[0]?∧r.2.code=c.code)∧∃ F0,VO w' F0 v r.1∧New w0 w' F0):=by
 obtain ⟨A,c2,rfl,hl⟩:=uc hr0
 obtain ⟨A2,c3,A3,c4,A4,c5,rfl,hl2,hl3,hl4⟩:=uD h1
 have H:=Mem.startB S hp0
 have H:=H.pB hS0 hl
 have H:=H.pB hS0 hl2
 have H:=H.pB hS0 hl3
 have H:=H.pB hS0 hl4
 refine en Tryz.func305 fun a hf=>?_
 rw [yg] at hF
 refine bx hf H fun b3 a w hf H=>?_
 refine aL hf H TF.ghG fun b4 a w hf H=>?_
 refine wr (pz 1 hf fun a hf=>?_)
 refine lN 1 hf H TF.la30 fun a hf=>?_
 obtain ⟨y,hy,hF⟩:=bs_ hF
 refine oc hf TF.glG (gcO (S:=NB b0) (H.boxAt 2 rfl) ((ud (x:=c) (H.nb 2 rfl (H.get 3 rfl)))) (fun h=>h rfl) (uj (x:=p) (H.nb 2 rfl (H.get 2 rfl)) (H.nb 2 rfl (H.get 1 rfl)) (H.nb 2 rfl (H.get 0 rfl))) hy) fun v w a hp3 hf=>?_
 obtain ⟨hch,cs3,hbx,hr3,⟨hx,hx2⟩,hs⟩:=hp3
 obtain ⟨F,hp4,hN⟩:=hs
 obtain ⟨A5,c6,F2,rfl,rfl,hl5⟩:=ga8 hp4
 obtain ⟨A6,c7,rfl,hl6⟩:=uc hr3
 obtain ⟨rfl,rfl⟩:=un hx rfl rfl
 have H:=H.bO1 2 rfl hch hbx hN hl5
 have H:=H.pX 3 rfl hx2
 have H:=H.lend 0 rfl
 refine aL hf H TF.zv49 fun b5 a w hf H=>?_
 refine sB 0 hf H TF.sz49 fun w H=>?_
 refine we (sqz (pz 1 hf fun a hf=>?_))
 refine lB 2 hf H TF.ls28 fun a hf=>?_
 refine pz 3 hf fun a hf=>?_
 refine iteB hF (fun hc hF=>?_) fun hc hF=>?_
 have hf:=hf.lit 14 rfl hc
 refine pz 1 hf fun a hf=>?_
 obtain ⟨y2,hy2,hF⟩:=bs_ hF
 refine wlg hf rfl rfl rfl (oC hf TF.cl84 (vQ (S:=NB b0) (H.boxAt 3 rfl) ((ud (x:=y.2) (H.nb 3 rfl (H.get 1 rfl)))) (fun h=>h rfl) ug hy2) fun v2 w a hp5 hf=>?_)
 obtain ⟨hch2,cs4,hbx2,hr4,⟨hx3,hx4⟩,hs2⟩:=hp5
 obtain rfl:=uo hs2
 obtain ⟨A7,c8,rfl,hl7⟩:=uc hr4
 obtain ⟨rfl,rfl⟩:=un hx3 rfl rfl
 have hx5:=hx4.trans hx2
 have H:=H.wroteBox 3 rfl hch2 hbx2
 have H:=H.pX 1 rfl hx4
 refine pz 2 hf fun a hf=>?_
 refine ub (ua (ib hF hf (fun hc2 hF=>?_) fun hc2 hF=>?_))
 refine sq ?_
 obtain ⟨y3,hy3,hF⟩:=bs_ hF
 obtain ⟨e,he,hF⟩:=bs_ hF
 refine mid (fun a w=>∃ (b6:Nat) (A9:Option Addr) (c10:Nat),y3.2.code=c.code∧Fr a 65 [(0,(.pointer (some ⟨b0,0,none⟩))),(3,(.pointer (some ⟨b3,0,none⟩))),(4,(.pointer (some ⟨b4,0,none⟩))),(6,(.pointer (some ⟨b6,0,none⟩)))]∧Mem ⟨w0,[b0]⟩ S [⟨b6,49,[(.int .i64 e.Id),(.int .i64 e.Route.Start),(.slice A9 e.Route.Fibers.length c10),(.int .i64 e.Block.First),(.int .i64 e.Block.Count)]⟩,⟨b4,148,[(.int .i64 0),(.int .i64 0),(.int .i64 0),(.slice none 0 0),(.int .i64 0),(.int .i64 0)]⟩,⟨b3,30,[(.slice A2 p.Network.Nodes.length c3),(.slice A3 p.Network.Fibers.length c4),(.slice A4 p.Lights.length c5)]⟩,⟨b0,109,[(.slice A y3.2.code.length c2),(.int .i64 y3.2.at_),(.int .u64 y3.2.seed.n)]⟩] [] [] [(false,MP.val [(.slice A9 e.Route.Fibers.length c10)] (e.Route.Fibers:List Int)),(false,MP.val [(.slice A y3.2.code.length c2)] (y3.2.code:List By)),(false,MP.val [(.slice A4 p.Lights.length c5)] (p.Lights:List Light)),(false,MP.val [(.slice A3 p.Network.Fibers.length c4)] (p.Network.Fibers:List Fiber)),(false,MP.val [(.slice A2 p.Network.Nodes.length c3)] (p.Network.Nodes:List ByteArray))] w) ?_ ?_
 refine dw [10] 11 fun w hb=>?_
 have H:=H.keep hb
 refine zp 0 hf trivial fun a hf=>?_
 refine strT (H.lk 4 0 0 []) (fun w H=>trivial) fun hS=>?_
 refine zS 1 [1,7,8,10] rfl rfl rfl rfl hf hS (fun w H=>ue hf H TF.ls28 0 rfl rfl rfl) fun a hf=>?_
 refine zp 2 hf hS fun a hf=>?_
 refine zp 3 hf hS fun a hf=>?_
 refine zS 4 [4,5,6,7,8,10] rfl rfl rfl rfl hf hS (fun w H=>ue hf H TF.ls28 0 rfl rfl rfl) fun a hf=>?_
 refine zp 5 hf hS fun a hf=>?_
 refine on2 (i:=6) (j:=9) (bi:=[true,true,true,true,true,true,true,false,false,false,false]) (bj:=[true,true,true,true,true,true,false,false,false,true,false]) (by kernel_rfl) rfl rfl rfl rfl rfl rfl ?_ ?_
 refine (oC hf TF.yJ (ui (S:=NB b0) (H.boxAt 3 rfl) ((ud (x:=y2.2) (H.nb 3 rfl (H.get 0 rfl)))) (fun h=>h rfl) ug hy3) fun v3 w a hp6 hf=>?_)
 obtain ⟨hch3,cs5,hbx3,hr5,⟨hx6,hx7⟩,hs3⟩:=hp6
 obtain rfl:=uv hs3
 obtain ⟨A8,c9,rfl,hl8⟩:=uc hr5
 obtain ⟨rfl,rfl⟩:=un hx6 rfl rfl
 have hx8:=hx7.trans hx5
 have H:=H.wroteBox 3 rfl hch3 hbx3
 have H:=H.pX 0 rfl hx7
 have hS:=H.lk 4 0 0 []
 refine aS hS ?_
 obtain ⟨p2,o3,cs6,hx9,hr6,H⟩:=ux H Tryz.underlying28 TF.sz49 4 rfl he
 refine zP 7 rfl rfl rfl rfl hf hS (fun w=>uu hf rfl rfl rfl hx9 w) fun a hf=>?_
 obtain ⟨A9,c10,rfl,hl9⟩:=uq hr6
 have H:=H.pF hl9
 refine strT (H.lk 4 0 0 [1]) (fun w H=>H.lk 1 0 0 []) fun hS=>?_
 refine zS 8 [8,10] rfl rfl rfl rfl hf hS (fun w H=>uz hf H TF.la49 0 0 rfl rfl rfl rfl) fun a hf=>?_
 refine nn 9 rfl (vc hf H TF.zv49 rfl (by decide) fun b6 a w hf H=>?_)
 have hS:=H.lk 8 0 0 [1]
 refine aS hS ?_
 refine nn 10 rfl (uh hf H 0 TF.sz49 rfl rfl rfl rfl rfl rfl (nle rfl) fun w H=>?_)
 refine ⟨fun h=>absurd h (by decide),?_⟩
 refine dk ?_
 have hf:=hf.pn [0,3,4,6]
 have H:=H.lm 29 0 0 9 453
 exact ⟨b6,A9,c10,hx8,hf,H⟩
 refine (vc hf H TF.zv49 rfl (by decide) fun b6 a w hf H=>?_)
 have hS:=H.lk 8 0 0 []
 refine aS hS ?_
 refine nn 6 rfl (oC hf TF.yJ (ui (S:=NB b0) (H.boxAt 4 rfl) ((ud (x:=y2.2) (H.nb 4 rfl (H.get 0 rfl)))) (fun h=>h rfl) ug hy3) fun v3 w a hp6 hf=>?_)
 obtain ⟨hch3,cs5,hbx3,hr5,⟨hx6,hx7⟩,hs3⟩:=hp6
 obtain rfl:=uv hs3
 obtain ⟨A8,c9,rfl,hl8⟩:=uc hr5
 obtain ⟨rfl,rfl⟩:=un hx6 rfl rfl
 have hx8:=hx7.trans hx5
 have H:=H.wroteBox 4 rfl hch3 hbx3
 have H:=H.pX 0 rfl hx7
 have hS:=H.lk 8 0 0 []
 refine aS hS ?_
 obtain ⟨p2,o3,cs6,hx9,hr6,H⟩:=ux H Tryz.underlying28 TF.sz49 4 rfl he
 refine zP 7 rfl rfl rfl rfl hf hS (fun w=>uu hf rfl rfl rfl hx9 w) fun a hf=>?_
 obtain ⟨A9,c10,rfl,hl9⟩:=uq hr6
 have H:=H.pF hl9
 refine strT (H.lk 8 0 0 [1]) (fun w H=>H.lk 1 0 0 []) fun hS=>?_
 refine zS 8 [8,10] rfl rfl rfl rfl hf hS (fun w H=>uz hf H TF.la49 0 0 rfl rfl rfl rfl) fun a hf=>?_
 refine nn 10 rfl (uh hf H 0 TF.sz49 rfl rfl rfl rfl rfl rfl (nle rfl) fun w H=>?_)
 refine ⟨fun h=>absurd h (by decide),?_⟩
 refine dk ?_
 have hf:=hf.pn [0,3,4,6]
 have H:=H.lm 29 0 0 9 453
 exact ⟨b6,A9,c10,hx8,hf,H⟩
 rintro a w ⟨b6,A9,c10,hx8,hf,H⟩
 refine ua (sq (sqz (pz 1 hf fun a hf=>?_)))
 obtain ⟨y4,hy4,hF⟩:=bs_ hF
 refine oc hf TF.yJ (ui (S:=NB b0) (H.boxAt 3 rfl) ((ud (x:=y3.2) (H.nb 3 rfl (H.get 1 rfl)))) (fun h=>h rfl) ug hy4) fun v4 w a hp7 hf=>?_
 obtain ⟨hch4,cs7,hbx4,hr7,⟨hx10,hx11⟩,hs4⟩:=hp7
 obtain rfl:=uv hs4
 obtain ⟨A10,c11,rfl,hl10⟩:=uc hr7
 obtain ⟨rfl,rfl⟩:=un hx10 rfl rfl
 have hx12:=hx11.trans hx8
 have H:=H.wroteBox 3 rfl hch4 hbx4
 have H:=H.pX 1 rfl hx11
 refine ub (ua (wp_block (sqz (pz 2 hf fun a hf=>?_))))
 refine ub (ua (ib hF hf (fun hc3 hF=>?_) fun hc3 hF=>?_))
 refine sq (reg (lN 0 hf H TF.la49 fun a hf=>?_))
 obtain ⟨y5,hy5,hF⟩:=bs_ hF
 refine oc hf TF.ggB (yL (S:=TT) (uT (x:=e) (H.rt 1 rfl)) hy5) fun v5 w a hp8 hf=>?_
 obtain ⟨hb,F3,hp9,hN2⟩:=hp8
 obtain ⟨A11,c12,F4,rfl,rfl,hl11⟩:=ga8 hp9
 have H:=H.aO1 hb hN2 hl11
 have H:=H.lend 0 rfl
 refine oq hf (uA hf (cs:=[(.int .i64 2),(.int .i64 y5.Id),(.int .i64 y5.Route.Start),(.slice A11 y5.Route.Fibers.length c12),(.int .i64 y5.Block.First),(.int .i64 y5.Block.Count)]) rfl (fun w=>by kernel_rfl)) fun a hf=>?_
 refine sB 1 hf H TF.gce fun w H=>?_
 refine ub (ua (wp_ret (u9 (uf (uf (?_))))))
 obtain rfl:=oi hF
 refine xi hf rfl (um hf H 1 TF.gck rfl rfl rfl) ?_
 have hN:=H.endsB1 3 rfl
 exact ⟨_,rfl,H.chg,_,H.boxAt 3 rfl,(ud (x:=y4.2) (eB 3 (H.get 1 rfl))),⟨fxc hx12,hx12⟩,F4,⟨_,xn (x:=({ Kind:=2,Light:=y5 }:Action)) (H.ownAt 0 rfl),rfl⟩,by first | exact hN | simpa using hN⟩
 refine sqz (pz 2 hf fun a hf=>?_)
 refine ub (ua (ib hF hf (fun hc4 hF=>?_) fun hc4 hF=>?_))
 refine sq (dw [9] 10 fun w hb=>?_)
 have H:=H.keep hb
 refine zp 0 hf trivial fun a hf=>?_
 refine strT (H.lk 1 0 0 []) (fun w H=>trivial) fun hS=>?_
 refine zS 1 [1,7,8,9] rfl rfl rfl rfl hf hS (fun w H=>ue hf H TF.ls3 0 rfl rfl rfl) fun a hf=>?_
 refine zp 2 hf hS fun a hf=>?_
 refine zS 3 [3,4,6,7,8,9] rfl rfl rfl rfl hf hS (fun w H=>ul hf H TF.la45 0 rfl rfl rfl rfl) fun a hf=>?_
 refine zp 5 hf hS fun a hf=>?_
 obtain ⟨y6,hy6,hF⟩:=bs_ hF
 refine nn 4 rfl (oC hf TF.glh (gc9 (S:=TT) (xk (x:=e.Route) (H.rt 1 rfl)) hy6) fun v6 w a hp10 hf=>?_)
 obtain ⟨hb2,F5,hp11,hN3⟩:=hp10
 obtain ⟨A12,c13,F6,rfl,rfl,hl12⟩:=yT hp11
 have H:=H.aO1 hb2 hN3 hl12
 have H:=H.lend 0 rfl
 have hS:=H.lk 1 0 0 []
 refine aS hS ?_
 obtain ⟨y7,hy7,hF⟩:=bs_ hF
 refine nn 6 rfl (oC hf TF.ggD (xe (S:=NB b0) (H.boxAt 3 rfl) ((ud (x:=y4.2) (H.nb 3 rfl (H.get 1 rfl)))) (fun h=>h rfl) hy7) fun v7 w a hp12 hf=>?_)
 obtain ⟨hch5,cs8,hbx5,hr8,⟨hx13,hx14⟩,hs5⟩:=hp12
 obtain rfl:=yj hs5
 obtain ⟨A13,c14,rfl,hl13⟩:=uc hr8
 obtain ⟨rfl,rfl⟩:=un hx13 rfl rfl
 have hx15:=hx14.trans hx12
 have H:=H.wroteBox 3 rfl hch5 hbx5
 have H:=H.pX 1 rfl hx14
 have hS:=H.lk 1 0 0 []
 refine aS hS ?_
 refine zP 7 rfl rfl rfl rfl hf hS (fun w=>uA hf (cs:=[(.int .i64 e.Id),(.int .i64 y6.Start),(.slice A12 y6.Fibers.length c13),(.int .i64 y7.1.First),(.int .i64 y7.1.Count)]) rfl (fun w=>by kernel_rfl)) fun a hf=>?_
 refine zP 8 rfl rfl rfl rfl hf hS (fun w=>uA hf (cs:=[(.int .i64 3),(.int .i64 e.Id),(.int .i64 y6.Start),(.slice A12 y6.Fibers.length c13),(.int .i64 y7.1.First),(.int .i64 y7.1.Count)]) rfl (fun w=>by kernel_rfl)) fun a hf=>?_
 refine nn 9 rfl (uh hf H 1 TF.gce rfl rfl rfl rfl rfl rfl (nle rfl) fun w H=>?_)
 refine ⟨fun h=>absurd h (by decide),?_⟩
 refine dk ?_
 have hf:=hf.pn [4]
 refine ua (wp_ret (u9 (uf (uf (?_)))))
 obtain rfl:=oi hF
 refine xi hf rfl (um hf H 1 TF.gck rfl rfl rfl) ?_
 have hN:=H.endsB1 3 rfl
 exact ⟨_,rfl,H.chg,_,H.boxAt 3 rfl,(ud (x:=y7.2) (eB 3 (H.get 0 rfl))),⟨fxc hx15,hx15⟩,F6,⟨_,xn (x:=({ Kind:=3,Light:=({ Id:=e.Id,Route:=y6,Block:=y7.1 }:Light) }:Action)) (H.ownAt 0 rfl),rfl⟩,by first | exact hN | simpa using hN⟩
 refine wp_skip (uV (ua (sq (dw [14] 15 fun w hb=>?_))))
 have H:=H.keep hb
 refine zp 0 hf trivial fun a hf=>?_
 refine strT (H.lk 1 0 0 []) (fun w H=>trivial) fun hS=>?_
 refine zS 1 [1,12,13,14] rfl rfl rfl rfl hf hS (fun w H=>ue hf H TF.ls3 0 rfl rfl rfl) fun a hf=>?_
 refine zp 2 hf hS fun a hf=>?_
 refine zp 3 hf hS fun a hf=>?_
 refine strT (H.lk 5 0 0 []) (fun w H=>H.lk 1 0 0 []) fun hS=>?_
 refine zS 4 [4,5,7,11,12,13,14] rfl rfl rfl rfl hf hS (fun w H=>ul hf H TF.la27 1 rfl rfl rfl rfl) fun a hf=>?_
 refine zp 6 hf hS fun a hf=>?_
 refine zp 8 hf hS fun a hf=>?_
 refine zp 9 hf hS fun a hf=>?_
 refine zS 10 [10,11,12,13,14] rfl rfl rfl rfl hf hS (fun w H=>ue hf H TF.ls3 0 rfl rfl rfl) fun a hf=>?_
 obtain ⟨y8,hy8,hF⟩:=bs_ hF
 refine nn 5 rfl (oC hf TF.ghx (vX (S:=NB b0) (H.boxAt 3 rfl) ((ud (x:=y4.2) (H.nb 3 rfl (H.get 0 rfl)))) (fun h=>h rfl) (uY (x:=p.Network) (H.nb 3 rfl (H.get 5 rfl)) (H.nb 3 rfl (H.get 4 rfl))) hy8) fun v8 w a hp13 hf=>?_)
 obtain ⟨hch6,cs9,hbx6,hr9,⟨hx16,hx17⟩,hs6⟩:=hp13
 obtain ⟨F7,hp14,hN4⟩:=hs6
 obtain ⟨A14,c15,F8,rfl,rfl,hl14⟩:=yT hp14
 obtain ⟨A15,c16,rfl,hl15⟩:=uc hr9
 obtain ⟨rfl,rfl⟩:=un hx16 rfl rfl
 have hx18:=hx17.trans hx12
 have H:=H.bO1 3 rfl hch6 hbx6 hN4 hl14
 have H:=H.pX 0 rfl hx17
 have H:=H.lend 0 rfl
 have hS:=H.lk 5 0 0 []
 refine aS hS ?_
 obtain ⟨y9,hy9,hF⟩:=bs_ hF
 refine nn 7 rfl (oC hf TF.yJ (ui (S:=NB b0) (H.boxAt 3 rfl) ((ud (x:=y8.2) (H.nb 3 rfl (H.get 1 rfl)))) (fun h=>h rfl) ug hy9) fun v9 w a hp15 hf=>?_)
 obtain ⟨hch7,cs10,hbx7,hr10,⟨hx19,hx20⟩,hs7⟩:=hp15
 obtain rfl:=uv hs7
 obtain ⟨A16,c17,rfl,hl16⟩:=uc hr10
 obtain ⟨rfl,rfl⟩:=un hx19 rfl rfl
 have hx21:=hx20.trans hx18
 have H:=H.wroteBox 3 rfl hch7 hbx7
 have H:=H.pX 1 rfl hx20
 have hS:=H.lk 5 0 0 []
 refine aS hS ?_
 refine zP 11 rfl rfl rfl rfl hf hS (fun w=>uA hf (cs:=[(.int .i64 y9.1),(.int .i64 e.Block.Count)]) rfl (fun w=>by kernel_rfl)) fun a hf=>?_
 refine zP 12 rfl rfl rfl rfl hf hS (fun w=>uA hf (cs:=[(.int .i64 e.Id),(.int .i64 y8.1.Start),(.slice A14 y8.1.Fibers.length c15),(.int .i64 y9.1),(.int .i64 e.Block.Count)]) rfl (fun w=>by kernel_rfl)) fun a hf=>?_
 refine zP 13 rfl rfl rfl rfl hf hS (fun w=>uA hf (cs:=[(.int .i64 3),(.int .i64 e.Id),(.int .i64 y8.1.Start),(.slice A14 y8.1.Fibers.length c15),(.int .i64 y9.1),(.int .i64 e.Block.Count)]) rfl (fun w=>by kernel_rfl)) fun a hf=>?_
 refine nn 14 rfl (uh hf H 1 TF.gce rfl rfl rfl rfl rfl rfl (nle rfl) fun w H=>?_)
 refine ⟨fun h=>absurd h (by decide),?_⟩
 refine dk ?_
 have hf:=hf.pn [4]
 refine ua (wp_ret (uf (?_)))
 obtain rfl:=oi hF
 refine xi hf rfl (um hf H 1 TF.gck rfl rfl rfl) ?_
 have hN:=H.endsB1 3 rfl
 exact ⟨_,rfl,H.chg,_,H.boxAt 3 rfl,(ud (x:=y9.2) (eB 3 (H.get 0 rfl))),⟨fxc hx21,hx21⟩,F8,⟨_,xn (x:=({ Kind:=3,Light:=({ Id:=e.Id,Route:=y8.1,Block:=({ First:=y9.1,Count:=e.Block.Count }:Block) }:Light) }:Action)) (H.ownAt 0 rfl),rfl⟩,by first | exact hN | simpa using hN⟩
 refine wp_skip (ua (sq (dw [5] 6 fun w hb=>?_)))
 have H:=H.keep hb
 refine zp 0 hf trivial fun a hf=>?_
 refine strT (H.lk 1 0 0 []) (fun w H=>trivial) fun hS=>?_
 refine zS 3 [3,4,5] rfl rfl rfl rfl hf hS (fun w H=>ul hf H TF.la49 0 rfl rfl rfl rfl) fun a hf=>?_
 refine nn 1 rfl (bl hf H 3 ([1,1,1,2,3,0,4]:List Int) [(.int .i64 1),(.int .i64 1),(.int .i64 1),(.int .i64 2),(.int .i64 3),(.int .i64 0),(.int .i64 4)] (elI [1,1,1,2,3,0,4]) fun A17 a w hf H=>?_)
 have hS:=H.lk 1 0 0 []
 refine aS hS ?_
 have H:=H.freeze 0 rfl
 obtain ⟨y10,hy10,hF⟩:=bs_ hF
 refine nn 2 rfl (oC hf TF.gcq (uJ (S:=NB b0) (H.boxAt 3 rfl) ((ud (x:=y2.2) (H.nb 3 rfl (H.get 1 rfl)))) (fun h=>h rfl) (uB (H.nb 3 rfl (H.get 0 rfl))) hy10) fun v10 w a hp16 hf=>?_)
 obtain ⟨hch8,cs11,hbx8,hr11,⟨hx22,hx23⟩,hs8⟩:=hp16
 obtain rfl:=uv hs8
 obtain ⟨A18,c18,rfl,hl17⟩:=uc hr11
 obtain ⟨rfl,rfl⟩:=un hx22 rfl rfl
 have hx24:=hx23.trans hx5
 have H:=H.wroteBox 3 rfl hch8 hbx8
 have H:=H.pX 1 rfl hx23
 have hS:=H.lk 1 0 0 []
 refine aS hS ?_
 refine zP 4 rfl rfl rfl rfl hf hS (fun w=>uA hf (cs:=[(.int .i64 y10.1),(.int .i64 y.1.Id),(.int .i64 y.1.Route.Start),(.slice A5 y.1.Route.Fibers.length c6),(.int .i64 y.1.Block.First),(.int .i64 y.1.Block.Count)]) rfl (fun w=>by kernel_rfl)) fun a hf=>?_
 refine nn 5 rfl (uh hf H 1 TF.gce rfl rfl rfl rfl rfl rfl (nle rfl) fun w H=>?_)
 refine ⟨fun h=>absurd h (by decide),?_⟩
 refine dk ?_
 have hf:=hf.pn [4]
 refine ua (wp_ret (?_))
 obtain rfl:=oi hF
 refine xi hf rfl (um hf H 1 TF.gck rfl rfl rfl) ?_
 have hN:=H.endsB1 3 rfl
 exact ⟨_,rfl,H.chg,_,H.boxAt 3 rfl,(ud (x:=y10.2) (eB 3 (H.get 0 rfl))),⟨fxc hx24,hx24⟩,F2,⟨_,xn (x:=({ Kind:=y10.1,Light:=y.1 }:Action)) (H.ownAt 0 rfl),rfl⟩,by first | exact hN | simpa using hN⟩
 have hf:=hf.lit 14 rfl hc
 refine pz 4 hf fun a hf=>?_
 refine ub (ua (cd_f hf rfl rfl (wp_skip (ua (sq (dw [5] 6 fun w hb=>?_))))))
 have H:=H.keep hb
 refine zp 0 hf trivial fun a hf=>?_
 refine strT (H.lk 1 0 0 []) (fun w H=>trivial) fun hS=>?_
 refine zS 3 [3,4,5] rfl rfl rfl rfl hf hS (fun w H=>ul hf H TF.la49 0 rfl rfl rfl rfl) fun a hf=>?_
 refine nn 1 rfl (bl hf H 3 ([1,1,1,2,3,0,4]:List Int) [(.int .i64 1),(.int .i64 1),(.int .i64 1),(.int .i64 2),(.int .i64 3),(.int .i64 0),(.int .i64 4)] (elI [1,1,1,2,3,0,4]) fun A19 a w hf H=>?_)
 have hS:=H.lk 1 0 0 []
 refine aS hS ?_
 have H:=H.freeze 0 rfl
 obtain ⟨y11,hy11,hF⟩:=bs_ hF
 refine nn 2 rfl (oC hf TF.gcq (uJ (S:=NB b0) (H.boxAt 3 rfl) ((ud (x:=y.2) (H.nb 3 rfl (H.get 2 rfl)))) (fun h=>h rfl) (uB (H.nb 3 rfl (H.get 0 rfl))) hy11) fun v11 w a hp17 hf=>?_)
 obtain ⟨hch9,cs12,hbx9,hr12,⟨hx25,hx26⟩,hs9⟩:=hp17
 obtain rfl:=uv hs9
 obtain ⟨A20,c19,rfl,hl18⟩:=uc hr12
 obtain ⟨rfl,rfl⟩:=un hx25 rfl rfl
 have hx27:=hx26.trans hx2
 have H:=H.wroteBox 3 rfl hch9 hbx9
 have H:=H.pX 2 rfl hx26
 have hS:=H.lk 1 0 0 []
 refine aS hS ?_
 refine zP 4 rfl rfl rfl rfl hf hS (fun w=>uA hf (cs:=[(.int .i64 y11.1),(.int .i64 y.1.Id),(.int .i64 y.1.Route.Start),(.slice A5 y.1.Route.Fibers.length c6),(.int .i64 y.1.Block.First),(.int .i64 y.1.Block.Count)]) rfl (fun w=>by kernel_rfl)) fun a hf=>?_
 refine nn 5 rfl (uh hf H 1 TF.gce rfl rfl rfl rfl rfl rfl (nle rfl) fun w H=>?_)
 refine ⟨fun h=>absurd h (by decide),?_⟩
 refine dk ?_
 have hf:=hf.pn [4]
 refine ua (wp_ret (?_))
 obtain rfl:=oi hF
 refine xi hf rfl (um hf H 1 TF.gck rfl rfl rfl) ?_
 have hN:=H.endsB1 3 rfl
 exact ⟨_,rfl,H.chg,_,H.boxAt 3 rfl,(ud (x:=y11.2) (eB 3 (H.get 0 rfl))),⟨fxc hx27,hx27⟩,F2,⟨_,xn (x:=({ Kind:=y11.1,Light:=y.1 }:Action)) (H.ownAt 0 rfl),rfl⟩,by first | exact hN | simpa using hN⟩
theorem gb8 {S:Nat→Prop} {v0_:Value} {v1_:Value} {p:Plan} {x1:Light} {r:Plan×Bool} (h0:VR w0 S v0_ p) (h1:VR w0 S v1_ x1) (hF:gak fu p x1=some r) :
    Calls Tryz.prog 255 [v0_,v1_].toArray w0 fun e w'=>∃ v,e=.returned v∧(Below w0.heap.size w0 w'∧∃ u0 u1,v=.tuple #[u0,u1]∧VR w' (St ⟨w0,[]⟩ S [] [] [] true) u0 r.1∧VR w' (St ⟨w0,[]⟩ S [] [] [] true) u1 r.2):=by
 obtain ⟨A,c,A2,c2,A3,c3,rfl,hl,hl2,hl3⟩:=uD h0
 obtain ⟨A4,c4,rfl,hl4⟩:=vK h1
 have H:=Mem.start ⟨w0,[]⟩ S
 have H:=H.pA hl
 have H:=H.pA hl2
 have H:=H.pA hl3
 have H:=H.pA hl4
 refine en Tryz.func255 fun a hf=>?_
 rw [gak] at hF
 refine bx hf H fun b' a w hf H=>?_
 refine wl0 rfl (xl hf H rfl rfl (by decide) fun b2 a w hf H=>?_)
 refine aL hf H TF.zv30 fun b3 a w hf H=>?_
 refine pz 1 hf fun a hf=>?_
 refine ub (ua (sq (sq (reg (lN 2 hf H TF.la30 fun a hf=>?_)))))
 obtain ⟨y,hy,hF⟩:=bs_ hF
 refine oc hf TF.gft (xA (S:=TT) (uj (x:=p) (H.rt 3 rfl) (H.rt 2 rfl) (H.rt 1 rfl)) hy) fun v w a hp hf=>?_
 obtain ⟨hb,hp⟩:=hp
 obtain rfl:=uo hp
 have H:=H.keep hb
 refine pz 1 hf fun a hf=>?_
 refine ub (ua (ib hF hf (fun hc hF=>?_) fun hc hF=>?_))
 refine sq (reg (oq hf (uA hf (cs:=[(.slice none 0 0),(.slice none 0 0),(.slice none 0 0)]) rfl (fun w=>by kernel_rfl)) fun a hf=>?_))
 refine sB 0 hf H TF.sz30 fun w H=>?_
 refine pz 1 hf fun a hf=>?_
 refine ub (ua (wp_ret (uf (?_))))
 have H:=H.pushNil (ByteArray) true
 have H:=H.pushNil (Fiber) true
 have H:=H.pushNil (Light) true
 obtain rfl:=oi hF
 refine vL hf rfl (um hf H 0 TF.la30 rfl rfl rfl) (uE hf rfl) ?_
 exact ⟨_,rfl,H.bel,_,_,rfl,(uj (x:=({ Network:=({ Nodes:=[],Fibers:=[] }:Network),Lights:=[] }:Plan)) (vt (α:=List ByteArray) (H.get 2 rfl)) (vt (α:=List Fiber) (H.get 1 rfl)) (vt (α:=List Light) (H.get 0 rfl))),uk⟩
 refine wp_skip (ua (sq (reg (lN 2 hf H TF.la30 fun a hf=>?_))))
 refine lN 1 hf H TF.la49 fun a hf=>?_
 obtain ⟨y2,hy2,hF⟩:=bs_ hF
 refine oc hf TF.ggC (zd (S:=TT) (uj (x:=p) (H.rt 3 rfl) (H.rt 2 rfl) (H.rt 1 rfl)) (uT (x:=x1) (H.rt 0 rfl)) hy2) fun v2 w a hp2 hf=>?_
 obtain ⟨A5,c5,F,A6,c6,F2,A7,c7,E,rfl,Hc⟩:=hp2
 have H:=H.comp Hc (.inl rfl)
 have H:=H.lend 0 rfl
 have H:=H.lend 1 rfl
 refine aL hf H TF.zv30 fun b4 a w hf H=>?_
 refine sB 0 hf H TF.sz30 fun w H=>?_
 refine ub (ua (sq (sq (reg (lN 0 hf H TF.la30 fun a hf=>?_)))))
 obtain ⟨y3,hy3,hF⟩:=bs_ hF
 refine oc hf TF.gft (xA (S:=TT) (uj (x:=y2) (H.rt 1 rfl) (H.rt 0 rfl) (H.rowTrue 0 rfl)) hy3) fun v3 w a hp3 hf=>?_
 obtain ⟨hb2,hp3⟩:=hp3
 obtain rfl:=uo hp3
 have H:=H.keep hb2
 refine pz 1 hf fun a hf=>?_
 have hf:=hf.pn [4,6,16]
 refine ub (ua (ib hF hf (fun hc2 hF=>?_) fun hc2 hF=>?_))
 refine sq (reg (oq hf (uA hf (cs:=[(.slice none 0 0),(.slice none 0 0),(.slice none 0 0)]) rfl (fun w=>by kernel_rfl)) fun a hf=>?_))
 refine sB 1 hf H TF.sz30 fun w H=>?_
 refine pz 1 hf fun a hf=>?_
 refine ub (ua (wp_ret (uf (?_))))
 have H:=H.pushNil (ByteArray) true
 have H:=H.pushNil (Fiber) true
 have H:=H.pushNil (Light) true
 obtain rfl:=oi hF
 refine vL hf rfl (um hf H 1 TF.la30 rfl rfl rfl) (uE hf rfl) ?_
 exact ⟨_,rfl,H.bel,_,_,rfl,(uj (x:=({ Network:=({ Nodes:=[],Fibers:=[] }:Network),Lights:=[] }:Plan)) (vt (α:=List ByteArray) (H.get 2 rfl)) (vt (α:=List Fiber) (H.get 1 rfl)) (vt (α:=List Light) (H.get 0 rfl))),uk⟩
 refine wp_skip (ua (sq (reg (lN 0 hf H TF.la30 fun a hf=>?_))))
 refine sB 1 hf H TF.sz30 fun w H=>?_
 refine pz 1 hf fun a hf=>?_
 refine wer ?_
 have H:=H.freeze 0 rfl
 obtain rfl:=oi hF
 refine vL hf rfl (um hf H 1 TF.la30 rfl rfl rfl) (uE hf rfl) ?_
 exact ⟨_,rfl,H.bel,_,_,rfl,(uj (x:=y2) (vt (α:=List ByteArray) (H.get 2 rfl)) (vt (α:=List Fiber) (H.get 1 rfl)) (vt (α:=List Light) (H.get 0 rfl))),uk⟩
theorem gbn {S:Nat→Prop} {v0_:Value} {v1_:Value} {x1:Light} {y:Light} {r:Bool} (h0:VR w0 S v0_ x1) (h1:VR w0 S v1_ y) (hF:gab fu x1 y=some r) :
    Calls Tryz.prog 201 [v0_,v1_].toArray w0 fun e w'=>∃ v,e=.returned v∧(Below w0.heap.size w0 w'∧VR w' (St ⟨w0,[]⟩ S [] [] [] true) v r):=by
 obtain ⟨A,c,rfl,hl⟩:=vK h0
 obtain ⟨A2,c2,rfl,hl2⟩:=vK h1
 have H:=Mem.start ⟨w0,[]⟩ S
 have H:=H.pA hl
 have H:=H.pA hl2
 refine en Tryz.func201 fun a hf=>?_
 rw [gab] at hF
 refine bx hf H fun b' a w hf H=>?_
 refine wl0 rfl (xl hf H rfl rfl (by decide) fun b2 a w hf H=>?_)
 refine pz 1 hf fun a hf=>?_
 refine ub (ua (sq ?_))
 obtain ⟨c3,hGc3,hF⟩:=bs_ hF
 have fh:=hf.prune [] rfl
 have Hm:=H.lk 0 0 0 []
 refine midF 4 (.bool c3) fh Hm ?_ fun a w hf H=>?_
 refine reg (pz 1 hf fun a hf=>?_)
 refine lB 1 hf H TF.ls3 fun a hf=>?_
 refine pz 1 hf fun a hf=>?_
 refine lB 0 hf H TF.ls3 fun a hf=>?_
 refine pz 2 hf fun a hf=>?_
 refine iteB hGc3 (fun hc hGc3=>?_) fun hc hGc3=>?_
 have hf:=hf.lit 10 rfl hc
 refine pz 1 hf fun a hf=>?_
 refine wlg hf rfl rfl rfl (op_q hf (ul hf H TF.la47 1 rfl rfl rfl rfl) rfl (by decide) fun a hf=>?_)
 refine pz 1 hf fun a hf=>?_
 refine wlg hf rfl rfl rfl (op_q hf (ul hf H TF.la47 0 rfl rfl rfl rfl) rfl (by decide) fun a hf=>?_)
 refine wlg hf rfl rfl rfl (op_q hf (gh0 hf TF.ggU ([x1.Block.First,x1.Block.Count]:List Int) ([y.Block.First,y.Block.Count]:List Int) rfl rfl rfl rfl rfl rfl) rfl (by decide) fun a hf=>?_)
 refine pz 2 hf fun a hf=>?_
 refine iteB hGc3 (fun hc2 hGc3=>?_) fun hc2 hGc3=>?_
 have hf:=hf.lit 17 rfl hc2
 refine pz 1 hf fun a hf=>?_
 refine wlg hf rfl rfl rfl (op_q hf (ul hf H TF.la45 1 rfl rfl rfl rfl) rfl (by decide) fun a hf=>?_)
 refine pz 1 hf fun a hf=>?_
 refine wlg hf rfl rfl rfl (op_q hf (ul hf H TF.la45 0 rfl rfl rfl rfl) rfl (by decide) fun a hf=>?_)
 obtain ⟨y2,hy2,hGc3⟩:=bs_ hGc3
 refine wlg hf rfl rfl rfl (oC hf TF.gli (gcD (S:=TT) (xk (x:=x1.Route) (H.rt 1 rfl)) (xk (x:=y.Route) (H.rt 0 rfl)) hy2) fun v w a hp hf=>?_)
 obtain ⟨hb,hp⟩:=hp
 obtain rfl:=uo hp
 have H:=H.keep hb
 refine pz 2 hf fun a hf=>?_
 obtain rfl:=oi hGc3
 have hf:=hf.pn [4]
 have H:=H.lk 0 0 0 []
 exact ub ⟨hf,H⟩
 have hf:=hf.lit 17 rfl hc2
 refine pz 7 hf fun a hf=>?_
 obtain rfl:=oi hGc3
 have hf:=hf.pn [4]
 have H:=H.lk 0 0 0 []
 exact ub ⟨hf,H⟩
 have hf:=hf.lit 10 rfl hc
 refine pz 14 hf fun a hf=>?_
 obtain rfl:=oi hGc3
 have hf:=hf.pn [4]
 have H:=H.lk 0 0 0 []
 exact ub ⟨hf,H⟩
 refine ua (wp_ret (?_))
 obtain rfl:=oi hF
 refine rT hf ?_
 exact ⟨_,rfl,H.bel,uk⟩
theorem gbR {S:Nat→Prop} {v0_:Value} {v1_:Value} {v2_:Value} {v3_:Value} {p:Plan} {id:Int} {r':Route} {b':Block} {r:Plan×Bool} (h0:VR w0 S v0_ p) (h1:VR w0 S v1_ id) (h2:VR w0 S v2_ r') (h3:VR w0 S v3_ b') (hF:zW fu p id r' b'=some r) :
    Calls Tryz.prog 256 [v0_,v1_,v2_,v3_].toArray w0 fun e w'=>∃ v,e=.returned v∧(Below w0.heap.size w0 w'∧∃ u0 u1,v=.tuple #[u0,u1]∧VR w' (St ⟨w0,[]⟩ S [] [] [] true) u0 r.1∧VR w' (St ⟨w0,[]⟩ S [] [] [] true) u1 r.2):=by
 obtain ⟨A,c,A2,c2,A3,c3,rfl,hl,hl2,hl3⟩:=uD h0
 obtain rfl:=uv h1
 obtain ⟨A4,c4,rfl,hl4⟩:=yi h2
 obtain rfl:=yj h3
 have H:=Mem.start ⟨w0,[]⟩ S
 have H:=H.pA hl
 have H:=H.pA hl2
 have H:=H.pA hl3
 have H:=H.pA hl4
 refine en Tryz.func256 fun a hf=>?_
 rw [zW] at hF
 refine bx hf H fun b2 a w hf H=>?_
 refine wl0 rfl (xl hf H rfl rfl (by decide) fun b3 a w hf H=>?_)
 refine wl0 rfl (xl hf H rfl rfl (by decide) fun b4 a w hf H=>?_)
 refine aL hf H TF.zv30 fun b5 a w hf H=>?_
 refine pz 1 hf fun a hf=>?_
 refine ub (ua (sq (sq ?_)))
 obtain ⟨c5,hGc5,hF⟩:=bs_ hF
 have fh:=hf.prune [1,4,6,7,8] rfl
 have Hm:=H.lm 15 0 0 4 15
 refine midF 19 (.bool c5) fh Hm ?_ fun a w hf H=>?_
 refine reg (lN 3 hf H TF.la30 fun a hf=>?_)
 obtain ⟨y,hy,hGc5⟩:=bs_ hGc5
 refine oc hf TF.gft (xA (S:=TT) (uj (x:=p) (H.rt 3 rfl) (H.rt 2 rfl) (H.rt 1 rfl)) hy) fun v w a hp hf=>?_
 obtain ⟨hb,hp⟩:=hp
 obtain rfl:=uo hp
 have H:=H.keep hb
 refine pz 2 hf fun a hf=>?_
 refine iteB hGc5 (fun hc hGc5=>?_) fun hc hGc5=>?_
 have hf:=hf.lit 14 rfl hc
 refine pz 5 hf fun a hf=>?_
 obtain rfl:=oi hGc5
 have hf:=hf.pn [19,1,4,6,7,8]
 have H:=H.lm 15 0 0 4 15
 exact ub ⟨hf,H⟩
 have hf:=hf.lit 14 rfl hc
 refine wlg hf rfl rfl rfl (op_q hf (ul hf H TF.la30 3 rfl rfl rfl rfl) rfl (by decide) fun a hf=>?_)
 refine pz 1 hf fun a hf=>?_
 obtain ⟨y2,hy2,hGc5⟩:=bs_ hGc5
 refine wlg hf rfl rfl rfl (oC hf TF.ggc (x3 (S:=TT) (uj (x:=p) (H.rt 3 rfl) (H.rt 2 rfl) (H.rt 1 rfl)) ug hy2) fun v2 w a hp2 hf=>?_)
 obtain ⟨hb2,hp2⟩:=hp2
 obtain rfl:=uv hp2
 have H:=H.keep hb2
 refine pz 2 hf fun a hf=>?_
 obtain rfl:=oi hGc5
 have hf:=hf.pn [19,1,4,6,7,8]
 have H:=H.lm 15 0 0 4 15
 exact ub ⟨hf,H⟩
 refine ua (ib hF hf (fun hc2 hF=>?_) fun hc2 hF=>?_)
 refine sq (reg (oq hf (uA hf (cs:=[(.slice none 0 0),(.slice none 0 0),(.slice none 0 0)]) rfl (fun w=>by kernel_rfl)) fun a hf=>?_))
 refine sB 0 hf H TF.sz30 fun w H=>?_
 refine pz 1 hf fun a hf=>?_
 refine ub (ua (wp_ret (uf (?_))))
 have H:=H.pushNil (ByteArray) true
 have H:=H.pushNil (Fiber) true
 have H:=H.pushNil (Light) true
 obtain rfl:=oi hF
 refine vL hf rfl (um hf H 0 TF.la30 rfl rfl rfl) (uE hf rfl) ?_
 exact ⟨_,rfl,H.bel,_,_,rfl,(uj (x:=({ Network:=({ Nodes:=[],Fibers:=[] }:Network),Lights:=[] }:Plan)) (vt (α:=List ByteArray) (H.get 2 rfl)) (vt (α:=List Fiber) (H.get 1 rfl)) (vt (α:=List Light) (H.get 0 rfl))),uk⟩
 refine wp_skip (ua (sq ?_))
 obtain ⟨y3,hy3,hF⟩:=bs_ hF
 obtain ⟨y4,hy4,hF⟩:=bs_ hF
 obtain ⟨y5,hy5,hF⟩:=bs_ hF
 refine mid (fun a w=>∃ (b6:Nat) (A8:Option Addr) (c9:Nat) (F3:List Nat) (A9:Option Addr) (c10:Nat) (F4:List Nat) (A10:Option Addr) (c11:Nat) (E2:Go.TypeId),Fr a 36 [(8,(.pointer (some ⟨b5,0,none⟩))),(10,(.pointer (some ⟨b6,0,none⟩)))]∧Mem ⟨w0,[]⟩ S [⟨b6,30,[(.slice A8 y5.Network.Nodes.length c9),(.slice A9 y5.Network.Fibers.length c10),(.slice A10 y5.Lights.length c11)]⟩,⟨b5,30,[(.slice none 0 0),(.slice none 0 0),(.slice none 0 0)]⟩] [⟨.sh true,E2,A10,c11,(y5.Lights:List Light)⟩] [⟨F3,MP.own F3 [(.slice A8 y5.Network.Nodes.length c9)] (y5.Network.Nodes:List ByteArray)⟩,⟨F4,MP.own F4 [(.slice A9 y5.Network.Fibers.length c10)] (y5.Network.Fibers:List Fiber)⟩] [(true,MP.val [(.slice A9 y5.Network.Fibers.length c10)] (y5.Network.Fibers:List Fiber)),(true,MP.val [(.slice A8 y5.Network.Nodes.length c9)] (y5.Network.Nodes:List ByteArray))] w) ?_ ?_
 refine dw [11] 12 fun w hb=>?_
 have H:=H.keep hb
 refine strT (H.lk 8 0 0 []) (fun w H=>trivial) fun hS=>?_
 refine zS 0 [0,4,9,11] rfl rfl rfl rfl hf hS (fun w H=>ul hf H TF.la30 0 rfl rfl rfl rfl) fun a hf=>?_
 refine zS 1 [1,3,4,9,11] rfl rfl rfl rfl hf hS (fun w H=>ul hf H TF.la30 0 rfl rfl rfl rfl) fun a hf=>?_
 refine zp 2 hf hS fun a hf=>?_
 refine zp 5 hf hS fun a hf=>?_
 refine strT (H.lk 12 0 0 []) (fun w H=>H.lk 2 0 0 []) fun hS=>?_
 refine zS 6 [6,8,9,11] rfl rfl rfl rfl hf hS (fun w H=>ul hf H TF.la45 0 rfl rfl rfl rfl) fun a hf=>?_
 refine strT (H.lk 14 0 0 []) (fun w H=>H.lk 6 0 0 []) fun hS=>?_
 refine zS 7 [7,8,9,11] rfl rfl rfl rfl hf hS (fun w H=>ul hf H TF.la47 0 rfl rfl rfl rfl) fun a hf=>?_
 refine zP 8 rfl rfl rfl rfl hf hS (fun w=>uA hf (cs:=[(.int .i64 id),(.int .i64 r'.Start),(.slice A4 r'.Fibers.length c4),(.int .i64 b'.First),(.int .i64 b'.Count)]) rfl (fun w=>by kernel_rfl)) fun a hf=>?_
 refine on2 (i:=3) (j:=10) (bi:=[true,true,true,true,false,true,true,true,true,false,false,false]) (bj:=[true,true,true,false,false,true,true,true,true,false,true,false]) (by kernel_rfl) rfl rfl rfl rfl rfl rfl ?_ ?_
 refine (oC hf TF.ggc (x3 (S:=TT) (uj (x:=p) (H.rt 3 rfl) (H.rt 2 rfl) (H.rt 1 rfl)) ug hy3) fun v3 w a hp3 hf=>?_)
 obtain ⟨hb3,hp3⟩:=hp3
 obtain rfl:=uv hp3
 have H:=H.keep hb3
 have hS:=H.lk 14 0 0 []
 refine aS hS ?_
 refine on2 (i:=4) (j:=10) (bi:=[true,true,true,true,true,true,true,true,true,false,false,false]) (bj:=[true,true,true,true,false,true,true,true,true,false,true,false]) (by kernel_rfl) rfl rfl rfl rfl rfl rfl ?_ ?_
 refine (oC hf TF.giP (yV (S:=TT) (uj (x:=p) (H.rt 3 rfl) (H.rt 2 rfl) (H.rt 1 rfl)) ug hy4) fun v4 w a hp4 hf=>?_)
 obtain ⟨A5,c6,F,A6,c7,F2,A7,c8,E,rfl,Hc⟩:=hp4
 have H:=H.comp Hc (.inl rfl)
 have H:=H.lend 0 rfl
 have H:=H.lend 1 rfl
 have hS:=H.lk 14 0 0 []
 refine aS hS ?_
 refine on2 (i:=9) (j:=10) (bi:=[true,true,true,true,true,true,true,true,true,true,false,false]) (bj:=[true,true,true,true,true,true,true,true,true,false,true,false]) (by kernel_rfl) rfl rfl rfl rfl rfl rfl ?_ ?_
 refine (oC hf TF.ggC (zd (S:=TT) (uj (x:=y4) (H.rt 1 rfl) (H.rt 0 rfl) (H.rowTrue 0 rfl)) (uT (x:=({ Id:=id,Route:=r',Block:=b' }:Light)) (H.rt 2 rfl)) hy5) fun v5 w a hp5 hf=>?_)
 obtain ⟨A8,c9,F3,A9,c10,F4,A10,c11,E2,rfl,Hc2⟩:=hp5
 have H:=H.comp Hc2 (.inl rfl)
 have H:=H.lend 0 rfl
 have H:=H.lend 1 rfl
 have hS:=H.lk 14 0 0 []
 refine aS hS ?_
 refine nn 10 rfl (vc hf H TF.zv30 rfl (by decide) fun b6 a w hf H=>?_)
 have hS:=H.lk 28 0 0 []
 refine aS hS ?_
 refine nn 11 rfl (uh hf H 0 TF.sz30 rfl rfl rfl rfl rfl rfl (nle rfl) fun w H=>?_)
 refine ⟨fun h=>absurd h (by decide),?_⟩
 refine dk ?_
 have hf:=hf.pn [8,10]
 have H:=H.lk 3 1 3 [0,1]
 exact ⟨b6,A8,c9,F3,A9,c10,F4,A10,c11,E2,hf,H⟩
 refine (vc hf H TF.zv30 rfl (by decide) fun b6 a w hf H=>?_)
 have hS:=H.lk 28 0 0 []
 refine aS hS ?_
 refine nn 9 rfl (oC hf TF.ggC (zd (S:=TT) (uj (x:=y4) (H.rt 1 rfl) (H.rt 0 rfl) (H.rowTrue 0 rfl)) (uT (x:=({ Id:=id,Route:=r',Block:=b' }:Light)) (H.rt 2 rfl)) hy5) fun v5 w a hp5 hf=>?_)
 obtain ⟨A8,c9,F3,A9,c10,F4,A10,c11,E2,rfl,Hc2⟩:=hp5
 have H:=H.comp Hc2 (.inl rfl)
 have H:=H.lend 0 rfl
 have H:=H.lend 1 rfl
 have hS:=H.lk 28 0 0 []
 refine aS hS ?_
 refine nn 11 rfl (uh hf H 0 TF.sz30 rfl rfl rfl rfl rfl rfl (nle rfl) fun w H=>?_)
 refine ⟨fun h=>absurd h (by decide),?_⟩
 refine dk ?_
 have hf:=hf.pn [8,10]
 have H:=H.lk 3 1 3 [0,1]
 exact ⟨b6,A8,c9,F3,A9,c10,F4,A10,c11,E2,hf,H⟩
 refine (vc hf H TF.zv30 rfl (by decide) fun b6 a w hf H=>?_)
 have hS:=H.lk 28 0 0 []
 refine aS hS ?_
 refine nn 4 rfl (oC hf TF.giP (yV (S:=TT) (uj (x:=p) (H.rt 3 rfl) (H.rt 2 rfl) (H.rt 1 rfl)) ug hy4) fun v4 w a hp4 hf=>?_)
 obtain ⟨A5,c6,F,A6,c7,F2,A7,c8,E,rfl,Hc⟩:=hp4
 have H:=H.comp Hc (.inl rfl)
 have H:=H.lend 0 rfl
 have H:=H.lend 1 rfl
 have hS:=H.lk 28 0 0 []
 refine aS hS ?_
 refine nn 9 rfl (oC hf TF.ggC (zd (S:=TT) (uj (x:=y4) (H.rt 1 rfl) (H.rt 0 rfl) (H.rowTrue 0 rfl)) (uT (x:=({ Id:=id,Route:=r',Block:=b' }:Light)) (H.rt 2 rfl)) hy5) fun v5 w a hp5 hf=>?_)
 obtain ⟨A8,c9,F3,A9,c10,F4,A10,c11,E2,rfl,Hc2⟩:=hp5
 have H:=H.comp Hc2 (.inl rfl)
 have H:=H.lend 0 rfl
 have H:=H.lend 1 rfl
 have hS:=H.lk 28 0 0 []
 refine aS hS ?_
 refine nn 11 rfl (uh hf H 0 TF.sz30 rfl rfl rfl rfl rfl rfl (nle rfl) fun w H=>?_)
 refine ⟨fun h=>absurd h (by decide),?_⟩
 refine dk ?_
 have hf:=hf.pn [8,10]
 have H:=H.lk 3 1 3 [0,1]
 exact ⟨b6,A8,c9,F3,A9,c10,F4,A10,c11,E2,hf,H⟩
 refine (vc hf H TF.zv30 rfl (by decide) fun b6 a w hf H=>?_)
 have hS:=H.lk 28 0 0 []
 refine aS hS ?_
 refine nn 3 rfl (oC hf TF.ggc (x3 (S:=TT) (uj (x:=p) (H.rt 3 rfl) (H.rt 2 rfl) (H.rt 1 rfl)) ug hy3) fun v3 w a hp3 hf=>?_)
 obtain ⟨hb3,hp3⟩:=hp3
 obtain rfl:=uv hp3
 have H:=H.keep hb3
 have hS:=H.lk 28 0 0 []
 refine aS hS ?_
 refine nn 4 rfl (oC hf TF.giP (yV (S:=TT) (uj (x:=p) (H.rt 3 rfl) (H.rt 2 rfl) (H.rt 1 rfl)) ug hy4) fun v4 w a hp4 hf=>?_)
 obtain ⟨A5,c6,F,A6,c7,F2,A7,c8,E,rfl,Hc⟩:=hp4
 have H:=H.comp Hc (.inl rfl)
 have H:=H.lend 0 rfl
 have H:=H.lend 1 rfl
 have hS:=H.lk 28 0 0 []
 refine aS hS ?_
 refine nn 9 rfl (oC hf TF.ggC (zd (S:=TT) (uj (x:=y4) (H.rt 1 rfl) (H.rt 0 rfl) (H.rowTrue 0 rfl)) (uT (x:=({ Id:=id,Route:=r',Block:=b' }:Light)) (H.rt 2 rfl)) hy5) fun v5 w a hp5 hf=>?_)
 obtain ⟨A8,c9,F3,A9,c10,F4,A10,c11,E2,rfl,Hc2⟩:=hp5
 have H:=H.comp Hc2 (.inl rfl)
 have H:=H.lend 0 rfl
 have H:=H.lend 1 rfl
 have hS:=H.lk 28 0 0 []
 refine aS hS ?_
 refine nn 11 rfl (uh hf H 0 TF.sz30 rfl rfl rfl rfl rfl rfl (nle rfl) fun w H=>?_)
 refine ⟨fun h=>absurd h (by decide),?_⟩
 refine dk ?_
 have hf:=hf.pn [8,10]
 have H:=H.lk 3 1 3 [0,1]
 exact ⟨b6,A8,c9,F3,A9,c10,F4,A10,c11,E2,hf,H⟩
 rintro a w ⟨b6,A8,c9,F3,A9,c10,F4,A10,c11,E2,hf,H⟩
 refine ua (sq (sq (reg (lN 0 hf H TF.la30 fun a hf=>?_))))
 obtain ⟨y6,hy6,hF⟩:=bs_ hF
 refine oc hf TF.gft (xA (S:=TT) (uj (x:=y5) (H.rt 1 rfl) (H.rt 0 rfl) (H.rowTrue 0 rfl)) hy6) fun v6 w a hp6 hf=>?_
 obtain ⟨hb4,hp6⟩:=hp6
 obtain rfl:=uo hp6
 have H:=H.keep hb4
 refine pz 1 hf fun a hf=>?_
 refine ub (ua (ib hF hf (fun hc3 hF=>?_) fun hc3 hF=>?_))
 refine sq (reg (oq hf (uA hf (cs:=[(.slice none 0 0),(.slice none 0 0),(.slice none 0 0)]) rfl (fun w=>by kernel_rfl)) fun a hf=>?_))
 refine sB 1 hf H TF.sz30 fun w H=>?_
 refine pz 1 hf fun a hf=>?_
 refine ub (ua (wp_ret (uf (?_))))
 have H:=H.pushNil (ByteArray) true
 have H:=H.pushNil (Fiber) true
 have H:=H.pushNil (Light) true
 obtain rfl:=oi hF
 refine vL hf rfl (um hf H 1 TF.la30 rfl rfl rfl) (uE hf rfl) ?_
 exact ⟨_,rfl,H.bel,_,_,rfl,(uj (x:=({ Network:=({ Nodes:=[],Fibers:=[] }:Network),Lights:=[] }:Plan)) (vt (α:=List ByteArray) (H.get 2 rfl)) (vt (α:=List Fiber) (H.get 1 rfl)) (vt (α:=List Light) (H.get 0 rfl))),uk⟩
 refine wp_skip (ua (sq (reg (lN 0 hf H TF.la30 fun a hf=>?_))))
 refine sB 1 hf H TF.sz30 fun w H=>?_
 refine pz 1 hf fun a hf=>?_
 refine wer ?_
 have H:=H.freeze 0 rfl
 obtain rfl:=oi hF
 refine vL hf rfl (um hf H 1 TF.la30 rfl rfl rfl) (uE hf rfl) ?_
 exact ⟨_,rfl,H.bel,_,_,rfl,(uj (x:=y5) (vt (α:=List ByteArray) (H.get 2 rfl)) (vt (α:=List Fiber) (H.get 1 rfl)) (vt (α:=List Light) (H.get 0 rfl))),uk⟩
theorem z4 {S:Nat→Prop} {v0_:Value} {v1_:Value} {p:Plan} {a':Action} {r:Plan×Bool} (h0:VR w0 S v0_ p) (h1:VR w0 S v1_ a') (hF:vH fu p a'=some r) :
    Calls Tryz.prog 191 [v0_,v1_].toArray w0 fun e w'=>∃ v,e=.returned v∧(Below w0.heap.size w0 w'∧∃ u0 u1,v=.tuple #[u0,u1]∧VR w' (St ⟨w0,[]⟩ S [] [] [] true) u0 r.1∧VR w' (St ⟨w0,[]⟩ S [] [] [] true) u1 r.2):=by
 obtain ⟨A,c,A2,c2,A3,c3,rfl,hl,hl2,hl3⟩:=uD h0
 obtain ⟨A4,c4,rfl,hl4⟩:=gc6 h1
 have H:=Mem.start ⟨w0,[]⟩ S
 have H:=H.pA hl
 have H:=H.pA hl2
 have H:=H.pA hl3
 have H:=H.pA hl4
 refine en Tryz.func191 fun a hf=>?_
 rw [vH] at hF
 refine bx hf H fun b' a w hf H=>?_
 refine wl0 rfl (xl hf H rfl rfl (by decide) fun b2 a w hf H=>?_)
 refine aL hf H TF.zv30 fun b3 a w hf H=>?_
 refine pz 1 hf fun a hf=>?_
 refine wr (lN 2 hf H TF.la30 fun a hf=>?_)
 refine pz 2 hf fun a hf=>?_
 refine lB 1 hf H TF.ls3 fun a hf=>?_
 obtain ⟨y,hy,hF⟩:=bs_ hF
 refine oc hf TF.ggc (x3 (S:=TT) (uj (x:=p) (H.rt 3 rfl) (H.rt 2 rfl) (H.rt 1 rfl)) ug hy) fun v w a hp hf=>?_
 obtain ⟨hb,hp⟩:=hp
 obtain rfl:=uv hp
 have H:=H.keep hb
 refine pz 1 hf fun a hf=>?_
 refine we (sqz (pz 1 hf fun a hf=>?_))
 refine lB 1 hf H TF.ls3 fun a hf=>?_
 refine ub (ua (wp_block (sqz (pz 2 hf fun a hf=>?_))))
 refine ub (ua (ib hF hf (fun hc hF=>?_) fun hc hF=>?_))
 refine sq (reg (lN 2 hf H TF.la30 fun a hf=>?_))
 refine pz 1 hf fun a hf=>?_
 refine lN 1 hf H TF.la49 fun a hf=>?_
 obtain ⟨y2,hy2,hF⟩:=bs_ hF
 refine oc hf TF.glf (gb8 (S:=TT) (uj (x:=p) (H.rt 3 rfl) (H.rt 2 rfl) (H.rt 1 rfl)) (uT (x:=a'.Light) (H.rt 0 rfl)) hy2) fun v2 w a hp2 hf=>?_
 obtain ⟨hb2,v3,v4,rfl,hp3,hp4⟩:=hp2
 obtain ⟨A5,c5,A6,c6,A7,c7,rfl,hl5,hl6,hl7⟩:=uD hp3
 replace hl5:=H.rF hl5
 replace hl6:=H.rF hl6
 replace hl7:=H.rF hl7
 obtain rfl:=uo hp4
 have H:=H.keep hb2
 have H:=H.pT hl5
 have H:=H.pT hl6
 have H:=H.pT hl7
 refine pz 2 hf fun a hf=>?_
 refine sB 0 hf H TF.sz30 fun w H=>?_
 refine pz 1 hf fun a hf=>?_
 have hf:=hf.pn [4,5]
 refine ub (ua (wp_ret (u9 (uf (?_)))))
 obtain rfl:=oi hF
 refine vL hf rfl (um hf H 0 TF.la30 rfl rfl rfl) (uE hf rfl) ?_
 exact ⟨_,rfl,H.bel,_,_,rfl,(uj (x:=y2.1) (vt (α:=List ByteArray) (H.get 2 rfl)) (vt (α:=List Fiber) (H.get 1 rfl)) (vt (α:=List Light) (H.get 0 rfl))),uk⟩
 refine sqz (pz 2 hf fun a hf=>?_)
 refine ub (ua (ib hF hf (fun hc2 hF=>?_) fun hc2 hF=>?_))
 refine sq ?_
 obtain ⟨c8,hGc8,hF⟩:=bs_ hF
 have fh:=hf.prune [2,4,6] rfl
 have Hm:=H.lm 5 0 0 4 14
 refine midF 35 (.bool c8) fh Hm ?_ fun a w hf H=>?_
 refine dw [] 12 fun w hb=>?_
 have H:=H.keep hb
 refine zp 0 hf trivial fun a hf=>?_
 refine zp 1 hf trivial fun a hf=>?_
 refine zp 2 hf trivial fun a hf=>?_
 refine iteB hGc8 (fun hc3 hGc8=>?_) fun hc3 hGc8=>?_
 have hf:=hf.lit 26 rfl hc3
 refine zg 3 hf trivial fun a hf=>?_
 refine strT (H.lk 4 0 0 []) (fun w H=>trivial) fun hS=>?_
 refine tSg 4 [] rfl rfl rfl rfl rfl rfl hf (by kernel_rfl) (by kernel_rfl) hS (fun w H=>ue hf H TF.ls28 0 rfl rfl rfl) fun a hf=>?_
 refine zg 5 hf hS fun a hf=>?_
 obtain ⟨e,he,hGc8⟩:=bs_ hGc8
 obtain ⟨p2,o,cs,hx,hr,H⟩:=ux H Tryz.underlying28 TF.sz49 1 rfl he
 refine tPg 6 rfl rfl rfl rfl rfl rfl hf (by kernel_rfl) (fun _=>hS) (fun w=>uu hf rfl rfl rfl hx w) fun a hf=>?_
 obtain ⟨A8,c9,rfl,hl8⟩:=uq hr
 have H:=H.pF hl8
 refine strT (H.lk 4 0 0 [1]) (fun w H=>H.lk 1 0 0 []) fun hS=>?_
 refine tSg 7 [] rfl rfl rfl rfl rfl rfl hf (by kernel_rfl) (by kernel_rfl) hS (fun w H=>uz hf H TF.la49 0 0 rfl rfl rfl rfl) fun a hf=>?_
 refine zg 8 hf hS fun a hf=>?_
 refine strT (H.lk 6 0 0 [1]) (fun w H=>H.lk 2 0 0 [0]) fun hS=>?_
 refine tSg 9 [] rfl rfl rfl rfl rfl rfl hf (by kernel_rfl) (by kernel_rfl) hS (fun w H=>ul hf H TF.la49 0 rfl rfl rfl rfl) fun a hf=>?_
 obtain ⟨y3,hy3,hGc8⟩:=bs_ hGc8
 refine n1g 10 (by kernel_rfl) rfl rfl rfl rfl hf (oC hf TF.gkG (gbn (S:=TT) (uT (x:=e) (H.rt 0 rfl)) (uT (x:=a'.Light) (H.rt 2 rfl)) hy3) fun v5 w a hp5 hf=>?_)
 obtain ⟨hb3,hp5⟩:=hp5
 obtain rfl:=uo hp5
 have H:=H.keep hb3
 have hS:=H.lk 6 0 0 [1]
 refine aS hS ?_
 refine zp 11 hf hS fun a hf=>?_
 refine dk ?_
 obtain rfl:=oi hGc8
 have hf:=hf.pn [35,2,4,6]
 have H:=H.lm 5 0 0 6 56
 exact ⟨hf,H⟩
 have hf:=hf.lit 26 rfl hc3
 refine zU 3 hf trivial fun a hf=>?_
 refine zU 4 hf trivial fun a hf=>?_
 refine zU 5 hf trivial fun a hf=>?_
 refine zU 6 hf trivial fun a hf=>?_
 refine zU 7 hf trivial fun a hf=>?_
 refine zU 8 hf trivial fun a hf=>?_
 refine zU 9 hf trivial fun a hf=>?_
 refine zU 10 hf trivial fun a hf=>?_
 refine zp 11 hf trivial fun a hf=>?_
 refine dk ?_
 obtain rfl:=oi hGc8
 have hf:=hf.pn [35,2,4,6]
 have H:=H.lm 5 0 0 4 14
 exact ⟨hf,H⟩
 refine ua (ib hF hf (fun hc4 hF=>?_) fun hc4 hF=>?_)
 refine sq (reg (lN 1 hf H TF.la30 fun a hf=>?_))
 refine pz 1 hf fun a hf=>?_
 obtain ⟨y4,hy4,hF⟩:=bs_ hF
 refine oc hf TF.giP (yV (S:=TT) (uj (x:=p) (H.rt 2 rfl) (H.rt 1 rfl) (H.rt 0 rfl)) ug hy4) fun v6 w a hp6 hf=>?_
 obtain ⟨A9,c10,F,A10,c11,F2,A11,c12,E,rfl,Hc⟩:=hp6
 have H:=H.comp Hc (.inl rfl)
 have H:=H.lend 0 rfl
 have H:=H.lend 1 rfl
 refine sB 0 hf H TF.sz30 fun w H=>?_
 refine pz 1 hf fun a hf=>?_
 refine ub (ua (wp_ret (u9 (uf (?_)))))
 have H:=H.freeze 0 rfl
 obtain rfl:=oi hF
 refine vL hf rfl (um hf H 0 TF.la30 rfl rfl rfl) (uE hf rfl) ?_
 exact ⟨_,rfl,H.bel,_,_,rfl,(uj (x:=y4) (vt (α:=List ByteArray) (H.get 2 rfl)) (vt (α:=List Fiber) (H.get 1 rfl)) (vt (α:=List Light) (H.get 0 rfl))),uk⟩
 refine wp_skip (uV (ua (sq (reg (oq hf (uA hf (cs:=[(.slice none 0 0),(.slice none 0 0),(.slice none 0 0)]) rfl (fun w=>by kernel_rfl)) fun a hf=>?_)))))
 refine sB 0 hf H TF.sz30 fun w H=>?_
 refine pz 1 hf fun a hf=>?_
 refine wer ?_
 have H:=H.pushNil (ByteArray) true
 have H:=H.pushNil (Fiber) true
 have H:=H.pushNil (Light) true
 obtain rfl:=oi hF
 refine vL hf rfl (um hf H 0 TF.la30 rfl rfl rfl) (uE hf rfl) ?_
 exact ⟨_,rfl,H.bel,_,_,rfl,(uj (x:=({ Network:=({ Nodes:=[],Fibers:=[] }:Network),Lights:=[] }:Plan)) (vt (α:=List ByteArray) (H.get 2 rfl)) (vt (α:=List Fiber) (H.get 1 rfl)) (vt (α:=List Light) (H.get 0 rfl))),uk⟩
 refine sqz (pz 2 hf fun a hf=>?_)
 have hf:=hf.pn [2,3,4,39]
 refine ub (ua (ib hF hf (fun hc5 hF=>?_) fun hc5 hF=>?_))
 refine sq (reg (lN 2 hf H TF.la30 fun a hf=>?_))
 refine pz 2 hf fun a hf=>?_
 refine lB 1 hf H TF.ls3 fun a hf=>?_
 refine pz 2 hf fun a hf=>?_
 refine lN 1 hf H TF.la45 fun a hf=>?_
 refine pz 2 hf fun a hf=>?_
 refine lN 1 hf H TF.la47 fun a hf=>?_
 obtain ⟨y5,hy5,hF⟩:=bs_ hF
 refine oc hf TF.gle (gbR (S:=TT) (uj (x:=p) (H.rt 3 rfl) (H.rt 2 rfl) (H.rt 1 rfl)) ug (xk (x:=a'.Light.Route) (H.rt 0 rfl)) zb hy5) fun v7 w a hp7 hf=>?_
 obtain ⟨hb4,v8,v9,rfl,hp8,hp9⟩:=hp7
 obtain ⟨A12,c13,A13,c14,A14,c15,rfl,hl9,hl10,hl11⟩:=uD hp8
 replace hl9:=H.rF hl9
 replace hl10:=H.rF hl10
 replace hl11:=H.rF hl11
 obtain rfl:=uo hp9
 have H:=H.keep hb4
 have H:=H.pT hl9
 have H:=H.pT hl10
 have H:=H.pT hl11
 refine pz 2 hf fun a hf=>?_
 refine sB 0 hf H TF.sz30 fun w H=>?_
 refine pz 1 hf fun a hf=>?_
 have hf:=hf.pn [4,5]
 refine ub (ua (wp_ret (u9 (uf (?_)))))
 obtain rfl:=oi hF
 refine vL hf rfl (um hf H 0 TF.la30 rfl rfl rfl) (uE hf rfl) ?_
 exact ⟨_,rfl,H.bel,_,_,rfl,(uj (x:=y5.1) (vt (α:=List ByteArray) (H.get 2 rfl)) (vt (α:=List Fiber) (H.get 1 rfl)) (vt (α:=List Light) (H.get 0 rfl))),uk⟩
 refine wp_skip (uV (ua (sq (reg (oq hf (uA hf (cs:=[(.slice none 0 0),(.slice none 0 0),(.slice none 0 0)]) rfl (fun w=>by kernel_rfl)) fun a hf=>?_)))))
 refine sB 0 hf H TF.sz30 fun w H=>?_
 refine pz 1 hf fun a hf=>?_
 refine wer ?_
 have H:=H.pushNil (ByteArray) true
 have H:=H.pushNil (Fiber) true
 have H:=H.pushNil (Light) true
 obtain rfl:=oi hF
 refine vL hf rfl (um hf H 0 TF.la30 rfl rfl rfl) (uE hf rfl) ?_
 exact ⟨_,rfl,H.bel,_,_,rfl,(uj (x:=({ Network:=({ Nodes:=[],Fibers:=[] }:Network),Lights:=[] }:Plan)) (vt (α:=List ByteArray) (H.get 2 rfl)) (vt (α:=List Fiber) (H.get 1 rfl)) (vt (α:=List Light) (H.get 0 rfl))),uk⟩
theorem gdV {S:Nat→Prop} {v0_:Value} {v1_:Value} {p:Plan} {a':Action} {r:Plan×Bool} (h0:VR w0 S v0_ p) (h1:VR w0 S v1_ a') (hF:vH fu p a'=some r) :
    Calls Tryz.prog 191 [v0_,v1_].toArray w0 fun e w'=>∃ v,e=.returned v∧(∃ (A0_0:Option Addr) (c0_0:Nat) (A0_1:Option Addr) (c0_1:Nat) (A0_2:Option Addr) (c0_2:Nat),v=.tuple #[(.agg #[(.slice A0_0 r.1.Network.Nodes.length c0_0),(.slice A0_1 r.1.Network.Fibers.length c0_1),(.slice A0_2 r.1.Lights.length c0_2)]),(.bool r.2)]∧Mem ⟨w0,[]⟩ S [] [] [] [(true,MP.val [(.slice A0_0 r.1.Network.Nodes.length c0_0)] (r.1.Network.Nodes:List ByteArray)),(true,MP.val [(.slice A0_1 r.1.Network.Fibers.length c0_1)] (r.1.Network.Fibers:List Fiber)),(true,MP.val [(.slice A0_2 r.1.Lights.length c0_2)] (r.1.Lights:List Light))] w'):=by
 obtain ⟨A,c,A2,c2,A3,c3,rfl,hl,hl2,hl3⟩:=uD h0
 obtain ⟨A4,c4,rfl,hl4⟩:=gc6 h1
 have H:=Mem.start ⟨w0,[]⟩ S
 have H:=H.pA hl
 have H:=H.pA hl2
 have H:=H.pA hl3
 have H:=H.pA hl4
 refine en Tryz.func191 fun a hf=>?_
 rw [vH] at hF
 refine bx hf H fun b' a w hf H=>?_
 refine wl0 rfl (xl hf H rfl rfl (by decide) fun b2 a w hf H=>?_)
 refine aL hf H TF.zv30 fun b3 a w hf H=>?_
 refine pz 1 hf fun a hf=>?_
 refine wr (lN 2 hf H TF.la30 fun a hf=>?_)
 refine pz 2 hf fun a hf=>?_
 refine lB 1 hf H TF.ls3 fun a hf=>?_
 obtain ⟨y,hy,hF⟩:=bs_ hF
 refine oc hf TF.ggc (x3 (S:=TT) (uj (x:=p) (H.rt 3 rfl) (H.rt 2 rfl) (H.rt 1 rfl)) ug hy) fun v w a hp hf=>?_
 obtain ⟨hb,hp⟩:=hp
 obtain rfl:=uv hp
 have H:=H.keep hb
 refine pz 1 hf fun a hf=>?_
 refine we (sqz (pz 1 hf fun a hf=>?_))
 refine lB 1 hf H TF.ls3 fun a hf=>?_
 refine ub (ua (wp_block (sqz (pz 2 hf fun a hf=>?_))))
 refine ub (ua (ib hF hf (fun hc hF=>?_) fun hc hF=>?_))
 refine sq (reg (lN 2 hf H TF.la30 fun a hf=>?_))
 refine pz 1 hf fun a hf=>?_
 refine lN 1 hf H TF.la49 fun a hf=>?_
 obtain ⟨y2,hy2,hF⟩:=bs_ hF
 refine oc hf TF.glf (gb8 (S:=TT) (uj (x:=p) (H.rt 3 rfl) (H.rt 2 rfl) (H.rt 1 rfl)) (uT (x:=a'.Light) (H.rt 0 rfl)) hy2) fun v2 w a hp2 hf=>?_
 obtain ⟨hb2,v3,v4,rfl,hp3,hp4⟩:=hp2
 obtain ⟨A5,c5,A6,c6,A7,c7,rfl,hl5,hl6,hl7⟩:=uD hp3
 replace hl5:=H.rF hl5
 replace hl6:=H.rF hl6
 replace hl7:=H.rF hl7
 obtain rfl:=uo hp4
 have H:=H.keep hb2
 have H:=H.pT hl5
 have H:=H.pT hl6
 have H:=H.pT hl7
 refine pz 2 hf fun a hf=>?_
 refine sB 0 hf H TF.sz30 fun w H=>?_
 refine pz 1 hf fun a hf=>?_
 have hf:=hf.pn [4,5]
 refine ub (ua (wp_ret (u9 (uf (?_)))))
 obtain rfl:=oi hF
 refine vL hf rfl (um hf H 0 TF.la30 rfl rfl rfl) (uE hf rfl) ?_
 have H:=H.lk 0 0 0 [2,1,0]
 exact ⟨_,rfl,A5,c5,A6,c6,A7,c7,rfl,H⟩
 refine sqz (pz 2 hf fun a hf=>?_)
 refine ub (ua (ib hF hf (fun hc2 hF=>?_) fun hc2 hF=>?_))
 refine sq ?_
 obtain ⟨c8,hGc8,hF⟩:=bs_ hF
 have fh:=hf.prune [2,4,6] rfl
 have Hm:=H.lm 5 0 0 4 14
 refine midF 35 (.bool c8) fh Hm ?_ fun a w hf H=>?_
 refine dw [] 12 fun w hb=>?_
 have H:=H.keep hb
 refine zp 0 hf trivial fun a hf=>?_
 refine zp 1 hf trivial fun a hf=>?_
 refine zp 2 hf trivial fun a hf=>?_
 refine iteB hGc8 (fun hc3 hGc8=>?_) fun hc3 hGc8=>?_
 have hf:=hf.lit 26 rfl hc3
 refine zg 3 hf trivial fun a hf=>?_
 refine strT (H.lk 4 0 0 []) (fun w H=>trivial) fun hS=>?_
 refine tSg 4 [] rfl rfl rfl rfl rfl rfl hf (by kernel_rfl) (by kernel_rfl) hS (fun w H=>ue hf H TF.ls28 0 rfl rfl rfl) fun a hf=>?_
 refine zg 5 hf hS fun a hf=>?_
 obtain ⟨e,he,hGc8⟩:=bs_ hGc8
 obtain ⟨p2,o,cs,hx,hr,H⟩:=ux H Tryz.underlying28 TF.sz49 1 rfl he
 refine tPg 6 rfl rfl rfl rfl rfl rfl hf (by kernel_rfl) (fun _=>hS) (fun w=>uu hf rfl rfl rfl hx w) fun a hf=>?_
 obtain ⟨A8,c9,rfl,hl8⟩:=uq hr
 have H:=H.pF hl8
 refine strT (H.lk 4 0 0 [1]) (fun w H=>H.lk 1 0 0 []) fun hS=>?_
 refine tSg 7 [] rfl rfl rfl rfl rfl rfl hf (by kernel_rfl) (by kernel_rfl) hS (fun w H=>uz hf H TF.la49 0 0 rfl rfl rfl rfl) fun a hf=>?_
 refine zg 8 hf hS fun a hf=>?_
 refine strT (H.lk 6 0 0 [1]) (fun w H=>H.lk 2 0 0 [0]) fun hS=>?_
 refine tSg 9 [] rfl rfl rfl rfl rfl rfl hf (by kernel_rfl) (by kernel_rfl) hS (fun w H=>ul hf H TF.la49 0 rfl rfl rfl rfl) fun a hf=>?_
 obtain ⟨y3,hy3,hGc8⟩:=bs_ hGc8
 refine n1g 10 (by kernel_rfl) rfl rfl rfl rfl hf (oC hf TF.gkG (gbn (S:=TT) (uT (x:=e) (H.rt 0 rfl)) (uT (x:=a'.Light) (H.rt 2 rfl)) hy3) fun v5 w a hp5 hf=>?_)
 obtain ⟨hb3,hp5⟩:=hp5
 obtain rfl:=uo hp5
 have H:=H.keep hb3
 have hS:=H.lk 6 0 0 [1]
 refine aS hS ?_
 refine zp 11 hf hS fun a hf=>?_
 refine dk ?_
 obtain rfl:=oi hGc8
 have hf:=hf.pn [35,2,4,6]
 have H:=H.lm 5 0 0 6 56
 exact ⟨hf,H⟩
 have hf:=hf.lit 26 rfl hc3
 refine zU 3 hf trivial fun a hf=>?_
 refine zU 4 hf trivial fun a hf=>?_
 refine zU 5 hf trivial fun a hf=>?_
 refine zU 6 hf trivial fun a hf=>?_
 refine zU 7 hf trivial fun a hf=>?_
 refine zU 8 hf trivial fun a hf=>?_
 refine zU 9 hf trivial fun a hf=>?_
 refine zU 10 hf trivial fun a hf=>?_
 refine zp 11 hf trivial fun a hf=>?_
 refine dk ?_
 obtain rfl:=oi hGc8
 have hf:=hf.pn [35,2,4,6]
 have H:=H.lm 5 0 0 4 14
 exact ⟨hf,H⟩
 refine ua (ib hF hf (fun hc4 hF=>?_) fun hc4 hF=>?_)
 refine sq (reg (lN 1 hf H TF.la30 fun a hf=>?_))
 refine pz 1 hf fun a hf=>?_
 obtain ⟨y4,hy4,hF⟩:=bs_ hF
 refine oc hf TF.giP (yV (S:=TT) (uj (x:=p) (H.rt 2 rfl) (H.rt 1 rfl) (H.rt 0 rfl)) ug hy4) fun v6 w a hp6 hf=>?_
 obtain ⟨A9,c10,F,A10,c11,F2,A11,c12,E,rfl,Hc⟩:=hp6
 have H:=H.comp Hc (.inl rfl)
 have H:=H.lend 0 rfl
 have H:=H.lend 1 rfl
 refine sB 0 hf H TF.sz30 fun w H=>?_
 refine pz 1 hf fun a hf=>?_
 refine ub (ua (wp_ret (u9 (uf (?_)))))
 have H:=H.freeze 0 rfl
 obtain rfl:=oi hF
 refine vL hf rfl (um hf H 0 TF.la30 rfl rfl rfl) (uE hf rfl) ?_
 have H:=H.lk 0 0 0 [2,1,0]
 exact ⟨_,rfl,A9,c10,A10,c11,A11,c12,rfl,H⟩
 refine wp_skip (uV (ua (sq (reg (oq hf (uA hf (cs:=[(.slice none 0 0),(.slice none 0 0),(.slice none 0 0)]) rfl (fun w=>by kernel_rfl)) fun a hf=>?_)))))
 refine sB 0 hf H TF.sz30 fun w H=>?_
 refine pz 1 hf fun a hf=>?_
 refine wer ?_
 have H:=H.pushNil (ByteArray) true
 have H:=H.pushNil (Fiber) true
 have H:=H.pushNil (Light) true
 obtain rfl:=oi hF
 refine vL hf rfl (um hf H 0 TF.la30 rfl rfl rfl) (uE hf rfl) ?_
 have H:=H.lk 0 0 0 [2,1,0]
 exact ⟨_,rfl,none,0,none,0,none,0,rfl,H⟩
 refine sqz (pz 2 hf fun a hf=>?_)
 have hf:=hf.pn [2,3,4,39]
 refine ub (ua (ib hF hf (fun hc5 hF=>?_) fun hc5 hF=>?_))
 refine sq (reg (lN 2 hf H TF.la30 fun a hf=>?_))
 refine pz 2 hf fun a hf=>?_
 refine lB 1 hf H TF.ls3 fun a hf=>?_
 refine pz 2 hf fun a hf=>?_
 refine lN 1 hf H TF.la45 fun a hf=>?_
 refine pz 2 hf fun a hf=>?_
 refine lN 1 hf H TF.la47 fun a hf=>?_
 obtain ⟨y5,hy5,hF⟩:=bs_ hF
 refine oc hf TF.gle (gbR (S:=TT) (uj (x:=p) (H.rt 3 rfl) (H.rt 2 rfl) (H.rt 1 rfl)) ug (xk (x:=a'.Light.Route) (H.rt 0 rfl)) zb hy5) fun v7 w a hp7 hf=>?_
 obtain ⟨hb4,v8,v9,rfl,hp8,hp9⟩:=hp7
 obtain ⟨A12,c13,A13,c14,A14,c15,rfl,hl9,hl10,hl11⟩:=uD hp8
 replace hl9:=H.rF hl9
 replace hl10:=H.rF hl10
 replace hl11:=H.rF hl11
 obtain rfl:=uo hp9
 have H:=H.keep hb4
 have H:=H.pT hl9
 have H:=H.pT hl10
 have H:=H.pT hl11
 refine pz 2 hf fun a hf=>?_
 refine sB 0 hf H TF.sz30 fun w H=>?_
 refine pz 1 hf fun a hf=>?_
 have hf:=hf.pn [4,5]
 refine ub (ua (wp_ret (u9 (uf (?_)))))
 obtain rfl:=oi hF
 refine vL hf rfl (um hf H 0 TF.la30 rfl rfl rfl) (uE hf rfl) ?_
 have H:=H.lk 0 0 0 [2,1,0]
 exact ⟨_,rfl,A12,c13,A13,c14,A14,c15,rfl,H⟩
 refine wp_skip (uV (ua (sq (reg (oq hf (uA hf (cs:=[(.slice none 0 0),(.slice none 0 0),(.slice none 0 0)]) rfl (fun w=>by kernel_rfl)) fun a hf=>?_)))))
 refine sB 0 hf H TF.sz30 fun w H=>?_
 refine pz 1 hf fun a hf=>?_
 refine wer ?_
 have H:=H.pushNil (ByteArray) true
 have H:=H.pushNil (Fiber) true
 have H:=H.pushNil (Light) true
 obtain rfl:=oi hF
 refine vL hf rfl (um hf H 0 TF.la30 rfl rfl rfl) (uE hf rfl) ?_
 have H:=H.lk 0 0 0 [2,1,0]
 exact ⟨_,rfl,none,0,none,0,none,0,rfl,H⟩
theorem gaO {S:Nat→Prop} {b0:Nat} {cs0:List Value} {v1_:Value} {c:L1CurP} {p:Plan} {r:List Action×L1CurP} (hp0:w0.heap[b0]?=some (.cells cs0.toArray 109 (0,0))) (hr0:GoTy.rep w0 S cs0 c) (hS0:¬S b0) (h1:VR w0 S v1_ p) (hF:yD fu c p=some r) :
    Calls Tryz.prog 251 [(.pointer (some ⟨b0,0,none⟩)),v1_].toArray w0 fun e w'=>∃ v,e=.returned v∧(Chg w0 w' [b0]∧∃ cs',w'.heap[b0]?=some (.cells cs'.toArray 109 (0,0))∧GoTy.rep w' (St ⟨w0,[b0]⟩ S [⟨b0,109,cs'⟩] [] [] false) cs' r.2∧(cs'[0]?=cs0[0]?∧r.2.code=c.code)∧∃ F0,VO w' F0 v r.1∧New w0 w' F0):=by
 obtain ⟨A,c2,rfl,hl⟩:=uc hr0
 obtain ⟨A2,c3,A3,c4,A4,c5,rfl,hl2,hl3,hl4⟩:=uD h1
 have H:=Mem.startB S hp0
 have H:=H.pB hS0 hl
 have H:=H.pB hS0 hl2
 have H:=H.pB hS0 hl3
 have H:=H.pB hS0 hl4
 refine en Tryz.func251 fun a hf=>?_
 rw [yD] at hF
 refine bx hf H fun b3 a w hf H=>?_
 refine pz 1 hf fun a hf=>?_
 refine wr (wl0 rfl (zv hf H (.ow []) rfl 148 ([]:List Action) [] rfl (fun w=>by kernel_rfl) rfl (by decide) rfl rfl (fun i x h=>by simp at h) (by decide) fun A5 a w hf H=>?_))
 refine pz 1 hf fun a hf=>?_
 refine wr (lN 0 hf H TF.la30 fun a hf=>?_)
 obtain ⟨y,hy,hF⟩:=bs_ hF
 refine oc hf TF.gft (xA (S:=TT) (uj (x:=p) (H.rt 2 rfl) (H.rt 1 rfl) (H.rt 0 rfl)) hy) fun v w a hp3 hf=>?_
 obtain ⟨hb,hp3⟩:=hp3
 obtain rfl:=uo hp3
 have H:=H.keep hb
 refine pz 1 hf fun a hf=>?_
 refine we (sqz (pz 1 hf fun a hf=>?_))
 obtain ⟨y2,hy2,hF⟩:=bs_ hF
 refine oc hf TF.yJ (ui (S:=NB b0) (H.boxAt 1 rfl) ((ud (x:=c) (H.nb 1 rfl (H.get 3 rfl)))) (fun h=>h rfl) ug hy2) fun v2 w a hp4 hf=>?_
 obtain ⟨hch,cs3,hbx,hr3,⟨hx,hx2⟩,hs⟩:=hp4
 obtain rfl:=uv hs
 obtain ⟨A6,c6,rfl,hl5⟩:=uc hr3
 obtain ⟨rfl,rfl⟩:=un hx rfl rfl
 have H:=H.wroteBox 1 rfl hch hbx
 have H:=H.pX 3 rfl hx2
 refine pz 1 hf fun a hf=>?_
 refine ub (ua ?_)
 obtain ⟨out',hB1,hF⟩:=bs_ hF
 have hf:=hf.pn [0,3,5,6,7]
 have H:=H.lm 3 1 0 4 15
 refine vU (fun (s:List Action×Int×List ByteArray×List Fiber×List Light×List By×Int×U64) (a:Act) (w:World)=>match s with | (l,n',m,m2,m3,m4,m5,m6)=>∃ (A7:Option Addr) (c7:Nat) (E:Go.TypeId) (Fs:List (List Nat)) (A8:Option Addr) (c8:Nat) (A9:Option Addr) (c9:Nat) (A10:Option Addr) (c10:Nat),m4=c.code∧Fr a 66 [(0,(.pointer (some ⟨b0,0,none⟩))),(3,(.pointer (some ⟨b3,0,none⟩))),(5,(.slice A7 l.length c7)),(6,(.bool y)),(7,(.int .i64 n'))]∧Mem ⟨w0,[b0]⟩ S [⟨b3,30,[(.slice A8 m.length c8),(.slice A9 m2.length c9),(.slice A10 m3.length c10)]⟩,⟨b0,109,[(.slice A m4.length c2),(.int .i64 m5),(.int .u64 m6.n)]⟩] [⟨.ow Fs,E,A7,c7,(l:List Action)⟩] [] [(false,MP.val [(.slice A m4.length c2)] (m4:List By)),(false,MP.val [(.slice A10 m3.length c10)] (m3:List Light)),(false,MP.val [(.slice A9 m2.length c9)] (m2:List Fiber)),(false,MP.val [(.slice A8 m.length c8)] (m:List ByteArray))] w) (fun k (s:List Action×Int×List ByteArray×List Fiber×List Light×List By×Int×U64)=>u5 fu y k s.1 s.2.1 s.2.2.1 s.2.2.2.1 s.2.2.2.2.1 s.2.2.2.2.2.1 s.2.2.2.2.2.2.1 s.2.2.2.2.2.2.2=some out') (fun s=>out'=s) (([]:List Action),y2.1,p.Network.Nodes,p.Network.Fibers,p.Lights,y2.2.code,y2.2.at_,y2.2.seed) fu hB1 ⟨A5,0,148,[],A2,c3,A3,c4,A4,c5,hx2,hf,H⟩ (fun s h=>by cases h) ?_ ?_
 rintro fk ⟨l,n',m,m2,m3,m4,m5,m6⟩ a w hR1 hI
 replace hR1:u5 fu y (fk + 1) l n' m m2 m3 m4 m5 m6=some out':=hR1
 rw [u5] at hR1
 obtain ⟨A7,c7,E,Fs,A8,c8,A9,c9,A10,c10,hsm,hf,H⟩:=hI
 refine sq (sqz (pz 2 hf fun a hf=>?_))
 refine ub (ua (ib hR1 hf (fun hc hR1=>?_) fun hc hR1=>?_))
 refine ws (pz 1 hf fun a hf=>?_)
 refine lN 0 hf H TF.la30 fun a hf=>?_
 obtain ⟨y3,hy3,hR1⟩:=bs_ hR1
 refine oc hf TF.glJ (gcx (S:=NB b0) (H.boxAt 1 rfl) ((ud (x:=({ code:=m4,at_:=m5,seed:=m6 }:L1CurP)) (H.nb 1 rfl (H.get 0 rfl)))) (fun h=>h rfl) (uj (x:=({ Network:=({ Nodes:=m,Fibers:=m2 }:Network),Lights:=m3 }:Plan)) (H.nb 1 rfl (H.get 3 rfl)) (H.nb 1 rfl (H.get 2 rfl)) (H.nb 1 rfl (H.get 1 rfl))) hy3) fun v3 w a hp5 hf=>?_
 obtain ⟨hch2,cs4,hbx2,hr4,⟨hx3,hx4⟩,hs2⟩:=hp5
 obtain ⟨F,hp6,hN⟩:=hs2
 obtain ⟨A11,c11,F2,rfl,rfl,hl6⟩:=gi0 hp6
 obtain ⟨A12,c12,rfl,hl7⟩:=uc hr4
 obtain ⟨rfl,rfl⟩:=un hx3 rfl rfl
 have hx5:=hx4.trans hsm
 have H:=H.bO1 1 rfl hch2 hbx2 hN hl6
 have H:=H.pX 0 rfl hx4
 have H:=H.lend 0 rfl
 refine aL hf H TF.ghG fun b4 a w hf H=>?_
 refine sB 0 hf H TF.gce fun w H=>?_
 refine wr (lN 1 hf H TF.la30 fun a hf=>?_)
 refine lN 0 hf H TF.gck fun a hf=>?_
 obtain ⟨y4,hy4,hR1⟩:=bs_ hR1
 refine oc hf TF.giO (gdV (S:=TT) (uj (x:=({ Network:=({ Nodes:=m,Fibers:=m2 }:Network),Lights:=m3 }:Plan)) (H.rt 5 rfl) (H.rt 4 rfl) (H.rt 3 rfl)) (gaE (x:=y3.1) (H.rt 0 rfl)) hy4) fun v4 w a hp7 hf=>?_
 obtain ⟨A13,c13,A14,c14,A15,c15,rfl,Hc⟩:=hp7
 have H:=H.comp Hc (.inl rfl)
 refine pz 3 hf fun a hf=>?_
 refine aL hf H TF.zv30 fun b5 a w hf H=>?_
 refine sB 0 hf H TF.sz30 fun w H=>?_
 refine pz 1 hf fun a hf=>?_
 refine ub (ua (sq ?_))
 obtain ⟨c16,hGc16,hR1⟩:=bs_ hR1
 have fh:=hf.prune [0,3,5,6,7,8,9] rfl
 have Hm:=H.lm 15 1 1 9 479
 refine midF 32 (.bool c16) fh Hm ?_ fun a w hf H=>?_
 refine reg (pz 2 hf fun a hf=>?_)
 refine iteB hGc16 (fun hc2 hGc16=>?_) fun hc2 hGc16=>?_
 have hf:=hf.lit 30 rfl hc2
 refine pz 2 hf fun a hf=>?_
 obtain rfl:=oi hGc16
 have hf:=hf.pn [32,0,3,5,6,7,8,9]
 have H:=H.lm 15 1 1 9 479
 exact ub ⟨hf,H⟩
 have hf:=hf.lit 30 rfl hc2
 refine pz 2 hf fun a hf=>?_
 obtain rfl:=oi hGc16
 have hf:=hf.pn [32,0,3,5,6,7,8,9]
 have H:=H.lm 15 1 1 9 479
 exact ub ⟨hf,H⟩
 refine ua (ib hR1 hf (fun hc3 hR1=>?_) fun hc3 hR1=>?_)
 refine sq (reg (lN 0 hf H TF.la30 fun a hf=>?_))
 refine sB 2 hf H TF.sz30 fun w H=>?_
 refine ub (ua (reg (pz 1 hf fun a hf=>?_)))
 refine lN 1 hf H TF.gck fun a hf=>?_
 have H:=H.recast (X:=[(⟨F2,MP.own F2 [(.slice A11 y3.1.Light.Route.Fibers.length c11)] (y3.1.Light.Route.Fibers:List Int)⟩:DI)]) (Y:=[(⟨F2,MP.own F2 [(.int .i64 y3.1.Kind),(.int .i64 y3.1.Light.Id),(.int .i64 y3.1.Light.Route.Start),(.slice A11 y3.1.Light.Route.Fibers.length c11),(.int .i64 y3.1.Light.Block.First),(.int .i64 y3.1.Light.Block.Count)] (y3.1:Action)⟩:DI)]) (List.Perm.of_eq (by simp)) fun _=>ps1 (xn (x:=y3.1) (H.ownAt 0 rfl)) ps0
 refine wl0 rfl (yh hf 148 H rfl (fun w=>by kernel_rfl) (by decide) fun A16 a w hf H=>?_)
 obtain ⟨al,hal,hR1⟩:=bs_ hR1
 have H:=H.frontR 1 rfl
 refine wl0 rfl (gbO hf H Tryz.underlying70 TF.gdr rfl (by decide) rfl rfl hal (by decide) fun E2 A17 c17 a w hf H=>?_)
 refine pz 1 hf fun a hf=>?_
 refine ub (uV (ua (reg (pz 3 hf fun a hf=>?_))))
 refine ub ?_
 have H:=H.copyI 0 rfl (.inl rfl)
 have H:=H.copyI 2 rfl (.inl rfl)
 have H:=H.copyI 4 rfl (.inl rfl)
 have hf:=hf.pn [0,3,5,6,7]
 have H:=H.lk 12 1 0 [7,0,1,2]
 exact ua ⟨(al,w64 (n' - 1),y4.1.Network.Nodes,y4.1.Network.Fibers,y4.1.Lights,y3.2.code,y3.2.at_,y3.2.seed),hR1,A17,c17,E2,Fs++[F2],A13,c13,A14,c14,A15,c15,hx5,hf,H⟩
 refine sqz (pz 1 hf fun a hf=>?_)
 obtain ⟨y5,hy5,hR1⟩:=bs_ hR1
 refine oc hf TF.cl84 (vQ (S:=NB b0) (H.boxAt 3 rfl) ((ud (x:=y3.2) (H.nb 3 rfl (H.get 4 rfl)))) (fun h=>h rfl) ug hy5) fun v5 w a hp8 hf=>?_
 obtain ⟨hch3,cs5,hbx3,hr5,⟨hx6,hx7⟩,hs3⟩:=hp8
 obtain rfl:=uo hs3
 obtain ⟨A18,c18,rfl,hl8⟩:=uc hr5
 obtain ⟨rfl,rfl⟩:=un hx6 rfl rfl
 have hx8:=hx7.trans hx5
 have H:=H.wroteBox 3 rfl hch3 hbx3
 have H:=H.pX 4 rfl hx7
 refine ub (ua (ib hR1 hf (fun hc4 hR1=>?_) fun hc4 hR1=>?_))
 refine reg (pz 1 hf fun a hf=>?_)
 refine lN 1 hf H TF.gck fun a hf=>?_
 have H:=H.recast (X:=[(⟨F2,MP.own F2 [(.slice A11 y3.1.Light.Route.Fibers.length c11)] (y3.1.Light.Route.Fibers:List Int)⟩:DI)]) (Y:=[(⟨F2,MP.own F2 [(.int .i64 y3.1.Kind),(.int .i64 y3.1.Light.Id),(.int .i64 y3.1.Light.Route.Start),(.slice A11 y3.1.Light.Route.Fibers.length c11),(.int .i64 y3.1.Light.Block.First),(.int .i64 y3.1.Light.Block.Count)] (y3.1:Action)⟩:DI)]) (List.Perm.of_eq (by simp)) fun _=>ps1 (xn (x:=y3.1) (H.ownAt 0 rfl)) ps0
 refine wl0 rfl (yh hf 148 H rfl (fun w=>by kernel_rfl) (by decide) fun A19 a w hf H=>?_)
 obtain ⟨al2,hal2,hR1⟩:=bs_ hR1
 have H:=H.frontR 1 rfl
 refine wl0 rfl (gbO hf H Tryz.underlying70 TF.gdr rfl (by decide) rfl rfl hal2 (by decide) fun E3 A20 c19 a w hf H=>?_)
 refine pz 1 hf fun a hf=>?_
 refine ub (uV (ua (reg (pz 3 hf fun a hf=>?_))))
 refine ub ?_
 have hf:=hf.pn [0,3,5,6,7]
 have H:=H.lm 12 1 0 9 449
 exact ua ⟨(al2,w64 (n' - 1),m,m2,m3,y5.2.code,y5.2.at_,y5.2.seed),hR1,A20,c19,E3,Fs++[F2],A8,c8,A9,c9,A10,c10,hx8,hf,H⟩
 refine wp_skip (uV (ua (reg (pz 3 hf fun a hf=>?_))))
 refine ub ?_
 have hf:=hf.pn [0,3,5,6,7]
 have H:=H.lm 12 1 0 9 449
 exact ua ⟨(l,w64 (n' - 1),m,m2,m3,y5.2.code,y5.2.at_,y5.2.seed),hR1,A7,c7,E,Fs,A8,c8,A9,c9,A10,c10,hx8,hf,H⟩
 refine wp_exit (uy (uy (vJ (?_))))
 have hf:=hf.pn [0,3,5,6,7]
 have H:=H.lm 3 1 0 4 15
 exact ⟨(l,n',m,m2,m3,m4,m5,m6),(Option.some.inj hR1).symm,A7,c7,E,Fs,A8,c8,A9,c9,A10,c10,hsm,hf,H⟩
 rintro a w ⟨⟨l2,n2,m7,m8,m9,m10,m11,m12⟩,rfl,A21,c20,E4,Fs2,A22,c21,A23,c22,A24,c23,hsm,hf,H⟩
 try dsimp only at hsm
 try dsimp only at hF
 refine ua (sq (sqz (pz 1 hf fun a hf=>?_)))
 obtain ⟨y6,hy6,hF⟩:=bs_ hF
 refine oc hf TF.cl84 (vQ (S:=NB b0) (H.boxAt 1 rfl) ((ud (x:=({ code:=m10,at_:=m11,seed:=m12 }:L1CurP)) (H.nb 1 rfl (H.get 0 rfl)))) (fun h=>h rfl) ug hy6) fun v6 w a hp9 hf=>?_
 obtain ⟨hch4,cs6,hbx4,hr6,⟨hx9,hx10⟩,hs4⟩:=hp9
 obtain rfl:=uo hs4
 obtain ⟨A25,c24,rfl,hl9⟩:=uc hr6
 obtain ⟨rfl,rfl⟩:=un hx9 rfl rfl
 have hx11:=hx10.trans hsm
 have H:=H.wroteBox 1 rfl hch4 hbx4
 have H:=H.pX 0 rfl hx10
 refine ub (ua (ib hF hf (fun hc5 hF=>?_) fun hc5 hF=>?_))
 obtain ⟨out2,hB1,hF⟩:=bs_ hF
 have hf:=hf.pn [0,5]
 have H:=H.lk 2 1 0 [0]
 refine vU (fun (s:List Action×List By×Int×U64) (a:Act) (w:World)=>match s with | (l3,m13,m14,m15)=>∃ (A26:Option Addr) (c25:Nat) (E5:Go.TypeId) (Fs3:List (List Nat)),m13=c.code∧Fr a 66 [(0,(.pointer (some ⟨b0,0,none⟩))),(5,(.slice A26 l3.length c25))]∧Mem ⟨w0,[b0]⟩ S [⟨b0,109,[(.slice A m13.length c2),(.int .i64 m14),(.int .u64 m15.n)]⟩] [⟨.ow Fs3,E5,A26,c25,(l3:List Action)⟩] [] [(false,MP.val [(.slice A m13.length c2)] (m13:List By))] w) (fun k (s:List Action×List By×Int×U64)=>vN fu k s.1 s.2.1 s.2.2.1 s.2.2.2=some out2) (fun s=>out2=s) (l2,y6.2.code,y6.2.at_,y6.2.seed) fu hB1 ⟨A21,c20,E4,Fs2,hx11,hf,H⟩ (fun s h=>by cases h) ?_ ?_
 rintro fk ⟨l3,m13,m14,m15⟩ a w hR1 hI
 replace hR1:vN fu (fk + 1) l3 m13 m14 m15=some out2:=hR1
 rw [vN] at hR1
 obtain ⟨A26,c25,E5,Fs3,hsm2,hf,H⟩:=hI
 refine sq (sqz (pz 3 hf fun a hf=>?_))
 obtain ⟨y7,hy7,hR1⟩:=bs_ hR1
 refine oc hf TF.yJ (ui (S:=NB b0) (H.boxAt 0 rfl) ((ud (x:=({ code:=m13,at_:=m14,seed:=m15 }:L1CurP)) (H.nb 0 rfl (H.get 0 rfl)))) (fun h=>h rfl) ug hy7) fun v7 w a hp10 hf=>?_
 obtain ⟨hch5,cs7,hbx5,hr7,⟨hx12,hx13⟩,hs5⟩:=hp10
 obtain rfl:=uv hs5
 obtain ⟨A27,c26,rfl,hl10⟩:=uc hr7
 obtain ⟨rfl,rfl⟩:=un hx12 rfl rfl
 have hx14:=hx13.trans hsm2
 have H:=H.wroteBox 0 rfl hch5 hbx5
 have H:=H.pX 0 rfl hx13
 refine pz 2 hf fun a hf=>?_
 refine ub (ua (ib hR1 hf (fun hc6 hR1=>?_) fun hc6 hR1=>?_))
 refine wp_skip (ua (wp_block (reg (pz 6 hf fun a hf=>?_))))
 obtain ⟨y8,hy8,hR1⟩:=bs_ hR1
 refine oc hf TF.gln (ga0 (S:=NB b0) (H.boxAt 0 rfl) ((ud (x:=y7.2) (H.nb 0 rfl (H.get 0 rfl)))) (fun h=>h rfl) hy8) fun v8 w a hp11 hf=>?_
 obtain ⟨hch6,cs8,hbx6,hr8,⟨hx15,hx16⟩,hs6⟩:=hp11
 obtain ⟨F3,hp12,hN2⟩:=hs6
 obtain ⟨A28,c27,F4,A29,c28,F5,rfl,rfl,hl11,hl12⟩:=gaf hp12
 obtain ⟨A30,c29,rfl,hl13⟩:=uc hr8
 obtain ⟨rfl,rfl⟩:=un hx15 rfl rfl
 have hx17:=hx16.trans hx14
 have H:=H.bO2 0 rfl hch6 hbx6 hN2 hl11 hl12
 have H:=H.pX 0 rfl hx16
 have H:=H.lend 0 rfl
 have H:=H.lend 1 rfl
 obtain ⟨y9,hy9,hR1⟩:=bs_ hR1
 refine oc hf TF.glm (gaZ (S:=NB b0) (H.boxAt 0 rfl) ((ud (x:=y8.2) (H.nb 0 rfl (H.get 2 rfl)))) (fun h=>h rfl) (uY (x:=y8.1) (H.nb 0 rfl (H.get 1 rfl)) (H.nb 0 rfl (H.get 0 rfl))) hy9) fun v9 w a hp13 hf=>?_
 obtain ⟨hch7,cs9,hbx7,hr9,⟨hx18,hx19⟩,hs7⟩:=hp13
 obtain ⟨F6,hp14,hN3⟩:=hs7
 obtain ⟨A31,c30,F7,rfl,rfl,hl14⟩:=yT hp14
 obtain ⟨A32,c31,rfl,hl15⟩:=uc hr9
 obtain ⟨rfl,rfl⟩:=un hx18 rfl rfl
 have hx20:=hx19.trans hx17
 have H:=H.bO1 0 rfl hch7 hbx7 hN3 hl14
 have H:=H.pX 2 rfl hx19
 have H:=H.lend 0 rfl
 refine oq hf (uA hf (cs:=[(.int .i64 23),(.int .i64 1)]) rfl (fun w=>by kernel_rfl)) fun a hf=>?_
 refine oq hf (uA hf (cs:=[(.int .i64 (w64 (900 + (l3.length:Int)))),(.int .i64 y9.1.Start),(.slice A31 y9.1.Fibers.length c30),(.int .i64 23),(.int .i64 1)]) rfl (fun w=>by kernel_rfl)) fun a hf=>?_
 refine oq hf (uA hf (cs:=[(.int .i64 1),(.int .i64 (w64 (900 + (l3.length:Int)))),(.int .i64 y9.1.Start),(.slice A31 y9.1.Fibers.length c30),(.int .i64 23),(.int .i64 1)]) rfl (fun w=>by kernel_rfl)) fun a hf=>?_
 have H:=H.recast (X:=[(⟨F7,MP.own F7 [(.slice A31 y9.1.Fibers.length c30)] (y9.1.Fibers:List Int)⟩:DI)]) (Y:=[(⟨F7,MP.own F7 [(.int .i64 1),(.int .i64 (w64 (900 + (l3.length:Int)))),(.int .i64 y9.1.Start),(.slice A31 y9.1.Fibers.length c30),(.int .i64 23),(.int .i64 1)] (({ Kind:=1,Light:=({ Id:=w64 (900 + (l3.length:Int)),Route:=y9.1,Block:=({ First:=23,Count:=1 }:Block) }:Light) }:Action):Action)⟩:DI)]) (List.Perm.of_eq (by simp)) fun _=>ps1 (xn (x:=({ Kind:=1,Light:=({ Id:=w64 (900 + (l3.length:Int)),Route:=y9.1,Block:=({ First:=23,Count:=1 }:Block) }:Light) }:Action)) (H.ownAt 0 rfl)) ps0
 refine wl0 rfl (yh hf 148 H rfl (fun w=>by kernel_rfl) (by decide) fun A33 a w hf H=>?_)
 obtain ⟨al3,hal3,hR1⟩:=bs_ hR1
 have H:=H.frontR 1 rfl
 refine wl0 rfl (gbO hf H Tryz.underlying70 TF.gdr rfl (by decide) rfl rfl hal3 (by decide) fun E6 A34 c32 a w hf H=>?_)
 refine pz 1 hf fun a hf=>?_
 have hf:=hf.pn [0,5]
 refine ub (uV ?_)
 have hf:=hf.pn [0,5]
 have H:=H.lk 1 1 0 [1]
 exact ua ⟨(al3,y9.2.code,y9.2.at_,y9.2.seed),hR1,A34,c32,E6,Fs3++[F7],hx20,hf,H⟩
 refine wp_exit (uy (uy (vJ (?_))))
 have hf:=hf.pn [0,5]
 have H:=H.lk 1 1 0 [0]
 exact ⟨(l3,y7.2.code,y7.2.at_,y7.2.seed),(Option.some.inj hR1).symm,A26,c25,E5,Fs3,hx14,hf,H⟩
 rintro a w ⟨⟨l4,m16,m17,m18⟩,rfl,A35,c33,E7,Fs4,hsm2,hf,H⟩
 try dsimp only at hsm2
 try dsimp only at hF
 refine ua (sqz (pz 2 hf fun a hf=>?_))
 refine wer ?_
 obtain ⟨F8,H⟩:=H.freezeOwn 0 rfl
 have H:=H.lend 0 rfl
 obtain rfl:=oi hF
 refine rT hf ?_
 have hN:=H.endsB1 0 rfl
 exact ⟨_,rfl,H.chg,_,H.boxAt 0 rfl,(ud (x:=({ code:=m16,at_:=m17,seed:=m18 }:L1CurP)) (eB 0 (H.get 1 rfl))),⟨fxc hsm2,hsm2⟩,F8,(xE (H.ownAt 0 rfl)),by first | exact hN | simpa using hN⟩
 refine wp_skip (ua (sqz (pz 2 hf fun a hf=>?_)))
 refine wer ?_
 obtain ⟨F9,H⟩:=H.freezeOwn 0 rfl
 have H:=H.lend 0 rfl
 obtain rfl:=oi hF
 refine rT hf ?_
 have hN:=H.endsB1 1 rfl
 exact ⟨_,rfl,H.chg,_,H.boxAt 1 rfl,(ud (x:=y6.2) (eB 1 (H.get 1 rfl))),⟨fxc hx11,hx11⟩,F9,(xE (H.ownAt 0 rfl)),by first | exact hN | simpa using hN⟩
theorem gbM {S:Nat→Prop} {v0_:Value} {v1_:Value} {p:Plan} {list:List Action} {r:Plan×Int} (h0:VR w0 S v0_ p) (h1:VR w0 S v1_ list) (hF:gbo fu p list=some r) :
    Calls Tryz.prog 250 [v0_,v1_].toArray w0 fun e w'=>∃ v,e=.returned v∧(∃ (A0_0:Option Addr) (c0_0:Nat) (A0_1:Option Addr) (c0_1:Nat) (A0_2:Option Addr) (c0_2:Nat),v=.tuple #[(.agg #[(.slice A0_0 r.1.Network.Nodes.length c0_0),(.slice A0_1 r.1.Network.Fibers.length c0_1),(.slice A0_2 r.1.Lights.length c0_2)]),(.int .i64 r.2)]∧Mem ⟨w0,[]⟩ S [] [] [] [(true,MP.val [(.slice A0_0 r.1.Network.Nodes.length c0_0)] (r.1.Network.Nodes:List ByteArray)),(true,MP.val [(.slice A0_1 r.1.Network.Fibers.length c0_1)] (r.1.Network.Fibers:List Fiber)),(true,MP.val [(.slice A0_2 r.1.Lights.length c0_2)] (r.1.Lights:List Light))] w'):=by
 obtain ⟨A,c,A2,c2,A3,c3,rfl,hl,hl2,hl3⟩:=uD h0
 obtain ⟨A4,c4,rfl,hl4⟩:=u4 h1
 have H:=Mem.start ⟨w0,[]⟩ S
 have H:=H.pA hl
 have H:=H.pA hl2
 have H:=H.pA hl3
 have H:=H.pA hl4
 refine en Tryz.func250 fun a hf=>?_
 rw [gbo] at hF
 refine bx hf H fun b' a w hf H=>?_
 refine aL hf H TF.zv30 fun b2 a w hf H=>?_
 refine pz 1 hf fun a hf=>?_
 refine wr (lN 1 hf H TF.la30 fun a hf=>?_)
 obtain ⟨y,hy,hF⟩:=bs_ hF
 refine oc hf TF.gjF (gbZ (S:=TT) (uj (x:=p) (H.rt 3 rfl) (H.rt 2 rfl) (H.rt 1 rfl)) hy) fun v w a hp hf=>?_
 obtain ⟨hb,F,hp2,hN⟩:=hp
 obtain ⟨A5,c5,F2,A6,c6,F3,A7,c7,F4,rfl,rfl,hl5,hl6,hl7⟩:=zH hp2
 have H:=H.aO3 hb (by first | exact hN | simpa using hN) hl5 hl6 hl7
 have H:=H.lend 0 rfl
 have H:=H.lend 1 rfl
 have H:=H.lend 2 rfl
 refine aL hf H TF.zv30 fun b3 a w hf H=>?_
 refine sB 0 hf H TF.sz30 fun w H=>?_
 refine we (sqz (pz 1 hf fun a hf=>?_))
 refine ub (ua ?_)
 obtain ⟨out',hB1,hF⟩:=bs_ hF
 have hf:=hf.pn [1,4,6,7]
 have H:=H.lm 3 0 0 4 15
 refine vU (fun (s:Int×List ByteArray×List Fiber×List Light) (a:Act) (w:World)=>match s with | (i,m,m2,m3)=>∃ (A8:Option Addr) (c8:Nat) (A9:Option Addr) (c9:Nat) (A10:Option Addr) (c10:Nat),Fr a 35 [(1,(.slice A4 list.length c4)),(4,(.pointer (some ⟨b2,0,none⟩))),(6,(.pointer (some ⟨b3,0,none⟩))),(7,(.int .i64 i))]∧Mem ⟨w0,[]⟩ S [⟨b3,30,[(.slice A8 m.length c8),(.slice A9 m2.length c9),(.slice A10 m3.length c10)]⟩,⟨b2,30,[(.slice none 0 0),(.slice none 0 0),(.slice none 0 0)]⟩] [] [] [(true,MP.val [(.slice A10 m3.length c10)] (m3:List Light)),(true,MP.val [(.slice A9 m2.length c9)] (m2:List Fiber)),(true,MP.val [(.slice A8 m.length c8)] (m:List ByteArray)),(false,MP.val [(.slice A4 list.length c4)] (list:List Action))] w) (fun k (s:Int×List ByteArray×List Fiber×List Light)=>yO fu list k s.1 s.2.1 s.2.2.1 s.2.2.2=some out') (fun s=>out'=Out.next s) (0,y.Network.Nodes,y.Network.Fibers,y.Lights) fu hB1 ⟨A5,c5,A6,c6,A7,c7,hf,H⟩ (fun s h=>by cases h) ?_ ?_
 rintro fk ⟨i,m,m2,m3⟩ a w hR1 hI
 replace hR1:yO fu list (fk + 1) i m m2 m3=some out':=hR1
 rw [yO] at hR1
 obtain ⟨A8,c8,A9,c9,A10,c10,hf,H⟩:=hI
 refine sq (sqz (pz 4 hf fun a hf=>?_))
 refine ub (ua (ib hR1 hf (fun hc hR1=>?_) fun hc hR1=>?_))
 refine wp_skip (ua (sq (wp_block (sq ?_))))
 obtain ⟨e,he,hR1⟩:=bs_ hR1
 obtain ⟨y2,hy2,hR1⟩:=bs_ hR1
 refine mid (fun a w=>∃ (b4:Nat) (A12:Option Addr) (c12:Nat) (A13:Option Addr) (c13:Nat) (A14:Option Addr) (c14:Nat),Fr a 35 [(1,(.slice A4 list.length c4)),(4,(.pointer (some ⟨b2,0,none⟩))),(6,(.pointer (some ⟨b3,0,none⟩))),(7,(.int .i64 i)),(8,(.pointer (some ⟨b4,0,none⟩))),(9,(.bool y2.2))]∧Mem ⟨w0,[]⟩ S [⟨b4,30,[(.slice A12 y2.1.Network.Nodes.length c12),(.slice A13 y2.1.Network.Fibers.length c13),(.slice A14 y2.1.Lights.length c14)]⟩,⟨b3,30,[(.slice A8 m.length c8),(.slice A9 m2.length c9),(.slice A10 m3.length c10)]⟩,⟨b2,30,[(.slice none 0 0),(.slice none 0 0),(.slice none 0 0)]⟩] [] [] [(true,MP.val [(.slice A14 y2.1.Lights.length c14)] (y2.1.Lights:List Light)),(true,MP.val [(.slice A13 y2.1.Network.Fibers.length c13)] (y2.1.Network.Fibers:List Fiber)),(true,MP.val [(.slice A12 y2.1.Network.Nodes.length c12)] (y2.1.Network.Nodes:List ByteArray)),(true,MP.val [(.slice A10 m3.length c10)] (m3:List Light)),(true,MP.val [(.slice A9 m2.length c9)] (m2:List Fiber)),(true,MP.val [(.slice A8 m.length c8)] (m:List ByteArray)),(false,MP.val [(.slice A4 list.length c4)] (list:List Action))] w) ?_ ?_
 refine dw [10] 12 fun w hb=>?_
 have H:=H.keep hb
 refine strT (H.lk 1 0 0 []) (fun w H=>trivial) fun hS=>?_
 refine zS 0 [0,5,6,7,8,10,11] rfl rfl rfl rfl hf hS (fun w H=>ul hf H TF.la30 0 rfl rfl rfl rfl) fun a hf=>?_
 refine zp 1 hf hS fun a hf=>?_
 refine zp 2 hf hS fun a hf=>?_
 obtain ⟨p2,o,cs,hx,hr,H⟩:=ux H Tryz.underlying70 TF.gce 3 rfl he
 refine zP 3 rfl rfl rfl rfl hf hS (fun w=>uu hf rfl rfl rfl hx w) fun a hf=>?_
 obtain ⟨A11,c11,rfl,hl8⟩:=zI hr
 have H:=H.pF hl8
 refine strT (H.lk 1 0 0 [1]) (fun w H=>H.lk 1 0 0 []) fun hS=>?_
 refine zS 4 [4,5,6,7,8,10,11] rfl rfl rfl rfl hf hS (fun w H=>uz hf H TF.gck 0 0 rfl rfl rfl rfl) fun a hf=>?_
 refine on2 (i:=5) (j:=9) (bi:=[true,true,true,true,true,true,false,false,false,false,false,false]) (bj:=[true,true,true,true,true,false,false,false,false,true,false,false]) (by kernel_rfl) rfl rfl rfl rfl rfl rfl ?_ ?_
 refine (oC hf TF.giO (z4 (S:=TT) (uj (x:=({ Network:=({ Nodes:=m,Fibers:=m2 }:Network),Lights:=m3 }:Plan)) (H.rt 4 rfl) (H.rt 3 rfl) (H.rt 2 rfl)) (gaE (x:=e) (H.rt 0 rfl)) hy2) fun v2 w a hp3 hf=>?_)
 obtain ⟨hb2,v3,v4,rfl,hp4,hp5⟩:=hp3
 obtain ⟨A12,c12,A13,c13,A14,c14,rfl,hl9,hl10,hl11⟩:=uD hp4
 replace hl9:=H.rF hl9
 replace hl10:=H.rF hl10
 replace hl11:=H.rF hl11
 obtain rfl:=uo hp5
 have H:=H.keep hb2
 have H:=H.pT hl9
 have H:=H.pT hl10
 have H:=H.pT hl11
 have hS:=H.lk 1 0 0 [4]
 refine aS hS ?_
 refine zp 6 hf hS fun a hf=>?_
 refine zp 7 hf hS fun a hf=>?_
 refine zp 8 hf hS fun a hf=>?_
 refine nn 9 rfl (vc hf H TF.zv30 rfl (by decide) fun b4 a w hf H=>?_)
 have hS:=H.lk 2 0 0 [4]
 refine aS hS ?_
 refine nn 10 rfl (uh hf H 0 TF.sz30 rfl rfl rfl rfl rfl rfl (nle rfl) fun w H=>?_)
 refine ⟨fun h=>absurd h (by decide),?_⟩
 refine tp 11 rfl rfl hf (by kernel_rfl) (fun h=>absurd h (by decide)) rfl fun a hf=>?_
 refine dk ?_
 have hf:=hf.pn [1,4,6,7,8,9]
 have H:=H.lm 7 0 0 9 487
 exact ⟨b4,A12,c12,A13,c13,A14,c14,hf,H⟩
 refine (vc hf H TF.zv30 rfl (by decide) fun b4 a w hf H=>?_)
 have hS:=H.lk 2 0 0 [1]
 refine aS hS ?_
 refine nn 5 rfl (oC hf TF.giO (z4 (S:=TT) (uj (x:=({ Network:=({ Nodes:=m,Fibers:=m2 }:Network),Lights:=m3 }:Plan)) (H.rt 4 rfl) (H.rt 3 rfl) (H.rt 2 rfl)) (gaE (x:=e) (H.rt 0 rfl)) hy2) fun v2 w a hp3 hf=>?_)
 obtain ⟨hb2,v3,v4,rfl,hp4,hp5⟩:=hp3
 obtain ⟨A12,c12,A13,c13,A14,c14,rfl,hl9,hl10,hl11⟩:=uD hp4
 replace hl9:=H.rF hl9
 replace hl10:=H.rF hl10
 replace hl11:=H.rF hl11
 obtain rfl:=uo hp5
 have H:=H.keep hb2
 have H:=H.pT hl9
 have H:=H.pT hl10
 have H:=H.pT hl11
 have hS:=H.lk 2 0 0 [4]
 refine aS hS ?_
 refine zp 6 hf hS fun a hf=>?_
 refine zp 7 hf hS fun a hf=>?_
 refine zp 8 hf hS fun a hf=>?_
 refine nn 10 rfl (uh hf H 0 TF.sz30 rfl rfl rfl rfl rfl rfl (nle rfl) fun w H=>?_)
 refine ⟨fun h=>absurd h (by decide),?_⟩
 refine tp 11 rfl rfl hf (by kernel_rfl) (fun h=>absurd h (by decide)) rfl fun a hf=>?_
 refine dk ?_
 have hf:=hf.pn [1,4,6,7,8,9]
 have H:=H.lm 7 0 0 9 487
 exact ⟨b4,A12,c12,A13,c13,A14,c14,hf,H⟩
 rintro a w ⟨b4,A12,c12,A13,c13,A14,c14,hf,H⟩
 refine ua (sq (sqz (pz 2 hf fun a hf=>?_)))
 refine ub (ua (ib hR1 hf (fun hc2 hR1=>?_) fun hc2 hR1=>?_))
 refine sq (reg (lN 1 hf H TF.la30 fun a hf=>?_))
 refine pz 1 hf fun a hf=>?_
 refine sB 2 hf H TF.sz30 fun w H=>?_
 refine pz 1 hf fun a hf=>?_
 refine ub (ua (wp_ret (uf (u9 (uf (uf (u9 (uf (uf (?_))))))))))
 obtain rfl:=oi hR1
 replace hF:=xc hF
 obtain rfl:=oi hF
 refine vL hf rfl (um hf H 2 TF.la30 rfl rfl rfl) (uE hf rfl) ?_
 have H:=H.lk 0 0 0 [5,4,3]
 exact ⟨_,rfl,A8,c8,A9,c9,A10,c10,rfl,H⟩
 refine wp_skip (ua (reg (lN 0 hf H TF.la30 fun a hf=>?_)))
 refine sB 1 hf H TF.sz30 fun w H=>?_
 refine ub (uV (ua (reg (pz 3 hf fun a hf=>?_))))
 refine ub ?_
 have hf:=hf.pn [1,4,6,7]
 have H:=H.lm 6 0 0 7 71
 exact ua ⟨(w64 (i + 1),y2.1.Network.Nodes,y2.1.Network.Fibers,y2.1.Lights),hR1,A12,c12,A13,c13,A14,c14,hf,H⟩
 refine wp_exit (uy (uy (vJ (?_))))
 have hf:=hf.pn [1,4,6,7]
 have H:=H.lm 3 0 0 4 15
 exact ⟨(i,m,m2,m3),(Option.some.inj hR1).symm,A8,c8,A9,c9,A10,c10,hf,H⟩
 rintro a w ⟨⟨i2,m4,m5,m6⟩,rfl,A15,c15,A16,c16,A17,c17,hf,H⟩
 replace hF:=vG hF
 try dsimp only at hF
 refine ua (sq (reg (lN 0 hf H TF.la30 fun a hf=>?_)))
 refine pz 2 hf fun a hf=>?_
 refine sB 1 hf H TF.sz30 fun w H=>?_
 refine pz 1 hf fun a hf=>?_
 refine wer ?_
 obtain rfl:=oi hF
 refine vL hf rfl (um hf H 1 TF.la30 rfl rfl rfl) (uE hf rfl) ?_
 have H:=H.lk 0 0 0 [2,1,0]
 exact ⟨_,rfl,A15,c15,A16,c16,A17,c17,rfl,H⟩
theorem gfb {S:Nat→Prop} {v0_:Value} {p:Plan} {r:Plan} (h0:VR w0 S v0_ p) (hF:zB fu p=some r) :
    Calls Tryz.prog 154 [v0_].toArray w0 fun e w'=>∃ v,e=.returned v∧(∃ (A0_0:Option Addr) (c0_0:Nat) (F0_0:List Nat) (A0_1:Option Addr) (c0_1:Nat) (F0_1:List Nat) (A0_2:Option Addr) (c0_2:Nat) (E0_2:Go.TypeId),v=(.agg #[(.slice A0_0 r.Network.Nodes.length c0_0),(.slice A0_1 r.Network.Fibers.length c0_1),(.slice A0_2 r.Lights.length c0_2)])∧Mem ⟨w0,[]⟩ S [] [⟨.sh true,E0_2,A0_2,c0_2,(r.Lights:List Light)⟩] [⟨F0_0,MP.own F0_0 [(.slice A0_0 r.Network.Nodes.length c0_0)] (r.Network.Nodes:List ByteArray)⟩,⟨F0_1,MP.own F0_1 [(.slice A0_1 r.Network.Fibers.length c0_1)] (r.Network.Fibers:List Fiber)⟩] [] w'):=by
 obtain ⟨A,c,A2,c2,A3,c3,rfl,hl,hl2,hl3⟩:=uD h0
 have H:=Mem.start ⟨w0,[]⟩ S
 have H:=H.pA hl
 have H:=H.pA hl2
 have H:=H.pA hl3
 refine en Tryz.func154 fun a hf=>?_
 rw [zB] at hF
 refine bx hf H fun b' a w hf H=>?_
 refine aL hf H TF.zv30 fun b2 a w hf H=>?_
 refine wr (pz 1 hf fun a hf=>?_)
 refine lN 1 hf H TF.la27 fun a hf=>?_
 obtain ⟨y,hy,hF⟩:=bs_ hF
 refine oc hf TF.glj (gda (S:=TT) (uY (x:=p.Network) (H.rt 2 rfl) (H.rt 1 rfl)) hy) fun v w a hp hf=>?_
 obtain ⟨hb,F,hp2,hN⟩:=hp
 obtain ⟨A4,c4,F2,A5,c5,F3,rfl,rfl,hl4,hl5⟩:=gaf hp2
 have H:=H.aO2 hb hN hl4 hl5
 have H:=H.lend 0 rfl
 have H:=H.lend 1 rfl
 refine oq hf (uA hf (cs:=[(.slice A4 y.Nodes.length c4),(.slice A5 y.Fibers.length c5),(.slice none 0 0)]) rfl (fun w=>by kernel_rfl)) fun a hf=>?_
 refine aL hf H TF.zv30 fun b3 a w hf H=>?_
 refine sB 0 hf H TF.sz30 fun w H=>?_
 refine we (sqz (pz 1 hf fun a hf=>?_))
 refine ub (ua ?_)
 have H:=H.nilRow (Light) (.ow []) rfl rfl 49
 obtain ⟨out',hB1,hF⟩:=bs_ hF
 have hf:=hf.pn [1,2,3,4]
 have H:=H.lm 7 1 3 5 31
 refine vU (fun (s:Int×List Light) (a:Act) (w:World)=>match s with | (i,m)=>∃ (A6:Option Addr) (c6:Nat) (E:Go.TypeId) (Fs:List (List Nat)),Fr a 28 [(1,(.pointer (some ⟨b',0,none⟩))),(2,(.pointer (some ⟨b2,0,none⟩))),(3,(.pointer (some ⟨b3,0,none⟩))),(4,(.int .i64 i))]∧Mem ⟨w0,[]⟩ S [⟨b3,30,[(.slice A4 y.Nodes.length c4),(.slice A5 y.Fibers.length c5),(.slice A6 m.length c6)]⟩,⟨b2,30,[(.slice none 0 0),(.slice none 0 0),(.slice none 0 0)]⟩,⟨b',30,[(.slice A p.Network.Nodes.length c),(.slice A2 p.Network.Fibers.length c2),(.slice A3 p.Lights.length c3)]⟩] [⟨.ow Fs,E,A6,c6,(m:List Light)⟩] [⟨F2,MP.own F2 [(.slice A4 y.Nodes.length c4)] (y.Nodes:List ByteArray)⟩,⟨F3,MP.own F3 [(.slice A5 y.Fibers.length c5)] (y.Fibers:List Fiber)⟩] [(true,MP.val [(.slice A5 y.Fibers.length c5)] (y.Fibers:List Fiber)),(true,MP.val [(.slice A4 y.Nodes.length c4)] (y.Nodes:List ByteArray)),(false,MP.val [(.slice A3 p.Lights.length c3)] (p.Lights:List Light)),(false,MP.val [(.slice A2 p.Network.Fibers.length c2)] (p.Network.Fibers:List Fiber)),(false,MP.val [(.slice A p.Network.Nodes.length c)] (p.Network.Nodes:List ByteArray))] w) (fun k (s:Int×List Light)=>xz fu p k s.1 s.2=some out') (fun s=>out'=s) (0,([]:List Light)) fu hB1 ⟨none,0,49,[],hf,H⟩ (fun s h=>by cases h) ?_ ?_
 rintro fk ⟨i,m⟩ a w hR1 hI
 replace hR1:xz fu p (fk + 1) i m=some out':=hR1
 rw [xz] at hR1
 obtain ⟨A6,c6,E,Fs,hf,H⟩:=hI
 refine sq (sqz (pz 2 hf fun a hf=>?_))
 refine lB 2 hf H TF.ls28 fun a hf=>?_
 refine pz 2 hf fun a hf=>?_
 refine ub (ua (ib hR1 hf (fun hc hR1=>?_) fun hc hR1=>?_))
 refine wp_skip (ua (sq (wp_block (dw [11] 12 fun w hb=>?_))))
 have H:=H.keep hb
 refine zp 0 hf trivial fun a hf=>?_
 refine strT (H.lk 1 0 0 []) (fun w H=>trivial) fun hS=>?_
 refine zS 1 [1,9,10,11] rfl rfl rfl rfl hf hS (fun w H=>ue hf H TF.ls28 0 rfl rfl rfl) fun a hf=>?_
 refine zp 2 hf hS fun a hf=>?_
 refine strT (H.lk 5 0 0 []) (fun w H=>H.lk 1 0 0 []) fun hS=>?_
 refine zS 3 [3,5,6,7,8,9,10,11] rfl rfl rfl rfl hf hS (fun w H=>ue hf H TF.ls28 1 rfl rfl rfl) fun a hf=>?_
 refine zp 4 hf hS fun a hf=>?_
 obtain ⟨e,he,hR1⟩:=bs_ hR1
 obtain ⟨p2,o,cs,hx,hr,H⟩:=ux H Tryz.underlying28 TF.sz49 2 rfl he
 refine zP 5 rfl rfl rfl rfl hf hS (fun w=>uu hf rfl rfl rfl hx w) fun a hf=>?_
 obtain ⟨A7,c7,rfl,hl6⟩:=uq hr
 have H:=H.pF hl6
 refine strT (H.lk 5 0 0 [1]) (fun w H=>H.lk 3 0 0 []) fun hS=>?_
 refine zS 6 [6,7,8,9,10,11] rfl rfl rfl rfl hf hS (fun w H=>uz hf H TF.la49 0 0 rfl rfl rfl rfl) fun a hf=>?_
 obtain ⟨y2,hy2,hR1⟩:=bs_ hR1
 refine nn 7 rfl (oC hf TF.ggB (yL (S:=TT) (uT (x:=e) (H.rt 0 rfl)) hy2) fun v2 w a hp3 hf=>?_)
 obtain ⟨hb2,F4,hp4,hN2⟩:=hp3
 obtain ⟨A8,c8,F5,rfl,rfl,hl7⟩:=ga8 hp4
 have H:=H.aO1 hb2 hN2 hl7
 have H:=H.lend 0 rfl
 have hS:=H.lk 5 0 0 [2]
 refine aS hS ?_
 have H:=H.recast (X:=[(⟨F5,MP.own F5 [(.slice A8 y2.Route.Fibers.length c8)] (y2.Route.Fibers:List Int)⟩:DI)]) (Y:=[(⟨F5,MP.own F5 [(.int .i64 y2.Id),(.int .i64 y2.Route.Start),(.slice A8 y2.Route.Fibers.length c8),(.int .i64 y2.Block.First),(.int .i64 y2.Block.Count)] (y2:Light)⟩:DI)]) (List.Perm.of_eq (by simp)) fun _=>ps1 (xR (x:=y2) (H.ownAt 0 rfl)) ps0
 refine nn 8 rfl (yh hf 49 H rfl (fun w=>by kernel_rfl) (by decide) fun A9 a w hf H=>?_)
 have hS:=H.lk 5 0 0 [2]
 refine aS hS ?_
 obtain ⟨al,hal,hR1⟩:=bs_ hR1
 have H:=H.frontR 1 rfl
 refine nn 9 rfl (gbO hf H Tryz.underlying28 TF.ai49 rfl (by decide) rfl rfl hal (by decide) fun E2 A10 c9 a w hf H=>?_)
 have hS:=H.lk 5 0 0 [2]
 refine aS hS ?_
 refine zp 10 hf hS fun a hf=>?_
 refine nn 11 rfl (uh hf H 0 TF.sz28 rfl rfl rfl rfl rfl rfl (nle rfl) fun w H=>?_)
 refine ⟨fun h=>absurd h (by decide),?_⟩
 refine dk ?_
 have hf:=hf.pn [1,2,3,4]
 refine uV (ua (reg (pz 3 hf fun a hf=>?_)))
 refine ub ?_
 have hf:=hf.pn [1,2,3,4]
 have H:=H.lm 7 1 3 8 248
 exact ua ⟨(w64 (i + 1),al),hR1,A10,c9,E2,Fs++[F5],hf,H⟩
 refine wp_exit (uy (uy (vJ (?_))))
 have hf:=hf.pn [1,2,3,4]
 have H:=H.lm 7 1 3 5 31
 exact ⟨(i,m),(Option.some.inj hR1).symm,A6,c6,E,Fs,hf,H⟩
 rintro a w ⟨⟨i2,m2⟩,rfl,A11,c10,E3,Fs2,hf,H⟩
 try dsimp only at hF
 refine ua (sq (reg (lN 0 hf H TF.la30 fun a hf=>?_)))
 refine sB 1 hf H TF.sz30 fun w H=>?_
 refine wer ?_
 have H:=H.rowSh 0 rfl
 have H:=H.frontD 1 rfl
 have H:=H.frontD 1 rfl
 obtain rfl:=oi hF
 refine xi hf rfl (um hf H 1 TF.la30 rfl rfl rfl) ?_
 have H:=H.lk 0 1 3 []
 exact ⟨_,rfl,A4,c4,F2,A5,c5,F3,A11,c10,E3,rfl,H⟩
end AT
