/- The Go functions do what is told of them, by program (gen.py). -/
import Derived.Test.YtlemonjnolciiaaGreatWFnSafeOrder1
set_option linter.unusedVariables false
set_option linter.unusedSimpArgs false
set_option maxRecDepth 100000
set_option maxHeartbeats 1000000
namespace AT
open Go Go.RowKit Go.Proofs
variable {fu:Nat} {w0:World}
theorem gc0 {S:Nat→Prop} {v0_:Value} {v1_:Value} {p:Plan} {id:Int} {r:Plan×Bool} (h0:VR w0 S v0_ p) (h1:VR w0 S v1_ id) (hF:z7 fu p id=some r) :
    Calls Tryz.prog 253 [v0_,v1_].toArray w0 fun e w'=>∃ v,e=.returned v∧(Below w0.heap.size w0 w'∧∃ F0,∃ u0 u1,v=.tuple #[u0,u1]∧VO w' F0 u0 r.1∧VR w' (St ⟨w0,[]⟩ S [] [] [] true) u1 r.2∧New w0 w' F0):=by
 obtain ⟨A,c,A2,c2,A3,c3,rfl,hl,hl2,hl3⟩:=uD h0
 obtain rfl:=uv h1
 have H:=Mem.start ⟨w0,[]⟩ S
 have H:=H.pA hl
 have H:=H.pA hl2
 have H:=H.pA hl3
 refine en Tryz.func253 fun a hf=>?_
 rw [z7] at hF
 refine bx hf H fun b' a w hf H=>?_
 refine aL hf H TF.zv30 fun b2 a w hf H=>?_
 refine pz 1 hf fun a hf=>?_
 refine wr (lN 1 hf H TF.la30 fun a hf=>?_)
 refine pz 1 hf fun a hf=>?_
 obtain ⟨y,hy,hF⟩:=bs_ hF
 refine oc hf TF.cl14 (gby (S:=TT) (uj (x:=p) (H.rt 2 rfl) (H.rt 1 rfl) (H.rt 0 rfl)) ug hy) fun v w a hp hf=>?_
 obtain ⟨hb,v2,v3,rfl,hp2,hp3⟩:=hp
 obtain rfl:=uv hp2
 obtain rfl:=uo hp3
 have H:=H.keep hb
 refine pz 5 hf fun a hf=>?_
 refine we (sqz (pz 2 hf fun a hf=>?_))
 refine ub (ua (ib hF hf (fun hc hF=>?_) fun hc hF=>?_))
 refine sq (reg (oq hf (uA hf (cs:=[(.slice none 0 0),(.slice none 0 0),(.slice none 0 0)]) rfl (fun w=>by kernel_rfl)) fun a hf=>?_))
 refine sB 0 hf H TF.sz30 fun w H=>?_
 refine pz 1 hf fun a hf=>?_
 have hf:=hf.pn [4,5]
 refine ub (ua (wp_ret (uf (?_))))
 have H:=H.ownNil (ByteArray)
 have H:=H.lend 0 rfl
 have H:=H.ownNil (Fiber)
 have H:=H.lend 0 rfl
 have H:=H.ownNil (Light)
 have H:=H.lend 0 rfl
 have H:=H.frontD 1 rfl
 have H:=H.frontD 2 rfl
 obtain rfl:=oi hF
 refine vL hf rfl (um hf H 0 TF.la30 rfl rfl rfl) (uE hf rfl) ?_
 have hN:=H.ends3
 exact ⟨_,rfl,H.bel,([]++([]++[])),_,_,rfl,⟨_,vB (x:=({ Network:=({ Nodes:=[],Fibers:=[] }:Network),Lights:=[] }:Plan)) (H.ownAt 0 rfl) (H.ownAt 1 rfl) (H.ownAt 2 rfl),rfl⟩,uk,by first | exact hN | simpa using hN⟩
 refine wp_skip (ua (sq (reg (lN 1 hf H TF.la30 fun a hf=>?_))))
 refine pz 1 hf fun a hf=>?_
 obtain ⟨y2,hy2,hF⟩:=bs_ hF
 refine oc hf TF.glI (gcz (S:=TT) (uj (x:=p) (H.rt 2 rfl) (H.rt 1 rfl) (H.rt 0 rfl)) ug hy2) fun v4 w a hp4 hf=>?_
 obtain ⟨hb2,F,hp5,hN⟩:=hp4
 obtain ⟨A4,c4,F2,A5,c5,F3,A6,c6,F4,rfl,rfl,hl4,hl5,hl6⟩:=zH hp5
 have H:=H.aO3 hb2 (by first | exact hN | simpa using hN) hl4 hl5 hl6
 have H:=H.lend 0 rfl
 have H:=H.lend 1 rfl
 have H:=H.lend 2 rfl
 refine sB 0 hf H TF.sz30 fun w H=>?_
 refine pz 1 hf fun a hf=>?_
 have hf:=hf.pn [4,5]
 refine wer ?_
 have H:=H.frontD 2 rfl
 have H:=H.frontD 2 rfl
 have H:=H.frontD 2 rfl
 obtain rfl:=oi hF
 refine vL hf rfl (um hf H 0 TF.la30 rfl rfl rfl) (uE hf rfl) ?_
 have hN:=H.ends3
 exact ⟨_,rfl,H.bel,(F2++(F3++F4)),_,_,rfl,⟨_,vB (x:=y2) (H.ownAt 0 rfl) (H.ownAt 1 rfl) (H.ownAt 2 rfl),rfl⟩,uk,by first | exact hN | simpa using hN⟩
theorem gdG {S:Nat→Prop} {v0_:Value} {v1_:Value} {v2_:Value} {v3_:Value} {p:Plan} {id:Int} {r':Route} {b':Block} {r:Plan×Bool} (h0:VR w0 S v0_ p) (h1:VR w0 S v1_ id) (h2:VR w0 S v2_ r') (h3:VR w0 S v3_ b') (hF:gaJ fu p id r' b'=some r) :
    Calls Tryz.prog 254 [v0_,v1_,v2_,v3_].toArray w0 fun e w'=>∃ v,e=.returned v∧(Below w0.heap.size w0 w'∧∃ F0,∃ u0 u1,v=.tuple #[u0,u1]∧VO w' F0 u0 r.1∧VR w' (St ⟨w0,[]⟩ S [] [] [] true) u1 r.2∧New w0 w' F0):=by
 obtain ⟨A,c,A2,c2,A3,c3,rfl,hl,hl2,hl3⟩:=uD h0
 obtain rfl:=uv h1
 obtain ⟨A4,c4,rfl,hl4⟩:=yi h2
 obtain rfl:=yj h3
 have H:=Mem.start ⟨w0,[]⟩ S
 have H:=H.pA hl
 have H:=H.pA hl2
 have H:=H.pA hl3
 have H:=H.pA hl4
 refine en Tryz.func254 fun a hf=>?_
 rw [gaJ] at hF
 refine bx hf H fun b2 a w hf H=>?_
 refine wl0 rfl (xl hf H rfl rfl (by decide) fun b3 a w hf H=>?_)
 refine wl0 rfl (xl hf H rfl rfl (by decide) fun b4 a w hf H=>?_)
 refine aL hf H TF.zv30 fun b5 a w hf H=>?_
 refine pz 1 hf fun a hf=>?_
 refine wr (lN 3 hf H TF.la30 fun a hf=>?_)
 refine pz 1 hf fun a hf=>?_
 obtain ⟨y,hy,hF⟩:=bs_ hF
 refine oc hf TF.cl14 (gby (S:=TT) (uj (x:=p) (H.rt 3 rfl) (H.rt 2 rfl) (H.rt 1 rfl)) ug hy) fun v w a hp hf=>?_
 obtain ⟨hb,v2,v3,rfl,hp2,hp3⟩:=hp
 obtain rfl:=uv hp2
 obtain rfl:=uo hp3
 have H:=H.keep hb
 refine pz 5 hf fun a hf=>?_
 refine we (sqz (pz 2 hf fun a hf=>?_))
 refine ub (ua (ib hF hf (fun hc hF=>?_) fun hc hF=>?_))
 refine sq (reg (oq hf (uA hf (cs:=[(.slice none 0 0),(.slice none 0 0),(.slice none 0 0)]) rfl (fun w=>by kernel_rfl)) fun a hf=>?_))
 refine sB 0 hf H TF.sz30 fun w H=>?_
 refine pz 1 hf fun a hf=>?_
 have hf:=hf.pn [8,9]
 refine ub (ua (wp_ret (uf (?_))))
 have H:=H.ownNil (ByteArray)
 have H:=H.lend 0 rfl
 have H:=H.ownNil (Fiber)
 have H:=H.lend 0 rfl
 have H:=H.ownNil (Light)
 have H:=H.lend 0 rfl
 have H:=H.frontD 1 rfl
 have H:=H.frontD 2 rfl
 obtain rfl:=oi hF
 refine vL hf rfl (um hf H 0 TF.la30 rfl rfl rfl) (uE hf rfl) ?_
 have hN:=H.ends3
 exact ⟨_,rfl,H.bel,([]++([]++[])),_,_,rfl,⟨_,vB (x:=({ Network:=({ Nodes:=[],Fibers:=[] }:Network),Lights:=[] }:Plan)) (H.ownAt 0 rfl) (H.ownAt 1 rfl) (H.ownAt 2 rfl),rfl⟩,uk,by first | exact hN | simpa using hN⟩
 refine wp_skip (ua (sq (reg (lN 3 hf H TF.la30 fun a hf=>?_))))
 obtain ⟨y2,hy2,hF⟩:=bs_ hF
 refine oc hf TF.cl69 (zw (S:=TT) (uj (x:=p) (H.rt 3 rfl) (H.rt 2 rfl) (H.rt 1 rfl)) hy2) fun v4 w a hp4 hf=>?_
 obtain ⟨hb2,F,hp5,hN⟩:=hp4
 obtain ⟨A5,c5,F2,A6,c6,F3,A7,c7,F4,rfl,rfl,hl5,hl6,hl7⟩:=zH hp5
 have H:=H.aO3 hb2 (by first | exact hN | simpa using hN) hl5 hl6 hl7
 have H:=H.lend 0 rfl
 have H:=H.lend 1 rfl
 have H:=H.lend 2 rfl
 have H:=H.frontD 2 rfl
 obtain ⟨Fs,E,H,-⟩:=H.thaw rfl
 have H:=H.pA hl
 have H:=H.pA hl2
 have H:=H.pA hl3
 have H:=H.pA hl4
 have H:=H.lend 0 rfl
 have H:=H.lend 1 rfl
 refine aL hf H TF.zv30 fun b6 a w hf H=>?_
 refine sB 0 hf H TF.sz30 fun w H=>?_
 have hf:=hf.pn [1,6,7,8,10,12]
 refine ub (ua (sq (dw [9] 10 fun w hb=>?_)))
 have H:=H.keep hb
 refine zp 0 hf trivial fun a hf=>?_
 refine strT (H.lk 1 0 0 []) (fun w H=>trivial) fun hS=>?_
 refine zS 1 [1,8,9] rfl rfl rfl rfl hf hS (fun w H=>ue hf H TF.ls28 0 rfl rfl rfl) fun a hf=>?_
 refine zp 2 hf hS fun a hf=>?_
 refine zp 3 hf hS fun a hf=>?_
 refine strT (H.lk 9 0 0 []) (fun w H=>H.lk 1 0 0 []) fun hS=>?_
 refine zS 4 [4,5,7,8,9] rfl rfl rfl rfl hf hS (fun w H=>ul hf H TF.la45 1 rfl rfl rfl rfl) fun a hf=>?_
 refine strT (H.lk 13 0 0 []) (fun w H=>H.lk 5 0 0 []) fun hS=>?_
 refine zS 6 [6,7,8,9] rfl rfl rfl rfl hf hS (fun w H=>ul hf H TF.la47 1 rfl rfl rfl rfl) fun a hf=>?_
 obtain ⟨y3,hy3,hF⟩:=bs_ hF
 refine nn 5 rfl (oC hf TF.cl92 (zN (S:=TT) (xk (x:=r') (H.rt 2 rfl)) hy3) fun v5 w a hp6 hf=>?_)
 obtain ⟨hb3,F5,hp7,hN2⟩:=hp6
 obtain ⟨A8,c8,F6,rfl,rfl,hl8⟩:=yT hp7
 have H:=H.aO1 hb3 hN2 hl8
 have H:=H.lend 0 rfl
 have hS:=H.lk 13 0 0 []
 refine aS hS ?_
 refine zP 7 rfl rfl rfl rfl hf hS (fun w=>uA hf (cs:=[(.int .i64 id),(.int .i64 y3.Start),(.slice A8 y3.Fibers.length c8),(.int .i64 b'.First),(.int .i64 b'.Count)]) rfl (fun w=>by kernel_rfl)) fun a hf=>?_
 obtain ⟨e,he,hF⟩:=bs_ hF
 refine nn 8 rfl (vD hf H Tryz.underlying28 TF.sz49 0 rfl rfl rfl he (by decide) fun p2 o cs a hf hA hr hk=>?_)
 have hrk:=hr
 obtain ⟨A9,c9,rfl,hl9⟩:=uq hr
 have H:=H.pT hl9
 have hS:=H.lk 13 0 0 []
 refine aS hS ?_
 have H:=H.recast (X:=[(⟨F6,MP.own F6 [(.slice A8 y3.Fibers.length c8)] (y3.Fibers:List Int)⟩:DI)]) (Y:=[(⟨F6,MP.own F6 [(.int .i64 id),(.int .i64 y3.Start),(.slice A8 y3.Fibers.length c8),(.int .i64 b'.First),(.int .i64 b'.Count)] (({ Id:=id,Route:=y3,Block:=b' }:Light):Light)⟩:DI)]) (List.Perm.of_eq (by simp)) fun _=>ps1 (xR (x:=({ Id:=id,Route:=y3,Block:=b' }:Light)) (H.ownAt 0 rfl)) ps0
 refine nn 9 rfl (gib hf H TF.sz49 rfl rfl rfl rfl rfl rfl hA he fun w H=>?_)
 replace hf:Fr a 37 [(1,(.int .i64 id)),(6,(.pointer (some ⟨b3,0,none⟩))),(7,(.pointer (some ⟨b4,0,none⟩))),(8,(.pointer (some ⟨b5,0,none⟩))),(10,(.int .i64 y.1)),(12,(.pointer (some ⟨b6,0,none⟩))),(24,(.pointer (some ⟨b6,2,none⟩))),(25,(.slice A7 y2.Lights.length c7)),(26,(.int .i64 y.1)),(27,(.int .i64 id)),(28,(.agg #[(.int .i64 r'.Start),(.slice A4 r'.Fibers.length c4)])),(29,(.agg #[(.int .i64 y3.Start),(.slice A8 y3.Fibers.length c8)])),(30,(.agg #[(.int .i64 b'.First),(.int .i64 b'.Count)])),(31,(.agg #[(.int .i64 id),(.int .i64 y3.Start),(.slice A8 y3.Fibers.length c8),(.int .i64 b'.First),(.int .i64 b'.Count)])),(32,(.pointer (some ⟨p2,o + 0,none⟩)))]:=hf.prune [1,6,7,8,10,12,24,25,26,27,28,29,30,31,32] rfl
 replace hf:Fr a 37 [(1,(.int .i64 id)),(6,(.pointer (some ⟨b3,0,none⟩))),(7,(.pointer (some ⟨b4,0,none⟩))),(8,(.pointer (some ⟨b5,0,none⟩))),(10,(.int .i64 y.1)),(12,(.pointer (some ⟨b6,0,none⟩))),(24,(.pointer (some ⟨b6,2,none⟩))),(25,(.slice A7 (y2.Lights.set (y.1:Int).toNat ({ Id:=id,Route:=y3,Block:=b' }:Light)).length c7)),(26,(.int .i64 y.1)),(27,(.int .i64 id)),(28,(.agg #[(.int .i64 r'.Start),(.slice A4 r'.Fibers.length c4)])),(29,(.agg #[(.int .i64 y3.Start),(.slice A8 y3.Fibers.length c8)])),(30,(.agg #[(.int .i64 b'.First),(.int .i64 b'.Count)])),(31,(.agg #[(.int .i64 id),(.int .i64 y3.Start),(.slice A8 y3.Fibers.length c8),(.int .i64 b'.First),(.int .i64 b'.Count)])),(32,(.pointer (some ⟨p2,o + 0,none⟩)))]:=by simpa only [List.length_set,Nat.add_zero] using hf
 replace H:Mem ⟨w0,[]⟩ S [⟨b6,30,[(.slice A5 y2.Network.Nodes.length c5),(.slice A6 y2.Network.Fibers.length c6),(.slice A7 (y2.Lights.set (y.1:Int).toNat ({ Id:=id,Route:=y3,Block:=b' }:Light)).length c7)]⟩,⟨b5,30,[(.slice none 0 0),(.slice none 0 0),(.slice none 0 0)]⟩,⟨b4,47,[(.int .i64 b'.First),(.int .i64 b'.Count)]⟩,⟨b3,45,[(.int .i64 r'.Start),(.slice A4 r'.Fibers.length c4)]⟩,⟨b2,30,[(.slice A p.Network.Nodes.length c),(.slice A2 p.Network.Fibers.length c2),(.slice A3 p.Lights.length c3)]⟩] [⟨.ow (Fs.set (y.1:Int).toNat F6),E,A7,c7,(y2.Lights.set (y.1:Int).toNat ({ Id:=id,Route:=y3,Block:=b' }:Light):List Light)⟩] [⟨F2,MP.own F2 [(.slice A5 y2.Network.Nodes.length c5)] (y2.Network.Nodes:List ByteArray)⟩,⟨F3,MP.own F3 [(.slice A6 y2.Network.Fibers.length c6)] (y2.Network.Fibers:List Fiber)⟩] [(true,MP.val [(.slice A9 e.Route.Fibers.length c9)] (e.Route.Fibers:List Int)),(true,MP.val [(.slice A8 y3.Fibers.length c8)] (y3.Fibers:List Int)),(true,MP.val [(.slice A6 y2.Network.Fibers.length c6)] (y2.Network.Fibers:List Fiber)),(true,MP.val [(.slice A5 y2.Network.Nodes.length c5)] (y2.Network.Nodes:List ByteArray)),(false,MP.val [(.slice A4 r'.Fibers.length c4)] (r'.Fibers:List Int)),(false,MP.val [(.slice A3 p.Lights.length c3)] (p.Lights:List Light)),(false,MP.val [(.slice A2 p.Network.Fibers.length c2)] (p.Network.Fibers:List Fiber)),(false,MP.val [(.slice A p.Network.Nodes.length c)] (p.Network.Nodes:List ByteArray))] w:=by first | (simp only [List.length_set]; exact H) | (simp only [List.length_set] at H ⊢; exact H)
 refine ⟨fun h=>absurd h (by decide),?_⟩
 refine dk ?_
 have hf:=hf.pn [8,12]
 refine ua (sq (reg (lN 0 hf H TF.la30 fun a hf=>?_)))
 refine oc hf TF.glc (gcI (S:=TT) (uj (x:=({ Network:=y2.Network,Lights:=y2.Lights.set (y.1:Int).toNat ({ Id:=id,Route:=y3,Block:=b' }:Light) }:Plan)) (H.rt 3 rfl) (H.rt 2 rfl) (H.rowTrue 0 rfl)) hF) fun v6 w a hp8 hf=>?_
 obtain ⟨hb4,hp8⟩:=hp8
 have H:=H.keep hb4
 rcases hp8 with ⟨hr,rfl⟩ | ⟨hr,rfl⟩
 have hF:=(congrArg some hr).symm
 refine pz 2 hf fun a hf=>?_
 refine sB 1 hf H TF.sz30 fun w H=>?_
 refine pz 1 hf fun a hf=>?_
 refine wer ?_
 obtain ⟨F7,H⟩:=H.freezeOwn 0 rfl
 have H:=H.lend 0 rfl
 have H:=H.frontD 2 rfl
 have H:=H.frontD 2 rfl
 obtain rfl:=oi hF
 refine vL hf rfl (um hf H 1 TF.la30 rfl rfl rfl) (uE hf rfl) ?_
 have hN:=H.ends3
 exact ⟨_,rfl,H.bel,(F2++(F3++F7)),_,_,rfl,⟨_,vB (x:=({ Network:=y2.Network,Lights:=y2.Lights.set (y.1:Int).toNat ({ Id:=id,Route:=y3,Block:=b' }:Light) }:Plan)) (H.ownAt 0 rfl) (H.ownAt 1 rfl) (H.ownAt 2 rfl),rfl⟩,uk,by first | exact hN | simpa using hN⟩
 have hF:=(congrArg some hr).symm
 refine pz 2 hf fun a hf=>?_
 refine sB 1 hf H TF.sz30 fun w H=>?_
 refine pz 1 hf fun a hf=>?_
 refine wer ?_
 have H:=H.ownNil (ByteArray)
 have H:=H.lend 0 rfl
 have H:=H.ownNil (Fiber)
 have H:=H.lend 0 rfl
 have H:=H.ownNil (Light)
 have H:=H.lend 0 rfl
 have H:=H.frontD 1 rfl
 have H:=H.frontD 2 rfl
 obtain rfl:=oi hF
 refine vL hf rfl (um hf H 1 TF.la30 rfl rfl rfl) (uE hf rfl) ?_
 have hN:=H.ends3
 exact ⟨_,rfl,H.bel,([]++([]++[])),_,_,rfl,⟨_,vB (x:=({ Network:=({ Nodes:=[],Fibers:=[] }:Network),Lights:=[] }:Plan)) (H.ownAt 0 rfl) (H.ownAt 1 rfl) (H.ownAt 2 rfl),rfl⟩,uk,by first | exact hN | simpa using hN⟩
theorem gbz {S:Nat→Prop} {v0_:Value} {v1_:Value} {p:Plan} {a':Action} {r:Plan×Bool} (h0:VR w0 S v0_ p) (h1:VR w0 S v1_ a') (hF:xO fu p a'=some r) :
    Calls Tryz.prog 190 [v0_,v1_].toArray w0 fun e w'=>∃ v,e=.returned v∧(Below w0.heap.size w0 w'∧∃ F0,∃ u0 u1,v=.tuple #[u0,u1]∧VO w' F0 u0 r.1∧VR w' (St ⟨w0,[]⟩ S [] [] [] true) u1 r.2∧New w0 w' F0):=by
 obtain ⟨A,c,A2,c2,A3,c3,rfl,hl,hl2,hl3⟩:=uD h0
 obtain ⟨A4,c4,rfl,hl4⟩:=gc6 h1
 have H:=Mem.start ⟨w0,[]⟩ S
 have H:=H.pA hl
 have H:=H.pA hl2
 have H:=H.pA hl3
 have H:=H.pA hl4
 refine en Tryz.func190 fun a hf=>?_
 rw [xO] at hF
 refine bx hf H fun b' a w hf H=>?_
 refine wl0 rfl (xl hf H rfl rfl (by decide) fun b2 a w hf H=>?_)
 refine aL hf H TF.zv30 fun b3 a w hf H=>?_
 refine pz 1 hf fun a hf=>?_
 refine we (sqz (pz 1 hf fun a hf=>?_))
 refine lB 1 hf H TF.ls3 fun a hf=>?_
 refine ub (ua (wp_block (sqz (pz 2 hf fun a hf=>?_))))
 refine ub (ua (ib hF hf (fun hc hF=>?_) fun hc hF=>?_))
 refine sq (reg (lN 2 hf H TF.la30 fun a hf=>?_))
 refine pz 1 hf fun a hf=>?_
 refine lN 1 hf H TF.la49 fun a hf=>?_
 obtain ⟨y,hy,hF⟩:=bs_ hF
 refine oc hf TF.glX (gd0 (S:=TT) (uj (x:=p) (H.rt 3 rfl) (H.rt 2 rfl) (H.rt 1 rfl)) (uT (x:=a'.Light) (H.rt 0 rfl)) hy) fun v w a hp hf=>?_
 obtain ⟨hb,F,v2,v3,rfl,hp2,hp3,hN⟩:=hp
 obtain ⟨A5,c5,F2,A6,c6,F3,A7,c7,F4,rfl,rfl,hl5,hl6,hl7⟩:=zH hp2
 obtain rfl:=uo hp3
 have H:=H.aO3 hb (by first | exact hN | simpa using hN) hl5 hl6 hl7
 have H:=H.lend 0 rfl
 have H:=H.lend 1 rfl
 have H:=H.lend 2 rfl
 refine pz 2 hf fun a hf=>?_
 refine sB 0 hf H TF.sz30 fun w H=>?_
 refine pz 1 hf fun a hf=>?_
 have hf:=hf.pn [4,5]
 refine ub (ua (wp_ret (u9 (uf (?_)))))
 have H:=H.frontD 2 rfl
 have H:=H.frontD 2 rfl
 have H:=H.frontD 2 rfl
 obtain rfl:=oi hF
 refine vL hf rfl (um hf H 0 TF.la30 rfl rfl rfl) (uE hf rfl) ?_
 have hN:=H.ends3
 exact ⟨_,rfl,H.bel,(F2++(F3++F4)),_,_,rfl,⟨_,vB (x:=y.1) (H.ownAt 0 rfl) (H.ownAt 1 rfl) (H.ownAt 2 rfl),rfl⟩,uk,by first | exact hN | simpa using hN⟩
 refine sqz (pz 2 hf fun a hf=>?_)
 refine ub (ua (ib hF hf (fun hc2 hF=>?_) fun hc2 hF=>?_))
 refine sq (reg (lN 2 hf H TF.la30 fun a hf=>?_))
 refine pz 2 hf fun a hf=>?_
 refine lB 1 hf H TF.ls3 fun a hf=>?_
 obtain ⟨y2,hy2,hF⟩:=bs_ hF
 refine oc hf TF.cl64 (gao (S:=TT) (uj (x:=p) (H.rt 3 rfl) (H.rt 2 rfl) (H.rt 1 rfl)) ug hy2) fun v4 w a hp4 hf=>?_
 obtain ⟨hb2,hp4⟩:=hp4
 obtain rfl:=uv hp4
 have H:=H.keep hb2
 refine pz 1 hf fun a hf=>?_
 have hf:=hf.pn [2,3,4,6]
 refine ub (ua (sq ?_))
 obtain ⟨c8,hGc8,hF⟩:=bs_ hF
 have fh:=hf.prune [2,3,4] rfl
 have Hm:=H.lm 7 0 0 4 15
 refine midF 35 (.bool c8) fh Hm ?_ fun a w hf H=>?_
 refine dw [] 12 fun w hb=>?_
 have H:=H.keep hb
 refine zp 0 hf trivial fun a hf=>?_
 refine zp 1 hf trivial fun a hf=>?_
 refine zp 2 hf trivial fun a hf=>?_
 refine iteB hGc8 (fun hc3 hGc8=>?_) fun hc3 hGc8=>?_
 have hf:=hf.lit 26 rfl hc3
 refine zg 3 hf trivial fun a hf=>?_
 refine strT (H.lk 4 0 0 []) (fun w H=>trivial) fun hS=>?_
 refine tSg 4 [] rfl rfl rfl rfl rfl rfl hf (by kernel_rfl) (by kernel_rfl) hS (fun w H=>ue hf H TF.ls28 0 rfl rfl rfl) fun a hf=>?_
 refine zg 5 hf hS fun a hf=>?_
 obtain ⟨e,he,hGc8⟩:=bs_ hGc8
 obtain ⟨p2,o,cs,hx,hr,H⟩:=ux H Tryz.underlying28 TF.sz49 1 rfl he
 refine tPg 6 rfl rfl rfl rfl rfl rfl hf (by kernel_rfl) (fun _=>hS) (fun w=>uu hf rfl rfl rfl hx w) fun a hf=>?_
 obtain ⟨A8,c9,rfl,hl8⟩:=uq hr
 have H:=H.pF hl8
 refine strT (H.lk 4 0 0 [1]) (fun w H=>H.lk 1 0 0 []) fun hS=>?_
 refine tSg 7 [] rfl rfl rfl rfl rfl rfl hf (by kernel_rfl) (by kernel_rfl) hS (fun w H=>uz hf H TF.la49 0 0 rfl rfl rfl rfl) fun a hf=>?_
 refine zg 8 hf hS fun a hf=>?_
 refine strT (H.lk 6 0 0 [1]) (fun w H=>H.lk 2 0 0 [0]) fun hS=>?_
 refine tSg 9 [] rfl rfl rfl rfl rfl rfl hf (by kernel_rfl) (by kernel_rfl) hS (fun w H=>ul hf H TF.la49 0 rfl rfl rfl rfl) fun a hf=>?_
 obtain ⟨y3,hy3,hGc8⟩:=bs_ hGc8
 refine n1g 10 (by kernel_rfl) rfl rfl rfl rfl hf (oC hf TF.glt (gbw (S:=TT) (uT (x:=e) (H.rt 0 rfl)) (uT (x:=a'.Light) (H.rt 2 rfl)) hy3) fun v5 w a hp5 hf=>?_)
 obtain ⟨hb3,hp5⟩:=hp5
 obtain rfl:=uo hp5
 have H:=H.keep hb3
 have hS:=H.lk 6 0 0 [1]
 refine aS hS ?_
 refine zp 11 hf hS fun a hf=>?_
 refine dk ?_
 obtain rfl:=oi hGc8
 have hf:=hf.pn [35,2,3,4]
 have H:=H.lm 7 0 0 6 60
 exact ⟨hf,H⟩
 have hf:=hf.lit 26 rfl hc3
 refine zU 3 hf trivial fun a hf=>?_
 refine zU 4 hf trivial fun a hf=>?_
 refine zU 5 hf trivial fun a hf=>?_
 refine zU 6 hf trivial fun a hf=>?_
 refine zU 7 hf trivial fun a hf=>?_
 refine zU 8 hf trivial fun a hf=>?_
 refine zU 9 hf trivial fun a hf=>?_
 refine zU 10 hf trivial fun a hf=>?_
 refine zp 11 hf trivial fun a hf=>?_
 refine dk ?_
 obtain rfl:=oi hGc8
 have hf:=hf.pn [35,2,3,4]
 have H:=H.lm 7 0 0 4 15
 exact ⟨hf,H⟩
 refine ua (ib hF hf (fun hc4 hF=>?_) fun hc4 hF=>?_)
 refine sq (reg (lN 2 hf H TF.la30 fun a hf=>?_))
 refine pz 2 hf fun a hf=>?_
 refine lB 1 hf H TF.ls3 fun a hf=>?_
 obtain ⟨y4,hy4,hF⟩:=bs_ hF
 refine oc hf TF.glW (gc0 (S:=TT) (uj (x:=p) (H.rt 3 rfl) (H.rt 2 rfl) (H.rt 1 rfl)) ug hy4) fun v6 w a hp6 hf=>?_
 obtain ⟨hb4,F5,v7,v8,rfl,hp7,hp8,hN2⟩:=hp6
 obtain ⟨A9,c10,F6,A10,c11,F7,A11,c12,F8,rfl,rfl,hl9,hl10,hl11⟩:=zH hp7
 obtain rfl:=uo hp8
 have H:=H.aO3 hb4 (by first | exact hN2 | simpa using hN2) hl9 hl10 hl11
 have H:=H.lend 0 rfl
 have H:=H.lend 1 rfl
 have H:=H.lend 2 rfl
 refine pz 2 hf fun a hf=>?_
 refine sB 0 hf H TF.sz30 fun w H=>?_
 refine pz 1 hf fun a hf=>?_
 refine ub (ua (wp_ret (u9 (uf (?_)))))
 have H:=H.frontD 2 rfl
 have H:=H.frontD 2 rfl
 have H:=H.frontD 2 rfl
 obtain rfl:=oi hF
 refine vL hf rfl (um hf H 0 TF.la30 rfl rfl rfl) (uE hf rfl) ?_
 have hN:=H.ends3
 exact ⟨_,rfl,H.bel,(F6++(F7++F8)),_,_,rfl,⟨_,vB (x:=y4.1) (H.ownAt 0 rfl) (H.ownAt 1 rfl) (H.ownAt 2 rfl),rfl⟩,uk,by first | exact hN | simpa using hN⟩
 refine wp_skip (uV (ua (sq (reg (oq hf (uA hf (cs:=[(.slice none 0 0),(.slice none 0 0),(.slice none 0 0)]) rfl (fun w=>by kernel_rfl)) fun a hf=>?_)))))
 refine sB 0 hf H TF.sz30 fun w H=>?_
 refine pz 1 hf fun a hf=>?_
 refine wer ?_
 have H:=H.ownNil (ByteArray)
 have H:=H.lend 0 rfl
 have H:=H.ownNil (Fiber)
 have H:=H.lend 0 rfl
 have H:=H.ownNil (Light)
 have H:=H.lend 0 rfl
 have H:=H.frontD 1 rfl
 have H:=H.frontD 2 rfl
 obtain rfl:=oi hF
 refine vL hf rfl (um hf H 0 TF.la30 rfl rfl rfl) (uE hf rfl) ?_
 have hN:=H.ends3
 exact ⟨_,rfl,H.bel,([]++([]++[])),_,_,rfl,⟨_,vB (x:=({ Network:=({ Nodes:=[],Fibers:=[] }:Network),Lights:=[] }:Plan)) (H.ownAt 0 rfl) (H.ownAt 1 rfl) (H.ownAt 2 rfl),rfl⟩,uk,by first | exact hN | simpa using hN⟩
 refine sqz (pz 2 hf fun a hf=>?_)
 refine ub (ua (ib hF hf (fun hc5 hF=>?_) fun hc5 hF=>?_))
 refine sq (reg (lN 2 hf H TF.la30 fun a hf=>?_))
 refine pz 2 hf fun a hf=>?_
 refine lB 1 hf H TF.ls3 fun a hf=>?_
 refine pz 2 hf fun a hf=>?_
 refine lN 1 hf H TF.la45 fun a hf=>?_
 refine pz 2 hf fun a hf=>?_
 refine lN 1 hf H TF.la47 fun a hf=>?_
 obtain ⟨y5,hy5,hF⟩:=bs_ hF
 refine oc hf TF.glV (gdG (S:=TT) (uj (x:=p) (H.rt 3 rfl) (H.rt 2 rfl) (H.rt 1 rfl)) ug (xk (x:=a'.Light.Route) (H.rt 0 rfl)) zb hy5) fun v9 w a hp9 hf=>?_
 obtain ⟨hb5,F9,v10,v11,rfl,hp10,hp11,hN3⟩:=hp9
 obtain ⟨A12,c13,F10,A13,c14,F11,A14,c15,F12,rfl,rfl,hl12,hl13,hl14⟩:=zH hp10
 obtain rfl:=uo hp11
 have H:=H.aO3 hb5 (by first | exact hN3 | simpa using hN3) hl12 hl13 hl14
 have H:=H.lend 0 rfl
 have H:=H.lend 1 rfl
 have H:=H.lend 2 rfl
 refine pz 2 hf fun a hf=>?_
 refine sB 0 hf H TF.sz30 fun w H=>?_
 refine pz 1 hf fun a hf=>?_
 have hf:=hf.pn [4,5]
 refine ub (ua (wp_ret (u9 (uf (?_)))))
 have H:=H.frontD 2 rfl
 have H:=H.frontD 2 rfl
 have H:=H.frontD 2 rfl
 obtain rfl:=oi hF
 refine vL hf rfl (um hf H 0 TF.la30 rfl rfl rfl) (uE hf rfl) ?_
 have hN:=H.ends3
 exact ⟨_,rfl,H.bel,(F10++(F11++F12)),_,_,rfl,⟨_,vB (x:=y5.1) (H.ownAt 0 rfl) (H.ownAt 1 rfl) (H.ownAt 2 rfl),rfl⟩,uk,by first | exact hN | simpa using hN⟩
 refine wp_skip (uV (ua (sq (reg (oq hf (uA hf (cs:=[(.slice none 0 0),(.slice none 0 0),(.slice none 0 0)]) rfl (fun w=>by kernel_rfl)) fun a hf=>?_)))))
 refine sB 0 hf H TF.sz30 fun w H=>?_
 refine pz 1 hf fun a hf=>?_
 have hf:=hf.pn [4,5]
 refine wer ?_
 have H:=H.ownNil (ByteArray)
 have H:=H.lend 0 rfl
 have H:=H.ownNil (Fiber)
 have H:=H.lend 0 rfl
 have H:=H.ownNil (Light)
 have H:=H.lend 0 rfl
 have H:=H.frontD 1 rfl
 have H:=H.frontD 2 rfl
 obtain rfl:=oi hF
 refine vL hf rfl (um hf H 0 TF.la30 rfl rfl rfl) (uE hf rfl) ?_
 have hN:=H.ends3
 exact ⟨_,rfl,H.bel,([]++([]++[])),_,_,rfl,⟨_,vB (x:=({ Network:=({ Nodes:=[],Fibers:=[] }:Network),Lights:=[] }:Plan)) (H.ownAt 0 rfl) (H.ownAt 1 rfl) (H.ownAt 2 rfl),rfl⟩,uk,by first | exact hN | simpa using hN⟩
theorem gcZ {fu:Nat} {rec_:(Plan)→(List Action)→(Int)→(List (Int×Bool))→Option (List Action×Bool×(List (Int×Bool)))} (ih:∀ {w0:World} {S:Nat→Prop} {v0_:Value} {v1_:Value} {v2_:Value} {bS:Nat} {p:Plan} {list:List Action} {left:Int} {dead:List (Int×Bool)} {r:List Action×Bool×(List (Int×Bool))} (h0:VR w0 S v0_ p) (h1:VR w0 S v1_ list) (h2:VR w0 S v2_ left) (hO:(MP.map Tryz.prog 3 4 bS dead).pred w0 (·∈[bS])) (hSm:∀ c∈[bS],¬S c) (hF:rec_ p list left dead=some r),Calls Tryz.prog 100 [v0_,v1_,v2_,(.map (some bS))].toArray w0 fun e w'=>∃ v,e=.returned v∧(Chg w0 w' [bS]∧(MP.map Tryz.prog 3 4 bS r.2.2).pred w' (·∈[bS])∧∃ u0 u1,v=.tuple #[u0,u1]∧VR w' (St ⟨w0,[bS]⟩ S [] [] [⟨[bS],MP.map Tryz.prog 3 4 bS r.2.2⟩] false) u0 r.1∧VR w' (St ⟨w0,[bS]⟩ S [] [] [⟨[bS],MP.map Tryz.prog 3 4 bS r.2.2⟩] false) u1 r.2.1)) {w0:World} {S:Nat→Prop} {v0_:Value} {v1_:Value} {v2_:Value} {bS:Nat} {p:Plan} {list:List Action} {left:Int} {dead:List (Int×Bool)} {r:List Action×Bool×(List (Int×Bool))} (h0:VR w0 S v0_ p) (h1:VR w0 S v1_ list) (h2:VR w0 S v2_ left) (hO:(MP.map Tryz.prog 3 4 bS dead).pred w0 (·∈[bS])) (hSm:∀ c∈[bS],¬S c) (hF:zy fu rec_ p list left dead=some r) :
    Calls Tryz.prog 100 [v0_,v1_,v2_,(.map (some bS))].toArray w0 fun e w'=>∃ v,e=.returned v∧(Chg w0 w' [bS]∧(MP.map Tryz.prog 3 4 bS r.2.2).pred w' (·∈[bS])∧∃ u0 u1,v=.tuple #[u0,u1]∧VR w' (St ⟨w0,[bS]⟩ S [] [] [⟨[bS],MP.map Tryz.prog 3 4 bS r.2.2⟩] false) u0 r.1∧VR w' (St ⟨w0,[bS]⟩ S [] [] [⟨[bS],MP.map Tryz.prog 3 4 bS r.2.2⟩] false) u1 r.2.1):=by
 obtain ⟨A,c,A2,c2,A3,c3,rfl,hl,hl2,hl3⟩:=uD h0
 obtain ⟨A4,c4,rfl,hl4⟩:=u4 h1
 obtain rfl:=uv h2
 have H:=Mem.startMap S hO
 have H:=H.argB hSm (p:=MP.val [(.slice A p.Network.Nodes.length c)] p.Network.Nodes) hl
 have H:=H.argB hSm (p:=MP.val [(.slice A2 p.Network.Fibers.length c2)] p.Network.Fibers) hl2
 have H:=H.argB hSm (p:=MP.val [(.slice A3 p.Lights.length c3)] p.Lights) hl3
 have H:=H.argB hSm (p:=MP.val [(.slice A4 list.length c4)] list) hl4
 refine en Tryz.func100 fun a hf=>?_
 rw [zy] at hF
 refine bx hf H fun b' a w hf H=>?_
 refine pz 2 hf fun a hf=>?_
 refine we (sqz (pz 2 hf fun a hf=>?_))
 refine ub (ua (ib hF hf (fun hc hF=>?_) fun hc hF=>?_))
 refine sq (reg (wl0 rfl (zv hf H (.ow []) rfl 148 ([]:List Action) [] rfl (fun w=>by kernel_rfl) rfl (by decide) rfl rfl (fun i x h=>by simp at h) (by decide) fun A5 a w hf H=>?_)))
 refine pz 2 hf fun a hf=>?_
 refine ub (ua (wp_ret (uf (?_))))
 have H:=H.freeze 0 rfl
 obtain rfl:=oi hF
 refine vL hf rfl (uE hf rfl) (uE hf rfl) ?_
 exact ⟨_,rfl,H.chg,H.diFront,_,_,rfl,(uB (gd6 (α:=List Action) (H.get 0 rfl))),uk⟩
 refine wp_skip (ua (sq (sqz (pz 2 hf fun a hf=>?_))))
 obtain ⟨b2,hb2,hF⟩:=bs_ hF
 refine oq hf (ghY hf H Tryz.underlying141 Tryz.underlying3 Tryz.underlying4 TF.zv4 0 rfl rfl rfl hb2) fun a hf=>?_
 refine ub (ua (ib hF hf (fun hc2 hF=>?_) fun hc2 hF=>?_))
 refine sqz (pz 2 hf fun a hf=>?_)
 refine ub (ua (wp_ret (uf (?_))))
 have H:=H.pushNil (Action) true
 obtain rfl:=oi hF
 refine vL hf rfl (uE hf rfl) (uE hf rfl) ?_
 exact ⟨_,rfl,H.chg,H.diFront,_,_,rfl,(uB (gd6 (α:=List Action) (H.get 0 rfl))),uk⟩
 refine wp_skip (ua (sq (sqz (pz 3 hf fun a hf=>?_))))
 refine ub (ua ?_)
 obtain ⟨out',hB1,hF⟩:=bs_ hF
 have hf:=hf.pn [1,2,3,4,22,23,24]
 have H:=H.lm 1 0 1 4 15
 refine vU (fun (s:Int×(List (Int×Bool))) (a:Act) (w:World)=>match s with | (i,dead2)=>Fr a 61 [(1,(.slice A4 list.length c4)),(2,(.int .i64 left)),(3,(.map (some bS))),(4,(.pointer (some ⟨b',0,none⟩))),(22,(.slice A4 list.length c4)),(23,(.int .i64 (list.length:Int))),(24,(.int .i64 i))]∧Mem ⟨w0,[bS]⟩ S [⟨b',30,[(.slice A p.Network.Nodes.length c),(.slice A2 p.Network.Fibers.length c2),(.slice A3 p.Lights.length c3)]⟩] [] [⟨[bS],MP.map Tryz.prog 3 4 bS (dead2:List (Int×Bool))⟩] [(false,MP.val [(.slice A4 list.length c4)] (list:List Action)),(false,MP.val [(.slice A3 p.Lights.length c3)] (p.Lights:List Light)),(false,MP.val [(.slice A2 p.Network.Fibers.length c2)] (p.Network.Fibers:List Fiber)),(false,MP.val [(.slice A p.Network.Nodes.length c)] (p.Network.Nodes:List ByteArray))] w) (fun k (s:Int×(List (Int×Bool)))=>vF fu p list left rec_ k s.1 s.2=some out') (fun s=>out'=Out.next s) (0,dead) fu hB1 ⟨hf,H⟩ (fun s h=>by cases h) ?_ ?_
 rintro fk ⟨i,dead2⟩ a w hR1 hI
 replace hR1:vF fu p list left rec_ (fk + 1) i dead2=some out':=hR1
 rw [vF] at hR1
 obtain ⟨hf,H⟩:=hI
 refine sqz (pz 1 hf fun a hf=>?_)
 refine ub (ua (sq (ib hR1 hf (fun hc3 hR1=>?_) fun hc3 hR1=>?_)))
 refine ws (pz 1 hf fun a hf=>?_)
 obtain ⟨e,he,hR1⟩:=bs_ hR1
 obtain ⟨p2,o,cs,hx,hr,hcl⟩:=ge0 Tryz.underlying70 TF.gce hl4 he
 refine oq hf (uu hf rfl rfl rfl hx w) fun a hf=>?_
 obtain ⟨A6,c5,rfl,hl5⟩:=zI hr
 have H:=H.argB hSm (p:=MP.cells ⟨p2,o,none⟩ [(.int .i64 e.Kind),(.int .i64 e.Light.Id),(.int .i64 e.Light.Route.Start),(.slice A6 e.Light.Route.Fibers.length c5),(.int .i64 e.Light.Block.First),(.int .i64 e.Light.Block.Count)]) hcl
 have H:=H.argB hSm (p:=MP.val [(.slice A6 e.Light.Route.Fibers.length c5)] e.Light.Route.Fibers) hl5
 refine oq hf (uz hf H TF.gck 1 0 rfl rfl rfl rfl) fun a hf=>?_
 refine aL hf H TF.ghG fun b3 a w hf H=>?_
 refine pz 1 hf fun a hf=>?_
 refine sB 0 hf H TF.gce fun w H=>?_
 refine we (sqz (pz 2 hf fun a hf=>?_))
 obtain ⟨q,hq,hR1⟩:=bs_ hR1
 refine oq hf (gjO hf rfl rfl hq) fun a hf=>?_
 refine pz 2 hf fun a hf=>?_
 refine ub (ua (ib hR1 hf (fun hc4 hR1=>?_) fun hc4 hR1=>?_))
 refine wp_exit (uy (vJ (?_)))
 refine ua (reg (pz 2 hf fun a hf=>?_))
 refine ub ?_
 have hf:=hf.pn [1,2,3,4,22,23,24]
 have H:=H.lm 2 0 1 6 60
 exact ua ⟨(w64 (i + 1),dead2),hR1,hf,H⟩
 refine wp_skip (ua (sq (reg (lN 1 hf H TF.la30 fun a hf=>?_))))
 refine lN 0 hf H TF.gck fun a hf=>?_
 obtain ⟨y,hy,hR1⟩:=bs_ hR1
 refine oc hf TF.glq (gbz (S:=TT) (uj (x:=p) (H.rt 5 rfl) (H.rt 4 rfl) (H.rt 3 rfl)) (gaE (x:=e) (H.rt 0 rfl)) hy) fun v w a hp hf=>?_
 obtain ⟨hb,F,v2,v3,rfl,hp2,hp3,hN⟩:=hp
 obtain ⟨A7,c6,F2,A8,c7,F3,A9,c8,F4,rfl,rfl,hl6,hl7,hl8⟩:=zH hp2
 obtain rfl:=uo hp3
 have H:=H.aO3 hb (by first | exact hN | simpa using hN) hl6 hl7 hl8
 have H:=H.lend 0 rfl
 have H:=H.lend 1 rfl
 have H:=H.lend 2 rfl
 refine pz 3 hf fun a hf=>?_
 refine aL hf H TF.zv30 fun b4 a w hf H=>?_
 refine sB 0 hf H TF.sz30 fun w H=>?_
 refine pz 1 hf fun a hf=>?_
 have hf:=hf.pn [1,2,3,4,10,11,12,13,22,23,24]
 refine we (sqz (pz 2 hf fun a hf=>?_))
 refine ub (ua (ib hR1 hf (fun hc5 hR1=>?_) fun hc5 hR1=>?_))
 refine wp_exit (uy (vJ (?_)))
 refine ua (reg (pz 2 hf fun a hf=>?_))
 refine ub ?_
 have hf:=hf.pn [1,2,3,4,22,23,24]
 have H:=H.lm 4 0 8 9 480
 exact ua ⟨(w64 (i + 1),dead2),hR1,hf,H⟩
 refine wp_skip (ua (sq (dw [7] 13 fun w hb=>?_)))
 have H:=H.keep hb
 refine strT (H.lk 1 0 0 []) (fun w H=>trivial) fun hS=>?_
 refine zS 0 [0,7,8,9,10,11,12] rfl rfl rfl rfl hf hS (fun w H=>ul hf H TF.la30 0 rfl rfl rfl rfl) fun a hf=>?_
 refine zp 1 hf hS fun a hf=>?_
 refine zp 2 hf hS fun a hf=>?_
 refine zp 3 hf hS fun a hf=>?_
 obtain ⟨q2,hq2,hR1⟩:=bs_ hR1
 refine zP 4 rfl rfl rfl rfl hf hS (fun w=>gbI hf rfl rfl hq2) fun a hf=>?_
 refine zp 5 hf hS fun a hf=>?_
 refine zp 6 hf hS fun a hf=>?_
 have H:=H.frontD 3 rfl
 obtain ⟨y2,hy2,hR1⟩:=bs_ hR1
 refine nn 7 rfl (oC hf TF.glu (ih (uj (x:=y.1) (H.ownS 0 rfl) (H.ownS 1 rfl) (H.ownS 2 rfl)) (uB (H.argS hSm (α:=List Action) hl4)) ug H.diFront (fun _ h1 h2=>h2.1 h1) hy2) fun v4 w a hp4 hf=>?_)
 obtain ⟨hch,ho,hp4⟩:=hp4
 obtain ⟨v5,v6,rfl,hp5,hp6⟩:=hp4
 obtain ⟨A10,c9,rfl,hl9⟩:=u4 hp5
 replace hl9:=GoTy.mono (α:=List Action) hl9 (H.movesD (d':=(⟨[bS],MP.map Tryz.prog 3 4 bS (y2.2.2:List (Int×Bool))⟩:DI)))
 obtain rfl:=uo hp6
 have H:=H.wroteMap rfl hch ho
 have H:=H.argB hSm (p:=MP.val [(.slice A p.Network.Nodes.length c)] p.Network.Nodes) hl
 have H:=H.argB hSm (p:=MP.val [(.slice A2 p.Network.Fibers.length c2)] p.Network.Fibers) hl2
 have H:=H.argB hSm (p:=MP.val [(.slice A3 p.Lights.length c3)] p.Lights) hl3
 have H:=H.argB hSm (p:=MP.val [(.slice A4 list.length c4)] list) hl4
 have H:=H.argB hSm (p:=MP.cells ⟨p2,o,none⟩ [(.int .i64 e.Kind),(.int .i64 e.Light.Id),(.int .i64 e.Light.Route.Start),(.slice A6 e.Light.Route.Fibers.length c5),(.int .i64 e.Light.Block.First),(.int .i64 e.Light.Block.Count)]) hcl
 have H:=H.argB hSm (p:=MP.val [(.slice A6 e.Light.Route.Fibers.length c5)] e.Light.Route.Fibers) hl5
 have H:=H.lend 1 rfl
 have H:=H.lend 2 rfl
 have H:=H.lend 3 rfl
 have H:=H.pF hl9
 refine ⟨fun h=>absurd h (by decide),?_⟩
 refine tp 8 rfl rfl hf (by kernel_rfl) (fun h=>absurd h (by decide)) rfl fun a hf=>?_
 refine tp 9 rfl rfl hf (by kernel_rfl) (fun h=>absurd h (by decide)) rfl fun a hf=>?_
 refine tp 10 rfl rfl hf (by kernel_rfl) (fun h=>absurd h (by decide)) rfl fun a hf=>?_
 refine tp 11 rfl rfl hf (by kernel_rfl) (fun h=>absurd h (by decide)) rfl fun a hf=>?_
 refine tp 12 rfl rfl hf (by kernel_rfl) (fun h=>absurd h (by decide)) rfl fun a hf=>?_
 refine dk ?_
 have hf:=hf.pn [1,2,3,4,11,14,15,22,23,24]
 refine ua (sqz (pz 1 hf fun a hf=>?_))
 refine ub (ua (ib hR1 hf (fun hc6 hR1=>?_) fun hc6 hR1=>?_))
 refine sq (reg (lN 1 hf H TF.gck fun a hf=>?_))
 refine wl0 rfl (zv hf H (.sh false) rfl 148 ([e]:List Action) [(.int .i64 e.Kind),(.int .i64 e.Light.Id),(.int .i64 e.Light.Route.Start),(.slice A6 e.Light.Route.Fibers.length c5),(.int .i64 e.Light.Block.First),(.int .i64 e.Light.Block.Count)] rfl (fun w=>by kernel_rfl) rfl (by decide) rfl trivial (el1 (y:=e) ((gbW (x:=e) (H.get 4 rfl)))) (by decide) fun A11 a w hf H=>?_)
 refine pz 1 hf fun a hf=>?_
 obtain ⟨l,hl_,hR1⟩:=bs_ hR1
 refine wl0 rfl (xH hf H Tryz.underlying70 TF.gdr rfl (by decide) 0 0 rfl rfl rfl rfl (.inl rfl) hl_ (by decide) fun E A12 c10 a w hf H=>?_)
 refine pz 2 hf fun a hf=>?_
 have hf:=hf.pn [8,9]
 refine ub (ua (wp_ret (u9 (uf (uf (u9 (uf (uf (?_)))))))))
 have H:=H.freeze 0 rfl
 obtain rfl:=oi hR1
 replace hF:=xc hF
 obtain rfl:=oi hF
 refine vL hf rfl (uE hf rfl) (uE hf rfl) ?_
 exact ⟨_,rfl,H.chg,H.diFront,_,_,rfl,(uB (gd6 (α:=List Action) (H.get 0 rfl))),uk⟩
 refine wp_skip (uV (ua (reg (pz 2 hf fun a hf=>?_))))
 refine ub ?_
 have hf:=hf.pn [1,2,3,4,22,23,24]
 have H:=H.lm 4 0 1 10 960
 exact ua ⟨(w64 (i + 1),y2.2.2),hR1,hf,H⟩
 refine wp_exit (uy (uy (vJ (?_))))
 have hf:=hf.pn [1,2,3,4,22,23,24]
 have H:=H.lm 1 0 1 4 15
 exact ⟨(i,dead2),(Option.some.inj hR1).symm,hf,H⟩
 rintro a w ⟨⟨i2,dead3⟩,rfl,hf,H⟩
 replace hF:=vG hF
 try dsimp only at hF
 refine ua (sqz (pz 2 hf fun a hf=>?_))
 obtain ⟨m,hm,hF⟩:=bs_ hF
 refine wl0 rfl (gfS hf H Tryz.underlying141 Tryz.underlying3 Tryz.underlying4 rfl rfl rfl rfl rfl hm fun w H=>?_)
 have H:Mem ⟨w0,[bS]⟩ S [⟨b',30,[(.slice A p.Network.Nodes.length c),(.slice A2 p.Network.Fibers.length c2),(.slice A3 p.Lights.length c3)]⟩] [] [⟨[bS],MP.map Tryz.prog 3 4 bS (m:List (Int×Bool))⟩] [] w:=H
 have H:=H.argB hSm (p:=MP.val [(.slice A p.Network.Nodes.length c)] p.Network.Nodes) hl
 have H:=H.argB hSm (p:=MP.val [(.slice A2 p.Network.Fibers.length c2)] p.Network.Fibers) hl2
 have H:=H.argB hSm (p:=MP.val [(.slice A3 p.Lights.length c3)] p.Lights) hl3
 have H:=H.argB hSm (p:=MP.val [(.slice A4 list.length c4)] list) hl4
 refine wr (pz 2 hf fun a hf=>?_)
 refine wer ?_
 have H:=H.pushNil (Action) true
 obtain rfl:=oi hF
 refine vL hf rfl (uE hf rfl) (uE hf rfl) ?_
 exact ⟨_,rfl,H.chg,H.diFront,_,_,rfl,(uB (gd6 (α:=List Action) (H.get 0 rfl))),uk⟩
theorem gdE {fu:Nat}:∀ {w0:World} {S:Nat→Prop} {v0_:Value} {v1_:Value} {v2_:Value} {bS:Nat} {p:Plan} {list:List Action} {left:Int} {dead:List (Int×Bool)} {r:List Action×Bool×(List (Int×Bool))} (h0:VR w0 S v0_ p) (h1:VR w0 S v1_ list) (h2:VR w0 S v2_ left) (hO:(MP.map Tryz.prog 3 4 bS dead).pred w0 (·∈[bS])) (hSm:∀ c∈[bS],¬S c) (hF:xm fu p list left dead=some r),Calls Tryz.prog 100 [v0_,v1_,v2_,(.map (some bS))].toArray w0 fun e w'=>∃ v,e=.returned v∧(Chg w0 w' [bS]∧(MP.map Tryz.prog 3 4 bS r.2.2).pred w' (·∈[bS])∧∃ u0 u1,v=.tuple #[u0,u1]∧VR w' (St ⟨w0,[bS]⟩ S [] [] [⟨[bS],MP.map Tryz.prog 3 4 bS r.2.2⟩] false) u0 r.1∧VR w' (St ⟨w0,[bS]⟩ S [] [] [⟨[bS],MP.map Tryz.prog 3 4 bS r.2.2⟩] false) u1 r.2.1):=by
 induction fu with
 | zero=>intro w0 S v0_ v1_ v2_ bS p list left dead r h0 h1 h2 hO hSm hF; rw [xm] at hF; cases hF
 | succ fu ih=>intro w0 S v0_ v1_ v2_ bS p list left dead r h0 h1 h2 hO hSm hF; rw [xm] at hF; exact gcZ (rec_:=fun p list left dead=>xm fu p list left dead) (fun h0 h1 h2 hO hSm hF=>ih h0 h1 h2 hO hSm hF) h0 h1 h2 hO hSm hF
theorem gdF {S:Nat→Prop} {v0_:Value} {v1_:Value} {p:Plan} {q:Plan} {r:List Action×Bool} (h0:VR w0 S v0_ p) (h1:VR w0 S v1_ q) (hF:gaI fu p q=some r) :
    Calls Tryz.prog 29 [v0_,v1_].toArray w0 fun e w'=>∃ v,e=.returned v∧(Below w0.heap.size w0 w'∧∃ u0 u1,v=.tuple #[u0,u1]∧VR w' (St ⟨w0,[]⟩ S [] [] [] false) u0 r.1∧VR w' (St ⟨w0,[]⟩ S [] [] [] true) u1 r.2):=by
 obtain ⟨A,c,A2,c2,A3,c3,rfl,hl,hl2,hl3⟩:=uD h0
 obtain ⟨A4,c4,A5,c5,A6,c6,rfl,hl4,hl5,hl6⟩:=uD h1
 have H:=Mem.start ⟨w0,[]⟩ S
 have H:=H.pA hl
 have H:=H.pA hl2
 have H:=H.pA hl3
 have H:=H.pA hl4
 have H:=H.pA hl5
 have H:=H.pA hl6
 refine en Tryz.func29 fun a hf=>?_
 rw [gaI] at hF
 refine bx hf H fun b' a w hf H=>?_
 refine wl0 rfl (xl hf H rfl rfl (by decide) fun b2 a w hf H=>?_)
 refine pz 2 hf fun a hf=>?_
 refine wr (lN 1 hf H TF.la30 fun a hf=>?_)
 refine lN 0 hf H TF.la30 fun a hf=>?_
 obtain ⟨y,hy,hF⟩:=bs_ hF
 refine oc hf TF.cl31 (gau (S:=TT) (uj (x:=p) (H.rt 5 rfl) (H.rt 4 rfl) (H.rt 3 rfl)) (uj (x:=q) (H.rt 2 rfl) (H.rt 1 rfl) (H.rt 0 rfl)) hy) fun v w a hp hf=>?_
 obtain ⟨hb,F,v2,v3,rfl,hp2,hp3,hN⟩:=hp
 obtain ⟨A7,c7,rfl,hl7⟩:=xP hp2
 obtain rfl:=uo hp3
 have H:=H.aO1 hb hN hl7
 have H:=H.lend 0 rfl
 refine pz 5 hf fun a hf=>?_
 refine we (sqz (pz 2 hf fun a hf=>?_))
 have hf:=hf.pn [2,6,15]
 refine ub (ua (ib hF hf (fun hc hF=>?_) fun hc hF=>?_))
 refine sqz (pz 2 hf fun a hf=>?_)
 refine ub (ua (wp_ret (uf (?_))))
 have H:=H.pushNil (Action) true
 obtain rfl:=oi hF
 refine vL hf rfl (uE hf rfl) (uE hf rfl) ?_
 exact ⟨_,rfl,H.bel,_,_,rfl,(uB (gje (α:=List Action) (H.get 0 rfl))),uk⟩
 refine wp_skip (ua (sq (dw [7] 12 fun w hb=>?_)))
 have H:=H.keep hb
 refine strT (H.lk 2 0 0 []) (fun w H=>trivial) fun hS=>?_
 refine zS 0 [0,7,8,9,10,11] rfl rfl rfl rfl hf hS (fun w H=>ul hf H TF.la30 0 rfl rfl rfl rfl) fun a hf=>?_
 refine zp 1 hf hS fun a hf=>?_
 refine zp 2 hf hS fun a hf=>?_
 refine zp 3 hf hS fun a hf=>?_
 obtain ⟨q2,hq2,hF⟩:=bs_ hF
 refine zP 4 rfl rfl rfl rfl hf hS (fun w=>gbI hf rfl rfl hq2) fun a hf=>?_
 refine zp 5 hf hS fun a hf=>?_
 refine nn 6 rfl (ghh (tk:=3) (te:=4) hf H (by decide) fun b3 a w hf H=>?_)
 have hS:=H.lk 2 0 0 []
 refine aS hS ?_
 obtain ⟨y2,hy2,hF⟩:=bs_ hF
 refine nn 7 rfl (oC hf TF.glu (gdE (uj (x:=p) (H.argS (fun _ h=>by cases h) (α:=List ByteArray) hl) (H.argS (fun _ h=>by cases h) (α:=List Fiber) hl2) (H.argS (fun _ h=>by cases h) (α:=List Light) hl3)) (uB (H.ownS 0 rfl)) ug H.diFront (fun _ h1 h2=>h2.1 h1) hy2) fun v4 w a hp4 hf=>?_)
 obtain ⟨hch,ho,hp4⟩:=hp4
 obtain ⟨v5,v6,rfl,hp5,hp6⟩:=hp4
 obtain ⟨A8,c8,rfl,hl8⟩:=u4 hp5
 replace hl8:=GoTy.mono (α:=List Action) hl8 (H.movesD (d':=(⟨[b3],MP.map Tryz.prog 3 4 b3 (y2.2.2:List (Int×Bool))⟩:DI)))
 obtain rfl:=uo hp6
 have H:=H.wroteMap rfl hch ho
 have H:=H.pA hl
 have H:=H.pA hl2
 have H:=H.pA hl3
 have H:=H.pA hl4
 have H:=H.pA hl5
 have H:=H.pA hl6
 have H:=H.lend 1 rfl
 have H:=H.pF hl8
 refine ⟨fun h=>absurd h (by decide),?_⟩
 refine tp 8 rfl rfl hf (by kernel_rfl) (fun h=>absurd h (by decide)) rfl fun a hf=>?_
 refine tp 9 rfl rfl hf (by kernel_rfl) (fun h=>absurd h (by decide)) rfl fun a hf=>?_
 refine tp 10 rfl rfl hf (by kernel_rfl) (fun h=>absurd h (by decide)) rfl fun a hf=>?_
 refine tp 11 rfl rfl hf (by kernel_rfl) (fun h=>absurd h (by decide)) rfl fun a hf=>?_
 refine dk ?_
 have hf:=hf.pn [4,5]
 refine ua (wp_ret (?_))
 obtain rfl:=oi hF
 refine vL hf rfl (uE hf rfl) (uE hf rfl) ?_
 exact ⟨_,rfl,H.bel,_,_,rfl,(uB (vt (α:=List Action) (H.get 0 rfl))),uk⟩
theorem geF {S:Nat→Prop} {v0_:Value} {v1_:Value} {p:Plan} {q:Plan} {r:Bool} (h0:VR w0 S v0_ p) (h1:VR w0 S v1_ q) (hF:gbY fu p q=some r) :
    Calls Tryz.prog 200 [v0_,v1_].toArray w0 fun e w'=>∃ v,e=.returned v∧(Below w0.heap.size w0 w'∧VR w' (St ⟨w0,[]⟩ S [] [] [] true) v r):=by
 obtain ⟨A,c,A2,c2,A3,c3,rfl,hl,hl2,hl3⟩:=uD h0
 obtain ⟨A4,c4,A5,c5,A6,c6,rfl,hl4,hl5,hl6⟩:=uD h1
 have H:=Mem.start ⟨w0,[]⟩ S
 have H:=H.pA hl
 have H:=H.pA hl2
 have H:=H.pA hl3
 have H:=H.pA hl4
 have H:=H.pA hl5
 have H:=H.pA hl6
 refine en Tryz.func200 fun a hf=>?_
 rw [gbY] at hF
 refine bx hf H fun b' a w hf H=>?_
 refine wl0 rfl (xl hf H rfl rfl (by decide) fun b2 a w hf H=>?_)
 refine pz 1 hf fun a hf=>?_
 refine ub (ua (sq (sq ?_)))
 obtain ⟨c7,hGc7,hF⟩:=bs_ hF
 have fh:=hf.prune [2,3] rfl
 have Hm:=H.lm 3 0 0 6 63
 refine midF 36 (.bool c7) fh Hm ?_ fun a w hf H=>?_
 refine reg (pz 1 hf fun a hf=>?_)
 refine lB 1 hf H TF.ls28 fun a hf=>?_
 refine pz 2 hf fun a hf=>?_
 refine lB 0 hf H TF.ls28 fun a hf=>?_
 refine pz 3 hf fun a hf=>?_
 refine iteB hGc7 (fun hc hGc7=>?_) fun hc hGc7=>?_
 have hf:=hf.lit 15 rfl hc
 refine pz 21 hf fun a hf=>?_
 obtain rfl:=oi hGc7
 have hf:=hf.pn [36,2,3]
 have H:=H.lm 3 0 0 6 63
 exact ub ⟨hf,H⟩
 have hf:=hf.lit 15 rfl hc
 refine pz 2 hf fun a hf=>?_
 refine wlg hf rfl rfl rfl (op_q hf (ue hf H TF.ls24 1 rfl rfl rfl) rfl (by decide) fun a hf=>?_)
 refine pz 3 hf fun a hf=>?_
 refine wlg hf rfl rfl rfl (op_q hf (ue hf H TF.ls24 0 rfl rfl rfl) rfl (by decide) fun a hf=>?_)
 refine pz 4 hf fun a hf=>?_
 refine iteB hGc7 (fun hc2 hGc7=>?_) fun hc2 hGc7=>?_
 have hf:=hf.lit 26 rfl hc2
 refine pz 10 hf fun a hf=>?_
 obtain rfl:=oi hGc7
 have hf:=hf.pn [36,2,3]
 have H:=H.lm 3 0 0 6 63
 exact ub ⟨hf,H⟩
 have hf:=hf.lit 26 rfl hc2
 refine pz 2 hf fun a hf=>?_
 refine wlg hf rfl rfl rfl (op_q hf (ue hf H TF.ls25 1 rfl rfl rfl) rfl (by decide) fun a hf=>?_)
 refine pz 3 hf fun a hf=>?_
 refine wlg hf rfl rfl rfl (op_q hf (ue hf H TF.ls25 0 rfl rfl rfl) rfl (by decide) fun a hf=>?_)
 refine pz 3 hf fun a hf=>?_
 obtain rfl:=oi hGc7
 have hf:=hf.pn [36,2,3]
 have H:=H.lm 3 0 0 6 63
 exact ub ⟨hf,H⟩
 refine ua (ib hF hf (fun hc3 hF=>?_) fun hc3 hF=>?_)
 refine sqz (pz 1 hf fun a hf=>?_)
 refine ub (ua (wp_ret (uf (?_))))
 obtain rfl:=oi hF
 refine rT hf ?_
 exact ⟨_,rfl,H.bel,uk⟩
 refine wp_skip (ua (sq (sqz (pz 1 hf fun a hf=>?_))))
 refine ub (ua ?_)
 obtain ⟨out',hB1,hF⟩:=bs_ hF
 have hf:=hf.pn [2,3,5]
 have H:=H.lm 3 0 0 6 63
 refine vU (fun (s:Int) (a:Act) (w:World)=>match s with | i=>Fr a 130 [(2,(.pointer (some ⟨b',0,none⟩))),(3,(.pointer (some ⟨b2,0,none⟩))),(5,(.int .i64 i))]∧Mem ⟨w0,[]⟩ S [⟨b2,30,[(.slice A4 q.Network.Nodes.length c4),(.slice A5 q.Network.Fibers.length c5),(.slice A6 q.Lights.length c6)]⟩,⟨b',30,[(.slice A p.Network.Nodes.length c),(.slice A2 p.Network.Fibers.length c2),(.slice A3 p.Lights.length c3)]⟩] [] [] [(false,MP.val [(.slice A6 q.Lights.length c6)] (q.Lights:List Light)),(false,MP.val [(.slice A5 q.Network.Fibers.length c5)] (q.Network.Fibers:List Fiber)),(false,MP.val [(.slice A4 q.Network.Nodes.length c4)] (q.Network.Nodes:List ByteArray)),(false,MP.val [(.slice A3 p.Lights.length c3)] (p.Lights:List Light)),(false,MP.val [(.slice A2 p.Network.Fibers.length c2)] (p.Network.Fibers:List Fiber)),(false,MP.val [(.slice A p.Network.Nodes.length c)] (p.Network.Nodes:List ByteArray))] w) (fun k (s:Int)=>xZ fu p q k s=some out') (fun s=>out'=Out.next s) 0 fu hB1 ⟨hf,H⟩ (fun s h=>by cases h) ?_ ?_
 rintro fk i a w hR1 hI
 replace hR1:xZ fu p q (fk + 1) i=some out':=hR1
 rw [xZ] at hR1
 obtain ⟨hf,H⟩:=hI
 refine sq (sqz (pz 3 hf fun a hf=>?_))
 refine lB 1 hf H TF.ls24 fun a hf=>?_
 refine pz 2 hf fun a hf=>?_
 refine ub (ua (ib hR1 hf (fun hc4 hR1=>?_) fun hc4 hR1=>?_))
 refine wp_skip (ua (sq (wp_block (sq (dw [] 13 fun w hb=>?_)))))
 have H:=H.keep hb
 refine zp 0 hf trivial fun a hf=>?_
 refine zp 1 hf trivial fun a hf=>?_
 refine strT (H.lk 2 0 0 []) (fun w H=>trivial) fun hS=>?_
 refine zS 2 [] rfl rfl rfl rfl hf hS (fun w H=>ue hf H TF.ls24 0 rfl rfl rfl) fun a hf=>?_
 refine zp 3 hf hS fun a hf=>?_
 obtain ⟨e,he,hR1⟩:=bs_ hR1
 obtain ⟨p2,o,cs,hx,hr,H⟩:=ux H Tryz.underlying24 TF.sz9 5 rfl he
 refine zP 4 rfl rfl rfl rfl hf hS (fun w=>uu hf rfl rfl rfl hx w) fun a hf=>?_
 obtain rfl:=hr
 refine strT (H.lk 2 0 0 [0]) (fun w H=>H.lk 1 0 0 []) fun hS=>?_
 refine zS 5 [] rfl rfl rfl rfl hf hS (fun w H=>uI hf H TF.ls9 0 0 rfl rfl rfl) fun a hf=>?_
 refine zp 6 hf hS fun a hf=>?_
 refine zp 7 hf hS fun a hf=>?_
 refine strT (H.lk 3 0 0 [0]) (fun w H=>H.lk 2 0 0 [0]) fun hS=>?_
 refine zS 8 [] rfl rfl rfl rfl hf hS (fun w H=>ue hf H TF.ls24 0 rfl rfl rfl) fun a hf=>?_
 refine zp 9 hf hS fun a hf=>?_
 obtain ⟨e2,he2,hR1⟩:=bs_ hR1
 obtain ⟨p3,o2,cs2,hx2,hr2,H⟩:=ux H Tryz.underlying24 TF.sz9 3 rfl he2
 refine zP 10 rfl rfl rfl rfl hf hS (fun w=>uu hf rfl rfl rfl hx2 w) fun a hf=>?_
 obtain rfl:=hr2
 refine strT (H.lk 3 0 0 [0,1]) (fun w H=>H.lk 3 0 0 [1]) fun hS=>?_
 refine zS 11 [] rfl rfl rfl rfl hf hS (fun w H=>uI hf H TF.ls9 0 0 rfl rfl rfl) fun a hf=>?_
 refine zp 12 hf hS fun a hf=>?_
 refine dk ?_
 have hf:=hf.pn [2,3,5,57]
 refine ua (ib hR1 hf (fun hc5 hR1=>?_) fun hc5 hR1=>?_)
 refine sqz (pz 1 hf fun a hf=>?_)
 refine ub (ua (wp_ret (u9 (uf (uf (u9 (uf (uf (?_)))))))))
 obtain rfl:=oi hR1
 replace hF:=xc hF
 obtain rfl:=oi hF
 refine rT hf ?_
 exact ⟨_,rfl,H.bel,uk⟩
 refine wp_skip (uV (ua (reg (pz 3 hf fun a hf=>?_))))
 refine ub ?_
 have hf:=hf.pn [2,3,5]
 have H:=H.lm 3 0 0 8 252
 exact ua ⟨w64 (i + 1),hR1,hf,H⟩
 refine wp_exit (uy (uy (vJ (?_))))
 have hf:=hf.pn [2,3,5]
 have H:=H.lm 3 0 0 6 63
 exact ⟨i,(Option.some.inj hR1).symm,hf,H⟩
 rintro a w ⟨i2,rfl,hf,H⟩
 replace hF:=vG hF
 refine ua (sq (sqz (pz 1 hf fun a hf=>?_)))
 refine ub (ua ?_)
 obtain ⟨out2,hB1,hF⟩:=bs_ hF
 have hf:=hf.pn [2,3,6]
 have H:=H.lm 3 0 0 6 63
 refine vU (fun (s:Int) (a:Act) (w:World)=>match s with | i3=>Fr a 130 [(2,(.pointer (some ⟨b',0,none⟩))),(3,(.pointer (some ⟨b2,0,none⟩))),(6,(.int .i64 i3))]∧Mem ⟨w0,[]⟩ S [⟨b2,30,[(.slice A4 q.Network.Nodes.length c4),(.slice A5 q.Network.Fibers.length c5),(.slice A6 q.Lights.length c6)]⟩,⟨b',30,[(.slice A p.Network.Nodes.length c),(.slice A2 p.Network.Fibers.length c2),(.slice A3 p.Lights.length c3)]⟩] [] [] [(false,MP.val [(.slice A6 q.Lights.length c6)] (q.Lights:List Light)),(false,MP.val [(.slice A5 q.Network.Fibers.length c5)] (q.Network.Fibers:List Fiber)),(false,MP.val [(.slice A4 q.Network.Nodes.length c4)] (q.Network.Nodes:List ByteArray)),(false,MP.val [(.slice A3 p.Lights.length c3)] (p.Lights:List Light)),(false,MP.val [(.slice A2 p.Network.Fibers.length c2)] (p.Network.Fibers:List Fiber)),(false,MP.val [(.slice A p.Network.Nodes.length c)] (p.Network.Nodes:List ByteArray))] w) (fun k (s:Int)=>xY fu p q k s=some out2) (fun s=>out2=Out.next s) 0 fu hB1 ⟨hf,H⟩ (fun s h=>by cases h) ?_ ?_
 rintro fk i3 a w hR1 hI
 replace hR1:xY fu p q (fk + 1) i3=some out2:=hR1
 rw [xY] at hR1
 obtain ⟨hf,H⟩:=hI
 refine sq (sqz (pz 3 hf fun a hf=>?_))
 refine lB 1 hf H TF.ls25 fun a hf=>?_
 refine pz 2 hf fun a hf=>?_
 refine ub (ua (ib hR1 hf (fun hc6 hR1=>?_) fun hc6 hR1=>?_))
 refine wp_skip (ua (sq (wp_block (sq (dw [] 13 fun w hb=>?_)))))
 have H:=H.keep hb
 refine zp 0 hf trivial fun a hf=>?_
 refine zp 1 hf trivial fun a hf=>?_
 refine strT (H.lk 2 0 0 []) (fun w H=>trivial) fun hS=>?_
 refine zS 2 [] rfl rfl rfl rfl hf hS (fun w H=>ue hf H TF.ls25 0 rfl rfl rfl) fun a hf=>?_
 refine zp 3 hf hS fun a hf=>?_
 obtain ⟨e3,he3,hR1⟩:=bs_ hR1
 obtain ⟨p4,o3,cs3,hx3,hr3,H⟩:=ux H Tryz.underlying25 TF.zc 4 rfl he3
 refine zP 4 rfl rfl rfl rfl hf hS (fun w=>uu hf rfl rfl rfl hx3 w) fun a hf=>?_
 obtain rfl:=uZ hr3
 refine strT (H.lk 2 0 0 [0]) (fun w H=>H.lk 1 0 0 []) fun hS=>?_
 refine zS 5 [] rfl rfl rfl rfl hf hS (fun w H=>uz hf H TF.gas 0 0 rfl rfl rfl rfl) fun a hf=>?_
 refine zp 6 hf hS fun a hf=>?_
 refine zp 7 hf hS fun a hf=>?_
 refine strT (H.lk 3 0 0 [0]) (fun w H=>H.lk 2 0 0 [0]) fun hS=>?_
 refine zS 8 [] rfl rfl rfl rfl hf hS (fun w H=>ue hf H TF.ls25 0 rfl rfl rfl) fun a hf=>?_
 refine zp 9 hf hS fun a hf=>?_
 obtain ⟨e4,he4,hR1⟩:=bs_ hR1
 obtain ⟨p5,o4,cs4,hx4,hr4,H⟩:=ux H Tryz.underlying25 TF.zc 2 rfl he4
 refine zP 10 rfl rfl rfl rfl hf hS (fun w=>uu hf rfl rfl rfl hx4 w) fun a hf=>?_
 obtain rfl:=uZ hr4
 refine strT (H.lk 3 0 0 [0,1]) (fun w H=>H.lk 3 0 0 [1]) fun hS=>?_
 refine zS 11 [] rfl rfl rfl rfl hf hS (fun w H=>uz hf H TF.gas 0 0 rfl rfl rfl rfl) fun a hf=>?_
 refine zP 12 rfl rfl rfl rfl hf hS (fun w=>ggQ hf TF.ggt ([e3.A,e3.B,e3.Length,e3.Risk]:List Int) ([e4.A,e4.B,e4.Length,e4.Risk]:List Int) rfl rfl rfl rfl rfl rfl) fun a hf=>?_
 refine dk ?_
 have hf:=hf.pn [2,3,6,78]
 refine ua (ib hR1 hf (fun hc7 hR1=>?_) fun hc7 hR1=>?_)
 refine sqz (pz 1 hf fun a hf=>?_)
 refine ub (ua (wp_ret (u9 (uf (uf (u9 (uf (uf (?_)))))))))
 obtain rfl:=oi hR1
 replace hF:=xc hF
 obtain rfl:=oi hF
 refine rT hf ?_
 exact ⟨_,rfl,H.bel,uk⟩
 refine wp_skip (uV (ua (reg (pz 3 hf fun a hf=>?_))))
 refine ub ?_
 have hf:=hf.pn [2,3,6]
 have H:=H.lm 3 0 0 8 252
 exact ua ⟨w64 (i3 + 1),hR1,hf,H⟩
 refine wp_exit (uy (uy (vJ (?_))))
 have hf:=hf.pn [2,3,6]
 have H:=H.lm 3 0 0 6 63
 exact ⟨i3,(Option.some.inj hR1).symm,hf,H⟩
 rintro a w ⟨i4,rfl,hf,H⟩
 replace hF:=vG hF
 refine ua (sq (sqz (pz 1 hf fun a hf=>?_)))
 refine ub (ua ?_)
 obtain ⟨out3,hB1,hF⟩:=bs_ hF
 have hf:=hf.pn [2,3,7]
 have H:=H.lm 3 0 0 6 63
 refine vU (fun (s:Int) (a:Act) (w:World)=>match s with | i5=>Fr a 130 [(2,(.pointer (some ⟨b',0,none⟩))),(3,(.pointer (some ⟨b2,0,none⟩))),(7,(.int .i64 i5))]∧Mem ⟨w0,[]⟩ S [⟨b2,30,[(.slice A4 q.Network.Nodes.length c4),(.slice A5 q.Network.Fibers.length c5),(.slice A6 q.Lights.length c6)]⟩,⟨b',30,[(.slice A p.Network.Nodes.length c),(.slice A2 p.Network.Fibers.length c2),(.slice A3 p.Lights.length c3)]⟩] [] [] [(false,MP.val [(.slice A6 q.Lights.length c6)] (q.Lights:List Light)),(false,MP.val [(.slice A5 q.Network.Fibers.length c5)] (q.Network.Fibers:List Fiber)),(false,MP.val [(.slice A4 q.Network.Nodes.length c4)] (q.Network.Nodes:List ByteArray)),(false,MP.val [(.slice A3 p.Lights.length c3)] (p.Lights:List Light)),(false,MP.val [(.slice A2 p.Network.Fibers.length c2)] (p.Network.Fibers:List Fiber)),(false,MP.val [(.slice A p.Network.Nodes.length c)] (p.Network.Nodes:List ByteArray))] w) (fun k (s:Int)=>yK fu p q k s=some out3) (fun s=>out3=Out.next s) 0 fu hB1 ⟨hf,H⟩ (fun s h=>by cases h) ?_ ?_
 rintro fk i5 a w hR1 hI
 replace hR1:yK fu p q (fk + 1) i5=some out3:=hR1
 rw [yK] at hR1
 obtain ⟨hf,H⟩:=hI
 refine sq (sqz (pz 2 hf fun a hf=>?_))
 refine lB 1 hf H TF.ls28 fun a hf=>?_
 refine pz 2 hf fun a hf=>?_
 refine ub (ua (ib hR1 hf (fun hc8 hR1=>?_) fun hc8 hR1=>?_))
 refine wp_skip (ua (sq (wp_block (sq ?_))))
 obtain ⟨c8,hGc8,hR1⟩:=bs_ hR1
 have fh2:=hf.prune [2,3,7] rfl
 have Hm2:=H.lm 3 0 0 6 63
 refine midF 129 (.bool c8) fh2 Hm2 ?_ fun a w hf H=>?_
 refine dw [] 44 fun w hb=>?_
 have H:=H.keep hb
 refine zp 0 hf trivial fun a hf=>?_
 refine strT (H.lk 2 0 0 []) (fun w H=>trivial) fun hS=>?_
 refine zS 1 [] rfl rfl rfl rfl hf hS (fun w H=>ue hf H TF.ls28 0 rfl rfl rfl) fun a hf=>?_
 refine zp 2 hf hS fun a hf=>?_
 obtain ⟨e5,he5,hGc8⟩:=bs_ hGc8
 obtain ⟨p6,o5,cs5,hx5,hr5,H⟩:=ux H Tryz.underlying28 TF.sz49 3 rfl he5
 refine zP 3 rfl rfl rfl rfl hf hS (fun w=>uu hf rfl rfl rfl hx5 w) fun a hf=>?_
 obtain ⟨A7,c9,rfl,hl7⟩:=uq hr5
 have H:=H.pF hl7
 refine zp 4 hf hS fun a hf=>?_
 refine strT (H.lk 2 0 0 [1]) (fun w H=>H.lk 1 0 0 []) fun hS=>?_
 refine zS 5 [] rfl rfl rfl rfl hf hS (fun w H=>uI hf H TF.ls3 0 0 rfl rfl rfl) fun a hf=>?_
 refine zp 6 hf hS fun a hf=>?_
 refine strT (H.lk 3 0 0 [1]) (fun w H=>H.lk 2 0 0 [0]) fun hS=>?_
 refine zS 7 [] rfl rfl rfl rfl hf hS (fun w H=>ue hf H TF.ls28 0 rfl rfl rfl) fun a hf=>?_
 refine zp 8 hf hS fun a hf=>?_
 obtain ⟨e6,he6,hGc8⟩:=bs_ hGc8
 obtain ⟨p7,o6,cs6,hx6,hr6,H⟩:=ux H Tryz.underlying28 TF.sz49 2 rfl he6
 refine zP 9 rfl rfl rfl rfl hf hS (fun w=>uu hf rfl rfl rfl hx6 w) fun a hf=>?_
 obtain ⟨A8,c10,rfl,hl8⟩:=uq hr6
 have H:=H.pF hl8
 refine zp 10 hf hS fun a hf=>?_
 refine strT (H.lk 3 0 0 [1,3]) (fun w H=>H.lk 3 0 0 [1]) fun hS=>?_
 refine zS 11 [] rfl rfl rfl rfl hf hS (fun w H=>uI hf H TF.ls3 0 0 rfl rfl rfl) fun a hf=>?_
 refine zp 12 hf hS fun a hf=>?_
 refine zp 13 hf hS fun a hf=>?_
 refine iteB hGc8 (fun hc9 hGc8=>?_) fun hc9 hGc8=>?_
 have hf:=hf.lit 99 rfl hc9
 refine zU 14 hf hS fun a hf=>?_
 refine zU 15 hf hS fun a hf=>?_
 refine zU 16 hf hS fun a hf=>?_
 refine zU 17 hf hS fun a hf=>?_
 refine zU 18 hf hS fun a hf=>?_
 refine zU 19 hf hS fun a hf=>?_
 refine zU 20 hf hS fun a hf=>?_
 refine zU 21 hf hS fun a hf=>?_
 refine zU 22 hf hS fun a hf=>?_
 refine zU 23 hf hS fun a hf=>?_
 refine zU 24 hf hS fun a hf=>?_
 refine zU 25 hf hS fun a hf=>?_
 refine zU 26 hf hS fun a hf=>?_
 refine zp 27 hf hS fun a hf=>?_
 refine zp 28 hf hS fun a hf=>?_
 refine zU 29 hf hS fun a hf=>?_
 refine zU 30 hf hS fun a hf=>?_
 refine zU 31 hf hS fun a hf=>?_
 refine zU 32 hf hS fun a hf=>?_
 refine zU 33 hf hS fun a hf=>?_
 refine zU 34 hf hS fun a hf=>?_
 refine zU 35 hf hS fun a hf=>?_
 refine zU 36 hf hS fun a hf=>?_
 refine zU 37 hf hS fun a hf=>?_
 refine zU 38 hf hS fun a hf=>?_
 refine zU 39 hf hS fun a hf=>?_
 refine zU 40 hf hS fun a hf=>?_
 refine zU 41 hf hS fun a hf=>?_
 refine zU 42 hf hS fun a hf=>?_
 refine zp 43 hf hS fun a hf=>?_
 refine dk ?_
 obtain rfl:=oi hGc8
 have hf:=hf.pn [129,2,3,7]
 have H:=H.lm 3 0 0 10 1008
 exact ⟨hf,H⟩
 have hf:=hf.lit 99 rfl hc9
 refine zg 14 hf hS fun a hf=>?_
 refine tSg 15 [] rfl rfl rfl rfl rfl rfl hf (by kernel_rfl) (by kernel_rfl) hS (fun w H=>ue hf H TF.ls28 1 rfl rfl rfl) fun a hf=>?_
 refine zg 16 hf hS fun a hf=>?_
 obtain ⟨e7,he7,hGc8⟩:=bs_ hGc8
 obtain ⟨p8,o7,cs7,hx7,hr7,H⟩:=ux H Tryz.underlying28 TF.sz49 7 rfl he7
 refine tPg 17 rfl rfl rfl rfl rfl rfl hf (by kernel_rfl) (fun _=>hS) (fun w=>uu hf rfl rfl rfl hx7 w) fun a hf=>?_
 obtain ⟨A9,c11,rfl,hl9⟩:=uq hr7
 have H:=H.pF hl9
 refine zg 18 hf hS fun a hf=>?_
 refine strT (H.lm 3 0 0 6 42) (fun w H=>H.lk 3 0 0 [1,2]) fun hS=>?_
 refine tSg 19 [] rfl rfl rfl rfl rfl rfl hf (by kernel_rfl) (by kernel_rfl) hS (fun w H=>uz hf H TF.la47 0 3 rfl rfl rfl rfl) fun a hf=>?_
 refine zg 20 hf hS fun a hf=>?_
 refine tSg 21 [] rfl rfl rfl rfl rfl rfl hf (by kernel_rfl) (by kernel_rfl) hS (fun w H=>ue hf H TF.ls28 0 rfl rfl rfl) fun a hf=>?_
 refine zg 22 hf hS fun a hf=>?_
 obtain ⟨e8,he8,hGc8⟩:=bs_ hGc8
 obtain ⟨p9,o8,cs8,hx8,hr8,H⟩:=ux H Tryz.underlying28 TF.sz49 6 rfl he8
 refine tPg 23 rfl rfl rfl rfl rfl rfl hf (by kernel_rfl) (fun _=>hS) (fun w=>uu hf rfl rfl rfl hx8 w) fun a hf=>?_
 obtain ⟨A10,c12,rfl,hl10⟩:=uq hr8
 have H:=H.pF hl10
 refine zg 24 hf hS fun a hf=>?_
 refine strT (H.lm 3 0 0 8 170) (fun w H=>H.lm 3 0 0 4 14) fun hS=>?_
 refine tSg 25 [] rfl rfl rfl rfl rfl rfl hf (by kernel_rfl) (by kernel_rfl) hS (fun w H=>uz hf H TF.la47 0 3 rfl rfl rfl rfl) fun a hf=>?_
 refine tPg 26 rfl rfl rfl rfl rfl rfl hf (by kernel_rfl) (fun _=>hS) (fun w=>ggQ hf TF.ggU ([e7.Block.First,e7.Block.Count]:List Int) ([e8.Block.First,e8.Block.Count]:List Int) rfl rfl rfl rfl rfl rfl) fun a hf=>?_
 refine zp 27 hf hS fun a hf=>?_
 refine zp 28 hf hS fun a hf=>?_
 refine iteB hGc8 (fun hc10 hGc8=>?_) fun hc10 hGc8=>?_
 have hf:=hf.lit 114 rfl hc10
 refine zU 29 hf hS fun a hf=>?_
 refine zU 30 hf hS fun a hf=>?_
 refine zU 31 hf hS fun a hf=>?_
 refine zU 32 hf hS fun a hf=>?_
 refine zU 33 hf hS fun a hf=>?_
 refine zU 34 hf hS fun a hf=>?_
 refine zU 35 hf hS fun a hf=>?_
 refine zU 36 hf hS fun a hf=>?_
 refine zU 37 hf hS fun a hf=>?_
 refine zU 38 hf hS fun a hf=>?_
 refine zU 39 hf hS fun a hf=>?_
 refine zU 40 hf hS fun a hf=>?_
 refine zU 41 hf hS fun a hf=>?_
 refine zU 42 hf hS fun a hf=>?_
 refine zp 43 hf hS fun a hf=>?_
 refine dk ?_
 obtain rfl:=oi hGc8
 have hf:=hf.pn [129,2,3,7]
 have H:=H.lm 3 0 0 14 16128
 exact ⟨hf,H⟩
 have hf:=hf.lit 114 rfl hc10
 refine zg 29 hf hS fun a hf=>?_
 refine tSg 30 [] rfl rfl rfl rfl rfl rfl hf (by kernel_rfl) (by kernel_rfl) hS (fun w H=>ue hf H TF.ls28 1 rfl rfl rfl) fun a hf=>?_
 refine zg 31 hf hS fun a hf=>?_
 obtain ⟨e9,he9,hGc8⟩:=bs_ hGc8
 obtain ⟨p10,o9,cs9,hx9,hr9,H⟩:=ux H Tryz.underlying28 TF.sz49 11 rfl he9
 refine tPg 32 rfl rfl rfl rfl rfl rfl hf (by kernel_rfl) (fun _=>hS) (fun w=>uu hf rfl rfl rfl hx9 w) fun a hf=>?_
 obtain ⟨A11,c13,rfl,hl11⟩:=uq hr9
 have H:=H.pF hl11
 refine zg 33 hf hS fun a hf=>?_
 refine strT (H.lm 3 0 0 10 682) (fun w H=>H.lm 3 0 0 5 30) fun hS=>?_
 refine tSg 34 [] rfl rfl rfl rfl rfl rfl hf (by kernel_rfl) (by kernel_rfl) hS (fun w H=>uz hf H TF.la45 0 1 rfl rfl rfl rfl) fun a hf=>?_
 refine zg 35 hf hS fun a hf=>?_
 refine tSg 36 [] rfl rfl rfl rfl rfl rfl hf (by kernel_rfl) (by kernel_rfl) hS (fun w H=>ue hf H TF.ls28 0 rfl rfl rfl) fun a hf=>?_
 refine zg 37 hf hS fun a hf=>?_
 obtain ⟨e10,he10,hGc8⟩:=bs_ hGc8
 obtain ⟨p11,o10,cs10,hx10,hr10,H⟩:=ux H Tryz.underlying28 TF.sz49 10 rfl he10
 refine tPg 38 rfl rfl rfl rfl rfl rfl hf (by kernel_rfl) (fun _=>hS) (fun w=>uu hf rfl rfl rfl hx10 w) fun a hf=>?_
 obtain ⟨A12,c14,rfl,hl12⟩:=uq hr10
 have H:=H.pF hl12
 refine zg 39 hf hS fun a hf=>?_
 refine strT (H.lm 3 0 0 12 2730) (fun w H=>H.lm 3 0 0 6 62) fun hS=>?_
 refine tSg 40 [] rfl rfl rfl rfl rfl rfl hf (by kernel_rfl) (by kernel_rfl) hS (fun w H=>uz hf H TF.la45 0 1 rfl rfl rfl rfl) fun a hf=>?_
 obtain ⟨y,hy,hGc8⟩:=bs_ hGc8
 refine n1g 41 (by kernel_rfl) rfl rfl rfl rfl hf (oC hf TF.gli (gcD (S:=TT) (xk (x:=e9.Route) (H.rt 2 rfl)) (xk (x:=e10.Route) (H.rt 0 rfl)) hy) fun v w a hp hf=>?_)
 obtain ⟨hb,hp⟩:=hp
 obtain rfl:=uo hp
 have H:=H.keep hb
 have hS:=H.lm 3 0 0 12 2730
 refine aS hS ?_
 refine zg 42 hf hS fun a hf=>?_
 refine zp 43 hf hS fun a hf=>?_
 refine dk ?_
 obtain rfl:=oi hGc8
 have hf:=hf.pn [129,2,3,7]
 have H:=H.lm 3 0 0 18 258048
 exact ⟨hf,H⟩
 refine ua (ib hR1 hf (fun hc11 hR1=>?_) fun hc11 hR1=>?_)
 refine sqz (pz 1 hf fun a hf=>?_)
 refine ub (ua (wp_ret (u9 (uf (uf (u9 (uf (uf (?_)))))))))
 obtain rfl:=oi hR1
 replace hF:=xc hF
 obtain rfl:=oi hF
 refine rT hf ?_
 exact ⟨_,rfl,H.bel,uk⟩
 refine wp_skip (uV (ua (reg (pz 3 hf fun a hf=>?_))))
 refine ub ?_
 have hf:=hf.pn [2,3,7]
 have H:=H.lm 3 0 0 6 63
 exact ua ⟨w64 (i5 + 1),hR1,hf,H⟩
 refine wp_exit (uy (uy (vJ (?_))))
 have hf:=hf.pn [2,3,7]
 have H:=H.lm 3 0 0 6 63
 exact ⟨i5,(Option.some.inj hR1).symm,hf,H⟩
 rintro a w ⟨i6,rfl,hf,H⟩
 replace hF:=vG hF
 refine ua (sqz (pz 1 hf fun a hf=>?_))
 refine wer ?_
 obtain rfl:=oi hF
 refine rT hf ?_
 exact ⟨_,rfl,H.bel,uk⟩
theorem gcN {S:Nat→Prop} {v0_:Value} {v1_:Value} {p:Plan} {q:Plan} {r:Bool} (h0:VR w0 S v0_ p) (h1:VR w0 S v1_ q) (hF:zt fu p q=some r) :
    Calls Tryz.prog 107 [v0_,v1_].toArray w0 fun e w'=>∃ v,e=.returned v∧(Below w0.heap.size w0 w'∧VR w' (St ⟨w0,[]⟩ S [] [] [] true) v r):=by
 obtain ⟨A,c,A2,c2,A3,c3,rfl,hl,hl2,hl3⟩:=uD h0
 obtain ⟨A4,c4,A5,c5,A6,c6,rfl,hl4,hl5,hl6⟩:=uD h1
 have H:=Mem.start ⟨w0,[]⟩ S
 have H:=H.pA hl
 have H:=H.pA hl2
 have H:=H.pA hl3
 have H:=H.pA hl4
 have H:=H.pA hl5
 have H:=H.pA hl6
 refine en Tryz.func107 fun a hf=>?_
 rw [zt] at hF
 refine bx hf H fun b' a w hf H=>?_
 refine wl0 rfl (xl hf H rfl rfl (by decide) fun b2 a w hf H=>?_)
 refine pz 1 hf fun a hf=>?_
 refine wr (pz 1 hf fun a hf=>?_)
 refine lN 1 hf H TF.la27 fun a hf=>?_
 refine oq hf (uA hf (cs:=[(.slice A p.Network.Nodes.length c),(.slice A2 p.Network.Fibers.length c2),(.slice none 0 0)]) rfl (fun w=>by kernel_rfl)) fun a hf=>?_
 refine pz 1 hf fun a hf=>?_
 refine lN 0 hf H TF.la27 fun a hf=>?_
 refine oq hf (uA hf (cs:=[(.slice A4 q.Network.Nodes.length c4),(.slice A5 q.Network.Fibers.length c5),(.slice none 0 0)]) rfl (fun w=>by kernel_rfl)) fun a hf=>?_
 have H:=H.pushNil (Light) true
 have H:=H.pushNil (Light) true
 obtain ⟨y,hy,hF⟩:=bs_ hF
 refine oc hf TF.gl6 (geF (S:=TT) (uj (x:=({ Network:=p.Network,Lights:=[] }:Plan)) (H.rt 7 rfl) (H.rt 6 rfl) (H.rt 1 rfl)) (uj (x:=({ Network:=q.Network,Lights:=[] }:Plan)) (H.rt 4 rfl) (H.rt 3 rfl) (H.rt 0 rfl)) hy) fun v w a hp hf=>?_
 obtain ⟨hb,hp⟩:=hp
 obtain rfl:=uo hp
 have H:=H.keep hb
 refine pz 1 hf fun a hf=>?_
 refine wer ?_
 obtain rfl:=oi hF
 refine rT hf ?_
 exact ⟨_,rfl,H.bel,uk⟩
theorem gcf {S:Nat→Prop} {v0_:Value} {v1_:Value} {p:Plan} {q:Plan} {r:List Action} (h0:VR w0 S v0_ p) (h1:VR w0 S v1_ q) (hF:yA fu p q=some r) :
    Calls Tryz.prog 108 [v0_,v1_].toArray w0 fun e w'=>∃ v,e=.returned v∧(Below w0.heap.size w0 w'∧∃ F0,VO w' F0 v r∧New w0 w' F0):=by
 obtain ⟨A,c,A2,c2,A3,c3,rfl,hl,hl2,hl3⟩:=uD h0
 obtain ⟨A4,c4,A5,c5,A6,c6,rfl,hl4,hl5,hl6⟩:=uD h1
 have H:=Mem.start ⟨w0,[]⟩ S
 have H:=H.pA hl
 have H:=H.pA hl2
 have H:=H.pA hl3
 have H:=H.pA hl4
 have H:=H.pA hl5
 have H:=H.pA hl6
 refine en Tryz.func108 fun a hf=>?_
 rw [yA] at hF
 refine bx hf H fun b' a w hf H=>?_
 refine wl0 rfl (xl hf H rfl rfl (by decide) fun b2 a w hf H=>?_)
 refine pz 1 hf fun a hf=>?_
 refine wr (wl0 rfl (zv hf H (.ow []) rfl 148 ([]:List Action) [] rfl (fun w=>by kernel_rfl) rfl (by decide) rfl rfl (fun i x h=>by simp at h) (by decide) fun A7 a w hf H=>?_))
 refine pz 1 hf fun a hf=>?_
 refine we (sqz (pz 1 hf fun a hf=>?_))
 refine ub (ua ?_)
 obtain ⟨out2,hB1,hF⟩:=bs_ hF
 have hf:=hf.pn [2,3,5,6]
 have H:=H.lm 3 1 0 6 63
 refine vU (fun (s:List Action×Int) (a:Act) (w:World)=>match s with | (out',i)=>∃ (A8:Option Addr) (c7:Nat) (E:Go.TypeId) (Fs:List (List Nat)),Fr a 105 [(2,(.pointer (some ⟨b',0,none⟩))),(3,(.pointer (some ⟨b2,0,none⟩))),(5,(.slice A8 out'.length c7)),(6,(.int .i64 i))]∧Mem ⟨w0,[]⟩ S [⟨b2,30,[(.slice A4 q.Network.Nodes.length c4),(.slice A5 q.Network.Fibers.length c5),(.slice A6 q.Lights.length c6)]⟩,⟨b',30,[(.slice A p.Network.Nodes.length c),(.slice A2 p.Network.Fibers.length c2),(.slice A3 p.Lights.length c3)]⟩] [⟨.ow Fs,E,A8,c7,(out':List Action)⟩] [] [(false,MP.val [(.slice A6 q.Lights.length c6)] (q.Lights:List Light)),(false,MP.val [(.slice A5 q.Network.Fibers.length c5)] (q.Network.Fibers:List Fiber)),(false,MP.val [(.slice A4 q.Network.Nodes.length c4)] (q.Network.Nodes:List ByteArray)),(false,MP.val [(.slice A3 p.Lights.length c3)] (p.Lights:List Light)),(false,MP.val [(.slice A2 p.Network.Fibers.length c2)] (p.Network.Fibers:List Fiber)),(false,MP.val [(.slice A p.Network.Nodes.length c)] (p.Network.Nodes:List ByteArray))] w) (fun k (s:List Action×Int)=>vi fu p q k s.1 s.2=some out2) (fun s=>out2=s) (([]:List Action),0) fu hB1 ⟨A7,0,148,[],hf,H⟩ (fun s h=>by cases h) ?_ ?_
 rintro fk ⟨out',i⟩ a w hR1 hI
 replace hR1:vi fu p q (fk + 1) out' i=some out2:=hR1
 rw [vi] at hR1
 obtain ⟨A8,c7,E,Fs,hf,H⟩:=hI
 refine sq (sqz (pz 2 hf fun a hf=>?_))
 refine lB 1 hf H TF.ls28 fun a hf=>?_
 refine pz 2 hf fun a hf=>?_
 refine ub (ua (ib hR1 hf (fun hc hR1=>?_) fun hc hR1=>?_))
 refine wp_skip (ua (sq (wp_block (sq (dw [] 9 fun w hb=>?_)))))
 have H:=H.keep hb
 refine strT (H.lk 1 0 0 []) (fun w H=>trivial) fun hS=>?_
 refine zS 0 [] rfl rfl rfl rfl hf hS (fun w H=>ul hf H TF.la30 0 rfl rfl rfl rfl) fun a hf=>?_
 refine zp 1 hf hS fun a hf=>?_
 refine strT (H.lk 3 0 0 []) (fun w H=>H.lk 1 0 0 []) fun hS=>?_
 refine zS 2 [] rfl rfl rfl rfl hf hS (fun w H=>ue hf H TF.ls28 1 rfl rfl rfl) fun a hf=>?_
 refine zp 3 hf hS fun a hf=>?_
 obtain ⟨e,he,hR1⟩:=bs_ hR1
 obtain ⟨p2,o,cs,hx,hr,H⟩:=ux H Tryz.underlying28 TF.sz49 3 rfl he
 refine zP 4 rfl rfl rfl rfl hf hS (fun w=>uu hf rfl rfl rfl hx w) fun a hf=>?_
 obtain ⟨A9,c8,rfl,hl7⟩:=uq hr
 have H:=H.pF hl7
 refine zp 5 hf hS fun a hf=>?_
 refine strT (H.lk 3 0 0 [1]) (fun w H=>H.lk 3 0 0 []) fun hS=>?_
 refine zS 6 [] rfl rfl rfl rfl hf hS (fun w H=>uI hf H TF.ls3 0 0 rfl rfl rfl) fun a hf=>?_
 obtain ⟨y,hy,hR1⟩:=bs_ hR1
 refine nn 7 rfl (oC hf TF.ggc (x3 (S:=TT) (uj (x:=q) (H.rt 4 rfl) (H.rt 3 rfl) (H.rt 2 rfl)) ug hy) fun v w a hp hf=>?_)
 obtain ⟨hb,hp⟩:=hp
 obtain rfl:=uv hp
 have H:=H.keep hb
 have hS:=H.lk 3 0 0 [1]
 refine aS hS ?_
 refine zp 8 hf hS fun a hf=>?_
 refine dk ?_
 have hf:=hf.pn [2,3,5,6,26]
 refine ua (ib hR1 hf (fun hc2 hR1=>?_) fun hc2 hR1=>?_)
 refine reg (pz 2 hf fun a hf=>?_)
 refine lB 1 hf H TF.ls28 fun a hf=>?_
 refine pz 1 hf fun a hf=>?_
 obtain ⟨e2,he2,hR1⟩:=bs_ hR1
 refine wl0 rfl (vn hf H Tryz.underlying28 TF.sz49 5 rfl rfl rfl he2 (by decide) fun p3 o2 cs2 a hf hr2 H=>?_)
 obtain ⟨A10,c9,rfl,hl8⟩:=uq hr2
 have H:=H.pF hl8
 refine oq hf (uz hf H TF.la49 1 0 rfl rfl rfl rfl) fun a hf=>?_
 obtain ⟨y2,hy2,hR1⟩:=bs_ hR1
 refine oc hf TF.ggB (yL (S:=TT) (uT (x:=e2) (H.rt 0 rfl)) hy2) fun v2 w a hp2 hf=>?_
 obtain ⟨hb2,F,hp3,hN⟩:=hp2
 obtain ⟨A11,c10,F2,rfl,rfl,hl9⟩:=ga8 hp3
 have H:=H.aO1 hb2 hN hl9
 have H:=H.lend 0 rfl
 refine oq hf (uA hf (cs:=[(.int .i64 2),(.int .i64 y2.Id),(.int .i64 y2.Route.Start),(.slice A11 y2.Route.Fibers.length c10),(.int .i64 y2.Block.First),(.int .i64 y2.Block.Count)]) rfl (fun w=>by kernel_rfl)) fun a hf=>?_
 have H:=H.recast (X:=[(⟨F2,MP.own F2 [(.slice A11 y2.Route.Fibers.length c10)] (y2.Route.Fibers:List Int)⟩:DI)]) (Y:=[(⟨F2,MP.own F2 [(.int .i64 2),(.int .i64 y2.Id),(.int .i64 y2.Route.Start),(.slice A11 y2.Route.Fibers.length c10),(.int .i64 y2.Block.First),(.int .i64 y2.Block.Count)] (({ Kind:=2,Light:=y2 }:Action):Action)⟩:DI)]) (List.Perm.of_eq (by simp)) fun _=>ps1 (xn (x:=({ Kind:=2,Light:=y2 }:Action)) (H.ownAt 0 rfl)) ps0
 refine wl0 rfl (yh hf 148 H rfl (fun w=>by kernel_rfl) (by decide) fun A12 a w hf H=>?_)
 obtain ⟨al,hal,hR1⟩:=bs_ hR1
 have H:=H.frontR 1 rfl
 refine wl0 rfl (gbO hf H Tryz.underlying70 TF.gdr rfl (by decide) rfl rfl hal (by decide) fun E2 A13 c11 a w hf H=>?_)
 refine pz 1 hf fun a hf=>?_
 refine ub (uV (ua (reg (pz 3 hf fun a hf=>?_))))
 have hf:=hf.pn [2,3,5,6]
 refine ub ?_
 have hf:=hf.pn [2,3,5,6]
 have H:=H.lm 3 1 0 11 2016
 exact ua ⟨(al,w64 (i + 1)),hR1,A13,c11,E2,Fs++[F2],hf,H⟩
 refine wp_skip (uV (ua (reg (pz 3 hf fun a hf=>?_))))
 refine ub ?_
 have hf:=hf.pn [2,3,5,6]
 have H:=H.lm 3 1 0 8 252
 exact ua ⟨(out',w64 (i + 1)),hR1,A8,c7,E,Fs,hf,H⟩
 refine wp_exit (uy (uy (vJ (?_))))
 have hf:=hf.pn [2,3,5,6]
 have H:=H.lm 3 1 0 6 63
 exact ⟨(out',i),(Option.some.inj hR1).symm,A8,c7,E,Fs,hf,H⟩
 rintro a w ⟨⟨out3,i2⟩,rfl,A14,c12,E3,Fs2,hf,H⟩
 try dsimp only at hF
 refine ua (sq (sqz (pz 1 hf fun a hf=>?_)))
 refine ub (ua ?_)
 obtain ⟨out5,hB1,hF⟩:=bs_ hF
 have hf:=hf.pn [2,3,5,7]
 have H:=H.lm 3 1 0 6 63
 refine vU (fun (s:List Action×Int) (a:Act) (w:World)=>match s with | (out4,i3)=>∃ (A15:Option Addr) (c13:Nat) (E4:Go.TypeId) (Fs3:List (List Nat)),Fr a 105 [(2,(.pointer (some ⟨b',0,none⟩))),(3,(.pointer (some ⟨b2,0,none⟩))),(5,(.slice A15 out4.length c13)),(7,(.int .i64 i3))]∧Mem ⟨w0,[]⟩ S [⟨b2,30,[(.slice A4 q.Network.Nodes.length c4),(.slice A5 q.Network.Fibers.length c5),(.slice A6 q.Lights.length c6)]⟩,⟨b',30,[(.slice A p.Network.Nodes.length c),(.slice A2 p.Network.Fibers.length c2),(.slice A3 p.Lights.length c3)]⟩] [⟨.ow Fs3,E4,A15,c13,(out4:List Action)⟩] [] [(false,MP.val [(.slice A6 q.Lights.length c6)] (q.Lights:List Light)),(false,MP.val [(.slice A5 q.Network.Fibers.length c5)] (q.Network.Fibers:List Fiber)),(false,MP.val [(.slice A4 q.Network.Nodes.length c4)] (q.Network.Nodes:List ByteArray)),(false,MP.val [(.slice A3 p.Lights.length c3)] (p.Lights:List Light)),(false,MP.val [(.slice A2 p.Network.Fibers.length c2)] (p.Network.Fibers:List Fiber)),(false,MP.val [(.slice A p.Network.Nodes.length c)] (p.Network.Nodes:List ByteArray))] w) (fun k (s:List Action×Int)=>vb fu p q k s.1 s.2=some out5) (fun s=>out5=s) (out3,0) fu hB1 ⟨A14,c12,E3,Fs2,hf,H⟩ (fun s h=>by cases h) ?_ ?_
 rintro fk ⟨out4,i3⟩ a w hR1 hI
 replace hR1:vb fu p q (fk + 1) out4 i3=some out5:=hR1
 rw [vb] at hR1
 obtain ⟨A15,c13,E4,Fs3,hf,H⟩:=hI
 refine sq (sqz (pz 2 hf fun a hf=>?_))
 refine lB 0 hf H TF.ls28 fun a hf=>?_
 refine pz 2 hf fun a hf=>?_
 refine ub (ua (ib hR1 hf (fun hc3 hR1=>?_) fun hc3 hR1=>?_))
 refine wp_skip (ua (sq (wp_block (sq (dw [] 9 fun w hb=>?_)))))
 have H:=H.keep hb
 refine strT (H.lk 2 0 0 []) (fun w H=>trivial) fun hS=>?_
 refine zS 0 [] rfl rfl rfl rfl hf hS (fun w H=>ul hf H TF.la30 0 rfl rfl rfl rfl) fun a hf=>?_
 refine zp 1 hf hS fun a hf=>?_
 refine strT (H.lk 3 0 0 []) (fun w H=>H.lk 2 0 0 []) fun hS=>?_
 refine zS 2 [] rfl rfl rfl rfl hf hS (fun w H=>ue hf H TF.ls28 0 rfl rfl rfl) fun a hf=>?_
 refine zp 3 hf hS fun a hf=>?_
 obtain ⟨e3,he3,hR1⟩:=bs_ hR1
 obtain ⟨p4,o3,cs3,hx2,hr3,H⟩:=ux H Tryz.underlying28 TF.sz49 0 rfl he3
 refine zP 4 rfl rfl rfl rfl hf hS (fun w=>uu hf rfl rfl rfl hx2 w) fun a hf=>?_
 obtain ⟨A16,c14,rfl,hl10⟩:=uq hr3
 have H:=H.pF hl10
 refine zp 5 hf hS fun a hf=>?_
 refine strT (H.lk 3 0 0 [1]) (fun w H=>H.lk 3 0 0 []) fun hS=>?_
 refine zS 6 [] rfl rfl rfl rfl hf hS (fun w H=>uI hf H TF.ls3 0 0 rfl rfl rfl) fun a hf=>?_
 obtain ⟨y3,hy3,hR1⟩:=bs_ hR1
 refine nn 7 rfl (oC hf TF.ggc (x3 (S:=TT) (uj (x:=p) (H.rt 7 rfl) (H.rt 6 rfl) (H.rt 5 rfl)) ug hy3) fun v3 w a hp4 hf=>?_)
 obtain ⟨hb3,hp4⟩:=hp4
 obtain rfl:=uv hp4
 have H:=H.keep hb3
 have hS:=H.lk 3 0 0 [1]
 refine aS hS ?_
 refine zp 8 hf hS fun a hf=>?_
 refine dk ?_
 have hf:=hf.pn [2,3,5,7,8]
 refine ua (sq ?_)
 obtain ⟨c15,hGc15,hR1⟩:=bs_ hR1
 have fh:=hf.prune [2,3,5,7] rfl
 have Hm:=H.lm 3 1 0 8 252
 refine midF 67 (.bool c15) fh Hm ?_ fun a w hf H=>?_
 refine dw [] 16 fun w hb=>?_
 have H:=H.keep hb
 refine zp 0 hf trivial fun a hf=>?_
 refine zp 1 hf trivial fun a hf=>?_
 refine zp 2 hf trivial fun a hf=>?_
 refine iteB hGc15 (fun hc4 hGc15=>?_) fun hc4 hGc15=>?_
 have hf:=hf.lit 54 rfl hc4
 refine zg 3 hf trivial fun a hf=>?_
 refine strT (H.lk 2 0 0 []) (fun w H=>trivial) fun hS=>?_
 refine tSg 4 [] rfl rfl rfl rfl rfl rfl hf (by kernel_rfl) (by kernel_rfl) hS (fun w H=>ue hf H TF.ls28 0 rfl rfl rfl) fun a hf=>?_
 refine zg 5 hf hS fun a hf=>?_
 obtain ⟨e4,he4,hGc15⟩:=bs_ hGc15
 obtain ⟨p5,o4,cs4,hx3,hr4,H⟩:=ux H Tryz.underlying28 TF.sz49 5 rfl he4
 refine tPg 6 rfl rfl rfl rfl rfl rfl hf (by kernel_rfl) (fun _=>hS) (fun w=>uu hf rfl rfl rfl hx3 w) fun a hf=>?_
 obtain ⟨A17,c16,rfl,hl11⟩:=uq hr4
 have H:=H.pF hl11
 refine strT (H.lk 2 0 0 [1]) (fun w H=>H.lk 1 0 0 []) fun hS=>?_
 refine tSg 7 [] rfl rfl rfl rfl rfl rfl hf (by kernel_rfl) (by kernel_rfl) hS (fun w H=>uz hf H TF.la49 0 0 rfl rfl rfl rfl) fun a hf=>?_
 refine zg 8 hf hS fun a hf=>?_
 refine strT (H.lk 3 0 0 [1]) (fun w H=>H.lk 2 0 0 [0]) fun hS=>?_
 refine tSg 9 [] rfl rfl rfl rfl rfl rfl hf (by kernel_rfl) (by kernel_rfl) hS (fun w H=>ue hf H TF.ls28 0 rfl rfl rfl) fun a hf=>?_
 refine zg 10 hf hS fun a hf=>?_
 obtain ⟨e5,he5,hGc15⟩:=bs_ hGc15
 obtain ⟨p6,o5,cs5,hx4,hr5,H⟩:=ux H Tryz.underlying28 TF.sz49 4 rfl he5
 refine tPg 11 rfl rfl rfl rfl rfl rfl hf (by kernel_rfl) (fun _=>hS) (fun w=>uu hf rfl rfl rfl hx4 w) fun a hf=>?_
 obtain ⟨A18,c17,rfl,hl12⟩:=uq hr5
 have H:=H.pF hl12
 refine strT (H.lk 3 0 0 [1,3]) (fun w H=>H.lk 3 0 0 [1]) fun hS=>?_
 refine tSg 12 [] rfl rfl rfl rfl rfl rfl hf (by kernel_rfl) (by kernel_rfl) hS (fun w H=>uz hf H TF.la49 0 0 rfl rfl rfl rfl) fun a hf=>?_
 obtain ⟨y4,hy4,hGc15⟩:=bs_ hGc15
 refine n1g 13 (by kernel_rfl) rfl rfl rfl rfl hf (oC hf TF.gkG (gbn (S:=TT) (uT (x:=e4) (H.rt 2 rfl)) (uT (x:=e5) (H.rt 0 rfl)) hy4) fun v4 w a hp5 hf=>?_)
 obtain ⟨hb4,hp5⟩:=hp5
 obtain rfl:=uo hp5
 have H:=H.keep hb4
 have hS:=H.lk 3 0 0 [1,3]
 refine aS hS ?_
 refine zg 14 hf hS fun a hf=>?_
 refine zp 15 hf hS fun a hf=>?_
 refine dk ?_
 obtain rfl:=oi hGc15
 have hf:=hf.pn [67,2,3,5,7]
 have H:=H.lm 3 1 0 12 4032
 exact ⟨hf,H⟩
 have hf:=hf.lit 54 rfl hc4
 refine zU 3 hf trivial fun a hf=>?_
 refine zU 4 hf trivial fun a hf=>?_
 refine zU 5 hf trivial fun a hf=>?_
 refine zU 6 hf trivial fun a hf=>?_
 refine zU 7 hf trivial fun a hf=>?_
 refine zU 8 hf trivial fun a hf=>?_
 refine zU 9 hf trivial fun a hf=>?_
 refine zU 10 hf trivial fun a hf=>?_
 refine zU 11 hf trivial fun a hf=>?_
 refine zU 12 hf trivial fun a hf=>?_
 refine zU 13 hf trivial fun a hf=>?_
 refine zU 14 hf trivial fun a hf=>?_
 refine zp 15 hf trivial fun a hf=>?_
 refine dk ?_
 obtain rfl:=oi hGc15
 have hf:=hf.pn [67,2,3,5,7]
 have H:=H.lm 3 1 0 8 252
 exact ⟨hf,H⟩
 refine ua (ib hR1 hf (fun hc5 hR1=>?_) fun hc5 hR1=>?_)
 refine reg (pz 2 hf fun a hf=>?_)
 refine lB 0 hf H TF.ls28 fun a hf=>?_
 refine pz 1 hf fun a hf=>?_
 obtain ⟨e6,he6,hR1⟩:=bs_ hR1
 refine wl0 rfl (vn hf H Tryz.underlying28 TF.sz49 0 rfl rfl rfl he6 (by decide) fun p7 o6 cs6 a hf hr6 H=>?_)
 obtain ⟨A19,c18,rfl,hl13⟩:=uq hr6
 have H:=H.pF hl13
 refine oq hf (uz hf H TF.la49 1 0 rfl rfl rfl rfl) fun a hf=>?_
 obtain ⟨y5,hy5,hR1⟩:=bs_ hR1
 refine oc hf TF.ggB (yL (S:=TT) (uT (x:=e6) (H.rt 0 rfl)) hy5) fun v5 w a hp6 hf=>?_
 obtain ⟨hb5,F3,hp7,hN2⟩:=hp6
 obtain ⟨A20,c19,F4,rfl,rfl,hl14⟩:=ga8 hp7
 have H:=H.aO1 hb5 hN2 hl14
 have H:=H.lend 0 rfl
 refine oq hf (uA hf (cs:=[(.int .i64 3),(.int .i64 y5.Id),(.int .i64 y5.Route.Start),(.slice A20 y5.Route.Fibers.length c19),(.int .i64 y5.Block.First),(.int .i64 y5.Block.Count)]) rfl (fun w=>by kernel_rfl)) fun a hf=>?_
 have H:=H.recast (X:=[(⟨F4,MP.own F4 [(.slice A20 y5.Route.Fibers.length c19)] (y5.Route.Fibers:List Int)⟩:DI)]) (Y:=[(⟨F4,MP.own F4 [(.int .i64 3),(.int .i64 y5.Id),(.int .i64 y5.Route.Start),(.slice A20 y5.Route.Fibers.length c19),(.int .i64 y5.Block.First),(.int .i64 y5.Block.Count)] (({ Kind:=3,Light:=y5 }:Action):Action)⟩:DI)]) (List.Perm.of_eq (by simp)) fun _=>ps1 (xn (x:=({ Kind:=3,Light:=y5 }:Action)) (H.ownAt 0 rfl)) ps0
 refine wl0 rfl (yh hf 148 H rfl (fun w=>by kernel_rfl) (by decide) fun A21 a w hf H=>?_)
 obtain ⟨al2,hal2,hR1⟩:=bs_ hR1
 have H:=H.frontR 1 rfl
 refine wl0 rfl (gbO hf H Tryz.underlying70 TF.gdr rfl (by decide) rfl rfl hal2 (by decide) fun E5 A22 c20 a w hf H=>?_)
 refine pz 1 hf fun a hf=>?_
 refine ub (uV (ua (reg (pz 3 hf fun a hf=>?_))))
 have hf:=hf.pn [2,3,5,7]
 refine ub ?_
 have hf:=hf.pn [2,3,5,7]
 have H:=H.lm 3 1 0 9 504
 exact ua ⟨(al2,w64 (i3 + 1)),hR1,A22,c20,E5,Fs3++[F4],hf,H⟩
 refine wp_skip (uV (ua (reg (pz 3 hf fun a hf=>?_))))
 refine ub ?_
 have hf:=hf.pn [2,3,5,7]
 have H:=H.lm 3 1 0 6 63
 exact ua ⟨(out4,w64 (i3 + 1)),hR1,A15,c13,E4,Fs3,hf,H⟩
 refine wp_exit (uy (uy (vJ (?_))))
 have hf:=hf.pn [2,3,5,7]
 have H:=H.lm 3 1 0 6 63
 exact ⟨(out4,i3),(Option.some.inj hR1).symm,A15,c13,E4,Fs3,hf,H⟩
 rintro a w ⟨⟨out6,i4⟩,rfl,A23,c21,E6,Fs4,hf,H⟩
 try dsimp only at hF
 refine ua (sq (sqz (pz 1 hf fun a hf=>?_)))
 refine ub (ua ?_)
 obtain ⟨out8,hB1,hF⟩:=bs_ hF
 have hf:=hf.pn [2,3,5,9]
 have H:=H.lm 3 1 0 6 63
 refine vU (fun (s:List Action×Int) (a:Act) (w:World)=>match s with | (out7,i5)=>∃ (A24:Option Addr) (c22:Nat) (E7:Go.TypeId) (Fs5:List (List Nat)),Fr a 105 [(2,(.pointer (some ⟨b',0,none⟩))),(3,(.pointer (some ⟨b2,0,none⟩))),(5,(.slice A24 out7.length c22)),(9,(.int .i64 i5))]∧Mem ⟨w0,[]⟩ S [⟨b2,30,[(.slice A4 q.Network.Nodes.length c4),(.slice A5 q.Network.Fibers.length c5),(.slice A6 q.Lights.length c6)]⟩,⟨b',30,[(.slice A p.Network.Nodes.length c),(.slice A2 p.Network.Fibers.length c2),(.slice A3 p.Lights.length c3)]⟩] [⟨.ow Fs5,E7,A24,c22,(out7:List Action)⟩] [] [(false,MP.val [(.slice A6 q.Lights.length c6)] (q.Lights:List Light)),(false,MP.val [(.slice A5 q.Network.Fibers.length c5)] (q.Network.Fibers:List Fiber)),(false,MP.val [(.slice A4 q.Network.Nodes.length c4)] (q.Network.Nodes:List ByteArray)),(false,MP.val [(.slice A3 p.Lights.length c3)] (p.Lights:List Light)),(false,MP.val [(.slice A2 p.Network.Fibers.length c2)] (p.Network.Fibers:List Fiber)),(false,MP.val [(.slice A p.Network.Nodes.length c)] (p.Network.Nodes:List ByteArray))] w) (fun k (s:List Action×Int)=>va fu p q k s.1 s.2=some out8) (fun s=>out8=s) (out6,0) fu hB1 ⟨A23,c21,E6,Fs4,hf,H⟩ (fun s h=>by cases h) ?_ ?_
 rintro fk ⟨out7,i5⟩ a w hR1 hI
 replace hR1:va fu p q (fk + 1) out7 i5=some out8:=hR1
 rw [va] at hR1
 obtain ⟨A24,c22,E7,Fs5,hf,H⟩:=hI
 refine sq (sqz (pz 2 hf fun a hf=>?_))
 refine lB 0 hf H TF.ls28 fun a hf=>?_
 refine pz 2 hf fun a hf=>?_
 refine ub (ua (ib hR1 hf (fun hc6 hR1=>?_) fun hc6 hR1=>?_))
 refine wp_skip (ua (sq (wp_block (sq (dw [] 9 fun w hb=>?_)))))
 have H:=H.keep hb
 refine strT (H.lk 2 0 0 []) (fun w H=>trivial) fun hS=>?_
 refine zS 0 [] rfl rfl rfl rfl hf hS (fun w H=>ul hf H TF.la30 0 rfl rfl rfl rfl) fun a hf=>?_
 refine zp 1 hf hS fun a hf=>?_
 refine strT (H.lk 3 0 0 []) (fun w H=>H.lk 2 0 0 []) fun hS=>?_
 refine zS 2 [] rfl rfl rfl rfl hf hS (fun w H=>ue hf H TF.ls28 0 rfl rfl rfl) fun a hf=>?_
 refine zp 3 hf hS fun a hf=>?_
 obtain ⟨e7,he7,hR1⟩:=bs_ hR1
 obtain ⟨p8,o7,cs7,hx5,hr7,H⟩:=ux H Tryz.underlying28 TF.sz49 0 rfl he7
 refine zP 4 rfl rfl rfl rfl hf hS (fun w=>uu hf rfl rfl rfl hx5 w) fun a hf=>?_
 obtain ⟨A25,c23,rfl,hl15⟩:=uq hr7
 have H:=H.pF hl15
 refine zp 5 hf hS fun a hf=>?_
 refine strT (H.lk 3 0 0 [1]) (fun w H=>H.lk 3 0 0 []) fun hS=>?_
 refine zS 6 [] rfl rfl rfl rfl hf hS (fun w H=>uI hf H TF.ls3 0 0 rfl rfl rfl) fun a hf=>?_
 obtain ⟨y6,hy6,hR1⟩:=bs_ hR1
 refine nn 7 rfl (oC hf TF.ggc (x3 (S:=TT) (uj (x:=p) (H.rt 7 rfl) (H.rt 6 rfl) (H.rt 5 rfl)) ug hy6) fun v6 w a hp8 hf=>?_)
 obtain ⟨hb6,hp8⟩:=hp8
 obtain rfl:=uv hp8
 have H:=H.keep hb6
 have hS:=H.lk 3 0 0 [1]
 refine aS hS ?_
 refine zp 8 hf hS fun a hf=>?_
 refine dk ?_
 have hf:=hf.pn [2,3,5,9,93]
 refine ua (ib hR1 hf (fun hc7 hR1=>?_) fun hc7 hR1=>?_)
 refine reg (pz 2 hf fun a hf=>?_)
 refine lB 0 hf H TF.ls28 fun a hf=>?_
 refine pz 1 hf fun a hf=>?_
 obtain ⟨e8,he8,hR1⟩:=bs_ hR1
 refine wl0 rfl (vn hf H Tryz.underlying28 TF.sz49 2 rfl rfl rfl he8 (by decide) fun p9 o8 cs8 a hf hr8 H=>?_)
 obtain ⟨A26,c24,rfl,hl16⟩:=uq hr8
 have H:=H.pF hl16
 refine oq hf (uz hf H TF.la49 1 0 rfl rfl rfl rfl) fun a hf=>?_
 obtain ⟨y7,hy7,hR1⟩:=bs_ hR1
 refine oc hf TF.ggB (yL (S:=TT) (uT (x:=e8) (H.rt 0 rfl)) hy7) fun v7 w a hp9 hf=>?_
 obtain ⟨hb7,F5,hp10,hN3⟩:=hp9
 obtain ⟨A27,c25,F6,rfl,rfl,hl17⟩:=ga8 hp10
 have H:=H.aO1 hb7 hN3 hl17
 have H:=H.lend 0 rfl
 refine oq hf (uA hf (cs:=[(.int .i64 1),(.int .i64 y7.Id),(.int .i64 y7.Route.Start),(.slice A27 y7.Route.Fibers.length c25),(.int .i64 y7.Block.First),(.int .i64 y7.Block.Count)]) rfl (fun w=>by kernel_rfl)) fun a hf=>?_
 have H:=H.recast (X:=[(⟨F6,MP.own F6 [(.slice A27 y7.Route.Fibers.length c25)] (y7.Route.Fibers:List Int)⟩:DI)]) (Y:=[(⟨F6,MP.own F6 [(.int .i64 1),(.int .i64 y7.Id),(.int .i64 y7.Route.Start),(.slice A27 y7.Route.Fibers.length c25),(.int .i64 y7.Block.First),(.int .i64 y7.Block.Count)] (({ Kind:=1,Light:=y7 }:Action):Action)⟩:DI)]) (List.Perm.of_eq (by simp)) fun _=>ps1 (xn (x:=({ Kind:=1,Light:=y7 }:Action)) (H.ownAt 0 rfl)) ps0
 refine wl0 rfl (yh hf 148 H rfl (fun w=>by kernel_rfl) (by decide) fun A28 a w hf H=>?_)
 obtain ⟨al3,hal3,hR1⟩:=bs_ hR1
 have H:=H.frontR 1 rfl
 refine wl0 rfl (gbO hf H Tryz.underlying70 TF.gdr rfl (by decide) rfl rfl hal3 (by decide) fun E8 A29 c26 a w hf H=>?_)
 refine pz 1 hf fun a hf=>?_
 refine ub (uV (ua (reg (pz 3 hf fun a hf=>?_))))
 have hf:=hf.pn [2,3,5,9]
 refine ub ?_
 have hf:=hf.pn [2,3,5,9]
 have H:=H.lm 3 1 0 11 2016
 exact ua ⟨(al3,w64 (i5 + 1)),hR1,A29,c26,E8,Fs5++[F6],hf,H⟩
 refine wp_skip (uV (ua (reg (pz 3 hf fun a hf=>?_))))
 refine ub ?_
 have hf:=hf.pn [2,3,5,9]
 have H:=H.lm 3 1 0 8 252
 exact ua ⟨(out7,w64 (i5 + 1)),hR1,A24,c22,E7,Fs5,hf,H⟩
 refine wp_exit (uy (uy (vJ (?_))))
 have hf:=hf.pn [2,3,5,9]
 have H:=H.lm 3 1 0 6 63
 exact ⟨(out7,i5),(Option.some.inj hR1).symm,A24,c22,E7,Fs5,hf,H⟩
 rintro a w ⟨⟨out9,i6⟩,rfl,A30,c27,E9,Fs6,hf,H⟩
 try dsimp only at hF
 refine ua (sqz (pz 2 hf fun a hf=>?_))
 refine wer ?_
 obtain ⟨F7,H⟩:=H.freezeOwn 0 rfl
 have H:=H.lend 0 rfl
 obtain rfl:=oi hF
 refine rT hf ?_
 have hN:=H.ends1
 exact ⟨_,rfl,H.bel,F7,(xE (H.ownAt 0 rfl)),by first | exact hN | simpa using hN⟩
theorem gat {S:Nat→Prop} {v0_:Value} {v1_:Value} {p:Plan} {q:Plan} {r:List Action×Bool} (h0:VR w0 S v0_ p) (h1:VR w0 S v1_ q) (hF:xu fu p q=some r) :
    Calls Tryz.prog 32 [v0_,v1_].toArray w0 fun e w'=>∃ v,e=.returned v∧(Below w0.heap.size w0 w'∧∃ F0,∃ u0 u1,v=.tuple #[u0,u1]∧VO w' F0 u0 r.1∧VR w' (St ⟨w0,[]⟩ S [] [] [] true) u1 r.2∧New w0 w' F0):=by
 obtain ⟨A,c,A2,c2,A3,c3,rfl,hl,hl2,hl3⟩:=uD h0
 obtain ⟨A4,c4,A5,c5,A6,c6,rfl,hl4,hl5,hl6⟩:=uD h1
 have H:=Mem.start ⟨w0,[]⟩ S
 have H:=H.pA hl
 have H:=H.pA hl2
 have H:=H.pA hl3
 have H:=H.pA hl4
 have H:=H.pA hl5
 have H:=H.pA hl6
 refine en Tryz.func32 fun a hf=>?_
 rw [xu] at hF
 refine bx hf H fun b' a w hf H=>?_
 refine wl0 rfl (xl hf H rfl rfl (by decide) fun b2 a w hf H=>?_)
 refine pz 2 hf fun a hf=>?_
 refine ub (ua (sq (sq ?_)))
 obtain ⟨c7,hGc7,hF⟩:=bs_ hF
 have fh:=hf.prune [2,3] rfl
 have Hm:=H.lm 3 0 0 6 63
 refine midF 20 (.bool c7) fh Hm ?_ fun a w hf H=>?_
 refine reg (lN 1 hf H TF.la30 fun a hf=>?_)
 obtain ⟨y,hy,hGc7⟩:=bs_ hGc7
 refine oc hf TF.gft (xA (S:=TT) (uj (x:=p) (H.rt 5 rfl) (H.rt 4 rfl) (H.rt 3 rfl)) hy) fun v w a hp hf=>?_
 obtain ⟨hb,hp⟩:=hp
 obtain rfl:=uo hp
 have H:=H.keep hb
 refine pz 2 hf fun a hf=>?_
 refine iteB hGc7 (fun hc hGc7=>?_) fun hc hGc7=>?_
 have hf:=hf.lit 10 rfl hc
 refine pz 10 hf fun a hf=>?_
 obtain rfl:=oi hGc7
 have hf:=hf.pn [20,2,3]
 have H:=H.lm 3 0 0 6 63
 exact ub ⟨hf,H⟩
 have hf:=hf.lit 10 rfl hc
 refine wlg hf rfl rfl rfl (op_q hf (ul hf H TF.la30 0 rfl rfl rfl rfl) rfl (by decide) fun a hf=>?_)
 obtain ⟨y2,hy2,hGc7⟩:=bs_ hGc7
 refine wlg hf rfl rfl rfl (oC hf TF.gft (xA (S:=TT) (uj (x:=q) (H.rt 2 rfl) (H.rt 1 rfl) (H.rt 0 rfl)) hy2) fun v2 w a hp2 hf=>?_)
 obtain ⟨hb2,hp2⟩:=hp2
 obtain rfl:=uo hp2
 have H:=H.keep hb2
 refine pz 3 hf fun a hf=>?_
 refine iteB hGc7 (fun hc2 hGc7=>?_) fun hc2 hGc7=>?_
 have hf:=hf.lit 15 rfl hc2
 refine pz 5 hf fun a hf=>?_
 obtain rfl:=oi hGc7
 have hf:=hf.pn [20,2,3]
 have H:=H.lm 3 0 0 6 63
 exact ub ⟨hf,H⟩
 have hf:=hf.lit 15 rfl hc2
 refine wlg hf rfl rfl rfl (op_q hf (ul hf H TF.la30 1 rfl rfl rfl rfl) rfl (by decide) fun a hf=>?_)
 refine wlg hf rfl rfl rfl (op_q hf (ul hf H TF.la30 0 rfl rfl rfl rfl) rfl (by decide) fun a hf=>?_)
 obtain ⟨y3,hy3,hGc7⟩:=bs_ hGc7
 refine wlg hf rfl rfl rfl (oC hf TF.gmt (gcN (S:=TT) (uj (x:=p) (H.rt 5 rfl) (H.rt 4 rfl) (H.rt 3 rfl)) (uj (x:=q) (H.rt 2 rfl) (H.rt 1 rfl) (H.rt 0 rfl)) hy3) fun v3 w a hp3 hf=>?_)
 obtain ⟨hb3,hp3⟩:=hp3
 obtain rfl:=uo hp3
 have H:=H.keep hb3
 refine pz 2 hf fun a hf=>?_
 obtain rfl:=oi hGc7
 have hf:=hf.pn [20,2,3]
 have H:=H.lm 3 0 0 6 63
 exact ub ⟨hf,H⟩
 refine ua (ib hF hf (fun hc3 hF=>?_) fun hc3 hF=>?_)
 refine sq (reg (wl0 rfl (zv hf H (.ow []) rfl 148 ([]:List Action) [] rfl (fun w=>by kernel_rfl) rfl (by decide) rfl rfl (fun i x h=>by simp at h) (by decide) fun A7 a w hf H=>?_)))
 refine pz 2 hf fun a hf=>?_
 refine ub (ua (wp_ret (uf (?_))))
 obtain ⟨F,H⟩:=H.freezeOwn 0 rfl
 have H:=H.lend 0 rfl
 obtain rfl:=oi hF
 refine vL hf rfl (uE hf rfl) (uE hf rfl) ?_
 have hN:=H.ends1
 exact ⟨_,rfl,H.bel,F,_,_,rfl,(xE (H.ownAt 0 rfl)),uk,by first | exact hN | simpa using hN⟩
 refine wp_skip (ua (sq (reg (lN 1 hf H TF.la30 fun a hf=>?_))))
 refine lN 0 hf H TF.la30 fun a hf=>?_
 obtain ⟨y4,hy4,hF⟩:=bs_ hF
 refine oc hf TF.gms (gcf (S:=TT) (uj (x:=p) (H.rt 5 rfl) (H.rt 4 rfl) (H.rt 3 rfl)) (uj (x:=q) (H.rt 2 rfl) (H.rt 1 rfl) (H.rt 0 rfl)) hy4) fun v4 w a hp4 hf=>?_
 obtain ⟨hb4,F2,hp5,hN⟩:=hp4
 obtain ⟨A8,c8,rfl,hl7⟩:=xP hp5
 have H:=H.aO1 hb4 hN hl7
 have H:=H.lend 0 rfl
 refine pz 1 hf fun a hf=>?_
 refine we (sqz (pz 3 hf fun a hf=>?_))
 refine ub (ua (ib hF hf (fun hc4 hF=>?_) fun hc4 hF=>?_))
 refine sq (reg (wl0 rfl (zv hf H (.ow []) rfl 148 ([]:List Action) [] rfl (fun w=>by kernel_rfl) rfl (by decide) rfl rfl (fun i x h=>by simp at h) (by decide) fun A9 a w hf H=>?_)))
 refine pz 2 hf fun a hf=>?_
 refine ub (ua (wp_ret (uf (?_))))
 obtain ⟨F4,H⟩:=H.freezeOwn 0 rfl
 have H:=H.lend 0 rfl
 obtain rfl:=oi hF
 refine vL hf rfl (uE hf rfl) (uE hf rfl) ?_
 have hN:=H.ends1
 exact ⟨_,rfl,H.bel,F4,_,_,rfl,(xE (H.ownAt 0 rfl)),uk,by first | exact hN | simpa using hN⟩
 refine wp_skip (ua (sqz (pz 3 hf fun a hf=>?_)))
 refine wer ?_
 obtain rfl:=oi hF
 refine vL hf rfl (uE hf rfl) (uE hf rfl) ?_
 have hN:=H.ends1
 exact ⟨_,rfl,H.bel,F2,_,_,rfl,(xE (H.ownAt 0 rfl)),uk,by first | exact hN | simpa using hN⟩
theorem ga2 {fu:Nat} {rec_:(L20SearchP)→(Plan)→(List Int)→(Int)→Option (List Int×Bool×List Bool)} (ih:∀ {w0:World} {S:Nat→Prop} {bP oP:Nat} {A:Option Addr} {c:Nat} {F:List Nat} {A0_:Option Addr} {c0_:Nat} {v1_:Value} {v2_:Value} {v3_:Value} {x1:L20SearchP} {p:Plan} {order:List Int} {used:Int} {r:List Int×Bool×List Bool} (hp:(MP.cells ⟨bP,oP,none⟩ [(.slice A0_ x1.list.length c0_),(.slice A x1.failed.length c)]).pred w0 S) (hl0_:lrep w0 S [.slice A0_ x1.list.length c0_] x1.list) (hO:lown w0 F [(.slice A x1.failed.length c)] x1.failed) (hn:F.Nodup) (hSm:∀ c∈F,¬S c) (h1:VR w0 S v1_ p) (h2:VR w0 S v2_ order) (h3:VR w0 S v3_ used) (hF:rec_ x1 p order used=some r),Calls Tryz.prog 101 [(.pointer (some ⟨bP,oP,none⟩)),v1_,v2_,v3_].toArray w0 fun e w'=>∃ v,e=.returned v∧(∃ F',Chg w0 w' F∧lown w' F' [(.slice A x1.failed.length c)] r.2.2∧Back w0 w' F F'∧∃ u0 u1,v=.tuple #[u0,u1]∧VR w' (TX ⟨w0,F⟩ S F') u0 r.1∧VR w' (TX ⟨w0,F⟩ S F') u1 r.2.1)) {w0:World} {S:Nat→Prop} {bP oP:Nat} {A:Option Addr} {c:Nat} {F:List Nat} {A0_:Option Addr} {c0_:Nat} {v1_:Value} {v2_:Value} {v3_:Value} {x1:L20SearchP} {p:Plan} {order:List Int} {used:Int} {r:List Int×Bool×List Bool} (hp:(MP.cells ⟨bP,oP,none⟩ [(.slice A0_ x1.list.length c0_),(.slice A x1.failed.length c)]).pred w0 S) (hl0_:lrep w0 S [.slice A0_ x1.list.length c0_] x1.list) (hO:lown w0 F [(.slice A x1.failed.length c)] x1.failed) (hn:F.Nodup) (hSm:∀ c∈F,¬S c) (h1:VR w0 S v1_ p) (h2:VR w0 S v2_ order) (h3:VR w0 S v3_ used) (hF:vY fu rec_ x1 p order used=some r) :
    Calls Tryz.prog 101 [(.pointer (some ⟨bP,oP,none⟩)),v1_,v2_,v3_].toArray w0 fun e w'=>∃ v,e=.returned v∧(∃ F',Chg w0 w' F∧lown w' F' [(.slice A x1.failed.length c)] r.2.2∧Back w0 w' F F'∧∃ u0 u1,v=.tuple #[u0,u1]∧VR w' (TX ⟨w0,F⟩ S F') u0 r.1∧VR w' (TX ⟨w0,F⟩ S F') u1 r.2.1):=by
 obtain ⟨A2,c2,A3,c3,A4,c4,rfl,hl,hl2,hl3⟩:=uD h1
 obtain ⟨A5,c5,rfl,hl4⟩:=u4 h2
 obtain rfl:=uv h3
 have H:=Mem.startG S (show GoTy.own w0 F [(.slice A x1.failed.length c)] x1.failed from hO) hn
 obtain ⟨Fs,E,H,-⟩:=H.thaw rfl
 have H:=H.rowSh 0 rfl
 have H:=H.argB hSm (p:=MP.cells ⟨bP,oP,none⟩ [(.slice A0_ x1.list.length c0_),(.slice A x1.failed.length c)]) hp
 have H:=H.argB hSm (p:=MP.val [(.slice A0_ x1.list.length c0_)] x1.list) hl0_
 have H:=H.argB hSm (p:=MP.val [(.slice A2 p.Network.Nodes.length c2)] p.Network.Nodes) hl
 have H:=H.argB hSm (p:=MP.val [(.slice A3 p.Network.Fibers.length c3)] p.Network.Fibers) hl2
 have H:=H.argB hSm (p:=MP.val [(.slice A4 p.Lights.length c4)] p.Lights) hl3
 have H:=H.argB hSm (p:=MP.val [(.slice A5 order.length c5)] order) hl4
 refine en Tryz.func101 fun a hf=>?_
 rw [vY] at hF
 refine bx hf H fun b' a w hf H=>?_
 refine pz 2 hf fun a hf=>?_
 refine we (sqz (pz 5 hf fun a hf=>?_))
 refine oq hf (uI hf H TF.ls70 5 0 rfl rfl rfl) fun a hf=>?_
 refine pz 2 hf fun a hf=>?_
 refine ub (ua (ib hF hf (fun hc hF=>?_) fun hc hF=>?_))
 refine sqz (pz 3 hf fun a hf=>?_)
 have hf:=hf.pn [8,9]
 refine ub (ua (wp_ret (uf (?_))))
 obtain rfl:=oi hF
 refine vL hf rfl (uE hf rfl) (uE hf rfl) ?_
 exact ⟨_,rfl,_,H.chg,(H.rowOut rfl rfl).1,(H.rowOut rfl rfl).2,_,_,rfl,(uB (gfi (α:=List Int) (H.get 0 rfl))),uk⟩
 refine wp_skip (ua (sq (sqz (pz 3 hf fun a hf=>?_))))
 refine oq hf (uI hf H TF.gk9 5 1 rfl rfl rfl) fun a hf=>?_
 refine pz 1 hf fun a hf=>?_
 obtain ⟨e,he,hF⟩:=bs_ hF
 refine wl0 rfl (vD hf H Tryz.underlying143 TF.sz4 0 rfl rfl rfl he (by decide) fun p2 o cs a hf hA hr hk=>?_)
 obtain rfl:=hr
 refine oq hf (gdd hf TF.ls4 rfl (hk 0 _ rfl)) fun a hf=>?_
 have hf:=hf.pn [0,2,3,5,30]
 refine ub (ua (ib hF hf (fun hc2 hF=>?_) fun hc2 hF=>?_))
 refine sqz (pz 3 hf fun a hf=>?_)
 refine ub (ua (wp_ret (uf (?_))))
 obtain rfl:=oi hF
 refine vL hf rfl (uE hf rfl) (uE hf rfl) ?_
 exact ⟨_,rfl,_,H.chg,(H.rowOut rfl rfl).1,(H.rowOut rfl rfl).2,_,_,rfl,(uB (gfi (α:=List Int) (H.get 0 rfl))),uk⟩
 refine wp_skip (ua (sq (sqz (pz 1 hf fun a hf=>?_))))
 refine ub (ua ?_)
 obtain ⟨out',hB1,hF⟩:=bs_ hF
 have hf:=hf.pn [0,2,3,5,10]
 have hf:Fr a 86 [(0,(.pointer (some ⟨bP,oP + 0,none⟩))),(2,(.slice A5 order.length c5)),(3,(.int .i64 used)),(5,(.pointer (some ⟨b',0,none⟩))),(10,(.int .i64 0))]:=by first | exact hf | (simp only [List.length_set] at hf; exact hf)
 have H:=H.lm 1 1 0 6 63
 refine vU (fun (s:Int×List Bool) (a:Act) (w:World)=>match s with | (i,m)=>∃ (E2:Go.TypeId),m.length=x1.failed.length∧Fr a 86 [(0,(.pointer (some ⟨bP,oP + 0,none⟩))),(2,(.slice A5 order.length c5)),(3,(.int .i64 used)),(5,(.pointer (some ⟨b',0,none⟩))),(10,(.int .i64 i))]∧Mem ⟨w0,F⟩ S [⟨b',30,[(.slice A2 p.Network.Nodes.length c2),(.slice A3 p.Network.Fibers.length c3),(.slice A4 p.Lights.length c4)]⟩] [⟨.sh true,E2,A,c,(m:List Bool)⟩] [] [(false,MP.val [(.slice A5 order.length c5)] (order:List Int)),(false,MP.val [(.slice A4 p.Lights.length c4)] (p.Lights:List Light)),(false,MP.val [(.slice A3 p.Network.Fibers.length c3)] (p.Network.Fibers:List Fiber)),(false,MP.val [(.slice A2 p.Network.Nodes.length c2)] (p.Network.Nodes:List ByteArray)),(false,MP.val [(.slice A0_ x1.list.length c0_)] (x1.list:List Action)),(false,MP.cells ⟨bP,oP,none⟩ [(.slice A0_ x1.list.length c0_),(.slice A x1.failed.length c)])] w) (fun k (s:Int×List Bool)=>uM fu x1 p order used rec_ k s.1 s.2=some out') (fun s=>out'=Out.next s) (0,x1.failed) fu hB1 ⟨E,rfl,hf,H⟩ (fun s h=>by cases h) ?_ ?_
 rintro fk ⟨i,m⟩ a w hR1 hI
 replace hR1:uM fu x1 p order used rec_ (fk + 1) i m=some out':=hR1
 rw [uM] at hR1
 obtain ⟨E2,hlen,hf,H⟩:=hI
 have hf:Fr a 86 [(0,(.pointer (some ⟨bP,oP + 0,none⟩))),(2,(.slice A5 order.length c5)),(3,(.int .i64 used)),(5,(.pointer (some ⟨b',0,none⟩))),(10,(.int .i64 i))]:=by first | (rw [hlen]; exact hf) | exact hf
 refine sq (sqz (pz 4 hf fun a hf=>?_))
 refine oq hf (uI hf H TF.ls70 5 0 rfl rfl rfl) fun a hf=>?_
 refine pz 2 hf fun a hf=>?_
 refine ub (ua (ib hR1 hf (fun hc3 hR1=>?_) fun hc3 hR1=>?_))
 refine wp_skip (ua (sq (wp_block (sq (sqz (pz 2 hf fun a hf=>?_))))))
 refine oq hf (zk u64w Tryz.underlying3 Tryz.underlying128 hf rfl) fun a hf=>?_
 obtain ⟨q,hq,hR1⟩:=bs_ hR1
 refine oq hf (gjO hf rfl rfl hq) fun a hf=>?_
 refine pz 2 hf fun a hf=>?_
 refine ub (ua (ib hR1 hf (fun hc4 hR1=>?_) fun hc4 hR1=>?_))
 refine wp_exit (uy (vJ (?_)))
 refine ua (reg (pz 3 hf fun a hf=>?_))
 have hf:=hf.pn [0,2,3,5,10]
 refine ub ?_
 have hf:=hf.pn [0,2,3,5,10]
 have hf:Fr a 86 [(0,(.pointer (some ⟨bP,oP + 0,none⟩))),(2,(.slice A5 order.length c5)),(3,(.int .i64 used)),(5,(.pointer (some ⟨b',0,none⟩))),(10,(.int .i64 (w64 (i + 1))))]:=by first | exact hf | (simp only [List.length_set,hlen] at hf; exact hf)
 have H:=H.lm 1 1 0 6 63
 exact ua ⟨(w64 (i + 1),m),hR1,E2,(by simp only [List.length_set,hlen]),hf,H⟩
 refine wp_skip (ua (sq ?_))
 obtain ⟨e2,he2,hR1⟩:=bs_ hR1
 obtain ⟨y,hy,hR1⟩:=bs_ hR1
 refine mid (fun a w=>∃ (b2:Nat) (A7:Option Addr) (c7:Nat) (A8:Option Addr) (c8:Nat) (A9:Option Addr) (c9:Nat),Fr a 86 [(0,(.pointer (some ⟨bP,oP + 0,none⟩))),(2,(.slice A5 order.length c5)),(3,(.int .i64 used)),(5,(.pointer (some ⟨b',0,none⟩))),(10,(.int .i64 i)),(11,(.pointer (some ⟨b2,0,none⟩))),(12,(.bool y.2))]∧Mem ⟨w0,F⟩ S [⟨b2,30,[(.slice A7 y.1.Network.Nodes.length c7),(.slice A8 y.1.Network.Fibers.length c8),(.slice A9 y.1.Lights.length c9)]⟩,⟨b',30,[(.slice A2 p.Network.Nodes.length c2),(.slice A3 p.Network.Fibers.length c3),(.slice A4 p.Lights.length c4)]⟩] [⟨.sh true,E2,A,c,(m:List Bool)⟩] [] [(true,MP.val [(.slice A9 y.1.Lights.length c9)] (y.1.Lights:List Light)),(true,MP.val [(.slice A8 y.1.Network.Fibers.length c8)] (y.1.Network.Fibers:List Fiber)),(true,MP.val [(.slice A7 y.1.Network.Nodes.length c7)] (y.1.Network.Nodes:List ByteArray)),(false,MP.val [(.slice A5 order.length c5)] (order:List Int)),(false,MP.val [(.slice A4 p.Lights.length c4)] (p.Lights:List Light)),(false,MP.val [(.slice A3 p.Network.Fibers.length c3)] (p.Network.Fibers:List Fiber)),(false,MP.val [(.slice A2 p.Network.Nodes.length c2)] (p.Network.Nodes:List ByteArray)),(false,MP.val [(.slice A0_ x1.list.length c0_)] (x1.list:List Action)),(false,MP.cells ⟨bP,oP,none⟩ [(.slice A0_ x1.list.length c0_),(.slice A x1.failed.length c)])] w) ?_ ?_
 refine dw [13] 15 fun w hb=>?_
 have H:=H.keep hb
 refine strT (H.lk 1 0 0 []) (fun w H=>trivial) fun hS=>?_
 refine zS 0 [0,8,9,10,11,13,14] rfl rfl rfl rfl hf hS (fun w H=>ul hf H TF.la30 0 rfl rfl rfl rfl) fun a hf=>?_
 refine zp 1 hf hS fun a hf=>?_
 refine zp 2 hf hS fun a hf=>?_
 refine zp 3 hf hS fun a hf=>?_
 refine strT (H.lk 1 0 0 [5]) (fun w H=>H.lk 1 0 0 []) fun hS=>?_
 refine zS 4 [4,6,7,8,9,10,11,13,14] rfl rfl rfl rfl hf hS (fun w H=>uI hf H TF.ls70 0 0 rfl rfl rfl) fun a hf=>?_
 refine zp 5 hf hS fun a hf=>?_
 obtain ⟨p3,o2,cs2,hx,hr2,hcl⟩:=ge0 Tryz.underlying70 TF.gce hl0_ he2
 refine zP 6 rfl rfl rfl rfl hf hS (fun w=>uu hf rfl rfl rfl hx w) fun a hf=>?_
 obtain ⟨A6,c6,rfl,hl5⟩:=zI hr2
 have H:=H.argB hSm (p:=MP.cells ⟨p3,o2,none⟩ [(.int .i64 e2.Kind),(.int .i64 e2.Light.Id),(.int .i64 e2.Light.Route.Start),(.slice A6 e2.Light.Route.Fibers.length c6),(.int .i64 e2.Light.Block.First),(.int .i64 e2.Light.Block.Count)]) hcl
 have H:=H.argB hSm (p:=MP.val [(.slice A6 e2.Light.Route.Fibers.length c6)] e2.Light.Route.Fibers) hl5
 refine strT (H.lk 1 0 0 [1,7]) (fun w H=>H.lk 1 0 0 [1]) fun hS=>?_
 refine zS 7 [7,8,9,10,11,13,14] rfl rfl rfl rfl hf hS (fun w H=>uz hf H TF.gck 0 0 rfl rfl rfl rfl) fun a hf=>?_
 refine on2 (i:=8) (j:=12) (bi:=[true,true,true,true,true,true,true,true,true,false,false,false,false,false,false]) (bj:=[true,true,true,true,true,true,true,true,false,false,false,false,true,false,false]) (by kernel_rfl) rfl rfl rfl rfl rfl rfl ?_ ?_
 refine (oC hf TF.giO (z4 (S:=TT) (uj (x:=p) (H.rt 5 rfl) (H.rt 4 rfl) (H.rt 3 rfl)) (gaE (x:=e2) (H.rt 0 rfl)) hy) fun v w a hp hf=>?_)
 obtain ⟨hb,v2,v3,rfl,hp2,hp3⟩:=hp
 obtain ⟨A7,c7,A8,c8,A9,c9,rfl,hl6,hl7,hl8⟩:=uD hp2
 replace hl6:=H.rF hl6
 replace hl7:=H.rF hl7
 replace hl8:=H.rF hl8
 obtain rfl:=uo hp3
 have H:=H.keep hb
 have H:=H.pT hl6
 have H:=H.pT hl7
 have H:=H.pT hl8
 have hS:=H.lk 1 0 0 [4,10]
 refine aS hS ?_
 refine zp 9 hf hS fun a hf=>?_
 refine zp 10 hf hS fun a hf=>?_
 refine zp 11 hf hS fun a hf=>?_
 refine nn 12 rfl (vc hf H TF.zv30 rfl (by decide) fun b2 a w hf H=>?_)
 have hS:=H.lk 2 0 0 [4,10]
 refine aS hS ?_
 refine nn 13 rfl (uh hf H 0 TF.sz30 rfl rfl rfl rfl rfl rfl (nle rfl) fun w H=>?_)
 refine ⟨fun h=>absurd h (by decide),?_⟩
 refine tp 14 rfl rfl hf (by kernel_rfl) (fun h=>absurd h (by decide)) rfl fun a hf=>?_
 refine dk ?_
 have hf:=hf.pn [0,2,3,5,10,11,12]
 have H:=H.lm 3 1 0 11 2023
 exact ⟨b2,A7,c7,A8,c8,A9,c9,hf,H⟩
 refine (vc hf H TF.zv30 rfl (by decide) fun b2 a w hf H=>?_)
 have hS:=H.lk 2 0 0 [1,7]
 refine aS hS ?_
 refine nn 8 rfl (oC hf TF.giO (z4 (S:=TT) (uj (x:=p) (H.rt 5 rfl) (H.rt 4 rfl) (H.rt 3 rfl)) (gaE (x:=e2) (H.rt 0 rfl)) hy) fun v w a hp hf=>?_)
 obtain ⟨hb,v2,v3,rfl,hp2,hp3⟩:=hp
 obtain ⟨A7,c7,A8,c8,A9,c9,rfl,hl6,hl7,hl8⟩:=uD hp2
 replace hl6:=H.rF hl6
 replace hl7:=H.rF hl7
 replace hl8:=H.rF hl8
 obtain rfl:=uo hp3
 have H:=H.keep hb
 have H:=H.pT hl6
 have H:=H.pT hl7
 have H:=H.pT hl8
 have hS:=H.lk 2 0 0 [4,10]
 refine aS hS ?_
 refine zp 9 hf hS fun a hf=>?_
 refine zp 10 hf hS fun a hf=>?_
 refine zp 11 hf hS fun a hf=>?_
 refine nn 13 rfl (uh hf H 0 TF.sz30 rfl rfl rfl rfl rfl rfl (nle rfl) fun w H=>?_)
 refine ⟨fun h=>absurd h (by decide),?_⟩
 refine tp 14 rfl rfl hf (by kernel_rfl) (fun h=>absurd h (by decide)) rfl fun a hf=>?_
 refine dk ?_
 have hf:=hf.pn [0,2,3,5,10,11,12]
 have H:=H.lm 3 1 0 11 2023
 exact ⟨b2,A7,c7,A8,c8,A9,c9,hf,H⟩
 rintro a w ⟨b2,A7,c7,A8,c8,A9,c9,hf,H⟩
 refine ua (sq (sqz (pz 2 hf fun a hf=>?_)))
 refine ub (ua (ib hR1 hf (fun hc5 hR1=>?_) fun hc5 hR1=>?_))
 refine wp_exit (uy (vJ (?_)))
 refine ua (reg (pz 3 hf fun a hf=>?_))
 refine ub ?_
 have hf:=hf.pn [0,2,3,5,10]
 have hf:Fr a 86 [(0,(.pointer (some ⟨bP,oP + 0,none⟩))),(2,(.slice A5 order.length c5)),(3,(.int .i64 used)),(5,(.pointer (some ⟨b',0,none⟩))),(10,(.int .i64 (w64 (i + 1))))]:=by first | exact hf | (simp only [List.length_set,hlen] at hf; exact hf)
 have H:=H.lm 2 1 0 9 504
 exact ua ⟨(w64 (i + 1),m),hR1,E2,(by simp only [List.length_set,hlen]),hf,H⟩
 refine wp_skip (ua (sq ?_))
 obtain ⟨y2,hy2,hR1⟩:=bs_ hR1
 obtain ⟨l,hl_,hR1⟩:=bs_ hR1
 obtain ⟨q2,hq2,hR1⟩:=bs_ hR1
 obtain ⟨y3,hy3,hR1⟩:=bs_ hR1
 refine mid (fun a w=>∃ (E5:Go.TypeId) (A13:Option Addr) (c12:Nat),y3.2.2.length=m.length∧Fr a 86 [(0,(.pointer (some ⟨bP,oP + 0,none⟩))),(2,(.slice A5 order.length c5)),(3,(.int .i64 used)),(5,(.pointer (some ⟨b',0,none⟩))),(10,(.int .i64 i)),(13,(.slice A13 y3.1.length c12)),(14,(.bool y3.2.1))]∧Mem ⟨w0,F⟩ S [⟨b',30,[(.slice A2 p.Network.Nodes.length c2),(.slice A3 p.Network.Fibers.length c3),(.slice A4 p.Lights.length c4)]⟩] [⟨.sh true,E5,A,c,(y3.2.2:List Bool)⟩] [] [(false,MP.val [(.slice A13 y3.1.length c12)] (y3.1:List Int)),(false,MP.val [(.slice A5 order.length c5)] (order:List Int)),(false,MP.val [(.slice A4 p.Lights.length c4)] (p.Lights:List Light)),(false,MP.val [(.slice A3 p.Network.Fibers.length c3)] (p.Network.Fibers:List Fiber)),(false,MP.val [(.slice A2 p.Network.Nodes.length c2)] (p.Network.Nodes:List ByteArray)),(false,MP.val [(.slice A0_ x1.list.length c0_)] (x1.list:List Action)),(false,MP.cells ⟨bP,oP,none⟩ [(.slice A0_ x1.list.length c0_),(.slice A x1.failed.length c)])] w) ?_ ?_
 refine dw [12] 18 fun w hb=>?_
 have H:=H.keep hb
 refine zp 0 hf trivial fun a hf=>?_
 refine strT (H.lk 1 0 0 []) (fun w H=>trivial) fun hS=>?_
 refine zS 1 [1,12,13,14,15,16,17] rfl rfl rfl rfl hf hS (fun w H=>ul hf H TF.la30 0 rfl rfl rfl rfl) fun a hf=>?_
 refine zp 2 hf hS fun a hf=>?_
 refine zp 4 hf hS fun a hf=>?_
 refine zp 7 hf hS fun a hf=>?_
 refine zp 8 hf hS fun a hf=>?_
 refine on3 (i:=3) (j:=5) (k:=9) (bi:=[true,true,true,true,true,false,false,true,true,false,false,false,false,false,false,false,false,false]) (bj:=[true,true,true,false,true,true,false,true,true,false,false,false,false,false,false,false,false,false]) (bk:=[true,true,true,false,true,false,false,true,true,true,false,false,false,false,false,false,false,false]) (by kernel_rfl) rfl rfl rfl rfl rfl rfl rfl rfl rfl ?_ ?_ ?_
 refine (oC hf TF.ghw (zK (S:=TT) (uB (H.rt 3 rfl)) hy2) fun v4 w a hp4 hf=>?_)
 obtain ⟨hb2,F2,hp5,hN⟩:=hp4
 obtain ⟨A10,c10,rfl,hl9⟩:=xP hp5
 obtain ⟨Fs2,E3,H⟩:=H.addRow hb2 hl9 hN
 have H:=H.rowSh 0 rfl
 have hS:=H.lk 1 0 0 []
 refine aS hS ?_
 refine on2 (i:=5) (j:=9) (bi:=[true,true,true,true,true,true,false,true,true,false,false,false,false,false,false,false,false,false]) (bj:=[true,true,true,true,true,false,false,true,true,true,false,false,false,false,false,false,false,false]) (by kernel_rfl) rfl rfl rfl rfl rfl rfl ?_ ?_
 refine (bl hf H 3 ([i]:List Int) [(.int .i64 i)] (el1 (y:=i) (rfl)) fun A11 a w hf H=>?_)
 have hS:=H.lk 1 0 0 []
 refine aS hS ?_
 refine on2 (i:=6) (j:=9) (bi:=[true,true,true,true,true,true,true,true,true,false,false,false,false,false,false,false,false,false]) (bj:=[true,true,true,true,true,true,false,true,true,true,false,false,false,false,false,false,false,false]) (by kernel_rfl) rfl rfl rfl rfl rfl rfl ?_ ?_
 refine (xg hf H Tryz.underlying35 TF.ai3 rfl (by decide) 1 0 rfl rfl rfl rfl (.inr rfl) hl_ (by decide) fun E4 A12 c11 a w hf H=>?_)
 have hS:=H.lk 1 0 0 []
 refine aS hS ?_
 refine nn 9 rfl (op_q hf (zk u64w Tryz.underlying3 Tryz.underlying128 hf rfl) rfl (by decide) fun a hf=>?_)
 have hS:=H.lk 1 0 0 []
 refine aS hS ?_
 refine zP 10 rfl rfl rfl rfl hf hS (fun w=>gbI hf rfl rfl hq2) fun a hf=>?_
 refine zp 11 hf hS fun a hf=>?_
 have H:=H.freeze 1 rfl
 have H:=H.frontR 1 rfl
 refine nn 12 rfl (oC hf TF.gfu (ih (x1:=({ list:=x1.list,failed:=m }:L20SearchP)) (by simp only [List.length_set,hlen]; exact H.weakQ 9 rfl) (uK (α:=List Action) (H.get 8 rfl)) (H.callRow rfl rfl).1 (H.callRow rfl rfl).2.1 (H.callRow rfl rfl).2.2 (uj (x:=y.1) (uK (α:=List ByteArray) (H.get 3 rfl)) (uK (α:=List Fiber) (H.get 2 rfl)) (uK (α:=List Light) (H.get 1 rfl))) (uB (uK (α:=List Int) (H.get 0 rfl))) ug hy3) fun v5 w a hp6 hf=>?_)
 obtain ⟨F4,hch,ho,hbk,hp6⟩:=hp6
 obtain ⟨E5,hlen2,H,hmv⟩:=H.wroteRow rfl hch ho hbk
 obtain ⟨v6,v7,rfl,hp7,hp8⟩:=hp6
 obtain ⟨A13,c12,rfl,hl10⟩:=u4 hp7
 replace hl10:=GoTy.mono (α:=List Int) hl10 hmv
 obtain rfl:=uo hp8
 have hf:=hf.pn [0,2,3,5,10,11,12,59,60,62,63,64,65,66,67,68,69,70,71,72,73,74]
 have H:=H.pF hl10
 refine ⟨fun h=>absurd h (by decide),?_⟩
 refine tp 13 rfl rfl hf (by kernel_rfl) (fun h=>absurd h (by decide)) rfl fun a hf=>?_
 refine tp 14 rfl rfl hf (by kernel_rfl) (fun h=>absurd h (by decide)) rfl fun a hf=>?_
 refine tp 15 rfl rfl hf (by kernel_rfl) (fun h=>absurd h (by decide)) rfl fun a hf=>?_
 refine tp 16 rfl rfl hf (by kernel_rfl) (fun h=>absurd h (by decide)) rfl fun a hf=>?_
 refine tp 17 rfl rfl hf (by kernel_rfl) (fun h=>absurd h (by decide)) rfl fun a hf=>?_
 refine dk ?_
 have hf:=hf.pn [0,2,3,5,10,13,14]
 have H:=H.lm 2 1 0 11 2017
 exact ⟨E5,A13,c12,hlen2,hf,H⟩
 refine (op_q hf (zk u64w Tryz.underlying3 Tryz.underlying128 hf rfl) rfl (by decide) fun a hf=>?_)
 have hS:=H.lk 1 0 0 []
 refine aS hS ?_
 refine zP 10 rfl rfl rfl rfl hf hS (fun w=>gbI hf rfl rfl hq2) fun a hf=>?_
 refine zp 11 hf hS fun a hf=>?_
 refine nn 6 rfl (xg hf H Tryz.underlying35 TF.ai3 rfl (by decide) 1 0 rfl rfl rfl rfl (.inr rfl) hl_ (by decide) fun E4 A12 c11 a w hf H=>?_)
 have hS:=H.lk 1 0 0 []
 refine aS hS ?_
 have H:=H.freeze 1 rfl
 have H:=H.frontR 1 rfl
 refine nn 12 rfl (oC hf TF.gfu (ih (x1:=({ list:=x1.list,failed:=m }:L20SearchP)) (by simp only [List.length_set,hlen]; exact H.weakQ 9 rfl) (uK (α:=List Action) (H.get 8 rfl)) (H.callRow rfl rfl).1 (H.callRow rfl rfl).2.1 (H.callRow rfl rfl).2.2 (uj (x:=y.1) (uK (α:=List ByteArray) (H.get 3 rfl)) (uK (α:=List Fiber) (H.get 2 rfl)) (uK (α:=List Light) (H.get 1 rfl))) (uB (uK (α:=List Int) (H.get 0 rfl))) ug hy3) fun v5 w a hp6 hf=>?_)
 obtain ⟨F4,hch,ho,hbk,hp6⟩:=hp6
 obtain ⟨E5,hlen2,H,hmv⟩:=H.wroteRow rfl hch ho hbk
 obtain ⟨v6,v7,rfl,hp7,hp8⟩:=hp6
 obtain ⟨A13,c12,rfl,hl10⟩:=u4 hp7
 replace hl10:=GoTy.mono (α:=List Int) hl10 hmv
 obtain rfl:=uo hp8
 have hf:=hf.pn [0,2,3,5,10,11,12,59,60,62,63,64,65,66,67,68,69,70,71,72,73,74]
 have H:=H.pF hl10
 refine ⟨fun h=>absurd h (by decide),?_⟩
 refine tp 13 rfl rfl hf (by kernel_rfl) (fun h=>absurd h (by decide)) rfl fun a hf=>?_
 refine tp 14 rfl rfl hf (by kernel_rfl) (fun h=>absurd h (by decide)) rfl fun a hf=>?_
 refine tp 15 rfl rfl hf (by kernel_rfl) (fun h=>absurd h (by decide)) rfl fun a hf=>?_
 refine tp 16 rfl rfl hf (by kernel_rfl) (fun h=>absurd h (by decide)) rfl fun a hf=>?_
 refine tp 17 rfl rfl hf (by kernel_rfl) (fun h=>absurd h (by decide)) rfl fun a hf=>?_
 refine dk ?_
 have hf:=hf.pn [0,2,3,5,10,13,14]
 have H:=H.lm 2 1 0 11 2017
 exact ⟨E5,A13,c12,hlen2,hf,H⟩
 refine (op_q hf (zk u64w Tryz.underlying3 Tryz.underlying128 hf rfl) rfl (by decide) fun a hf=>?_)
 have hS:=H.lk 1 0 0 []
 refine aS hS ?_
 refine zP 10 rfl rfl rfl rfl hf hS (fun w=>gbI hf rfl rfl hq2) fun a hf=>?_
 refine zp 11 hf hS fun a hf=>?_
 refine nn 5 rfl (bl hf H 3 ([i]:List Int) [(.int .i64 i)] (el1 (y:=i) (rfl)) fun A11 a w hf H=>?_)
 have hS:=H.lk 1 0 0 []
 refine aS hS ?_
 refine nn 6 rfl (xg hf H Tryz.underlying35 TF.ai3 rfl (by decide) 1 0 rfl rfl rfl rfl (.inr rfl) hl_ (by decide) fun E4 A12 c11 a w hf H=>?_)
 have hS:=H.lk 1 0 0 []
 refine aS hS ?_
 have H:=H.freeze 1 rfl
 have H:=H.frontR 1 rfl
 refine nn 12 rfl (oC hf TF.gfu (ih (x1:=({ list:=x1.list,failed:=m }:L20SearchP)) (by simp only [List.length_set,hlen]; exact H.weakQ 9 rfl) (uK (α:=List Action) (H.get 8 rfl)) (H.callRow rfl rfl).1 (H.callRow rfl rfl).2.1 (H.callRow rfl rfl).2.2 (uj (x:=y.1) (uK (α:=List ByteArray) (H.get 3 rfl)) (uK (α:=List Fiber) (H.get 2 rfl)) (uK (α:=List Light) (H.get 1 rfl))) (uB (uK (α:=List Int) (H.get 0 rfl))) ug hy3) fun v5 w a hp6 hf=>?_)
 obtain ⟨F4,hch,ho,hbk,hp6⟩:=hp6
 obtain ⟨E5,hlen2,H,hmv⟩:=H.wroteRow rfl hch ho hbk
 obtain ⟨v6,v7,rfl,hp7,hp8⟩:=hp6
 obtain ⟨A13,c12,rfl,hl10⟩:=u4 hp7
 replace hl10:=GoTy.mono (α:=List Int) hl10 hmv
 obtain rfl:=uo hp8
 have hf:=hf.pn [0,2,3,5,10,11,12,59,60,62,63,64,65,66,67,68,69,70,71,72,73,74]
 have H:=H.pF hl10
 refine ⟨fun h=>absurd h (by decide),?_⟩
 refine tp 13 rfl rfl hf (by kernel_rfl) (fun h=>absurd h (by decide)) rfl fun a hf=>?_
 refine tp 14 rfl rfl hf (by kernel_rfl) (fun h=>absurd h (by decide)) rfl fun a hf=>?_
 refine tp 15 rfl rfl hf (by kernel_rfl) (fun h=>absurd h (by decide)) rfl fun a hf=>?_
 refine tp 16 rfl rfl hf (by kernel_rfl) (fun h=>absurd h (by decide)) rfl fun a hf=>?_
 refine tp 17 rfl rfl hf (by kernel_rfl) (fun h=>absurd h (by decide)) rfl fun a hf=>?_
 refine dk ?_
 have hf:=hf.pn [0,2,3,5,10,13,14]
 have H:=H.lm 2 1 0 11 2017
 exact ⟨E5,A13,c12,hlen2,hf,H⟩
 refine (bl hf H 3 ([i]:List Int) [(.int .i64 i)] (el1 (y:=i) (rfl)) fun A10 a w hf H=>?_)
 have hS:=H.lk 1 0 0 []
 refine aS hS ?_
 refine on2 (i:=3) (j:=9) (bi:=[true,true,true,true,true,true,false,true,true,false,false,false,false,false,false,false,false,false]) (bj:=[true,true,true,false,true,true,false,true,true,true,false,false,false,false,false,false,false,false]) (by kernel_rfl) rfl rfl rfl rfl rfl rfl ?_ ?_
 refine (oC hf TF.ghw (zK (S:=TT) (uB (H.rt 3 rfl)) hy2) fun v4 w a hp4 hf=>?_)
 obtain ⟨hb2,F2,hp5,hN⟩:=hp4
 obtain ⟨A11,c10,rfl,hl9⟩:=xP hp5
 obtain ⟨Fs2,E3,H⟩:=H.addRow hb2 hl9 hN
 have H:=H.rowSh 0 rfl
 have hS:=H.lk 1 0 0 []
 refine aS hS ?_
 refine on2 (i:=6) (j:=9) (bi:=[true,true,true,true,true,true,true,true,true,false,false,false,false,false,false,false,false,false]) (bj:=[true,true,true,true,true,true,false,true,true,true,false,false,false,false,false,false,false,false]) (by kernel_rfl) rfl rfl rfl rfl rfl rfl ?_ ?_
 refine (xg hf H Tryz.underlying35 TF.ai3 rfl (by decide) 0 1 rfl rfl rfl rfl (.inr rfl) hl_ (by decide) fun E4 A12 c11 a w hf H=>?_)
 have hS:=H.lk 1 0 0 []
 refine aS hS ?_
 refine nn 9 rfl (op_q hf (zk u64w Tryz.underlying3 Tryz.underlying128 hf rfl) rfl (by decide) fun a hf=>?_)
 have hS:=H.lk 1 0 0 []
 refine aS hS ?_
 refine zP 10 rfl rfl rfl rfl hf hS (fun w=>gbI hf rfl rfl hq2) fun a hf=>?_
 refine zp 11 hf hS fun a hf=>?_
 have H:=H.freeze 0 rfl
 have H:=H.frontR 1 rfl
 refine nn 12 rfl (oC hf TF.gfu (ih (x1:=({ list:=x1.list,failed:=m }:L20SearchP)) (by simp only [List.length_set,hlen]; exact H.weakQ 9 rfl) (uK (α:=List Action) (H.get 8 rfl)) (H.callRow rfl rfl).1 (H.callRow rfl rfl).2.1 (H.callRow rfl rfl).2.2 (uj (x:=y.1) (uK (α:=List ByteArray) (H.get 3 rfl)) (uK (α:=List Fiber) (H.get 2 rfl)) (uK (α:=List Light) (H.get 1 rfl))) (uB (uK (α:=List Int) (H.get 0 rfl))) ug hy3) fun v5 w a hp6 hf=>?_)
 obtain ⟨F4,hch,ho,hbk,hp6⟩:=hp6
 obtain ⟨E5,hlen2,H,hmv⟩:=H.wroteRow rfl hch ho hbk
 obtain ⟨v6,v7,rfl,hp7,hp8⟩:=hp6
 obtain ⟨A13,c12,rfl,hl10⟩:=u4 hp7
 replace hl10:=GoTy.mono (α:=List Int) hl10 hmv
 obtain rfl:=uo hp8
 have hf:=hf.pn [0,2,3,5,10,11,12,59,60,62,63,64,65,66,67,68,69,70,71,72,73,74]
 have H:=H.pF hl10
 refine ⟨fun h=>absurd h (by decide),?_⟩
 refine tp 13 rfl rfl hf (by kernel_rfl) (fun h=>absurd h (by decide)) rfl fun a hf=>?_
 refine tp 14 rfl rfl hf (by kernel_rfl) (fun h=>absurd h (by decide)) rfl fun a hf=>?_
 refine tp 15 rfl rfl hf (by kernel_rfl) (fun h=>absurd h (by decide)) rfl fun a hf=>?_
 refine tp 16 rfl rfl hf (by kernel_rfl) (fun h=>absurd h (by decide)) rfl fun a hf=>?_
 refine tp 17 rfl rfl hf (by kernel_rfl) (fun h=>absurd h (by decide)) rfl fun a hf=>?_
 refine dk ?_
 have hf:=hf.pn [0,2,3,5,10,13,14]
 have H:=H.lm 2 1 0 11 2017
 exact ⟨E5,A13,c12,hlen2,hf,H⟩
 refine (op_q hf (zk u64w Tryz.underlying3 Tryz.underlying128 hf rfl) rfl (by decide) fun a hf=>?_)
 have hS:=H.lk 1 0 0 []
 refine aS hS ?_
 refine zP 10 rfl rfl rfl rfl hf hS (fun w=>gbI hf rfl rfl hq2) fun a hf=>?_
 refine zp 11 hf hS fun a hf=>?_
 refine nn 6 rfl (xg hf H Tryz.underlying35 TF.ai3 rfl (by decide) 0 1 rfl rfl rfl rfl (.inr rfl) hl_ (by decide) fun E4 A12 c11 a w hf H=>?_)
 have hS:=H.lk 1 0 0 []
 refine aS hS ?_
 have H:=H.freeze 0 rfl
 have H:=H.frontR 1 rfl
 refine nn 12 rfl (oC hf TF.gfu (ih (x1:=({ list:=x1.list,failed:=m }:L20SearchP)) (by simp only [List.length_set,hlen]; exact H.weakQ 9 rfl) (uK (α:=List Action) (H.get 8 rfl)) (H.callRow rfl rfl).1 (H.callRow rfl rfl).2.1 (H.callRow rfl rfl).2.2 (uj (x:=y.1) (uK (α:=List ByteArray) (H.get 3 rfl)) (uK (α:=List Fiber) (H.get 2 rfl)) (uK (α:=List Light) (H.get 1 rfl))) (uB (uK (α:=List Int) (H.get 0 rfl))) ug hy3) fun v5 w a hp6 hf=>?_)
 obtain ⟨F4,hch,ho,hbk,hp6⟩:=hp6
 obtain ⟨E5,hlen2,H,hmv⟩:=H.wroteRow rfl hch ho hbk
 obtain ⟨v6,v7,rfl,hp7,hp8⟩:=hp6
 obtain ⟨A13,c12,rfl,hl10⟩:=u4 hp7
 replace hl10:=GoTy.mono (α:=List Int) hl10 hmv
 obtain rfl:=uo hp8
 have hf:=hf.pn [0,2,3,5,10,11,12,59,60,62,63,64,65,66,67,68,69,70,71,72,73,74]
 have H:=H.pF hl10
 refine ⟨fun h=>absurd h (by decide),?_⟩
 refine tp 13 rfl rfl hf (by kernel_rfl) (fun h=>absurd h (by decide)) rfl fun a hf=>?_
 refine tp 14 rfl rfl hf (by kernel_rfl) (fun h=>absurd h (by decide)) rfl fun a hf=>?_
 refine tp 15 rfl rfl hf (by kernel_rfl) (fun h=>absurd h (by decide)) rfl fun a hf=>?_
 refine tp 16 rfl rfl hf (by kernel_rfl) (fun h=>absurd h (by decide)) rfl fun a hf=>?_
 refine tp 17 rfl rfl hf (by kernel_rfl) (fun h=>absurd h (by decide)) rfl fun a hf=>?_
 refine dk ?_
 have hf:=hf.pn [0,2,3,5,10,13,14]
 have H:=H.lm 2 1 0 11 2017
 exact ⟨E5,A13,c12,hlen2,hf,H⟩
 refine (op_q hf (zk u64w Tryz.underlying3 Tryz.underlying128 hf rfl) rfl (by decide) fun a hf=>?_)
 have hS:=H.lk 1 0 0 []
 refine aS hS ?_
 refine zP 10 rfl rfl rfl rfl hf hS (fun w=>gbI hf rfl rfl hq2) fun a hf=>?_
 refine zp 11 hf hS fun a hf=>?_
 refine nn 3 rfl (oC hf TF.ghw (zK (S:=TT) (uB (H.rt 3 rfl)) hy2) fun v4 w a hp4 hf=>?_)
 obtain ⟨hb2,F2,hp5,hN⟩:=hp4
 obtain ⟨A11,c10,rfl,hl9⟩:=xP hp5
 obtain ⟨Fs2,E3,H⟩:=H.addRow hb2 hl9 hN
 have H:=H.rowSh 0 rfl
 have hS:=H.lk 1 0 0 []
 refine aS hS ?_
 refine nn 6 rfl (xg hf H Tryz.underlying35 TF.ai3 rfl (by decide) 0 1 rfl rfl rfl rfl (.inr rfl) hl_ (by decide) fun E4 A12 c11 a w hf H=>?_)
 have hS:=H.lk 1 0 0 []
 refine aS hS ?_
 have H:=H.freeze 0 rfl
 have H:=H.frontR 1 rfl
 refine nn 12 rfl (oC hf TF.gfu (ih (x1:=({ list:=x1.list,failed:=m }:L20SearchP)) (by simp only [List.length_set,hlen]; exact H.weakQ 9 rfl) (uK (α:=List Action) (H.get 8 rfl)) (H.callRow rfl rfl).1 (H.callRow rfl rfl).2.1 (H.callRow rfl rfl).2.2 (uj (x:=y.1) (uK (α:=List ByteArray) (H.get 3 rfl)) (uK (α:=List Fiber) (H.get 2 rfl)) (uK (α:=List Light) (H.get 1 rfl))) (uB (uK (α:=List Int) (H.get 0 rfl))) ug hy3) fun v5 w a hp6 hf=>?_)
 obtain ⟨F4,hch,ho,hbk,hp6⟩:=hp6
 obtain ⟨E5,hlen2,H,hmv⟩:=H.wroteRow rfl hch ho hbk
 obtain ⟨v6,v7,rfl,hp7,hp8⟩:=hp6
 obtain ⟨A13,c12,rfl,hl10⟩:=u4 hp7
 replace hl10:=GoTy.mono (α:=List Int) hl10 hmv
 obtain rfl:=uo hp8
 have hf:=hf.pn [0,2,3,5,10,11,12,59,60,62,63,64,65,66,67,68,69,70,71,72,73,74]
 have H:=H.pF hl10
 refine ⟨fun h=>absurd h (by decide),?_⟩
 refine tp 13 rfl rfl hf (by kernel_rfl) (fun h=>absurd h (by decide)) rfl fun a hf=>?_
 refine tp 14 rfl rfl hf (by kernel_rfl) (fun h=>absurd h (by decide)) rfl fun a hf=>?_
 refine tp 15 rfl rfl hf (by kernel_rfl) (fun h=>absurd h (by decide)) rfl fun a hf=>?_
 refine tp 16 rfl rfl hf (by kernel_rfl) (fun h=>absurd h (by decide)) rfl fun a hf=>?_
 refine tp 17 rfl rfl hf (by kernel_rfl) (fun h=>absurd h (by decide)) rfl fun a hf=>?_
 refine dk ?_
 have hf:=hf.pn [0,2,3,5,10,13,14]
 have H:=H.lm 2 1 0 11 2017
 exact ⟨E5,A13,c12,hlen2,hf,H⟩
 refine (op_q hf (zk u64w Tryz.underlying3 Tryz.underlying128 hf rfl) rfl (by decide) fun a hf=>?_)
 have hS:=H.lk 1 0 0 []
 refine aS hS ?_
 refine zP 10 rfl rfl rfl rfl hf hS (fun w=>gbI hf rfl rfl hq2) fun a hf=>?_
 refine zp 11 hf hS fun a hf=>?_
 refine on2 (i:=3) (j:=5) (bi:=[true,true,true,true,true,false,false,true,true,true,true,true,false,false,false,false,false,false]) (bj:=[true,true,true,false,true,true,false,true,true,true,true,true,false,false,false,false,false,false]) (by kernel_rfl) rfl rfl rfl rfl rfl rfl ?_ ?_
 refine (oC hf TF.ghw (zK (S:=TT) (uB (H.rt 3 rfl)) hy2) fun v4 w a hp4 hf=>?_)
 obtain ⟨hb2,F2,hp5,hN⟩:=hp4
 obtain ⟨A10,c10,rfl,hl9⟩:=xP hp5
 obtain ⟨Fs2,E3,H⟩:=H.addRow hb2 hl9 hN
 have H:=H.rowSh 0 rfl
 have hS:=H.lk 1 0 0 []
 refine aS hS ?_
 refine nn 5 rfl (bl hf H 3 ([i]:List Int) [(.int .i64 i)] (el1 (y:=i) (rfl)) fun A11 a w hf H=>?_)
 have hS:=H.lk 1 0 0 []
 refine aS hS ?_
 refine nn 6 rfl (xg hf H Tryz.underlying35 TF.ai3 rfl (by decide) 1 0 rfl rfl rfl rfl (.inr rfl) hl_ (by decide) fun E4 A12 c11 a w hf H=>?_)
 have hS:=H.lk 1 0 0 []
 refine aS hS ?_
 have H:=H.freeze 1 rfl
 have H:=H.frontR 1 rfl
 refine nn 12 rfl (oC hf TF.gfu (ih (x1:=({ list:=x1.list,failed:=m }:L20SearchP)) (by simp only [List.length_set,hlen]; exact H.weakQ 9 rfl) (uK (α:=List Action) (H.get 8 rfl)) (H.callRow rfl rfl).1 (H.callRow rfl rfl).2.1 (H.callRow rfl rfl).2.2 (uj (x:=y.1) (uK (α:=List ByteArray) (H.get 3 rfl)) (uK (α:=List Fiber) (H.get 2 rfl)) (uK (α:=List Light) (H.get 1 rfl))) (uB (uK (α:=List Int) (H.get 0 rfl))) ug hy3) fun v5 w a hp6 hf=>?_)
 obtain ⟨F4,hch,ho,hbk,hp6⟩:=hp6
 obtain ⟨E5,hlen2,H,hmv⟩:=H.wroteRow rfl hch ho hbk
 obtain ⟨v6,v7,rfl,hp7,hp8⟩:=hp6
 obtain ⟨A13,c12,rfl,hl10⟩:=u4 hp7
 replace hl10:=GoTy.mono (α:=List Int) hl10 hmv
 obtain rfl:=uo hp8
 have hf:=hf.pn [0,2,3,5,10,11,12,59,60,62,63,64,65,66,67,68,69,70,71,72,73,74]
 have H:=H.pF hl10
 refine ⟨fun h=>absurd h (by decide),?_⟩
 refine tp 13 rfl rfl hf (by kernel_rfl) (fun h=>absurd h (by decide)) rfl fun a hf=>?_
 refine tp 14 rfl rfl hf (by kernel_rfl) (fun h=>absurd h (by decide)) rfl fun a hf=>?_
 refine tp 15 rfl rfl hf (by kernel_rfl) (fun h=>absurd h (by decide)) rfl fun a hf=>?_
 refine tp 16 rfl rfl hf (by kernel_rfl) (fun h=>absurd h (by decide)) rfl fun a hf=>?_
 refine tp 17 rfl rfl hf (by kernel_rfl) (fun h=>absurd h (by decide)) rfl fun a hf=>?_
 refine dk ?_
 have hf:=hf.pn [0,2,3,5,10,13,14]
 have H:=H.lm 2 1 0 11 2017
 exact ⟨E5,A13,c12,hlen2,hf,H⟩
 refine (bl hf H 3 ([i]:List Int) [(.int .i64 i)] (el1 (y:=i) (rfl)) fun A10 a w hf H=>?_)
 have hS:=H.lk 1 0 0 []
 refine aS hS ?_
 refine nn 3 rfl (oC hf TF.ghw (zK (S:=TT) (uB (H.rt 3 rfl)) hy2) fun v4 w a hp4 hf=>?_)
 obtain ⟨hb2,F2,hp5,hN⟩:=hp4
 obtain ⟨A11,c10,rfl,hl9⟩:=xP hp5
 obtain ⟨Fs2,E3,H⟩:=H.addRow hb2 hl9 hN
 have H:=H.rowSh 0 rfl
 have hS:=H.lk 1 0 0 []
 refine aS hS ?_
 refine nn 6 rfl (xg hf H Tryz.underlying35 TF.ai3 rfl (by decide) 0 1 rfl rfl rfl rfl (.inr rfl) hl_ (by decide) fun E4 A12 c11 a w hf H=>?_)
 have hS:=H.lk 1 0 0 []
 refine aS hS ?_
 have H:=H.freeze 0 rfl
 have H:=H.frontR 1 rfl
 refine nn 12 rfl (oC hf TF.gfu (ih (x1:=({ list:=x1.list,failed:=m }:L20SearchP)) (by simp only [List.length_set,hlen]; exact H.weakQ 9 rfl) (uK (α:=List Action) (H.get 8 rfl)) (H.callRow rfl rfl).1 (H.callRow rfl rfl).2.1 (H.callRow rfl rfl).2.2 (uj (x:=y.1) (uK (α:=List ByteArray) (H.get 3 rfl)) (uK (α:=List Fiber) (H.get 2 rfl)) (uK (α:=List Light) (H.get 1 rfl))) (uB (uK (α:=List Int) (H.get 0 rfl))) ug hy3) fun v5 w a hp6 hf=>?_)
 obtain ⟨F4,hch,ho,hbk,hp6⟩:=hp6
 obtain ⟨E5,hlen2,H,hmv⟩:=H.wroteRow rfl hch ho hbk
 obtain ⟨v6,v7,rfl,hp7,hp8⟩:=hp6
 obtain ⟨A13,c12,rfl,hl10⟩:=u4 hp7
 replace hl10:=GoTy.mono (α:=List Int) hl10 hmv
 obtain rfl:=uo hp8
 have hf:=hf.pn [0,2,3,5,10,11,12,59,60,62,63,64,65,66,67,68,69,70,71,72,73,74]
 have H:=H.pF hl10
 refine ⟨fun h=>absurd h (by decide),?_⟩
 refine tp 13 rfl rfl hf (by kernel_rfl) (fun h=>absurd h (by decide)) rfl fun a hf=>?_
 refine tp 14 rfl rfl hf (by kernel_rfl) (fun h=>absurd h (by decide)) rfl fun a hf=>?_
 refine tp 15 rfl rfl hf (by kernel_rfl) (fun h=>absurd h (by decide)) rfl fun a hf=>?_
 refine tp 16 rfl rfl hf (by kernel_rfl) (fun h=>absurd h (by decide)) rfl fun a hf=>?_
 refine tp 17 rfl rfl hf (by kernel_rfl) (fun h=>absurd h (by decide)) rfl fun a hf=>?_
 refine dk ?_
 have hf:=hf.pn [0,2,3,5,10,13,14]
 have H:=H.lm 2 1 0 11 2017
 exact ⟨E5,A13,c12,hlen2,hf,H⟩
 rintro a w ⟨E5,A13,c12,hlen2,hf,H⟩
 refine ua (sqz (pz 1 hf fun a hf=>?_))
 refine ub (ua (ib hR1 hf (fun hc6 hR1=>?_) fun hc6 hR1=>?_))
 refine sqz (pz 3 hf fun a hf=>?_)
 refine ub (ua (wp_ret (u9 (uf (uf (u9 (uf (uf (?_)))))))))
 obtain rfl:=oi hR1
 replace hF:=xc hF
 obtain rfl:=oi hF
 refine vL hf rfl (uE hf rfl) (uE hf rfl) ?_
 exact ⟨_,rfl,_,H.chg,(H.rowOut rfl (by simp only [List.length_set,hlen2,hlen])).1,(H.rowOut rfl rfl).2,_,_,rfl,(uB (gfi (α:=List Int) (H.get 0 rfl))),uk⟩
 refine wp_skip (uV (ua (reg (pz 3 hf fun a hf=>?_))))
 refine ub ?_
 have hf:=hf.pn [0,2,3,5,10]
 have hf:Fr a 86 [(0,(.pointer (some ⟨bP,oP + 0,none⟩))),(2,(.slice A5 order.length c5)),(3,(.int .i64 used)),(5,(.pointer (some ⟨b',0,none⟩))),(10,(.int .i64 (w64 (i + 1))))]:=by first | exact hf | (simp only [List.length_set,hlen,hlen2] at hf; exact hf)
 have H:=H.lm 1 1 0 7 126
 exact ua ⟨(w64 (i + 1),y3.2.2),hR1,E5,(by simp only [List.length_set,hlen,hlen2]),hf,H⟩
 refine wp_exit (uy (uy (vJ (?_))))
 have hf:=hf.pn [0,2,3,5,10]
 have hf:Fr a 86 [(0,(.pointer (some ⟨bP,oP + 0,none⟩))),(2,(.slice A5 order.length c5)),(3,(.int .i64 used)),(5,(.pointer (some ⟨b',0,none⟩))),(10,(.int .i64 i))]:=by first | exact hf | (simp only [List.length_set,hlen] at hf; exact hf)
 have H:=H.lm 1 1 0 6 63
 exact ⟨(i,m),(Option.some.inj hR1).symm,E2,(by simp only [List.length_set,hlen]),hf,H⟩
 rintro a w ⟨⟨i2,m2⟩,rfl,E6,hlen,hf,H⟩
 try dsimp only at hlen
 have hf:Fr a 86 [(0,(.pointer (some ⟨bP,oP + 0,none⟩))),(2,(.slice A5 order.length c5)),(3,(.int .i64 used)),(5,(.pointer (some ⟨b',0,none⟩))),(10,(.int .i64 i2))]:=by first | (rw [hlen]; exact hf) | exact hf
 replace hF:=vG hF
 try dsimp only at hF
 refine ua (sqz (pz 3 hf fun a hf=>?_))
 refine oq hf (uI hf H TF.gk9 5 1 rfl rfl rfl) fun a hf=>?_
 have hf:=hf.pn [0,2,3,79,80,81,82]
 replace hf:Fr a 86 [(0,(.pointer (some ⟨bP,oP + 0,none⟩))),(2,(.slice A5 order.length c5)),(3,(.int .i64 used)),(79,(.pointer (some ⟨bP,oP + 0,none⟩))),(80,(.pointer (some ⟨bP,oP + 0,none⟩))),(81,(.pointer (some ⟨bP,oP + 1,none⟩))),(82,(.slice A m2.length c))]:=by first | exact hf | (simp only [List.length_set,hlen]; exact hf)
 refine pz 1 hf fun a hf=>?_
 obtain ⟨e3,he3,hF⟩:=bs_ hF
 refine wl0 rfl (vD hf H Tryz.underlying143 TF.sz4 0 rfl rfl rfl he3 (by decide) fun p4 o3 cs3 a hf hA2 hr3 hk2=>?_)
 obtain rfl:=hr3
 refine wl0 rfl (xj (e':=true) (o:=o3) (off:=0) hf H TF.sz4 0 rfl rfl rfl rfl rfl (nle rfl) rfl hA2 he3 (yU rfl) fun w H=>?_)
 replace hf:Fr a 86 [(0,(.pointer (some ⟨bP,oP + 0,none⟩))),(2,(.slice A5 order.length c5)),(3,(.int .i64 used)),(79,(.pointer (some ⟨bP,oP + 0,none⟩))),(80,(.pointer (some ⟨bP,oP + 0,none⟩))),(81,(.pointer (some ⟨bP,oP + 1,none⟩))),(82,(.slice A m2.length c)),(83,(.int .i64 used)),(84,(.pointer (some ⟨p4,o3 + 0,none⟩)))]:=hf.prune [0,2,3,79,80,81,82,83,84] rfl
 replace hf:Fr a 86 [(0,(.pointer (some ⟨bP,oP + 0,none⟩))),(2,(.slice A5 order.length c5)),(3,(.int .i64 used)),(79,(.pointer (some ⟨bP,oP + 0,none⟩))),(80,(.pointer (some ⟨bP,oP + 0,none⟩))),(81,(.pointer (some ⟨bP,oP + 1,none⟩))),(82,(.slice A (m2.set (used:Int).toNat true).length c)),(83,(.int .i64 used)),(84,(.pointer (some ⟨p4,o3 + 0,none⟩)))]:=by simpa only [List.length_set,Nat.add_zero] using hf
 refine wr (pz 3 hf fun a hf=>?_)
 refine wer ?_
 obtain rfl:=oi hF
 refine vL hf rfl (uE hf rfl) (uE hf rfl) ?_
 exact ⟨_,rfl,_,H.chg,(H.rowOut rfl (by simp only [List.length_set,hlen])).1,(H.rowOut rfl rfl).2,_,_,rfl,(uB (gfi (α:=List Int) (H.get 0 rfl))),uk⟩
theorem gbE {fu:Nat}:∀ {w0:World} {S:Nat→Prop} {bP oP:Nat} {A:Option Addr} {c:Nat} {F:List Nat} {A0_:Option Addr} {c0_:Nat} {v1_:Value} {v2_:Value} {v3_:Value} {x1:L20SearchP} {p:Plan} {order:List Int} {used:Int} {r:List Int×Bool×List Bool} (hp:(MP.cells ⟨bP,oP,none⟩ [(.slice A0_ x1.list.length c0_),(.slice A x1.failed.length c)]).pred w0 S) (hl0_:lrep w0 S [.slice A0_ x1.list.length c0_] x1.list) (hO:lown w0 F [(.slice A x1.failed.length c)] x1.failed) (hn:F.Nodup) (hSm:∀ c∈F,¬S c) (h1:VR w0 S v1_ p) (h2:VR w0 S v2_ order) (h3:VR w0 S v3_ used) (hF:uS fu x1 p order used=some r),Calls Tryz.prog 101 [(.pointer (some ⟨bP,oP,none⟩)),v1_,v2_,v3_].toArray w0 fun e w'=>∃ v,e=.returned v∧(∃ F',Chg w0 w' F∧lown w' F' [(.slice A x1.failed.length c)] r.2.2∧Back w0 w' F F'∧∃ u0 u1,v=.tuple #[u0,u1]∧VR w' (TX ⟨w0,F⟩ S F') u0 r.1∧VR w' (TX ⟨w0,F⟩ S F') u1 r.2.1):=by
 induction fu with
 | zero=>intro w0 S bP oP A c F A0_ c0_ v1_ v2_ v3_ x1 p order used r hp hl0_ hO hn hSm h1 h2 h3 hF; rw [uS] at hF; cases hF
 | succ fu ih=>intro w0 S bP oP A c F A0_ c0_ v1_ v2_ v3_ x1 p order used r hp hl0_ hO hn hSm h1 h2 h3 hF; rw [uS] at hF; exact ga2 (rec_:=fun x1 p order used=>uS fu x1 p order used) (fun hp hl0_ hO hn hSm h1 h2 h3 hF=>ih hp hl0_ hO hn hSm h1 h2 h3 hF) hp hl0_ hO hn hSm h1 h2 h3 hF
end AT
