/- The Go functions do what is told of them, by program (gen.py). -/
import Derived.Test.YtlemonjnolciiaaGreatWC2
set_option linter.unusedVariables false
set_option linter.unusedSimpArgs false
set_option maxRecDepth 100000
set_option maxHeartbeats 1000000
namespace AT
open Go Go.RowKit Go.Proofs
variable {fu:Nat} {w0:World}
theorem gag {S:Nat→Prop} {F:List Nat} {cs:List Value} {v1_:Value} {v2_:Value} {data:List Int} {a':Int} {b':Int} {r:List Int} (hO:GoTy.own w0 F cs data) (hn:F.Nodup) (h1:VR w0 S v1_ a') (h2:VR w0 S v2_ b') (hF:vR fu data a' b'=some r) :
    Calls Tryz.prog 271 [(bif GoTy.agg (List Int) then .agg cs.toArray else cs.headD undef),v1_,v2_].toArray w0 fun e w'=>∃ v,e=.returned v∧(Chg w0 w' F∧v=.tuple #[]∧∃ F',GoTy.own w' F' cs r∧Back w0 w' F F'):=by
 obtain rfl:=uv h1
 obtain rfl:=uv h2
 obtain ⟨A,c,rfl,hO⟩:=gb2 hO
 have H:=Mem.startG S hO hn
 obtain ⟨Fs,E,H,-⟩:=H.thaw rfl
 have H:=H.rowSh 0 rfl
 refine en Tryz.func271 fun a hf=>?_
 rw [vR] at hF
 refine sqz (pz 3 hf fun a hf=>?_)
 refine ub (ua ?_)
 obtain ⟨out',hB1,hF⟩:=bs_ hF
 have hf:=hf.pn [0,1,2,6]
 have hf:Fr a 49 [(0,(.slice A data.length c)),(1,(.int .i64 a')),(2,(.int .i64 b')),(6,(.int .i64 (w64 (a' + 1))))]:=by first | exact hf | (simp only [List.length_set] at hf; exact hf)
 have H:=H.lk 0 1 0 []
 refine vU (fun (s:List Int×Int) (a:Act) (w:World)=>match s with | (data2,i)=>data2.length=data.length∧Fr a 49 [(0,(.slice A data.length c)),(1,(.int .i64 a')),(2,(.int .i64 b')),(6,(.int .i64 i))]∧Mem ⟨w0,F⟩ S [] [⟨.sh true,E,A,c,(data2:List Int)⟩] [] [] w) (fun k (s:List Int×Int)=>uO fu a' b' k s.1 s.2=some out') (fun s=>out'=s) (data,w64 (a' + 1)) fu hB1 ⟨rfl,hf,H⟩ (fun s h=>by cases h) ?_ ?_
 rintro fk ⟨data2,i⟩ a w hR1 hI
 replace hR1:uO fu a' b' (fk + 1) data2 i=some out':=hR1
 rw [uO] at hR1
 obtain ⟨hlen,hf,H⟩:=hI
 have hf:Fr a 49 [(0,(.slice A data2.length c)),(1,(.int .i64 a')),(2,(.int .i64 b')),(6,(.int .i64 i))]:=by first | (rw [hlen]; exact hf) | exact hf
 refine sq (sqz (pz 3 hf fun a hf=>?_))
 refine ub (ua (ib hR1 hf (fun hc hR1=>?_) fun hc hR1=>?_))
 refine ws (pz 2 hf fun a hf=>?_)
 refine ub (ua ?_)
 obtain ⟨out2,hB2,hR1⟩:=bs_ hR1
 have hf:=hf.pn [0,1,2,6,7]
 have hf:Fr a 49 [(0,(.slice A data2.length c)),(1,(.int .i64 a')),(2,(.int .i64 b')),(6,(.int .i64 i)),(7,(.int .i64 i))]:=by first | exact hf | (simp only [List.length_set] at hf; exact hf)
 have H:=H.lk 0 1 0 []
 refine vU (fun (s:List Int×Int) (a:Act) (w:World)=>match s with | (data3,j)=>data3.length=data2.length∧Fr a 49 [(0,(.slice A data2.length c)),(1,(.int .i64 a')),(2,(.int .i64 b')),(6,(.int .i64 i)),(7,(.int .i64 j))]∧Mem ⟨w0,F⟩ S [] [⟨.sh true,E,A,c,(data3:List Int)⟩] [] [] w) (fun k (s:List Int×Int)=>uN fu a' k s.1 s.2=some out2) (fun s=>out2=s) (data2,i) fu hB2 ⟨rfl,hf,H⟩ (fun s h=>by cases h) ?_ ?_
 rintro fk ⟨data3,j⟩ a w hR2 hI
 replace hR2:uN fu a' (fk + 1) data3 j=some out2:=hR2
 rw [uN] at hR2
 obtain ⟨hlen2,hf,H⟩:=hI
 have hf:Fr a 49 [(0,(.slice A data3.length c)),(1,(.int .i64 a')),(2,(.int .i64 b')),(6,(.int .i64 i)),(7,(.int .i64 j))]:=by first | (rw [hlen2]; exact hf) | exact hf
 refine sq (sq ?_)
 obtain ⟨c2,hGc2,hR2⟩:=bs_ hR2
 have fh:=hf.prune [0,1,2,6,7] rfl
 have Hm:=H.lk 0 1 0 []
 refine midF 30 (.bool c2) fh Hm ?_ fun a w hf H=>?_
 refine dw [] 15 fun w hb=>?_
 have H:=H.keep hb
 refine zp 0 hf trivial fun a hf=>?_
 refine zp 1 hf trivial fun a hf=>?_
 refine zp 2 hf trivial fun a hf=>?_
 refine zp 3 hf trivial fun a hf=>?_
 refine iteB hGc2 (fun hc2 hGc2=>?_) fun hc2 hGc2=>?_
 have hf:=hf.lit 19 rfl hc2
 refine zg 4 hf trivial fun a hf=>?_
 refine zg 5 hf trivial fun a hf=>?_
 obtain ⟨e,he,hGc2⟩:=bs_ hGc2
 obtain ⟨p,o,hA,hx⟩:=zM H Tryz.underlying35 TF.sz3 0 rfl he
 refine tPg 6 rfl rfl rfl rfl rfl rfl hf (by kernel_rfl) (fun _=>trivial) (fun w=>uu hf rfl rfl rfl hx w) fun a hf=>?_
 refine strT H (fun w H=>trivial) fun hS=>?_
 refine tSg 7 [] rfl rfl rfl rfl rfl rfl hf (by kernel_rfl) (by kernel_rfl) hS (fun w H=>gaz (off:=0) hf H TF.ls3 0 rfl rfl hA he (fun w T cs h=>by obtain rfl:=h; rfl)) fun a hf=>?_
 refine zg 8 hf hS fun a hf=>?_
 refine zg 9 hf hS fun a hf=>?_
 refine zg 10 hf hS fun a hf=>?_
 obtain ⟨e2,he2,hGc2⟩:=bs_ hGc2
 obtain ⟨p2,o2,hA2,hx2⟩:=zM H Tryz.underlying35 TF.sz3 0 rfl he2
 refine tPg 11 rfl rfl rfl rfl rfl rfl hf (by kernel_rfl) (fun _=>hS) (fun w=>uu hf rfl rfl rfl hx2 w) fun a hf=>?_
 refine tSg 12 [] rfl rfl rfl rfl rfl rfl hf (by kernel_rfl) (by kernel_rfl) hS (fun w H=>gaz (off:=0) hf H TF.ls3 0 rfl rfl hA2 he2 (fun w T cs h=>by obtain rfl:=h; rfl)) fun a hf=>?_
 obtain ⟨y,hy,hGc2⟩:=bs_ hGc2
 refine n1g 13 (by kernel_rfl) rfl rfl rfl rfl hf (oC hf TF.glO (gex (S:=TT) ug ug hy) fun v w a hp hf=>?_)
 obtain ⟨hb,hp⟩:=hp
 obtain rfl:=uo hp
 have H:=H.keep hb
 have hS:=H
 refine aS hS ?_
 refine zp 14 hf hS fun a hf=>?_
 refine dk ?_
 obtain rfl:=oi hGc2
 have hf:=hf.pn [30,0,1,2,6,7]
 have H:=H.lk 0 1 0 []
 exact ⟨hf,H⟩
 have hf:=hf.lit 19 rfl hc2
 refine zU 4 hf trivial fun a hf=>?_
 refine zU 5 hf trivial fun a hf=>?_
 refine zU 6 hf trivial fun a hf=>?_
 refine zU 7 hf trivial fun a hf=>?_
 refine zU 8 hf trivial fun a hf=>?_
 refine zU 9 hf trivial fun a hf=>?_
 refine zU 10 hf trivial fun a hf=>?_
 refine zU 11 hf trivial fun a hf=>?_
 refine zU 12 hf trivial fun a hf=>?_
 refine zU 13 hf trivial fun a hf=>?_
 refine zp 14 hf trivial fun a hf=>?_
 refine dk ?_
 obtain rfl:=oi hGc2
 have hf:=hf.pn [30,0,1,2,6,7]
 have H:=H.lk 0 1 0 []
 exact ⟨hf,H⟩
 refine ua (ib hR2 hf (fun hc3 hR2=>?_) fun hc3 hR2=>?_)
 refine wp_skip (ua (sq (wp_block (dw [15,17] 18 fun w hb=>?_))))
 have H:=H.keep hb
 refine zp 0 hf trivial fun a hf=>?_
 refine zp 1 hf trivial fun a hf=>?_
 refine zp 2 hf trivial fun a hf=>?_
 refine zp 3 hf trivial fun a hf=>?_
 refine zp 4 hf trivial fun a hf=>?_
 refine zp 5 hf trivial fun a hf=>?_
 refine zp 6 hf trivial fun a hf=>?_
 refine zp 7 hf trivial fun a hf=>?_
 obtain ⟨e3,he3,hR2⟩:=bs_ hR2
 obtain ⟨p3,o3,hA3,hx3⟩:=zM H Tryz.underlying35 TF.sz3 0 rfl he3
 refine tP 8 rfl rfl rfl rfl hf (by kernel_rfl) (fun _=>trivial) (fun w=>uu hf rfl rfl rfl hx3 w) fun a hf=>?_
 refine strT H (fun w H=>trivial) fun hS=>?_
 refine zS 9 [9,14,15,16,17] rfl rfl rfl rfl hf hS (fun w H=>gaz (off:=0) hf H TF.ls3 0 rfl rfl hA3 he3 (fun w T cs h=>by obtain rfl:=h; rfl)) fun a hf=>?_
 refine zp 10 hf hS fun a hf=>?_
 refine zp 11 hf hS fun a hf=>?_
 obtain ⟨e4,he4,hR2⟩:=bs_ hR2
 obtain ⟨p4,o4,hA4,hx4⟩:=zM H Tryz.underlying35 TF.sz3 0 rfl he4
 refine zP 12 rfl rfl rfl rfl hf hS (fun w=>uu hf rfl rfl rfl hx4 w) fun a hf=>?_
 refine zS 13 [13,14,15,16,17] rfl rfl rfl rfl hf hS (fun w H=>gaz (off:=0) hf H TF.ls3 0 rfl rfl hA4 he4 (fun w T cs h=>by obtain rfl:=h; rfl)) fun a hf=>?_
 obtain ⟨e5,he5,hR2⟩:=bs_ hR2
 refine nn 14 rfl (vD hf H Tryz.underlying35 TF.sz3 0 rfl rfl rfl he5 (by decide) fun p5 o5 cs a hf hA5 hr hk=>?_)
 obtain rfl:=hr
 have hS:=H
 refine aS hS ?_
 refine nn 15 rfl (xj (e':=e3) (o:=o5) (off:=0) hf H TF.sz3 0 rfl rfl rfl rfl rfl (nle rfl) rfl hA5 he5 (yU rfl) fun w H=>?_)
 replace hf:Fr a 49 [(0,(.slice A data3.length c)),(1,(.int .i64 a')),(2,(.int .i64 b')),(6,(.int .i64 i)),(7,(.int .i64 j)),(33,(.slice A data3.length c)),(34,(.int .i64 j)),(35,(.slice A data3.length c)),(36,(.int .i64 j)),(37,(.int .i64 (w64 (j - 1)))),(38,(.slice A data3.length c)),(39,(.int .i64 j)),(40,(.int .i64 (w64 (j - 1)))),(41,(.pointer (some ⟨p3,o3 + 0,none⟩))),(42,(.int .i64 e3)),(43,(.slice A data3.length c)),(44,(.int .i64 j)),(45,(.pointer (some ⟨p4,o4 + 0,none⟩))),(46,(.int .i64 e4)),(47,(.pointer (some ⟨p5,o5 + 0,none⟩)))]:=hf.prune [0,1,2,6,7,33,34,35,36,37,38,39,40,41,42,43,44,45,46,47] rfl
 replace hf:Fr a 49 [(0,(.slice A (data3.set (j:Int).toNat e3).length c)),(1,(.int .i64 a')),(2,(.int .i64 b')),(6,(.int .i64 i)),(7,(.int .i64 j)),(33,(.slice A (data3.set (j:Int).toNat e3).length c)),(34,(.int .i64 j)),(35,(.slice A (data3.set (j:Int).toNat e3).length c)),(36,(.int .i64 j)),(37,(.int .i64 (w64 (j - 1)))),(38,(.slice A (data3.set (j:Int).toNat e3).length c)),(39,(.int .i64 j)),(40,(.int .i64 (w64 (j - 1)))),(41,(.pointer (some ⟨p3,o3 + 0,none⟩))),(42,(.int .i64 e3)),(43,(.slice A (data3.set (j:Int).toNat e3).length c)),(44,(.int .i64 j)),(45,(.pointer (some ⟨p4,o4 + 0,none⟩))),(46,(.int .i64 e4)),(47,(.pointer (some ⟨p5,o5 + 0,none⟩)))]:=by simpa only [List.length_set,Nat.add_zero] using hf
 refine ⟨fun h=>absurd h (by decide),?_⟩
 obtain ⟨e6,he6,hR2⟩:=bs_ hR2
 refine nn 16 rfl (vD hf H Tryz.underlying35 TF.sz3 0 rfl rfl rfl he6 (by decide) fun p6 o6 cs2 a hf hA6 hr2 hk2=>?_)
 obtain rfl:=hr2
 refine ⟨fun h=>absurd h (by decide),?_⟩
 refine nn 17 rfl (xj (e':=e4) (o:=o6) (off:=0) hf H TF.sz3 0 rfl rfl rfl rfl rfl (nle rfl) rfl hA6 he6 (yU rfl) fun w H=>?_)
 replace hf:Fr a 49 [(0,(.slice A (data3.set (j:Int).toNat e3).length c)),(1,(.int .i64 a')),(2,(.int .i64 b')),(6,(.int .i64 i)),(7,(.int .i64 j)),(33,(.slice A (data3.set (j:Int).toNat e3).length c)),(34,(.int .i64 j)),(35,(.slice A (data3.set (j:Int).toNat e3).length c)),(36,(.int .i64 j)),(37,(.int .i64 (w64 (j - 1)))),(38,(.slice A (data3.set (j:Int).toNat e3).length c)),(39,(.int .i64 j)),(40,(.int .i64 (w64 (j - 1)))),(41,(.pointer (some ⟨p3,o3 + 0,none⟩))),(42,(.int .i64 e3)),(43,(.slice A (data3.set (j:Int).toNat e3).length c)),(44,(.int .i64 j)),(45,(.pointer (some ⟨p4,o4 + 0,none⟩))),(46,(.int .i64 e4)),(47,(.pointer (some ⟨p5,o5 + 0,none⟩))),(48,(.pointer (some ⟨p6,o6 + 0,none⟩)))]:=hf.prune [0,1,2,6,7,33,34,35,36,37,38,39,40,41,42,43,44,45,46,47,48] rfl
 replace hf:Fr a 49 [(0,(.slice A ((data3.set (j:Int).toNat e3).set (w64 (j - 1):Int).toNat e4).length c)),(1,(.int .i64 a')),(2,(.int .i64 b')),(6,(.int .i64 i)),(7,(.int .i64 j)),(33,(.slice A ((data3.set (j:Int).toNat e3).set (w64 (j - 1):Int).toNat e4).length c)),(34,(.int .i64 j)),(35,(.slice A ((data3.set (j:Int).toNat e3).set (w64 (j - 1):Int).toNat e4).length c)),(36,(.int .i64 j)),(37,(.int .i64 (w64 (j - 1)))),(38,(.slice A ((data3.set (j:Int).toNat e3).set (w64 (j - 1):Int).toNat e4).length c)),(39,(.int .i64 j)),(40,(.int .i64 (w64 (j - 1)))),(41,(.pointer (some ⟨p3,o3 + 0,none⟩))),(42,(.int .i64 e3)),(43,(.slice A ((data3.set (j:Int).toNat e3).set (w64 (j - 1):Int).toNat e4).length c)),(44,(.int .i64 j)),(45,(.pointer (some ⟨p4,o4 + 0,none⟩))),(46,(.int .i64 e4)),(47,(.pointer (some ⟨p5,o5 + 0,none⟩))),(48,(.pointer (some ⟨p6,o6 + 0,none⟩)))]:=by simpa only [List.length_set,Nat.add_zero] using hf
 refine ⟨fun h=>absurd h (by decide),?_⟩
 refine dk ?_
 have hf:=hf.pn [0,1,2,6,7]
 refine uV (ua (reg (pz 3 hf fun a hf=>?_)))
 refine ub ?_
 have hf:=hf.pn [0,1,2,6,7]
 have hf:Fr a 49 [(0,(.slice A data2.length c)),(1,(.int .i64 a')),(2,(.int .i64 b')),(6,(.int .i64 i)),(7,(.int .i64 (w64 (j - 1))))]:=by first | exact hf | (simp only [List.length_set,hlen2] at hf; exact hf)
 have H:=H.lk 0 1 0 []
 exact ua ⟨((data3.set (j:Int).toNat e3).set (w64 (j - 1):Int).toNat e4,w64 (j - 1)),hR2,(by simp only [List.length_set,hlen2]),hf,H⟩
 refine wp_exit (uy (uy (vJ (?_))))
 have hf:=hf.pn [0,1,2,6,7]
 have hf:Fr a 49 [(0,(.slice A data2.length c)),(1,(.int .i64 a')),(2,(.int .i64 b')),(6,(.int .i64 i)),(7,(.int .i64 j))]:=by first | exact hf | (simp only [List.length_set,hlen2] at hf; exact hf)
 have H:=H.lk 0 1 0 []
 exact ⟨(data3,j),(Option.some.inj hR2).symm,(by simp only [List.length_set,hlen2]),hf,H⟩
 rintro a w ⟨⟨data4,j2⟩,rfl,hlen2,hf,H⟩
 try dsimp only at hlen2
 have hf:Fr a 49 [(0,(.slice A data4.length c)),(1,(.int .i64 a')),(2,(.int .i64 b')),(6,(.int .i64 i)),(7,(.int .i64 j2))]:=by first | (rw [hlen2]; exact hf) | exact hf
 try dsimp only at hR1
 refine uV (ua (reg (pz 3 hf fun a hf=>?_)))
 refine ub ?_
 have hf:=hf.pn [0,1,2,6]
 have hf:Fr a 49 [(0,(.slice A data.length c)),(1,(.int .i64 a')),(2,(.int .i64 b')),(6,(.int .i64 (w64 (i + 1))))]:=by first | exact hf | (simp only [List.length_set,hlen,hlen2] at hf; exact hf)
 have H:=H.lk 0 1 0 []
 exact ua ⟨(data4,w64 (i + 1)),hR1,(by simp only [List.length_set,hlen,hlen2]),hf,H⟩
 refine wp_exit (uy (uy (vJ (?_))))
 have hf:=hf.pn [0,1,2,6]
 have hf:Fr a 49 [(0,(.slice A data.length c)),(1,(.int .i64 a')),(2,(.int .i64 b')),(6,(.int .i64 i))]:=by first | exact hf | (simp only [List.length_set,hlen] at hf; exact hf)
 have H:=H.lk 0 1 0 []
 exact ⟨(data2,i),(Option.some.inj hR1).symm,(by simp only [List.length_set,hlen]),hf,H⟩
 rintro a w ⟨⟨data5,i2⟩,rfl,hlen,hf,H⟩
 try dsimp only at hlen
 have hf:Fr a 49 [(0,(.slice A data5.length c)),(1,(.int .i64 a')),(2,(.int .i64 b')),(6,(.int .i64 i2))]:=by first | (rw [hlen]; exact hf) | exact hf
 try dsimp only at hF
 have H:=H.rowOwn 0 rfl rfl
 obtain ⟨F',H⟩:=H.freezeOwn 0 rfl
 simp only [List.length_set,hlen] at H
 obtain rfl:=oi hF
 refine gkh hf rfl ?_
 exact ⟨_,rfl,H.chg,rfl,_,H.ownAt 0 rfl,H.back⟩
theorem ga4 {S:Nat→Prop} {F:List Nat} {cs:List Value} {v1_:Value} {v2_:Value} {v3_:Value} {data:List Int} {a':Int} {b':Int} {limit:Int} {r:List Int} (hO:GoTy.own w0 F cs data) (hn:F.Nodup) (h1:VR w0 S v1_ a') (h2:VR w0 S v2_ b') (h3:VR w0 S v3_ limit) (hF:xD fu data a' b' limit=some r) :
    Calls Tryz.prog 217 [(bif GoTy.agg (List Int) then .agg cs.toArray else cs.headD undef),v1_,v2_,v3_].toArray w0 fun e w'=>∃ v,e=.returned v∧(Chg w0 w' F∧v=.tuple #[]∧∃ F',GoTy.own w' F' cs r∧Back w0 w' F F'):=by
 obtain rfl:=uv h1
 obtain rfl:=uv h2
 obtain rfl:=uv h3
 obtain ⟨A,c,rfl,hO⟩:=gb2 hO
 have H:=Mem.startG S hO hn
 obtain ⟨Fs,E,H,-⟩:=H.thaw rfl
 have H:=H.rowSh 0 rfl
 refine en Tryz.func217 fun a hf=>?_
 rw [xD] at hF
 refine sqz (pz 1 hf fun a hf=>?_)
 refine wr (pz 1 hf fun a hf=>?_)
 refine ub (ua ?_)
 obtain ⟨out',hB1,hF⟩:=bs_ hF
 have hf:=hf.pn [0,1,2,3,8,9]
 have H:=H.lk 0 1 0 []
 refine vU (fun (s:Unit) (a:Act) (w:World)=>match s with | _=>Fr a 134 [(0,(.slice A data.length c)),(1,(.int .i64 a')),(2,(.int .i64 b')),(3,(.int .i64 limit)),(8,(.bool true)),(9,(.bool true))]∧Mem ⟨w0,F⟩ S [] [⟨.sh true,E,A,c,(data:List Int)⟩] [] [] w) (fun k (s:Unit)=>vI fu data a' b' k=some out') (fun s=>out'=Out.next s) () fu hB1 ⟨hf,H⟩ (fun s h=>by cases h) ?_ ?_
 rintro fk _ a w hR1 hI
 replace hR1:vI fu data a' b' (fk + 1)=some out':=hR1
 rw [vI] at hR1
 obtain ⟨hf,H⟩:=hI
 refine wp_block (sqz (pz 4 hf fun a hf=>?_))
 refine we (sqz (pz 2 hf fun a hf=>?_))
 refine ub (ua (ib hR1 hf (fun hc hR1=>?_) fun hc hR1=>?_))
 refine sqz (pz 3 hf fun a hf=>?_)
 have H:=H.rowOwn 0 rfl rfl
 obtain ⟨F2,H⟩:=H.freezeOwn 0 rfl
 have H:=H.lend 0 rfl
 obtain ⟨y,hy,hR1⟩:=bs_ hR1
 refine oc hf TF.glP (gag (S:=TT) (F:=F2) (cs:=[(.slice A data.length c)]) (H.ownAt 0 rfl) H.diNd.1 ug ug hy) fun v w a hp hf=>?_
 obtain ⟨hch,hv,F3,ho,hbk⟩:=hp
 subst hv
 have H:=H.wrote rfl hch ho hbk
 have H:=H.lend 0 rfl
 have hf:=hf.pn []
 refine ub (ua (wp_ret (uf (u9 (uf (u9 (uf (?_))))))))
 obtain rfl:=oi hR1
 replace hF:=xc hF
 obtain rfl:=oi hF
 refine gk5 (fn:=Tryz.f217) hf rfl ?_
 exact ⟨_,rfl,H.chg,rfl,_,H.ownAt 0 rfl,H.back⟩
 refine wp_skip (ua (sq (sqz (pz 2 hf fun a hf=>?_))))
 refine ub (ua ?_)
 cases hR1
 rintro a w ⟨_,rfl,hf,H⟩
 replace hF:=vG hF
 have H:=H.rowOwn 0 rfl rfl
 obtain ⟨F',H⟩:=H.freezeOwn 0 rfl
 obtain rfl:=oi hF
 refine gkh hf rfl ?_
 exact ⟨_,rfl,H.chg,rfl,_,H.ownAt 0 rfl,H.back⟩
theorem gca {S:Nat→Prop} {F:List Nat} {cs:List Value} {x1:List Int} {r:List Int} (hO:GoTy.own w0 F cs x1) (hn:F.Nodup) (hF:yp fu x1=some r) :
    Calls Tryz.prog 130 [(bif GoTy.agg (List Int) then .agg cs.toArray else cs.headD undef)].toArray w0 fun e w'=>∃ v,e=.returned v∧(Chg w0 w' F∧v=.tuple #[]∧∃ F',GoTy.own w' F' cs r∧Back w0 w' F F'):=by
 obtain ⟨A,c,rfl,hO⟩:=gb2 hO
 have H:=Mem.startG S hO hn
 obtain ⟨Fs,E,H,-⟩:=H.thaw rfl
 have H:=H.rowSh 0 rfl
 refine en Tryz.func130 fun a hf=>?_
 rw [yp] at hF
 refine sqz (pz 3 hf fun a hf=>?_)
 refine ub (ua (reg (pz 3 hf fun a hf=>?_)))
 refine oq hf (zk u64w Tryz.underlying3 Tryz.underlying128 hf rfl) fun a hf=>?_
 obtain ⟨y,hy,hF⟩:=bs_ hF
 refine oc hf TF.gl4 (gdX (S:=TT) (gjY (x:=(⟨wu64 (x1.length:Int)⟩:U64))) hy) fun v w a hp hf=>?_
 obtain ⟨hb,hp⟩:=hp
 obtain rfl:=uv hp
 have H:=H.keep hb
 have H:=H.rowOwn 0 rfl rfl
 obtain ⟨F2,H⟩:=H.freezeOwn 0 rfl
 have H:=H.lend 0 rfl
 obtain ⟨y2,hy2,hF⟩:=bs_ hF
 refine oc hf TF.gl5 (ga4 (S:=TT) (F:=F2) (cs:=[(.slice A x1.length c)]) (H.ownAt 0 rfl) H.diNd.1 ug ug ug hy2) fun v2 w a hp2 hf=>?_
 obtain ⟨hch,hv,F3,ho,hbk⟩:=hp2
 subst hv
 have H:=H.wrote rfl hch ho hbk
 have H:=H.lend 0 rfl
 refine ub ?_
 obtain rfl:=oi hF
 refine gkh hf rfl ?_
 exact ⟨_,rfl,H.chg,rfl,_,H.ownAt 0 rfl,H.back⟩
theorem gbN {S:Nat→Prop} {v0_:Value} {s':List Int} {r:List Int} (h0:VR w0 S v0_ s') (hF:xq fu s'=some r) :
    Calls Tryz.prog 131 [v0_].toArray w0 fun e w'=>∃ v,e=.returned v∧(Below w0.heap.size w0 w'∧VR w' (St ⟨w0,[]⟩ S [] [] [] false) v r):=by
 obtain ⟨A,c,rfl,hl⟩:=u4 h0
 have H:=Mem.start ⟨w0,[]⟩ S
 have H:=H.pA hl
 refine en Tryz.func131 fun a hf=>?_
 rw [xq] at hF
 refine sqz (pz 1 hf fun a hf=>?_)
 refine we (sqz (pz 3 hf fun a hf=>?_))
 refine ub (ua (ib hF hf (fun hc hF=>?_) fun hc hF=>?_))
 refine sqz (pz 2 hf fun a hf=>?_)
 refine ub (ua (wp_ret (uf (?_))))
 obtain rfl:=oi hF
 refine rT hf ?_
 exact ⟨_,rfl,H.bel,(uB (vt (α:=List Int) (H.get 0 rfl)))⟩
 refine wp_skip (ua (sq (sqz (pz 1 hf fun a hf=>?_))))
 refine ub (ua ?_)
 obtain ⟨out',hB1,hF⟩:=bs_ hF
 have hf:=hf.pn [0,3]
 have H:=H.lk 0 0 0 [0]
 refine vU (fun (s:Int) (a:Act) (w:World)=>match s with | k'=>Fr a 61 [(0,(.slice A s'.length c)),(3,(.int .i64 k'))]∧Mem ⟨w0,[]⟩ S [] [] [] [(false,MP.val [(.slice A s'.length c)] (s':List Int))] w) (fun k (s:Int)=>vq fu s' k s=some out') (fun s=>out'=Out.next s) 1 fu hB1 ⟨hf,H⟩ (fun s h=>by cases h) ?_ ?_
 rintro fk k' a w hR1 hI
 replace hR1:vq fu s' (fk + 1) k'=some out':=hR1
 rw [vq] at hR1
 obtain ⟨hf,H⟩:=hI
 refine sq (sqz (pz 4 hf fun a hf=>?_))
 refine ub (ua (ib hR1 hf (fun hc2 hR1=>?_) fun hc2 hR1=>?_))
 refine wp_skip (ua (sq (wp_block (sq (dw [] 10 fun w hb=>?_)))))
 have H:=H.keep hb
 refine zp 0 hf trivial fun a hf=>?_
 refine zp 1 hf trivial fun a hf=>?_
 obtain ⟨e,he,hR1⟩:=bs_ hR1
 obtain ⟨p,o,cs,hx,hr,H⟩:=ux H Tryz.underlying35 TF.sz3 0 rfl he
 refine tP 2 rfl rfl rfl rfl hf (by kernel_rfl) (fun _=>trivial) (fun w=>uu hf rfl rfl rfl hx w) fun a hf=>?_
 obtain rfl:=hr
 refine strT (H.lk 0 0 0 [0]) (fun w H=>trivial) fun hS=>?_
 refine zS 3 [] rfl rfl rfl rfl hf hS (fun w H=>uI hf H TF.ls3 0 0 rfl rfl rfl) fun a hf=>?_
 refine zp 4 hf hS fun a hf=>?_
 refine zp 5 hf hS fun a hf=>?_
 refine zp 6 hf hS fun a hf=>?_
 obtain ⟨e2,he2,hR1⟩:=bs_ hR1
 obtain ⟨p2,o2,cs2,hx2,hr2,H⟩:=ux H Tryz.underlying35 TF.sz3 1 rfl he2
 refine zP 7 rfl rfl rfl rfl hf hS (fun w=>uu hf rfl rfl rfl hx2 w) fun a hf=>?_
 obtain rfl:=hr2
 refine strT (H.lk 0 0 0 [0,1]) (fun w H=>H.lk 0 0 0 [1]) fun hS=>?_
 refine zS 8 [] rfl rfl rfl rfl hf hS (fun w H=>uI hf H TF.ls3 0 0 rfl rfl rfl) fun a hf=>?_
 refine zp 9 hf hS fun a hf=>?_
 refine dk ?_
 have hf:=hf.pn [0,3,25]
 refine ua (ib hR1 hf (fun hc3 hR1=>?_) fun hc3 hR1=>?_)
 cases hR1
 refine wp_skip (uV (ua (reg (pz 3 hf fun a hf=>?_))))
 refine ub ?_
 have hf:=hf.pn [0,3]
 have H:=H.lk 0 0 0 [2]
 exact ua ⟨w64 (k' + 1),hR1,hf,H⟩
 refine wp_exit (uy (uy (vJ (?_))))
 have hf:=hf.pn [0,3]
 have H:=H.lk 0 0 0 [0]
 exact ⟨k',(Option.some.inj hR1).symm,hf,H⟩
 rintro a w ⟨k2,rfl,hf,H⟩
 replace hF:=vG hF
 refine ua (sqz (pz 2 hf fun a hf=>?_))
 refine wer ?_
 obtain rfl:=oi hF
 refine rT hf ?_
 exact ⟨_,rfl,H.bel,(uB (vt (α:=List Int) (H.get 0 rfl)))⟩
theorem geU {S:Nat→Prop} {v0_:Value} {v1_:Value} {a':List Int} {b':List Int} {r:List Int} (h0:VR w0 S v0_ a') (h1:VR w0 S v1_ b') (hF:gbx fu a' b'=some r) :
    Calls Tryz.prog 96 [v0_,v1_].toArray w0 fun e w'=>∃ v,e=.returned v∧(Below w0.heap.size w0 w'∧VR w' (St ⟨w0,[]⟩ S [] [] [] true) v r):=by
 obtain ⟨A,c,rfl,hl⟩:=u4 h0
 obtain ⟨A2,c2,rfl,hl2⟩:=u4 h1
 have H:=Mem.start ⟨w0,[]⟩ S
 have H:=H.pA hl
 have H:=H.pA hl2
 refine en Tryz.func96 fun a hf=>?_
 rw [gbx] at hF
 refine sqz (pz 1 hf fun a hf=>?_)
 refine wr (wl0 rfl (bl hf H 3 ([]:List Int) [] el0 fun A3 a w hf H=>?_))
 refine pz 1 hf fun a hf=>?_
 refine we (sqz (pz 3 hf fun a hf=>?_))
 refine ub (ua ?_)
 obtain ⟨out2,hB1,hF⟩:=bs_ hF
 have hf:=hf.pn [1,5,9,10,11]
 have H:=H.lk 0 1 0 [0,1]
 refine vU (fun (s:List Int×Int) (a:Act) (w:World)=>match s with | (out',i)=>∃ (A4:Option Addr) (c3:Nat) (E:Go.TypeId),Fr a 27 [(1,(.slice A2 b'.length c2)),(5,(.slice A4 out'.length c3)),(9,(.slice A a'.length c)),(10,(.int .i64 (a'.length:Int))),(11,(.int .i64 i))]∧Mem ⟨w0,[]⟩ S [] [⟨.sh true,E,A4,c3,(out':List Int)⟩] [] [(false,MP.val [(.slice A2 b'.length c2)] (b':List Int)),(false,MP.val [(.slice A a'.length c)] (a':List Int))] w) (fun k (s:List Int×Int)=>yd fu a' b' k s.1 s.2=some out2) (fun s=>out2=s) (([]:List Int),0) fu hB1 ⟨A3,0,3,hf,H⟩ (fun s h=>by cases h) ?_ ?_
 rintro fk ⟨out',i⟩ a w hR1 hI
 replace hR1:yd fu a' b' (fk + 1) out' i=some out2:=hR1
 rw [yd] at hR1
 obtain ⟨A4,c3,E,hf,H⟩:=hI
 refine sqz (pz 1 hf fun a hf=>?_)
 refine ub (ua (sq (ib hR1 hf (fun hc hR1=>?_) fun hc hR1=>?_)))
 refine wp_skip (ua (sq (wp_block (sq (reg ?_)))))
 obtain ⟨e,he,hR1⟩:=bs_ hR1
 refine wl0 rfl (vn hf H Tryz.underlying35 TF.sz3 1 rfl rfl rfl he (by decide) fun p o cs a hf hr H=>?_)
 obtain rfl:=hr
 refine oq hf (uI hf H TF.ls3 0 0 rfl rfl rfl) fun a hf=>?_
 refine pz 1 hf fun a hf=>?_
 refine wr (pz 2 hf fun a hf=>?_)
 obtain ⟨y,hy,hR1⟩:=bs_ hR1
 refine oc hf TF.cl72 (zO (S:=TT) (uB (H.rt 1 rfl)) ug hy) fun v w a hp hf=>?_
 obtain ⟨hb,hp⟩:=hp
 obtain rfl:=uo hp
 have H:=H.keep hb
 refine ub (ua (ib hR1 hf (fun hc2 hR1=>?_) fun hc2 hR1=>?_))
 refine reg (pz 2 hf fun a hf=>?_)
 refine wl0 rfl (bl hf H 3 ([e]:List Int) [(.int .i64 e)] (el1 (y:=e) (rfl)) fun A5 a w hf H=>?_)
 obtain ⟨l,hl_,hR1⟩:=bs_ hR1
 refine wl0 rfl (xg hf H Tryz.underlying35 TF.ai3 rfl (by decide) 1 0 rfl rfl rfl rfl (.inr rfl) hl_ (by decide) fun E2 A6 c4 a w hf H=>?_)
 refine pz 1 hf fun a hf=>?_
 refine ub (uV (ua (reg (pz 2 hf fun a hf=>?_))))
 refine ub ?_
 have hf:=hf.pn [1,5,9,10,11]
 have H:=H.lk 0 2 0 [1,2]
 exact ua ⟨(l,w64 (i + 1)),hR1,A6,c4,E2,hf,H⟩
 refine wp_skip (uV (ua (reg (pz 2 hf fun a hf=>?_))))
 refine ub ?_
 have hf:=hf.pn [1,5,9,10,11]
 have H:=H.lk 0 1 0 [1,2]
 exact ua ⟨(out',w64 (i + 1)),hR1,A4,c3,E,hf,H⟩
 refine wp_exit (uy (uy (vJ (?_))))
 have hf:=hf.pn [1,5,9,10,11]
 have H:=H.lk 0 1 0 [0,1]
 exact ⟨(out',i),(Option.some.inj hR1).symm,A4,c3,E,hf,H⟩
 rintro a w ⟨⟨out3,i2⟩,rfl,A7,c5,E3,hf,H⟩
 try dsimp only at hF
 refine ua (sqz (pz 1 hf fun a hf=>?_))
 have H:=H.rowOwn 0 rfl rfl
 obtain ⟨F,H⟩:=H.freezeOwn 0 rfl
 have H:=H.lend 0 rfl
 obtain ⟨y2,hy2,hF⟩:=bs_ hF
 refine oc hf TF.gmq (gca (S:=TT) (F:=F) (cs:=[(.slice A7 out3.length c5)]) (H.ownAt 0 rfl) H.diNd.1 hy2) fun v2 w a hp2 hf=>?_
 obtain ⟨hch,hv,F2,ho,hbk⟩:=hp2
 subst hv
 have H:=H.wrote rfl hch ho hbk
 have H:=H.pA hl
 have H:=H.pA hl2
 have H:=H.lend 0 rfl
 refine wr (pz 1 hf fun a hf=>?_)
 obtain ⟨y3,hy3,hF⟩:=bs_ hF
 refine oc hf TF.gmp (gbN (uB (H.get 0 rfl)) hy3) fun v3 w a hp3 hf=>?_
 obtain ⟨hb2,hp3⟩:=hp3
 obtain ⟨A8,c6,rfl,hl3⟩:=u4 hp3
 replace hl3:=H.res (f:=MP.val [(.slice A8 y3.length c6)] y3) hl3
 have H:=H.keep hb2
 have H:=H.pT hl3
 refine pz 1 hf fun a hf=>?_
 refine wer ?_
 obtain rfl:=oi hF
 refine rT hf ?_
 exact ⟨_,rfl,H.bel,(uB (vt (α:=List Int) (H.get 0 rfl)))⟩
theorem geu {S:Nat→Prop} {v0_:Value} {v1_:Value} {a':Light} {b':Light} {r:Bool} (h0:VR w0 S v0_ a') (h1:VR w0 S v1_ b') (hF:gaV fu a' b'=some r) :
    Calls Tryz.prog 77 [v0_,v1_].toArray w0 fun e w'=>∃ v,e=.returned v∧(Below w0.heap.size w0 w'∧VR w' (St ⟨w0,[]⟩ S [] [] [] true) v r):=by
 obtain ⟨A,c,rfl,hl⟩:=vK h0
 obtain ⟨A2,c2,rfl,hl2⟩:=vK h1
 have H:=Mem.start ⟨w0,[]⟩ S
 have H:=H.pA hl
 have H:=H.pA hl2
 refine en Tryz.func77 fun a hf=>?_
 rw [gaV] at hF
 refine bx hf H fun b2 a w hf H=>?_
 refine wl0 rfl (xl hf H rfl rfl (by decide) fun b3 a w hf H=>?_)
 refine pz 1 hf fun a hf=>?_
 refine ub (ua (sq ?_))
 obtain ⟨c3,hGc3,hF⟩:=bs_ hF
 have fh:=hf.prune [] rfl
 have Hm:=H.lk 0 0 0 []
 refine midF 4 (.bool c3) fh Hm ?_ fun a w hf H=>?_
 refine dw [] 20 fun w hb=>?_
 have H:=H.keep hb
 refine zp 0 hf trivial fun a hf=>?_
 refine strT (H.lk 2 0 0 []) (fun w H=>trivial) fun hS=>?_
 refine zS 1 [] rfl rfl rfl rfl hf hS (fun w H=>ul hf H TF.la47 0 rfl rfl rfl rfl) fun a hf=>?_
 refine zp 3 hf hS fun a hf=>?_
 refine strT (H.lk 3 0 0 []) (fun w H=>H.lk 2 0 0 []) fun hS=>?_
 refine zS 4 [] rfl rfl rfl rfl hf hS (fun w H=>ul hf H TF.la47 0 rfl rfl rfl rfl) fun a hf=>?_
 obtain ⟨y,hy,hGc3⟩:=bs_ hGc3
 refine nn 2 rfl (oC hf TF.glr (gcJ (S:=TT) zb hy) fun v w a hp hf=>?_)
 obtain ⟨hb,hp⟩:=hp
 obtain rfl:=uv hp
 have H:=H.keep hb
 have hS:=H.lk 3 0 0 []
 refine aS hS ?_
 obtain ⟨y2,hy2,hGc3⟩:=bs_ hGc3
 refine nn 5 rfl (oC hf TF.glr (gcJ (S:=TT) zb hy2) fun v2 w a hp2 hf=>?_)
 obtain ⟨hb2,hp2⟩:=hp2
 obtain rfl:=uv hp2
 have H:=H.keep hb2
 have hS:=H.lk 3 0 0 []
 refine aS hS ?_
 refine zp 6 hf hS fun a hf=>?_
 refine zp 7 hf hS fun a hf=>?_
 refine zp 8 hf hS fun a hf=>?_
 refine iteB hGc3 (fun hc hGc3=>?_) fun hc hGc3=>?_
 have hf:=hf.lit 13 rfl hc
 refine zg 9 hf hS fun a hf=>?_
 refine zg 10 hf hS fun a hf=>?_
 refine tSg 11 [] rfl rfl rfl rfl rfl rfl hf (by kernel_rfl) (by kernel_rfl) hS (fun w H=>ue hf H TF.ls35 1 rfl rfl rfl) fun a hf=>?_
 refine zg 12 hf hS fun a hf=>?_
 refine zg 13 hf hS fun a hf=>?_
 refine tSg 14 [] rfl rfl rfl rfl rfl rfl hf (by kernel_rfl) (by kernel_rfl) hS (fun w H=>ue hf H TF.ls35 0 rfl rfl rfl) fun a hf=>?_
 obtain ⟨y3,hy3,hGc3⟩:=bs_ hGc3
 refine n1g 15 (by kernel_rfl) rfl rfl rfl rfl hf (oC hf TF.cl96 (geU (S:=TT) (uB (H.rt 1 rfl)) (uB (H.rt 0 rfl)) hy3) fun v3 w a hp3 hf=>?_)
 obtain ⟨hb3,hp3⟩:=hp3
 obtain ⟨A3,c4,rfl,hl3⟩:=u4 hp3
 replace hl3:=H.rF hl3
 have H:=H.keep hb3
 have H:=H.pT hl3
 have hS:=H.lk 3 0 0 []
 refine aS hS ?_
 refine zg 16 hf hS fun a hf=>?_
 refine zg 17 hf hS fun a hf=>?_
 refine zp 18 hf hS fun a hf=>?_
 refine zp 19 hf hS fun a hf=>?_
 refine dk ?_
 obtain rfl:=oi hGc3
 have hf:=hf.pn [4]
 have H:=H.lk 0 0 0 []
 exact ⟨hf,H⟩
 have hf:=hf.lit 13 rfl hc
 refine zU 9 hf hS fun a hf=>?_
 refine zU 10 hf hS fun a hf=>?_
 refine zU 11 hf hS fun a hf=>?_
 refine zU 12 hf hS fun a hf=>?_
 refine zU 13 hf hS fun a hf=>?_
 refine zU 14 hf hS fun a hf=>?_
 refine zU 15 hf hS fun a hf=>?_
 refine zU 16 hf hS fun a hf=>?_
 refine zU 17 hf hS fun a hf=>?_
 refine zp 18 hf hS fun a hf=>?_
 refine zp 19 hf hS fun a hf=>?_
 refine dk ?_
 obtain rfl:=oi hGc3
 have hf:=hf.pn [4]
 have H:=H.lk 0 0 0 []
 exact ⟨hf,H⟩
 refine ua (wp_ret (?_))
 obtain rfl:=oi hF
 refine rT hf ?_
 exact ⟨_,rfl,H.bel,uk⟩
theorem gcb {S:Nat→Prop} {v0_:Value} {b1 o1:Nat} {cs1:List Value} {own:Light} {cap:Light} {r:Bool} (h0:VR w0 S v0_ own) (hp1:(MP.cells ⟨b1,o1,none⟩ cs1).pred w0 S) (hr1:GoTy.rep w0 S cs1 cap) (hF:zn fu own cap=some r) :
    Calls Tryz.prog 76 [v0_,(.pointer (some ⟨b1,o1,none⟩))].toArray w0 fun e w'=>∃ v,e=.returned v∧(Below w0.heap.size w0 w'∧VR w' (St ⟨w0,[]⟩ S [] [] [] true) v r):=by
 obtain ⟨A,c,rfl,hl⟩:=vK h0
 obtain ⟨A2,c2,rfl,hl2⟩:=uq hr1
 have H:=Mem.start ⟨w0,[]⟩ S
 have H:=H.pA hl
 have H:=H.pA hl2
 have H:=H.pushArg (MP.cells ⟨b1,o1,none⟩ [(.int .i64 cap.Id),(.int .i64 cap.Route.Start),(.slice A2 cap.Route.Fibers.length c2),(.int .i64 cap.Block.First),(.int .i64 cap.Block.Count)]) hp1
 refine en Tryz.func76 fun a hf=>?_
 rw [zn] at hF
 refine bx hf H fun b3 a w hf H=>?_
 refine pz 1 hf fun a hf=>?_
 refine wr (lN 0 hf H TF.la49 fun a hf=>?_)
 refine oq hf (uz hf H TF.la49 0 0 rfl rfl rfl rfl) fun a hf=>?_
 obtain ⟨y,hy,hF⟩:=bs_ hF
 refine oc hf TF.cl77 (geu (S:=TT) (uT (x:=own) (H.rt 2 rfl)) (uT (x:=cap) (H.rt 1 rfl)) hy) fun v w a hp3 hf=>?_
 obtain ⟨hb,hp3⟩:=hp3
 obtain rfl:=uo hp3
 have H:=H.keep hb
 refine pz 1 hf fun a hf=>?_
 refine wer ?_
 obtain rfl:=oi hF
 refine rT hf ?_
 exact ⟨_,rfl,H.bel,uk⟩
theorem xv {S:Nat→Prop} {v0_:Value} {b1_0 o1_0:Nat} {cs1_0:List Value} {s':List Light} {cap:Light} {r:Int} (h0:VR w0 S v0_ s') (hp1_0:(MP.cells ⟨b1_0,o1_0,none⟩ cs1_0).pred w0 S) (hr1_0:GoTy.rep w0 S cs1_0 cap) (hF:uL fu s' cap=some r) :
    Calls Tryz.prog 156 [v0_,(.func (.func 76) #[] #[(.pointer (some ⟨b1_0,o1_0,none⟩))])].toArray w0 fun e w'=>∃ v,e=.returned v∧(Below w0.heap.size w0 w'∧VR w' (St ⟨w0,[]⟩ S [] [] [] true) v r):=by
 obtain ⟨A,c,rfl,hl⟩:=u4 h0
 obtain ⟨A2,c2,rfl,hl2⟩:=uq hr1_0
 have H:=Mem.start ⟨w0,[]⟩ S
 have H:=H.pA hl
 have H:=H.pA hl2
 have H:=H.pushArg (MP.cells ⟨b1_0,o1_0,none⟩ [(.int .i64 cap.Id),(.int .i64 cap.Route.Start),(.slice A2 cap.Route.Fibers.length c2),(.int .i64 cap.Block.First),(.int .i64 cap.Block.Count)]) hp1_0
 refine en Tryz.func156 fun a hf=>?_
 rw [uL] at hF
 refine sqz (pz 1 hf fun a hf=>?_)
 refine we (sqz (pz 3 hf fun a hf=>?_))
 refine ub (ua ?_)
 obtain ⟨out',hB1,hF⟩:=bs_ hF
 have hf:=hf.pn [0,1,7,8]
 have H:=H.lm 0 0 0 3 7
 refine vU (fun (s:Int) (a:Act) (w:World)=>match s with | i=>Fr a 19 [(0,(.slice A s'.length c)),(1,(.func (.func 76) #[] #[(.pointer (some ⟨b1_0,o1_0 + 0,none⟩))])),(7,(.int .i64 (s'.length:Int))),(8,(.int .i64 i))]∧Mem ⟨w0,[]⟩ S [] [] [] [(false,MP.cells ⟨b1_0,o1_0,none⟩ [(.int .i64 cap.Id),(.int .i64 cap.Route.Start),(.slice A2 cap.Route.Fibers.length c2),(.int .i64 cap.Block.First),(.int .i64 cap.Block.Count)]),(false,MP.val [(.slice A2 cap.Route.Fibers.length c2)] (cap.Route.Fibers:List Int)),(false,MP.val [(.slice A s'.length c)] (s':List Light))] w) (fun k (s:Int)=>ut fu s' cap k s=some out') (fun s=>out'=Out.next s) 0 fu hB1 ⟨hf,H⟩ (fun s h=>by cases h) ?_ ?_
 rintro fk i a w hR1 hI
 replace hR1:ut fu s' cap (fk + 1) i=some out':=hR1
 rw [ut] at hR1
 obtain ⟨hf,H⟩:=hI
 refine sqz (pz 1 hf fun a hf=>?_)
 refine ub (ua (sq (ib hR1 hf (fun hc hR1=>?_) fun hc hR1=>?_)))
 refine ws (pz 2 hf fun a hf=>?_)
 refine wr (pz 3 hf fun a hf=>?_)
 obtain ⟨e,he,hR1⟩:=bs_ hR1
 refine wl0 rfl (vn hf H Tryz.underlying28 TF.sz49 2 rfl rfl rfl he (by decide) fun p o3 cs3 a hf hr3 H=>?_)
 obtain ⟨A3,c3,rfl,hl3⟩:=uq hr3
 have H:=H.pF hl3
 refine oq hf (uz hf H TF.la49 1 0 rfl rfl rfl rfl) fun a hf=>?_
 obtain ⟨y,hy,hR1⟩:=bs_ hR1
 refine wl0 rfl (ggY hf TF.cl76 rfl rfl (by decide) (gcb (S:=TT) (uT (x:=e) (H.rt 0 rfl)) (ggx (H.get 2 rfl)) ((zq (x:=cap) (H.rt 3 rfl))) hy) fun v w a hp3 hf=>?_)
 obtain ⟨hb,hp3⟩:=hp3
 obtain rfl:=uo hp3
 have H:=H.keep hb
 refine ub (ua (ib hR1 hf (fun hc2 hR1=>?_) fun hc2 hR1=>?_))
 refine sqz (pz 2 hf fun a hf=>?_)
 have hf:=hf.pn [4]
 refine ub (ua (wp_ret (u9 (uf (uf (u9 (uf (uf (?_)))))))))
 obtain rfl:=oi hR1
 replace hF:=xc hF
 obtain rfl:=oi hF
 refine rT hf ?_
 exact ⟨_,rfl,H.bel,ug⟩
 refine wp_skip (uV (ua (reg (pz 2 hf fun a hf=>?_))))
 refine ub ?_
 have hf:=hf.pn [0,1,7,8]
 have H:=H.lm 0 0 0 5 28
 exact ua ⟨w64 (i + 1),hR1,hf,H⟩
 refine wp_exit (uy (uy (vJ (?_))))
 have hf:=hf.pn [0,1,7,8]
 have H:=H.lm 0 0 0 3 7
 exact ⟨i,(Option.some.inj hR1).symm,hf,H⟩
 rintro a w ⟨i2,rfl,hf,H⟩
 replace hF:=vG hF
 refine ua (sqz (pz 1 hf fun a hf=>?_))
 refine wer ?_
 obtain rfl:=oi hF
 refine rT hf ?_
 exact ⟨_,rfl,H.bel,ug⟩
theorem vo {S:Nat→Prop} {v0_:Value} {b1_0 o1_0:Nat} {cs1_0:List Value} {s':List Light} {cap:Light} {r:Bool} (h0:VR w0 S v0_ s') (hp1_0:(MP.cells ⟨b1_0,o1_0,none⟩ cs1_0).pred w0 S) (hr1_0:GoTy.rep w0 S cs1_0 cap) (hF:uC fu s' cap=some r) :
    Calls Tryz.prog 75 [v0_,(.func (.func 76) #[] #[(.pointer (some ⟨b1_0,o1_0,none⟩))])].toArray w0 fun e w'=>∃ v,e=.returned v∧(Below w0.heap.size w0 w'∧VR w' (St ⟨w0,[]⟩ S [] [] [] true) v r):=by
 obtain ⟨A,c,rfl,hl⟩:=u4 h0
 obtain ⟨A2,c2,rfl,hl2⟩:=uq hr1_0
 have H:=Mem.start ⟨w0,[]⟩ S
 have H:=H.pA hl
 have H:=H.pA hl2
 have H:=H.pushArg (MP.cells ⟨b1_0,o1_0,none⟩ [(.int .i64 cap.Id),(.int .i64 cap.Route.Start),(.slice A2 cap.Route.Fibers.length c2),(.int .i64 cap.Block.First),(.int .i64 cap.Block.Count)]) hp1_0
 refine en Tryz.func75 fun a hf=>?_
 rw [uC] at hF
 refine sqz (pz 1 hf fun a hf=>?_)
 refine wr (pz 2 hf fun a hf=>?_)
 obtain ⟨y,hy,hF⟩:=bs_ hF
 refine oc hf TF.gls (xv (S:=TT) (uB (H.rt 2 rfl)) (ggx (H.get 0 rfl)) ((zq (x:=cap) (H.rt 1 rfl))) hy) fun v w a hp3 hf=>?_
 obtain ⟨hb,hp3⟩:=hp3
 obtain rfl:=uv hp3
 have H:=H.keep hb
 refine pz 2 hf fun a hf=>?_
 refine wer ?_
 obtain rfl:=oi hF
 refine rT hf ?_
 exact ⟨_,rfl,H.bel,uk⟩
theorem xy {S:Nat→Prop} {v0_:Value} {p:Plan} {r:Bool} (h0:VR w0 S v0_ p) (hF:vP fu p=some r) :
    Calls Tryz.prog 18 [v0_].toArray w0 fun e w'=>∃ v,e=.returned v∧(Below w0.heap.size w0 w'∧VR w' (St ⟨w0,[]⟩ S [] [] [] true) v r):=by
 obtain ⟨A,c,A2,c2,A3,c3,rfl,hl,hl2,hl3⟩:=uD h0
 have H:=Mem.start ⟨w0,[]⟩ S
 have H:=H.pA hl
 have H:=H.pA hl2
 have H:=H.pA hl3
 refine en Tryz.func18 fun a hf=>?_
 rw [vP] at hF
 refine bx hf H fun b' a w hf H=>?_
 refine pz 1 hf fun a hf=>?_
 refine ub (ua (sq (sq ?_)))
 obtain ⟨c4,hGc4,hF⟩:=bs_ hF
 have fh:=hf.prune [1] rfl
 have Hm:=H.lm 1 0 0 3 7
 refine midF 14 (.bool c4) fh Hm ?_ fun a w hf H=>?_
 refine reg (pz 1 hf fun a hf=>?_)
 refine lN 0 hf H TF.la27 fun a hf=>?_
 obtain ⟨y,hy,hGc4⟩:=bs_ hGc4
 refine oc hf TF.cl65 (gcc (S:=TT) (uY (x:=p.Network) (H.rt 2 rfl) (H.rt 1 rfl)) hy) fun v w a hp hf=>?_
 obtain ⟨hb,hp⟩:=hp
 obtain rfl:=uo hp
 have H:=H.keep hb
 refine pz 2 hf fun a hf=>?_
 refine iteB hGc4 (fun hc hGc4=>?_) fun hc hGc4=>?_
 have hf:=hf.lit 9 rfl hc
 refine pz 5 hf fun a hf=>?_
 obtain rfl:=oi hGc4
 have hf:=hf.pn [14,1]
 have H:=H.lm 1 0 0 3 7
 exact ub ⟨hf,H⟩
 have hf:=hf.lit 9 rfl hc
 refine pz 1 hf fun a hf=>?_
 refine wlg hf rfl rfl rfl (op_q hf (ue hf H TF.ls28 0 rfl rfl rfl) rfl (by decide) fun a hf=>?_)
 refine pz 3 hf fun a hf=>?_
 obtain rfl:=oi hGc4
 have hf:=hf.pn [14,1]
 have H:=H.lm 1 0 0 3 7
 exact ub ⟨hf,H⟩
 refine ua (ib hF hf (fun hc2 hF=>?_) fun hc2 hF=>?_)
 refine sqz (pz 1 hf fun a hf=>?_)
 refine ub (ua (wp_ret (uf (?_))))
 obtain rfl:=oi hF
 refine rT hf ?_
 exact ⟨_,rfl,H.bel,uk⟩
 refine wp_skip (ua (sq (sqz (pz 1 hf fun a hf=>?_))))
 refine lB 0 hf H TF.ls28 fun a hf=>?_
 refine pz 2 hf fun a hf=>?_
 refine ub (ua ?_)
 obtain ⟨out',hB1,hF⟩:=bs_ hF
 have hf:=hf.pn [1,16,17,18]
 have H:=H.lm 1 0 0 3 7
 refine vU (fun (s:Int) (a:Act) (w:World)=>match s with | i=>Fr a 53 [(1,(.pointer (some ⟨b',0,none⟩))),(16,(.slice A3 p.Lights.length c3)),(17,(.int .i64 (p.Lights.length:Int))),(18,(.int .i64 i))]∧Mem ⟨w0,[]⟩ S [⟨b',30,[(.slice A p.Network.Nodes.length c),(.slice A2 p.Network.Fibers.length c2),(.slice A3 p.Lights.length c3)]⟩] [] [] [(false,MP.val [(.slice A3 p.Lights.length c3)] (p.Lights:List Light)),(false,MP.val [(.slice A2 p.Network.Fibers.length c2)] (p.Network.Fibers:List Fiber)),(false,MP.val [(.slice A p.Network.Nodes.length c)] (p.Network.Nodes:List ByteArray))] w) (fun k (s:Int)=>vO fu p k s=some out') (fun s=>out'=Out.next s) 0 fu hB1 ⟨hf,H⟩ (fun s h=>by cases h) ?_ ?_
 rintro fk i a w hR1 hI
 replace hR1:vO fu p (fk + 1) i=some out':=hR1
 rw [vO] at hR1
 obtain ⟨hf,H⟩:=hI
 refine sqz (pz 1 hf fun a hf=>?_)
 refine ub (ua (sq (ib hR1 hf (fun hc3 hR1=>?_) fun hc3 hR1=>?_)))
 refine ws (pz 1 hf fun a hf=>?_)
 obtain ⟨e,he,hR1⟩:=bs_ hR1
 refine wl0 rfl (vn hf H Tryz.underlying28 TF.sz49 0 rfl rfl rfl he (by decide) fun p2 o cs a hf hr H=>?_)
 obtain ⟨A4,c5,rfl,hl4⟩:=uq hr
 have H:=H.pF hl4
 refine oq hf (uz hf H TF.la49 1 0 rfl rfl rfl rfl) fun a hf=>?_
 refine aL hf H TF.zv49 fun b2 a w hf H=>?_
 refine pz 1 hf fun a hf=>?_
 refine sB 0 hf H TF.sz49 fun w H=>?_
 refine ub (ua (sq ?_))
 obtain ⟨c6,hGc6,hR1⟩:=bs_ hR1
 have fh2:=hf.prune [1,16,17,18] rfl
 have Hm2:=H.lm 2 0 0 5 28
 refine midF 51 (.bool c6) fh2 Hm2 ?_ fun a w hf H=>?_
 refine dw [] 29 fun w hb=>?_
 have H:=H.keep hb
 refine zp 0 hf trivial fun a hf=>?_
 refine strT (H.lk 2 0 0 []) (fun w H=>trivial) fun hS=>?_
 refine zS 1 [] rfl rfl rfl rfl hf hS (fun w H=>ul hf H TF.la27 0 rfl rfl rfl rfl) fun a hf=>?_
 refine strT (H.lk 3 0 0 []) (fun w H=>H.lk 2 0 0 []) fun hS=>?_
 refine zS 2 [] rfl rfl rfl rfl hf hS (fun w H=>ul hf H TF.la49 0 rfl rfl rfl rfl) fun a hf=>?_
 obtain ⟨y2,hy2,hGc6⟩:=bs_ hGc6
 refine nn 3 rfl (oC hf TF.cl74 (ges (S:=TT) (uY (x:=p.Network) (H.rt 4 rfl) (H.rt 3 rfl)) (uT (x:=e) (H.rt 0 rfl)) hy2) fun v2 w a hp2 hf=>?_)
 obtain ⟨hb2,hp2⟩:=hp2
 obtain rfl:=uo hp2
 have H:=H.keep hb2
 have hS:=H.lk 3 0 0 []
 refine aS hS ?_
 refine zp 4 hf hS fun a hf=>?_
 refine zp 5 hf hS fun a hf=>?_
 refine iteB hGc6 (fun hc4 hGc6=>?_) fun hc4 hGc6=>?_
 have hf:=hf.lit 28 rfl hc4
 refine zU 6 hf hS fun a hf=>?_
 refine zU 7 hf hS fun a hf=>?_
 refine zU 8 hf hS fun a hf=>?_
 refine zV 9 hf hS fun a hf=>?_
 refine zV 10 hf hS fun a hf=>?_
 refine zV 11 hf hS fun a hf=>?_
 refine zV 12 hf hS fun a hf=>?_
 refine zV 13 hf hS fun a hf=>?_
 refine zV 14 hf hS fun a hf=>?_
 refine zV 15 hf hS fun a hf=>?_
 refine zV 16 hf hS fun a hf=>?_
 refine zV 17 hf hS fun a hf=>?_
 refine zV 18 hf hS fun a hf=>?_
 refine zU 19 hf hS fun a hf=>?_
 refine zp 20 hf hS fun a hf=>?_
 refine zp 21 hf hS fun a hf=>?_
 refine zU 22 hf hS fun a hf=>?_
 refine zU 23 hf hS fun a hf=>?_
 refine zU 24 hf hS fun a hf=>?_
 refine zU 25 hf hS fun a hf=>?_
 refine zU 26 hf hS fun a hf=>?_
 refine zU 27 hf hS fun a hf=>?_
 refine zp 28 hf hS fun a hf=>?_
 refine dk ?_
 obtain rfl:=oi hGc6
 have hf:=hf.pn [51,1,16,17,18]
 have H:=H.lm 2 0 0 5 28
 exact ⟨hf,H⟩
 have hf:=hf.lit 28 rfl hc4
 refine zg 6 hf hS fun a hf=>?_
 refine zg 7 hf hS fun a hf=>?_
 refine zg 8 hf hS fun a hf=>?_
 refine iteB hGc6 (fun hc5 hGc6=>?_) fun hc5 hGc6=>?_
 have hf:=hf.lit 31 rfl hc5
 refine zg 9 hf hS fun a hf=>?_
 refine tSg 10 [] rfl rfl rfl rfl rfl rfl hf (by kernel_rfl) (by kernel_rfl) hS (fun w H=>ue hf H TF.ls28 1 rfl rfl rfl) fun a hf=>?_
 refine zg 11 hf hS fun a hf=>?_
 refine zg 12 hf hS fun a hf=>?_
 obtain ⟨e2,he2,hGc6⟩:=bs_ hGc6
 obtain ⟨p3,o2,cs2,hx,hr2,H⟩:=ux H Tryz.underlying28 TF.sz49 2 rfl he2
 refine tPg 13 rfl rfl rfl rfl rfl rfl hf (by kernel_rfl) (fun _=>hS) (fun w=>uu hf rfl rfl rfl hx w) fun a hf=>?_
 obtain ⟨A5,c7,rfl,hl5⟩:=uq hr2
 have H:=H.pF hl5
 refine zg 14 hf hS fun a hf=>?_
 refine strT (H.lk 3 0 0 [1]) (fun w H=>H.lk 3 0 0 []) fun hS=>?_
 refine tSg 15 [] rfl rfl rfl rfl rfl rfl hf (by kernel_rfl) (by kernel_rfl) hS (fun w H=>uI hf H TF.ls3 0 0 rfl rfl rfl) fun a hf=>?_
 refine zg 16 hf hS fun a hf=>?_
 refine tSg 17 [] rfl rfl rfl rfl rfl rfl hf (by kernel_rfl) (by kernel_rfl) hS (fun w H=>ue hf H TF.ls3 0 rfl rfl rfl) fun a hf=>?_
 refine zg 18 hf hS fun a hf=>?_
 refine zg 19 hf hS fun a hf=>?_
 refine zp 20 hf hS fun a hf=>?_
 refine zp 21 hf hS fun a hf=>?_
 refine iteB hGc6 (fun hc6 hGc6=>?_) fun hc6 hGc6=>?_
 have hf:=hf.lit 44 rfl hc6
 refine zU 22 hf hS fun a hf=>?_
 refine zU 23 hf hS fun a hf=>?_
 refine zU 24 hf hS fun a hf=>?_
 refine zU 25 hf hS fun a hf=>?_
 refine zU 26 hf hS fun a hf=>?_
 refine zU 27 hf hS fun a hf=>?_
 refine zp 28 hf hS fun a hf=>?_
 refine dk ?_
 obtain rfl:=oi hGc6
 have hf:=hf.pn [51,1,16,17,18]
 have H:=H.lm 2 0 0 7 112
 exact ⟨hf,H⟩
 have hf:=hf.lit 44 rfl hc6
 refine zg 22 hf hS fun a hf=>?_
 refine tSg 23 [] rfl rfl rfl rfl rfl rfl hf (by kernel_rfl) (by kernel_rfl) hS (fun w H=>ue hf H TF.ls28 1 rfl rfl rfl) fun a hf=>?_
 refine zg 24 hf hS fun a hf=>?_
 obtain ⟨l,hl_,hGc6⟩:=bs_ hGc6
 obtain ⟨A6,c8,hx2,H⟩:=gaQ H Tryz.underlying28 TF.sz49 4 (lov:=none) (hiv:=some (.int .i64 i)) (.inl ⟨rfl,rfl⟩) (.inr rfl) rfl hl_
 refine tPg 25 rfl rfl rfl rfl rfl rfl hf (by kernel_rfl) (fun _=>hS) (fun w=>gaP hf rfl rfl rfl hx2 w) fun a hf=>?_
 refine n1g 26 (by kernel_rfl) rfl rfl rfl rfl hf (op_q hf (gcP hf rfl) rfl (by decide) fun a hf=>?_)
 have hS:=H.lk 3 0 0 [2]
 refine aS hS ?_
 obtain ⟨y3,hy3,hGc6⟩:=bs_ hGc6
 refine n1g 27 (by kernel_rfl) rfl rfl rfl rfl hf (oC hf TF.cl75 (vo (S:=TT) (uB (H.rt 0 rfl)) (H.boxTrue 0 rfl) ((zq (x:=e) (H.rt 3 rfl))) hy3) fun v3 w a hp3 hf=>?_)
 obtain ⟨hb3,hp3⟩:=hp3
 obtain rfl:=uo hp3
 have H:=H.keep hb3
 have hS:=H.lk 3 0 0 [2]
 refine aS hS ?_
 refine zp 28 hf hS fun a hf=>?_
 refine dk ?_
 obtain rfl:=oi hGc6
 have hf:=hf.pn [51,1,16,17,18]
 have H:=H.lm 2 0 0 8 224
 exact ⟨hf,H⟩
 have hf:=hf.lit 31 rfl hc5
 refine zU 9 hf hS fun a hf=>?_
 refine zU 10 hf hS fun a hf=>?_
 refine zU 11 hf hS fun a hf=>?_
 refine zU 12 hf hS fun a hf=>?_
 refine zU 13 hf hS fun a hf=>?_
 refine zU 14 hf hS fun a hf=>?_
 refine zU 15 hf hS fun a hf=>?_
 refine zU 16 hf hS fun a hf=>?_
 refine zU 17 hf hS fun a hf=>?_
 refine zU 18 hf hS fun a hf=>?_
 refine zg 19 hf hS fun a hf=>?_
 refine zp 20 hf hS fun a hf=>?_
 refine zp 21 hf hS fun a hf=>?_
 refine zg 22 hf hS fun a hf=>?_
 refine tSg 23 [] rfl rfl rfl rfl rfl rfl hf (by kernel_rfl) (by kernel_rfl) hS (fun w H=>ue hf H TF.ls28 1 rfl rfl rfl) fun a hf=>?_
 refine zg 24 hf hS fun a hf=>?_
 obtain ⟨l2,hl2_,hGc6⟩:=bs_ hGc6
 obtain ⟨A7,c9,hx3,H⟩:=gaQ H Tryz.underlying28 TF.sz49 2 (lov:=none) (hiv:=some (.int .i64 i)) (.inl ⟨rfl,rfl⟩) (.inr rfl) rfl hl2_
 refine tPg 25 rfl rfl rfl rfl rfl rfl hf (by kernel_rfl) (fun _=>hS) (fun w=>gaP hf rfl rfl rfl hx3 w) fun a hf=>?_
 refine n1g 26 (by kernel_rfl) rfl rfl rfl rfl hf (op_q hf (gcP hf rfl) rfl (by decide) fun a hf=>?_)
 have hS:=H.lk 3 0 0 []
 refine aS hS ?_
 obtain ⟨y4,hy4,hGc6⟩:=bs_ hGc6
 refine n1g 27 (by kernel_rfl) rfl rfl rfl rfl hf (oC hf TF.cl75 (vo (S:=TT) (uB (H.rt 0 rfl)) (H.boxTrue 0 rfl) ((zq (x:=e) (H.rt 1 rfl))) hy4) fun v4 w a hp4 hf=>?_)
 obtain ⟨hb4,hp4⟩:=hp4
 obtain rfl:=uo hp4
 have H:=H.keep hb4
 have hS:=H.lk 3 0 0 []
 refine aS hS ?_
 refine zp 28 hf hS fun a hf=>?_
 refine dk ?_
 obtain rfl:=oi hGc6
 have hf:=hf.pn [51,1,16,17,18]
 have H:=H.lm 2 0 0 6 56
 exact ⟨hf,H⟩
 refine ua (ib hR1 hf (fun hc7 hR1=>?_) fun hc7 hR1=>?_)
 refine sqz (pz 1 hf fun a hf=>?_)
 refine ub (ua (wp_ret (u9 (uf (uf (u9 (uf (uf (?_)))))))))
 obtain rfl:=oi hR1
 replace hF:=xc hF
 obtain rfl:=oi hF
 refine rT hf ?_
 exact ⟨_,rfl,H.bel,uk⟩
 refine wp_skip (uV (ua (reg (pz 2 hf fun a hf=>?_))))
 refine ub ?_
 have hf:=hf.pn [1,16,17,18]
 have H:=H.lm 1 0 0 3 7
 exact ua ⟨w64 (i + 1),hR1,hf,H⟩
 refine wp_exit (uy (uy (vJ (?_))))
 have hf:=hf.pn [1,16,17,18]
 have H:=H.lm 1 0 0 3 7
 exact ⟨i,(Option.some.inj hR1).symm,hf,H⟩
 rintro a w ⟨i2,rfl,hf,H⟩
 replace hF:=vG hF
 refine ua (sqz (pz 1 hf fun a hf=>?_))
 refine wer ?_
 obtain rfl:=oi hF
 refine rT hf ?_
 exact ⟨_,rfl,H.bel,uk⟩
theorem gcX {S:Nat→Prop} {v0_:Value} {n':Network} {r:Network} (h0:VR w0 S v0_ n') (hF:z6 fu n'=some r) :
    Calls Tryz.prog 164 [v0_].toArray w0 fun e w'=>∃ v,e=.returned v∧(Below w0.heap.size w0 w'∧∃ F0,VO w' F0 v r∧New w0 w' F0):=by
 obtain ⟨A,c,A2,c2,rfl,hl,hl2⟩:=vA h0
 have H:=Mem.start ⟨w0,[]⟩ S
 have H:=H.pA hl
 have H:=H.pA hl2
 refine en Tryz.func164 fun a hf=>?_
 rw [z6] at hF
 refine bx hf H fun b' a w hf H=>?_
 refine aL hf H TF.zv27 fun b2 a w hf H=>?_
 refine ub (ua (sq ?_))
 obtain ⟨l,hl_,hF⟩:=bs_ hF
 obtain ⟨l2,hl2_,hF⟩:=bs_ hF
 refine mid (fun a w=>∃ (A4:Option Addr) (c3:Nat) (E:Go.TypeId) (A6:Option Addr) (c4:Nat) (E2:Go.TypeId),Fr a 12 [(2,(.pointer (some ⟨b2,0,none⟩)))]∧Mem ⟨w0,[]⟩ S [⟨b2,27,[(.slice A4 l.length c3),(.slice A6 l2.length c4)]⟩] [⟨.sh true,E2,A6,c4,(l2:List Fiber)⟩,⟨.sh true,E,A4,c3,(l:List ByteArray)⟩] [] [] w) ?_ ?_
 refine dw [9] 10 fun w hb=>?_
 have H:=H.keep hb
 refine zp 1 hf trivial fun a hf=>?_
 refine strT (H.lk 2 0 0 []) (fun w H=>trivial) fun hS=>?_
 refine zS 2 [2,3,7,8,9] rfl rfl rfl rfl hf hS (fun w H=>ue hf H TF.ls24 0 rfl rfl rfl) fun a hf=>?_
 refine zp 5 hf hS fun a hf=>?_
 refine zS 6 [6,7,8,9] rfl rfl rfl rfl hf hS (fun w H=>ue hf H TF.ls25 0 rfl rfl rfl) fun a hf=>?_
 refine on2 (i:=0) (j:=4) (bi:=[true,true,true,false,false,true,true,false,false,false]) (bj:=[false,true,true,false,true,true,true,false,false,false]) (by kernel_rfl) rfl rfl rfl rfl rfl rfl ?_ ?_
 refine (bl hf H 9 ([]:List ByteArray) [] el0 fun A3 a w hf H=>?_)
 have hS:=H.lk 2 0 0 []
 refine aS hS ?_
 refine on2 (i:=3) (j:=4) (bi:=[true,true,true,true,false,true,true,false,false,false]) (bj:=[true,true,true,false,true,true,true,false,false,false]) (by kernel_rfl) rfl rfl rfl rfl rfl rfl ?_ ?_
 have H:=H.rowWeak 0 rfl
 refine (xH hf H Tryz.underlying24 TF.ai9 rfl (by decide) 0 1 rfl rfl rfl rfl (.inl rfl) hl_ (by decide) fun E A4 c3 a w hf H=>?_)
 have H:=H.rowOwn 0 rfl rfl
 have H:=H.rowSh 0 rfl
 have hS:=H.lk 2 0 0 []
 refine aS hS ?_
 refine nn 4 rfl (bl hf H 180 ([]:List Fiber) [] el0 fun A5 a w hf H=>?_)
 have hS:=H.lk 2 0 0 []
 refine aS hS ?_
 have H:=H.rowWeak 0 rfl
 refine nn 7 rfl (xH hf H Tryz.underlying25 TF.gcd rfl (by decide) 0 0 rfl rfl rfl rfl (.inl rfl) hl2_ (by decide) fun E2 A6 c4 a w hf H=>?_)
 have H:=H.rowOwn 0 rfl rfl
 have H:=H.rowSh 0 rfl
 have hS:=H.lk 2 0 0 []
 refine aS hS ?_
 refine zP 8 rfl rfl rfl rfl hf hS (fun w=>uA hf (cs:=[(.slice A4 l.length c3),(.slice A6 l2.length c4)]) rfl (fun w=>by kernel_rfl)) fun a hf=>?_
 refine nn 9 rfl (uh hf H 0 TF.sz27 rfl rfl rfl rfl rfl rfl (nle rfl) fun w H=>?_)
 refine ⟨fun h=>absurd h (by decide),?_⟩
 refine dk ?_
 have hf:=hf.pn [2]
 have H:=H.lk 1 3 0 []
 exact ⟨A4,c3,E,A6,c4,E2,hf,H⟩
 refine (bl hf H 180 ([]:List Fiber) [] el0 fun A4 a w hf H=>?_)
 have hS:=H.lk 2 0 0 []
 refine aS hS ?_
 have H:=H.rowWeak 1 rfl
 refine nn 3 rfl (xH hf H Tryz.underlying24 TF.ai9 rfl (by decide) 1 1 rfl rfl rfl rfl (.inl rfl) hl_ (by decide) fun E A5 c3 a w hf H=>?_)
 have H:=H.rowOwn 1 rfl rfl
 have H:=H.rowSh 1 rfl
 have hS:=H.lk 2 0 0 []
 refine aS hS ?_
 have H:=H.rowWeak 0 rfl
 refine nn 7 rfl (xH hf H Tryz.underlying25 TF.gcd rfl (by decide) 0 0 rfl rfl rfl rfl (.inl rfl) hl2_ (by decide) fun E2 A6 c4 a w hf H=>?_)
 have H:=H.rowOwn 0 rfl rfl
 have H:=H.rowSh 0 rfl
 have hS:=H.lk 2 0 0 []
 refine aS hS ?_
 refine zP 8 rfl rfl rfl rfl hf hS (fun w=>uA hf (cs:=[(.slice A5 l.length c3),(.slice A6 l2.length c4)]) rfl (fun w=>by kernel_rfl)) fun a hf=>?_
 refine nn 9 rfl (uh hf H 0 TF.sz27 rfl rfl rfl rfl rfl rfl (nle rfl) fun w H=>?_)
 refine ⟨fun h=>absurd h (by decide),?_⟩
 refine dk ?_
 have hf:=hf.pn [2]
 have H:=H.lk 1 3 0 []
 exact ⟨A5,c3,E,A6,c4,E2,hf,H⟩
 refine (bl hf H 180 ([]:List Fiber) [] el0 fun A3 a w hf H=>?_)
 have hS:=H.lk 2 0 0 []
 refine aS hS ?_
 refine nn 0 rfl (bl hf H 9 ([]:List ByteArray) [] el0 fun A4 a w hf H=>?_)
 have hS:=H.lk 2 0 0 []
 refine aS hS ?_
 have H:=H.rowWeak 0 rfl
 refine nn 3 rfl (xH hf H Tryz.underlying24 TF.ai9 rfl (by decide) 0 1 rfl rfl rfl rfl (.inl rfl) hl_ (by decide) fun E A5 c3 a w hf H=>?_)
 have H:=H.rowOwn 0 rfl rfl
 have H:=H.rowSh 0 rfl
 have hS:=H.lk 2 0 0 []
 refine aS hS ?_
 have H:=H.rowWeak 1 rfl
 refine nn 7 rfl (xH hf H Tryz.underlying25 TF.gcd rfl (by decide) 1 0 rfl rfl rfl rfl (.inl rfl) hl2_ (by decide) fun E2 A6 c4 a w hf H=>?_)
 have H:=H.rowOwn 1 rfl rfl
 have H:=H.rowSh 1 rfl
 have hS:=H.lk 2 0 0 []
 refine aS hS ?_
 refine zP 8 rfl rfl rfl rfl hf hS (fun w=>uA hf (cs:=[(.slice A5 l.length c3),(.slice A6 l2.length c4)]) rfl (fun w=>by kernel_rfl)) fun a hf=>?_
 refine nn 9 rfl (uh hf H 0 TF.sz27 rfl rfl rfl rfl rfl rfl (nle rfl) fun w H=>?_)
 refine ⟨fun h=>absurd h (by decide),?_⟩
 refine dk ?_
 have H:=H.frontR 1 rfl
 have hf:=hf.pn [2]
 have H:=H.lk 1 3 0 []
 exact ⟨A5,c3,E,A6,c4,E2,hf,H⟩
 rintro a w ⟨A4,c3,E,A6,c4,E2,hf,H⟩
 refine ua (wp_ret (?_))
 have H:=H.rowOwn 1 rfl rfl
 obtain ⟨F,H⟩:=H.freezeOwn 1 rfl
 have H:=H.lend 0 rfl
 have H:=H.rowOwn 0 rfl rfl
 obtain ⟨F2,H⟩:=H.freezeOwn 0 rfl
 have H:=H.lend 0 rfl
 have H:=H.frontD 1 rfl
 obtain rfl:=oi hF
 refine xi hf rfl (um hf H 0 TF.la27 rfl rfl rfl) ?_
 have hN:=H.ends2
 exact ⟨_,rfl,H.bel,(F++F2),⟨_,vw (x:=({ Nodes:=l,Fibers:=l2 }:Network)) (H.ownAt 0 rfl) (H.ownAt 1 rfl),rfl⟩,by first | exact hN | simpa using hN⟩
theorem zN {S:Nat→Prop} {v0_:Value} {r':Route} {r:Route} (h0:VR w0 S v0_ r') (hF:yc fu r'=some r) :
    Calls Tryz.prog 92 [v0_].toArray w0 fun e w'=>∃ v,e=.returned v∧(Below w0.heap.size w0 w'∧∃ F0,VO w' F0 v r∧New w0 w' F0):=by
 obtain ⟨A,c,rfl,hl⟩:=yi h0
 have H:=Mem.start ⟨w0,[]⟩ S
 have H:=H.pA hl
 refine en Tryz.func92 fun a hf=>?_
 rw [yc] at hF
 refine bx hf H fun b' a w hf H=>?_
 refine aL hf H TF.zv45 fun b2 a w hf H=>?_
 refine ub (ua (sq (dw [7] 8 fun w hb=>?_)))
 have H:=H.keep hb
 refine zp 0 hf trivial fun a hf=>?_
 refine strT (H.lk 2 0 0 []) (fun w H=>trivial) fun hS=>?_
 refine zS 1 [1,6,7] rfl rfl rfl rfl hf hS (fun w H=>ue hf H TF.ls3 0 rfl rfl rfl) fun a hf=>?_
 refine zp 3 hf hS fun a hf=>?_
 refine zS 4 [4,5,6,7] rfl rfl rfl rfl hf hS (fun w H=>ue hf H TF.ls35 0 rfl rfl rfl) fun a hf=>?_
 refine nn 2 rfl (bl hf H 3 ([]:List Int) [] el0 fun A2 a w hf H=>?_)
 have hS:=H.lk 2 0 0 []
 refine aS hS ?_
 obtain ⟨l,hl_,hF⟩:=bs_ hF
 have H:=H.rowWeak 0 rfl
 refine nn 5 rfl (xH hf H Tryz.underlying35 TF.ai3 rfl (by decide) 0 0 rfl rfl rfl rfl (.inl rfl) hl_ (by decide) fun E A3 c2 a w hf H=>?_)
 have H:=H.rowOwn 0 rfl rfl
 have H:=H.rowSh 0 rfl
 have hS:=H.lk 2 0 0 []
 refine aS hS ?_
 refine zP 6 rfl rfl rfl rfl hf hS (fun w=>uA hf (cs:=[(.int .i64 r'.Start),(.slice A3 l.length c2)]) rfl (fun w=>by kernel_rfl)) fun a hf=>?_
 refine nn 7 rfl (uh hf H 0 TF.sz45 rfl rfl rfl rfl rfl rfl (nle rfl) fun w H=>?_)
 refine ⟨fun h=>absurd h (by decide),?_⟩
 refine dk ?_
 refine ua (wp_ret (?_))
 have H:=H.rowOwn 0 rfl rfl
 obtain ⟨F,H⟩:=H.freezeOwn 0 rfl
 have H:=H.lend 0 rfl
 obtain rfl:=oi hF
 refine xi hf rfl (um hf H 0 TF.la45 rfl rfl rfl) ?_
 have hN:=H.ends1
 exact ⟨_,rfl,H.bel,F,⟨_,xQ (x:=({ Start:=r'.Start,Fibers:=l }:Route)) (H.ownAt 0 rfl),rfl⟩,by first | exact hN | simpa using hN⟩
theorem zw {S:Nat→Prop} {v0_:Value} {p:Plan} {r:Plan} (h0:VR w0 S v0_ p) (hF:xW fu p=some r) :
    Calls Tryz.prog 69 [v0_].toArray w0 fun e w'=>∃ v,e=.returned v∧(Below w0.heap.size w0 w'∧∃ F0,VO w' F0 v r∧New w0 w' F0):=by
 obtain ⟨A,c,A2,c2,A3,c3,rfl,hl,hl2,hl3⟩:=uD h0
 have H:=Mem.start ⟨w0,[]⟩ S
 have H:=H.pA hl
 have H:=H.pA hl2
 have H:=H.pA hl3
 refine en Tryz.func69 fun a hf=>?_
 rw [xW] at hF
 refine bx hf H fun b' a w hf H=>?_
 refine aL hf H TF.zv30 fun b2 a w hf H=>?_
 refine wr (pz 1 hf fun a hf=>?_)
 refine lN 1 hf H TF.la27 fun a hf=>?_
 obtain ⟨y,hy,hF⟩:=bs_ hF
 refine oc hf TF.gmi (gcX (S:=TT) (uY (x:=p.Network) (H.rt 2 rfl) (H.rt 1 rfl)) hy) fun v w a hp hf=>?_
 obtain ⟨hb,F,hp2,hN⟩:=hp
 obtain ⟨A4,c4,F2,A5,c5,F3,rfl,rfl,hl4,hl5⟩:=gaf hp2
 have H:=H.aO2 hb hN hl4 hl5
 have H:=H.lend 0 rfl
 have H:=H.lend 1 rfl
 refine oq hf (uA hf (cs:=[(.slice A4 y.Nodes.length c4),(.slice A5 y.Fibers.length c5),(.slice none 0 0)]) rfl (fun w=>by kernel_rfl)) fun a hf=>?_
 refine aL hf H TF.zv30 fun b3 a w hf H=>?_
 refine sB 0 hf H TF.sz30 fun w H=>?_
 refine we (sqz (pz 1 hf fun a hf=>?_))
 refine lB 2 hf H TF.ls28 fun a hf=>?_
 refine pz 2 hf fun a hf=>?_
 refine ub (ua ?_)
 have H:=H.nilRow (Light) (.ow []) rfl rfl 49
 obtain ⟨out',hB1,hF⟩:=bs_ hF
 have hf:=hf.pn [2,3,11,12,13]
 have H:=H.lm 3 1 3 3 7
 refine vU (fun (s:Int×List Light) (a:Act) (w:World)=>match s with | (i,m)=>∃ (A6:Option Addr) (c6:Nat) (E:Go.TypeId) (Fs:List (List Nat)),Fr a 32 [(2,(.pointer (some ⟨b2,0,none⟩))),(3,(.pointer (some ⟨b3,0,none⟩))),(11,(.slice A3 p.Lights.length c3)),(12,(.int .i64 (p.Lights.length:Int))),(13,(.int .i64 i))]∧Mem ⟨w0,[]⟩ S [⟨b3,30,[(.slice A4 y.Nodes.length c4),(.slice A5 y.Fibers.length c5),(.slice A6 m.length c6)]⟩,⟨b2,30,[(.slice none 0 0),(.slice none 0 0),(.slice none 0 0)]⟩] [⟨.ow Fs,E,A6,c6,(m:List Light)⟩] [⟨F2,MP.own F2 [(.slice A4 y.Nodes.length c4)] (y.Nodes:List ByteArray)⟩,⟨F3,MP.own F3 [(.slice A5 y.Fibers.length c5)] (y.Fibers:List Fiber)⟩] [(true,MP.val [(.slice A5 y.Fibers.length c5)] (y.Fibers:List Fiber)),(true,MP.val [(.slice A4 y.Nodes.length c4)] (y.Nodes:List ByteArray)),(false,MP.val [(.slice A3 p.Lights.length c3)] (p.Lights:List Light))] w) (fun k (s:Int×List Light)=>xN fu p k s.1 s.2=some out') (fun s=>out'=s) (0,([]:List Light)) fu hB1 ⟨none,0,49,[],hf,H⟩ (fun s h=>by cases h) ?_ ?_
 rintro fk ⟨i,m⟩ a w hR1 hI
 replace hR1:xN fu p (fk + 1) i m=some out':=hR1
 rw [xN] at hR1
 obtain ⟨A6,c6,E,Fs,hf,H⟩:=hI
 refine sqz (pz 1 hf fun a hf=>?_)
 refine ub (ua (sq (ib hR1 hf (fun hc hR1=>?_) fun hc hR1=>?_)))
 refine wp_skip (ua (sq (wp_block (sq (reg ?_)))))
 obtain ⟨e,he,hR1⟩:=bs_ hR1
 refine wl0 rfl (vn hf H Tryz.underlying28 TF.sz49 2 rfl rfl rfl he (by decide) fun p2 o cs a hf hr H=>?_)
 obtain ⟨A7,c7,rfl,hl6⟩:=uq hr
 have H:=H.pF hl6
 refine oq hf (uz hf H TF.la49 1 0 rfl rfl rfl rfl) fun a hf=>?_
 refine aL hf H TF.zv49 fun b4 a w hf H=>?_
 refine sB 0 hf H TF.sz49 fun w H=>?_
 refine ub (ua (dw [13] 14 fun w hb=>?_))
 have H:=H.keep hb
 refine zp 0 hf trivial fun a hf=>?_
 refine strT (H.lk 2 0 0 []) (fun w H=>trivial) fun hS=>?_
 refine zS 1 [1,11,12,13] rfl rfl rfl rfl hf hS (fun w H=>ue hf H TF.ls28 0 rfl rfl rfl) fun a hf=>?_
 refine zp 2 hf hS fun a hf=>?_
 refine strT (H.lk 3 0 0 []) (fun w H=>H.lk 2 0 0 []) fun hS=>?_
 refine zS 3 [3,9,10,11,12,13] rfl rfl rfl rfl hf hS (fun w H=>ue hf H TF.ls3 0 rfl rfl rfl) fun a hf=>?_
 refine zp 4 hf hS fun a hf=>?_
 refine zS 5 [5,6,9,10,11,12,13] rfl rfl rfl rfl hf hS (fun w H=>ul hf H TF.la45 0 rfl rfl rfl rfl) fun a hf=>?_
 refine zp 7 hf hS fun a hf=>?_
 refine zS 8 [8,9,10,11,12,13] rfl rfl rfl rfl hf hS (fun w H=>ul hf H TF.la47 0 rfl rfl rfl rfl) fun a hf=>?_
 obtain ⟨y2,hy2,hR1⟩:=bs_ hR1
 refine nn 6 rfl (oC hf TF.cl92 (zN (S:=TT) (xk (x:=e.Route) (H.rt 0 rfl)) hy2) fun v2 w a hp3 hf=>?_)
 obtain ⟨hb2,F4,hp4,hN2⟩:=hp3
 obtain ⟨A8,c8,F5,rfl,rfl,hl7⟩:=yT hp4
 have H:=H.aO1 hb2 hN2 hl7
 have H:=H.lend 0 rfl
 have hS:=H.lk 3 0 0 []
 refine aS hS ?_
 refine zP 9 rfl rfl rfl rfl hf hS (fun w=>uA hf (cs:=[(.int .i64 e.Id),(.int .i64 y2.Start),(.slice A8 y2.Fibers.length c8),(.int .i64 e.Block.First),(.int .i64 e.Block.Count)]) rfl (fun w=>by kernel_rfl)) fun a hf=>?_
 have H:=H.recast (X:=[(⟨F5,MP.own F5 [(.slice A8 y2.Fibers.length c8)] (y2.Fibers:List Int)⟩:DI)]) (Y:=[(⟨F5,MP.own F5 [(.int .i64 e.Id),(.int .i64 y2.Start),(.slice A8 y2.Fibers.length c8),(.int .i64 e.Block.First),(.int .i64 e.Block.Count)] (({ Id:=e.Id,Route:=y2,Block:=e.Block }:Light):Light)⟩:DI)]) (List.Perm.of_eq (by simp)) fun _=>ps1 (xR (x:=({ Id:=e.Id,Route:=y2,Block:=e.Block }:Light)) (H.ownAt 0 rfl)) ps0
 refine nn 10 rfl (yh hf 49 H rfl (fun w=>by kernel_rfl) (by decide) fun A9 a w hf H=>?_)
 have hS:=H.lk 3 0 0 []
 refine aS hS ?_
 obtain ⟨al,hal,hR1⟩:=bs_ hR1
 have H:=H.frontR 1 rfl
 refine nn 11 rfl (gbO hf H Tryz.underlying28 TF.ai49 rfl (by decide) rfl rfl hal (by decide) fun E2 A10 c9 a w hf H=>?_)
 have hS:=H.lk 3 0 0 []
 refine aS hS ?_
 refine zp 12 hf hS fun a hf=>?_
 refine nn 13 rfl (uh hf H 1 TF.sz28 rfl rfl rfl rfl rfl rfl (nle rfl) fun w H=>?_)
 refine ⟨fun h=>absurd h (by decide),?_⟩
 refine dk ?_
 have hf:=hf.pn [2,3,11,12,13]
 refine uV (ua (reg (pz 2 hf fun a hf=>?_)))
 refine ub ?_
 have hf:=hf.pn [2,3,11,12,13]
 have H:=H.lm 6 1 3 6 56
 exact ua ⟨(w64 (i + 1),al),hR1,A10,c9,E2,Fs++[F5],hf,H⟩
 refine wp_exit (uy (uy (vJ (?_))))
 have hf:=hf.pn [2,3,11,12,13]
 have H:=H.lm 3 1 3 3 7
 exact ⟨(i,m),(Option.some.inj hR1).symm,A6,c6,E,Fs,hf,H⟩
 rintro a w ⟨⟨i2,m2⟩,rfl,A11,c10,E3,Fs2,hf,H⟩
 try dsimp only at hF
 refine ua (sq (reg (lN 0 hf H TF.la30 fun a hf=>?_)))
 refine sB 1 hf H TF.sz30 fun w H=>?_
 refine wer ?_
 obtain ⟨F6,H⟩:=H.freezeOwn 0 rfl
 have H:=H.lend 0 rfl
 have H:=H.frontD 2 rfl
 have H:=H.frontD 2 rfl
 obtain rfl:=oi hF
 refine xi hf rfl (um hf H 1 TF.la30 rfl rfl rfl) ?_
 have hN:=H.ends3
 exact ⟨_,rfl,H.bel,(F2++(F3++F6)),⟨_,vB (x:=({ Network:=y,Lights:=m2 }:Plan)) (H.ownAt 0 rfl) (H.ownAt 1 rfl) (H.ownAt 2 rfl),rfl⟩,by first | exact hN | simpa using hN⟩
theorem gb1 {S:Nat→Prop} {v0_:Value} {v1_:Value} {s1:List Int} {s2:List Int} {r:Bool} (h0:VR w0 S v0_ s1) (h1:VR w0 S v1_ s2) (hF:xT fu s1 s2=some r) :
    Calls Tryz.prog 90 [v0_,v1_].toArray w0 fun e w'=>∃ v,e=.returned v∧(Below w0.heap.size w0 w'∧VR w' (St ⟨w0,[]⟩ S [] [] [] true) v r):=by
 obtain ⟨A,c,rfl,hl⟩:=u4 h0
 obtain ⟨A2,c2,rfl,hl2⟩:=u4 h1
 have H:=Mem.start ⟨w0,[]⟩ S
 have H:=H.pA hl
 have H:=H.pA hl2
 refine en Tryz.func90 fun a hf=>?_
 rw [xT] at hF
 refine sqz (pz 1 hf fun a hf=>?_)
 refine we (sqz (pz 5 hf fun a hf=>?_))
 refine ub (ua (ib hF hf (fun hc hF=>?_) fun hc hF=>?_))
 refine sqz (pz 1 hf fun a hf=>?_)
 refine ub (ua (wp_ret (uf (?_))))
 obtain rfl:=oi hF
 refine rT hf ?_
 exact ⟨_,rfl,H.bel,uk⟩
 refine wp_skip (ua (sq (sqz (pz 3 hf fun a hf=>?_))))
 refine ub (ua ?_)
 obtain ⟨out',hB1,hF⟩:=bs_ hF
 have hf:=hf.pn [0,1,12,13]
 have H:=H.lk 0 0 0 [0,1]
 refine vU (fun (s:Int) (a:Act) (w:World)=>match s with | i=>Fr a 26 [(0,(.slice A s1.length c)),(1,(.slice A2 s2.length c2)),(12,(.int .i64 (s1.length:Int))),(13,(.int .i64 i))]∧Mem ⟨w0,[]⟩ S [] [] [] [(false,MP.val [(.slice A2 s2.length c2)] (s2:List Int)),(false,MP.val [(.slice A s1.length c)] (s1:List Int))] w) (fun k (s:Int)=>vl fu s1 s2 k s=some out') (fun s=>out'=Out.next s) 0 fu hB1 ⟨hf,H⟩ (fun s h=>by cases h) ?_ ?_
 rintro fk i a w hR1 hI
 replace hR1:vl fu s1 s2 (fk + 1) i=some out':=hR1
 rw [vl] at hR1
 obtain ⟨hf,H⟩:=hI
 refine sqz (pz 1 hf fun a hf=>?_)
 refine ub (ua (sq (ib hR1 hf (fun hc2 hR1=>?_) fun hc2 hR1=>?_)))
 refine ws (pz 2 hf fun a hf=>?_)
 refine ub (ua (sq (dw [] 9 fun w hb=>?_)))
 have H:=H.keep hb
 refine zp 0 hf trivial fun a hf=>?_
 refine zp 1 hf trivial fun a hf=>?_
 obtain ⟨e,he,hR1⟩:=bs_ hR1
 obtain ⟨p,o,cs,hx,hr,H⟩:=ux H Tryz.underlying35 TF.sz3 1 rfl he
 refine tP 2 rfl rfl rfl rfl hf (by kernel_rfl) (fun _=>trivial) (fun w=>uu hf rfl rfl rfl hx w) fun a hf=>?_
 obtain rfl:=hr
 refine strT (H.lk 0 0 0 [0]) (fun w H=>trivial) fun hS=>?_
 refine zS 3 [] rfl rfl rfl rfl hf hS (fun w H=>uI hf H TF.ls3 0 0 rfl rfl rfl) fun a hf=>?_
 refine zp 4 hf hS fun a hf=>?_
 refine zp 5 hf hS fun a hf=>?_
 obtain ⟨e2,he2,hR1⟩:=bs_ hR1
 obtain ⟨p2,o2,cs2,hx2,hr2,H⟩:=ux H Tryz.underlying35 TF.sz3 1 rfl he2
 refine zP 6 rfl rfl rfl rfl hf hS (fun w=>uu hf rfl rfl rfl hx2 w) fun a hf=>?_
 obtain rfl:=hr2
 refine strT (H.lk 0 0 0 [0,1]) (fun w H=>H.lk 0 0 0 [1]) fun hS=>?_
 refine zS 7 [] rfl rfl rfl rfl hf hS (fun w H=>uI hf H TF.ls3 0 0 rfl rfl rfl) fun a hf=>?_
 refine zp 8 hf hS fun a hf=>?_
 refine dk ?_
 refine ua (ib hR1 hf (fun hc3 hR1=>?_) fun hc3 hR1=>?_)
 refine sqz (pz 1 hf fun a hf=>?_)
 have hf:=hf.pn [4]
 refine ub (ua (wp_ret (u9 (uf (uf (u9 (uf (uf (?_)))))))))
 obtain rfl:=oi hR1
 replace hF:=xc hF
 obtain rfl:=oi hF
 refine rT hf ?_
 exact ⟨_,rfl,H.bel,uk⟩
 refine wp_skip (uV (ua (reg (pz 2 hf fun a hf=>?_))))
 have hf:=hf.pn [0,1,12,13]
 refine ub ?_
 have hf:=hf.pn [0,1,12,13]
 have H:=H.lk 0 0 0 [2,3]
 exact ua ⟨w64 (i + 1),hR1,hf,H⟩
 refine wp_exit (uy (uy (vJ (?_))))
 have hf:=hf.pn [0,1,12,13]
 have H:=H.lk 0 0 0 [0,1]
 exact ⟨i,(Option.some.inj hR1).symm,hf,H⟩
 rintro a w ⟨i2,rfl,hf,H⟩
 replace hF:=vG hF
 refine ua (sqz (pz 1 hf fun a hf=>?_))
 refine wer ?_
 obtain rfl:=oi hF
 refine rT hf ?_
 exact ⟨_,rfl,H.bel,uk⟩
theorem geO {S:Nat→Prop} {v0_:Value} {v1_:Value} {a':List Int} {b':List Int} {r:Bool} (h0:VR w0 S v0_ a') (h1:VR w0 S v1_ b') (hF:gbp fu a' b'=some r) :
    Calls Tryz.prog 304 [v0_,v1_].toArray w0 fun e w'=>∃ v,e=.returned v∧(Below w0.heap.size w0 w'∧VR w' (St ⟨w0,[]⟩ S [] [] [] true) v r):=by
 obtain ⟨A,c,rfl,hl⟩:=u4 h0
 obtain ⟨A2,c2,rfl,hl2⟩:=u4 h1
 have H:=Mem.start ⟨w0,[]⟩ S
 have H:=H.pA hl
 have H:=H.pA hl2
 refine en Tryz.func304 fun a hf=>?_
 rw [gbp] at hF
 refine sqz (pz 1 hf fun a hf=>?_)
 refine we (sqz (pz 5 hf fun a hf=>?_))
 refine ub (ua (ib hF hf (fun hc hF=>?_) fun hc hF=>?_))
 refine sqz (pz 1 hf fun a hf=>?_)
 refine ub (ua (wp_ret (uf (?_))))
 obtain rfl:=oi hF
 refine rT hf ?_
 exact ⟨_,rfl,H.bel,uk⟩
 refine wp_skip (ua (sq (sqz (pz 1 hf fun a hf=>?_))))
 refine ub (ua ?_)
 obtain ⟨out',hB1,hF⟩:=bs_ hF
 have hf:=hf.pn [0,1,5]
 have H:=H.lk 0 0 0 [0,1]
 refine vU (fun (s:Int) (a:Act) (w:World)=>match s with | i=>Fr a 26 [(0,(.slice A a'.length c)),(1,(.slice A2 b'.length c2)),(5,(.int .i64 i))]∧Mem ⟨w0,[]⟩ S [] [] [] [(false,MP.val [(.slice A2 b'.length c2)] (b':List Int)),(false,MP.val [(.slice A a'.length c)] (a':List Int))] w) (fun k (s:Int)=>ya fu a' b' k s=some out') (fun s=>out'=Out.next s) 0 fu hB1 ⟨hf,H⟩ (fun s h=>by cases h) ?_ ?_
 rintro fk i a w hR1 hI
 replace hR1:ya fu a' b' (fk + 1) i=some out':=hR1
 rw [ya] at hR1
 obtain ⟨hf,H⟩:=hI
 refine sq (sqz (pz 4 hf fun a hf=>?_))
 refine ub (ua (ib hR1 hf (fun hc2 hR1=>?_) fun hc2 hR1=>?_))
 refine wp_skip (ua (sq (wp_block (sq (dw [] 9 fun w hb=>?_)))))
 have H:=H.keep hb
 refine zp 0 hf trivial fun a hf=>?_
 refine zp 1 hf trivial fun a hf=>?_
 obtain ⟨e,he,hR1⟩:=bs_ hR1
 obtain ⟨p,o,cs,hx,hr,H⟩:=ux H Tryz.underlying35 TF.sz3 1 rfl he
 refine tP 2 rfl rfl rfl rfl hf (by kernel_rfl) (fun _=>trivial) (fun w=>uu hf rfl rfl rfl hx w) fun a hf=>?_
 obtain rfl:=hr
 refine strT (H.lk 0 0 0 [0]) (fun w H=>trivial) fun hS=>?_
 refine zS 3 [] rfl rfl rfl rfl hf hS (fun w H=>uI hf H TF.ls3 0 0 rfl rfl rfl) fun a hf=>?_
 refine zp 4 hf hS fun a hf=>?_
 refine zp 5 hf hS fun a hf=>?_
 obtain ⟨e2,he2,hR1⟩:=bs_ hR1
 obtain ⟨p2,o2,cs2,hx2,hr2,H⟩:=ux H Tryz.underlying35 TF.sz3 1 rfl he2
 refine zP 6 rfl rfl rfl rfl hf hS (fun w=>uu hf rfl rfl rfl hx2 w) fun a hf=>?_
 obtain rfl:=hr2
 refine strT (H.lk 0 0 0 [0,1]) (fun w H=>H.lk 0 0 0 [1]) fun hS=>?_
 refine zS 7 [] rfl rfl rfl rfl hf hS (fun w H=>uI hf H TF.ls3 0 0 rfl rfl rfl) fun a hf=>?_
 refine zp 8 hf hS fun a hf=>?_
 refine dk ?_
 refine ua (ib hR1 hf (fun hc3 hR1=>?_) fun hc3 hR1=>?_)
 refine sqz (pz 1 hf fun a hf=>?_)
 have hf:=hf.pn [4]
 refine ub (ua (wp_ret (u9 (uf (uf (u9 (uf (uf (?_)))))))))
 obtain rfl:=oi hR1
 replace hF:=xc hF
 obtain rfl:=oi hF
 refine rT hf ?_
 exact ⟨_,rfl,H.bel,uk⟩
 refine wp_skip (uV (ua (reg (pz 3 hf fun a hf=>?_))))
 have hf:=hf.pn [0,1,5]
 refine ub ?_
 have hf:=hf.pn [0,1,5]
 have H:=H.lk 0 0 0 [2,3]
 exact ua ⟨w64 (i + 1),hR1,hf,H⟩
 refine wp_exit (uy (uy (vJ (?_))))
 have hf:=hf.pn [0,1,5]
 have H:=H.lk 0 0 0 [0,1]
 exact ⟨i,(Option.some.inj hR1).symm,hf,H⟩
 rintro a w ⟨i2,rfl,hf,H⟩
 replace hF:=vG hF
 refine ua (sqz (pz 1 hf fun a hf=>?_))
 refine wer ?_
 obtain rfl:=oi hF
 refine rT hf ?_
 exact ⟨_,rfl,H.bel,uk⟩
theorem gcD {S:Nat→Prop} {v0_:Value} {v1_:Value} {a':Route} {b':Route} {r:Bool} (h0:VR w0 S v0_ a') (h1:VR w0 S v1_ b') (hF:gbh fu a' b'=some r) :
    Calls Tryz.prog 247 [v0_,v1_].toArray w0 fun e w'=>∃ v,e=.returned v∧(Below w0.heap.size w0 w'∧VR w' (St ⟨w0,[]⟩ S [] [] [] true) v r):=by
 obtain ⟨A,c,rfl,hl⟩:=yi h0
 obtain ⟨A2,c2,rfl,hl2⟩:=yi h1
 have H:=Mem.start ⟨w0,[]⟩ S
 have H:=H.pA hl
 have H:=H.pA hl2
 refine en Tryz.func247 fun a hf=>?_
 rw [gbh] at hF
 refine bx hf H fun b2 a w hf H=>?_
 refine wl0 rfl (xl hf H rfl rfl (by decide) fun b3 a w hf H=>?_)
 refine pz 1 hf fun a hf=>?_
 refine ub (ua (sq ?_))
 obtain ⟨c3,hGc3,hF⟩:=bs_ hF
 have fh:=hf.prune [] rfl
 have Hm:=H.lk 0 0 0 []
 refine midF 4 (.bool c3) fh Hm ?_ fun a w hf H=>?_
 refine reg (pz 1 hf fun a hf=>?_)
 refine lB 1 hf H TF.ls3 fun a hf=>?_
 refine pz 1 hf fun a hf=>?_
 refine lB 0 hf H TF.ls3 fun a hf=>?_
 refine pz 2 hf fun a hf=>?_
 refine iteB hGc3 (fun hc hGc3=>?_) fun hc hGc3=>?_
 have hf:=hf.lit 10 rfl hc
 refine pz 1 hf fun a hf=>?_
 refine wlg hf rfl rfl rfl (op_q hf (ue hf H TF.ls35 1 rfl rfl rfl) rfl (by decide) fun a hf=>?_)
 refine pz 1 hf fun a hf=>?_
 refine wlg hf rfl rfl rfl (op_q hf (ue hf H TF.ls35 0 rfl rfl rfl) rfl (by decide) fun a hf=>?_)
 obtain ⟨y,hy,hGc3⟩:=bs_ hGc3
 refine wlg hf rfl rfl rfl (oC hf TF.glK (geO (S:=TT) (uB (H.rt 1 rfl)) (uB (H.rt 0 rfl)) hy) fun v w a hp hf=>?_)
 obtain ⟨hb,hp⟩:=hp
 obtain rfl:=uo hp
 have H:=H.keep hb
 refine pz 2 hf fun a hf=>?_
 obtain rfl:=oi hGc3
 have hf:=hf.pn [4]
 have H:=H.lk 0 0 0 []
 exact ub ⟨hf,H⟩
 have hf:=hf.lit 10 rfl hc
 refine pz 7 hf fun a hf=>?_
 obtain rfl:=oi hGc3
 have hf:=hf.pn [4]
 have H:=H.lk 0 0 0 []
 exact ub ⟨hf,H⟩
 refine ua (wp_ret (?_))
 obtain rfl:=oi hF
 refine rT hf ?_
 exact ⟨_,rfl,H.bel,uk⟩
theorem gfl {S:Nat→Prop} {v0_:Value} {v1_:Value} {a':List Int} {b':List Int} {r:Bool} (h0:VR w0 S v0_ a') (h1:VR w0 S v1_ b') (hF:gbT fu a' b'=some r) :
    Calls Tryz.prog 24 [v0_,v1_].toArray w0 fun e w'=>∃ v,e=.returned v∧(Below w0.heap.size w0 w'∧VR w' (St ⟨w0,[]⟩ S [] [] [] true) v r):=by
 obtain ⟨A,c,rfl,hl⟩:=u4 h0
 obtain ⟨A2,c2,rfl,hl2⟩:=u4 h1
 have H:=Mem.start ⟨w0,[]⟩ S
 have H:=H.pA hl
 have H:=H.pA hl2
 refine en Tryz.func24 fun a hf=>?_
 rw [gbT] at hF
 refine sqz (pz 1 hf fun a hf=>?_)
 refine we (sqz (pz 5 hf fun a hf=>?_))
 refine ub (ua (ib hF hf (fun hc hF=>?_) fun hc hF=>?_))
 refine sqz (pz 1 hf fun a hf=>?_)
 refine ub (ua (wp_ret (uf (?_))))
 obtain rfl:=oi hF
 refine rT hf ?_
 exact ⟨_,rfl,H.bel,uk⟩
 refine wp_skip (ua (sq (sqz (pz 1 hf fun a hf=>?_))))
 refine ub (ua ?_)
 obtain ⟨out',hB1,hF⟩:=bs_ hF
 have hf:=hf.pn [0,1,5]
 have H:=H.lk 0 0 0 [0,1]
 refine vU (fun (s:Int) (a:Act) (w:World)=>match s with | i=>Fr a 26 [(0,(.slice A a'.length c)),(1,(.slice A2 b'.length c2)),(5,(.int .i64 i))]∧Mem ⟨w0,[]⟩ S [] [] [] [(false,MP.val [(.slice A2 b'.length c2)] (b':List Int)),(false,MP.val [(.slice A a'.length c)] (a':List Int))] w) (fun k (s:Int)=>zm fu a' b' k s=some out') (fun s=>out'=Out.next s) 0 fu hB1 ⟨hf,H⟩ (fun s h=>by cases h) ?_ ?_
 rintro fk i a w hR1 hI
 replace hR1:zm fu a' b' (fk + 1) i=some out':=hR1
 rw [zm] at hR1
 obtain ⟨hf,H⟩:=hI
 refine sq (sqz (pz 4 hf fun a hf=>?_))
 refine ub (ua (ib hR1 hf (fun hc2 hR1=>?_) fun hc2 hR1=>?_))
 refine wp_skip (ua (sq (wp_block (sq (dw [] 9 fun w hb=>?_)))))
 have H:=H.keep hb
 refine zp 0 hf trivial fun a hf=>?_
 refine zp 1 hf trivial fun a hf=>?_
 obtain ⟨e,he,hR1⟩:=bs_ hR1
 obtain ⟨p,o,cs,hx,hr,H⟩:=ux H Tryz.underlying35 TF.sz3 1 rfl he
 refine tP 2 rfl rfl rfl rfl hf (by kernel_rfl) (fun _=>trivial) (fun w=>uu hf rfl rfl rfl hx w) fun a hf=>?_
 obtain rfl:=hr
 refine strT (H.lk 0 0 0 [0]) (fun w H=>trivial) fun hS=>?_
 refine zS 3 [] rfl rfl rfl rfl hf hS (fun w H=>uI hf H TF.ls3 0 0 rfl rfl rfl) fun a hf=>?_
 refine zp 4 hf hS fun a hf=>?_
 refine zp 5 hf hS fun a hf=>?_
 obtain ⟨e2,he2,hR1⟩:=bs_ hR1
 obtain ⟨p2,o2,cs2,hx2,hr2,H⟩:=ux H Tryz.underlying35 TF.sz3 1 rfl he2
 refine zP 6 rfl rfl rfl rfl hf hS (fun w=>uu hf rfl rfl rfl hx2 w) fun a hf=>?_
 obtain rfl:=hr2
 refine strT (H.lk 0 0 0 [0,1]) (fun w H=>H.lk 0 0 0 [1]) fun hS=>?_
 refine zS 7 [] rfl rfl rfl rfl hf hS (fun w H=>uI hf H TF.ls3 0 0 rfl rfl rfl) fun a hf=>?_
 refine zp 8 hf hS fun a hf=>?_
 refine dk ?_
 refine ua (ib hR1 hf (fun hc3 hR1=>?_) fun hc3 hR1=>?_)
 refine sqz (pz 1 hf fun a hf=>?_)
 have hf:=hf.pn [4]
 refine ub (ua (wp_ret (u9 (uf (uf (u9 (uf (uf (?_)))))))))
 obtain rfl:=oi hR1
 replace hF:=xc hF
 obtain rfl:=oi hF
 refine rT hf ?_
 exact ⟨_,rfl,H.bel,uk⟩
 refine wp_skip (uV (ua (reg (pz 3 hf fun a hf=>?_))))
 have hf:=hf.pn [0,1,5]
 refine ub ?_
 have hf:=hf.pn [0,1,5]
 have H:=H.lk 0 0 0 [2,3]
 exact ua ⟨w64 (i + 1),hR1,hf,H⟩
 refine wp_exit (uy (uy (vJ (?_))))
 have hf:=hf.pn [0,1,5]
 have H:=H.lk 0 0 0 [0,1]
 exact ⟨i,(Option.some.inj hR1).symm,hf,H⟩
 rintro a w ⟨i2,rfl,hf,H⟩
 replace hF:=vG hF
 refine ua (sqz (pz 1 hf fun a hf=>?_))
 refine wer ?_
 obtain rfl:=oi hF
 refine rT hf ?_
 exact ⟨_,rfl,H.bel,uk⟩
theorem gem {S:Nat→Prop} {v0_:Value} {v1_:Value} {a':Route} {b':Route} {r:Bool} (h0:VR w0 S v0_ a') (h1:VR w0 S v1_ b') (hF:gbK fu a' b'=some r) :
    Calls Tryz.prog 98 [v0_,v1_].toArray w0 fun e w'=>∃ v,e=.returned v∧(Below w0.heap.size w0 w'∧VR w' (St ⟨w0,[]⟩ S [] [] [] true) v r):=by
 obtain ⟨A,c,rfl,hl⟩:=yi h0
 obtain ⟨A2,c2,rfl,hl2⟩:=yi h1
 have H:=Mem.start ⟨w0,[]⟩ S
 have H:=H.pA hl
 have H:=H.pA hl2
 refine en Tryz.func98 fun a hf=>?_
 rw [gbK] at hF
 refine bx hf H fun b2 a w hf H=>?_
 refine wl0 rfl (xl hf H rfl rfl (by decide) fun b3 a w hf H=>?_)
 refine pz 1 hf fun a hf=>?_
 refine ub (ua (sq ?_))
 obtain ⟨c3,hGc3,hF⟩:=bs_ hF
 have fh:=hf.prune [] rfl
 have Hm:=H.lk 0 0 0 []
 refine midF 4 (.bool c3) fh Hm ?_ fun a w hf H=>?_
 refine reg (pz 1 hf fun a hf=>?_)
 refine lB 1 hf H TF.ls3 fun a hf=>?_
 refine pz 1 hf fun a hf=>?_
 refine lB 0 hf H TF.ls3 fun a hf=>?_
 refine pz 2 hf fun a hf=>?_
 refine iteB hGc3 (fun hc hGc3=>?_) fun hc hGc3=>?_
 have hf:=hf.lit 10 rfl hc
 refine pz 1 hf fun a hf=>?_
 refine wlg hf rfl rfl rfl (op_q hf (ue hf H TF.ls35 1 rfl rfl rfl) rfl (by decide) fun a hf=>?_)
 refine pz 1 hf fun a hf=>?_
 refine wlg hf rfl rfl rfl (op_q hf (ue hf H TF.ls35 0 rfl rfl rfl) rfl (by decide) fun a hf=>?_)
 obtain ⟨y,hy,hGc3⟩:=bs_ hGc3
 refine wlg hf rfl rfl rfl (oC hf TF.cl24 (gfl (S:=TT) (uB (H.rt 1 rfl)) (uB (H.rt 0 rfl)) hy) fun v w a hp hf=>?_)
 obtain ⟨hb,hp⟩:=hp
 obtain rfl:=uo hp
 have H:=H.keep hb
 refine pz 2 hf fun a hf=>?_
 obtain rfl:=oi hGc3
 have hf:=hf.pn [4]
 have H:=H.lk 0 0 0 []
 exact ub ⟨hf,H⟩
 have hf:=hf.lit 10 rfl hc
 refine pz 7 hf fun a hf=>?_
 obtain rfl:=oi hGc3
 have hf:=hf.pn [4]
 have H:=H.lk 0 0 0 []
 exact ub ⟨hf,H⟩
 refine ua (wp_ret (?_))
 obtain rfl:=oi hF
 refine rT hf ?_
 exact ⟨_,rfl,H.bel,uk⟩
theorem geo {S:Nat→Prop} {v0_:Value} {v1_:Value} {a':Light} {b':Light} {r:Bool} (h0:VR w0 S v0_ a') (h1:VR w0 S v1_ b') (hF:gae fu a' b'=some r) :
    Calls Tryz.prog 27 [v0_,v1_].toArray w0 fun e w'=>∃ v,e=.returned v∧(Below w0.heap.size w0 w'∧VR w' (St ⟨w0,[]⟩ S [] [] [] true) v r):=by
 obtain ⟨A,c,rfl,hl⟩:=vK h0
 obtain ⟨A2,c2,rfl,hl2⟩:=vK h1
 have H:=Mem.start ⟨w0,[]⟩ S
 have H:=H.pA hl
 have H:=H.pA hl2
 refine en Tryz.func27 fun a hf=>?_
 rw [gae] at hF
 refine bx hf H fun b2 a w hf H=>?_
 refine wl0 rfl (xl hf H rfl rfl (by decide) fun b3 a w hf H=>?_)
 refine pz 1 hf fun a hf=>?_
 refine ub (ua (sq ?_))
 obtain ⟨c3,hGc3,hF⟩:=bs_ hF
 have fh:=hf.prune [] rfl
 have Hm:=H.lk 0 0 0 []
 refine midF 4 (.bool c3) fh Hm ?_ fun a w hf H=>?_
 refine reg (pz 1 hf fun a hf=>?_)
 refine lB 1 hf H TF.ls3 fun a hf=>?_
 refine pz 1 hf fun a hf=>?_
 refine lB 0 hf H TF.ls3 fun a hf=>?_
 refine pz 2 hf fun a hf=>?_
 refine iteB hGc3 (fun hc hGc3=>?_) fun hc hGc3=>?_
 have hf:=hf.lit 10 rfl hc
 refine pz 1 hf fun a hf=>?_
 refine wlg hf rfl rfl rfl (op_q hf (ul hf H TF.la47 1 rfl rfl rfl rfl) rfl (by decide) fun a hf=>?_)
 refine pz 1 hf fun a hf=>?_
 refine wlg hf rfl rfl rfl (op_q hf (ul hf H TF.la47 0 rfl rfl rfl rfl) rfl (by decide) fun a hf=>?_)
 refine wlg hf rfl rfl rfl (op_q hf (gh0 hf TF.ggU ([a'.Block.First,a'.Block.Count]:List Int) ([b'.Block.First,b'.Block.Count]:List Int) rfl rfl rfl rfl rfl rfl) rfl (by decide) fun a hf=>?_)
 refine pz 2 hf fun a hf=>?_
 refine iteB hGc3 (fun hc2 hGc3=>?_) fun hc2 hGc3=>?_
 have hf:=hf.lit 17 rfl hc2
 refine pz 1 hf fun a hf=>?_
 refine wlg hf rfl rfl rfl (op_q hf (ul hf H TF.la45 1 rfl rfl rfl rfl) rfl (by decide) fun a hf=>?_)
 refine pz 1 hf fun a hf=>?_
 refine wlg hf rfl rfl rfl (op_q hf (ul hf H TF.la45 0 rfl rfl rfl rfl) rfl (by decide) fun a hf=>?_)
 obtain ⟨y,hy,hGc3⟩:=bs_ hGc3
 refine wlg hf rfl rfl rfl (oC hf TF.cl98 (gem (S:=TT) (xk (x:=a'.Route) (H.rt 1 rfl)) (xk (x:=b'.Route) (H.rt 0 rfl)) hy) fun v w a hp hf=>?_)
 obtain ⟨hb,hp⟩:=hp
 obtain rfl:=uo hp
 have H:=H.keep hb
 refine pz 2 hf fun a hf=>?_
 obtain rfl:=oi hGc3
 have hf:=hf.pn [4]
 have H:=H.lk 0 0 0 []
 exact ub ⟨hf,H⟩
 have hf:=hf.lit 17 rfl hc2
 refine pz 7 hf fun a hf=>?_
 obtain rfl:=oi hGc3
 have hf:=hf.pn [4]
 have H:=H.lk 0 0 0 []
 exact ub ⟨hf,H⟩
 have hf:=hf.lit 10 rfl hc
 refine pz 14 hf fun a hf=>?_
 obtain rfl:=oi hGc3
 have hf:=hf.pn [4]
 have H:=H.lk 0 0 0 []
 exact ub ⟨hf,H⟩
 refine ua (wp_ret (?_))
 obtain rfl:=oi hF
 refine rT hf ?_
 exact ⟨_,rfl,H.bel,uk⟩
end AT
