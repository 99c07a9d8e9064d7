/- Shorter words for the generated walks: what is closed is told by itself. -/
import Derived.Test.YtlemonjnolciiaaGreatT
set_option linter.unusedVariables false
set_option maxRecDepth 100000
namespace AT
theorem Z.{u_} {α:Sort u_} {a:α}:a=a:=rfl
open Go Go.RowKit Go.Proofs
@[reducible] def Sc {α:Type} (A:Option Addr) (c:Nat) (x:List α):Value:=.slice A x.length c
abbrev OA:=Option Addr
abbrev LN:=List Nat
@[reducible] def Iv (x:Int):Value:=.int .i64 x
@[reducible] def Pv (b:Nat):Value:=.pointer (some ⟨b,0,none⟩)
@[reducible] def Pw (b o:Nat):Value:=.pointer (some ⟨b,o,none⟩)
@[reducible] def Vl (f:Bool) (A:Option Addr) (c:Nat) {α:Type} [GoTy α] (x:List α):Bool×MP:=(f,MP.val [.slice A x.length c] x)
@[reducible] def Ow (F:List Nat) (A:Option Addr) (c:Nat) {α:Type} [GoTy α] (x:List α):DI:=⟨F,MP.own F [.slice A x.length c] x⟩
@[reducible] def Bt:Nat→Nat→List Bool
  | 0,_=>[]
  | n + 1,m=>Nat.beq (m % 2) 1::Bt n (m / 2)
@[reducible] def Cb (A0:Option Addr) (c0:Nat) (A1:Option Addr) (c1:Nat) (A2:Option Addr) (c2:Nat) (x:Nd):List Value:=[Sc A0 c0 x.Nk.Ng,Sc A1 c1 x.Nk.Nq,Sc A2 c2 x.Nv]
@[reducible] def Cc (A0:Option Addr) (c0:Nat) (x:Nw):List Value:=[.int .i64 x.Id,.int .i64 x.Nz.Pz,Sc A0 c0 x.Nz.Nq,.int .i64 x.Nj.Px,.int .i64 x.Nj.Pk]
@[reducible] def Cd (A0:Option Addr) (c0:Nat) (A1:Option Addr) (c1:Nat) (A2:Option Addr) (c2:Nat) (x:Nd):Value:=.agg #[Sc A0 c0 x.Nk.Ng,Sc A1 c1 x.Nk.Nq,Sc A2 c2 x.Nv]
@[reducible] def Ce (A0:Option Addr) (c0:Nat) (A1:Option Addr) (c1:Nat) (x:Nk):List Value:=[Sc A0 c0 x.Ng,Sc A1 c1 x.Nq]
@[reducible] def Cf (A0:Option Addr) (c0:Nat) (x:Nz):List Value:=[.int .i64 x.Pz,Sc A0 c0 x.Nq]
@[reducible] def Cg (A0:Option Addr) (c0:Nat) (x:Nz):Value:=.agg #[.int .i64 x.Pz,Sc A0 c0 x.Nq]
@[reducible] def Ch (x:Nj):Value:=.agg #[.int .i64 x.Px,.int .i64 x.Pk]
@[reducible] def Ci (x:Nj):List Value:=[.int .i64 x.Px,.int .i64 x.Pk]
@[reducible] def Cj (A0:Option Addr) (c0:Nat) (x:Nh):List Value:=[.int .i64 x.Pq,.int .i64 x.Nw.Id,.int .i64 x.Nw.Nz.Pz,Sc A0 c0 x.Nw.Nz.Nq,.int .i64 x.Nw.Nj.Px,.int .i64 x.Nw.Nj.Pk]
@[reducible] def Ck (A0:Option Addr) (c0:Nat) (A1:Option Addr) (c1:Nat) (x:Ph):List Value:=[Sc A0 c0 x.list,Sc A1 c1 x.failed]
@[reducible] def Cl (x:Np):Value:=.agg #[.int .i64 x.A,.int .i64 x.B,.int .i64 x.Nt,.int .i64 x.Pj]
@[reducible] def Cm (A0:Option Addr) (c0:Nat) (x:Nw):Value:=.agg #[.int .i64 x.Id,.int .i64 x.Nz.Pz,Sc A0 c0 x.Nz.Nq,.int .i64 x.Nj.Px,.int .i64 x.Nj.Pk]
@[reducible] def Ca:List Value:=[(.slice none 0 0),(.slice none 0 0),(.slice none 0 0)]
@[reducible] def CA (f:FuncId) (vs:List Value) (w:World) (P:Value→World→Prop):Prop:=Calls Tryz.prog f vs.toArray w λe w'=>∃v,e=.returned v∧P v w'
@[reducible] def VX (w0 w:World) (S:Nat→Prop) {α:Type} [GoTy α] (v:Value) (x:α):Prop:=VR w (St ⟨w0,[]⟩ S [] [] [] true) v x
@[reducible] def CV (f:FuncId) (vs:List Value) (w0:World) (S:Nat→Prop) {α:Type} [GoTy α] (x:α):Prop:=CA f vs w0 λv w'=>(Below w0.heap.size w0 w'∧VX w0 w' S v x)
@[reducible] def CO (f:FuncId) (vs:List Value) (w0:World) {α:Type} [GoTy α] (x:α):Prop:=CA f vs w0 λv w'=>(Below w0.heap.size w0 w'∧∃F0,VO w' F0 v x∧New w0 w' F0)
@[reducible] def CD (f:FuncId) (vs:List Value) (w0:World) (S:Nat→Prop) (b t:Nat) (cs0:List Value) (x c:L1CurP) {α:Type} [GoTy α] (y:α):Prop:=CA f vs w0 λv w'=>(Chg w0 w' [b]∧∃cs',w'.heap[b]?=some (.cells cs'.toArray t (0,0))∧GoTy.rep w' (St ⟨w0,[b]⟩ S [⟨b,t,cs'⟩] [] [] false) cs' x∧(cs'[0]?=cs0[0]?∧x.code=c.code)∧∃F1,VO w' F1 v y∧New w0 w' F1)
@[reducible] def CE (f:FuncId) (vs:List Value) (w0:World) (S:Nat→Prop) (b t:Nat) (cs0:List Value) (x c:L1CurP) {α:Type} [GoTy α] (y:α):Prop:=CA f vs w0 λv w'=>(Chg w0 w' [b]∧∃cs',w'.heap[b]?=some (.cells cs'.toArray t (0,0))∧GoTy.rep w' (St ⟨w0,[b]⟩ S [⟨b,t,cs'⟩] [] [] false) cs' x∧(cs'[0]?=cs0[0]?∧x.code=c.code)∧VR w' (St ⟨w0,[b]⟩ S [⟨b,t,cs'⟩] [] [] true) v y)
abbrev kr:=@wp_skip
abbrev kx:=@wp_exit
abbrev kb:=@wp_block
abbrev kt:=trivial
abbrev y128:=@Tryz.underlying128
abbrev y141:=@Tryz.underlying141
abbrev y143:=@Tryz.underlying143
abbrev y213:=@Tryz.underlying213
abbrev y24:=@Tryz.underlying24
abbrev y25:=@Tryz.underlying25
abbrev y28:=@Tryz.underlying28
abbrev y35:=@Tryz.underlying35
abbrev y70:=@Tryz.underlying70
abbrev y75:=@Tryz.underlying75
abbrev y78:=@Tryz.underlying78
theorem Dd {p:Prop} (h:p:=by decide):p:=h
theorem Kk.{u} {α:Sort u} {a b:α} (h:a=b:=by kernel_rfl):a=b:=h
section
variable {Q:Exit→Act→World→Prop} {a:Act} {w:World} {n:Nat} {L:List (Nat×Value)} {dst:Option Tmp} {ty:TypeId} {pos:String} {af:Array Edge} {K:Act→World→Prop} {d:Nat}
variable {w0:Base} {S:Nat→Prop} {M:List Blk} {R:List Row} {D:List DI} {I:List (Bool×MP)} {S0:World→Prop} {B:List Nat} {bs:List Bool} {fuel:Nat} {Mid:Act→World→Prop} {o:Oper} {v:Value}
theorem Mem.rt (H:Mem w0 S M R D I w) (i:Nat) {α:Type} [GoTy α] {cs:List Value} {x:α} {f:Bool} (hi:I[i]?=some (f,MP.val cs x)):GoTy.rep w (λ_=>True) cs x:=jZ (H.get i hi)
theorem pz {ops:List Oper} (k:Nat) {l:List Oper} {L':List (Nat×Value)} {l':List Oper} (hf:Fr a n L) (hk:∀a',Fr a' n L'→wpList Tryz.prog ops.toArray Q l' a' w) (hd:kW n l=true:=by exact rfl) (h:pRun tab ops k L l=(L',l'):=by exact rfl):wpList Tryz.prog ops.toArray Q l a w:=pr k hf hd h hk
variable {ops:Array Oper} {rest l:List Oper} {xs:List Operand} {ats:Array TypeId} {vs cs:List Value} {id:Nat} {T:TypeId} {g:Option (Nat×Bool)}
theorem oq (hf:Fr a n L) (hr:(execOp a.eval o).run Tryz.prog w=.ok (.value v) w) (k:∀a',Fr a' n ((d,v)::L)→wpList Tryz.prog ops Q rest a' w) (hg:o.guard=none:=by exact rfl) (hd:o.dst=some d:=by exact rfl) (hdn:d<n:=by decide):wpList Tryz.prog ops Q (o::rest) a w:=wl0 hg (op_q hf hr hd hdn k)
theorem oc {f:FuncId} (hf:Fr a n L) (hk:CL Tryz.prog f) {Post:Value→World→Prop} (hc:Calls Tryz.prog f vs.toArray w λe w'=>∃v,e=.returned v∧Post v w') (k:∀v w' a',Post v w'→Fr a' n ((d,v)::L)→wpList Tryz.prog ops Q rest a' w') (hxs:evs L xs=some vs:=by exact rfl) (hdn:d<n:=by decide):wpList Tryz.prog ops Q (⟨some d,.call ⟨.value (.func f),xs.toArray,ats⟩,ty,pos,af,none⟩::rest) a w:=wl0 rfl (fL hf hk hxs hdn hc k)
theorem oi {α:Type} {x y:α} (h:some x=some y):x=y:=sx h
theorem bs_ {α β:Type} {x:Option α} {f:α→Option β} {r:β} (h:x.bind f=some r):∃a,x=some a∧f a=some r:=bind_some h
theorem wer (h:Q .ret a w):wpList Tryz.prog ops (Exit.then ((Code.ret).wp Tryz.prog Q) Q) [] a w:=uc (ua (wp_ret h))
theorem dw (B:List Nat) (n:Nat) (h:∀w1,Below w.heap.size w w1→DL Tryz.prog l (λa w=>Q .normal a w) (λ_=>True) B n (List.replicate n false) a w1) (hn:l.length=n:=by exact rfl):(Code.region id l.toArray true).wp Tryz.prog Q a w:=drawn B (Checked.mixed Tryz.checked) (by rw[hn]) hn h
theorem nn (i:Nat) (hi:l[i]?=some o) (h:o.wp Tryz.prog a w (λa' w'=>(nb B (bs.set i true).toArray=true→S0 w')∧DL Tryz.prog l Mid S0 B fuel (bs.set i true) a' w') (only Mid)) (hr:Region.ready .any l.toArray bs.toArray=[i]:=by kernel_rfl) (hg:o.guard=none:=by exact rfl):DL Tryz.prog l Mid S0 B (fuel + 1) bs a w:=n1 i hr hi hg h
theorem ws {i:Nat} {y z:Code} (h:wpList Tryz.prog l.toArray (Exit.then (z.wp Tryz.prog (Exit.inBlock i (Exit.then (y.wp Tryz.prog Q) Q))) (Exit.inBlock i (Exit.then (y.wp Tryz.prog Q) Q))) l a w):Code.skip.wp Tryz.prog (Exit.then ((Code.seq (.block i (.seq (.region id l.toArray false) z)) y).wp Tryz.prog Q) Q) a w:=wp_skip (ua (sq (wp_block (sq (reg h)))))
theorem lB (i:Nat) {ops:Array Oper} {rest:List Oper} {T:TypeId} {x:Operand} {b j:Nat} {T':TypeId} {cs:List Value} {v:Value} (hf:Fr a n L) (H:Mem w0 S M R D I w) (hT:LS Tryz.prog T) (k:∀a',Fr a' n ((d,v)::L)→wpList Tryz.prog ops Q rest a' w) (hx:ev L x=some (.pointer (some ⟨b,j,none⟩)):=by exact rfl) (hi:M[i]?=some ⟨b,T',cs⟩:=by exact rfl) (hv:cs[j]?=some v:=by exact rfl) (hdn:d<n:=by decide):wpList Tryz.prog ops Q (⟨some d,.load T x,ty,pos,af,none⟩::rest) a w:=wl0 rfl (op_q hf (u3 hf H hT i hx hi hv) rfl hdn k)
theorem lN (i:Nat) {ops:Array Oper} {rest:List Oper} {T:TypeId} {m:Nat} {x:Operand} {b j:Nat} {T':TypeId} {cs ds:List Value} (hf:Fr a n L) (H:Mem w0 S M R D I w) (hT:LA Tryz.prog T m) (k:∀a',Fr a' n ((d,.agg ds.toArray)::L)→wpList Tryz.prog ops Q rest a' w) (hx:ev L x=some (.pointer (some ⟨b,j,none⟩)):=by exact rfl) (hi:M[i]?=some ⟨b,T',cs⟩:=by exact rfl) (hd:(cs.drop j).take m=ds:=by exact rfl) (hl:ds.length=m:=by exact rfl) (hdn:d<n:=by decide):wpList Tryz.prog ops Q (⟨some d,.load T x,ty,pos,af,none⟩::rest) a w:=wl0 rfl (op_q hf (ao hf H hT i hx hi hd hl) rfl hdn k)
theorem bx {y:Code} {x:Operand} (hf:Fr a n L) (H:Mem w0 S M R D I w) (k:∀b a' w',Fr a' n ((d,.pointer (some ⟨b,0,none⟩))::L)→Mem w0 S (⟨b,T,cs⟩::M) R D I w'→wpList Tryz.prog (⟨some d,.box T x,ty,pos,af,none⟩::rest).toArray (Exit.then (y.wp Tryz.prog Q) Q) rest a' w') (hx:ev L x=some v:=by exact rfl) (hcs:v.cells=cs.toArray:=by exact rfl) (hdn:d<n:=by decide):(Code.seq (.region id (⟨some d,.box T x,ty,pos,af,none⟩::rest).toArray false) y).wp Tryz.prog Q a w:=sq (reg (wl0 rfl (vE hf H hx hcs hdn k)))
theorem rT {fn:Func} {Rr:Ending→World→Prop} {t:Nat} (hf:Fr a n L) (hR:Rr (.returned v) w) (hres:fn.results=#[.tmp t]:=by exact rfl) (h:lk L t=some v:=by exact rfl):bodyPost Tryz.prog fn Rr .ret a w:=z6 hf hres (uw hf h) hR
theorem oC {f:FuncId} (hf:Fr a n L) (hk:CL Tryz.prog f) {Post:Value→World→Prop} (hc:Calls Tryz.prog f vs.toArray w λe w'=>∃v,e=.returned v∧Post v w') (k:∀v w' a',Post v w'→Fr a' n ((d,v)::L)→K a' w') (hxs:evs L xs=some vs:=by exact rfl) (hdn:d<n:=by decide):Oper.wp Tryz.prog ⟨some d,.call ⟨.value (.func f),xs.toArray,ats⟩,ty,pos,af,g⟩ a w K Q:=fL hf hk hxs hdn hc k
theorem bl {α:Type} [GoTy α] {m:Nat} {ps:List (Nat×Operand)} {qs:List (Nat×Value)} (hf:Fr a n L) (H:Mem w0 S M R D I w) (E:TypeId) (xs:List α) (cells:List Value) (hel:∀i x,xs[i]?=some x→(Kd.sh true).holds w (St w0 S M R D (Kd.sh true).fresh) i (vt α cells i) x) (k:∀A a' w',Fr a' n ((d,.slice A m m)::L)→Mem w0 S M (⟨.sh true,E,A,m,xs⟩::R) D I w'→K a' w') (hp0:evp L ps=some qs:=by exact rfl) (hb:∀w,(Instr.buildSlice T m qs.toArray).run Tryz.prog w=.ok (.slice (some ⟨w.heap.size,0,none⟩) m m) (w.alloc (.cells cells.toArray E)):=by intro w; kernel_rfl) (hm:xs.length=m:=by exact rfl) (hmax:m≤1099511627776:=by decide) (hlen:cells.length=m * GoTy.n α:=by exact rfl) (hdn:d<n:=by decide):Oper.wp Tryz.prog ⟨some d,.buildSlice T m ps.toArray,ty,pos,af,g⟩ a w K Q:=yW hf H (.sh true) rfl E xs cells hp0 hb hm hmax hlen trivial hel hdn k
theorem dk (h:Mid a w) (hr:Region.ready .any l.toArray bs.toArray=[]:=by kernel_rfl):DL Tryz.prog l Mid S0 B fuel bs a w:=dn hr h
theorem aS {A B C:Prop} (h:B) (k:C):(A→B)∧C:=⟨λ_=>h,k⟩
theorem aL {z:Value} (hf:Fr a n L) (H:Mem w0 S M R D I w) (hz:ZV Tryz.prog T z) (k:∀b a' w',Fr a' n ((d,.pointer (some ⟨b,0,none⟩))::L)→Mem w0 S (⟨b,T,cs⟩::M) R D I w'→wpList Tryz.prog ops Q rest a' w') (hcs:z.cells=cs.toArray:=by exact rfl) (hdn:d<n:=by decide):wpList Tryz.prog ops Q (⟨some d,.alloc T,ty,pos,af,none⟩::rest) a w:=wl0 rfl (cd hf H hz hcs hdn k)
theorem sB (i:Nat) {ops:Array Oper} {rest:List Oper} {I:List (Bool×MP)} {T:TypeId} {x y:Operand} {b j m:Nat} {T':TypeId} {cs vs:List Value} {v:Value} (hf:Fr a n L) (H:Mem w0 S M R D I w) (hT:SZ Tryz.prog T m) (k:∀w',Mem w0 S (M.set i ⟨b,T',cs.take j++vs++cs.drop (j + vs.length)⟩) R D I w'→wpList Tryz.prog ops Q rest a w')
    (hx:ev L x=some (.pointer (some ⟨b,j,none⟩)):=by exact rfl) (hy:ev L y=some v:=by exact rfl) (hv:v.cells=vs.toArray:=by exact rfl) (hi:M[i]?=some ⟨b,T',cs⟩:=by exact rfl) (h1:(vs.all Value.oneCell')=true:=by exact rfl) (hm:vs.length=m:=by exact rfl) (hlen:j + vs.length≤cs.length:=by exact nle rfl):wpList Tryz.prog ops Q (⟨none,.store T x y,ty,pos,af,none⟩::rest) a w:=wl0 rfl (iU hf H i hT hx hy hv hi h1 hm hlen k)
section
variable {l:List Oper} {op:Op} {t:TypeId} {ps:String}
theorem zS (i:Nat) (X:List Nat) (hi:l[i]?=some o) (hd:o.dst=some d) (hg:o.guard=none) (hdn:Nat.ble (d + 1) n=true) (hf:Fr a n L) (hS:S0 w) (hy:∀w,S0 w→(execOp a.eval o).run Tryz.prog w=.ok (.value v) w) (h:∀a',Fr a' n ((d,v)::L)→DL Tryz.prog l Mid S0 B fuel (bs.set i true) a' w) (hc:takeB l bs i X B=true:=by kernel_rfl) (hBX:(B.all (X.contains ·))=true:=by kernel_rfl):DL Tryz.prog l Mid S0 B (fuel + 1) bs a w:=tS i X hi hd hg hdn hf hc hBX hS hy h
theorem zP (i:Nat) (hi:l[i]?=some o) (hd:o.dst=some d) (hg:o.guard=none) (hdn:Nat.ble (d + 1) n=true) (hf:Fr a n L) (hS:S0 w) (hy:∀w,(execOp a.eval o).run Tryz.prog w=.ok (.value v) w) (h:∀a',Fr a' n ((d,v)::L)→DL Tryz.prog l Mid S0 B fuel (bs.set i true) a' w) (hc:takeB l bs i [] B=true:=by kernel_rfl):DL Tryz.prog l Mid S0 B (fuel + 1) bs a w:=tP i hi hd hg hdn hf hc (λ_=>hS) hy h
theorem zp (i:Nat) (hf:Fr a n L) (hS:S0 w) (h:∀a',Fr a' n ((d,v)::L)→DL Tryz.prog l Mid S0 B fuel (bs.set i true) a' w) (hi:l[i]?=some ⟨some d,op,t,ps,af,none⟩:=by exact rfl) (hv:pOp tab L op=some v:=by exact rfl) (hdn:Nat.ble (d + 1) n=true:=by exact rfl) (hc:takeB l bs i [] B=true:=by kernel_rfl):DL Tryz.prog l Mid S0 B (fuel + 1) bs a w:=tp i hi hdn hf hc (λ_=>hS) hv h
theorem zg (i:Nat) {j e:Nat} {b:Bool} (hf:Fr a n L) (hS:S0 w) (h:∀a',Fr a' n ((d,v)::L)→DL Tryz.prog l Mid S0 B fuel (bs.set i true) a' w) (hi:l[i]?=some ⟨some d,op,t,ps,af,some (j,b)⟩:=by exact rfl) (hj:(l[j]?).bind (·.dst)=some e:=by exact rfl) (hb:lk L e=some (.bool b):=by exact rfl) (hv:pOp tab L op=some v:=by exact rfl) (hdn:Nat.ble (d + 1) n=true:=by exact rfl) (hc:takeB l bs i [] B=true:=by kernel_rfl):DL Tryz.prog l Mid S0 B (fuel + 1) bs a w:=tpg i hi hj hb hdn hf hc (λ_=>hS) hv h
theorem zV (i:Nat) {j e:Nat} {b:Bool} (hf:Fr a n L) (hS:S0 w) (h:∀a',Fr a' n ((d,undef)::L)→DL Tryz.prog l Mid S0 B fuel (bs.set i true) a' w) (hi:l[i]?=some o:=by exact rfl) (hd:o.dst=some d:=by exact rfl) (hg:o.guard=some (j,b):=by exact rfl) (hj:(l[j]?).bind (·.dst)=some e:=by exact rfl) (hv:lk L e=some undef:=by exact rfl) (hdn:Nat.ble (d + 1) n=true:=by exact rfl) (hc:takeB l bs i [] B=true:=by kernel_rfl):DL Tryz.prog l Mid S0 B (fuel + 1) bs a w:=tUU i hi hd hg hj hv hdn hf hc (λ_=>hS) h
theorem zU (i:Nat) {j e:Nat} {b c:Bool} (hf:Fr a n L) (hS:S0 w) (h:∀a',Fr a' n ((d,undef)::L)→DL Tryz.prog l Mid S0 B fuel (bs.set i true) a' w) (hi:l[i]?=some o:=by exact rfl) (hd:o.dst=some d:=by exact rfl) (hg:o.guard=some (j,b):=by exact rfl) (hj:(l[j]?).bind (·.dst)=some e:=by exact rfl) (hv:lk L e=some (.bool c):=by exact rfl) (hne:(c==b)=false:=by exact rfl) (hdn:Nat.ble (d + 1) n=true:=by exact rfl) (hc:takeB l bs i [] B=true:=by kernel_rfl):DL Tryz.prog l Mid S0 B (fuel + 1) bs a w:=tU i hi hd hg hj hv hne hdn hf hc (λ_=>hS) h
end
abbrev TT:Nat→Prop:=λ_=>True
theorem ib {R:Type} {c:Operand} {x y:Code} {b:Bool} {p q r:R} (h:(if b=true then p else q)=r) (hf:Fr a n L) (h1:b=true→p=r→x.wp Tryz.prog Q a w) (h2:b=false→q=r→y.wp Tryz.prog Q a w) (hc:ev L c=some (.bool b):=by exact rfl):(Code.cond c x y).wp Tryz.prog Q a w:=iteB h (λe e'=>cd_t hf hc e (h1 e e')) λe e'=>cd_f hf hc e (h2 e e')
def ce {α:Type _}:Nat→List α→Option (List α)
  | _,[]=>some []
  | m,x::r=>match ce (m / 2) r with
    | some q=>bif Nat.beq (m % 2) 1 then some (x::q) else some q
    | none=>none
def pf {α:Type _}:Nat→List α→List Bool
  | _,[]=>[]
  | m,_::r=>Nat.beq (m % 2) 1::pf (m / 2) r
theorem ac {α:Type _}:∀(m:Nat) (l q:List α),ce m l=some q→maskO (pf m l) l=some q
  | _,[],_,h=>h
  | m,x::r,q,h=>by
    unfold ce at h
    cases e:ce (m / 2) r with
    | none=>rw[e]at h; cases h
    | some p =>
      rw[e]at h
      have ih:=ac (m / 2) r p e
      unfold pf
      cases hb:Nat.beq (m % 2) 1
      · rw[hb]at h; unfold maskO; exact ih.trans h
      · rw[hb]at h; unfold maskO; rw[ih]; exact h
def kIx:Nat→Nat→Nat→List Nat
  | _,0,_=>[]
  | m,n + 1,i=>bif Nat.beq (m % 2) 1 then i::kIx (m / 2) n (i + 1) else kIx (m / 2) n (i + 1)
theorem Mem.lk (H:Mem w0 S M R D I w) (bm br bd:Nat) (is:List Nat) {M':List Blk} {R':List Row} {D':List DI} {I':List (Bool×MP)} (hM:ce bm M=some M':=by exact rfl) (hR:ce br R=some R':=by exact rfl) (hD:ce bd D=some D':=by exact rfl) (hI:pickO I is=some I':=by exact rfl):Mem w0 S M' R' D' I' w:=H.let _ _ _ is (ac _ _ _ hM) (ac _ _ _ hR) (ac _ _ _ hD) hI
theorem Mem.lm (H:Mem w0 S M R D I w) (bm br bd n m:Nat) {M':List Blk} {R':List Row} {D':List DI} {I':List (Bool×MP)} (hM:ce bm M=some M':=by exact rfl) (hR:ce br R=some R':=by exact rfl) (hD:ce bd D=some D':=by exact rfl) (hI:pickO I (kIx m n 0)=some I':=by exact rfl):Mem w0 S M' R' D' I' w:=H.let _ _ _ _ (ac _ _ _ hM) (ac _ _ _ hR) (ac _ _ _ hD) hI
theorem Fr.pn (hf:Fr a n L) (ts:List Nat) {L':List (Nat×Value)} (h:l8 L ts=some L':=by exact rfl):Fr a n L':=hf.prune ts h
theorem en {f:FuncId} {fn:Func} {c:Code} {args:List Value} {Rr:Ending→World→Prop} (hF:Tryz.prog.funcs[f]?=some fn) (h:∀a,Fr a n L→c.wp Tryz.prog (bodyPost Tryz.prog fn Rr) a w) (hb:fn.body=some c:=by exact rfl) (hn:fn.ntmps=n:=by exact rfl) (hl:args.length≤n:=by exact nle rfl) (hL:(args.zipIdx.map λp=>(p.2,p.1))=L:=by exact rfl):Calls Tryz.prog f args.toArray w Rr:=enter hF hb hn hl hL h
variable {y:Code}
theorem sqz (h:wpList Tryz.prog l.toArray (Exit.then (y.wp Tryz.prog Q) Q) l a w):(Code.seq (.region id l.toArray false) y).wp Tryz.prog Q a w:=sq (reg h)
theorem wr (h:wpList Tryz.prog l.toArray (Exit.then (y.wp Tryz.prog Q) Q) l a w):wpList Tryz.prog ops (Exit.then ((Code.seq (.region id l.toArray false) y).wp Tryz.prog Q) Q) [] a w:=uc (ua (sq (reg h)))
theorem we {x:Code} (h:x.wp Tryz.prog (Exit.then (y.wp Tryz.prog Q) Q) a w):wpList Tryz.prog ops (Exit.then ((Code.seq x y).wp Tryz.prog Q) Q) [] a w:=uc (ua (sq h))
end
section
variable {w w' w1:World} {w0:Base} {S S1:Nat→Prop} {M:List Blk} {R:List Row} {D:List DI} {I:List (Bool×MP)} {α β γ:Type} [GoTy α] [GoTy β] [GoTy γ] {cs cs' cs'':List Value} {xs:List α} {ys:List β} {zs':List γ} {F F' F'':List Nat}
theorem Mem.pT (H:Mem w0 S M R D I w) (h:lrep w (St w0 S M R D true) cs xs):Mem w0 S M R D ((true,MP.val cs xs)::I) w:=H.push _ h
theorem Mem.pF (H:Mem w0 S M R D I w) (h:lrep w (St w0 S M R D false) cs xs):Mem w0 S M R D ((false,MP.val cs xs)::I) w:=H.push _ h
theorem Mem.pA (H:Mem ⟨w1,[]⟩ S M R D I w) (h:lrep w1 S cs xs):Mem ⟨w1,[]⟩ S M R D ((false,MP.val cs xs)::I) w:=H.pushArg (MP.val cs xs) h
theorem Mem.rF (H:Mem w0 S M R D I w) (h:lrep w' (St ⟨w,[]⟩ S1 [] [] [] true) cs xs):lrep w' (St w0 S M R D true) cs xs:=H.resF (f:=MP.val cs xs) h
variable {d e:DI}
theorem Mem.ends1 (H:Mem ⟨w1,[]⟩ S M R (d::D) I w):New w1 w d.F:=by have h:=H.ends (X:=[d]); simpa using h
theorem Mem.ends2 (H:Mem ⟨w1,[]⟩ S M R (d::e::D) I w):New w1 w (d.F++e.F):=by have h:=H.ends (X:=[d,e]); simpa using h
theorem Mem.ends3 {g:DI} (H:Mem ⟨w1,[]⟩ S M R (d::e::g::D) I w):New w1 w (d.F++(e.F++g.F)):=by have h:=H.ends (X:=[d,e,g]); simpa using h
theorem Mem.aO1 (H:Mem w0 S M R D I w) (hb:Below w.heap.size w w') (hN:New w w' F) (h:lown w' F cs xs):Mem w0 S M R (⟨F,MP.own F cs xs⟩::D) I w':=H.addOwn hb (X:=[⟨F,MP.own F cs xs⟩]) (by simpa using hN.1) (ps1 h ps0) (by simpa using hN.2)
theorem Mem.aO2 (H:Mem w0 S M R D I w) (hb:Below w.heap.size w w') (hN:New w w' (F++F')) (h:lown w' F cs xs) (h':lown w' F' cs' ys):Mem w0 S M R (⟨F,MP.own F cs xs⟩::⟨F',MP.own F' cs' ys⟩::D) I w':=H.addOwn hb (X:=[⟨F,MP.own F cs xs⟩,⟨F',MP.own F' cs' ys⟩]) (by simpa using hN.1) (ps1 h (ps1 h' ps0)) (by simpa using hN.2)
theorem Mem.aO3 (H:Mem w0 S M R D I w) (hb:Below w.heap.size w w') (hN:New w w' (F++(F'++F''))) (h:lown w' F cs xs) (h':lown w' F' cs' ys) (h'':lown w' F'' cs'' zs'):Mem w0 S M R (⟨F,MP.own F cs xs⟩::⟨F',MP.own F' cs' ys⟩::⟨F'',MP.own F'' cs'' zs'⟩::D) I w':=H.addOwn hb (X:=[⟨F,MP.own F cs xs⟩,⟨F',MP.own F' cs' ys⟩,⟨F'',MP.own F'' cs'' zs'⟩]) (by simpa using hN.1) (ps1 h (ps1 h' (ps1 h'' ps0))) (by simpa using hN.2)
end
section
variable {Q:Exit→Act→World→Prop} {a:Act} {w:World} {n:Nat} {L:List (Nat×Value)} {dst:Option Tmp} {ty:TypeId} {pos:String} {af:Array Edge} {K:Act→World→Prop} {d:Nat}
variable {w0:Base} {S:Nat→Prop} {M:List Blk} {R:List Row} {D:List DI} {I:List (Bool×MP)} {S0:World→Prop} {B:List Nat} {bs:List Bool} {fuel:Nat} {Mid:Act→World→Prop} {o:Oper} {v:Value} {l:List Oper}
def zw (l:List Oper) (n:Nat) (L:List (Nat×Value)) (i:Nat):Option (Nat×Value) :=
  match l[i]? with
  | some ⟨some d,op,_,_,_,none⟩=>match pOp tab L op with
    | some v=>bif Nat.ble (d + 1) n then some (d,v) else none
    | none=>none
  | some ⟨some d,op,_,_,_,some (j,b)⟩=>match (l[j]?).bind (·.dst) with
    | some e=>match lk L e with
      | some (.bool c)=>bif c==b then (match pOp tab L op with
        | some v=>bif Nat.ble (d + 1) n then some (d,v) else none
        | none=>none) else bif Nat.ble (d + 1) n then some (d,undef) else none
      | some (.tuple ⟨[]⟩)=>bif Nat.ble (d + 1) n then some (d,undef) else none
      | _=>none
    | none=>none
  | _=>none
def zL (l:List Oper) (n:Nat):List Nat→List (Nat×Value)→Option (List (Nat×Value))
  | [],L=>some L
  | i::r,L=>match zw l n L i with
    | some p=>zL l n r (p::L)
    | none=>none
def zC (l:List Oper) (B:List Nat):List Nat→List Bool→Bool
  | [],_=>true
  | i::r,bs=>takeB l bs i [] B&&zC l B r (bs.set i true)
def zB:List Nat→List Bool→List Bool
  | [],bs=>bs
  | i::r,bs=>zB r (bs.set i true)
theorem qy {i:Nat} {p:Nat×Value} (hf:Fr a n L) (hS:S0 w) (hc:takeB l bs i [] B=true) (hz:zw l n L i=some p) (h:∀a',Fr a' n (p::L)→DL Tryz.prog l Mid S0 B fuel (bs.set i true) a' w):DL Tryz.prog l Mid S0 B (fuel + 1) bs a w:=by
  unfold zw at hz
  split at hz
  · rename_i d op ty ps af hi
    split at hz
    · rename_i v hv
      cases hd:Nat.ble (d + 1) n <;> rw[hd]at hz <;> cases hz
      exact zp i hf hS h hi hv hd hc
    · cases hz
  · rename_i d op ty ps af j b hi
    split at hz
    · rename_i e hj
      split at hz
      · rename_i c hb
        cases hcb:(c==b) <;> rw[hcb]at hz
        · cases hd:Nat.ble (d + 1) n <;> rw[hd]at hz <;> cases hz
          exact zU i hf hS h hi rfl rfl hj hb hcb hd hc
        · obtain rfl:c=b:=by simpa using hcb
          change (match pOp tab L op with
            | some v=>bif Nat.ble (d + 1) n then some (d,v) else none
            | none=>none)=_ at hz
          split at hz
          · rename_i v hv
            cases hd:Nat.ble (d + 1) n <;> rw[hd]at hz <;> cases hz
            exact zg i hf hS h hi hj hb hv hd hc
          · cases hz
      · rename_i hb
        cases hd:Nat.ble (d + 1) n <;> rw[hd]at hz <;> cases hz
        exact zV i hf hS h hi rfl rfl hj hb hd hc
      · cases hz
    · cases hz
  · cases hz
theorem zq_:∀(is:List Nat) {bs:List Bool} {L L':List (Nat×Value)} {a:Act},Fr a n L→S0 w→zL l n is L=some L'→zC l B is bs=true→(∀a',Fr a' n L'→DL Tryz.prog l Mid S0 B fuel (zB is bs) a' w)→DL Tryz.prog l Mid S0 B (fuel + is.length) bs a w
  | [],_,_,_,_,hf,_,hz,_,h=>by cases hz; exact h _ hf
  | i::r,bs,L,L',a,hf,hS,hz,hc,h=>by
    unfold zL at hz
    split at hz
    · rename_i p hp
      have hc:(takeB l bs i [] B&&zC l B r (bs.set i true))=true:=hc
      rw[sH]at hc
      exact qy hf hS hc.1 hp λa' hf'=>zq_ r hf' hS hz hc.2 h
    · cases hz
theorem zq (is:List Nat) {L':List (Nat×Value)} {f:Nat} (hf:Fr a n L) (hS:S0 w) (h:∀a',Fr a' n L'→DL Tryz.prog l Mid S0 B f (zB is bs) a' w) (hz:zL l n is L=some L':=by exact rfl) (hc:zC l B is bs=true:=by kernel_rfl) (hfu:Nat.sub fuel is.length=f:=by exact rfl) (hle:Nat.ble is.length fuel=true:=by exact rfl):DL Tryz.prog l Mid S0 B fuel bs a w:=by
  have e:fuel=f + is.length:=by subst hfu; exact (Nat.sub_add_cancel (Nat.le_of_ble_eq_true hle)).symm
  rw[e]; exact zq_ is hf hS hz hc h
section
variable {T:TypeId} {x:Operand} {b j m:Nat} {T':TypeId} {cs ds:List Value} {f:Bool} {u:Option (Nat×Bool)}
theorem zSB (i:Nat) (X:List Nat) (hf:Fr a n L) (hS:Mem w0 S M R D I w) (hT:LS Tryz.prog T) (k:Nat) (h:∀a',Fr a' n ((d,v)::L)→DL Tryz.prog l Mid (Mem w0 S M R D I) B fuel (bs.set i true) a' w) (hi:l[i]?=some ⟨some d,.load T x,ty,pos,af,none⟩:=by exact rfl) (hx:ev L x=some (.pointer (some ⟨b,j,none⟩)):=by exact rfl) (hk:M[k]?=some ⟨b,T',cs⟩:=by exact rfl) (hv:cs[j]?=some v:=by exact rfl) (hdn:Nat.ble (d + 1) n=true:=by exact rfl) (hc:takeB l bs i X B=true:=by kernel_rfl) (hBX:(B.all (X.contains ·))=true:=by kernel_rfl):DL Tryz.prog l Mid (Mem w0 S M R D I) B (fuel + 1) bs a w:=zS i X hi rfl rfl hdn hf hS (λw H=>u3 hf H hT k hx hk hv) h hc hBX
theorem zSN (i:Nat) (X:List Nat) (hf:Fr a n L) (hS:Mem w0 S M R D I w) (hT:LA Tryz.prog T m) (k:Nat) (h:∀a',Fr a' n ((d,.agg ds.toArray)::L)→DL Tryz.prog l Mid (Mem w0 S M R D I) B fuel (bs.set i true) a' w) (hi:l[i]?=some ⟨some d,.load T x,ty,pos,af,none⟩:=by exact rfl) (hx:ev L x=some (.pointer (some ⟨b,j,none⟩)):=by exact rfl) (hk:M[k]?=some ⟨b,T',cs⟩:=by exact rfl) (hv:(cs.drop j).take m=ds:=by exact rfl) (hl:ds.length=m:=by exact rfl) (hdn:Nat.ble (d + 1) n=true:=by exact rfl) (hc:takeB l bs i X B=true:=by kernel_rfl) (hBX:(B.all (X.contains ·))=true:=by kernel_rfl):DL Tryz.prog l Mid (Mem w0 S M R D I) B (fuel + 1) bs a w:=zS i X hi rfl rfl hdn hf hS (λw H=>ao hf H hT k hx hk hv hl) h hc hBX
theorem zSI (i:Nat) (X:List Nat) (hf:Fr a n L) (hS:Mem w0 S M R D I w) (hT:LS Tryz.prog T) (k j:Nat) (h:∀a',Fr a' n ((d,v)::L)→DL Tryz.prog l Mid (Mem w0 S M R D I) B fuel (bs.set i true) a' w) {oo:Nat} (hi:l[i]?=some ⟨some d,.load T x,ty,pos,af,none⟩:=by exact rfl) (hx:ev L x=some (.pointer (some ⟨b,oo + j,none⟩)):=by exact rfl) (hk:I[k]?=some (f,MP.cells ⟨b,oo,none⟩ cs):=by exact rfl) (hv:cs[j]?=some v:=by exact rfl) (hdn:Nat.ble (d + 1) n=true:=by exact rfl) (hc:takeB l bs i X B=true:=by kernel_rfl) (hBX:(B.all (X.contains ·))=true:=by kernel_rfl):DL Tryz.prog l Mid (Mem w0 S M R D I) B (fuel + 1) bs a w:=zS i X hi rfl rfl hdn hf hS (λw H=>bI hf H hT k j hx hk hv) h hc hBX
theorem zSJ (i:Nat) (X:List Nat) (hf:Fr a n L) (hS:Mem w0 S M R D I w) (hT:LA Tryz.prog T m) (k j:Nat) (h:∀a',Fr a' n ((d,.agg ds.toArray)::L)→DL Tryz.prog l Mid (Mem w0 S M R D I) B fuel (bs.set i true) a' w) {oo:Nat} (hi:l[i]?=some ⟨some d,.load T x,ty,pos,af,none⟩:=by exact rfl) (hx:ev L x=some (.pointer (some ⟨b,oo + j,none⟩)):=by exact rfl) (hk:I[k]?=some (f,MP.cells ⟨b,oo,none⟩ cs):=by exact rfl) (hv:(cs.drop j).take m=ds:=by exact rfl) (hl:ds.length=m:=by exact rfl) (hdn:Nat.ble (d + 1) n=true:=by exact rfl) (hc:takeB l bs i X B=true:=by kernel_rfl) (hBX:(B.all (X.contains ·))=true:=by kernel_rfl):DL Tryz.prog l Mid (Mem w0 S M R D I) B (fuel + 1) bs a w:=zS i X hi rfl rfl hdn hf hS (λw H=>ya hf H hT k j hx hk hv hl) h hc hBX
variable {ops:Array Oper} {rest:List Oper}
theorem wGB {g e:Nat} {c:Bool} (hf:Fr a n L) (H:Mem w0 S M R D I w) (hT:LS Tryz.prog T) (k:Nat) (h:∀a',Fr a' n ((d,v)::L)→wpList Tryz.prog ops Q rest a' w) (hj:(ops[g]?).bind (·.dst)=some e:=by exact rfl) (hb:lk L e=some (.bool c):=by exact rfl) (hx:ev L x=some (.pointer (some ⟨b,j,none⟩)):=by exact rfl) (hk:M[k]?=some ⟨b,T',cs⟩:=by exact rfl) (hv:cs[j]?=some v:=by exact rfl) (hdn:d<n:=by decide):wpList Tryz.prog ops Q (⟨some d,.load T x,ty,pos,af,some (g,c)⟩::rest) a w:=wlg hf rfl hj hb (op_q hf (u3 hf H hT k hx hk hv) rfl hdn h)
theorem wGN {g e:Nat} {c:Bool} (hf:Fr a n L) (H:Mem w0 S M R D I w) (hT:LA Tryz.prog T m) (k:Nat) (h:∀a',Fr a' n ((d,.agg ds.toArray)::L)→wpList Tryz.prog ops Q rest a' w) (hj:(ops[g]?).bind (·.dst)=some e:=by exact rfl) (hb:lk L e=some (.bool c):=by exact rfl) (hx:ev L x=some (.pointer (some ⟨b,j,none⟩)):=by exact rfl) (hk:M[k]?=some ⟨b,T',cs⟩:=by exact rfl) (hv:(cs.drop j).take m=ds:=by exact rfl) (hl:ds.length=m:=by exact rfl) (hdn:d<n:=by decide):wpList Tryz.prog ops Q (⟨some d,.load T x,ty,pos,af,some (g,c)⟩::rest) a w:=wlg hf rfl hj hb (op_q hf (ao hf H hT k hx hk hv hl) rfl hdn h)
theorem lI (k j:Nat) {ops:Array Oper} {rest:List Oper} {oo:Nat} (hf:Fr a n L) (H:Mem w0 S M R D I w) (hT:LS Tryz.prog T) (h:∀a',Fr a' n ((d,v)::L)→wpList Tryz.prog ops Q rest a' w) (hx:ev L x=some (.pointer (some ⟨b,oo + j,none⟩)):=by exact rfl) (hk:I[k]?=some (f,MP.cells ⟨b,oo,none⟩ cs):=by exact rfl) (hv:cs[j]?=some v:=by exact rfl) (hdn:d<n:=by decide):wpList Tryz.prog ops Q (⟨some d,.load T x,ty,pos,af,none⟩::rest) a w:=wl0 rfl (op_q hf (bI hf H hT k j hx hk hv) rfl hdn h)
theorem lJ_ (k j:Nat) {ops:Array Oper} {rest:List Oper} {oo:Nat} (hf:Fr a n L) (H:Mem w0 S M R D I w) (hT:LA Tryz.prog T m) (h:∀a',Fr a' n ((d,.agg ds.toArray)::L)→wpList Tryz.prog ops Q rest a' w) (hx:ev L x=some (.pointer (some ⟨b,oo + j,none⟩)):=by exact rfl) (hk:I[k]?=some (f,MP.cells ⟨b,oo,none⟩ cs):=by exact rfl) (hv:(cs.drop j).take m=ds:=by exact rfl) (hl:ds.length=m:=by exact rfl) (hdn:d<n:=by decide):wpList Tryz.prog ops Q (⟨some d,.load T x,ty,pos,af,none⟩::rest) a w:=wl0 rfl (op_q hf (ya hf H hT k j hx hk hv hl) rfl hdn h)
end
theorem sT (p q r:Nat) (is:List Nat) (p' q' r':Nat) (is':List Nat) {M' M2:List Blk} {R' R2:List Row} {D' D2:List DI} {I' I2:List (Bool×MP)} (H:Mem w0 S M R D I w) (h:Mem w0 S M' R' D' I' w→DL Tryz.prog l Mid (λw=>Mem w0 S M' R' D' I' w) B fuel bs a w) (hM:ce p M=some M':=by exact rfl) (hR:ce q R=some R':=by exact rfl) (hD:ce r D=some D':=by exact rfl) (hI:pickO I is=some I':=by exact rfl) (hM':ce p' M'=some M2:=by exact rfl) (hR':ce q' R'=some R2:=by exact rfl) (hD':ce r' D'=some D2:=by exact rfl) (hI':pickO I' is'=some I2:=by exact rfl):DL Tryz.prog l Mid (Mem w0 S M2 R2 D2 I2) B fuel bs a w:=strT (H.lk p q r is hM hR hD hI) (λw H=>H.lk p' q' r' is' hM' hR' hD' hI') h
theorem sU (p q r:Nat) (is:List Nat) {M':List Blk} {R':List Row} {D':List DI} {I':List (Bool×MP)} (H:Mem w0 S M R D I w) (h:Mem w0 S M' R' D' I' w→DL Tryz.prog l Mid (λw=>Mem w0 S M' R' D' I' w) B fuel bs a w) (hM:ce p M=some M':=by exact rfl) (hR:ce q R=some R':=by exact rfl) (hD:ce r D=some D':=by exact rfl) (hI:pickO I is=some I':=by exact rfl):DL Tryz.prog l Mid (λ_=>True) B fuel bs a w:=strT (H.lk p q r is hM hR hD hI) (λ_ _=>trivial) h
theorem nSB {T:TypeId} {x y:Operand} {b j m:Nat} {T':TypeId} {cs vs:List Value} (i:Nat) (hf:Fr a n L) (H:Mem w0 S M R D I w) (k:Nat) (hT:SZ Tryz.prog T m) (h:∀w',Mem w0 S (M.set k ⟨b,T',cs.take j++vs++cs.drop (j + vs.length)⟩) R D I w'→(nb B (bs.set i true).toArray=true→S0 w')∧DL Tryz.prog l Mid S0 B fuel (bs.set i true) a w') (hi:l[i]?=some ⟨none,.store T x y,ty,pos,af,none⟩:=by exact rfl) (hx:ev L x=some (.pointer (some ⟨b,j,none⟩)):=by exact rfl) (hy:ev L y=some v:=by exact rfl) (hv:v.cells=vs.toArray:=by exact rfl) (hk:M[k]?=some ⟨b,T',cs⟩:=by exact rfl) (h1:(vs.all Value.oneCell')=true:=by exact rfl) (hm:vs.length=m:=by exact rfl) (hlen:j + vs.length≤cs.length:=by exact nle rfl) (hr:Region.ready .any l.toArray bs.toArray=[i]:=by kernel_rfl):DL Tryz.prog l Mid S0 B (fuel + 1) bs a w:=nn i hi (iU hf H k hT hx hy hv hk h1 hm hlen h) hr
theorem Mem.ld (H:Mem w0 S M R D I w) (j:Nat) {α:Type} [GoTy α] {F:List Nat} {cs:List Value} {x:α} (hj:D[j]?=some ⟨F,MP.own F cs x⟩:=by exact rfl):Mem w0 S M R D ((true,MP.val cs x)::I) w:=H.lend j hj
theorem Mem.fd (H:Mem w0 S M R D I w) (i:Nat) {d:DI} (hi:D[i]?=some d:=by exact rfl):Mem w0 S M R (d::D.eraseIdx i) I w:=H.frontD i hi
theorem Mem.fr (H:Mem w0 S M R D I w) (i:Nat) {r:Row} (hi:R[i]?=some r:=by exact rfl):Mem w0 S M (r::R.eraseIdx i) D I w:=H.frontR i hi
theorem Mem.ow (H:Mem w0 S M R D I w) (i:Nat) {α:Type} [GoTy α] {f:Bool} {E:TypeId} {A:Option Addr} {cap:Nat} {xs:List α} (hi:R[i]?=some ⟨.sh f,E,A,cap,xs⟩:=by exact rfl) (hfl:GoTy.flat α=true:=by exact rfl):Mem w0 S M (R.set i ⟨.ow (List.replicate xs.length []),E,A,cap,xs⟩) D I w:=H.rowOwn i hfl hi
theorem Mem.sh (H:Mem w0 S M R D I w) (i:Nat) {α:Type} [GoTy α] {Fs:List (List Nat)} {E:TypeId} {A:Option Addr} {cap:Nat} {xs:List α} (hi:R[i]?=some ⟨.ow Fs,E,A,cap,xs⟩:=by exact rfl):Mem w0 S M (R.set i ⟨.sh true,E,A,cap,xs⟩) D I w:=H.rowSh i hi
theorem Mem.wk (H:Mem w0 S M R D I w) (i:Nat) {α:Type} [GoTy α] {fr:Bool} {E:TypeId} {A:Option Addr} {cap:Nat} {xs:List α} (hi:R[i]?=some ⟨.sh fr,E,A,cap,xs⟩:=by exact rfl):Mem w0 S M (R.set i ⟨.sh false,E,A,cap,xs⟩) D I w:=H.rowWeak i hi
theorem Mem.fz (H:Mem w0 S M R D I w) (i:Nat) {r:Row} (hi:R[i]?=some r:=by exact rfl):Mem w0 S M (R.eraseIdx i) D ((r.k.fresh,MP.val [r.v] r.xs)::I) w:=H.freeze i hi
theorem Mem.kp {w':World} (H:Mem w0 S M R D I w) (hk:Below w.heap.size w w'):Mem w0 S M R D I w':=H.keep hk
theorem Fr.li (hf:Fr a n L) (t:Nat) {b c:Bool} (hb:b=c) (h:lk L t=some (.bool b):=by exact rfl):Fr a n ((t,.bool c)::L):=hf.lit t h hb
end
variable {P:Program} {Q:Exit→Act→World→Prop} {a:Act} {w:World} {K:Act→World→Prop}
theorem xb {K':Act→World→Prop} {i:Nat} (h:Q .normal a w):(Code.exit i).wp P (Exit.then K (Exit.then K' (Exit.inBlock i Q))) a w:=wp_exit (gG (gG (mX h)))
theorem aN {A B C:Prop} (k:C) (h:¬A:=by decide):(A→B)∧C:=⟨λx=>absurd x h,k⟩
theorem Ms (w:World) (S:Nat→Prop):Mem ⟨w,[]⟩ S [] [] [] [] w:=Mem.start ⟨w,[]⟩ S
theorem rV {fn:Func} {n:Nat} {L:List (Nat×Value)} {w1:World} {S:Nat→Prop} {M:List Blk} {R:List Row} {D:List DI} {I:List (Bool×MP)} {Φ:Value→World→Prop} {t:Nat} {v:Value} (hf:Fr a n L) (H:Mem ⟨w1,[]⟩ S M R D I w) (h:Φ v w) (hres:fn.results=#[.tmp t]:=by exact rfl) (hv:lk L t=some v:=by exact rfl):bodyPost Tryz.prog fn (λe w'=>∃v,e=.returned v∧(Below w1.heap.size w1 w'∧Φ v w')) .ret a w:=rT hf ⟨_,rfl,H.bel,h⟩ hres hv
theorem ob {ops:Array Oper} (h:K a w):wpList P ops (Exit.then K Q) [] a w:=uc (ua h)
end AT
