/- Shorter words for the generated walks: what is closed is told by itself. -/
import Derived.Test.YtlemonjnolciiaaGreatT
set_option linter.unusedVariables false
set_option maxRecDepth 100000
namespace AT
theorem Z.{u_} {α:Sort u_} {a:α}:a=a:=rfl
open Go Go.RowKit Go.Proofs Tryz
@[reducible] def Sc {α:Type} (A:c_) (c:Nat) (x:List α):Value:=.slice A x.length c
abbrev OA:=Option Addr
@[reducible] def Iv (x:Int):Value:=.int .i64 x
@[reducible] def Pv (b:Nat):Value:=.pointer (some ⟨b,0,none⟩)
@[reducible] def Pw (b o:Nat):Value:=.pointer (some ⟨b,o,none⟩)
@[reducible] def Vl (f:Bool) (A:c_) (c:Nat) {α:Type} [GoTy α] (x:List α):Bool×MP:=(f,MP.val [.slice A x.length c] x)
@[reducible] def Ow (F:m_) (A:c_) (c:Nat) {α:Type} [GoTy α] (x:List α):DI:=⟨F,MP.own F [.slice A x.length c] x⟩
@[reducible] def Bt:Nat->Nat->List Bool
  | 0,_=>[]
  | n + 1,m=>Nat.beq (m % 2) 1::Bt n (m / 2)
@[reducible] def Ca (x:Pq):p_:=[.int .i64 x.A,.int .i64 x.B,.int .i64 x.Pg,.int .i64 x.Pp]
@[reducible] def Cc (A0:c_) (c0:Nat) (x:Np):p_:=[Sc A0 c0 x.code,.int .i64 x.at_,.int .u64 x.seed.n]
@[reducible] def Ce (A0:c_) (c0:Nat) (A1:c_) (c1:Nat) (x:Nq):p_:=[Sc A0 c0 x.Nv,Sc A1 c1 x.Nw]
@[reducible] def Cf (A0:c_) (c0:Nat) (A1:c_) (c1:Nat) (A2:c_) (c2:Nat) (x:Nh):p_:=[Sc A0 c0 x.Nq.Nv,Sc A1 c1 x.Nq.Nw,Sc A2 c2 x.Nk]
@[reducible] def Cg (A0:c_) (c0:Nat) (x:Nz):p_:=[.int .i64 x.Nt,Sc A0 c0 x.Nw]
@[reducible] def Ci (A0:c_) (c0:Nat) (x:Nx):p_:=[.int .i64 x.Id,.int .i64 x.Nz.Nt,Sc A0 c0 x.Nz.Nw,.int .i64 x.Nj.Pk,.int .i64 x.Nj.Pz]
@[reducible] def Cj (A0:c_) (c0:Nat) (A1:c_) (c1:Nat) (A2:c_) (c2:Nat) (x:Nh):Value:=.agg #[Sc A0 c0 x.Nq.Nv,Sc A1 c1 x.Nq.Nw,Sc A2 c2 x.Nk]
@[reducible] def Ck (x:Nd):p_:=[.int .i64 x.Pt,.int .i64 x.To,.int .i64 x.Ph,.int .i64 x.Rk]
@[reducible] def Co (x:Nj):p_:=[.int .i64 x.Pk,.int .i64 x.Pz]
@[reducible] def Cp (A0:c_) (c0:Nat) (x:Px):p_:=[.int .i64 x.route.Nt,Sc A0 c0 x.route.Nw,.int .i64 x.count]
@[reducible] def Cr (A0:c_) (c0:Nat) (A1:c_) (c1:Nat) (A2:c_) (c2:Nat) (x:Pj):p_:=[Sc A0 c0 x.n.Nv,Sc A1 c1 x.n.Nw,.int .i64 x.to,Sc A2 c2 x.list]
@[reducible] def Cs (A0:c_) (c0:Nat) (x:Px):Value:=.agg #[.int .i64 x.route.Nt,Sc A0 c0 x.route.Nw,.int .i64 x.count]
@[reducible] def Cb:p_:=[(.slice none 0 0),(.slice none 0 0)]
@[reducible] def Cd:p_:=[(.int .i64 0),(.slice none 0 0)]
@[reducible] def Ch:p_:=[(.slice none 0 0),(.slice none 0 0),(.slice none 0 0)]
@[reducible] def Cl:p_:=[(.int .i64 0),(.int .i64 0),(.int .i64 0),(.int .i64 0)]
@[reducible] def Cn:p_:=[(.int .i64 0),(.int .i64 0)]
@[reducible] def Cq:p_:=[(.slice none 0 0),(.slice none 0 0),(.slice none 0 0),(.slice none 0 0),(.int .i64 0)]
@[reducible] def Ct:p_:=[(.int .i64 0),(.slice none 0 0),(.int .i64 0)]
@[reducible] def CA (f:FuncId) (vs:p_) (w:World) (P:Value->t_):Prop:=Calls prog f vs.toArray w λe w'=>∃v,e=.returned v/\P v w'
@[reducible] def VX (w0 w:World) (S:w_) {α:Type} [GoTy α] (v:Value) (x:α):Prop:=VR w (St ⟨w0,[]⟩ S [] [] [] true) v x
@[reducible] def CV (f:FuncId) (vs:p_) (w0:World) (S:w_) {α:Type} [GoTy α] (x:α):Prop:=CA f vs w0 λv w'=>(Below w0.heap.size w0 w'/\VX w0 w' S v x)
@[reducible] def CO (f:FuncId) (vs:p_) (w0:World) {α:Type} [GoTy α] (x:α):Prop:=CA f vs w0 λv w'=>(Below w0.heap.size w0 w'/\∃F0,VO w' F0 v x/\K1 w0 w' F0)
@[reducible] def CE (f:FuncId) (vs:p_) (w0:World) (S:w_) (b t:Nat) (cs0:p_) (x c:Np) {α:Type} [GoTy α] (y:α):Prop:=CA f vs w0 λv w'=>(Chg w0 w' [b]/\∃cs',w'.heap[b]?=some (.cells cs'.toArray t (0,0))/\GoTy.rep w' (St ⟨w0,[b]⟩ S [⟨b,t,cs'⟩] [] [] false) cs' x/\(cs'[0]?=cs0[0]?/\x.code=c.code)/\VR w' (St ⟨w0,[b]⟩ S [⟨b,t,cs'⟩] [] [] true) v y)
abbrev kr:=@wp_skip
abbrev kx:=@wp_exit
abbrev kb:=@wp_block
abbrev kt:=trivial
abbrev y107:=@Tryz.underlying107
abbrev y128:=@Tryz.underlying128
abbrev y22:=@Tryz.underlying22
abbrev y230:=@Tryz.underlying230
abbrev y24:=@Tryz.underlying24
abbrev y246:=@Tryz.underlying246
abbrev Q1:=@Tryz.underlying25
abbrev U1:=@Tryz.underlying28
abbrev y31:=@Tryz.underlying31
abbrev y318:=@Tryz.underlying318
abbrev y32:=@Tryz.underlying32
abbrev J_:=@Tryz.underlying35
theorem Dd {p:Prop} (h:p:=by decide):p:=h
section
variable {Q:Exit->r_} {a:Act} {w:World} {n:Nat} {L:g_} {dst:Option Tmp} {ty:TypeId} {pos:String} {af:Array Edge} {K:r_} {d:Nat}
variable {w0:Base} {S:w_} {M:List Blk} {R:List Row} {D:List DI} {I:List (Bool×MP)} {S0:t_} {B:m_} {bs:List Bool} {fuel:Nat} {Mid:r_} {o:Oper} {v:Value}
theorem O_.rt (H:O_ w0 S M R D I w) (i:Nat) {α:Type} [GoTy α] {cs:p_} {x:α} {f:Bool} (hi:I[i]?=some (f,MP.val cs x)):GoTy.rep w (λ_=>True) cs x:=qX (H.get i hi)
theorem pz {ops:List Oper} (k:Nat) {l:List Oper} {L':g_} {l':List Oper} (hf:Fr a n L) (hk:∀a',Fr a' n L'->wpList prog ops.toArray Q l' a' w) (hd:sC n l=true:=by exact rfl) (h:pRun tab ops k L l=(L',l'):=by exact rfl):wpList prog ops.toArray Q l a w:=pr k hf hd h hk
variable {ops:Array Oper} {rest l:List Oper} {xs:List Operand} {ats:Array TypeId} {vs cs:p_} {α:Type} {T:TypeId} {g:x_}
theorem oq (hf:Fr a n L) (hr:(execOp a.eval o).run prog w=.ok (.value v) w) (k:∀a',Fr a' n ((d,v)::L)->wpList prog ops Q rest a' w) (hg:o.guard=none:=by exact rfl) (hd:o.dst=some d:=by exact rfl) (hdn:d<n:=by decide):wpList prog ops Q (o::rest) a w:=U_ hg (op_q hf hr hd hdn k)
theorem oc {f:FuncId} (hf:Fr a n L) (hk:CL prog f) {Post:Value->t_} (hc:Calls prog f vs.toArray w λe w'=>∃v,e=.returned v/\Post v w') (k:∀v w' a',Post v w'->Fr a' n ((d,v)::L)->wpList prog ops Q rest a' w') (hxs:evs L xs=some vs:=by exact rfl) (hdn:d<n:=by decide):wpList prog ops Q (⟨some d,.call ⟨.value (.func f),xs.toArray,ats⟩,ty,pos,af,none⟩::rest) a w:=U_ rfl (nV hf hk hxs hdn hc k)
theorem N1 {A:c_} {c:Nat} {x y:List α} (e:x=y):some (Value.slice A x.length c)=some (Value.slice A y.length c):=by rw[e]
theorem oi {x y:α} (h:some x=some y):x=y:=GJ h
theorem Q_ {β:Type} {x:Option α} {f:α->Option β} {r:β} (h:x.bind f=some r):∃a,x=some a/\f a=some r:=bind_some h
theorem G_ (h:Q .ret a w):wpList prog ops (Exit.then ((Code.ret).wp prog Q) Q) [] a w:=uc (ua (wp_ret h))
theorem dw {id:Nat} (B:m_) (n:Nat) (h:∀w1,Below w.heap.size w w1->DL prog l (λa w=>Q .normal a w) (λ_=>True) B n (List.replicate n false) a w1) (hn:l.length=n:=by exact rfl):(Code.region id l.toArray true).wp prog Q a w:=drawn B (Checked.mixed Tryz.checked) (by rw[hn]) hn h
theorem nn (i:Nat) (hi:l[i]?=some o) (h:o.wp prog a w (λa' w'=>(nb B (bs.set i true).toArray=true->S0 w')/\DL prog l Mid S0 B fuel (bs.set i true) a' w') (only Mid)) (hr:Region.ready .any l.toArray bs.toArray=[i]:=by kernel_rfl) (hg:o.guard=none:=by exact rfl):DL prog l Mid S0 B (fuel + 1) bs a w:=n1 i hr hi hg h
theorem ws {id i:Nat} {y z:Code} (h:wpList prog l.toArray (Exit.then (z.wp prog (Exit.inBlock i (Exit.then (y.wp prog Q) Q))) (Exit.inBlock i (Exit.then (y.wp prog Q) Q))) l a w):Code.skip.wp prog (Exit.then ((Code.seq (.block i (.seq (.region id l.toArray false) z)) y).wp prog Q) Q) a w:=wp_skip (ua (sq (wp_block (sq (N_ h)))))
theorem lB (i:Nat) {ops:Array Oper} {rest:List Oper} {T:TypeId} {x:Operand} {b j:Nat} {T':TypeId} {cs:p_} {v:Value} (hf:Fr a n L) (H:O_ w0 S M R D I w) (hT:LS prog T) (k:∀a',Fr a' n ((d,v)::L)->wpList prog ops Q rest a' w) (hx:ev L x=some (.pointer (some ⟨b,j,none⟩)):=by exact rfl) (hi:M[i]?=some ⟨b,T',cs⟩:=by exact rfl) (hv:cs[j]?=some v:=by exact rfl) (hdn:d<n:=by decide):wpList prog ops Q (⟨some d,.load T x,ty,pos,af,none⟩::rest) a w:=U_ rfl (op_q hf (vC hf H hT i hx hi hv) rfl hdn k)
theorem lN (i:Nat) {ops:Array Oper} {rest:List Oper} {T:TypeId} {m:Nat} {x:Operand} {b j:Nat} {T':TypeId} {cs ds:p_} (hf:Fr a n L) (H:O_ w0 S M R D I w) (hT:LA prog T m) (k:∀a',Fr a' n ((d,.agg ds.toArray)::L)->wpList prog ops Q rest a' w) (hx:ev L x=some (.pointer (some ⟨b,j,none⟩)):=by exact rfl) (hi:M[i]?=some ⟨b,T',cs⟩:=by exact rfl) (hd:(cs.drop j).take m=ds:=by exact rfl) (hl:ds.length=m:=by exact rfl) (hdn:d<n:=by decide):wpList prog ops Q (⟨some d,.load T x,ty,pos,af,none⟩::rest) a w:=U_ rfl (op_q hf (dd hf H hT i hx hi hd hl) rfl hdn k)
theorem bx {id:Nat} {y:Code} {x:Operand} (hf:Fr a n L) (H:O_ w0 S M R D I w) (k:∀b a' w',Fr a' n ((d,.pointer (some ⟨b,0,none⟩))::L)->O_ w0 S (⟨b,T,cs⟩::M) R D I w'->wpList prog (⟨some d,.box T x,ty,pos,af,none⟩::rest).toArray (Exit.then (y.wp prog Q) Q) rest a' w') (hx:ev L x=some v:=by exact rfl) (hcs:v.cells=cs.toArray:=by exact rfl) (hdn:d<n:=by decide):(Code.seq (.region id (⟨some d,.box T x,ty,pos,af,none⟩::rest).toArray false) y).wp prog Q a w:=sq (N_ (U_ rfl (yv hf H hx hcs hdn k)))
theorem rT {fn:Func} {Rr:Ending->t_} {t:Nat} (hf:Fr a n L) (hR:Rr (.returned v) w) (hres:fn.results=#[.tmp t]:=by exact rfl) (h:lk L t=some v:=by exact rfl):bodyPost prog fn Rr .ret a w:=zT hf hres (uL hf h) hR
theorem oC {f:FuncId} (hf:Fr a n L) (hk:CL prog f) {Post:Value->t_} (hc:Calls prog f vs.toArray w λe w'=>∃v,e=.returned v/\Post v w') (k:∀v w' a',Post v w'->Fr a' n ((d,v)::L)->K a' w') (hxs:evs L xs=some vs:=by exact rfl) (hdn:d<n:=by decide):Oper.wp prog ⟨some d,.call ⟨.value (.func f),xs.toArray,ats⟩,ty,pos,af,g⟩ a w K Q:=nV hf hk hxs hdn hc k
theorem bl {α:Type} [GoTy α] {m:Nat} {ps:List (Nat×Operand)} {qs:g_} (hf:Fr a n L) (H:O_ w0 S M R D I w) (E:TypeId) (xs:List α) (cells:p_) (hel:∀i x,xs[i]?=some x->(Kd.sh true).holds w (St w0 S M R D (Kd.sh true).fresh) i (xX α cells i) x) (k:∀A a' w',Fr a' n ((d,.slice A m m)::L)->O_ w0 S M (⟨.sh true,E,A,m,xs⟩::R) D I w'->K a' w') (hp0:evp L ps=some qs:=by exact rfl) (hb:∀w,(Instr.buildSlice T m qs.toArray).run prog w=.ok (.slice (some ⟨w.heap.size,0,none⟩) m m) (w.alloc (.cells cells.toArray E)):=by intro w; kernel_rfl) (hm:xs.length=m:=by exact rfl) (hmax:m<=1099511627776:=by decide) (hlen:cells.length=m * GoTy.n α:=by exact rfl) (hdn:d<n:=by decide):Oper.wp prog ⟨some d,.buildSlice T m ps.toArray,ty,pos,af,g⟩ a w K Q:=eL hf H (.sh true) rfl E xs cells hp0 hb hm hmax hlen trivial hel hdn k
theorem dk (h:Mid a w) (hr:Region.ready .any l.toArray bs.toArray=[]:=by kernel_rfl):DL prog l Mid S0 B fuel bs a w:=dn hr h
theorem aS {A B C:Prop} (h:B) (k:C):(A->B)/\C:=⟨λ_=>h,k⟩
theorem aL {z:Value} (hf:Fr a n L) (H:O_ w0 S M R D I w) (hz:ZV prog T z) (k:∀b a' w',Fr a' n ((d,.pointer (some ⟨b,0,none⟩))::L)->O_ w0 S (⟨b,T,cs⟩::M) R D I w'->wpList prog ops Q rest a' w') (hcs:z.cells=cs.toArray:=by exact rfl) (hdn:d<n:=by decide):wpList prog ops Q (⟨some d,.alloc T,ty,pos,af,none⟩::rest) a w:=U_ rfl (xj hf H hz hcs hdn k)
theorem sB (i:Nat) {ops:Array Oper} {rest:List Oper} {I:List (Bool×MP)} {T:TypeId} {x y:Operand} {b j m:Nat} {T':TypeId} {cs vs:p_} {v:Value} (hf:Fr a n L) (H:O_ w0 S M R D I w) (hT:SZ prog T m) (k:∀w',O_ w0 S (M.set i ⟨b,T',cs.take j++vs++cs.drop (j + vs.length)⟩) R D I w'->wpList prog ops Q rest a w')
    (hx:ev L x=some (.pointer (some ⟨b,j,none⟩)):=by exact rfl) (hy:ev L y=some v:=by exact rfl) (hv:v.cells=vs.toArray:=by exact rfl) (hi:M[i]?=some ⟨b,T',cs⟩:=by exact rfl) (h1:(vs.all Value.oneCell')=true:=by exact rfl) (hm:vs.length=m:=by exact rfl) (hlen:j + vs.length<=cs.length:=by exact M1 rfl):wpList prog ops Q (⟨none,.store T x y,ty,pos,af,none⟩::rest) a w:=U_ rfl (gV hf H i hT hx hy hv hi h1 hm hlen k)
section
variable {l:List Oper} {op:Op} {t:TypeId} {ps:String}
theorem zS (i:Nat) (X:m_) (hi:l[i]?=some o) (hd:o.dst=some d) (hg:o.guard=none) (hdn:Nat.ble (d + 1) n=true) (hf:Fr a n L) (hS:S0 w) (hy:∀w,S0 w->(execOp a.eval o).run prog w=.ok (.value v) w) (h:∀a',Fr a' n ((d,v)::L)->DL prog l Mid S0 B fuel (bs.set i true) a' w) (hc:takeB l bs i X B=true:=by kernel_rfl) (hBX:(B.all (X.contains ·))=true:=by kernel_rfl):DL prog l Mid S0 B (fuel + 1) bs a w:=tS i X hi hd hg hdn hf hc hBX hS hy h
theorem zP (i:Nat) (hi:l[i]?=some o) (hd:o.dst=some d) (hg:o.guard=none) (hdn:Nat.ble (d + 1) n=true) (hf:Fr a n L) (hS:S0 w) (hy:∀w,(execOp a.eval o).run prog w=.ok (.value v) w) (h:∀a',Fr a' n ((d,v)::L)->DL prog l Mid S0 B fuel (bs.set i true) a' w) (hc:takeB l bs i [] B=true:=by kernel_rfl):DL prog l Mid S0 B (fuel + 1) bs a w:=tP i hi hd hg hdn hf hc (λ_=>hS) hy h
theorem zp (i:Nat) (hf:Fr a n L) (hS:S0 w) (h:∀a',Fr a' n ((d,v)::L)->DL prog l Mid S0 B fuel (bs.set i true) a' w) (hi:l[i]?=some ⟨some d,op,t,ps,af,none⟩:=by exact rfl) (hv:pOp tab L op=some v:=by exact rfl) (hdn:Nat.ble (d + 1) n=true:=by exact rfl) (hc:takeB l bs i [] B=true:=by kernel_rfl):DL prog l Mid S0 B (fuel + 1) bs a w:=tp i hi hdn hf hc (λ_=>hS) hv h
theorem zg (i:Nat) {j e:Nat} {b:Bool} (hf:Fr a n L) (hS:S0 w) (h:∀a',Fr a' n ((d,v)::L)->DL prog l Mid S0 B fuel (bs.set i true) a' w) (hi:l[i]?=some ⟨some d,op,t,ps,af,some (j,b)⟩:=by exact rfl) (hj:(l[j]?).bind (·.dst)=some e:=by exact rfl) (hb:lk L e=some (.bool b):=by exact rfl) (hv:pOp tab L op=some v:=by exact rfl) (hdn:Nat.ble (d + 1) n=true:=by exact rfl) (hc:takeB l bs i [] B=true:=by kernel_rfl):DL prog l Mid S0 B (fuel + 1) bs a w:=tpg i hi hj hb hdn hf hc (λ_=>hS) hv h
theorem zV (i:Nat) {j e:Nat} {b:Bool} (hf:Fr a n L) (hS:S0 w) (h:∀a',Fr a' n ((d,undef)::L)->DL prog l Mid S0 B fuel (bs.set i true) a' w) (hi:l[i]?=some o:=by exact rfl) (hd:o.dst=some d:=by exact rfl) (hg:o.guard=some (j,b):=by exact rfl) (hj:(l[j]?).bind (·.dst)=some e:=by exact rfl) (hv:lk L e=some undef:=by exact rfl) (hdn:Nat.ble (d + 1) n=true:=by exact rfl) (hc:takeB l bs i [] B=true:=by kernel_rfl):DL prog l Mid S0 B (fuel + 1) bs a w:=tUU i hi hd hg hj hv hdn hf hc (λ_=>hS) h
theorem zU (i:Nat) {j e:Nat} {b c:Bool} (hf:Fr a n L) (hS:S0 w) (h:∀a',Fr a' n ((d,undef)::L)->DL prog l Mid S0 B fuel (bs.set i true) a' w) (hi:l[i]?=some o:=by exact rfl) (hd:o.dst=some d:=by exact rfl) (hg:o.guard=some (j,b):=by exact rfl) (hj:(l[j]?).bind (·.dst)=some e:=by exact rfl) (hv:lk L e=some (.bool c):=by exact rfl) (hne:(c==b)=false:=by exact rfl) (hdn:Nat.ble (d + 1) n=true:=by exact rfl) (hc:takeB l bs i [] B=true:=by kernel_rfl):DL prog l Mid S0 B (fuel + 1) bs a w:=tU i hi hd hg hj hv hne hdn hf hc (λ_=>hS) h
end
abbrev TT:w_:=λ_=>True
theorem ib {R:Type} {c:Operand} {x y:Code} {b:Bool} {p q r:R} (h:(if b=true then p else q)=r) (hf:Fr a n L) (h1:b=true->p=r->x.wp prog Q a w) (h2:b=false->q=r->y.wp prog Q a w) (hc:ev L c=some (.bool b):=by exact rfl):(Code.cond c x y).wp prog Q a w:=iteB h (λe e'=>cd_t hf hc e (h1 e e')) λe e'=>cd_f hf hc e (h2 e e')
def gn {α:Type _}:Nat->List α->Option (List α)
  | _,[]=>some []
  | m,x::r=>match gn (m / 2) r with
    | some q=>bif Nat.beq (m % 2) 1 then some (x::q) else some q
    | none=>none
def Df {α:Type _}:Nat->List α->List Bool
  | _,[]=>[]
  | m,_::r=>Nat.beq (m % 2) 1::Df (m / 2) r
theorem dz {α:Type _}:∀(m:Nat) (l q:List α),gn m l=some q->maskO (Df m l) l=some q
  | _,[],_,h=>h
  | m,x::r,q,h=>by
    unfold gn at h
    cases e:gn (m / 2) r with
    | none=>rw[e]at h; cases h
    | some p =>
      rw[e]at h
      have ih:=dz (m / 2) r p e
      unfold Df
      cases hb:Nat.beq (m % 2) 1
      · rw[hb]at h; unfold maskO; exact ih.trans h
      · rw[hb]at h; unfold maskO; rw[ih]; exact h
def kIx:Nat->Nat->Nat->m_
  | _,0,_=>[]
  | m,n + 1,i=>bif Nat.beq (m % 2) 1 then i::kIx (m / 2) n (i + 1) else kIx (m / 2) n (i + 1)
theorem O_.lk (H:O_ w0 S M R D I w) (bm br bd:Nat) (is:m_) {M':List Blk} {R':List Row} {D':List DI} {I':List (Bool×MP)} (hM:gn bm M=some M':=by exact rfl) (hR:gn br R=some R':=by exact rfl) (hD:gn bd D=some D':=by exact rfl) (hI:pickO I is=some I':=by exact rfl):O_ w0 S M' R' D' I' w:=H.let _ _ _ is (dz _ _ _ hM) (dz _ _ _ hR) (dz _ _ _ hD) hI
theorem O_.lm (H:O_ w0 S M R D I w) (bm br bd n m:Nat) {M':List Blk} {R':List Row} {D':List DI} {I':List (Bool×MP)} (hM:gn bm M=some M':=by exact rfl) (hR:gn br R=some R':=by exact rfl) (hD:gn bd D=some D':=by exact rfl) (hI:pickO I (kIx m n 0)=some I':=by exact rfl):O_ w0 S M' R' D' I' w:=H.let _ _ _ _ (dz _ _ _ hM) (dz _ _ _ hR) (dz _ _ _ hD) hI
theorem Fr.pn (hf:Fr a n L) (ts:m_) {L':g_} (h:tT L ts=some L':=by exact rfl):Fr a n L':=hf.prune ts h
theorem en {f:FuncId} {fn:Func} {c:Code} {args:p_} {Rr:Ending->t_} (hF:prog.funcs[f]?=some fn) (h:∀a,Fr a n L->c.wp prog (bodyPost prog fn Rr) a w) (hb:fn.body=some c:=by exact rfl) (hn:fn.ntmps=n:=by exact rfl) (hl:args.length<=n:=by exact M1 rfl) (hL:(args.zipIdx.map λp=>(p.2,p.1))=L:=by exact rfl):Calls prog f args.toArray w Rr:=enter hF hb hn hl hL h
variable {y:Code}
theorem Z_ {id:Nat} (h:wpList prog l.toArray (Exit.then (y.wp prog Q) Q) l a w):(Code.seq (.region id l.toArray false) y).wp prog Q a w:=sq (N_ h)
theorem wr {id:Nat} (h:wpList prog l.toArray (Exit.then (y.wp prog Q) Q) l a w):wpList prog ops (Exit.then ((Code.seq (.region id l.toArray false) y).wp prog Q) Q) [] a w:=uc (ua (sq (N_ h)))
theorem we {x:Code} (h:x.wp prog (Exit.then (y.wp prog Q) Q) a w):wpList prog ops (Exit.then ((Code.seq x y).wp prog Q) Q) [] a w:=uc (ua (sq h))
end
section
variable {w w' w1:World} {w0:Base} {S S1:w_} {M:List Blk} {R:List Row} {D:List DI} {I:List (Bool×MP)} {α β γ:Type} [GoTy α] [GoTy β] [GoTy γ] {cs cs' cs'':p_} {xs:List α} {ys:List β} {zs':List γ} {F F' F'':m_}
variable {b:Nat} {T:TypeId} {d e:DI}
theorem eB {bs:p_} {f:Bool} (i:Nat) (h:lrep w (St w0 S M R D f) cs xs) (hi:M[i]?=some ⟨b,T,bs⟩:=by exact rfl):lrep w (St w0 S [⟨b,T,bs⟩] [] [] f) cs xs:=AB (M:=M) (i:=i) hi (α:=List α) h
theorem O_.pT (H:O_ w0 S M R D I w) (h:lrep w (St w0 S M R D true) cs xs):O_ w0 S M R D ((true,MP.val cs xs)::I) w:=H.push _ h
theorem O_.pF (H:O_ w0 S M R D I w) (h:lrep w (St w0 S M R D false) cs xs):O_ w0 S M R D ((false,MP.val cs xs)::I) w:=H.push _ h
theorem O_.pA (H:O_ ⟨w1,[]⟩ S M R D I w) (h:lrep w1 S cs xs):O_ ⟨w1,[]⟩ S M R D ((false,MP.val cs xs)::I) w:=H.pushArg (MP.val cs xs) h
theorem O_.pB (H:O_ ⟨w1,[b]⟩ S M R D I w) (hS:¬S b) (h:lrep w1 S cs xs):O_ ⟨w1,[b]⟩ S M R D ((false,MP.val cs xs)::I) w:=H.argB (by simpa using hS) (p:=MP.val cs xs) h
theorem O_.pX (H:O_ w0 S M R D I w) (k:Nat) {f:Bool} {A:c_} {c:Nat} {x y:List α} (hi:I[k]?=some (f,MP.val [.slice A x.length c] x)) (e:y=x):O_ w0 S M R D ((f,MP.val [.slice A y.length c] y)::I) w:=by subst e; exact H.push _ (H.get k hi)
theorem O_.rF (H:O_ w0 S M R D I w) (h:lrep w' (St ⟨w,[]⟩ S1 [] [] [] true) cs xs):lrep w' (St w0 S M R D true) cs xs:=H.resF (f:=MP.val cs xs) h
theorem O_.ends1 (H:O_ ⟨w1,[]⟩ S M R (d::D) I w):K1 w1 w d.F:=by have h:=H.ends (X:=[d]); simpa using h
theorem O_.ends2 (H:O_ ⟨w1,[]⟩ S M R (d::e::D) I w):K1 w1 w (d.F++e.F):=by have h:=H.ends (X:=[d,e]); simpa using h
theorem O_.ends3 {g:DI} (H:O_ ⟨w1,[]⟩ S M R (d::e::g::D) I w):K1 w1 w (d.F++(e.F++g.F)):=by have h:=H.ends (X:=[d,e,g]); simpa using h
theorem O_.endsB1 (H:O_ ⟨w1,[b]⟩ S M R (d::D) I w) (i:Nat) (hi:M[i]?=some ⟨b,T,cs⟩):K1 w1 w d.F:=by have h:=H.endsB (X:=[d]) i hi; simpa using h
theorem O_.endsB2 (H:O_ ⟨w1,[b]⟩ S M R (d::e::D) I w) (i:Nat) (hi:M[i]?=some ⟨b,T,cs⟩):K1 w1 w (d.F++e.F):=by have h:=H.endsB (X:=[d,e]) i hi; simpa using h
theorem O_.aO1 (H:O_ w0 S M R D I w) (hb:Below w.heap.size w w') (hN:K1 w w' F) (h:lown w' F cs xs):O_ w0 S M R (⟨F,MP.own F cs xs⟩::D) I w':=H.addOwn hb (X:=[⟨F,MP.own F cs xs⟩]) (by simpa using hN.1) (R1 h ps0) (by simpa using hN.2)
theorem O_.aO2 (H:O_ w0 S M R D I w) (hb:Below w.heap.size w w') (hN:K1 w w' (F++F')) (h:lown w' F cs xs) (h':lown w' F' cs' ys):O_ w0 S M R (⟨F,MP.own F cs xs⟩::⟨F',MP.own F' cs' ys⟩::D) I w':=H.addOwn hb (X:=[⟨F,MP.own F cs xs⟩,⟨F',MP.own F' cs' ys⟩]) (by simpa using hN.1) (R1 h (R1 h' ps0)) (by simpa using hN.2)
theorem O_.aO3 (H:O_ w0 S M R D I w) (hb:Below w.heap.size w w') (hN:K1 w w' (F++(F'++F''))) (h:lown w' F cs xs) (h':lown w' F' cs' ys) (h'':lown w' F'' cs'' zs'):O_ w0 S M R (⟨F,MP.own F cs xs⟩::⟨F',MP.own F' cs' ys⟩::⟨F'',MP.own F'' cs'' zs'⟩::D) I w':=H.addOwn hb (X:=[⟨F,MP.own F cs xs⟩,⟨F',MP.own F' cs' ys⟩,⟨F'',MP.own F'' cs'' zs'⟩]) (by simpa using hN.1) (R1 h (R1 h' (R1 h'' ps0))) (by simpa using hN.2)
theorem O_.bO1 (H:O_ w0 S M R D I w) (i:Nat) {b:Nat} {T:TypeId} {c0 c1:p_} (hi:M[i]?=some ⟨b,T,c0⟩) (hc:Chg w w' [b]) (hb:w'.heap[b]?=some (.cells c1.toArray T (0,0))) (hN:K1 w w' F) (h:lown w' F cs xs):O_ w0 S (M.set i ⟨b,T,c1⟩) R (⟨F,MP.own F cs xs⟩::D) I w':=H.wroteBoxO i hi hc hb (X:=[⟨F,MP.own F cs xs⟩]) (by simpa using hN.1) (R1 h ps0) (by simpa using hN.2)
theorem O_.bO2 (H:O_ w0 S M R D I w) (i:Nat) {b:Nat} {T:TypeId} {c0 c1:p_} (hi:M[i]?=some ⟨b,T,c0⟩) (hc:Chg w w' [b]) (hb:w'.heap[b]?=some (.cells c1.toArray T (0,0))) (hN:K1 w w' (F++F')) (h:lown w' F cs xs) (h':lown w' F' cs' ys):O_ w0 S (M.set i ⟨b,T,c1⟩) R (⟨F,MP.own F cs xs⟩::⟨F',MP.own F' cs' ys⟩::D) I w':=H.wroteBoxO i hi hc hb (X:=[⟨F,MP.own F cs xs⟩,⟨F',MP.own F' cs' ys⟩]) (by simpa using hN.1) (R1 h (R1 h' ps0)) (by simpa using hN.2)
end
section
variable {Q:Exit->r_} {a:Act} {w:World} {n:Nat} {L:g_} {dst:Option Tmp} {ty:TypeId} {pos:String} {af:Array Edge} {K:r_} {d:Nat}
variable {w0:Base} {S:w_} {M:List Blk} {R:List Row} {D:List DI} {I:List (Bool×MP)} {S0:t_} {B:m_} {bs:List Bool} {fuel:Nat} {Mid:r_} {o:Oper} {v:Value} {l:List Oper}
def zw (l:List Oper) (n:Nat) (L:g_) (i:Nat):Option (Nat×Value) :=
  match l[i]? with
  | some ⟨some d,op,_,_,_,none⟩=>match pOp tab L op with
    | some v=>bif Nat.ble (d + 1) n then some (d,v) else none
    | none=>none
  | some ⟨some d,op,_,_,_,some (j,b)⟩=>match (l[j]?).bind (·.dst) with
    | some e=>match lk L e with
      | some (.bool c)=>bif c==b then (match pOp tab L op with
        | some v=>bif Nat.ble (d + 1) n then some (d,v) else none
        | none=>none) else bif Nat.ble (d + 1) n then some (d,undef) else none
      | some (.tuple ⟨[]⟩)=>bif Nat.ble (d + 1) n then some (d,undef) else none
      | _=>none
    | none=>none
  | _=>none
def zL (l:List Oper) (n:Nat):m_->g_->Option (g_)
  | [],L=>some L
  | i::r,L=>match zw l n L i with
    | some p=>zL l n r (p::L)
    | none=>none
def zC (l:List Oper) (B:m_):m_->List Bool->Bool
  | [],_=>true
  | i::r,bs=>takeB l bs i [] B&&zC l B r (bs.set i true)
def zB:m_->List Bool->List Bool
  | [],bs=>bs
  | i::r,bs=>zB r (bs.set i true)
theorem EB {i:Nat} {p:Nat×Value} (hf:Fr a n L) (hS:S0 w) (hc:takeB l bs i [] B=true) (hz:zw l n L i=some p) (h:∀a',Fr a' n (p::L)->DL prog l Mid S0 B fuel (bs.set i true) a' w):DL prog l Mid S0 B (fuel + 1) bs a w:=by
  unfold zw at hz
  split at hz
  · rename_i d op ty ps af hi
    split at hz
    · rename_i v hv
      cases hd:Nat.ble (d + 1) n <;> rw[hd]at hz <;> cases hz
      exact zp i hf hS h hi hv hd hc
    · cases hz
  · rename_i d op ty ps af j b hi
    split at hz
    · rename_i e hj
      split at hz
      · rename_i c hb
        cases hcb:(c==b) <;> rw[hcb]at hz
        · cases hd:Nat.ble (d + 1) n <;> rw[hd]at hz <;> cases hz
          exact zU i hf hS h hi rfl rfl hj hb hcb hd hc
        · obtain rfl:c=b:=by simpa using hcb
          change (match pOp tab L op with
            | some v=>bif Nat.ble (d + 1) n then some (d,v) else none
            | none=>none)=_ at hz
          split at hz
          · rename_i v hv
            cases hd:Nat.ble (d + 1) n <;> rw[hd]at hz <;> cases hz
            exact zg i hf hS h hi hj hb hv hd hc
          · cases hz
      · rename_i hb
        cases hd:Nat.ble (d + 1) n <;> rw[hd]at hz <;> cases hz
        exact zV i hf hS h hi rfl rfl hj hb hd hc
      · cases hz
    · cases hz
  · cases hz
theorem zq_:∀(is:m_) {bs:List Bool} {L L':g_} {a:Act},Fr a n L->S0 w->zL l n is L=some L'->zC l B is bs=true->(∀a',Fr a' n L'->DL prog l Mid S0 B fuel (zB is bs) a' w)->DL prog l Mid S0 B (fuel + is.length) bs a w
  | [],_,_,_,_,hf,_,hz,_,h=>by cases hz; exact h _ hf
  | i::r,bs,L,L',a,hf,hS,hz,hc,h=>by
    unfold zL at hz
    split at hz
    · rename_i p hp
      have hc:(takeB l bs i [] B&&zC l B r (bs.set i true))=true:=hc
      rw[GP]at hc
      exact EB hf hS hc.1 hp λa' hf'=>zq_ r hf' hS hz hc.2 h
    · cases hz
theorem zq (is:m_) {L':g_} {f:Nat} (hf:Fr a n L) (hS:S0 w) (h:∀a',Fr a' n L'->DL prog l Mid S0 B f (zB is bs) a' w) (hz:zL l n is L=some L':=by exact rfl) (hc:zC l B is bs=true:=by kernel_rfl) (hfu:Nat.sub fuel is.length=f:=by exact rfl) (hle:Nat.ble is.length fuel=true:=by exact rfl):DL prog l Mid S0 B fuel bs a w:=by
  have e:fuel=f + is.length:=by subst hfu; exact (Nat.sub_add_cancel (Nat.le_of_ble_eq_true hle)).symm
  rw[e]; exact zq_ is hf hS hz hc h
section
variable {T:TypeId} {x:Operand} {b j m:Nat} {T':TypeId} {cs ds:p_} {f:Bool} {u:x_}
theorem P_ (i:Nat) (X:m_) (hf:Fr a n L) (hS:O_ w0 S M R D I w) (hT:LS prog T) (k:Nat) (h:∀a',Fr a' n ((d,v)::L)->DL prog l Mid (O_ w0 S M R D I) B fuel (bs.set i true) a' w) (hi:l[i]?=some ⟨some d,.load T x,ty,pos,af,none⟩:=by exact rfl) (hx:ev L x=some (.pointer (some ⟨b,j,none⟩)):=by exact rfl) (hk:M[k]?=some ⟨b,T',cs⟩:=by exact rfl) (hv:cs[j]?=some v:=by exact rfl) (hdn:Nat.ble (d + 1) n=true:=by exact rfl) (hc:takeB l bs i X B=true:=by kernel_rfl) (hBX:(B.all (X.contains ·))=true:=by kernel_rfl):DL prog l Mid (O_ w0 S M R D I) B (fuel + 1) bs a w:=zS i X hi rfl rfl hdn hf hS (λw H=>vC hf H hT k hx hk hv) h hc hBX
theorem O0 (i:Nat) (X:m_) (hf:Fr a n L) (hS:O_ w0 S M R D I w) (hT:LA prog T m) (k:Nat) (h:∀a',Fr a' n ((d,.agg ds.toArray)::L)->DL prog l Mid (O_ w0 S M R D I) B fuel (bs.set i true) a' w) (hi:l[i]?=some ⟨some d,.load T x,ty,pos,af,none⟩:=by exact rfl) (hx:ev L x=some (.pointer (some ⟨b,j,none⟩)):=by exact rfl) (hk:M[k]?=some ⟨b,T',cs⟩:=by exact rfl) (hv:(cs.drop j).take m=ds:=by exact rfl) (hl:ds.length=m:=by exact rfl) (hdn:Nat.ble (d + 1) n=true:=by exact rfl) (hc:takeB l bs i X B=true:=by kernel_rfl) (hBX:(B.all (X.contains ·))=true:=by kernel_rfl):DL prog l Mid (O_ w0 S M R D I) B (fuel + 1) bs a w:=zS i X hi rfl rfl hdn hf hS (λw H=>dd hf H hT k hx hk hv hl) h hc hBX
theorem W1 (i:Nat) (X:m_) (hf:Fr a n L) (hS:O_ w0 S M R D I w) (hT:LS prog T) (k j:Nat) (h:∀a',Fr a' n ((d,v)::L)->DL prog l Mid (O_ w0 S M R D I) B fuel (bs.set i true) a' w) {oo:Nat} (hi:l[i]?=some ⟨some d,.load T x,ty,pos,af,none⟩:=by exact rfl) (hx:ev L x=some (.pointer (some ⟨b,oo + j,none⟩)):=by exact rfl) (hk:I[k]?=some (f,MP.cells ⟨b,oo,none⟩ cs):=by exact rfl) (hv:cs[j]?=some v:=by exact rfl) (hdn:Nat.ble (d + 1) n=true:=by exact rfl) (hc:takeB l bs i X B=true:=by kernel_rfl) (hBX:(B.all (X.contains ·))=true:=by kernel_rfl):DL prog l Mid (O_ w0 S M R D I) B (fuel + 1) bs a w:=zS i X hi rfl rfl hdn hf hS (λw H=>xz hf H hT k j hx hk hv) h hc hBX
theorem zSJ (i:Nat) (X:m_) (hf:Fr a n L) (hS:O_ w0 S M R D I w) (hT:LA prog T m) (k j:Nat) (h:∀a',Fr a' n ((d,.agg ds.toArray)::L)->DL prog l Mid (O_ w0 S M R D I) B fuel (bs.set i true) a' w) {oo:Nat} (hi:l[i]?=some ⟨some d,.load T x,ty,pos,af,none⟩:=by exact rfl) (hx:ev L x=some (.pointer (some ⟨b,oo + j,none⟩)):=by exact rfl) (hk:I[k]?=some (f,MP.cells ⟨b,oo,none⟩ cs):=by exact rfl) (hv:(cs.drop j).take m=ds:=by exact rfl) (hl:ds.length=m:=by exact rfl) (hdn:Nat.ble (d + 1) n=true:=by exact rfl) (hc:takeB l bs i X B=true:=by kernel_rfl) (hBX:(B.all (X.contains ·))=true:=by kernel_rfl):DL prog l Mid (O_ w0 S M R D I) B (fuel + 1) bs a w:=zS i X hi rfl rfl hdn hf hS (λw H=>eI hf H hT k j hx hk hv hl) h hc hBX
variable {ops:Array Oper} {rest:List Oper}
theorem W0 {g e:Nat} {c:Bool} (hf:Fr a n L) (H:O_ w0 S M R D I w) (hT:LS prog T) (k:Nat) (h:∀a',Fr a' n ((d,v)::L)->wpList prog ops Q rest a' w) (hj:(ops[g]?).bind (·.dst)=some e:=by exact rfl) (hb:lk L e=some (.bool c):=by exact rfl) (hx:ev L x=some (.pointer (some ⟨b,j,none⟩)):=by exact rfl) (hk:M[k]?=some ⟨b,T',cs⟩:=by exact rfl) (hv:cs[j]?=some v:=by exact rfl) (hdn:d<n:=by decide):wpList prog ops Q (⟨some d,.load T x,ty,pos,af,some (g,c)⟩::rest) a w:=Q0 hf rfl hj hb (op_q hf (vC hf H hT k hx hk hv) rfl hdn h)
theorem wGN {g e:Nat} {c:Bool} (hf:Fr a n L) (H:O_ w0 S M R D I w) (hT:LA prog T m) (k:Nat) (h:∀a',Fr a' n ((d,.agg ds.toArray)::L)->wpList prog ops Q rest a' w) (hj:(ops[g]?).bind (·.dst)=some e:=by exact rfl) (hb:lk L e=some (.bool c):=by exact rfl) (hx:ev L x=some (.pointer (some ⟨b,j,none⟩)):=by exact rfl) (hk:M[k]?=some ⟨b,T',cs⟩:=by exact rfl) (hv:(cs.drop j).take m=ds:=by exact rfl) (hl:ds.length=m:=by exact rfl) (hdn:d<n:=by decide):wpList prog ops Q (⟨some d,.load T x,ty,pos,af,some (g,c)⟩::rest) a w:=Q0 hf rfl hj hb (op_q hf (dd hf H hT k hx hk hv hl) rfl hdn h)
theorem lI (k j:Nat) {ops:Array Oper} {rest:List Oper} {oo:Nat} (hf:Fr a n L) (H:O_ w0 S M R D I w) (hT:LS prog T) (h:∀a',Fr a' n ((d,v)::L)->wpList prog ops Q rest a' w) (hx:ev L x=some (.pointer (some ⟨b,oo + j,none⟩)):=by exact rfl) (hk:I[k]?=some (f,MP.cells ⟨b,oo,none⟩ cs):=by exact rfl) (hv:cs[j]?=some v:=by exact rfl) (hdn:d<n:=by decide):wpList prog ops Q (⟨some d,.load T x,ty,pos,af,none⟩::rest) a w:=U_ rfl (op_q hf (xz hf H hT k j hx hk hv) rfl hdn h)
theorem lJ_ (k j:Nat) {ops:Array Oper} {rest:List Oper} {oo:Nat} (hf:Fr a n L) (H:O_ w0 S M R D I w) (hT:LA prog T m) (h:∀a',Fr a' n ((d,.agg ds.toArray)::L)->wpList prog ops Q rest a' w) (hx:ev L x=some (.pointer (some ⟨b,oo + j,none⟩)):=by exact rfl) (hk:I[k]?=some (f,MP.cells ⟨b,oo,none⟩ cs):=by exact rfl) (hv:(cs.drop j).take m=ds:=by exact rfl) (hl:ds.length=m:=by exact rfl) (hdn:d<n:=by decide):wpList prog ops Q (⟨some d,.load T x,ty,pos,af,none⟩::rest) a w:=U_ rfl (op_q hf (eI hf H hT k j hx hk hv hl) rfl hdn h)
end
theorem sT (p q r:Nat) (is:m_) (p' q' r':Nat) (is':m_) {M' M2:List Blk} {R' R2:List Row} {D' D2:List DI} {I' I2:List (Bool×MP)} (H:O_ w0 S M R D I w) (h:O_ w0 S M' R' D' I' w->DL prog l Mid (λw=>O_ w0 S M' R' D' I' w) B fuel bs a w) (hM:gn p M=some M':=by exact rfl) (hR:gn q R=some R':=by exact rfl) (hD:gn r D=some D':=by exact rfl) (hI:pickO I is=some I':=by exact rfl) (hM':gn p' M'=some M2:=by exact rfl) (hR':gn q' R'=some R2:=by exact rfl) (hD':gn r' D'=some D2:=by exact rfl) (hI':pickO I' is'=some I2:=by exact rfl):DL prog l Mid (O_ w0 S M2 R2 D2 I2) B fuel bs a w:=strT (H.lk p q r is hM hR hD hI) (λw H=>H.lk p' q' r' is' hM' hR' hD' hI') h
theorem sU (p q r:Nat) (is:m_) {M':List Blk} {R':List Row} {D':List DI} {I':List (Bool×MP)} (H:O_ w0 S M R D I w) (h:O_ w0 S M' R' D' I' w->DL prog l Mid (λw=>O_ w0 S M' R' D' I' w) B fuel bs a w) (hM:gn p M=some M':=by exact rfl) (hR:gn q R=some R':=by exact rfl) (hD:gn r D=some D':=by exact rfl) (hI:pickO I is=some I':=by exact rfl):DL prog l Mid (λ_=>True) B fuel bs a w:=strT (H.lk p q r is hM hR hD hI) (λ_ _=>trivial) h
theorem q_ {A C:Prop} (p q r:Nat) (is:m_) {M':List Blk} {R':List Row} {D':List DI} {I':List (Bool×MP)} (H:O_ w0 S M R D I w) (k:O_ w0 S M' R' D' I' w->C) (hM:gn p M=some M':=by exact rfl) (hR:gn q R=some R':=by exact rfl) (hD:gn r D=some D':=by exact rfl) (hI:pickO I is=some I':=by exact rfl):(A->O_ w0 S M' R' D' I' w)/\C:=⟨λ_=>H.lk p q r is hM hR hD hI,k (H.lk p q r is hM hR hD hI)⟩
theorem j_ {p:Prop} {v u:Value} {w':World} (g:p->v=u) (hp:Below w.heap.size w w'/\p) (H:O_ w0 S M R D I w):v=u/\O_ w0 S M R D I w':=⟨g hp.2,H.keep hp.1⟩
theorem D_ {T:TypeId} {x y:Operand} {b j m:Nat} {T':TypeId} {cs vs:p_} (i:Nat) (hf:Fr a n L) (H:O_ w0 S M R D I w) (k:Nat) (hT:SZ prog T m) (h:∀w',O_ w0 S (M.set k ⟨b,T',cs.take j++vs++cs.drop (j + vs.length)⟩) R D I w'->(nb B (bs.set i true).toArray=true->S0 w')/\DL prog l Mid S0 B fuel (bs.set i true) a w') (hi:l[i]?=some ⟨none,.store T x y,ty,pos,af,none⟩:=by exact rfl) (hx:ev L x=some (.pointer (some ⟨b,j,none⟩)):=by exact rfl) (hy:ev L y=some v:=by exact rfl) (hv:v.cells=vs.toArray:=by exact rfl) (hk:M[k]?=some ⟨b,T',cs⟩:=by exact rfl) (h1:(vs.all Value.oneCell')=true:=by exact rfl) (hm:vs.length=m:=by exact rfl) (hlen:j + vs.length<=cs.length:=by exact M1 rfl) (hr:Region.ready .any l.toArray bs.toArray=[i]:=by kernel_rfl):DL prog l Mid S0 B (fuel + 1) bs a w:=nn i hi (gV hf H k hT hx hy hv hk h1 hm hlen h) hr
theorem O_.ld (H:O_ w0 S M R D I w) (j:Nat) {α:Type} [GoTy α] {F:m_} {cs:p_} {x:α} (hj:D[j]?=some ⟨F,MP.own F cs x⟩:=by exact rfl):O_ w0 S M R D ((true,MP.val cs x)::I) w:=H.lend j hj
theorem O_.fd (H:O_ w0 S M R D I w) (i:Nat) {d:DI} (hi:D[i]?=some d:=by exact rfl):O_ w0 S M R (d::D.eraseIdx i) I w:=H.frontD i hi
theorem O_.fr (H:O_ w0 S M R D I w) (i:Nat) {r:Row} (hi:R[i]?=some r:=by exact rfl):O_ w0 S M (r::R.eraseIdx i) D I w:=H.frontR i hi
theorem O_.ow (H:O_ w0 S M R D I w) (i:Nat) {α:Type} [GoTy α] {f:Bool} {E:TypeId} {A:c_} {cap:Nat} {xs:List α} (hi:R[i]?=some ⟨.sh f,E,A,cap,xs⟩:=by exact rfl) (hfl:GoTy.flat α=true:=by exact rfl):O_ w0 S M (R.set i ⟨.ow (List.replicate xs.length []),E,A,cap,xs⟩) D I w:=H.rowOwn i hfl hi
theorem O_.sh (H:O_ w0 S M R D I w) (i:Nat) {α:Type} [GoTy α] {Fs:List (m_)} {E:TypeId} {A:c_} {cap:Nat} {xs:List α} (hi:R[i]?=some ⟨.ow Fs,E,A,cap,xs⟩:=by exact rfl):O_ w0 S M (R.set i ⟨.sh true,E,A,cap,xs⟩) D I w:=H.rowSh i hi
theorem O_.wk (H:O_ w0 S M R D I w) (i:Nat) {α:Type} [GoTy α] {fr:Bool} {E:TypeId} {A:c_} {cap:Nat} {xs:List α} (hi:R[i]?=some ⟨.sh fr,E,A,cap,xs⟩:=by exact rfl):O_ w0 S M (R.set i ⟨.sh false,E,A,cap,xs⟩) D I w:=H.rowWeak i hi
theorem O_.fz (H:O_ w0 S M R D I w) (i:Nat) {r:Row} (hi:R[i]?=some r:=by exact rfl):O_ w0 S M (R.eraseIdx i) D ((r.k.fresh,MP.val [r.v] r.xs)::I) w:=H.freeze i hi
theorem O_.kp {w':World} (H:O_ w0 S M R D I w) (hk:Below w.heap.size w w'):O_ w0 S M R D I w':=H.keep hk
theorem O_.wb {w':World} (H:O_ w0 S M R D I w) (i:Nat) {b:Nat} {T:TypeId} {cs cs':p_} (hc:Chg w w' [b]) (hb:w'.heap[b]?=some (.cells cs'.toArray T (0,0))) (hi:M[i]?=some ⟨b,T,cs⟩:=by exact rfl):O_ w0 S (M.set i ⟨b,T,cs'⟩) R D I w':=H.wroteBox i hi hc hb
theorem O_.px {α:Type} [GoTy α] (H:O_ w0 S M R D I w) (k:Nat) {f:Bool} {A:c_} {c:Nat} {x y:List α} (e:y=x) (hi:I[k]?=some (f,MP.val [.slice A x.length c] x):=by exact rfl):O_ w0 S M R D ((f,MP.val [.slice A y.length c] y)::I) w:=H.pX k hi e
theorem Fr.li (hf:Fr a n L) (t:Nat) {b c:Bool} (hb:b=c) (h:lk L t=some (.bool b):=by exact rfl):Fr a n ((t,.bool c)::L):=hf.lit t h hb
theorem k_ {α:Type} [GoTy α] {z:α} {v u:Value} {w':World} {b:Nat} {S1 S2:p_->w_} {cs:p_} {x y:Np} {A:OA} {c:Nat} {f:Bool} {c0:List By} (g:∀{w:World} {S:w_},VR w S v z->v=u) (hp:Chg w w' [b]/\∃cs',w'.heap[b]?=some (.cells cs'.toArray 109 (0,0))/\GoTy.rep w' (S1 cs') cs' y/\(cs'[0]?=cs[0]?/\y.code=x.code)/\VR w' (S2 cs') v z) (H:O_ w0 S M R D I w) (i k:Nat) (h0:x.code=c0) (hi:M[i]?=some ⟨b,109,cs⟩:=by exact rfl) (hc:cs[0]?=some (.slice A x.code.length c):=by exact rfl) (hk:I[k]?=some (f,MP.val [.slice A x.code.length c] x.code):=by exact rfl):v=u/\y.code=c0/\O_ w0 S (M.set i ⟨b,109,Cc A c y⟩) R D ((f,MP.val [.slice A y.code.length c] y.code)::I) w':=by
 obtain⟨hch,cs',hbx,hr,⟨hx,hx2⟩,hs⟩:=hp
 obtain⟨A',c',rfl,hl⟩:=ud hr
 obtain⟨rfl,rfl⟩:=uv hx rfl hc
 exact⟨g hs,hx2.trans h0,(H.wb i hch hbx hi).px k hx2 hk⟩
end
variable {P:Program} {Q:Exit->r_} {a:Act} {w:World} {K:r_}
theorem xb {K':r_} {i:Nat} (h:Q .normal a w):(Code.exit i).wp P (Exit.then K (Exit.then K' (Exit.inBlock i Q))) a w:=wp_exit (kg (kg (Ab h)))
theorem aN {A B C:Prop} (k:C) (h:¬A:=by decide):(A->B)/\C:=⟨λx=>absurd x h,k⟩
theorem Ms (w:World) (S:w_):O_ ⟨w,[]⟩ S [] [] [] [] w:=O_.start ⟨w,[]⟩ S
theorem rV {fn:Func} {n:Nat} {L:g_} {w1:World} {S:w_} {M:List Blk} {R:List Row} {D:List DI} {I:List (Bool×MP)} {Φ:Value->t_} {t:Nat} {v:Value} (hf:Fr a n L) (H:O_ ⟨w1,[]⟩ S M R D I w) (h:Φ v w) (hres:fn.results=#[.tmp t]:=by exact rfl) (hv:lk L t=some v:=by exact rfl):bodyPost prog fn (λe w'=>∃v,e=.returned v/\(Below w1.heap.size w1 w'/\Φ v w')) .ret a w:=rT hf ⟨_,rfl,H.bel,h⟩ hres hv
theorem ob {ops:Array Oper} (h:K a w):wpList P ops (Exit.then K Q) [] a w:=uc (ua h)
section
variable {l:List Oper} {Mid:r_} {S:t_} {a:Act} {w:World} {B:m_} {fuel:Nat} {bs:List Bool} {n:Nat} {L:g_}
theorem o_ (i j p q p' q':Nat) {oi oj:Oper} (h:oi.wp prog a w (λa' w'=>(nb B (Bt p q).toArray=true->S w')/\DL prog l Mid S B fuel (Bt p q) a' w') (only Mid)) (h':oj.wp prog a w (λa' w'=>(nb B (Bt p' q').toArray=true->S w')/\DL prog l Mid S B fuel (Bt p' q') a' w') (only Mid)) (hi:l[i]?=some oi:=by exact rfl) (hj:l[j]?=some oj:=by exact rfl) (hr:Region.ready .any l.toArray bs.toArray=[i,j]:=by kernel_rfl) (hgi:oi.guard=none:=by exact rfl) (hbi:bs.set i true=Bt p q:=by exact rfl) (hgj:oj.guard=none:=by exact rfl) (hbj:bs.set j true=Bt p' q':=by exact rfl):DL prog l Mid S B (fuel + 1) bs a w:=on2 hr hi hgi hbi hj hgj hbj h h'
theorem z_ {d:Nat} {op:Op} {v:Value} {t:TypeId} {ps:String} {af:Array Edge} (i:Nat) (hf:Fr a n L) (h:∀a',Fr a' n ((d,v)::L)->DL prog l Mid S B fuel (bs.set i true) a' w) (hi:l[i]?=some ⟨some d,op,t,ps,af,none⟩:=by exact rfl) (hv:pOp tab L op=some v:=by exact rfl) (hdn:Nat.ble (d + 1) n=true:=by exact rfl) (hc:takeB l bs i [] B=true:=by kernel_rfl) (hb:¬nb B bs.toArray=true:=by decide):DL prog l Mid S B (fuel + 1) bs a w:=tp i hi hdn hf hc (λh=>absurd h hb) hv h
end
theorem n_ {σ:Type} {id:Nat} {c:Code} {Q:Exit->r_} {a:Act} {w:World} {P:Program} (Inv:σ->r_) (g:Nat->σ->Option σ) (s0:σ) (k0:Nat) {o:σ} (hL:g k0 s0=some o) (hI:Inv s0 a w)
 (round:∀k s a w,g (k + 1) s=some o->Inv s a w->c.wp P (Exit.then (λa' w'=>∃s',g k s'=some o/\Inv s' a' w') (Exit.inBlock id (Exit.then (λa w=>∃s,o=s/\Inv s a w) Q))) a w) (after:∀a w,(∃s,o=s/\Inv s a w)->Q .normal a w) (h0:∀s,¬g 0 s=some o:=by intro s h; cases h):(Code.block id (.loop c)).wp P Q a w:=vz Inv (λk s=>g k s=some o) (λs=>o=s) s0 k0 hL hI h0 round after
theorem v_ {σ τ:Type} {id:Nat} {c:Code} {Q:Exit->r_} {a:Act} {w:World} {P:Program} (Inv:σ->r_) (g:Nat->σ->Option (Out σ τ)) (s0:σ) (k0:Nat) {o:Out σ τ} (hL:g k0 s0=some o) (hI:Inv s0 a w)
 (round:∀k s a w,g (k + 1) s=some o->Inv s a w->c.wp P (Exit.then (λa' w'=>∃s',g k s'=some o/\Inv s' a' w') (Exit.inBlock id (Exit.then (λa w=>∃s,o=Out.next s/\Inv s a w) Q))) a w) (after:∀a w,(∃s,o=Out.next s/\Inv s a w)->Q .normal a w) (h0:∀s,¬g 0 s=some o:=by intro s h; cases h):(Code.block id (.loop c)).wp P Q a w:=vz Inv (λk s=>g k s=some o) (λs=>o=Out.next s) s0 k0 hL hI h0 round after
theorem Fr.pq {a:Act} {n:Nat} {L:g_} (hf:Fr a n L) (ts:m_) {L':g_} (h:tT L ts=some L'):Fr a n L':=hf.prune ts h
end AT
