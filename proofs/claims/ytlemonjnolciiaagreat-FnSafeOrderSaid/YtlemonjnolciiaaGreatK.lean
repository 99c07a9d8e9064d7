/- Shorter words for the generated walks: what is closed is told by itself. -/
import Derived.Test.YtlemonjnolciiaaGreatT
set_option linter.unusedVariables false
set_option maxRecDepth 100000
namespace AT
open Go Go.RowKit Go.Proofs
section
variable {Q:Exit→Act→World→Prop} {a:Act} {w:World} {n:Nat} {L:List (Nat×Value)} {dst:Option Tmp} {ty:TypeId} {pos:String} {af:Array Edge} {K:Act→World→Prop} {d:Nat}
variable {w0:Base} {S:Nat→Prop} {M:List Blk} {R:List Row} {D:List DI} {I:List (Bool×MP)} {S0:World→Prop} {B:List Nat} {bs:List Bool} {fuel:Nat} {Mid:Act→World→Prop} {o:Oper} {v:Value}
theorem Mem.rt (H:Mem w0 S M R D I w) (i:Nat) {α:Type} [GoTy α] {cs:List Value} {x:α} {f:Bool} (hi:I[i]?=some (f,MP.val cs x)):GoTy.rep w (fun _=>True) cs x:=ggT (H.get i hi)
theorem pz {ops:List Oper} (k:Nat) {l:List Oper} {L':List (Nat×Value)} {l':List Oper} (hf:Fr a n L) (hk:∀ a',Fr a' n L'→wpList Tryz.prog ops.toArray Q l' a' w) (hd:ghr n l=true:=by exact rfl) (h:pRun tab ops k L l=(L',l'):=by exact rfl):wpList Tryz.prog ops.toArray Q l a w:=pr k hf hd h hk
theorem oq {ops:Array Oper} {o:Oper} {rest:List Oper} {d:Nat} {v:Value} (hf:Fr a n L) (hr:(execOp a.eval o).run Tryz.prog w=.ok (.value v) w) (k:∀ a',Fr a' n ((d,v)::L)→wpList Tryz.prog ops Q rest a' w) (hg:o.guard=none:=by exact rfl) (hd:o.dst=some d:=by exact rfl) (hdn:d<n:=by decide):wpList Tryz.prog ops Q (o::rest) a w:=wl0 hg (op_q hf hr hd hdn k)
theorem oc {ops:Array Oper} {rest:List Oper} {f:FuncId} {d:Nat} {xs:List Operand} {ats:Array TypeId} {vs:List Value} (hf:Fr a n L) (hk:CL Tryz.prog f) {Post:Value→World→Prop} (hc:Calls Tryz.prog f vs.toArray w fun e w'=>∃ v,e=.returned v∧Post v w') (k:∀ v w' a',Post v w'→Fr a' n ((d,v)::L)→wpList Tryz.prog ops Q rest a' w') (hxs:evs L xs=some vs:=by exact rfl) (hdn:d<n:=by decide):wpList Tryz.prog ops Q (⟨some d,.call ⟨.value (.func f),xs.toArray,ats⟩,ty,pos,af,none⟩::rest) a w:=wl0 rfl (gei hf hk hxs hdn hc k)
theorem fxc {α:Type} {A:Option Addr} {c:Nat} {x y:List α} (e:x=y):some (Value.slice A x.length c)=some (Value.slice A y.length c):=by rw [e]
theorem oi {α:Type} {x y:α} (h:some x=some y):x=y:=Option.some.inj h
theorem bs_ {α β:Type} {x:Option α} {f:α→Option β} {r:β} (h:x.bind f=some r):∃ a,x=some a∧f a=some r:=bind_some h
theorem wer {ops:Array Oper} (h:Q .ret a w):wpList Tryz.prog ops (Exit.then ((Code.ret).wp Tryz.prog Q) Q) [] a w:=ub (ua (wp_ret h))
theorem dw {id:Nat} {l:List Oper} (B:List Nat) (n:Nat) (h:∀ w1,Below w.heap.size w w1→DL Tryz.prog l (fun a w=>Q .normal a w) (fun _=>True) B n (List.replicate n false) a w1) (hn:l.length=n:=by exact rfl):(Code.region id l.toArray true).wp Tryz.prog Q a w:=gjz B (Checked.mixed Tryz.checked) (by rw [hn]) hn h
theorem nn {l:List Oper} (i:Nat) (hi:l[i]?=some o) (h:o.wp Tryz.prog a w (fun a' w'=>(nb B (bs.set i true).toArray=true→S0 w')∧DL Tryz.prog l Mid S0 B fuel (bs.set i true) a' w') (only Mid)) (hr:Region.ready .any l.toArray bs.toArray=[i]:=by kernel_rfl) (hg:o.guard=none:=by exact rfl):DL Tryz.prog l Mid S0 B (fuel + 1) bs a w:=n1 i hr hi hg h
theorem ws {id i:Nat} {l:List Oper} {y z:Code} (h:wpList Tryz.prog l.toArray (Exit.then (z.wp Tryz.prog (Exit.inBlock i (Exit.then (y.wp Tryz.prog Q) Q))) (Exit.inBlock i (Exit.then (y.wp Tryz.prog Q) Q))) l a w):Code.skip.wp Tryz.prog (Exit.then ((Code.seq (.block i (.seq (.region id l.toArray false) z)) y).wp Tryz.prog Q) Q) a w:=wp_skip (ua (sq (wp_block (sq (reg h)))))
theorem lB (i:Nat) {ops:Array Oper} {rest:List Oper} {T:TypeId} {x:Operand} {b j:Nat} {T':TypeId} {cs:List Value} {v:Value} (hf:Fr a n L) (H:Mem w0 S M R D I w) (hT:LS Tryz.prog T) (k:∀ a',Fr a' n ((d,v)::L)→wpList Tryz.prog ops Q rest a' w) (hx:ev L x=some (.pointer (some ⟨b,j,none⟩)):=by exact rfl) (hi:M[i]?=some ⟨b,T',cs⟩:=by exact rfl) (hv:cs[j]?=some v:=by exact rfl) (hdn:d<n:=by decide):wpList Tryz.prog ops Q (⟨some d,.load T x,ty,pos,af,none⟩::rest) a w:=wl0 rfl (op_q hf (ue hf H hT i hx hi hv) rfl hdn k)
theorem lN (i:Nat) {ops:Array Oper} {rest:List Oper} {T:TypeId} {m:Nat} {x:Operand} {b j:Nat} {T':TypeId} {cs ds:List Value} (hf:Fr a n L) (H:Mem w0 S M R D I w) (hT:LA Tryz.prog T m) (k:∀ a',Fr a' n ((d,.agg ds.toArray)::L)→wpList Tryz.prog ops Q rest a' w) (hx:ev L x=some (.pointer (some ⟨b,j,none⟩)):=by exact rfl) (hi:M[i]?=some ⟨b,T',cs⟩:=by exact rfl) (hd:(cs.drop j).take m=ds:=by exact rfl) (hl:ds.length=m:=by exact rfl) (hdn:d<n:=by decide):wpList Tryz.prog ops Q (⟨some d,.load T x,ty,pos,af,none⟩::rest) a w:=wl0 rfl (op_q hf (ul hf H hT i hx hi hd hl) rfl hdn k)
theorem bx {id:Nat} {rest:List Oper} {y:Code} {T:TypeId} {x:Operand} {v:Value} {cs:List Value} (hf:Fr a n L) (H:Mem w0 S M R D I w) (k:∀ b a' w',Fr a' n ((d,.pointer (some ⟨b,0,none⟩))::L)→Mem w0 S (⟨b,T,cs⟩::M) R D I w'→wpList Tryz.prog (⟨some d,.box T x,ty,pos,af,none⟩::rest).toArray (Exit.then (y.wp Tryz.prog Q) Q) rest a' w') (hx:ev L x=some v:=by exact rfl) (hcs:v.cells=cs.toArray:=by exact rfl) (hdn:d<n:=by decide):(Code.seq (.region id (⟨some d,.box T x,ty,pos,af,none⟩::rest).toArray false) y).wp Tryz.prog Q a w:=sq (reg (wl0 rfl (xl hf H hx hcs hdn k)))
theorem rT {fn:Func} {Rr:Ending→World→Prop} {t:Nat} {v:Value} (hf:Fr a n L) (hR:Rr (.returned v) w) (hres:fn.results=#[.tmp t]:=by exact rfl) (h:lk L t=some v:=by exact rfl):bodyPost Tryz.prog fn Rr .ret a w:=xi hf hres (uE hf h) hR
theorem oC {g:Option (Nat×Bool)} {f:FuncId} {xs:List Operand} {ats:Array TypeId} {vs:List Value} (hf:Fr a n L) (hk:CL Tryz.prog f) {Post:Value→World→Prop} (hc:Calls Tryz.prog f vs.toArray w fun e w'=>∃ v,e=.returned v∧Post v w') (k:∀ v w' a',Post v w'→Fr a' n ((d,v)::L)→K a' w') (hxs:evs L xs=some vs:=by exact rfl) (hdn:d<n:=by decide):Oper.wp Tryz.prog ⟨some d,.call ⟨.value (.func f),xs.toArray,ats⟩,ty,pos,af,g⟩ a w K Q:=gei hf hk hxs hdn hc k
theorem bl {g:Option (Nat×Bool)} {α:Type} [GoTy α] {T:TypeId} {m:Nat} {ps:List (Nat×Operand)} {qs:List (Nat×Value)} (hf:Fr a n L) (H:Mem w0 S M R D I w) (E:TypeId) (xs:List α) (cells:List Value) (hel:∀ i x,xs[i]?=some x→(Kd.sh true).holds w (St w0 S M R D (Kd.sh true).fresh) i (yu α cells i) x) (k:∀ A a' w',Fr a' n ((d,.slice A m m)::L)→Mem w0 S M (⟨.sh true,E,A,m,xs⟩::R) D I w'→K a' w') (hp0:evp L ps=some qs:=by exact rfl) (hb:∀ w,(Instr.buildSlice T m qs.toArray).run Tryz.prog w=.ok (.slice (some ⟨w.heap.size,0,none⟩) m m) (w.alloc (.cells cells.toArray E)):=by intro w; kernel_rfl) (hm:xs.length=m:=by exact rfl) (hmax:m≤1099511627776:=by decide) (hlen:cells.length=m * GoTy.n α:=by exact rfl) (hdn:d<n:=by decide):Oper.wp Tryz.prog ⟨some d,.buildSlice T m ps.toArray,ty,pos,af,g⟩ a w K Q:=zv hf H (.sh true) rfl E xs cells hp0 hb hm hmax hlen trivial hel hdn k
theorem dk {l:List Oper} (h:Mid a w) (hr:Region.ready .any l.toArray bs.toArray=[]:=by kernel_rfl):DL Tryz.prog l Mid S0 B fuel bs a w:=dn hr h
theorem aS {A B C:Prop} (h:B) (k:C):(A→B)∧C:=⟨fun _=>h,k⟩
theorem aL {ops:Array Oper} {rest:List Oper} {I:List (Bool×MP)} {T:TypeId} {z:Value} {cs:List Value} (hf:Fr a n L) (H:Mem w0 S M R D I w) (hz:ZV Tryz.prog T z) (k:∀ b a' w',Fr a' n ((d,.pointer (some ⟨b,0,none⟩))::L)→Mem w0 S (⟨b,T,cs⟩::M) R D I w'→wpList Tryz.prog ops Q rest a' w') (hcs:z.cells=cs.toArray:=by exact rfl) (hdn:d<n:=by decide):wpList Tryz.prog ops Q (⟨some d,.alloc T,ty,pos,af,none⟩::rest) a w:=wl0 rfl (vc hf H hz hcs hdn k)
theorem sB (i:Nat) {ops:Array Oper} {rest:List Oper} {I:List (Bool×MP)} {T:TypeId} {x y:Operand} {b j m:Nat} {T':TypeId} {cs vs:List Value} {v:Value} (hf:Fr a n L) (H:Mem w0 S M R D I w) (hT:SZ Tryz.prog T m) (k:∀ w',Mem w0 S (M.set i ⟨b,T',cs.take j++vs++cs.drop (j + vs.length)⟩) R D I w'→wpList Tryz.prog ops Q rest a w')
    (hx:ev L x=some (.pointer (some ⟨b,j,none⟩)):=by exact rfl) (hy:ev L y=some v:=by exact rfl) (hv:v.cells=vs.toArray:=by exact rfl) (hi:M[i]?=some ⟨b,T',cs⟩:=by exact rfl) (h1:(vs.all Value.oneCell')=true:=by exact rfl) (hm:vs.length=m:=by exact rfl) (hlen:j + vs.length≤cs.length:=by exact nle rfl):wpList Tryz.prog ops Q (⟨none,.store T x y,ty,pos,af,none⟩::rest) a w:=wl0 rfl (uh hf H i hT hx hy hv hi h1 hm hlen k)
section
variable {l:List Oper} {op:Op} {t:TypeId} {ps:String}
theorem zS (i:Nat) (X:List Nat) (hi:l[i]?=some o) (hd:o.dst=some d) (hg:o.guard=none) (hdn:Nat.ble (d + 1) n=true) (hf:Fr a n L) (hS:S0 w) (hy:∀ w,S0 w→(execOp a.eval o).run Tryz.prog w=.ok (.value v) w) (h:∀ a',Fr a' n ((d,v)::L)→DL Tryz.prog l Mid S0 B fuel (bs.set i true) a' w) (hc:takeB l bs i X B=true:=by kernel_rfl) (hBX:(B.all (X.contains ·))=true:=by kernel_rfl):DL Tryz.prog l Mid S0 B (fuel + 1) bs a w:=tS i X hi hd hg hdn hf hc hBX hS hy h
theorem zP (i:Nat) (hi:l[i]?=some o) (hd:o.dst=some d) (hg:o.guard=none) (hdn:Nat.ble (d + 1) n=true) (hf:Fr a n L) (hS:S0 w) (hy:∀ w,(execOp a.eval o).run Tryz.prog w=.ok (.value v) w) (h:∀ a',Fr a' n ((d,v)::L)→DL Tryz.prog l Mid S0 B fuel (bs.set i true) a' w) (hc:takeB l bs i [] B=true:=by kernel_rfl):DL Tryz.prog l Mid S0 B (fuel + 1) bs a w:=tP i hi hd hg hdn hf hc (fun _=>hS) hy h
theorem zp (i:Nat) (hf:Fr a n L) (hS:S0 w) (h:∀ a',Fr a' n ((d,v)::L)→DL Tryz.prog l Mid S0 B fuel (bs.set i true) a' w) (hi:l[i]?=some ⟨some d,op,t,ps,af,none⟩:=by exact rfl) (hv:pOp tab L op=some v:=by exact rfl) (hdn:Nat.ble (d + 1) n=true:=by exact rfl) (hc:takeB l bs i [] B=true:=by kernel_rfl):DL Tryz.prog l Mid S0 B (fuel + 1) bs a w:=tp i hi hdn hf hc (fun _=>hS) hv h
theorem zg (i:Nat) {j e:Nat} {b:Bool} (hf:Fr a n L) (hS:S0 w) (h:∀ a',Fr a' n ((d,v)::L)→DL Tryz.prog l Mid S0 B fuel (bs.set i true) a' w) (hi:l[i]?=some ⟨some d,op,t,ps,af,some (j,b)⟩:=by exact rfl) (hj:(l[j]?).bind (·.dst)=some e:=by exact rfl) (hb:lk L e=some (.bool b):=by exact rfl) (hv:pOp tab L op=some v:=by exact rfl) (hdn:Nat.ble (d + 1) n=true:=by exact rfl) (hc:takeB l bs i [] B=true:=by kernel_rfl):DL Tryz.prog l Mid S0 B (fuel + 1) bs a w:=tpg i hi hj hb hdn hf hc (fun _=>hS) hv h
theorem zV (i:Nat) {j e:Nat} {b:Bool} (hf:Fr a n L) (hS:S0 w) (h:∀ a',Fr a' n ((d,undef)::L)→DL Tryz.prog l Mid S0 B fuel (bs.set i true) a' w) (hi:l[i]?=some o:=by exact rfl) (hd:o.dst=some d:=by exact rfl) (hg:o.guard=some (j,b):=by exact rfl) (hj:(l[j]?).bind (·.dst)=some e:=by exact rfl) (hv:lk L e=some undef:=by exact rfl) (hdn:Nat.ble (d + 1) n=true:=by exact rfl) (hc:takeB l bs i [] B=true:=by kernel_rfl):DL Tryz.prog l Mid S0 B (fuel + 1) bs a w:=tUU i hi hd hg hj hv hdn hf hc (fun _=>hS) h
theorem zU (i:Nat) {j e:Nat} {b c:Bool} (hf:Fr a n L) (hS:S0 w) (h:∀ a',Fr a' n ((d,undef)::L)→DL Tryz.prog l Mid S0 B fuel (bs.set i true) a' w) (hi:l[i]?=some o:=by exact rfl) (hd:o.dst=some d:=by exact rfl) (hg:o.guard=some (j,b):=by exact rfl) (hj:(l[j]?).bind (·.dst)=some e:=by exact rfl) (hv:lk L e=some (.bool c):=by exact rfl) (hne:(c==b)=false:=by exact rfl) (hdn:Nat.ble (d + 1) n=true:=by exact rfl) (hc:takeB l bs i [] B=true:=by kernel_rfl):DL Tryz.prog l Mid S0 B (fuel + 1) bs a w:=tU i hi hd hg hj hv hne hdn hf hc (fun _=>hS) h
end
abbrev TT:Nat→Prop:=fun _=>True
theorem ib {R:Type} {c:Operand} {x y:Code} {b:Bool} {p q r:R} (h:(if b=true then p else q)=r) (hf:Fr a n L) (h1:b=true→p=r→x.wp Tryz.prog Q a w) (h2:b=false→q=r→y.wp Tryz.prog Q a w) (hc:ev L c=some (.bool b):=by exact rfl):(Code.cond c x y).wp Tryz.prog Q a w:=iteB h (fun e e'=>cd_t hf hc e (h1 e e')) fun e e'=>cd_f hf hc e (h2 e e')
def geS {α:Type _}:Nat→List α→Option (List α)
  | _,[]=>some []
  | m,x::r=>match geS (m / 2) r with
    | some q=>bif Nat.beq (m % 2) 1 then some (x::q) else some q
    | none=>none
def gkI {α:Type _}:Nat→List α→List Bool
  | _,[]=>[]
  | m,_::r=>Nat.beq (m % 2) 1::gkI (m / 2) r
theorem gaB {α:Type _}:∀ (m:Nat) (l q:List α),geS m l=some q→maskO (gkI m l) l=some q
  | _,[],_,h=>h
  | m,x::r,q,h=>by
    unfold geS at h
    cases e:geS (m / 2) r with
    | none=>rw [e] at h; cases h
    | some p =>
      rw [e] at h
      have ih:=gaB (m / 2) r p e
      unfold gkI
      cases hb:Nat.beq (m % 2) 1
      · rw [hb] at h; unfold maskO; exact ih.trans h
      · rw [hb] at h; unfold maskO; rw [ih]; exact h
def kIx:Nat→Nat→Nat→List Nat
  | _,0,_=>[]
  | m,n + 1,i=>bif Nat.beq (m % 2) 1 then i::kIx (m / 2) n (i + 1) else kIx (m / 2) n (i + 1)
theorem Mem.lk (H:Mem w0 S M R D I w) (bm br bd:Nat) (is:List Nat) {M':List Blk} {R':List Row} {D':List DI} {I':List (Bool×MP)} (hM:geS bm M=some M':=by exact rfl) (hR:geS br R=some R':=by exact rfl) (hD:geS bd D=some D':=by exact rfl) (hI:pickO I is=some I':=by exact rfl):Mem w0 S M' R' D' I' w:=H.let _ _ _ is (gaB _ _ _ hM) (gaB _ _ _ hR) (gaB _ _ _ hD) hI
theorem Mem.lm (H:Mem w0 S M R D I w) (bm br bd n m:Nat) {M':List Blk} {R':List Row} {D':List DI} {I':List (Bool×MP)} (hM:geS bm M=some M':=by exact rfl) (hR:geS br R=some R':=by exact rfl) (hD:geS bd D=some D':=by exact rfl) (hI:pickO I (kIx m n 0)=some I':=by exact rfl):Mem w0 S M' R' D' I' w:=H.let _ _ _ _ (gaB _ _ _ hM) (gaB _ _ _ hR) (gaB _ _ _ hD) hI
theorem Fr.pn (hf:Fr a n L) (ts:List Nat) {L':List (Nat×Value)} (h:gh8 L ts=some L':=by exact rfl):Fr a n L':=hf.prune ts h
theorem en {f:FuncId} {fn:Func} {c:Code} {args:List Value} {Rr:Ending→World→Prop} (hF:Tryz.prog.funcs[f]?=some fn) (h:∀ a,Fr a n L→c.wp Tryz.prog (bodyPost Tryz.prog fn Rr) a w) (hb:fn.body=some c:=by exact rfl) (hn:fn.ntmps=n:=by exact rfl) (hl:args.length≤n:=by exact nle rfl) (hL:(args.zipIdx.map fun p=>(p.2,p.1))=L:=by exact rfl):Calls Tryz.prog f args.toArray w Rr:=enter hF hb hn hl hL h
theorem sqz {id:Nat} {l:List Oper} {y:Code} (h:wpList Tryz.prog l.toArray (Exit.then (y.wp Tryz.prog Q) Q) l a w):(Code.seq (.region id l.toArray false) y).wp Tryz.prog Q a w:=sq (reg h)
theorem wr {id:Nat} {l:List Oper} {y:Code} {ops:Array Oper} (h:wpList Tryz.prog l.toArray (Exit.then (y.wp Tryz.prog Q) Q) l a w):wpList Tryz.prog ops (Exit.then ((Code.seq (.region id l.toArray false) y).wp Tryz.prog Q) Q) [] a w:=ub (ua (sq (reg h)))
theorem we {x y:Code} {ops:Array Oper} (h:x.wp Tryz.prog (Exit.then (y.wp Tryz.prog Q) Q) a w):wpList Tryz.prog ops (Exit.then ((Code.seq x y).wp Tryz.prog Q) Q) [] a w:=ub (ua (sq h))
end
section
variable {w w' w1:World} {w0:Base} {S S1:Nat→Prop} {M:List Blk} {R:List Row} {D:List DI} {I:List (Bool×MP)} {α β γ:Type} [GoTy α] [GoTy β] [GoTy γ] {cs cs' cs'':List Value} {xs:List α} {ys:List β} {zs':List γ} {F F' F'':List Nat}
theorem eB {b:Nat} {T:TypeId} {bs:List Value} {f:Bool} (i:Nat) (h:lrep w (St w0 S M R D f) cs xs) (hi:M[i]?=some ⟨b,T,bs⟩:=by exact rfl):lrep w (St w0 S [⟨b,T,bs⟩] [] [] f) cs xs:=gjf (M:=M) (i:=i) hi (α:=List α) h
theorem Mem.pT (H:Mem w0 S M R D I w) (h:lrep w (St w0 S M R D true) cs xs):Mem w0 S M R D ((true,MP.val cs xs)::I) w:=H.push _ h
theorem Mem.pF (H:Mem w0 S M R D I w) (h:lrep w (St w0 S M R D false) cs xs):Mem w0 S M R D ((false,MP.val cs xs)::I) w:=H.push _ h
theorem Mem.pA (H:Mem ⟨w1,[]⟩ S M R D I w) (h:lrep w1 S cs xs):Mem ⟨w1,[]⟩ S M R D ((false,MP.val cs xs)::I) w:=H.pushArg (MP.val cs xs) h
theorem Mem.pB {b:Nat} (H:Mem ⟨w1,[b]⟩ S M R D I w) (hS:¬S b) (h:lrep w1 S cs xs):Mem ⟨w1,[b]⟩ S M R D ((false,MP.val cs xs)::I) w:=H.argB (by simpa using hS) (p:=MP.val cs xs) h
theorem Mem.pX (H:Mem w0 S M R D I w) (k:Nat) {f:Bool} {A:Option Addr} {c:Nat} {x y:List α} (hi:I[k]?=some (f,MP.val [.slice A x.length c] x)) (e:y=x):Mem w0 S M R D ((f,MP.val [.slice A y.length c] y)::I) w:=by subst e; exact H.push _ (H.get k hi)
theorem Mem.rF (H:Mem w0 S M R D I w) (h:lrep w' (St ⟨w,[]⟩ S1 [] [] [] true) cs xs):lrep w' (St w0 S M R D true) cs xs:=H.resF (f:=MP.val cs xs) h
theorem Mem.ends1 {d:DI} (H:Mem ⟨w1,[]⟩ S M R (d::D) I w):New w1 w d.F:=by have h:=H.ends (X:=[d]); simpa using h
theorem Mem.ends2 {d e:DI} (H:Mem ⟨w1,[]⟩ S M R (d::e::D) I w):New w1 w (d.F++e.F):=by have h:=H.ends (X:=[d,e]); simpa using h
theorem Mem.ends3 {d e g:DI} (H:Mem ⟨w1,[]⟩ S M R (d::e::g::D) I w):New w1 w (d.F++(e.F++g.F)):=by have h:=H.ends (X:=[d,e,g]); simpa using h
theorem Mem.endsB1 {b:Nat} {T:TypeId} {d:DI} (H:Mem ⟨w1,[b]⟩ S M R (d::D) I w) (i:Nat) (hi:M[i]?=some ⟨b,T,cs⟩):New w1 w d.F:=by have h:=H.endsB (X:=[d]) i hi; simpa using h
theorem Mem.endsB2 {b:Nat} {T:TypeId} {d e:DI} (H:Mem ⟨w1,[b]⟩ S M R (d::e::D) I w) (i:Nat) (hi:M[i]?=some ⟨b,T,cs⟩):New w1 w (d.F++e.F):=by have h:=H.endsB (X:=[d,e]) i hi; simpa using h
theorem Mem.aO1 (H:Mem w0 S M R D I w) (hb:Below w.heap.size w w') (hN:New w w' F) (h:lown w' F cs xs):Mem w0 S M R (⟨F,MP.own F cs xs⟩::D) I w':=H.addOwn hb (X:=[⟨F,MP.own F cs xs⟩]) (by simpa using hN.1) (ps1 h ps0) (by simpa using hN.2)
theorem Mem.aO2 (H:Mem w0 S M R D I w) (hb:Below w.heap.size w w') (hN:New w w' (F++F')) (h:lown w' F cs xs) (h':lown w' F' cs' ys):Mem w0 S M R (⟨F,MP.own F cs xs⟩::⟨F',MP.own F' cs' ys⟩::D) I w':=H.addOwn hb (X:=[⟨F,MP.own F cs xs⟩,⟨F',MP.own F' cs' ys⟩]) (by simpa using hN.1) (ps1 h (ps1 h' ps0)) (by simpa using hN.2)
theorem Mem.aO3 (H:Mem w0 S M R D I w) (hb:Below w.heap.size w w') (hN:New w w' (F++(F'++F''))) (h:lown w' F cs xs) (h':lown w' F' cs' ys) (h'':lown w' F'' cs'' zs'):Mem w0 S M R (⟨F,MP.own F cs xs⟩::⟨F',MP.own F' cs' ys⟩::⟨F'',MP.own F'' cs'' zs'⟩::D) I w':=H.addOwn hb (X:=[⟨F,MP.own F cs xs⟩,⟨F',MP.own F' cs' ys⟩,⟨F'',MP.own F'' cs'' zs'⟩]) (by simpa using hN.1) (ps1 h (ps1 h' (ps1 h'' ps0))) (by simpa using hN.2)
theorem Mem.bO1 (H:Mem w0 S M R D I w) (i:Nat) {b:Nat} {T:TypeId} {c0 c1:List Value} (hi:M[i]?=some ⟨b,T,c0⟩) (hc:Chg w w' [b]) (hb:w'.heap[b]?=some (.cells c1.toArray T (0,0))) (hN:New w w' F) (h:lown w' F cs xs):Mem w0 S (M.set i ⟨b,T,c1⟩) R (⟨F,MP.own F cs xs⟩::D) I w':=H.wroteBoxO i hi hc hb (X:=[⟨F,MP.own F cs xs⟩]) (by simpa using hN.1) (ps1 h ps0) (by simpa using hN.2)
theorem Mem.bO2 (H:Mem w0 S M R D I w) (i:Nat) {b:Nat} {T:TypeId} {c0 c1:List Value} (hi:M[i]?=some ⟨b,T,c0⟩) (hc:Chg w w' [b]) (hb:w'.heap[b]?=some (.cells c1.toArray T (0,0))) (hN:New w w' (F++F')) (h:lown w' F cs xs) (h':lown w' F' cs' ys):Mem w0 S (M.set i ⟨b,T,c1⟩) R (⟨F,MP.own F cs xs⟩::⟨F',MP.own F' cs' ys⟩::D) I w':=H.wroteBoxO i hi hc hb (X:=[⟨F,MP.own F cs xs⟩,⟨F',MP.own F' cs' ys⟩]) (by simpa using hN.1) (ps1 h (ps1 h' ps0)) (by simpa using hN.2)
end
end AT
