/- Function values: made, checked, called; what a function's captured variables hold. -/
import Derived.Test.YtlemonjnolciiaaGreatAtX
import Derived.Test.YtlemonjnolciiaaGreatAtR
import Derived.Laws.BytesString
import Derived.Lib.AppendZerosOnto
import Derived.Lib.Overlaps
import Derived.Maps.OwnOps
import Derived.Maps.Views
set_option linter.unusedSimpArgs false
set_option linter.unusedVariables false
namespace AT
open Go Go.RowKit
section
variable {P:Program} {Q:Exit→Act→World→Prop} {a:Act} {w:World} {n:Nat} {L:List (Nat×Value)} {dst:Option Tmp} {ty:TypeId} {pos:String} {af:Array Edge} {g:Option (Nat×Bool)} {K:Act→World→Prop} {d:Nat}
variable {w0:Base} {S:Nat→Prop} {M:List Blk} {R:List Row} {D:List DI} {I:List (Bool×MP)}
theorem yE (hf:Fr a n L) {fn:Fn} {xs:List Operand} {vs:List Value} (hx:evs L xs=some vs) :
    (execOp a.eval ⟨dst,.makeFunc fn #[] xs.toArray,ty,pos,af,g⟩).run P w=.ok (.value (.func fn #[] vs.toArray)) w:=by
 simp [execOp,Instr.makeFunc,hf.evals hx]
theorem bB (hf:Fr a n L) {f:FuncId} (hk:CL P f) {x:Operand} {ca:List Value} (hx:ev L x=some (.func (.func f) #[] ca.toArray)) {xs:List Operand} {ats:Array TypeId} {vs:List Value} (hxs:evs L xs=some vs) (hdn:d<n) {Post:Value→World→Prop}
    (hc:Calls P f (vs++ca).toArray w λe w'=>∃v,e=.returned v∧Post v w') (k:∀v w' a',Post v w'→Fr a' n ((d,v)::L)→K a' w') :
    Oper.wp P ⟨some d,.call ⟨.value x,xs.toArray,ats⟩,ty,pos,af,g⟩ a w K Q:=by
 have hk':∀args w,(callFunc f args).run P w=.ok (.enter f args) w:=hk;have h1:execOp a.eval ⟨some d,.call ⟨.value x,xs.toArray,ats⟩,ty,pos,af,g⟩=callFunc f (vs++ca).toArray:=by
   simp [execOp,resolve,Deferred.ofValue,hf.eval hx,hf.evals hxs,invoke]
 unfold Oper.wp;rw[h1,hk',Oper.upon_enter];refine hc.mono λe w' ⟨v,he,hp⟩=>?_;subst he;exact k v w' _ hp (hf.put hdn v)
theorem Mem.boxTrue (H:Mem w0 S M R D I w) (i:Nat) {b:Nat} {T:TypeId} {cs:List Value} (hi:M[i]?=some ⟨b,T,cs⟩):(MP.cells ⟨b,0,none⟩ cs).pred w (λ_=>True):=by
 have h:w.heap[b]?=some (.cells cs.toArray T (0,0)):=MemZ.ok H (Blk.res ⟨b,T,cs⟩) (Dx.2 (.inl (Eh.2 ⟨_,DY hi,rfl⟩)));refine⟨trivial,?_,λj c hc=>?_⟩;rcases Fl b w.heap.size with h' | h'
 exact h';rw[EQ h']at h; cases h
 rw[add_lit,Ey,H.cell hi]; exact hc
theorem dt {p:MP} {T:Nat→Prop} (h:p.pred w T):p.pred w (λ_=>True):=p.mono h λ_ _ _=>⟨trivial,rfl⟩
end
end AT
namespace AT
open Go Go.RowKit
section
variable {P:Program} {Q:Exit→Act→World→Prop} {a:Act} {w w' w1:World} {n:Nat} {L:List (Nat×Value)} {dst:Option Tmp} {ty:TypeId} {pos:String} {af:Array Edge} {g:Option (Nat×Bool)} {K:Act→World→Prop} {d:Nat}
variable {w0:Base} {S:Nat→Prop} {M:List Blk} {R:List Row} {D:List DI} {I:List (Bool×MP)}
theorem ps0:∀d∈([]:List DI),d.p.pred w (·∈d.F):=λ_ h=>by cases h
theorem ps1 {α:Type} [GoTy α] {F:List Nat} {cs:List Value} {x:α} {X:List DI} (h:GoTy.own w F cs x) (t:∀d∈X,d.p.pred w (·∈d.F)):∀d∈((⟨F,MP.own F cs x⟩:DI)::X),d.p.pred w (·∈d.F):=by
 intro d hd;rcases DZ.1 hd with rfl | hd
 exact⟨h,λb hb=>hb⟩;exact t d hd
theorem Mem.arg (H:Mem ⟨w1,[]⟩ S M R D I w) {p:MP} (h:p.pred w1 S):Mem ⟨w1,[]⟩ S M R D ((false,p)::I) w:=H.pushArg p h
end
end AT
namespace AT
open Go Go.RowKit
section
variable {P:Program} {Q:Exit→Act→World→Prop} {a:Act} {w w' w1:World} {n:Nat} {L:List (Nat×Value)} {dst:Option Tmp} {ty:TypeId} {pos:String} {af:Array Edge} {g:Option (Nat×Bool)} {K:Act→World→Prop} {d:Nat}
variable {w0:Base} {S:Nat→Prop} {M:List Blk} {R:List Row} {D:List DI} {I:List (Bool×MP)}
def evo (L:List (Nat×Value)):Option Operand→Option (Option Value)
  | none=>some none
  | some o=>(ev L o).map some
theorem gW (hf:Fr a n L) {o:Option Operand} {v:Option Value} (h:evo L o=some v):o.map a.eval=v:=by
 cases o with
 | none=>simpa [evo] using h
 | some o =>
   simp only[evo,Ed]at h
   obtain⟨u,hu,rfl⟩:=h
   simp [hf.eval hu]
theorem aO (hf:Fr a n L) {T:TypeId} {x:Operand} {u r:Value} (hx:ev L x=some u) {lo hi:Option Operand} {lov hiv:Option Value} (hlo:evo L lo=some lov) (hhi:evo L hi=some hiv) (h:∀w',(Instr.sliceAt T u lov hiv none).run P w'=.ok r w') :
    ∀w,(execOp a.eval ⟨dst,.slice T x lo hi none,ty,pos,af,g⟩).run P w=.ok (.value r) w:=by
 intro w;simp [execOp,hf.eval hx,gW hf hlo,gW hf hhi,h]
theorem aQ (H:Mem w0 S M R D I w) {α:Type} [GoTy α] {T E:TypeId} (hT:P.underlying T=some (.slice E)) (hE:SZ P E (GoTy.n α)) {A:Option Addr} {len cap:Nat} {i j:Int} {xs ys:List α} {f:Bool} (q:Nat) {lov hiv:Option Value}
    (hlo:lov=none∧i=0∨lov=some (.int .i64 i)) (hhi:hiv=none∧j=xs.length∨hiv=some (.int .i64 j)) (hq:I[q]?=some (f,MP.val [.slice A len cap] xs)) (hs:sub xs i j=some ys) :
    ∃A' c',(∀w',(Instr.sliceAt T (.slice A len cap) lov hiv none).run P w'=.ok (.slice A' ys.length c') w')∧Mem w0 S M R D ((f,MP.val [.slice A' ys.length c'] ys)::I) w:=by
  obtain⟨A',cap',hcs,hlc,hcm,hel⟩:lrep w (St w0 S M R D f) [.slice A len cap] xs:=H.get q hq;simp only[Eu,Value.slice.injEq,and_true]at hcs;obtain⟨rfl,rfl,rfl⟩:=hcs;unfold sub at hs;split at hs
  case isFalse=>cases hs
  rename_i hb;obtain⟨h0,h1,h2⟩:=hb;injection hs with hs
  have hyl:ys.length=j.toNat - i.toNat:=by rw[←hs]; simp; omega
  have hE':∀w,(Go.sizeOf E).run P w=.ok (GoTy.n α) w:=hE;refine⟨if cap=i.toNat then A else A.map (·.add (i.toNat * GoTy.n α)),cap - i.toNat,λw'=>?_,H.push _ ?_⟩
  · have hj:(j.toNat:Int)=j:=EW (by omega)
    rw[hyl]
    have hsb:(Instr.sliceBounds true xs.length cap lov hiv none).run P w'=.ok (i.toNat,j.toNat,cap) w':=by
      rcases hlo with ⟨e1,rfl⟩ | e1 <;> rcases hhi with ⟨e2,e3⟩ | e2 <;> rw[e1,e2]
      · subst e3; simp [Instr.sliceBounds]
      · simp [Instr.sliceBounds,Instr.sliceBound,asIntOf,show 0≤j by omega,show j≤cap by omega]
      · subst e3; simp [Instr.sliceBounds,Instr.sliceBound,asIntOf,h0,h1]
      · simp [Instr.sliceBounds,Instr.sliceBound,asIntOf,h0,show 0≤j by omega,show j≤cap by omega,hj,h1]
    simp [Instr.sliceAt,Instr.slice,run_underlying hT,hsb,hE']
  refine⟨_,_,rfl,by omega,by omega,λt z hz=>?_⟩;have hz':xs[i.toNat + t]?=some z:=by
    rw[←hs,Em]at hz
    rw[Ge]at hz
    split at hz
    · exact hz
    · cases hz
  obtain⟨p,hp,hSp,cs,hc,hr⟩:=hel _ _ hz';have hlt:=(DK.1 hz').1;rw[if_neg (by omega),hp];refine⟨p.add (i.toNat * GoTy.n α),rfl,by rw[block_add]; exact hSp,cs,λu c hu=>?_,hr⟩;rw[add_add,←FY,←Fg];exact hc u c hu
theorem wM {T E:TypeId} (hT:P.underlying T=some (.slice E)) {A:Option Addr} {n1 c1:Nat}:(Op.equal T (.slice A n1 c1) (.slice none 0 0)).run P w=.ok A.isNone w:=by
 have h:∀d,(Op.equalIn (d + 1) T (.slice A n1 c1) (.slice none 0 0)).run P w=.ok A.isNone w:=λd=>by
   cases A <;> simp [Op.equalIn,run_underlying hT]
 obtain⟨d,hd⟩:∃d,Op.maxDepth=d + 1:=⟨_,rfl⟩;unfold Op.equal;rw[hd]; exact h d
theorem qX (hf:Fr a n L) {T U E:TypeId} (hT:P.underlying T=some (.slice E)) {x y:Operand} {A:Option Addr} {n1 c1:Nat} (hx:ev L x=some (.slice A n1 c1)) (hy:ev L y=some (.slice none 0 0)) :
    (execOp a.eval ⟨dst,.binOp .eql T x y U,ty,pos,af,g⟩).run P w=.ok (.value (.bool A.isNone)) w:=by
 have hb:(binOp .eql T (.slice A n1 c1) (.slice none 0 0)).run P w=.ok (.bool A.isNone) w:=by
   show (do pure (.bool (←Op.equal T (.slice A n1 c1) (.slice none 0 0))):Sem Value).run P w=_
   simp [wM (P:=P) (w:=w) hT]
 have hg:(eqGuard .eql T x y (.slice A n1 c1) (.slice none 0 0)).run P w=.ok () w:=by simp [eqGuard]
 show (do pure (.value (←(do eqGuard .eql T x y (a.eval x) (a.eval y); binOp .eql T (a.eval x) (a.eval y)))):Sem Next).run P w=_
 rw[hf.eval hx,hf.eval hy];simp [hg,hb]
theorem wR (hf:Fr a n L) {T U E:TypeId} (hT:P.underlying T=some (.slice E)) {x y:Operand} {n1 c1:Nat} (hx:ev L x=some (.slice none n1 c1)) (hy:ev L y=some (.slice none 0 0)) :
    (execOp a.eval ⟨dst,.binOp .eql T x y U,ty,pos,af,g⟩).run P w=.ok (.value (.bool true)) w:=qX hf hT hx hy
theorem wQ (hf:Fr a n L) {T U E:TypeId} (hT:P.underlying T=some (.slice E)) {x y:Operand} {p:Addr} {n1 c1:Nat} (hx:ev L x=some (.slice (some p) n1 c1)) (hy:ev L y=some (.slice none 0 0)) :
    (execOp a.eval ⟨dst,.binOp .eql T x y U,ty,pos,af,g⟩).run P w=.ok (.value (.bool false)) w:=qX hf hT hx hy
theorem tu {α:Type} [GoTy α] {T:Nat→Prop} {m c:Nat} {xs:List α} (h:GoTy.rep w T [.slice none m c] xs):xs=[]:=by
 obtain⟨A,c',hcs,-,-,hel⟩:lrep w T [.slice none m c] xs:=h;simp only[Eu,Value.slice.injEq,and_true]at hcs;obtain⟨rfl,rfl,rfl⟩:=hcs;cases xs with
 | nil=>rfl
 | cons x xs=>obtain⟨p,hp,_⟩:=hel 0 x rfl; cases hp
end
section
variable {P:Program} {l:List Oper} {Mid S:World→Prop} {a:Act} {w:World} {B:List Nat} {fuel:Nat} {bs:List Bool} {n:Nat} {L:List (Nat×Value)}
theorem on2 {Mid:Act→World→Prop} {i j:Nat} {oi oj:Oper} {bi bj:List Bool} (hr:Region.ready .any l.toArray bs.toArray=[i,j]) (hi:l[i]?=some oi) (hgi:oi.guard=none) (hbi:bs.set i true=bi) (hj:l[j]?=some oj) (hgj:oj.guard=none) (hbj:bs.set j true=bj)
    (h:oi.wp P a w (λa' w'=>(nb B bi.toArray=true→S w')∧DL P l Mid S B fuel bi a' w') (only Mid)) (h':oj.wp P a w (λa' w'=>(nb B bj.toArray=true→S w')∧DL P l Mid S B fuel bj a' w') (only Mid)):DL P l Mid S B (fuel + 1) bs a w:=by
 refine⟨λh0=>(by rw[hr]at h0; cases h0),λq hq=>?_⟩
 rw[hr]at hq;simp only[DZ,Fy,or_false]at hq;rcases hq with rfl | rfl
 unfold wpOp;have hi':l.toArray[q]?=some oi:=by simpa using hi
 simp only[hi',Region.wanted,hgi];rw[fA hbi];exact .inl h;unfold wpOp;have hi':l.toArray[q]?=some oj:=by simpa using hj
 simp only[hi',Region.wanted,hgj];rw[fA hbj];exact .inl h'
end
instance:GoTy By where
  n:=1
  agg:=false
  flat:=true
  rep _ _ cs x:=cs=[.int .u8 x.n]
  own _ F cs x:=F=[]∧cs=[.int .u8 x.n]
  pos:=by decide
  len:=by rintro _ _ _ _ rfl; rfl
  one:=by rintro _ _ _ _ rfl; simp [Value.oneCell']
  mono:=λh _=>h
  own_rep:=λh=>h.2
  own_mono:=λh _=>h
  own_lt:=by rintro _ _ _ _ ⟨rfl,_⟩ _ h; cases h
  own_flat:=λ_ h=>⟨rfl,h⟩
instance:GoTy U64 where
  n:=1
  agg:=false
  flat:=true
  rep _ _ cs x:=cs=[.int .u64 x.n]
  own _ F cs x:=F=[]∧cs=[.int .u64 x.n]
  pos:=by decide
  len:=by rintro _ _ _ _ rfl; rfl
  one:=by rintro _ _ _ _ rfl; simp [Value.oneCell']
  mono:=λh _=>h
  own_rep:=λh=>h.2
  own_mono:=λh _=>h
  own_lt:=by rintro _ _ _ _ ⟨rfl,_⟩ _ h; cases h
  own_flat:=λ_ h=>⟨rfl,h⟩
variable {S:Nat→Prop}
theorem Dv {w:World} {v:Value} {x:By} (h:VR w S v x):v=.int .u8 x.n:=by obtain⟨cs,rfl,rfl⟩:=h; rfl
theorem BZ {w:World} {x:By}:VR w S (.int .u8 x.n) x:=⟨_,rfl,rfl⟩
section
variable {P:Program} {a:Act} {w:World} {n:Nat} {L:List (Nat×Value)} {dst:Option Tmp} {ty:TypeId} {pos:String} {af:Array Edge} {g:Option (Nat×Bool)}
variable {T U:TypeId} {x y:Operand} {k:IntKind} {i j:Int} {f:Int→Int}
theorem lY (hk:∀n,k.wrap n=f n) (hf:Fr a n L) (hx:ev L x=some (.int k i)) (hy:ev L y=some (.int k j)):(execOp a.eval ⟨dst,.binOp .add T x y U,ty,pos,af,g⟩).run P w=.ok (.value (.int k (f (i + j)))) w:=by
 simp [execOp,hf.eval hx,hf.eval hy,eqGuard,binOp,Op.intArith,hk]
theorem qY (hk:∀n,k.wrap n=f n) (hf:Fr a n L) (hx:ev L x=some (.int k i)) (hy:ev L y=some (.int k j)):(execOp a.eval ⟨dst,.binOp .mul T x y U,ty,pos,af,g⟩).run P w=.ok (.value (.int k (f (i * j)))) w:=by
 simp [execOp,hf.eval hx,hf.eval hy,eqGuard,binOp,Op.intArith,hk]
theorem mR (hf:Fr a n L) (hx:ev L x=some (.int .u64 i)) (hy:ev L y=some (.int .u64 j)):(execOp a.eval ⟨dst,.binOp .and T x y U,ty,pos,af,g⟩).run P w=.ok (.value (.int .u64 (iE i j))) w:=by
 simp [execOp,hf.eval hx,hf.eval hy,eqGuard,binOp,Op.intBits,u64w,iE];try rfl
variable {k':IntKind}
theorem qT {b:Nat} {q:Int} (hb:k.bits=b) (hf:Fr a n L) (hx:ev L x=some (.int k i)) (hy:ev L y=some (.int k' j)) (h:shrk b i j=some q):(execOp a.eval ⟨dst,.binOp .shr T x y U,ty,pos,af,g⟩).run P w=.ok (.value (.int k q)) w:=by
 unfold shrk at h;split at h
 cases h;rename_i h0;injection h with h; subst h
 subst hb;simp [execOp,hf.eval hx,hf.eval hy,eqGuard,binOp,Op.shift,h0]
theorem AM (hf:Fr a n L) (hx:ev L x=some (.int k i)) (hy:ev L y=some (.int k j)):(execOp a.eval ⟨dst,.binOp .lss T x y U,ty,pos,af,g⟩).run P w=.ok (.value (.bool (decide (i<j)))) w:=by
 simp [execOp,hf.eval hx,hf.eval hy,eqGuard,binOp,Op.intCmp]
theorem kZ (hf:Fr a n L) (hx:ev L x=some (.int k i)) (hy:ev L y=some (.int k j)):(execOp a.eval ⟨dst,.binOp .leq T x y U,ty,pos,af,g⟩).run P w=.ok (.value (.bool (decide (i≤j)))) w:=by
 simp [execOp,hf.eval hx,hf.eval hy,eqGuard,binOp,Op.intCmp]
theorem AO (hf:Fr a n L) (hx:ev L x=some (.int k i)) (hy:ev L y=some (.int k j)):(execOp a.eval ⟨dst,.binOp .gtr T x y U,ty,pos,af,g⟩).run P w=.ok (.value (.bool (decide (i > j)))) w:=by
 simp [execOp,hf.eval hx,hf.eval hy,eqGuard,binOp,Op.intCmp]
theorem mQ (hf:Fr a n L) (hx:ev L x=some (.int k i)) (hy:ev L y=some (.int k j)):(execOp a.eval ⟨dst,.binOp .geq T x y U,ty,pos,af,g⟩).run P w=.ok (.value (.bool (decide (i≥j)))) w:=by
 simp [execOp,hf.eval hx,hf.eval hy,eqGuard,binOp,Op.intCmp]
theorem gM {us:TypeDesc} (hk:∀n,k.wrap n=f n) (hs:P.underlying T=some us) (hd:P.underlying U=some (.int k)) (hf:Fr a n L) (hx:ev L x=some (.int k' i)):(execOp a.eval ⟨dst,.convert T U x,ty,pos,af,g⟩).run P w=.ok (.value (.int k (f i))) w:=by
 simp [execOp,hf.eval hx,convert,run_underlying hs,run_underlying hd,Conv.intToInt,hk]
end
section
variable {w w' w1:World} {w0:Base} {S:Nat→Prop} {M:List Blk} {R:List Row} {D:List DI} {I:List (Bool×MP)}
theorem Mem.boxAt (H:Mem w0 S M R D I w) (i:Nat) {b:Nat} {T:TypeId} {cs:List Value} (hi:M[i]?=some ⟨b,T,cs⟩):w.heap[b]?=some (.cells cs.toArray T (0,0)) :=
  MemZ.ok H (Blk.res ⟨b,T,cs⟩) (Dx.2 (.inl (Eh.2 ⟨_,DY hi,rfl⟩)))
variable {i b:Nat} {T:TypeId} {cs:List Value}
theorem pC (hi:M[i]?=some ⟨b,T,cs⟩):b∈fmZ (zs M R D) :=
  Es.2 ⟨Blk.res ⟨b,T,cs⟩,Dx.2 (.inl (Eh.2 ⟨_,DY hi,rfl⟩)),by simp [Blk.res]⟩
theorem Mem.notSt (H:Mem w0 S M R D I w) (i:Nat) {b:Nat} {T:TypeId} {cs:List Value} (hi:M[i]?=some ⟨b,T,cs⟩) (f:Bool):¬St w0 S M R D f b:=by
 have h1:=pC (R:=R) (D:=D) hi;rintro (⟨-,h,-⟩ | ⟨-,h⟩)
 exact h (MemZ.lt H b (cK h1)).1;exact h h1
theorem Mem.startB (S:Nat→Prop) {b:Nat} {T:TypeId} {cs:List Value} (h:w1.heap[b]?=some (.cells cs.toArray T (0,0))):Mem ⟨w1,[b]⟩ S [⟨b,T,cs⟩] [] [] [] w1:=by
 have hlt:b<w1.heap.size:=by
   rcases Fl b w1.heap.size with h' | h'
   · exact h'
   · rw[EQ h']at h; cases h
 refine⟨⟨rfl,rfl,rfl,D3 _,λ_ _=>rfl,D3 _⟩,λc hc=>?_,?_,λr hr=>?_,λf hf=>(by cases hf)⟩
 have hc':c=b:=by simpa [allZ,zs,Res.all,Blk.res] using hc
 subst hc';exact⟨.inr (by simp),hlt⟩;simp [allZ,zs,Res.all,Blk.res];have:r=Blk.res ⟨b,T,cs⟩:=by simpa [zs] using hr
 subst this;exact h
theorem Mem.argB {G:List Nat} (H:Mem ⟨w1,G⟩ S M R D I w) (hS:∀b∈G,¬S b) {p:MP} (h:p.pred w1 S):Mem ⟨w1,G⟩ S M R D ((false,p)::I) w:=by
 refine H.push _ (p.mono h λb hb hlt=>?_);have hn:¬(⟨w1,G⟩:Base).nw b:=by
   rintro (h1 | h1)
   · simp only at h1; omega
   · exact hS b h1 hb
 exact⟨.inl ⟨rfl,hn,hb⟩,(MemZ.below H).block b hn⟩
theorem BJ {T':TypeId} {cs':List Value} (hi:M[i]?=some ⟨b,T,cs⟩) (f:Bool):St w0 S (M.set i ⟨b,T',cs'⟩) R D f=St w0 S M R D f:=by
 unfold St;rw[gr (fI (R:=R) (D:=D) hi),gr (gH (R:=R) (D:=D) ⟨b,T',cs'⟩ hi)];funext c;unfold StZ;simp only[gV,cF];rfl
theorem Mem.wroteBox (H:Mem w0 S M R D I w) (i:Nat) {b:Nat} {T:TypeId} {cs cs':List Value} (hi:M[i]?=some ⟨b,T,cs⟩) (hc:Chg w w' [b]) (hb:w'.heap[b]?=some (.cells cs'.toArray T (0,0))):Mem w0 S (M.set i ⟨b,T,cs'⟩) R D I w':=by
 refine MemZ.perm (MemZ.step (rs:=[Blk.res ⟨b,T,cs⟩]) (rs':=[Blk.res ⟨b,T,cs'⟩]) (MemZ.perm H (fI hi)) (hc.sub λx hx=>?_) (λx hx=>.inl hx) (λx hx=>.inl hx) (by simp [allZ,Res.all,Blk.res]) λ_ q hq=>?_) (gH _ hi).symm;rw[cF]; simpa [Blk.res] using hx;rw[DU]at hq; subst hq;exact hb
theorem Mem.movesB (H:Mem w0 S M R D I w) (i:Nat) {b:Nat} {T T':TypeId} {cs cs':List Value} (hi:M[i]?=some ⟨b,T,cs⟩) (tag:Bool):Moves w' w' (St ⟨w,[b]⟩ (St w0 S M R D false) [⟨b,T',cs'⟩] [] [] tag) (St w0 S (M.set i ⟨b,T',cs'⟩) R D tag):=by
 intro c hc _;refine⟨?_,rfl⟩;rw[BJ hi];rcases hc with ⟨rfl,-,h⟩ | ⟨h1,h2⟩
 exact h;rcases h1 with h1 | h1
 exact H.new h1 _;have e:=DU.1 h1;rw[e]at h2;exact absurd (pC (M:=[⟨b,T',cs'⟩]) (R:=[]) (D:=[]) (i:=0) rfl) h2
theorem tc {bs:List Value} {f:Bool} {α:Type} [GoTy α] {x:α} (hi:M[i]?=some ⟨b,T,bs⟩) (h:GoTy.rep w (St w0 S M R D f) cs x):GoTy.rep w (St w0 S [⟨b,T,bs⟩] [] [] f) cs x :=
  GoTy.mono h λc hc _=>by
    refine⟨?_,rfl⟩
    rcases hc with hc | ⟨h1,h2⟩
    · exact .inl hc
    · refine .inr ⟨h1,λh3=>h2 ?_⟩
      have:c=b:=by simpa [fmZ,zs,Blk.res] using h3
      subst this; exact pC hi
end
section
variable {P:Program} {Q:Exit→Act→World→Prop} {a:Act} {w:World} {n:Nat} {L:List (Nat×Value)} {ty:TypeId} {pos:String} {af:Array Edge} {g:Option (Nat×Bool)} {K:Act→World→Prop} {d:Nat}
variable {w0:Base} {S:Nat→Prop} {M:List Blk} {R:List Row} {D:List DI} {I:List (Bool×MP)}
theorem mU {B:Nat} {E:TypeId} {s:Nat} {A:Option Addr} {m cap k:Nat} {cells:List Value} (h:w.ownsRow B E s (.slice A m cap) m cells) (hk:k≤m):w.ownsRow B E s (.slice A k cap) k (cells.take (k * s)):=by
 obtain⟨h1,h2⟩:=h;have hks:k * s≤m * s:=D5 s hk;refine⟨by rw[DO,h1]; exact ER hks,?_⟩;rcases h2 with ⟨hv,hn⟩ | ⟨b,cap',cur,hv,hb,hg,hl,hm,hsz,ht⟩
 simp only[Value.slice.injEq]at hv;obtain⟨rfl,rfl,rfl⟩:=hv;obtain rfl:k=0:=by omega
 exact .inl ⟨rfl,rfl⟩;simp only[Value.slice.injEq]at hv;obtain⟨rfl,-,rfl⟩:=hv;exact .inr ⟨b,cap,cur,rfl,hb,hg,by omega,hm,hsz,by rw[←ht,Ft,ER hks]⟩
theorem rr (hf:Fr a n L) (H:Mem w0 S M R D I w) {α:Type} [GoTy α] {T E E':TypeId} (hT:P.underlying T=some (.slice E)) (hE:SZ P E (GoTy.n α)) {x:Operand} {lo hi:Option Operand} {A:Option Addr} {cap:Nat} {j:Int} {xs ys:List α} {fr:Bool} (q:Nat) {lov hiv:Option Value}
    (hx:ev L x=some (.slice A xs.length cap)) (hlo:evo L lo=some lov) (hhi:evo L hi=some hiv) (hlo':lov=none∨lov=some (.int .i64 0)) (hhi':hiv=none∧j=xs.length∨hiv=some (.int .i64 j)) (hq:R[q]?=some ⟨.sh fr,E',A,cap,xs⟩) (hs:sub xs 0 j=some ys) (hdn:d<n)
    (k:∀a',Fr a' n ((d,.slice A ys.length cap)::L)→Mem w0 S M (R.set q ⟨.sh fr,E',A,cap,ys⟩) D I w→K a' w):Oper.wp P ⟨some d,.slice T x lo hi none,ty,pos,af,g⟩ a w K Q:=by
  obtain⟨cells,ho,hfit,hel⟩:=H.rowAt (DY hq);unfold sub at hs;split at hs
  case isFalse=>cases hs
  rename_i hb;obtain⟨h0,h1,h2⟩:=hb;injection hs with hs
  have hyl:ys.length=j.toNat:=by rw[←hs]; simp; omega
  have hcap:xs.length≤cap:=by
    rcases ho.2 with ⟨hv,hn⟩ | ⟨b,cap',cur,hv,hb,hg,hl,hm,hsz,ht⟩
    · have:xs.length=0:=hn
      omega
    · simp only[Row.v,Value.slice.injEq]at hv
      obtain⟨-,-,rfl⟩:=hv
      exact hl
  have hE':∀w,(Go.sizeOf E).run P w=.ok (GoTy.n α) w:=hE;have hA:(A.map λp=>p.add 0)=A:=by cases A <;> simp [Addr.add]
  have hval:(execOp a.eval ⟨some d,.slice T x lo hi none,ty,pos,af,g⟩).run P w=.ok (.value (.slice A ys.length cap)) w:=by
    have hsl:(Instr.sliceAt T (.slice A xs.length cap) lov hiv none).run P w=.ok (.slice A ys.length cap) w:=by
      rw[hyl]
      have hsb:(Instr.sliceBounds true xs.length cap lov hiv none).run P w=.ok (0,j.toNat,cap) w:=by
        rcases hlo' with e1 | e1 <;> rcases hhi' with ⟨e2,e3⟩ | e2 <;> rw[e1,e2]
        · subst e3; simp [Instr.sliceBounds]
        · simp [Instr.sliceBounds,Instr.sliceBound,asIntOf,show 0≤j by omega,show j≤cap by omega]
        · subst e3; simp [Instr.sliceBounds,Instr.sliceBound,asIntOf]
        · simp [Instr.sliceBounds,Instr.sliceBound,asIntOf,show 0≤j by omega,show j≤cap by omega]
      simp [Instr.sliceAt,Instr.slice,run_underlying hT,hsb,hE',hA]
    simp [execOp,hf.eval hx,gW hf hlo,gW hf hhi,hsl]
  refine op_q hf hval rfl hdn λa' hf'=>k a' hf' (H.reRow hq ⟨⟨rfl,rfl,rfl,D3 _,λ_ _ _=>rfl⟩,D3 _⟩ (.inl (by cases A <;> rfl)) (GE _) λhm=>?_)
  have hyx:ys.length≤xs.length:=by omega
  refine⟨cells.take (ys.length * GoTy.n α),mU ho hyx,trivial,λi y hy=>?_⟩;have hi:i<ys.length:=(DK.1 hy).1;have hx':xs[i]?=some y:=by
    rw[←hs]at hy
    simp only[Int.toNat_zero,D4]at hy
    rw[Ge]at hy
    split at hy
    · exact hy
    · cases hy
  have e:xp α (cells.take (ys.length * GoTy.n α)) i=xp α cells i:=by
    unfold xp
    have h3:i * GoTy.n α + GoTy.n α≤ys.length * GoTy.n α:=by
      have:=D5 (GoTy.n α) (show i + 1≤ys.length from hi)
      rwa [Fq]at this
    rw[Gm,Ft,ER (by omega)]
  show GoTy.rep _ _ (xp α _ i) y;rw[e];exact GoTy.mono (hel i y hx') (hm _)
end
end AT
namespace AT
open Go Go.RowKit
theorem BS {P:Program} {t:TypeId} (ht:P.underlying t=some (.int .u8)):Rd P t By (λx=>0≤x.n∧x.n≤255):=by
 intro H enc w base spare held fuel cs x h;obtain⟨n,rfl,-,hw⟩:=DataW.trod_int ht h;refine⟨⟨n⟩,rfl,?_⟩;simp [Lit.wf,IntKind.min,IntKind.max,IntKind.signed,IntKind.bits]at hw;simp only;omega
end AT
namespace AT
open Go Go.RowKit
def IA.cells {n:Nat} (x:IA n):List Value:=x.l.map (Value.int .i64)
theorem IA.cells_len {n:Nat} (x:IA n):x.cells.length=n:=by unfold IA.cells; rw[Ev]; exact x.h
@[reducible] def iaTy (n:Nat) (hn:0<n):GoTy (IA n) where
  n:=n
  agg:=true
  flat:=true
  rep _ _ cs x:=cs=x.cells
  own _ F cs x:=F=[]∧cs=x.cells
  pos:=hn
  len:=by rintro _ _ _ _ rfl; exact IA.cells_len _
  one:=by
    rintro _ _ _ x rfl c hc
    obtain⟨i,-,rfl⟩:=Eh.1 hc
    simp [Value.oneCell']
  mono:=λh _=>h
  own_rep:=λh=>h.2
  own_mono:=λh _=>h
  own_lt:=by rintro _ _ _ _ ⟨rfl,_⟩ _ h; cases h
  own_flat:=λ_ h=>⟨rfl,h⟩
section
variable {P:Program} {Q:Exit→Act→World→Prop} {a:Act} {w:World} {n:Nat} {L:List (Nat×Value)} {dst:Option Tmp} {ty:TypeId} {pos:String} {af:Array Edge} {g:Option (Nat×Bool)} {K:Act→World→Prop} {d:Nat}
variable {w0:Base} {S:Nat→Prop} {M:List Blk} {R:List Row} {D:List DI} {I:List (Bool×MP)}
end
end AT
namespace AT
open Go Go.RowKit
theorem Mem.addRo {w w':World} {w0:Base} {S S':Nat→Prop} {M:List Blk} {R:List Row} {D:List DI} {I:List (Bool×MP)} (H:Mem w0 S M R D I w) (hb:Below w.heap.size w w') {p:MP} (hp:p.pred w' (St ⟨w,[]⟩ S' [] [] [] true)):∃F,Mem w0 S M R (⟨F,p⟩::D) I w':=by
 have hF:∀b,b∈List.range' w.heap.size (w'.heap.size - w.heap.size)↔w.heap.size≤b∧b<w'.heap.size:=λb=>by
   rw[List.mem_range'_1]
   have:=hb.size
   omega
 refine⟨List.range' w.heap.size (w'.heap.size - w.heap.size),H.addOwn hb (X:=[⟨_,p⟩]) ?_ (λd hd=>?_) (λb h=>?_)⟩;simpa using List.nodup_range';rw[DU]at hd; subst hd;refine p.mono hp λb h hlt=>⟨(hF b).2 ?_,rfl⟩;rcases h with ⟨h,_⟩ | ⟨h1 | h1,_⟩
 cases h;exact⟨h1,hlt⟩;cases h1;simp only[Ef,Ex,D1]at h;exact (hF b).1 h
end AT
namespace AT
open Go Go.RowKit
end AT
namespace AT
open Go Go.RowKit
section
variable {P:Program} {Q:Exit→Act→World→Prop} {a:Act} {w:World} {n:Nat} {L:List (Nat×Value)} {dst:Option Tmp} {ty:TypeId} {pos:String} {af:Array Edge} {g:Option (Nat×Bool)} {K:Act→World→Prop} {d:Nat}
variable {T U:TypeId} {x y:Operand} {s t:ByteArray}
theorem dl (hf:Fr a n L) (hT:P.underlying T=some .string) {k:IntKind} {i:Int} {e:By} (hx:ev L x=some (.string s)) (hy:ev L y=some (.int k i)) (h:sidx s i=some e):(execOp a.eval ⟨dst,.index T x y,ty,pos,af,g⟩).run P w=.ok (.value (.int .u8 e.n)) w:=by
  unfold sidx at h;split at h
  case isFalse=>cases h
  rename_i h0;obtain⟨b,hb,rfl⟩:=Ed.1 h;have h1:(Instr.index T (.string s) (.int k i)).run P w=.ok (.int .u8 b.toNat) w:=by
    simp [Instr.index,asIntOf,run_underlying hT,h0,hb]
  simp [execOp,hf.eval hx,hf.eval hy,h1]
end
end AT
namespace AT
open Go Go.RowKit
theorem elL {w:World} {T:Nat→Prop} {α:Type} [GoTy α]:∀(l:List (List Value×α)),(∀p∈l,GoTy.rep w T p.1 p.2)→∀i x,(l.map Prod.snd)[i]?=some x→GoTy.rep w T (xp α ((l.map Prod.fst).flatten) i) x
  | [],_,i,x,h=>by simp at h
  | p::l,hp,i,x,h=>by
    have h0:=hp p (by simp)
    have hl:p.1.length=GoTy.n α:=GoTy.len h0
    cases i with
    | zero =>
      simp only[FC,Gb,Ec]at h
      subst h
      unfold xp
      rw[FX,D4,FC,Gk,EM (by omega),Fj (by omega)]
      exact h0
    | succ i =>
      simp only[FC,List.getElem?_cons_succ]at h
      have:=elL l (λq hq=>hp q (by simp [hq])) i x h
      unfold xp at this ⊢
      rw[FC,Gk,Fq,GH,←Ga,←hl,List.drop_left,hl]
      exact this
variable {T:Nat→Prop} {α:Type} [GoTy α]
theorem al0 {w:World} :∀p∈([]:List (List Value×α)),GoTy.rep w T p.1 p.2:=λ_ h=>by cases h
theorem al1 {w:World} {cs:List Value} {x:α} {l:List (List Value×α)} (h:GoTy.rep w T cs x) (t:∀p∈l,GoTy.rep w T p.1 p.2):∀p∈((cs,x)::l),GoTy.rep w T p.1 p.2:=by
 intro p hp;rcases DZ.1 hp with rfl | hp
 exact h;exact t p hp
end AT
namespace AT
open Go Go.RowKit
section
variable {P:Program} {Q:Exit→Act→World→Prop} {a:Act} {w:World} {n:Nat} {L:List (Nat×Value)} {dst:Option Tmp} {ty:TypeId} {pos:String} {af:Array Edge} {g:Option (Nat×Bool)} {K:Act→World→Prop} {d:Nat}
variable {w0:Base} {S:Nat→Prop} {M:List Blk} {R:List Row} {D:List DI} {I:List (Bool×MP)}
theorem ci (H:Mem w0 S M R D I w) {α:Type} [GoTy α] {T E E':TypeId} (hT:P.underlying T=some (.slice E)) (hE:SZ P E (GoTy.n α)) (j:Nat) {kd:Kd} {A:Option Addr} {cap:Nat} {xs:List α} {i:Int} {e:α}
    (hj:R[j]?=some ⟨kd,E',A,cap,xs⟩) (he:idx xs i=some e) :
    ∃b o,RA A b o (i.toNat * GoTy.n α)∧∀w' k,(Instr.indexAt T (.slice A xs.length cap) (.int k i)).run P w'=.ok (.pointer (some ⟨b,o,none⟩)) w':=by
 obtain⟨h0,h1,h2⟩:=ke he;obtain⟨b,q,rfl,cs,hr,hc⟩:=ik H hj he;refine⟨b,_,⟨q,rfl,rfl⟩,λw' k=>?_⟩;have hi:=run_indexAt (P:=P) (w:=w') (cap:=cap) hT hE h0 h1 (p:=⟨b,q,none⟩) (k:=k);rw[add_lit]at hi;exact hi
theorem dL (hf:Fr a n L) (H:Mem w0 S M R D I w) {α:Type} [GoTy α] {T:TypeId} (hT:LS P T) (j:Nat) {x:Operand} {b o off:Nat} {kd:Kd} {E:TypeId} {A:Option Addr} {cap:Nat} {xs:List α} {i:Int} {e:α} {v:Value}
    (hx:ev L x=some (.pointer (some ⟨b,o + off,none⟩))) (hj:R[j]?=some ⟨kd,E,A,cap,xs⟩) (hA:RA A b o (i.toNat * GoTy.n α)) (he:idx xs i=some e) (hv:∀(w:World) (T:Nat→Prop) (cs:List Value),GoTy.rep w T cs e→cs[off]?=some v) :
    (execOp a.eval ⟨dst,.load T x,ty,pos,af,g⟩).run P w=.ok (.value v) w:=by
 obtain⟨b',q',hA',cs,hr,hc⟩:=ik H hj he;obtain⟨q0,rfl,rfl⟩:=hA;injection hA' with hA'
 injection hA' with hA' hA2
 subst hA';subst hA2;have:=hc off v (hv _ _ _ hr);rw[add_lit]at this;exact eZ hf hT hx this
theorem jS (hf:Fr a n L) (H:Mem w0 S M R D I w) {α:Type} [GoTy α] {T:TypeId} {m:Nat} (hT:LA P T m) (j:Nat) {x:Operand} {b o off:Nat} {kd:Kd} {E:TypeId} {A:Option Addr} {cap:Nat} {xs:List α} {i:Int} {e:α} {vs:List Value}
    (hx:ev L x=some (.pointer (some ⟨b,o + off,none⟩))) (hj:R[j]?=some ⟨kd,E,A,cap,xs⟩) (hA:RA A b o (i.toNat * GoTy.n α)) (he:idx xs i=some e) (hl:vs.length=m) (hv:∀(w:World) (T:Nat→Prop) (cs:List Value),GoTy.rep w T cs e→(cs.drop off).take m=vs) :
    (execOp a.eval ⟨dst,.load T x,ty,pos,af,g⟩).run P w=.ok (.value (.agg vs.toArray)) w:=by
 obtain⟨b',q',hA',cs,hr,hc⟩:=ik H hj he;obtain⟨q0,rfl,rfl⟩:=hA;injection hA' with hA'
 injection hA' with hA' hA2
 subst hA';subst hA2;refine ek hf hT hx hl λq c hq=>?_;rw[←hv _ _ _ hr]at hq;have hqm:q<m:=by
   have:=(DK.1 hq).1
   simp only[DO,Er]at this; omega
 rw[D8 hqm,Em]at hq;have:=hc _ _ hq;rw[add_lit]at this ⊢;rw[FY];exact this
end
end AT
namespace AT
open Go Go.RowKit
theorem iteB {R:Type} {b:Bool} {x y r:R} {G:Prop} (h:(if b=true then x else y)=r) (h1:b=true→x=r→G) (h2:b=false→y=r→G):G:=by
 cases b;exact h2 rfl (by simpa using h);exact h1 rfl (by simpa using h)
section
variable {P:Program} {Q:Exit→Act→World→Prop} {a:Act} {w:World} {n:Nat} {L:List (Nat×Value)}
variable {w0:Base} {S:Nat→Prop} {M:List Blk} {R:List Row} {D:List DI} {I:List (Bool×MP)}
theorem midF {c:Code} (t:Nat) (v:Value) (hf:Fr a n L) (H:Mem w0 S M R D I w) (h:c.wp P (Exit.then (λa w=>Fr a n ((t,v)::L)∧Mem w0 S M R D I w) Q) a w)
    (h2:∀a w,Fr a n ((t,v)::L)→Mem w0 S M R D I w→Q .normal a w):c.wp P Q a w:=mid _ h λa w q=>h2 a w q.1 q.2
theorem vW {σ:Type} {id:Nat} {c:Code} (Inv:σ→Act→World→Prop) (G:Nat→σ→Prop) (E:σ→Prop) (s0:σ) (k0:Nat) (hL:G k0 s0) (hI:Inv s0 a w) (h0:∀s,¬G 0 s)
    (round:∀k s a w,G (k + 1) s→Inv s a w→c.wp P (Exit.then (λa' w'=>∃s',G k s'∧Inv s' a' w') (Exit.inBlock id (Exit.then (λa w=>∃s,E s∧Inv s a w) Q))) a w)
    (after:∀a w,(∃s,E s∧Inv s a w)→Q .normal a w):(Code.block id (.loop c)).wp P Q a w :=
  mid _ (wp_block (rG G Inv h0 round k0 s0 a w hL hI)) after
end
section
variable {P:Program} {S0:World→Prop} {B:List Nat} {l:List Oper} {bs bs':List Bool} {a:Act} {w:World} {n fuel d i:Nat} {L:List (Nat×Value)} {Mid:Act→World→Prop} {o:Oper} {v:Value}
variable {w0:Base} {S:Nat→Prop} {M:List Blk} {R:List Row} {D:List DI} {I:List (Bool×MP)}
theorem strT (H:Mem w0 S M R D I w) (hs:∀w,Mem w0 S M R D I w→S0 w) (h:Mem w0 S M R D I w→DL P l Mid (λw=>Mem w0 S M R D I w) B fuel bs a w):DL P l Mid S0 B fuel bs a w:=str _ hs (h H)
theorem tP (i:Nat) (hi:l[i]?=some o) (hd:o.dst=some d) (hg:o.guard=none) (hdn:Nat.ble (d + 1) n=true) (hf:Fr a n L) (hc:takeB l bs i [] B=true) (hS:nb B bs.toArray=true→S0 w) (hy:∀w,(execOp a.eval o).run P w=.ok (.value v) w)
    (h:∀a',Fr a' n ((d,v)::L)→DL P l Mid S0 B fuel (bs.set i true) a' w):DL P l Mid S0 B (fuel + 1) bs a w:=tkP hi hd hg (nle hdn) hf hc hS hy rfl h
theorem tPg (i:Nat) {j e:Nat} {b:Bool} (hi:l[i]?=some o) (hd:o.dst=some d) (hg:o.guard=some (j,b)) (hj:(l[j]?).bind (·.dst)=some e) (hv:lk L e=some (.bool b)) (hdn:Nat.ble (d + 1) n=true) (hf:Fr a n L) (hc:takeB l bs i [] B=true) (hS:nb B bs.toArray=true→S0 w) (hy:∀w,(execOp a.eval o).run P w=.ok (.value v) w)
    (h:∀a',Fr a' n ((d,v)::L)→DL P l Mid S0 B fuel (bs.set i true) a' w):DL P l Mid S0 B (fuel + 1) bs a w:=tkPg hi hd hg hj hv (nle hdn) hf hc hS hy rfl h
theorem tS (i:Nat) (X:List Nat) (hi:l[i]?=some o) (hd:o.dst=some d) (hg:o.guard=none) (hdn:Nat.ble (d + 1) n=true) (hf:Fr a n L) (hc:takeB l bs i X B=true) (hBX:(B.all (X.contains ·))=true) (hS:S0 w) (hy:∀w,S0 w→(execOp a.eval o).run P w=.ok (.value v) w)
    (h:∀a',Fr a' n ((d,v)::L)→DL P l Mid S0 B fuel (bs.set i true) a' w):DL P l Mid S0 B (fuel + 1) bs a w:=tkS X hi hd hg (nle hdn) hf hc hBX hS hy rfl h
theorem tSg (i:Nat) (X:List Nat) {j e:Nat} {b:Bool} (hi:l[i]?=some o) (hd:o.dst=some d) (hg:o.guard=some (j,b)) (hj:(l[j]?).bind (·.dst)=some e) (hv:lk L e=some (.bool b)) (hdn:Nat.ble (d + 1) n=true) (hf:Fr a n L) (hc:takeB l bs i X B=true) (hBX:(B.all (X.contains ·))=true) (hS:S0 w) (hy:∀w,S0 w→(execOp a.eval o).run P w=.ok (.value v) w)
    (h:∀a',Fr a' n ((d,v)::L)→DL P l Mid S0 B fuel (bs.set i true) a' w):DL P l Mid S0 B (fuel + 1) bs a w:=tkSg X hi hd hg hj hv (nle hdn) hf hc hBX hS hy rfl h
theorem tUU (i:Nat) {j e:Nat} {b:Bool} (hi:l[i]?=some o) (hd:o.dst=some d) (hg:o.guard=some (j,b)) (hj:(l[j]?).bind (·.dst)=some e) (hv:lk L e=some undef) (hdn:Nat.ble (d + 1) n=true) (hf:Fr a n L) (hc:takeB l bs i [] B=true) (hS:nb B bs.toArray=true→S0 w)
    (h:∀a',Fr a' n ((d,undef)::L)→DL P l Mid S0 B fuel (bs.set i true) a' w):DL P l Mid S0 B (fuel + 1) bs a w:=tkUU hi hd hg hj hv (nle hdn) hf hc hS rfl h
theorem tU (i:Nat) {j e:Nat} {b c:Bool} (hi:l[i]?=some o) (hd:o.dst=some d) (hg:o.guard=some (j,b)) (hj:(l[j]?).bind (·.dst)=some e) (hv:lk L e=some (.bool c)) (hne:(c==b)=false) (hdn:Nat.ble (d + 1) n=true) (hf:Fr a n L) (hc:takeB l bs i [] B=true) (hS:nb B bs.toArray=true→S0 w)
    (h:∀a',Fr a' n ((d,undef)::L)→DL P l Mid S0 B fuel (bs.set i true) a' w):DL P l Mid S0 B (fuel + 1) bs a w:=tkU hi hd hg hj hv hne (nle hdn) hf hc hS rfl h
theorem n1 (i:Nat) (hr:Region.ready .any l.toArray bs.toArray=[i]) (hi:l[i]?=some o) (hg:o.guard=none)
    (h:o.wp P a w (λa' w'=>(nb B (bs.set i true).toArray=true→S0 w')∧DL P l Mid S0 B fuel (bs.set i true) a' w') (only Mid)):DL P l Mid S0 B (fuel + 1) bs a w:=on1 hr hi hg rfl h
theorem n1g (i:Nat) {j e:Nat} {b:Bool} (hr:Region.ready .any l.toArray bs.toArray=[i]) (hi:l[i]?=some o) (hg:o.guard=some (j,b)) (hj:(l[j]?).bind (·.dst)=some e) (hv:lk L e=some (.bool b)) (hf:Fr a n L)
    (h:o.wp P a w (λa' w'=>(nb B (bs.set i true).toArray=true→S0 w')∧DL P l Mid S0 B fuel (bs.set i true) a' w') (only Mid)):DL P l Mid S0 B (fuel + 1) bs a w:=on1g hr hi hg hj hv hf rfl h
end
end AT
namespace AT
open Go Go.RowKit
theorem ww {P:Program} {w:World} {a:Act} {n:Nat} {L:List (Nat×Value)} {fn:Func} {Rr:Ending→World→Prop} (hf:Fr a n L) (hres:fn.results=#[]) (hR:Rr (.returned (.tuple #[])) w):bodyPost P fn Rr .ret a w :=
  ⟨hf.defs,_,d4 (rs:=[]) hres .nil,by simpa using hR⟩
end AT
namespace AT
open Go Go.RowKit
theorem Mem.ownLen {w:World} {w0:Base} {S:Nat→Prop} {M:List Blk} {R:List Row} {D:List DI} {I:List (Bool×MP)} (H:Mem w0 S M R D I w) {α:Type} [GoTy α] {F:List Nat} {A:Option Addr} {len cap:Nat} {xs:List α} (h:D[0]?=some ⟨F,MP.own F [.slice A len cap] xs⟩):xs.length=len:=by
 obtain⟨⟨A',cap',E,cells,Fs,hcs,_⟩,-⟩:=H.diAt (DY h);simp only[Eu,Value.slice.injEq,and_true]at hcs;exact hcs.2.1.symm
end AT
namespace AT
open Go Go.RowKit
def MP.and (p q:MP):MP:=⟨λw S=>p.pred w S∧q.pred w S,λh hm=>⟨p.mono h.1 hm,q.mono h.2 hm⟩⟩
theorem Mem.lendQ {w:World} {w0:Base} {S:Nat→Prop} {M:List Blk} {R:List Row} {D:List DI} {I:List (Bool×MP)} (H:Mem w0 S M R D I w) (j:Nat) {F:List Nat} {p q:MP} (hj:D[j]?=some ⟨F,p⟩) (hq:∀w S,p.pred w S→q.pred w S):Mem w0 S M R D ((true,q)::I) w :=
  H.push _ (hq _ _ (p.mono (H.diAt (DY hj)) λb hb _=>⟨MemZ.fd_st H (wF (DY hj)) hb _,rfl⟩))
end AT
namespace AT
open Go Go.RowKit
section
variable {P:Program} {a:Act} {w:World} {n:Nat} {L:List (Nat×Value)} {dst:Option Tmp} {ty:TypeId} {pos:String} {af:Array Edge} {g:Option (Nat×Bool)}
def nM (fs:List Field) (xs ys:List Int):Bool:=fs.all λf=>(xs[f.offset]?).getD 0==(ys[f.offset]?).getD 0
structure QS (P:Program) (T:TypeId) (fs:List Field) (m:Nat):Prop where
  u:P.underlying T=some (.struct fs.toArray)
  s:P.stoodInHeld T=false
  f : ∀ f ∈ fs, (f.name == "_") = false ∧ f.offset < m ∧ PT P f.type ∧ ∃ k, P.underlying f.type = some (.int k)
theorem oV {E:TypeId} {xs:List Int} {j:Nat} (hE:PT P E) (hj:j<xs.length) (w:World):(part E (xs.map (Value.int .i64)).toArray j).run P w=.ok (.int .i64 ((xs[j]?).getD 0)) w:=by
 have hE1:∀w,(isAgg E).run P w=.ok false w:=λw=>(hE w).1;have e:xs[j]?=some xs[j]:=Dy hj;simp [part,hE1,e,hj]
theorem tM {E:TypeId} {k:IntKind} {d:Nat} {i j:Int} (hE:P.underlying E=some (.int k)) (w:World):(Op.equalIn (d + 1) E (.int .i64 i) (.int .i64 j)).run P w=.ok (i==j) w:=by
 simp [Op.equalIn,run_underlying hE]
theorem eqS {T:TypeId} {fs:List Field} {m:Nat} (hq:QS P T fs m) (xs ys:List Int) (hx:xs.length=m) (hy:ys.length=m) (w:World):(Op.equal T (.agg (xs.map (Value.int .i64)).toArray) (.agg (ys.map (Value.int .i64)).toArray)).run P w=.ok (nM fs xs ys) w:=by
 obtain⟨hu,hs,hf⟩:=hq;unfold Op.equal Op.maxDepth;rw[show (10000:Nat)=9999 + 1 from rfl,Op.equalIn];simp [run_underlying hu,hs];clear hu hs;induction fs with
 | nil=>simp [nM]
 | cons f fs ih =>
   obtain⟨h1,h2,h3,k,h4⟩:=hf f (by simp)
   have h1' : ¬ f.name = "_" := by simpa using h1
   have ih':=ih λg hg=>hf g (D7 _ hg)
   have hpx:=oV (xs:=xs) (j:=f.offset) h3 (by omega) w
   have hpy:=oV (xs:=ys) (j:=f.offset) h3 (by omega) w
   have heq:(Op.equalIn 9999 f.type (.int .i64 ((xs[f.offset]?).getD 0)) (.int .i64 ((ys[f.offset]?).getD 0))).run P w=.ok ((xs[f.offset]?).getD 0==(ys[f.offset]?).getD 0) w:=tM (d:=9998) h4 w
   have hs:nM (f::fs) xs ys=((xs[f.offset]?).getD 0==(ys[f.offset]?).getD 0&&nM fs xs ys):=rfl
   rw[hs]
   clear hs ih
   rw[List.forIn_cons]
   simp only[h1',if_false,Sem.run_bind,hpx,hpy,Result.andThen_ok,heq]
   cases hc:((xs[f.offset]?).getD 0==(ys[f.offset]?).getD 0)
   · simp
   · simpa using ih'
theorem AQ (hf:Fr a n L) {T U:TypeId} {fs:List Field} {m:Nat} (hq:QS P T fs m) (hg:P.eqGuardType P.depth T=false) {x y:Operand} {cs ds:List Value} {xs ys:List Int} (hx:ev L x=some (.agg cs.toArray)) (hy:ev L y=some (.agg ds.toArray))
    (hc:cs=xs.map (Value.int .i64)) (hd:ds=ys.map (Value.int .i64)) (h1:xs.length=m) (h2:ys.length=m) :
    (execOp a.eval ⟨dst,.binOp .eql T x y U,ty,pos,af,g⟩).run P w=.ok (.value (.bool (nM fs xs ys))) w:=by
 subst hc hd;have:=eqS hq xs ys h1 h2 w;simp [execOp,hf.eval hx,hf.eval hy,eqGuard,binOp,this,hg]
def flds (P:Program) (T:TypeId):List Field:=match P.underlying T with
  | some (.struct fs)=>fs.toList
  | _=>[]
structure EQT (P:Program) (T:TypeId) (m:Nat) (E:TypeId):Prop where
  u:P.underlying T=some (.struct (flds P T).toArray)
  s:P.stoodInHeld T=false
  g:P.eqGuardType P.depth T=false
  o:(flds P T).map (·.offset)=List.range m
  f : ((flds P T).all fun f => !(f.name == "_") && f.type == E) = true
  p:PT P E
  i:∃k,P.underlying E=some (.int k)
theorem EQT.qs {T:TypeId} {m:Nat} {E:TypeId} (h:EQT P T m E):QS P T (flds P T) m:=by
 refine⟨h.u,h.s,λf hf=>?_⟩;have h1:=Eo.1 h.f f hf;simp only[DC,D9,beq_iff_eq]at h1;have h2:f.offset∈List.range m:=by rw[←h.o]; exact List.mem_map_of_mem hf
 exact⟨h1.1,Et.1 h2,h1.2▸h.p,h1.2▸h.i⟩
theorem sQ {fs:List Field} {m:Nat} (ho:fs.map (·.offset)=List.range m) (xs ys:List Int) (h1:xs.length=m) (h2:ys.length=m):nM fs xs ys=(xs==ys):=by
 have e:nM fs xs ys=(List.range m).all λj=>(xs[j]?).getD 0==(ys[j]?).getD 0:=by
   rw[←ho,List.all_map]; rfl
 rw[e,Ej,beq_iff_eq,Eo];constructor;intro h;apply Fx (by omega);intro j a b;have:=h j (Et.2 (by omega));rw[Dy a,Dy b,beq_iff_eq]at this;exact this;rintro rfl j _;simp
theorem wv (hf:Fr a n L) {T U:TypeId} {m:Nat} {E:TypeId} (hq:EQT P T m E) (xs ys:List Int) {x y:Operand} {cs ds:List Value} (hx:ev L x=some (.agg cs.toArray)) (hy:ev L y=some (.agg ds.toArray))
    (hc:cs=xs.map (Value.int .i64)) (hd:ds=ys.map (Value.int .i64)) (h1:xs.length=m) (h2:ys.length=m) :
    (execOp a.eval ⟨dst,.binOp .eql T x y U,ty,pos,af,g⟩).run P w=.ok (.value (.bool (xs==ys))) w:=by
 rw[←sQ hq.o xs ys h1 h2]; exact AQ hf hq.qs hq.g hx hy hc hd h1 h2
end
end AT
namespace AT
open Go Go.RowKit
def sH (P:Program) (f:FuncId) (s:Nat):Prop:=∀(w:World) (A A2:Option Addr) (n cap m cap2:Nat) (E E2:TypeId) (cells vs:List Value) (i:Nat),w.ownsRow 0 E s (.slice A n cap) n cells→w.ownsRow 0 E2 s (.slice A2 m cap2) m vs→(∀u∈cells,u.oneCell'=true)→(∀u∈vs,u.oneCell'=true) →
  (∀b,(Value.slice A n cap).ownBlock=some b→(Value.slice A2 m cap2).ownBlock≠some b)→i≤n→n + m≤1099511627776 →
  Calls P f #[.slice A n cap,.int .i64 i,.slice A2 m cap2] w λe w'=>∃v,e=.returned v∧∃E1 A1 cap1,v=.slice A1 (n + m) cap1∧GB w w' (Value.slice A n cap).ownBlock ∧
    ((Value.slice A1 (n + m) cap1).ownBlock=(Value.slice A n cap).ownBlock∨((Value.slice A1 (n + m) cap1).ownBlock=some w.heap.size∧w.heap.size<w'.heap.size))∧w'.ownsRow 0 E1 s (.slice A1 (n + m) cap1) (n + m) (cells.take (i * s)++(vs++cells.drop (i * s)))
section
variable {P:Program} {Q:Exit→Act→World→Prop} {a:Act} {w:World} {w0:Base} {n:Nat} {L:List (Nat×Value)} {K:Act→World→Prop} {S:Nat→Prop} {M:List Blk} {D:List DI} {I:List (Bool×MP)} {d:Tmp} {ty:TypeId} {pos:String} {af:Array Edge} {g:Option (Nat×Bool)}
variable {α:Type} [GoTy α]
theorem rp (cells:List Value) (j q:Nat):xp α (cells.drop (j * GoTy.n α)) q=xp α cells (q + j):=by
 unfold xp;rw[Ga,Fg,GH]
theorem rn (cells:List Value) {i q:Nat} (h:q<i):xp α (cells.take (i * GoTy.n α)) q=xp α cells q:=by
 unfold xp;have h1:(q + 1) * GoTy.n α≤i * GoTy.n α:=D5 _ h;rw[Fg,Nat.one_mul]at h1;rw[Gm,Ft];congr 1;omega
theorem take_len {cells:List Value} {m i:Nat} (hl:cells.length=m * GoTy.n α) (h:i≤m):(cells.take (i * GoTy.n α)).length=i * GoTy.n α:=by
 have:=D5 (GoTy.n α) h;rw[DO];omega
theorem row_one {E:TypeId} {A:Option Addr} {cap:Nat} {xs:List α} {cells:List Value} (h:lrep w (λ_=>True) [.slice A xs.length cap] xs) (ho:w.ownsRow 0 E (GoTy.n α) (.slice A xs.length cap) xs.length cells):∀u∈cells,u.oneCell'=true:=by
 obtain⟨A',c',hcs,hyc,hcm,hel⟩:=h;simp only[Eu,Value.slice.injEq,and_true]at hcs;obtain⟨rfl,-,rfl⟩:=hcs;rcases ho.2 with ⟨hv,h0⟩ | ⟨gb,cap',cur,hv,hrest⟩
 have:cells=[]:=EU (by rw[ho.1,h0,FX]);subst this;intro u hu; cases hu
 simp only[Value.slice.injEq]at hv;obtain⟨rfl,-,rfl⟩:=hv;obtain⟨news,g1,g2,g3,_⟩:=gather (w:=w) (T:=λ_=>True) (p:=⟨gb,0,none⟩) xs 0 (λk x hx=>by
   obtain⟨p',hp',_,h⟩:=hel k x hx
   injection hp' with hp'; subst hp'
   rwa [Ey])
 simp only[FX,Ey]at g2;intro u hu;obtain⟨j,hj,rfl⟩:=Ee.1 hu;have hc:=ho.cells (g:=gb) rfl j _ (Dy hj);have hjn:j<news.length:=by rw[g1,←ho.1]; exact hj
 have hn:=g2 j _ (Dy hjn);rw[hc]at hn;injection hn with hn
 rw[hn];exact g3 _ (D6 hjn)
theorem Ad {R:List Row} (hf:Fr a n L) {α:Type} [GoTy α] {f:FuncId} {E0 E':TypeId} {Fs Gs:List (List Nat)} {A A':Option Addr} {cap cap':Nat} {xs ys zs:List α} {i:Int}
    (H:Mem w0 S M (⟨.ow Fs,E0,A,cap,xs⟩::⟨.ow Gs,E',A',cap',ys⟩::R) D I w) (hk:CL P f) (hs:sH P f (GoTy.n α)) {x y z:Operand} (hxs:evs L [x,y,z]=some [.slice A xs.length cap,.int .i64 i,.slice A' ys.length cap']) {ats:Array TypeId} (hd:insl xs i ys=some zs) (hdn:d<n)
    (k:∀Fs' E1 A2 cap2 a' w',Fr a' n ((d,.slice A2 zs.length cap2)::L)→Mem w0 S M (⟨.ow Fs',E1,A2,cap2,zs⟩::R) D I w'→K a' w'):Oper.wp P ⟨some d,.call ⟨.value (.func f),[x,y,z].toArray,ats⟩,ty,pos,af,g⟩ a w K Q:=by
  obtain⟨cells,ho,hfit,he⟩:=H.rowAt (r:=⟨.ow Fs,E0,A,cap,xs⟩) (by simp);obtain⟨cells',ho',hfit',he'⟩:=H.rowAt (r:=⟨.ow Gs,E',A',cap',ys⟩) (by simp);unfold insl at hd;split at hd
  case isFalse=>cases hd
  rename_i hij;injection hd with hd
  obtain⟨i,rfl⟩:=Hd hij.1;simp only[Int.ofNat_eq_natCast,EZ]at hd hij hxs;have hzl:zs.length=xs.length + ys.length:=by rw[←hd]; simp; omega
  have hcl:cells.length=xs.length * GoTy.n α:=ho.1;have hcl':cells'.length=ys.length * GoTy.n α:=ho'.1;have hfl:Fs.length=xs.length:=hfit;have hfl':Gs.length=ys.length:=hfit';have hp:(AT.zs M (⟨.ow Fs,E0,A,cap,xs⟩::⟨.ow Gs,E',A',cap',ys⟩::R) D).Perm ([Row.res ⟨.ow Fs,E0,A,cap,xs⟩,Row.res ⟨.ow Gs,E',A',cap',ys⟩]++AT.zs M R D):=(aX _).trans ((aX _).append_left [_]);have H1:=MemZ.perm H hp;have hnd:=MemZ.nd H1;rw[uZ,ep]at hnd;have hnd':=(DW.1 hnd).1;have hlt:∀b∈allZ [Row.res ⟨.ow Fs,E0,A,cap,xs⟩,Row.res ⟨.ow Gs,E',A',cap',ys⟩],b<w.heap.size:=λb hb=>(MemZ.lt H1 b (by rw[uZ]; exact Dx.2 (.inl hb))).2;have e0:(Row.res ⟨.ow Fs,E0,A,cap,xs⟩).all=(Value.slice A xs.length cap).ownBlock.toList++List.flatten Fs:=rfl;have e1:(Row.res ⟨.ow Gs,E',A',cap',ys⟩).all=(Value.slice A' ys.length cap').ownBlock.toList++List.flatten Gs:=rfl;rw[e0,e1]at hnd';refine iT hf hk hxs hdn (hs w A A' xs.length cap ys.length cap' E0 E' cells cells' i ho ho' (row_one (H.rowTrue 0 rfl) ho) (row_one (H.rowTrue 1 rfl) ho') (λb hb hb'=>?_) (by omega) (by omega)) λv w' a' hp hf'=>?_
  · have h1:b∈(Value.slice A xs.length cap).ownBlock.toList:=by rw[hb]; simp
    have h2:b∈(Value.slice A' ys.length cap').ownBlock.toList:=by rw[hb']; simp
    exact (DW.1 hnd').2.2 b (Dx.2 (.inl h1)) b (Dx.2 (.inl h2)) rfl
  obtain⟨E1,A2,cap2,rfl,h2,h4,h3⟩:=hp;rw[←hzl]at h3 hf' h4;refine k (Fs.take i++(Gs++Fs.drop i)) E1 A2 cap2 a' w' hf' ?_;have hperm:(List.flatten (Fs.take i++(Gs++Fs.drop i))).Perm (List.flatten Fs++List.flatten Gs):=by
    have h:List.flatten Fs=List.flatten (Fs.take i)++List.flatten (Fs.drop i):=by rw[←Gx,Fp]
    rw[Gx,Gx,h,DD]
    exact FO.append_left _
  have e2:(Row.res ⟨.ow (Fs.take i++(Gs++Fs.drop i)),E1,A2,cap2,zs⟩).all=(Value.slice A2 zs.length cap2).ownBlock.toList++List.flatten (Fs.take i++(Gs++Fs.drop i)):=rfl;have hxg:∀b,b∈(Value.slice A2 zs.length cap2).ownBlock.toList→b∈(Value.slice A xs.length cap).ownBlock.toList∨(w.heap.size≤b∧b<w'.heap.size):=λb hb=>by
    rcases h4 with h | ⟨h,h'⟩
    · rw[h]at hb; exact .inl hb
    · rw[h]at hb; simp at hb; subst hb; exact .inr ⟨D3 _,h'⟩
  have hflat:(List.flatten Fs++List.flatten Gs).Nodup:=by
    refine GA ?_ hnd'
    exact (EX _ _).append (EX _ _)
  refine MemZ.perm (MemZ.step (rs':=[Row.res ⟨.ow (Fs.take i++(Gs++Fs.drop i)),E1,A2,cap2,zs⟩]) H1 ⟨h2.os,h2.tape,h2.output,h2.size,λb hb hx=>h2.block b hb λe=>hx ?_,h2.drawn⟩ (λb hb=>?_) (λb hb=>?_) ?_ (λhm q hq=>?_)) (aX _).symm
  · rw[mu]; exact Dx.2 (.inl (by show b∈(Value.slice A xs.length cap).ownBlock.toList; rw[←e]; simp))
  · rw[vA,e2]at hb
    rw[ep,e0,e1]
    rcases Dx.1 hb with h | h
    · exact (hxg b h).imp (λh=>Dx.2 (.inl (Dx.2 (.inl h)))) id
    · rcases Dx.1 (hperm.mem_iff.1 h) with h | h
      · exact .inl (Dx.2 (.inl (Dx.2 (.inr h))))
      · exact .inl (Dx.2 (.inr (Dx.2 (.inr h))))
  · rw[cF]at hb; rw[mu]
    exact (hxg b hb).imp (λh=>Dx.2 (.inl h)) (·.1)
  · rw[vA,e2]
    refine ((GE _).append hperm).nodup_iff.2 ?_
    rcases h4 with h | ⟨h,h'⟩
    · rw[h]
      refine GA ?_ hnd'
      rw[←DD]
      exact (FG _).append (EX _ _)
    · rw[h]
      simp only[GY,EC,EP]
      refine⟨λhb=>?_,hflat⟩
      have:=hlt w.heap.size (by
        rw[ep,e0,e1]
        simp only[Dx]at hb ⊢
        exact hb.imp .inr .inr)
      omega
  · rw[DU]at hq; subst hq
    have hsame:∀b,b∈List.flatten Fs++List.flatten Gs→w'.heap[b]?=w.heap[b]?:=λb hb=>by
      refine h2.block b (hlt b ?_) λe=>?_
      · rw[ep,e0,e1]
        simp only[Dx]at hb ⊢
        exact hb.imp .inr .inr
      · have hm:b∈(Value.slice A xs.length cap).ownBlock.toList:=by rw[←e]; simp
        rw[DD]at hnd'
        refine (DW.1 hnd').2.2 b hm b ?_ rfl
        simp only[Dx]at hb ⊢
        exact hb.imp id .inr
    refine⟨_,h3,by simp only[Kd.fits,DR,DO,Er]; omega,λq e hi Fi hFi=>?_⟩
    simp only at hi
    rw[←hd]at hi
    have htl:(xs.take i).length=i:=by rw[DO]; omega
    have htf:(Fs.take i).length=i:=by rw[DO]; omega
    have htc:=take_len hcl (show i≤xs.length by omega)
    rw[EF]at hi hFi
    rw[htl]at hi
    rw[htf]at hFi
    split at hi
    · rename_i hq
      rw[if_pos hq,D8 hq]at hFi
      rw[D8 hq]at hi
      rw[eK htc hq,rn _ hq]
      exact GoTy.own_mono (he q e hi Fi hFi) λb hb=>hsame b (Dx.2 (.inl (eM hFi hb)))
    · rename_i hq
      rw[if_neg hq]at hFi
      rw[fM htc (by omega)]
      rw[EF]at hi hFi
      rw[hfl']at hFi
      split at hi
      · rename_i hq2
        rw[if_pos hq2]at hFi
        rw[eK hcl' hq2]
        exact GoTy.own_mono (he' _ e hi Fi hFi) λb hb=>hsame b (Dx.2 (.inr (eM hFi hb)))
      · rename_i hq2
        rw[if_neg hq2,Em]at hFi
        rw[Em]at hi
        rw[fM hcl' (by omega),rp,GH]
        exact GoTy.own_mono (he _ e hi Fi hFi) λb hb=>hsame b (Dx.2 (.inl (eM hFi hb)))
end
end AT
namespace AT
open Go Go.RowKit
section
variable {P:Program} {Q:Exit→Act→World→Prop} {a:Act} {w:World} {n:Nat} {L:List (Nat×Value)} {K:Act→World→Prop} {d:Nat} {dst:Option Tmp} {ty:TypeId} {pos:String} {af:Array Edge} {g:Option (Nat×Bool)}
variable {i j cap:Nat}
theorem ga (h:i + j≤1099511627776):w64 ((i:Int) + (j:Int))=((i + j:Nat):Int):=by rw[vt (by omega) (by omega)]; omega
theorem sM (h0:i≤j) (h:j≤1099511627776):w64 ((j:Int) - (i:Int))=((j - i:Nat):Int):=by rw[vt (by omega) (by omega)]; omega
theorem b_lo {len:Nat} (h:i≤len):(Instr.sliceBounds true len cap (some (.int .i64 (i:Int))) none none).run P w=.ok (i,len,cap) w:=by
 simp [Instr.sliceBounds,Instr.sliceBound,asIntOf,h]
theorem b_hi {len:Nat} (h:j≤cap):(Instr.sliceBounds true len cap none (some (.int .i64 (j:Int))) none).run P w=.ok (0,j,cap) w:=by
 simp [Instr.sliceBounds,Instr.sliceBound,asIntOf,h]
def cutA (A:Option Addr) (s i m:Nat):Option Addr:=if m=i then A else A.map (·.add (i * s))
variable {s m:Nat}
theorem bE {T E:TypeId} (hT:P.underlying T=some (.slice E)) (hE:SZ P E s) {A:Option Addr} {len cap:Nat} {lov hiv mxv:Option Value} {i j m:Nat} (hb:∀w,(Instr.sliceBounds true len cap lov hiv mxv).run P w=.ok (i,j,m) w) :
    ∀w,(Instr.sliceAt T (.slice A len cap) lov hiv mxv).run P w=.ok (.slice (cutA A s i m) (j - i) (m - i)) w:=by
 intro w;have hE':∀w,(Go.sizeOf E).run P w=.ok s w:=hE;simp [Instr.sliceAt,Instr.slice,run_underlying hT,hb,hE',cutA]
theorem dA (hf:Fr a n L) {T:TypeId} {x:Operand} {u r:Value} (hx:ev L x=some u) {lo hi mx:Option Operand} {lov hiv mxv:Option Value} (hlo:evo L lo=some lov) (hhi:evo L hi=some hiv) (hmx:evo L mx=some mxv) (h:∀w',(Instr.sliceAt T u lov hiv mxv).run P w'=.ok r w') :
    ∀w,(execOp a.eval ⟨dst,.slice T x lo hi mx,ty,pos,af,g⟩).run P w=.ok (.value r) w:=by
 intro w;simp [execOp,hf.eval hx,gW hf hlo,gW hf hhi,gW hf hmx,h]
theorem fp {g o:Nat} (h:m≠i):cutA (some ⟨g,o,none⟩) s i m=some ⟨g,o + i * s,none⟩:=by
 unfold cutA;rw[if_neg h,Gf,add_lit]
theorem jI {A:Option Addr} (hA:∀p,A=some p→p.spot=none):cutA A s 0 m=A:=by
 unfold cutA;split
 rfl;cases A with
 | none=>rfl
 | some p =>
   have:=hA p rfl
   cases p; simp only at this; subst this
   simp [Addr.add]
structure GS (w0 w:World) (g:Nat) (E:TypeId) (cur:List Value):Prop where
  os:w.os=w0.os
  tape:w.tape=w0.tape
  output:w.output=w0.output
  size:w0.heap.size≤w.heap.size
  old:∀k,k<w0.heap.size→k≠g→w.heap[k]?=w0.heap[k]?
  at_:w.heap[g]?=some (.cells cur.toArray E (0,0))
  drawn:w0.drawn≤w.drawn
variable {w0 w1:World} {E:TypeId} {cur:List Value}
theorem GS.below {g:Nat} (h:GS w0 w g E cur) (hg:g<w0.heap.size) (hb:Below w.heap.size w w1):GS w0 w1 g E cur :=
  ⟨hb.os.trans h.os,hb.tape.trans h.tape,hb.output.trans h.output,EJ h.size hb.size,λk hk hne=>(hb.block k (by have:=h.size; omega)).trans (h.old k hk hne),(hb.block g (by have:=h.size; omega)).trans h.at_,EJ h.drawn hb.drawn⟩
theorem GS.below' {g:Nat} (h:GS w0 w g E cur) (hg:g<w.heap.size) (hb:Below w.heap.size w w1):GS w0 w1 g E cur :=
  ⟨hb.os.trans h.os,hb.tape.trans h.tape,hb.output.trans h.output,EJ h.size hb.size,λk hk hne=>(hb.block k (by have:=h.size; omega)).trans (h.old k hk hne),(hb.block g hg).trans h.at_,EJ h.drawn hb.drawn⟩
theorem GS.lt {g:Nat} (h:GS w0 w g E cur):g<w.heap.size:=(ES.1 h.at_).1
theorem GS.set {g:Nat} (h:GS w0 w g E cur) (new:Array Value):GS w0 (w.setRow g new) g E new.toList :=
  ⟨h.os,h.tape,h.output,by simpa using h.size,λk hk hne=>(setRow_other w g k new hne).trans (h.old k hk hne),by rw[FSq]; exact setRow_heap w g _ new E _ h.at_,h.drawn⟩
theorem GS.cell {w0 w:World} {g:Nat} {E:TypeId} {cur:List Value} (h:GS w0 w g E cur) (j:Nat):w.cell? ⟨g,j,none⟩=cur[j]?:=by
 simp [World.cell?,h.at_]
theorem GS.start {g:Nat} {cur:Array Value} (h:w.heap[g]?=some (.cells cur E (0,0))):GS w w g E cur.toList :=
  ⟨rfl,rfl,rfl,D3 _,λ_ _ _=>rfl,by rw[FSq]; exact h,D3 _⟩
theorem GS.grown {g:Nat} (h:GS w0 w g E cur) (o:Option Nat) (ho:g<w0.heap.size→o=some g):GB w0 w o :=
  ⟨⟨h.os,h.tape,h.output,h.size,λk hk hne=>h.old k hk λe=>by subst e; exact hne (ho hk).symm⟩,h.drawn⟩
theorem GS.other {g b:Nat} (h:GS w0 w g E cur) (hb:b<w0.heap.size) (hne:b≠g) (j:Nat):w.cell? ⟨b,j,none⟩=w0.cell? ⟨b,j,none⟩:=by
 simp [World.cell?,h.old b hb hne]
theorem GS.alloc (w:World) (cs:Array Value) (E:TypeId):GS w (w.drew.alloc (.cells cs E)) w.heap.size E cs.toList :=
  ⟨rfl,rfl,rfl,by simp,λk hk _=>heap_alloc_old w.drew _ hk,by rw[FSq]; exact heap_alloc_new w.drew _,Nat.le_succ _⟩
def lay (cur:List Value) (o:Nat) (cs:List Value):List Value:=cur.take o++cs++cur.drop (o + cs.length)
variable {o k gb:Nat} {cs:List Value} {T E0:TypeId}
theorem gQ (h:o + cs.length≤cur.length):(lay cur o cs).length=cur.length:=by
 unfold lay;simp only[DR,DO,Er];omega
theorem pd (h:o≤cur.length):(lay cur o cs).take (o + cs.length)=cur.take o++cs:=by
 unfold lay;rw[EM (by simp only[DR,DO]; omega)];exact Fj (by simp only[DR,DO]; omega)
theorem gP (h:o≤cur.length) (hk:k≤o):(lay cur o cs).take k=cur.take k:=by
 unfold lay;rw[DD,EM (by rw[DO]; omega),Ft,ER hk]
theorem tB (h:o≤cur.length):(lay cur o cs).drop o=cs++cur.drop (o + cs.length):=by
 unfold lay;rw[DD,Gc (by rw[DO]; omega),En (by rw[DO]; omega),Ek]
theorem Af {vs:List Value} (h:o + vs.length + cs.length≤cur.length):(lay (lay cur (o + vs.length) cs) o vs).take (o + vs.length + cs.length)=cur.take o++(vs++cs):=by
 have hl:(lay cur (o + vs.length) cs).length=cur.length:=gQ h;have hd:=tB (cur:=cur) (o:=o + vs.length) (cs:=cs) (by omega);have ht:=gP (cur:=cur) (o:=o + vs.length) (k:=o) (cs:=cs) (by omega) (by omega);have e:lay (lay cur (o + vs.length) cs) o vs=(lay cur (o + vs.length) cs).take o++vs++(lay cur (o + vs.length) cs).drop (o + vs.length):=rfl;rw[e,hd,ht,←DD,EM (by simp only[DR,DO]; omega),Fj (by simp only[DR,DO]; omega),DD]
theorem kV {z:Value} {c:Nat} (hT:P.underlying T=some (.slice E)) (hZ:ZV P E z) (hz:z.cells.size=s) (h1:∀u∈z.cells.toList,u.oneCell'=true) (hs:0<s) (hk:0<k) (h:GS w0 w gb E0 cur) (hfit:o + k * s≤cur.length) :
    ∃zs:List Value,zs.length=k * s∧(Builtin.clear_ #[T] ty #[.slice (some ⟨gb,o,none⟩) k c]).run P w=.ok (.tuple #[]) (w.setRow gb (lay cur o zs).toArray):=by
 have hlen:(Builtin.zeroCells z.cells k).toList.length=k * s:=by rw[El,size_zeroCells,hz]
 have hone:∀v∈(Builtin.zeroCells z.cells k).toList,v.oneCell'=true:=by
   intro v hv
   unfold Builtin.zeroCells at hv
   simp only[Array.toList_map,Eh]at hv
   obtain⟨i,hi,rfl⟩:=hv
   have:i % z.cells.size<z.cells.size:=Nat.mod_lt _ (by omega)
   rw[getElem!_pos z.cells _ this]
   exact h1 _ (by simp)
 have hst:=run_storeCells_at P gb o E0 (Builtin.zeroCells z.cells k).toList 0 cur.toArray w h.at_ (by simp only[Fe]; omega) hone;have hZ':∀w,(zeroValue E).run P w=.ok z w:=hZ;obtain⟨m,rfl⟩:∃m,k=m + 1:=⟨k - 1,by omega⟩;refine⟨(Builtin.zeroCells z.cells (m + 1)).toList,hlen,?_⟩;simp only[Ez]at hst;simp [Builtin.clear_,run_underlying hT,hZ',hst,lay]
theorem ij {U:TypeId} {dLen dCap:Nat} {p:Addr} {sLen sCap:Nat} (hT:P.underlying T=some (.slice E)) (hE:SZ P E s) (h:GS w0 w gb E0 cur) (hk:Nat.min sLen dLen=k) (hl:cs.length=k * s)
    (hsrc:∀j v,cs[j]?=some v→w.cell? (p.add j)=some v) (hfit:o + cs.length≤cur.length) (h1:∀v∈cs,v.oneCell'=true) :
    (Builtin.copy_ #[T,U] ty #[.slice (some ⟨gb,o,none⟩) dLen dCap,.slice (some p) sLen sCap]).run P w=.ok (goInt k) (w.setRow gb (lay cur o cs).toArray):=by
 have hE':∀w,(Go.sizeOf E).run P w=.ok s w:=hE;have hfc:=run_firstCells_some (P:=P) w s k p sLen sCap cs hl hsrc;have hst:=run_storeCells_at P gb o E0 cs 0 cur.toArray w h.at_ (by simpa using hfit) h1;simp only[Ez]at hst;simp [Builtin.copy_,run_underlying hT,Builtin.lenOf,hE',hk,hfc,hst,lay]
theorem gi (hf:Fr a n L) {T U:TypeId} {x y:Operand} {v u:Value} (hx:ev L x=some v) (hy:ev L y=some u) {r:Value} {w':World} (hr:(Builtin.copy_ #[T,U] ty #[v,u]).run P w=.ok r w') (hdn:d<n)
    (k:∀a',Fr a' n ((d,r)::L)→K a' w'):Oper.wp P ⟨some d,.call ⟨.builtin .copy,#[x,y],#[T,U]⟩,ty,pos,af,g⟩ a w K Q:=by
 have h1:(execOp a.eval ⟨some d,.call ⟨.builtin .copy,#[x,y],#[T,U]⟩,ty,pos,af,g⟩).run P w=.ok (.value r) w':=by
   simp [execOp,resolve,invoke,builtin,hf.eval hx,hf.eval hy,hr]
 unfold Oper.wp;rw[h1,Oper.upon_value];exact k _ (hf.put hdn r)
theorem jY (hf:Fr a n L) {T:TypeId} {x:Operand} {v:Value} (hx:ev L x=some v) {r:Value} {w':World} (hr:(Builtin.clear_ #[T] ty #[v]).run P w=.ok r w')
    (k:∀a',Fr a' n L→K a' w'):Oper.wp P ⟨none,.call ⟨.builtin .clear,#[x],#[T]⟩,ty,pos,af,g⟩ a w K Q:=by
 have h1:(execOp a.eval ⟨none,.call ⟨.builtin .clear,#[x],#[T]⟩,ty,pos,af,g⟩).run P w=.ok (.value r) w':=by
   simp [execOp,resolve,invoke,builtin,hf.eval hx,hr]
 unfold Oper.wp;rw[h1,Oper.upon_value];exact k _ hf
theorem mX (hf:Fr a n L) {T U:TypeId} {x y:Operand} {v u:Value} (hx:ev L x=some v) (hy:ev L y=some u) {r:Value} {w':World} (hr:(Builtin.append_ #[T,U] ty #[v,u]).run P w=.ok r w') (hdn:d<n)
    (k:∀a',Fr a' n ((d,r)::L)→K a' w'):Oper.wp P ⟨some d,.call ⟨.builtin .append,#[x,y],#[T,U]⟩,ty,pos,af,g⟩ a w K Q:=by
 have h1:(execOp a.eval ⟨some d,.call ⟨.builtin .append,#[x,y],#[T,U]⟩,ty,pos,af,g⟩).run P w=.ok (.value r) w':=by
   simp [execOp,resolve,invoke,builtin,hf.eval hx,hf.eval hy,hr]
 unfold Oper.wp;rw[h1,Oper.upon_value];exact k _ (hf.put hdn r)
theorem q5 (hf:Fr a n L) {T E:TypeId} (hT:P.underlying T=some (.slice E)) {x:Operand} {A:Option Addr} {m c:Nat} (hx:ev L x=some (.slice A m c)):∀w,(execOp a.eval ⟨dst,.call ⟨.builtin .cap,#[x],#[T]⟩,ty,pos,af,g⟩).run P w=.ok (.value (.int .i64 (c:Int))) w:=by
 intro w;simp [execOp,resolve,invoke,builtin,hf.eval hx,Builtin.cap_,run_underlying hT,goInt]
theorem AP (hf:Fr a n L) {f:FuncId} {xs:List Operand} {ats:Array TypeId} {vs:List Value} (hxs:evs L xs=some vs) {r:Value} (h:(callFunc f vs.toArray).run P w=.ok (.value r) w) :
    (execOp a.eval ⟨dst,.call ⟨.value (.func f),xs.toArray,ats⟩,ty,pos,af,g⟩).run P w=.ok (.value r) w:=by
 rw[execOp_call_go];simp only[Array.empty_append,Array.append_empty,Gr,hf.evals hxs,h]
theorem sA {f : FuncId} {fn : Func} {TR:TypeId} (hf : P.funcs[f]? = some fn) (hname : (fn.name == "runtime.NumGoroutine") = false) (hb : fn.body.isNone = true) (hn : Extern.findNext fn = none) (he : Extern.find fn = some (Extern.SlicesOverlaps.overlaps #[T, T] #[TR])) (hT : P.underlying T = some (.slice E)) (hE : SZ P E s)
    {b gb o la ca lb cb:Nat} (hne:b≠gb) {Eb Eg:TypeId} {curb curg:Array Value} (hvb:w.heap[b]?=some (.cells curb Eb (0,0))) (hvg:w.heap[gb]?=some (.cells curg Eg (0,0))) (hpos:curg.size≠0) :
    (callFunc f #[.slice (some ⟨b,0,none⟩) la ca,.slice (some ⟨gb,o,none⟩) lb cb]).run P w=.ok (.value (.bool false)) w:=by
 rw[run_callFunc_extern hf hname hb hn he];have:=Lib.run_overlaps_apart (P:=P) w T TR E hT s hE ⟨b,0,none⟩ ⟨gb,o,none⟩ la ca lb cb hne Eb Eg curb.size curg.size (by simp [World.shape?,hvb]) (by simp [World.shape?,hvg]) hpos (by simp [World.frozen?,hvb]) (by simp [World.frozen?,hvb]);rw[this];rfl
def pE (P:Program) (f:FuncId) (E:TypeId) (s:Nat):Prop:=∀(w:World) (n:Nat),n≤1099511627776→Calls P f #[.slice none 0 0,.int .i64 (n:Int)] w λe w'=>∃v,e=.returned v∧((v=.slice none 0 0∧w'=w) ∨
  ∃(c:Nat) (cells:List Value),v=.slice (some ⟨w.heap.size,0,none⟩) 0 c∧w'=w.drew.alloc (.cells cells.toArray E)∧cells.length=c * s∧c≤maxLen)
variable {w0:Base} {S:Nat→Prop} {M:List Blk} {R:List Row} {D:List DI} {I:List (Bool×MP)}
theorem tt (hf:Fr a n L) (H:Mem w0 S M R D I w) (α:Type) [GoTy α] {f:FuncId} (E:TypeId) (hk:CL P f) (hs:pE P f E (GoTy.n α)) {x y:Operand} {i:Int} {zs:List α} (hxs:evs L [x,y]=some [.slice none 0 0,.int .i64 i]) {ats:Array TypeId} (hg:rZ i=some zs) (hdn:d<n)
    (k:∀A c a' w',Fr a' n ((d,.slice A zs.length c)::L)→Mem w0 S M (⟨.sh true,E,A,c,zs⟩::R) D I w'→K a' w'):Oper.wp P ⟨some d,.call ⟨.value (.func f),[x,y].toArray,ats⟩,ty,pos,af,g⟩ a w K Q:=by
  unfold rZ at hg;split at hg
  case isFalse=>cases hg
  rename_i hi;injection hg with hg
  subst hg;obtain⟨i,rfl⟩:=Hd hi.1;refine iT hf hk hxs hdn (hs w i (by omega)) λv w' a' hp hf'=>?_;rcases hp with ⟨rfl,rfl⟩ | ⟨c,cells,rfl,rfl,h1,h2⟩
  · exact k none 0 a' w' hf' (H.nilRow α (.sh true) rfl trivial E)
  · exact k _ c a' _ hf' ((H.keep ((Below.refl _ _).drew)).newRow (.sh true) rfl E ([]:List α) cells c (by simp) h2 h1 trivial (λq e hq=>by simp at hq))
end
end AT
namespace AT
open Go Go.RowKit
section
variable {w w1 w2:World} {S:Nat→Prop} {M:List Blk} {R:List Row} {D:List DI} {I:List (Bool×MP)}
end
end AT
namespace AT
open Go Go.RowKit
section
variable {w w' w1:World} {w0:Base} {S:Nat→Prop} {M:List Blk} {R:List Row} {D:List DI} {I:List (Bool×MP)}
theorem Mem.wroteBoxO (H:Mem w0 S M R D I w) (i:Nat) {b:Nat} {T:TypeId} {cs cs':List Value} (hi:M[i]?=some ⟨b,T,cs⟩) (hc:Chg w w' [b]) (hb:w'.heap[b]?=some (.cells cs'.toArray T (0,0)))
    {X:List DI} (hn:(X.flatMap DI.F).Nodup) (hX:∀d∈X,d.p.pred w' (·∈d.F)) (hl:∀b∈X.flatMap DI.F,w.heap.size≤b∧b<w'.heap.size):Mem w0 S (M.set i ⟨b,T,cs'⟩) R (X++D) I w':=by
 have hblt:b<w.heap.size:=by
   have h:=H.boxAt i hi
   rcases Fl b w.heap.size with h' | h'
   · exact h'
   · rw[EQ h']at h; cases h
 have hp1:(zs (M.set i ⟨b,T,cs'⟩) R (X++D)).Perm (([Blk.res ⟨b,T,cs'⟩]++X.map DI.res)++zs (M.eraseIdx i) R D):=by
   refine (gH (R:=R) (D:=X++D) ⟨b,T,cs'⟩ hi).trans ?_
   rw[DD]
   exact (fJ X).append_left _
 have ha:allZ ([Blk.res ⟨b,T,cs'⟩]++X.map DI.res)=b::X.flatMap DI.F:=by
   rw[uZ,vA,dz]; rfl
 have hf:fmZ ([Blk.res ⟨b,T,cs'⟩]++X.map DI.res)=[b]:=by
   rw[gV,cF,sc]; rfl
 refine MemZ.perm (MemZ.step (rs:=[Blk.res ⟨b,T,cs⟩]) (rs':=[Blk.res ⟨b,T,cs'⟩]++X.map DI.res) (MemZ.perm H (fI hi)) (hc.sub λx hx=>?_) (λx hx=>?_) (λx hx=>?_) ?_ (λ_ q hq=>?_)) hp1.symm;rw[cF]; simpa [Blk.res] using hx;rw[ha]at hx;rcases DZ.1 hx with rfl | hx
 left; rw[vA]; simp [Res.all,Blk.res];exact .inr (hl x hx);rw[hf]at hx;left; rw[cF]; simpa [Blk.res] using hx;rw[ha];exact EP.2 ⟨λh=>by have:=(hl b h).1; omega,hn⟩;rcases Dx.1 hq with h | h
 rw[DU]at h; subst h; exact hb;obtain⟨d,hd,rfl⟩:=Eh.1 h;exact⟨hX d hd,λc hc=>(hl c (Es.2 ⟨d,hd,hc⟩)).2⟩
theorem Mem.endsB {X:List DI} {b:Nat} {T:TypeId} {cs:List Value} (H:Mem ⟨w1,[b]⟩ S M R (X++D) I w) (i:Nat) (hi:M[i]?=some ⟨b,T,cs⟩):New w1 w (X.flatMap DI.F):=by
 have H1:=MemZ.perm H (fJ X);have h1:=MemZ.nd H1;rw[uZ,dz]at h1;refine⟨(DW.1 h1).1,λc hc=>?_⟩;obtain⟨h2,h3⟩:=MemZ.lt H1 c (by rw[uZ,dz]; exact Dx.2 (.inl hc));rcases h2 with h2 | h2
 exact⟨h2,h3⟩;have e:=DU.1 h2;subst e;exact absurd rfl ((DW.1 h1).2.2 c hc c (cK (pC hi)))
end
theorem uC {l l':List Value} {q:Nat} {A A':Option Addr} {m m' c c':Nat} (h:l'[q]?=l[q]?) (h1:l'[q]?=some (.slice A' m' c')) (h2:l[q]?=some (.slice A m c)):A=A'∧c=c':=by
 rw[h1,h2]at h;simp only[Ec,Value.slice.injEq]at h;exact⟨h.1.symm,h.2.2.symm⟩
section
variable {w w':World} {w0:Base} {S S1:Nat→Prop} {I I':List (Bool×MP)}
theorem MemZ.comp {rs rs' Z:List Res} {G:List Nat} (H:MemZ w0 S (rs++Z) I w) (hG:∀b∈G,b∈fmZ rs) (H':MemZ ⟨w,G⟩ S1 rs' I' w')
    (hS:((∀r∈rs',r.fresh=true)∧∀f∈I',f.1=true)∨S1=StZ w0 S (rs++Z) false):MemZ w0 S (rs'++Z) (I'++I) w':=by
 have hlt:∀b∈fmZ Z,b<w.heap.size∧b∉fmZ rs:=λb hb=>by
   have h1:=H.nd
   rw[uZ]at h1
   exact⟨(H.lt b (by rw[uZ]; exact Dx.2 (.inr (cK hb)))).2,λh=>(DW.1 h1).2.2 b (cK h) b (cK hb) rfl⟩
 have hmv:∀f,(f=true∨S1=StZ w0 S (rs++Z) false)→Moves w' w' (StZ ⟨w,G⟩ S1 rs' f) (StZ w0 S (rs'++Z) f):=λf hf b hb _=>by
   refine⟨?_,rfl⟩
   rcases hb with ⟨rfl,h1,h2⟩ | ⟨h1,h2⟩
   · rcases hf with hf | hf
     · cases hf
     · rw[hf]at h2
       have hn:b∉fmZ rs':=λh=>h1 (H'.lt b (cK h)).1
       rcases h2 with ⟨-,h3,h4⟩ | ⟨h3,h4⟩
       · exact .inl ⟨rfl,h3,h4⟩
       · refine .inr ⟨h3,?_⟩
         rw[gV]at h4 ⊢
         exact λh=>(Dx.1 h).elim hn λh=>h4 (Dx.2 (.inr h))
   · refine .inr ⟨?_,?_⟩
     · rcases h1 with h1 | h1
       · exact H.nw_new h1
       · exact (H.lt b (by rw[uZ]; exact Dx.2 (.inl (cK (hG b h1))))).1
     · rw[gV]
       refine λh=>(Dx.1 h).elim h2 λh=>?_
       rcases h1 with h1 | h1
       · have:=(hlt b h).1; simp only at h1; omega
       · exact (hlt b h).2 (hG b h1)
 have hb:=H'.below;have H2:MemZ w0 S (rs'++Z) I w':=by
   refine MemZ.step (rs:=rs) (rs':=rs') H ⟨hb.os,hb.tape,hb.output,hb.size,λk hk hn=>hb.block k ?_,hb.drawn⟩ (λb h=>?_) (λb h=>?_) H'.nd (λ_ r hr=>?_)
   · rintro (h | h)
     · simp only at h; omega
     · exact hn (hG k h)
   · obtain⟨h1,h2⟩:=H'.lt b h
     rcases h1 with h1 | h1
     · exact .inr ⟨h1,h2⟩
     · exact .inl (cK (hG b h1))
   · obtain⟨h1,h2⟩:=H'.lt b (cK h)
     rcases h1 with h1 | h1
     · exact .inr h1
     · exact .inl (hG b h1)
   · exact r.mono (H'.ok r hr) (λ_ _=>rfl) (hmv _ (hS.imp (λh=>h.1 r hr) id))
 refine⟨H2.below,H2.lt,H2.nd,H2.ok,λf hf=>?_⟩;rcases Dx.1 hf with h | h
 exact f.2.mono (H'.imm f h) (hmv _ (hS.imp (λhh=>hh.2 f h) id));exact H2.imm f h
end
section
variable {w w':World} {w0:Base} {S S1:Nat→Prop} {M:List Blk} {R R':List Row} {D D':List DI} {I I':List (Bool×MP)}
theorem wH (X:List Row):(zs M (X++R) D).Perm (X.map Row.res++zs M R D):=by
 unfold zs;rw[Hn,DD];have h:∀(A B C:List Res),(A++(B++C)).Perm (B++(A++C)):=λA B C=>by
   rw[←DD,←DD]; exact FO.append_right _
 exact h _ _ _
theorem oI (X:List Row) (Y:List DI):(zs M (X++R) (Y++D)).Perm ((X.map Row.res++Y.map DI.res)++zs M R D):=by
 refine (wH X).trans ?_;rw[DD];exact (fJ Y).append_left _
theorem nl {bs:List Blk} (h:(R'.all (λr=>r.k.fresh)&&I'.all (λf=>f.1))=true):(∀r∈zs bs R' D',r.fresh=true)∧∀f∈I',f.1=true:=by
 rw[DC,Eo,Eo]at h;refine⟨λr hr=>?_,λf hf=>h.2 f hf⟩;rcases Dx.1 hr with hr | hr
 obtain⟨m,-,rfl⟩:=Eh.1 hr; rfl;rcases Dx.1 hr with hr | hr
 obtain⟨m,hm,rfl⟩:=Eh.1 hr; exact h.1 m hm;obtain⟨m,-,rfl⟩:=Eh.1 hr; rfl
theorem Mem.comp (H:Mem w0 S M R D I w) (H':Mem ⟨w,[]⟩ S1 [] R' D' I' w') (hS:(R'.all (λr=>r.k.fresh)&&I'.all (λf=>f.1))=true∨S1=St w0 S M R D false):Mem w0 S M (R'++R) (D'++D) (I'++I) w':=by
 have h:=MemZ.comp (rs:=[]) (Z:=zs M R D) H (λb h=>by cases h) H' (hS.imp nl id)
 exact MemZ.perm h (oI R' D').symm
theorem Mem.compB (H:Mem w0 S M R D I w) (i:Nat) {b:Nat} {T T':TypeId} {cs cs':List Value} (hi:M[i]?=some ⟨b,T,cs⟩) (H':Mem ⟨w,[b]⟩ S1 [⟨b,T',cs'⟩] R' D' I' w')
    (hS:(R'.all (λr=>r.k.fresh)&&I'.all (λf=>f.1))=true∨S1=St w0 S M R D false):Mem w0 S (M.set i ⟨b,T',cs'⟩) (R'++R) (D'++D) (I'++I) w':=by
 have hp:=fI (R:=R) (D:=D) hi;have h:=MemZ.comp (rs:=[Blk.res ⟨b,T,cs⟩]) (MemZ.perm H hp) (λc h=>by rw[cF]; simpa [Blk.res] using h) H' (hS.imp nl λe=>e.trans (gr hp _));refine MemZ.perm h ?_;refine List.Perm.symm ?_;refine (gH (R:=R'++R) (D:=D'++D) ⟨b,T',cs'⟩ hi).trans ?_;exact (oI (M:=M.eraseIdx i) R' D').append_left [Blk.res ⟨b,T',cs'⟩]
end
def NB (b:Nat):Nat→Prop:=λc=>c≠b
theorem Mem.nb {w:World} {w0:Base} {S:Nat→Prop} {M:List Blk} {R:List Row} {D:List DI} {I:List (Bool×MP)} (H:Mem w0 S M R D I w) (i:Nat) {b:Nat} {T:TypeId} {cs0:List Value} (hi:M[i]?=some ⟨b,T,cs0⟩) {α:Type} [GoTy α] {f:Bool} {cs:List Value} {x:List α} (h:lrep w (St w0 S M R D f) cs x):lrep w (NB b) cs x :=
  GoTy.mono (α:=List α) h λc hc _=>⟨λe=>H.notSt i hi f (e▸hc),rfl⟩
section
variable {P:Program} {Q:Exit→Act→World→Prop} {a:Act} {w:World} {n:Nat} {L:List (Nat×Value)} {ty:TypeId} {pos:String} {af:Array Edge} {g:Option (Nat×Bool)} {K:Act→World→Prop} {d:Nat}
variable {w0:Base} {S:Nat→Prop} {M:List Blk} {R:List Row} {D:List DI} {I:List (Bool×MP)}
end
section
variable {P:Program} {Q:Exit→Act→World→Prop} {a:Act} {w:World} {n:Nat} {L:List (Nat×Value)} {dst:Option Tmp} {ty:TypeId} {pos:String} {af:Array Edge} {g:Option (Nat×Bool)} {K:Act→World→Prop} {d:Nat}
variable {w0:Base} {S:Nat→Prop} {M:List Blk} {R:List Row} {D:List DI} {I:List (Bool×MP)}
end
end AT
namespace AT
open Go Go.RowKit
section
variable {w w' w1:World} {w0:Base} {S:Nat→Prop} {M:List Blk} {R:List Row} {D:List DI} {I:List (Bool×MP)}
variable {α:Type} [GoTy α] {F:List Nat} {cs:List Value}
theorem Mem.startBO (S:Nat→Prop) {b:Nat} {T:TypeId} {cs:List Value} {F:List Nat} {x:α} (h:w1.heap[b]?=some (.cells cs.toArray T (0,0))) (hO:GoTy.own w1 F cs x) (hn:(b::F).Nodup) :
    Mem ⟨w1,b::F⟩ S [⟨b,T,cs⟩] [] [⟨F,MP.own F cs x⟩] [] w1:=by
 have hlt:b<w1.heap.size:=by
   rcases Fl b w1.heap.size with h' | h'
   · exact h'
   · rw[EQ h']at h; cases h
 have ha:allZ (zs [⟨b,T,cs⟩] [] [⟨F,MP.own F cs x⟩])=b::F:=by simp [allZ,zs,Res.all,Blk.res,DI.res]
 refine⟨⟨rfl,rfl,rfl,D3 _,λ_ _=>rfl,D3 _⟩,λc hc=>?_,by rw[ha]; exact hn,λr hr=>?_,λf hf=>(by cases hf)⟩
 rw[ha]at hc;refine⟨.inr hc,?_⟩;rcases DZ.1 hc with rfl | hc
 exact hlt;exact GoTy.own_lt hO c hc;have:r=Blk.res ⟨b,T,cs⟩∨r=DI.res ⟨F,MP.own F cs x⟩:=by simpa [zs] using hr
 rcases this with rfl | rfl
 exact h;exact⟨⟨hO,λb hb=>hb⟩,λb hb=>GoTy.own_lt hO b hb⟩
theorem Mem.wroteBO {F':List Nat} {cs':List Value} {x x':α} (H:Mem w0 S M R (⟨F,MP.own F cs x⟩::D) I w) (i:Nat) {b:Nat} {T:TypeId} {c0:List Value} (hi:M[i]?=some ⟨b,T,c0⟩) (hR:R.all Row.tightB=true) (hc:Chg w w' (b::F))
    (hb:w'.heap[b]?=some (.cells cs'.toArray T (0,0))) (ho:GoTy.own w' F' cs' x') (hbk:Back w w' F F') (hbF:b∉F'):Mem w0 S (M.set i ⟨b,T,cs'⟩) R (⟨F',MP.own F' cs' x'⟩::D) [] w':=by
 have hall:∀(m:Blk) (e:DI),allZ [m.res,e.res]=m.b::e.F:=λm e=>by simp [allZ,Res.all,Blk.res,DI.res]
 have hp:(zs M R (⟨F,MP.own F cs x⟩::D)).Perm ([Blk.res ⟨b,T,c0⟩,DI.res ⟨F,MP.own F cs x⟩]++zs (M.eraseIdx i) R D) :=
   (fI hi).trans ((zy _).append_left [_])
 have hp':(zs (M.set i ⟨b,T,cs'⟩) R (⟨F',MP.own F' cs' x'⟩::D)).Perm ([Blk.res ⟨b,T,cs'⟩,DI.res ⟨F',MP.own F' cs' x'⟩]++zs (M.eraseIdx i) R D) :=
   (gH _ hi).trans ((zy _).append_left [_])
 have H1:=MemZ.perm H hp;have hblt:b<w.heap.size:=(MemZ.lt H1 b (by rw[uZ,hall]; simp)).2;refine MemZ.perm (MemZ.turn (rs':=[Blk.res ⟨b,T,cs'⟩,DI.res ⟨F',MP.own F' cs' x'⟩]) H1 (by rw[hall]; exact hc) (λc h=>?_) ?_ (hJ hR) (λq hq=>?_)) hp'.symm;rw[hall]at h ⊢;rcases DZ.1 h with rfl | h
 exact .inl (Ei ..);obtain⟨h1,h2⟩:=hbk.2 c h;exact h1.elim (λh=>.inr ⟨h,h2⟩) λh=>.inl (D7 _ h);rw[hall];exact EP.2 ⟨hbF,hbk.1⟩;have:q=Blk.res ⟨b,T,cs'⟩∨q=DI.res ⟨F',MP.own F' cs' x'⟩:=by simpa using hq
 rcases this with rfl | rfl
 exact hb;exact⟨⟨ho,λb h=>h⟩,λb h=>(hbk.2 b h).2⟩
theorem Mem.endBO {d:DI} {b:Nat} {T:TypeId} (H:Mem ⟨w1,b::F⟩ S M R (d::D) I w) (i:Nat) (hi:M[i]?=some ⟨b,T,cs⟩):Back w1 w F d.F∧b∉d.F:=by
 have hall:∀(m:Blk) (e:DI),allZ [m.res,e.res]=m.b::e.F:=λm e=>by simp [allZ,Res.all,Blk.res,DI.res]
 have hp:(zs M R (d::D)).Perm ([Blk.res ⟨b,T,cs⟩,d.res]++zs (M.eraseIdx i) R D):=(fI hi).trans ((zy _).append_left [_]);have H1:=MemZ.perm H hp;have hnd:=MemZ.nd H1;rw[uZ,hall]at hnd;obtain⟨h1,h2⟩:=EP.1 (DW.1 hnd).1;refine⟨⟨h2,λc hc=>?_⟩,h1⟩;obtain⟨h3,h4⟩:=MemZ.lt H1 c (by rw[uZ,hall]; exact Dx.2 (.inl (D7 _ hc)));refine⟨?_,h4⟩;rcases h3 with h3 | h3
 exact .inl h3;rcases DZ.1 h3 with e | h3
 subst e; exact absurd hc h1;exact .inr h3
end
section
variable {P:Program} {l:List Oper} {S:World→Prop} {a:Act} {w:World} {B:List Nat} {fuel:Nat} {bs:List Bool}
theorem on3 {Mid:Act→World→Prop} {i j k:Nat} {oi oj ok:Oper} {bi bj bk:List Bool} (hr:Region.ready .any l.toArray bs.toArray=[i,j,k]) (hi:l[i]?=some oi) (hgi:oi.guard=none) (hbi:bs.set i true=bi) (hj:l[j]?=some oj) (hgj:oj.guard=none) (hbj:bs.set j true=bj) (hk:l[k]?=some ok) (hgk:ok.guard=none) (hbk:bs.set k true=bk)
    (h:oi.wp P a w (λa' w'=>(nb B bi.toArray=true→S w')∧DL P l Mid S B fuel bi a' w') (only Mid)) (h':oj.wp P a w (λa' w'=>(nb B bj.toArray=true→S w')∧DL P l Mid S B fuel bj a' w') (only Mid)) (h'':ok.wp P a w (λa' w'=>(nb B bk.toArray=true→S w')∧DL P l Mid S B fuel bk a' w') (only Mid)):DL P l Mid S B (fuel + 1) bs a w:=by
 refine⟨λh0=>(by rw[hr]at h0; cases h0),λq hq=>?_⟩
 rw[hr]at hq;simp only[DZ,Fy,or_false]at hq;rcases hq with rfl | rfl | rfl
 unfold wpOp;have hi':l.toArray[q]?=some oi:=by simpa using hi
 simp only[hi',Region.wanted,hgi];rw[fA hbi];exact .inl h;unfold wpOp;have hi':l.toArray[q]?=some oj:=by simpa using hj
 simp only[hi',Region.wanted,hgj];rw[fA hbj];exact .inl h';unfold wpOp;have hi':l.toArray[q]?=some ok:=by simpa using hk
 simp only[hi',Region.wanted,hgk];rw[fA hbk];exact .inl h''
end
section
variable {P:Program} {a:Act} {w:World} {n:Nat} {L:List (Nat×Value)} {dst:Option Tmp} {ty:TypeId} {pos:String} {af:Array Edge} {g:Option (Nat×Bool)}
theorem sZ (hf:Fr a n L) {T:TypeId} {x:Operand} {f:Nat} {u v:Value} (hx:ev L x=some u) (h:∀w,(Instr.field T u f).run P w=.ok v w):(execOp a.eval ⟨dst,.field T x f,ty,pos,af,g⟩).run P w=.ok (.value v) w:=by
 simp [execOp,hf.eval hx,h]
end
end AT
namespace AT
open Go Go.RowKit
section
variable {w w' w1:World} {w0:Base} {S:Nat→Prop} {M:List Blk} {R:List Row} {D:List DI} {I:List (Bool×MP)}
def NF (b:Nat) (F:List Nat):Nat→Prop:=λc=>c∉List.cons b F
variable {b:Nat} {T:TypeId} {cs:List Value} {d:DI} {G:List Nat}
theorem Mem.boPerm (i:Nat) (hi:M[i]?=some ⟨b,T,cs⟩):(zs M R (d::D)).Perm ([Blk.res ⟨b,T,cs⟩,d.res]++zs (M.eraseIdx i) R D):=(fI hi).trans ((zy _).append_left [_])
theorem Mem.boAll (d:DI):allZ [Blk.res ⟨b,T,cs⟩,d.res]=b::d.F:=by simp [allZ,Res.all,Blk.res,DI.res]
theorem Mem.boNd (H:Mem w0 S M R (d::D) I w) (i:Nat) (hi:M[i]?=some ⟨b,T,cs⟩):List.Nodup (List.cons b d.F):=by
 have hnd:=MemZ.nd (MemZ.perm H (Mem.boPerm i hi));rw[uZ,Mem.boAll]at hnd;exact (DW.1 hnd).1
theorem Mem.boDisj (H:Mem w0 S M R (d::D) I w) (i:Nat) (hi:M[i]?=some ⟨b,T,cs⟩) {c:Nat} (hc:c∈allZ (zs (M.eraseIdx i) R D)):NF b d.F c:=by
 have hnd:=MemZ.nd (MemZ.perm H (Mem.boPerm i hi));rw[uZ,Mem.boAll]at hnd;exact λh=>(DW.1 hnd).2.2 c h c hc rfl
theorem Mem.argN (H:Mem ⟨w1,G⟩ S M R (d::D) I w) (i:Nat) (hi:M[i]?=some ⟨b,T,cs⟩) (hS:∀c∈G,¬S c) {p:MP} (h:p.pred w1 S):p.pred w (NF b d.F):=by
 refine p.mono h λc hc hlt=>?_;have hn:¬(⟨w1,G⟩:Base).nw c:=by
   rintro (h1 | h1)
   · simp only at h1; omega
   · exact hS c h1 hc
 refine⟨λhx=>?_,(MemZ.below H).block c hn⟩;exact hn (MemZ.lt (MemZ.perm H (Mem.boPerm i hi)) c (by rw[uZ,Mem.boAll]; exact Dx.2 (.inl hx))).1
theorem Mem.argNv (H:Mem ⟨w1,G⟩ S M R (d::D) I w) (i:Nat) (hi:M[i]?=some ⟨b,T,cs⟩) (hS:∀c∈G,¬S c) {α:Type} [GoTy α] {cv:List Value} {x:α} (h:GoTy.rep w1 S cv x):GoTy.rep w (NF b d.F) cv x:=Mem.argN H i hi hS (p:=MP.val cv x) h
theorem Mem.boxN (H:Mem w0 S M R (d::D) I w) (i:Nat) (hi:M[i]?=some ⟨b,T,cs⟩) (j:Nat) {b2:Nat} {T2:TypeId} {cs2:List Value} (hj:M[j]?=some ⟨b2,T2,cs2⟩) (hij:Nat.beq j i=false):(MP.cells ⟨b2,0,none⟩ cs2).pred w (NF b d.F):=by
 have hne:j≠i:=λe=>by subst e; simp at hij
 have hm:(⟨b2,T2,cs2⟩:Blk)∈M.eraseIdx i:=GM.2 ⟨j,hne,hj⟩;have ht:=H.boxTrue j hj;refine⟨Mem.boDisj H i hi (Es.2 ⟨Blk.res ⟨b2,T2,cs2⟩,Dx.2 (.inl (Eh.2 ⟨_,hm,rfl⟩)),?_⟩),ht.2.1,ht.2.2⟩;simp [Res.all,Blk.res]
theorem Mem.ownN (H:Mem w0 S M R (d::D) I w) (i:Nat) (hi:M[i]?=some ⟨b,T,cs⟩) (j:Nat) {α:Type} [GoTy α] {F2:List Nat} {cv:List Value} {x:α} (hj:D[j]?=some ⟨F2,MP.own F2 cv x⟩):GoTy.rep w (NF b d.F) cv x:=by
 have ho:GoTy.own w F2 cv x:=(H.diAt (D7 _ (DY hj))).1;refine GoTy.mono (GoTy.own_rep ho) λc hc _=>⟨Mem.boDisj H i hi (Es.2 ⟨DI.res ⟨F2,MP.own F2 cv x⟩,Dx.2 (.inr (Dx.2 (.inr (Eh.2 ⟨_,DY hj,rfl⟩)))),?_⟩),rfl⟩;simpa [Res.all,DI.res] using hc
end
section
variable {P:Program} {Q:Exit→Act→World→Prop} {a:Act} {w:World} {n:Nat} {L:List (Nat×Value)} {ty:TypeId} {pos:String} {af:Array Edge} {g:Option (Nat×Bool)} {K:Act→World→Prop} {d:Nat}
variable {w0:Base} {S:Nat→Prop} {M:List Blk} {R:List Row} {D:List DI} {I:List (Bool×MP)}
theorem oP {α:Type} [GoTy α] (hfl:GoTy.flat α=true) {T T':Nat→Prop} {cs:List Value} {x:α} (h:GoTy.rep w T cs x):GoTy.rep w T' cs x :=
  GoTy.mono (GoTy.own_rep (GoTy.own_flat hfl h)) λb hb=>by cases hb
theorem mW (hf:Fr a n L) (H:Mem w0 S M R D I w) {α:Type} [GoTy α] {T E:TypeId} (hT:P.underlying T=some (.slice E)) (hE:SZ P E (GoTy.n α)) {x hi ma:Operand} {A:Option Addr} {len cap:Nat} {xs:List α} {f:Bool} (q:Nat)
    (hx:ev L x=some (.slice A len cap)) (hhi:ev L hi=some (.int .i64 len)) (hma:ev L ma=some (.int .i64 len)) (hq:I[q]?=some (f,MP.val [.slice A len cap] xs)) (hdn:d<n)
    (k:∀a',Fr a' n ((d,.slice A len len)::L)→Mem w0 S M R D ((f,MP.val [.slice A len len] xs)::I) w→K a' w):Oper.wp P ⟨some d,.slice T x none (some hi) (some ma),ty,pos,af,g⟩ a w K Q:=by
 obtain⟨A',cap',hcs,hlc,hcm,hel⟩:lrep w (St w0 S M R D f) [.slice A len cap] xs:=H.get q hq;simp only[Eu,Value.slice.injEq,and_true]at hcs;obtain⟨rfl,rfl,rfl⟩:=hcs;have hE':∀w,(Go.sizeOf E).run P w=.ok (GoTy.n α) w:=hE;have hA:(A.map λp=>p.add 0)=A:=by cases A <;> simp [Addr.add]
 have hval:(execOp a.eval ⟨some d,.slice T x none (some hi) (some ma),ty,pos,af,g⟩).run P w=.ok (.value (.slice A xs.length xs.length)) w:=by
   have hsl:(Instr.sliceAt T (.slice A xs.length cap) none (some (.int .i64 xs.length)) (some (.int .i64 xs.length))).run P w=.ok (.slice A xs.length xs.length) w:=by
     have hsb:(Instr.sliceBounds true xs.length cap none (some (.int .i64 xs.length)) (some (.int .i64 xs.length))).run P w=.ok (0,xs.length,xs.length) w:=by
       simp [Instr.sliceBounds,Instr.sliceBound,asIntOf,hlc]
     simp [Instr.sliceAt,Instr.slice,run_underlying hT,hsb,hE',hA]
   simp [execOp,hf.eval hx,hf.eval hhi,hf.eval hma,hsl]
 exact op_q hf hval rfl hdn λa' hf'=>k a' hf' (H.push _ ⟨A,xs.length,rfl,D3 _,EJ hlc hcm,hel⟩)
theorem rv (hf:Fr a n L) (H:Mem w0 S M R D I w) {α:Type} [GoTy α] {T E E':TypeId} {z:Value} {bytes:Nat} (hT:P.underlying T=some (.slice E)) (hE:AI P E (GoTy.n α) z bytes) (hz:z.cells.size=GoTy.n α) (hby:bytes≤128) (q j:Nat) {f:Bool} {A A':Option Addr} {len cap':Nat} {xs ys zs:List α}
    {x y:Operand} (hx:ev L x=some (.slice A len len)) (hy:ev L y=some (.slice A' ys.length cap')) (hq:I[q]?=some (f,MP.val [.slice A len len] xs)) (hj:R[j]?=some ⟨.sh true,E',A',cap',ys⟩) (hne:ys≠[]) (hfl:GoTy.flat α=true) (happ:app xs ys=some zs) (hdn:d<n)
    (k:∀E1 A2 cap2 a' w',Fr a' n ((d,.slice A2 zs.length cap2)::L)→Mem w0 S M (⟨.sh true,E1,A2,cap2,zs⟩::R) D I w'→K a' w'):Oper.wp P ⟨some d,.call ⟨.builtin .append,#[x,y],#[T,T]⟩,ty,pos,af,g⟩ a w K Q:=by
  obtain⟨A0,cap0,hcs,hlc,hcm,hel⟩:lrep w (St w0 S M R D f) [.slice A len len] xs:=H.get q hq;simp only[Eu,Value.slice.injEq,and_true]at hcs;obtain⟨rfl,rfl,h3⟩:=hcs;subst h3;cases A with
  | none =>
    have hxs:xs=[]:=by
      cases xs with
      | nil=>rfl
      | cons x xs=>obtain⟨p,hp,_⟩:=hel 0 x rfl; cases hp
    subst hxs
    have H1:=H.nilRow α (.sh true) rfl trivial E
    exact uV (fr:=true) (xs:=[]) hf H1 hT hE hz hby 0 (j + 1) hx hy rfl hj (.inr rfl) happ hdn λE1 A2 cap2 a' w' hf' H'=>k E1 A2 cap2 a' w' hf' H'
  | some p =>
    obtain⟨A1,c1,hcs1,-,-,hel1⟩:lrep w (λ_=>True) [.slice A' ys.length cap'] ys:=H.rowTrue j hj
    simp only[Eu,Value.slice.injEq,and_true]at hcs1
    obtain⟨rfl,-,rfl⟩:=hcs1
    obtain⟨p',rfl⟩:∃p',A'=some p':=by
      cases ys with
      | nil=>exact absurd rfl hne
      | cons y ys=>obtain⟨p',hp',_⟩:=hel1 0 y rfl; exact⟨p',hp'⟩
    have hyl:0<ys.length:=GR.2 hne
    obtain⟨olds,o1,o2,o3,o4⟩:=gather (w:=w) (T:=St w0 S M R D f) (p:=p) xs 0 (λk x hx=>by
      obtain⟨q',hq',_,h⟩:=hel k x hx
      injection hq' with hq'; subst hq'
      rwa [Ey])
    obtain⟨news,g1,g2,g3,g4⟩:=gather (w:=w) (T:=λ_=>True) (p:=p') ys 0 (λk x hx=>by
      obtain⟨q',hq',_,h⟩:=hel1 k x hx
      injection hq' with hq'; subst hq'
      rwa [Ey])
    simp only[FX,Ey]at o2 g2
    unfold app at happ
    split at happ
    case isFalse=>cases happ
    rename_i hlen
    injection happ with happ
    subst happ
    obtain⟨inf,hinf,hpr⟩:=Ed.1 hE
    simp only[EK]at hpr
    obtain⟨hz1,hz2,hz3⟩:=hpr
    have hbytes:(xs.length + ys.length) * inf.bytes≤140737488355328:=by
      have:=Nat.mul_le_mul hlen hby
      rw[hz3]; omega
    have hr:=run_append_grow (P:=P) w T ty E inf z hT hinf hz1 p xs.length xs.length olds (by rw[hz2]; exact o1) o2 p' ys.length cap' news (by rw[hz2]; exact g1) g2 (by omega) (by omega) (growslice_fits (by omega) hbytes)
    have hge:=grownCap_ge w (xs.length + ys.length) xs.length E
    have hcm2:grownCap w (xs.length + ys.length) xs.length E≤maxLen:=grownCap_le_maxLen w _ _ E (by simp only[maxLen]; omega)
    generalize grownCap w (xs.length + ys.length) xs.length E=cap2 at hr hge hcm2
    have hcl:olds.length=xs.length * GoTy.n α:=o1
    have H2:=H.drew.newRow (.sh true) rfl E (xs++ys) ((olds++news)++(Builtin.zeroCells z.cells (cap2 - (xs.length + ys.length))).toList) cap2 (by rw[DR]; exact hge) hcm2
      (by
        simp only[DR,El,size_zeroCells,hz,o1,g1,←Fg]
        congr 1
        omega) trivial (λi x hx=>by
        have hi:i<xs.length + ys.length:=by rw[←DR]; exact (DK.1 hx).1
        show GoTy.rep _ _ _ _
        rw[eK (m:=xs.length + ys.length) (by simp only[DR,o1,g1,←Fg]) hi]
        rw[EF]at hx
        split at hx
        · rename_i hk
          rw[eK hcl hk]
          exact GoTy.mono (oP hfl (o4 i x hx)) λb hb hlt=>⟨hb,rfl⟩
        · rename_i hk
          rw[fM hcl (by omega)]
          exact GoTy.mono (oP hfl (g4 _ x hx)) λb hb hlt=>⟨hb,rfl⟩)
    have hl2:(xs++ys).length=xs.length + ys.length:=DR
    refine dm hf hx hy hr hdn λa' hf'=>k E _ cap2 a' _ (by rw[hl2]; exact hf') ?_
    have e:olds.toArray++news.toArray++Builtin.zeroCells z.cells (cap2 - (xs.length + ys.length))=((olds++news)++(Builtin.zeroCells z.cells (cap2 - (xs.length + ys.length))).toList).toArray:=by
      apply Array.ext'; simp
    rw[e]
    exact H2
end
section
variable {w:World} {w0:Base} {S:Nat→Prop} {M:List Blk} {R:List Row} {D:List DI} {I:List (Bool×MP)}
end
section
variable {w w1:World} {w0:Base} {S:Nat→Prop} {M:List Blk} {R:List Row} {D:List DI} {I:List (Bool×MP)}
def NO (F:List Nat):Nat→Prop:=λc=>c∉F
theorem Mem.argO {G:List Nat} {d:DI} (H:Mem ⟨w1,G⟩ S M R (d::D) I w) (hS:∀c∈G,¬S c) {α:Type} [GoTy α] {cv:List Value} {x:α} (h:GoTy.rep w1 S cv x):GoTy.rep w (NO d.F) cv x:=by
 refine GoTy.mono h λc hc hlt=>?_;have hn:¬(⟨w1,G⟩:Base).nw c:=by
   rintro (h1 | h1)
   · simp only at h1; omega
   · exact hS c h1 hc
 exact⟨λhx=>hn (H.diNd.2 c hx).1,(MemZ.below H).block c hn⟩
theorem Mem.boxO {d:DI} (H:Mem w0 S M R (d::D) I w) (j:Nat) {b2:Nat} {T2:TypeId} {cs2:List Value} (hj:M[j]?=some ⟨b2,T2,cs2⟩):(MP.cells ⟨b2,0,none⟩ cs2).pred w (NO d.F):=by
 have ht:=H.boxTrue j hj;have hnd:=MemZ.nd (MemZ.perm H (zy d));rw[uZ,vA]at hnd;refine⟨λh=>(DW.1 hnd).2.2 b2 ?_ b2 (Es.2 ⟨Blk.res ⟨b2,T2,cs2⟩,Dx.2 (.inl (Eh.2 ⟨_,DY hj,rfl⟩)),by simp [Res.all,Blk.res]⟩) rfl,ht.2.1,ht.2.2⟩;simpa [Res.all,DI.res] using h
end
section
variable {w w':World} {w0:Base} {S:Nat→Prop} {M:List Blk} {R:List Row} {D:List DI} {I:List (Bool×MP)}
theorem Mem.addRow {α:Type} [GoTy α] {F:List Nat} {A:Option Addr} {len cap:Nat} {xs:List α} (H:Mem w0 S M R D I w) (hb:Below w.heap.size w w') (h:lown w' F [.slice A len cap] xs) (hN:New w w' F) :
    ∃Fs E,Mem w0 S M (⟨.ow Fs,E,A,cap,xs⟩::R) D I w':=by
 obtain⟨A',cap',E,cells,Fs,hcs,ho,hF,hl,he⟩:=h;simp only[Eu,Value.slice.injEq,and_true]at hcs;obtain⟨rfl,rfl,rfl⟩:=hcs;have e1:allZ [Row.res ⟨.ow Fs,E,A,cap,xs⟩]=F:=by rw[vA,hF]; rfl
 refine⟨Fs,E,MemZ.perm (MemZ.step (rs:=[]) (rs':=[Row.res ⟨.ow Fs,E,A,cap,xs⟩]) H ⟨hb.os,hb.tape,hb.output,hb.size,λk hk' _=>hb.block k hk',hb.drawn⟩ (λb h=>.inr (hN.2 b (by rw[←e1]; exact h))) (λb h=>.inr (hN.2 b (by rw[←e1]; exact cK h)).1) (by rw[e1]; exact hN.1) (λ_ q hq=>?_)) (aX _).symm⟩;rw[DU]at hq; subst hq;exact⟨cells,ho,hl,λi x hx Fi hFi=>he i x Fi hx hFi⟩
end
section
variable {P:Program} {Q:Exit→Act→World→Prop} {a:Act} {w:World} {n:Nat} {L:List (Nat×Value)} {ty:TypeId} {pos:String} {af:Array Edge} {g:Option (Nat×Bool)} {K:Act→World→Prop} {d:Nat}
variable {w0:Base} {S:Nat→Prop} {M:List Blk} {R:List Row} {D:List DI} {I:List (Bool×MP)}
end
section
variable {w w':World} {w0:Base} {S:Nat→Prop} {M:List Blk} {R:List Row} {D:List DI} {I:List (Bool×MP)}
theorem MemZ.sub {Z Z':List Res} (H:MemZ w0 S Z I w) (hz:Z'.Sublist Z):MemZ w0 S Z' I w:=by
 have ha:(allZ Z').Sublist (allZ Z):=cL hz;have hf:(fmZ Z').Sublist (fmZ Z):=cL hz;have hw:∀f,Moves w w (StZ w0 S Z f) (StZ w0 S Z' f):=gq λb hb=>hf.mem hb;exact⟨MemZ.below H,λb hb=>MemZ.lt H b (ha.mem hb),ha.nodup (MemZ.nd H),λr hr=>r.mono (MemZ.ok H r (hz.mem hr)) (λ_ _=>rfl) (hw _),λf hf=>f.2.mono (MemZ.imm H f hf) (hw _)⟩
theorem Mem.dropR2 {r r2:Row} (H:Mem w0 S M (r::r2::R) D I w):Mem w0 S M (r::R) D I w :=
  MemZ.sub H ((FG _).append (((FG _).cons r2 |>.cons_cons r |>.map _).append (FG _)))
variable {α:Type} [GoTy α] {A:Option Addr}
theorem Mem.thruRow {E:TypeId} {cap:Nat} {l r:List α} {u:Value} (H:Mem w0 S M (⟨.sh true,E,A,cap,l⟩::R) D I w) (hfl:GoTy.flat α=true) (hb:Below w.heap.size w w') (h:(∃F,VO w' F u r∧New w w' F)∨(u=.slice A l.length cap∧r=l)) :
    ∃A' c' E',u=.slice A' r.length c'∧Mem w0 S M (⟨.sh true,E',A',c',r⟩::R) D I w':=by
 rcases h with ⟨F,hv,hN⟩ | ⟨rfl,rfl⟩
 obtain⟨A',c',rfl,hl⟩:=uT hv;obtain⟨Fs,E',H'⟩:=H.addRow hb hl hN;exact⟨A',c',E',rfl,Mem.dropR2 (H'.rowSh 0 rfl)⟩;exact⟨A,cap,E,rfl,H.keep hb⟩
theorem Mem.addOwnRow {F:List Nat} {len cap:Nat} {xs:List α} (H:Mem w0 S M R D I w) (hb:Below w.heap.size w w') {X:List DI} (hn:(X.flatMap DI.F++F).Nodup) (hX:∀d∈X,d.p.pred w' (·∈d.F)) (h:lown w' F [.slice A len cap] xs) (hl:∀b∈X.flatMap DI.F++F,w.heap.size≤b∧b<w'.heap.size) :
    ∃Fs E,Mem w0 S M (⟨.ow Fs,E,A,cap,xs⟩::R) (X++D) I w':=by
 obtain⟨A',cap',E,cells,Fs,hcs,ho,hF,hlf,he⟩:=h;simp only[Eu,Value.slice.injEq,and_true]at hcs;obtain⟨rfl,rfl,rfl⟩:=hcs;have e1:allZ [Row.res ⟨.ow Fs,E,A,cap,xs⟩]=F:=by rw[vA,hF]; rfl
 have e2:allZ (X.map DI.res++[Row.res ⟨.ow Fs,E,A,cap,xs⟩])=X.flatMap DI.F++F:=by rw[uZ,dz,e1]
 have hp:(zs M (⟨.ow Fs,E,A,cap,xs⟩::R) (X++D)).Perm ((X.map DI.res++[Row.res ⟨.ow Fs,E,A,cap,xs⟩])++zs M R D) :=
   ((aX _).trans ((fJ X).append_left _)).trans (by rw[←DD]; exact FO.append_right _)
 refine⟨Fs,E,MemZ.perm (MemZ.step (rs:=[]) (rs':=X.map DI.res++[Row.res ⟨.ow Fs,E,A,cap,xs⟩]) H ⟨hb.os,hb.tape,hb.output,hb.size,λk hk' _=>hb.block k hk',hb.drawn⟩ (λb h=>.inr (hl b (by rw[←e2]; exact h))) (λb h=>.inr (hl b (by rw[←e2]; exact cK h)).1) (by rw[e2]; exact hn) (λ_ q hq=>?_)) hp.symm⟩;rcases Dx.1 hq with hq | hq
 obtain⟨d,hd,rfl⟩:=Eh.1 hq;exact⟨hX d hd,λb h=>(hl b (Dx.2 (.inl (Es.2 ⟨d,hd,h⟩)))).2⟩;rw[DU]at hq; subst hq;exact⟨cells,ho,hlf,λi x hx Fi hFi=>he i x Fi hx hFi⟩
end
end AT
namespace AT
def mget (m:List (Int×Bool)) (k:Int):Bool:=((m.find? λe=>e.1==k).map (·.2)).getD false
end AT
namespace AT
open Go Go.RowKit Go.WideShapes Go.Maps
section
variable {w w' w1:World} {w0:Base} {S:Nat→Prop} {M:List Blk} {R:List Row} {D:List DI} {I:List (Bool×MP)}
variable {F:List Nat}
theorem Mem.wroteP {F':List Nat} {p p':MP} (H:Mem w0 S M R (⟨F,p⟩::D) I w) (hR:R.all Row.tightB=true) (hc:Chg w w' F) (ho:p'.pred w' (·∈F')) (hb:Back w w' F F'):Mem w0 S M R (⟨F',p'⟩::D) [] w':=by
 have H1:=MemZ.perm H (zy _);have hall:∀e:DI,allZ [e.res]=e.F:=λe=>by rw[vA]; rfl
 refine MemZ.perm (MemZ.turn (rs:=[DI.res ⟨F,p⟩]) (rs':=[DI.res ⟨F',p'⟩]) H1 (by rw[hall]; exact hc) (λb h=>?_) (by rw[hall]; exact hb.1) (hJ hR) (λq hq=>?_)) (zy _).symm;rw[hall]at h ⊢;obtain⟨h1,h2⟩:=hb.2 b h;exact h1.elim (λh=>.inr ⟨h,h2⟩) .inl;rw[DU]at hq; subst hq;exact⟨ho,λb h=>(hb.2 b h).2⟩
theorem Mem.startP {p:MP} (S:Nat→Prop) (h:p.pred w1 (·∈F)) (hn:F.Nodup) (hl:∀b∈F,b<w1.heap.size):Mem ⟨w1,F⟩ S [] [] [⟨F,p⟩] [] w1:=by
 refine⟨⟨rfl,rfl,rfl,D3 _,λ_ _=>rfl,D3 _⟩,λb hb=>?_,?_,λr hr=>?_,λf hf=>(by cases hf)⟩
 have hb':b∈F:=by simpa [allZ,zs,Res.all,DI.res] using hb
 exact⟨.inr hb',hl b hb'⟩;have:allZ (zs [] [] [⟨F,p⟩])=F:=by simp [allZ,zs,Res.all,DI.res]
 rw[this]; exact hn;have:r=DI.res ⟨F,p⟩:=by simpa [zs] using hr
 subst this;exact⟨h,hl⟩
theorem Mem.diFront {d:DI} (H:Mem w0 S M R (d::D) I w):d.p.pred w (·∈d.F):=H.diAt Ei
theorem AU {r:Row} {c:Nat} (hc:c∈r.v.ownBlock.toList):c∈fmZ (zs M (r::R) D):=Es.2 ⟨r.res,l7 Ei,hc⟩
end
def MapAt (P:Program) (tk te:TypeId) (w:World) (b:Nat) (m:List (Int×Bool)):Prop :=
  ∃D:DataW Unit,w.ownsMap P tk (plainElem P te) b m.length D∧∀k,D.atKey (.int .i64 k) (.lit (.bool false))=.lit (.bool (mget m k))
theorem mV {P:Program} {tk:TypeId} {Rr:Value→Option (DataW Unit×List MemPlace)} {w w':World} {b n:Nat} {D:DataW Unit} (h:w.ownsMap P tk Rr b n D) (e:w'.heap[b]?=w.heap[b]?):w'.ownsMap P tk Rr b n D:=by
 obtain⟨es,clock,hb,F,hs,hD⟩:=h;exact⟨es,clock,e.trans hb,F,hs,hD⟩
def MP.map (P:Program) (tk te:TypeId) (b:Nat) (m:List (Int×Bool)):MP:=⟨λw S=>MapAt P tk te w b m∧S b,by
  rintro w w' S S' ⟨⟨D,h1,h2⟩,h3⟩ hm
  obtain⟨a1,a2⟩:=hm b h3 h1.lt
  exact⟨⟨D,mV h1 a2,h2⟩,a1⟩⟩
section
variable {w w' w1:World} {w0:Base} {S:Nat→Prop} {M:List Blk} {R:List Row} {D:List DI} {I:List (Bool×MP)}
end
section
variable {P:Program} {Q:Exit→Act→World→Prop} {a:Act} {w:World} {n:Nat} {L:List (Nat×Value)} {ty:TypeId} {pos:String} {af:Array Edge} {g:Option (Nat×Bool)} {K:Act→World→Prop} {d:Nat} {dst:Option Tmp}
variable {w0:Base} {S:Nat→Prop} {M:List Blk} {R:List Row} {D:List DI} {I:List (Bool×MP)}
end
section
variable {P:Program} {S:World→Prop} {B:List Nat} {l:List Oper} {bs:List Bool} {a:Act} {w:World} {fuel:Nat} {Mid:Act→World→Prop}
theorem dag (h:∀KK:(World→Prop)→Nat→List Bool→Act→World→Prop,(∀T f b a w,DL P l Mid T B f b a w→KK T f b a w)→(∀T f b a w,KK T f b a w→DL P l Mid T B f b a w)→KK S fuel bs a w):DL P l Mid S B fuel bs a w :=
  h (λT f b a w=>DL P l Mid T B f b a w) (λ_ _ _ _ _ h=>h) λ_ _ _ _ _ h=>h
theorem on4 {i j k m:Nat} {oi oj ok om:Oper} {bi bj bk bm:List Bool} (hr:Region.ready .any l.toArray bs.toArray=[i,j,k,m]) (hi:l[i]?=some oi) (hgi:oi.guard=none) (hbi:bs.set i true=bi) (hj:l[j]?=some oj) (hgj:oj.guard=none) (hbj:bs.set j true=bj) (hk:l[k]?=some ok) (hgk:ok.guard=none) (hbk:bs.set k true=bk) (hm:l[m]?=some om) (hgm:om.guard=none) (hbm:bs.set m true=bm)
    (h:oi.wp P a w (λa' w'=>(nb B bi.toArray=true→S w')∧DL P l Mid S B fuel bi a' w') (only Mid)) (h':oj.wp P a w (λa' w'=>(nb B bj.toArray=true→S w')∧DL P l Mid S B fuel bj a' w') (only Mid)) (h'':ok.wp P a w (λa' w'=>(nb B bk.toArray=true→S w')∧DL P l Mid S B fuel bk a' w') (only Mid)) (h4:om.wp P a w (λa' w'=>(nb B bm.toArray=true→S w')∧DL P l Mid S B fuel bm a' w') (only Mid)):DL P l Mid S B (fuel + 1) bs a w:=by
 refine⟨λh0=>(by rw[hr]at h0; cases h0),λq hq=>?_⟩
 rw[hr]at hq;simp only[DZ,Fy,or_false]at hq;rcases hq with rfl | rfl | rfl | rfl
 unfold wpOp;have hi':l.toArray[q]?=some oi:=by simpa using hi
 simp only[hi',Region.wanted,hgi];rw[fA hbi];exact .inl h;unfold wpOp;have hi':l.toArray[q]?=some oj:=by simpa using hj
 simp only[hi',Region.wanted,hgj];rw[fA hbj];exact .inl h';unfold wpOp;have hi':l.toArray[q]?=some ok:=by simpa using hk
 simp only[hi',Region.wanted,hgk];rw[fA hbk];exact .inl h'';unfold wpOp;have hi':l.toArray[q]?=some om:=by simpa using hm
 simp only[hi',Region.wanted,hgm];rw[fA hbm];exact .inl h4
end
end AT
namespace AT
def ltO {α:Type} (cmp:α→α→Option Int) (a b:α):Bool:=match cmp a b with
  | some c=>decide (c<0)
  | none=>false
def lR {α:Type} [DecidableEq α] (cmp:α→α→Option Int) (l:List α):Bool :=
  decide (l.length<4611686018427387904)&&l.all λa=>!ltO cmp a a&&l.all λb=>(cmp a b).isSome&&((ltO cmp a b||(ltO cmp b a||decide (a=b)))&&l.all λc=>!(ltO cmp a b&&ltO cmp b c)||ltO cmp a c)
def leF {α:Type} (cmp:α→α→Option Int) (l:List α) (i j:Fin l.length):Bool:=!ltO cmp l[j] l[i]
def jR {α:Type} [DecidableEq α] (cmp:α→α→Option Int) (l:List α):Option (List α) :=
  if lR cmp l=true then some (((List.finRange l.length).mergeSort (leF cmp l)).map λi=>l[i]) else none
structure SoF {α:Type} (cmp:α→α→Option Int) (l:List α):Prop where
  irr:∀a∈l,ltO cmp a a=false
  tot:∀a∈l,∀b∈l,ltO cmp a b=false→ltO cmp b a=false→a=b
  trans:∀a∈l,∀b∈l,∀c∈l,ltO cmp a b=true→ltO cmp b c=true→ltO cmp a c=true
  some_:∀a∈l,∀b∈l,(cmp a b).isSome=true
  len:l.length<4611686018427387904
variable {α:Type} [DecidableEq α] {cmp:α→α→Option Int} {l r:List α}
theorem soF:lR cmp l=true↔SoF cmp l:=by
 unfold lR;simp only[Eo,DC,D9,Fv,decide_eq_true_eq];constructor;rintro⟨hl,h⟩;refine⟨λa ha=>(h a ha).1,λa ha b hb h1 h2=>?_,λa ha b hb c hc h1 h2=>?_,λa ha b hb=>((h a ha).2 b hb).1,hl⟩;rcases ((h a ha).2 b hb).2.1 with h3 | h3 | h3
 rw[h1]at h3; cases h3
 rw[h2]at h3; cases h3
 exact h3;rcases ((h a ha).2 b hb).2.2 c hc with h3 | h3
 rw[h1,h2]at h3; cases h3
 exact h3;intro h;refine⟨h.len,λa ha=>?_⟩;refine⟨h.irr a ha,λb hb=>⟨h.some_ a ha b hb,?_,λc hc=>?_⟩⟩;cases h1:ltO cmp a b
 cases h2:ltO cmp b a;exact .inr (.inr (h.tot a ha b hb h1 h2));exact .inr (.inl rfl);exact .inl rfl;cases h1:ltO cmp a b;exact .inl rfl;cases h2:ltO cmp b c;exact .inl rfl;exact .inr (h.trans a ha b hb c hc h1 h2)
theorem SoF.nt {α:Type} {cmp:α→α→Option Int} {l:List α} (h:SoF cmp l) {a b c:α} (ha:a∈l) (hb:b∈l) (hc:c∈l) (h1:ltO cmp b a=false) (h2:ltO cmp c b=false):ltO cmp c a=false:=by
 cases h3:ltO cmp c a;rfl;cases h4:ltO cmp a b;have:=h.tot a ha b hb h4 h1;subst this;rw[h2]at h3; cases h3;rw[h.trans c hc a ha b hb h3 h4]at h2; cases h2
theorem SoF.le_total {α:Type} {cmp:α→α→Option Int} {l:List α} (h:SoF cmp l) {a b:α} (ha:a∈l) (hb:b∈l):ltO cmp a b=false∨ltO cmp b a=false:=by
 cases h1:ltO cmp a b;exact .inl rfl;cases h2:ltO cmp b a;exact .inr rfl;have:=h.trans a ha b hb a ha h1 h2;rw[h.irr a ha]at this; cases this
theorem Ak {α:Type} (l:List α):(List.finRange l.length).map (λi=>l[i])=l:=by
 apply Fx;simp;intro i h1 h2;simp
theorem lS (h:jR cmp l=some r):SoF cmp l∧r.Perm l∧r.Pairwise λa b=>ltO cmp b a=false:=by
  unfold jR at h;split at h
  case isFalse=>cases h
  rename_i hs;have hF:=soF.1 hs;injection h with h
  subst h;have hm:∀i:Fin l.length,l[i]∈l:=λi=>D6 _;refine⟨hF,?_,?_⟩
  · have h1:=(List.mergeSort_perm (List.finRange l.length) (leF cmp l)).map (λi=>l[i])
    rwa [Ak]at h1
  · rw[FV]
    have h1:=Hh (le:=leF cmp l) (λa b c h1 h2=>by
      unfold leF at h1 h2 ⊢
      simp only[D9]at h1 h2 ⊢
      exact hF.nt (hm a) (hm b) (hm c) h1 h2) (λa b=>by
      unfold leF
      rw[Fv,D9,D9]
      exact (hF.le_total (hm b) (hm a))) (List.finRange l.length)
    exact h1.imp λh=>by
      unfold leF at h
      simpa using h
theorem pL {α:Type} {cmp:α→α→Option Int} {l r r':List α} (hF:SoF cmp l) (h1:r.Perm l) (h2:r'.Perm l) (s1:r.Pairwise λa b=>ltO cmp b a=false) (s2:r'.Pairwise λa b=>ltO cmp b a=false):r=r' :=
  List.Perm.eq_of_pairwise (le:=λa b=>ltO cmp b a=false) (λa b ha hb h3 h4=>hF.tot a (h1.mem_iff.1 ha) b (h2.mem_iff.1 hb) h4 h3) s1 s2 (h1.trans h2.symm)
theorem oL (hF:SoF cmp l) (h2:r.Perm l) (s2:r.Pairwise λa b=>ltO cmp b a=false):jR cmp l=some r:=by
 have hs:=soF.2 hF;have h:jR cmp l=some (((List.finRange l.length).mergeSort (leF cmp l)).map λi=>l[i]):=by
   unfold jR
   rw[if_pos hs]
 obtain⟨-,g1,g2⟩:=lS h;rw[h,pL hF g1 h2 g2 s2]
end AT
