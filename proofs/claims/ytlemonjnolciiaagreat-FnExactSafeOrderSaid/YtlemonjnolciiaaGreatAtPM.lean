/- Regions that draw their order: what only reads is taken first, as long as what is read has not been written (the operations B write). -/
import Derived.Test.YtlemonjnolciiaaGreatAtD
import Derived.Test.YtlemonjnolciiaaGreatAtR
import Derived.Laws.BytesString
import Derived.Lib.AppendZerosOnto
import Derived.Lib.Overlaps
set_option linter.unusedSimpArgs false
set_option linter.unusedVariables false
namespace AT
open Go Go.RowKit
section
variable {P:Program} {md:Region.Mode} {ops:Array Oper} {Q:Exit→Act→World→Prop} {S:World→Prop} {B:List Nat}
def nb (B:List Nat) (listed:Array Bool):Bool:=B.all λb=>!listed.getD b true
def wpL (P:Program) (md:Region.Mode) (ops:Array Oper) (Q:Exit→Act→World→Prop) (S:World→Prop) (B:List Nat):Nat→Array Bool→Act→World→Prop
  | 0,listed,a,w=>Region.ready md ops listed=[]∧Q .normal a w
  | fuel + 1,listed,a,w=>(Region.ready md ops listed=[]→Q .normal a w) ∧
    ∀i∈Region.ready md ops listed,wpOp P ops Q i (λa' w'=>(nb B (listed.setIfInBounds i true)=true→S w')∧wpL P md ops Q S B fuel (listed.setIfInBounds i true) a' w') a w
theorem eO:∀(fuel:Nat) (listed:Array Bool) (a:Act) (w:World),wpL P md ops Q S B fuel listed a w→wpAny P md ops Q fuel listed a w
  | 0,_,_,_,h=>h
  | fuel + 1,_,_,_,h=>⟨h.1,λi hi=>wpOp_mono (λa' w' h'=>eO fuel _ a' w' h'.2) (h.2 i hi)⟩
variable {i:Nat}
theorem eF {l:Array Bool} {j:Nat} (h:j≠i):(l.setIfInBounds j true).getD i true=l.getD i true:=getD_set_ne true h
theorem og (hi:i∉B) (l:Array Bool):nb B (l.setIfInBounds i true)=nb B l:=by
 have h:∀b∈B,(l.setIfInBounds i true).getD b true=l.getD b true:=λb hb=>eF λe=>hi (e▸hb);rw[tg];unfold nb;simp only[tG];exact⟨λg b hb=>by rw[←h b hb]; exact g b hb,λg b hb=>by rw[h b hb]; exact g b hb⟩
theorem lq {oi:Oper} {v:Value} (S0:World→Prop) (X:List Nat) (hi:ops[i]?=some oi) (hsel:∀(j:Nat) (o:Oper) cs b,ops[j]?=some o→o.op≠.select cs b)
    (hQ:∀c a w,Q (.panic c) (a.put oi.dst v) w→Q (.panic c) a w)
    (hX:∀j oj,j∈X→j≠i→ops[j]?=some oj→∃e∈oj.after,Region.binds md e=true∧e.on∈X) (hiB:i∉B) (hBX:(∀w,S0 w)∨((∀b∈B,b∈X)∧∀w,S w→S0 w)) :
    ∀(fuel:Nat) (listed:Array Bool) (a:Act) (w:World),
      (∀j oj,ops[j]?=some oj→j≠i→listed.getD j true=false→(∀e∈oj.after,Region.binds md e=true→e.on≠i)→oi.apart ops oj=true) →
      (∀x∈X,listed.getD x true=false)→i∈Region.ready md ops listed→YieldsIf P ops S0 oi v a→S0 w→(nb B listed=true→S w) →
      wpL P md ops Q S B fuel (listed.setIfInBounds i true) (a.put oi.dst v) w→wpL P md ops Q S B (fuel + 1) listed a w:=by
 intro fuel;have hnb:∀(listed:Array Bool),nb B (listed.setIfInBounds i true)=true→nb B listed=true:=λlisted h=>by rwa [og hiB]at h
 induction fuel with
 | zero =>
   intro listed a w _ _ hr hy hS0 hS H
   refine⟨λh=>(by rw[h]at hr; cases hr),λj hj=>?_⟩
   by_cases hji:j=i
   · subst hji; exact hy.wpOp hi hS0 ⟨λh=>hS (hnb _ h),H⟩
   · have:=ready_mono hj hji
     rw[H.1]at this
     cases this
 | succ fuel ih =>
   intro listed a w hfree hXu hr hy hS0 hS H
   refine⟨λh=>(by rw[h]at hr; cases hr),λj hj=>?_⟩
   by_cases hji:j=i
   · subst hji; exact hy.wpOp hi hS0 ⟨λh=>hS (hnb _ h),H⟩
   · have h1:=H.2 j (ready_mono hj hji)
     obtain⟨hjun,oj,hoj,hall⟩:=mem_ready.1 hj
     have hlisted:∀k,k<listed.size∨True:=λ_=>.inr trivial
     have hnot:∀e∈oj.after,Region.binds md e=true→listed.getD e.on true=false→False:=λe he hb h0=>by
       have h1:=hall e he hb
       rcases wu e.on listed.size with h' | h'
       · simp [h']at h0 h1; rw[h0]at h1; cases h1
       · simp [wc h']at h1
     have hnoti:∀e∈oj.after,Region.binds md e=true→e.on≠i:=λe he hb heq=>hnot e he hb (by rw[heq]; exact (mem_ready.1 hr).1)
     have hjX:j∉X:=λh=>by
       obtain⟨e,he,hb,heX⟩:=hX j oj h hji hoj
       exact hnot e he hb (hXu _ heX)
     have h2:=wpOp_putIf hoj (hfree j oj hoj hji hjun hnoti) (λcs b=>hsel i oi cs b hi) (λcs b=>hsel j oj cs b hoj) hQ hy h1
     have hfree':∀k ok,ops[k]?=some ok→k≠i→(listed.setIfInBounds j true).getD k true=false →
         (∀e∈ok.after,Region.binds md e=true→e.on≠i)→oi.apart ops ok=true:=λk ok hk hki hun hno=>by
       refine hfree k ok hk hki ?_ hno
       by_cases hjk:j=k
       · subst hjk; exact hjun
       · rw[getD_set_ne true hjk]at hun; exact hun
     refine wpOp_mono (λa' w' h3=>?_) h2
     obtain⟨h4,h5,h6⟩:=h3
     have hS':nb B (listed.setIfInBounds j true)=true→S w':=λh=>h5 (by rw[Ak _ _ (Ne.symm hji),og hiB]; exact h)
     refine⟨hS',ih (listed.setIfInBounds j true) a' w' hfree' (λx hx=>?_) (ready_mono hr (Ne.symm hji)) h4 ?_ hS' ?_⟩
     · rw[eF (λe=>hjX (by rw[e]; exact hx))]; exact hXu x hx
     · rcases hBX with hall0 | ⟨hBX,hSS⟩
       · exact hall0 w'
       · refine hSS w' (hS' ?_)
         unfold nb
         rw[tG]
         intro b hb
         rw[eF (λe=>hjX (by rw[e]; exact hBX b hb))]
         rcases wu b listed.size with h' | h'
         · have:=hXu b (hBX b hb); simp [h']at this ⊢; exact this
         · have:=hXu b (hBX b hb); simp [h']at this
     · rw[Ak _ _ hji]
       exact h6
end
section
variable {P:Program} {S:World→Prop} {B:List Nat} {l:List Oper} {bs bs':List Bool} {a:Act} {w:World} {n fuel d i:Nat} {L:List (Nat×Value)} {Mid:Act→World→Prop} {Q:Exit→Act→World→Prop} {o:Oper} {v:Value}
def only (Mid:Act→World→Prop):Exit→Act→World→Prop:=λe a w=>e=.normal∧Mid a w
abbrev DL (P:Program) (l:List Oper) (Mid:Act→World→Prop) (S:World→Prop) (B:List Nat) (fuel:Nat) (bs:List Bool) (a:Act) (w:World):Prop:=wpL P .any l.toArray (only Mid) S B fuel bs.toArray a w
theorem drawn {id:Nat} (B:List Nat) (hm:P.follows .mixedOrders=true) (hb:List.replicate l.length false=bs) (hn:l.length=fuel) (h:∀w1,Below w.heap.size w w1→DL P l (λa w=>Q .normal a w) (λ_=>True) B fuel bs a w1):(Code.region id l.toArray true).wp P Q a w:=by
 have h1:(Code.region id l.toArray true).wp P (only λa w=>Q .normal a w) a w:=wp_region_any hm (eO (S:=λ_=>True) (B:=B) _ _ _ _ (by
   have e1:l.toArray.size=fuel:=by simpa using hn
   have e2:Array.replicate l.toArray.size false=bs.toArray:=by rw[←hb]; simp
   rw[e2,e1]; exact h _ ((Below.refl _ _).drew)))
 exact Code.wp_mono (λe a w q=>by obtain⟨rfl,q⟩:=q; exact q) h1
theorem lp {md:Region.Mode} {ops:Array Oper} {S S':World→Prop} (hs:∀w,S' w→S w):∀(fuel:Nat) (listed:Array Bool) (a:Act) (w:World),wpL P md ops Q S' B fuel listed a w→wpL P md ops Q S B fuel listed a w
  | 0,_,_,_,h=>h
  | fuel + 1,_,_,_,h=>⟨h.1,λi hi=>wpOp_mono (λa' w' h'=>⟨λhn=>hs _ (h'.1 hn),lp hs fuel _ a' w' h'.2⟩) (h.2 i hi)⟩
theorem str (S':World→Prop) (hs:∀w,S' w→S w) (h:DL P l Mid S' B fuel bs a w):DL P l Mid S B fuel bs a w:=lp hs _ _ _ _ h
def takeB (l:List Oper) (bs:List Bool) (i:Nat) (X B:List Nat):Bool :=
  Region.noSelect l.toArray&&(Region.free .any l.toArray bs.toArray i&&((Region.ready .any l.toArray bs.toArray).contains i&&(X.all (λx=>!bs.getD x true)&&(X.all (λj=>j==i||(match l[j]? with | some oj=>oj.after.any (λe=>Region.binds .any e&&X.contains e.on) | none=>true))&&!B.contains i))))
theorem eP (hb:bs.set i true=bs'):bs.toArray.setIfInBounds i true=bs'.toArray:=by subst hb; simp
theorem kv {S0:World→Prop} (X:List Nat) (hi:l[i]?=some o) (hd:o.dst=some d) (hdn:d<n) (hf:Fr a n L) (hc:takeB l bs i X B=true) (hBX:(∀w,S0 w)∨((∀b∈B,b∈X)∧∀w,S w→S0 w)) (hS0:S0 w) (hS:nb B bs.toArray=true→S w)
    (hy:YieldsIf P l.toArray S0 o v a) (hb:bs.set i true=bs') (h:∀a',Fr a' n ((d,v)::L)→DL P l Mid S B fuel bs' a' w):DL P l Mid S B (fuel + 1) bs a w:=by
 unfold takeB at hc;simp only[sH]at hc;obtain⟨h1,h2,h3,h4,h5,h6⟩:=hc;have hi':l.toArray[i]?=some o:=by simpa using hi
 refine lq S0 X hi' (Region.noSelect_spec h1) (λc a w q=>by cases q.1) (λj oj hj hji hoj=>?_) (by simpa using h6) hBX fuel bs.toArray a w (Region.free_spec hi' h2) (λx hx=>?_) (by simpa using h3) hy hS0 hS ?_
 have:=tG.1 h5 j hj;have hoj':l[j]?=some oj:=by simpa using hoj
 rw[hoj']at this;simp only[wo,beq_iff_eq,hji,false_or,Array.any_eq_true,sH]at this;obtain⟨q,hq,h7,h8⟩:=this;exact⟨_,Array.getElem_mem hq,h7,by simpa using h8⟩;have:=tG.1 h4 x hx;simp only[tu,List.getD_eq_getElem?_getD]at this;simpa using this;rw[eP hb,hd];exact h _ (hf.put hdn v)
theorem tkP (hi:l[i]?=some o) (hd:o.dst=some d) (hg:o.guard=none) (hdn:d<n) (hf:Fr a n L) (hc:takeB l bs i [] B=true) (hS:nb B bs.toArray=true→S w) (hy:∀w,(execOp a.eval o).run P w=.ok (.value v) w) (hb:bs.set i true=bs')
    (h:∀a',Fr a' n ((d,v)::L)→DL P l Mid S B fuel bs' a' w):DL P l Mid S B (fuel + 1) bs a w :=
  kv (S0:=λ_=>True) [] hi hd hdn hf hc (.inl λ_=>trivial) trivial hS (.inl ⟨by simp [Region.wanted,hg],λw _=>hy w⟩) hb h
theorem tkS (X:List Nat) (hi:l[i]?=some o) (hd:o.dst=some d) (hg:o.guard=none) (hdn:d<n) (hf:Fr a n L) (hc:takeB l bs i X B=true) (hBX:(B.all (X.contains ·))=true) (hS:S w) (hy:∀w,S w→(execOp a.eval o).run P w=.ok (.value v) w) (hb:bs.set i true=bs')
    (h:∀a',Fr a' n ((d,v)::L)→DL P l Mid S B fuel bs' a' w):DL P l Mid S B (fuel + 1) bs a w :=
  kv (S0:=S) X hi hd hdn hf hc (.inr ⟨λb hb=>by simpa using tG.1 hBX b hb,λ_ h=>h⟩) hS (λ_=>hS) (.inl ⟨by simp [Region.wanted,hg],hy⟩) hb h
variable {j e:Nat} {b:Bool} {ops:Array Oper}
theorem tkPg (hi:l[i]?=some o) (hd:o.dst=some d) (hg:o.guard=some (j,b)) (hj:(l[j]?).bind (·.dst)=some e) (hv:lk L e=some (.bool b)) (hdn:d<n) (hf:Fr a n L) (hc:takeB l bs i [] B=true) (hS:nb B bs.toArray=true→S w) (hy:∀w,(execOp a.eval o).run P w=.ok (.value v) w) (hb:bs.set i true=bs')
    (h:∀a',Fr a' n ((d,v)::L)→DL P l Mid S B fuel bs' a' w):DL P l Mid S B (fuel + 1) bs a w :=
  kv (S0:=λ_=>True) [] hi hd hdn hf hc (.inl λ_=>trivial) trivial hS (.inl ⟨by simp [Region.wanted,hg,aR (ops:=l.toArray) hf (by simpa using hj) hv],λw _=>hy w⟩) hb h
theorem tkSg (X:List Nat) (hi:l[i]?=some o) (hd:o.dst=some d) (hg:o.guard=some (j,b)) (hj:(l[j]?).bind (·.dst)=some e) (hv:lk L e=some (.bool b)) (hdn:d<n) (hf:Fr a n L) (hc:takeB l bs i X B=true) (hBX:(B.all (X.contains ·))=true) (hS:S w) (hy:∀w,S w→(execOp a.eval o).run P w=.ok (.value v) w) (hb:bs.set i true=bs')
    (h:∀a',Fr a' n ((d,v)::L)→DL P l Mid S B fuel bs' a' w):DL P l Mid S B (fuel + 1) bs a w :=
  kv (S0:=S) X hi hd hdn hf hc (.inr ⟨λb hb=>by simpa using tG.1 hBX b hb,λ_ h=>h⟩) hS (λ_=>hS) (.inl ⟨by simp [Region.wanted,hg,aR (ops:=l.toArray) hf (by simpa using hj) hv],hy⟩) hb h
theorem dQ (hf:Fr a n L) {j d:Nat} (hj:(ops[j]?).bind (·.dst)=some d) (hb:lk L d=some undef):yielded ops a.tmps j=none:=by
 unfold yielded;simp [hj,hf.get d _ hb,undef]
theorem wlsu {rest:List Oper} (hf:Fr a n L) (hg:o.guard=some (j,b)) (hj:(ops[j]?).bind (·.dst)=some d) (hb:lk L d=some undef)
    (hd:o.dst=some e) (hdn:e<n) (h:∀a',Fr a' n ((e,undef)::L)→wpList P ops Q rest a' w):wpList P ops Q (o::rest) a w:=by
 unfold wpList;rw[if_neg (by simp [Region.wanted,hg,dQ hf hj hb])];rw[hd];exact h _ (hf.put hdn undef)
theorem tkUU (hi:l[i]?=some o) (hd:o.dst=some d) (hg:o.guard=some (j,b)) (hj:(l[j]?).bind (·.dst)=some e) (hv:lk L e=some undef) (hdn:d<n) (hf:Fr a n L) (hc:takeB l bs i [] B=true) (hS:nb B bs.toArray=true→S w) (hb:bs.set i true=bs')
    (h:∀a',Fr a' n ((d,undef)::L)→DL P l Mid S B fuel bs' a' w):DL P l Mid S B (fuel + 1) bs a w :=
  kv (S0:=λ_=>True) (v:=undef) [] hi hd hdn hf hc (.inl λ_=>trivial) trivial hS (.inr ⟨by simp [Region.wanted,hg,dQ (ops:=l.toArray) hf (by simpa using hj) hv],rfl⟩) hb h
theorem tkU {c:Bool} (hi:l[i]?=some o) (hd:o.dst=some d) (hg:o.guard=some (j,b)) (hj:(l[j]?).bind (·.dst)=some e) (hv:lk L e=some (.bool c)) (hne:(c==b)=false) (hdn:d<n) (hf:Fr a n L) (hc:takeB l bs i [] B=true) (hS:nb B bs.toArray=true→S w) (hb:bs.set i true=bs')
    (h:∀a',Fr a' n ((d,undef)::L)→DL P l Mid S B fuel bs' a' w):DL P l Mid S B (fuel + 1) bs a w :=
  kv (S0:=λ_=>True) (v:=undef) [] hi hd hdn hf hc (.inl λ_=>trivial) trivial hS (.inr ⟨by simp [Region.wanted,hg,aR (ops:=l.toArray) hf (by simpa using hj) hv]; simpa using hne,rfl⟩) hb h
theorem on1 (hr:Region.ready .any l.toArray bs.toArray=[i]) (hi:l[i]?=some o) (hg:o.guard=none) (hb:bs.set i true=bs')
    (h:o.wp P a w (λa' w'=>(nb B bs'.toArray=true→S w')∧DL P l Mid S B fuel bs' a' w') (only Mid)):DL P l Mid S B (fuel + 1) bs a w:=by
 refine⟨λh0=>(by rw[hr]at h0; cases h0),λj hj=>?_⟩
 rw[hr,sD]at hj;subst hj;unfold wpOp;have hi':l.toArray[j]?=some o:=by simpa using hi
 simp only[hi',Region.wanted,hg];rw[eP hb];exact .inl h
theorem on1g (hr:Region.ready .any l.toArray bs.toArray=[i]) (hi:l[i]?=some o) (hg:o.guard=some (j,b)) (hj:(l[j]?).bind (·.dst)=some e) (hv:lk L e=some (.bool b)) (hf:Fr a n L) (hb:bs.set i true=bs')
    (h:o.wp P a w (λa' w'=>(nb B bs'.toArray=true→S w')∧DL P l Mid S B fuel bs' a' w') (only Mid)):DL P l Mid S B (fuel + 1) bs a w:=by
 refine⟨λh0=>(by rw[hr]at h0; cases h0),λq hq=>?_⟩
 rw[hr,sD]at hq;subst hq;unfold wpOp;have hi':l.toArray[q]?=some o:=by simpa using hi
 have hw:Region.wanted o (yielded l.toArray a.tmps)=true:=by simp [Region.wanted,hg,aR (ops:=l.toArray) hf (by simpa using hj) hv]
 simp only[hi',hw,if_true];rw[eP hb];exact .inl h
theorem um {w0:Base} {S:Nat→Prop} {M:List Blk} {R:List Row} {D:List DI} {I:List (Bool×MP)} (H:Mem w0 S M R D I w) {α:Type} [GoTy α] {T E:TypeId} (hT:P.underlying T=some (.slice E)) (hE:SZ P E (GoTy.n α)) {A:Option Addr} {len cap:Nat} {i:Int} {xs:List α} {e:α} {f:Bool}
    (j:Nat) (hi:I[j]?=some (f,MP.val [.slice A len cap] xs)) (he:idx xs i=some e) :
    ∃b o cs,(∀w' k,(Instr.indexAt T (.slice A len cap) (.int k i)).run P w'=.ok (.pointer (some ⟨b,o,none⟩)) w')∧GoTy.rep w (St w0 S M R D f) cs e∧Mem w0 S M R D ((f,MP.cells ⟨b,o,none⟩ cs)::I) w:=by
  obtain⟨A',cap',hcs,hlc,hcm,hel⟩:lrep w (St w0 S M R D f) [.slice A len cap] xs:=H.get j hi;obtain⟨h0,hl,hg⟩:=ct he;simp only[s4,Value.slice.injEq,and_true]at hcs;obtain⟨rfl,rfl,rfl⟩:=hcs;obtain⟨p,rfl,hp,cs,hc,hr⟩:=hel _ _ hg;have hlt:p.block<w.heap.size:=ElemAt.lt (S:=St w0 S M R D f) (i:=i.toNat) (x:=e) ⟨cs,hc,hr⟩;have hlen:=GoTy.len hr;have hpos:=GoTy.pos (α:=α);have hq:p.add (i.toNat * GoTy.n α)=⟨p.block,(p.add (i.toNat * GoTy.n α)).off,none⟩:=by
    have h0:=hc 0 _ (sv (by omega))
    rw[sW]at h0
    have hs:(p.add (i.toNat * GoTy.n α)).spot=none:=by
      unfold World.cell? at h0
      cases hsp:(p.add (i.toNat * GoTy.n α)).spot with
      | none=>rfl
      | some s =>
        rw[hsp]at h0
        split at h0 <;> simp at h0
    rw[←block_add p (i.toNat * GoTy.n α)]
    generalize p.add (i.toNat * GoTy.n α)=q at hs
    cases q; simp only at hs; subst hs; rfl
  refine⟨p.block,(p.add (i.toNat * GoTy.n α)).off,cs,λw' k=>?_,hr,H.push _ ⟨hp,hlt,λq c hq'=>by rw[←hq,add_add]; exact hc q c hq'⟩⟩;rw[←hq];exact run_indexAt (P:=P) (w:=w') (cap:=cap) hT hE h0 hl (p:=p) (k:=k)
theorem ul {T:TypeId} {x y:Operand} {u r:Value} {dst:Option Tmp} {ty:TypeId} {pos:String} {af:Array Edge} {g:Option (Nat×Bool)} (hf:Fr a n L) (hx:ev L x=some u) (hy:ev L y=some v) {k:IntKind} {i:Int} (hv:v=.int k i) (h:∀w' k,(Instr.indexAt T u (.int k i)).run P w'=.ok r w') :
    ∀w,(execOp a.eval ⟨dst,.indexAddr T x y,ty,pos,af,g⟩).run P w=.ok (.value r) w:=by
 intro w;subst hv;simp [execOp,hf.eval hx,hf.eval hy,h]
theorem dn (hr:Region.ready .any l.toArray bs.toArray=[]) (h:Mid a w):DL P l Mid S B fuel bs a w:=by
 cases fuel with
 | zero=>exact⟨hr,rfl,h⟩
 | succ k=>exact⟨λ_=>⟨rfl,h⟩,by rw[hr]; simp⟩
end
end AT
namespace AT
open Go Go.RowKit
section
variable {P:Program} {Q:Exit→Act→World→Prop} {a:Act} {w:World} {n:Nat} {L:List (Nat×Value)} {dst:Option Tmp} {ty:TypeId} {pos:String} {af:Array Edge} {g:Option (Nat×Bool)} {K:Act→World→Prop} {d:Nat}
variable {w0:Base} {S:Nat→Prop} {M:List Blk} {R:List Row} {D:List DI} {I:List (Bool×MP)}
theorem dx (hf:Fr a n L) {fn:Fn} {xs:List Operand} {vs:List Value} (hx:evs L xs=some vs) :
    (execOp a.eval ⟨dst,.makeFunc fn #[] xs.toArray,ty,pos,af,g⟩).run P w=.ok (.value (.func fn #[] vs.toArray)) w:=by
 simp [execOp,Instr.makeFunc,hf.evals hx]
theorem j3 (hf:Fr a n L) {f:FuncId} (hk:CL P f) {x:Operand} {ca:List Value} (hx:ev L x=some (.func (.func f) #[] ca.toArray)) {xs:List Operand} {ats:Array TypeId} {vs:List Value} (hxs:evs L xs=some vs) (hdn:d<n) {Post:Value→World→Prop}
    (hc:Calls P f (vs++ca).toArray w λe w'=>∃v,e=.returned v∧Post v w') (k:∀v w' a',Post v w'→Fr a' n ((d,v)::L)→K a' w') :
    Oper.wp P ⟨some d,.call ⟨.value x,xs.toArray,ats⟩,ty,pos,af,g⟩ a w K Q:=by
 have hk':∀args w,(callFunc f args).run P w=.ok (.enter f args) w:=hk;have h1:execOp a.eval ⟨some d,.call ⟨.value x,xs.toArray,ats⟩,ty,pos,af,g⟩=callFunc f (vs++ca).toArray:=by
   simp [execOp,resolve,Deferred.ofValue,hf.eval hx,hf.evals hxs,invoke]
 unfold Oper.wp;rw[h1,hk',Oper.upon_enter];refine hc.mono λe w' ⟨v,he,hp⟩=>?_;subst he;exact k v w' _ hp (hf.put hdn v)
theorem Mem.boxTrue (H:Mem w0 S M R D I w) (i:Nat) {b:Nat} {T:TypeId} {cs:List Value} (hi:M[i]?=some ⟨b,T,cs⟩):(MP.cells ⟨b,0,none⟩ cs).pred w (λ_=>True):=by
 have h:w.heap[b]?=some (.cells cs.toArray T (0,0)):=MemZ.ok H (Blk.res ⟨b,T,cs⟩) (su.2 (.inl (sS.2 ⟨_,sF hi,rfl⟩)));refine⟨trivial,?_,λj c hc=>?_⟩;rcases wu b w.heap.size with h' | h'
 exact h';rw[wc h']at h; cases h
 rw[add_lit,tc,H.cell hi]; exact hc
theorem jB {p:MP} {T:Nat→Prop} (h:p.pred w T):p.pred w (λ_=>True):=p.mono h λ_ _ _=>⟨trivial,rfl⟩
end
end AT
namespace AT
open Go Go.RowKit
section
variable {P:Program} {Q:Exit→Act→World→Prop} {a:Act} {w w' w1:World} {n:Nat} {L:List (Nat×Value)} {dst:Option Tmp} {ty:TypeId} {pos:String} {af:Array Edge} {g:Option (Nat×Bool)} {K:Act→World→Prop} {d:Nat}
variable {w0:Base} {S:Nat→Prop} {M:List Blk} {R:List Row} {D:List DI} {I:List (Bool×MP)}
theorem nE (hf:Fr a n L) (H:Mem w0 S M R D I w) {α:Type} [GoTy α] {T E:TypeId} {z:Value} {bytes:Nat} (hT:P.underlying T=some (.slice E)) (hE:AI P E (GoTy.n α) z bytes) (hz:z.cells.size=GoTy.n α) (hby:bytes≤128) {x y:Operand} {i:Int} {z0:α} {xs:List α}
    (hx:ev L x=some (.int .i64 i)) (hy:ev L y=some (.int .i64 i)) (hz0:∀w,GoTy.own w [] z.cells.toList z0) (hmk:mk z0 i=some xs) (hdn:d<n)
    (k:∀A c Fs a' w',Fr a' n ((d,.slice A xs.length c)::L)→Mem w0 S M (⟨.ow Fs,E,A,c,xs⟩::R) D I w'→K a' w'):Oper.wp P ⟨some d,.makeSlice T x y,ty,pos,af,g⟩ a w K Q:=by
  unfold mk at hmk;split at hmk
  case isFalse=>cases hmk
  rename_i hi;injection hmk with hmk
  subst hmk;obtain⟨inf,hinf,hpr⟩:=sV.1 hE;simp only[tD]at hpr;obtain⟨hz1,hz2,hz3⟩:=hpr;have hb:(inf.bytes:Int) * i≤281474976710656:=by
    rw[hz3]
    have h1:(bytes:Int) * i≤128 * i:=w6 (by omega) hi.1
    omega
  have hr:=run_make (P:=P) w T E inf z hT hinf hz1 .i64 .i64 i i hi.1 (Ai _) hb (by omega);have h1:(execOp a.eval ⟨some d,.makeSlice T x y,ty,pos,af,g⟩).run P w=.ok (.value (.slice (some ⟨w.heap.size,0,none⟩) i.toNat i.toNat)) (w.alloc (.cells (madeCells z.cells (i.toNat * inf.size)) E)):=by
    simp [execOp,hf.eval hx,hf.eval hy,hr]
  unfold Oper.wp;rw[h1,Oper.upon_value];have H2:=H.newRow (.ow (List.replicate i.toNat [])) (cf _) E (List.replicate i.toNat z0) (madeCells z.cells (i.toNat * inf.size)).toList i.toNat (by simp) (by simp only[maxLen]; omega) (by simp [size_madeCells,hz2]) (by simp [Kd.fits]) (λq e hq=>by
    have hql:q<i.toNat:=by have:=(sy.1 hq).1; simpa using this
    have he:e=z0:=by
      rw[tY]at hq; simp [hql]at hq; exact hq.symm
    subst he
    intro Fi hFi
    have hFe:Fi=[]:=by
      rw[tY]at hFi; simpa [hql] using hFi
    subst hFe
    show GoTy.own _ _ (vt α _ q) _
    unfold vt
    rw[hz2,i0 hz (GoTy.pos (α:=α)) _ _ hql]
    exact hz0 _)
  rw[tX]at H2;exact k _ _ _ _ _ (by have:=hf.put hdn (.slice (some ⟨w.heap.size,0,none⟩) i.toNat i.toNat); simpa using this) H2
theorem ps0:∀d∈([]:List DI),d.p.pred w (·∈d.F):=λ_ h=>by cases h
variable {α:Type} [GoTy α]
theorem ps1 {F:List Nat} {cs:List Value} {x:α} {X:List DI} (h:GoTy.own w F cs x) (t:∀d∈X,d.p.pred w (·∈d.F)):∀d∈((⟨F,MP.own F cs x⟩:DI)::X),d.p.pred w (·∈d.F):=by
 intro d hd;rcases sZ.1 hd with rfl | hd
 exact⟨h,λb hb=>hb⟩;exact t d hd
theorem Mem.arg (H:Mem ⟨w1,[]⟩ S M R D I w) {p:MP} (h:p.pred w1 S):Mem ⟨w1,[]⟩ S M R D ((false,p)::I) w:=H.pushArg p h
theorem dS {Fs:List (List Nat)} {i off:Nat} {vs:List Value} {e e':α} (h:∀F cs,GoTy.own w F cs e→GoTy.own w F (cs.take off++vs++cs.drop (off + vs.length)) e') {T:Nat→Prop} {fr:Bool} :
    ∀cs,(Kd.ow Fs fr).holds w T i cs e→(Kd.ow Fs fr).holds w T i (cs.take off++vs++cs.drop (off + vs.length)) e':=λcs hc Fi hFi=>h Fi cs (hc Fi hFi)
end
end AT
namespace AT
open Go Go.RowKit
section
variable {P:Program} {Q:Exit→Act→World→Prop} {a:Act} {w w' w1:World} {n:Nat} {L:List (Nat×Value)} {dst:Option Tmp} {ty:TypeId} {pos:String} {af:Array Edge} {g:Option (Nat×Bool)} {K:Act→World→Prop} {d:Nat}
variable {w0:Base} {S:Nat→Prop} {M:List Blk} {R:List Row} {D:List DI} {I:List (Bool×MP)}
def evo (L:List (Nat×Value)):Option Operand→Option (Option Value)
  | none=>some none
  | some o=>(ev L o).map some
theorem f9 (hf:Fr a n L) {o:Option Operand} {v:Option Value} (h:evo L o=some v):o.map a.eval=v:=by
 cases o with
 | none=>simpa [evo] using h
 | some o =>
   simp only[evo,sV]at h
   obtain⟨u,hu,rfl⟩:=h
   simp [hf.eval hu]
theorem bQ (hf:Fr a n L) {T:TypeId} {x:Operand} {u r:Value} (hx:ev L x=some u) {lo hi:Option Operand} {lov hiv:Option Value} (hlo:evo L lo=some lov) (hhi:evo L hi=some hiv) (h:∀w',(Instr.sliceAt T u lov hiv none).run P w'=.ok r w') :
    ∀w,(execOp a.eval ⟨dst,.slice T x lo hi none,ty,pos,af,g⟩).run P w=.ok (.value r) w:=by
 intro w;simp [execOp,hf.eval hx,f9 hf hlo,f9 hf hhi,h]
theorem bR (H:Mem w0 S M R D I w) {α:Type} [GoTy α] {T E:TypeId} (hT:P.underlying T=some (.slice E)) (hE:SZ P E (GoTy.n α)) {A:Option Addr} {len cap:Nat} {i j:Int} {xs ys:List α} {f:Bool} (q:Nat) {lov hiv:Option Value}
    (hlo:lov=none∧i=0∨lov=some (.int .i64 i)) (hhi:hiv=none∧j=xs.length∨hiv=some (.int .i64 j)) (hq:I[q]?=some (f,MP.val [.slice A len cap] xs)) (hs:sub xs i j=some ys) :
    ∃A' c',(∀w',(Instr.sliceAt T (.slice A len cap) lov hiv none).run P w'=.ok (.slice A' ys.length c') w')∧Mem w0 S M R D ((f,MP.val [.slice A' ys.length c'] ys)::I) w:=by
  obtain⟨A',cap',hcs,hlc,hcm,hel⟩:lrep w (St w0 S M R D f) [.slice A len cap] xs:=H.get q hq;simp only[s4,Value.slice.injEq,and_true]at hcs;obtain⟨rfl,rfl,rfl⟩:=hcs;unfold sub at hs;split at hs
  case isFalse=>cases hs
  rename_i hb;obtain⟨h0,h1,h2⟩:=hb;injection hs with hs
  have hyl:ys.length=j.toNat - i.toNat:=by rw[←hs]; simp; omega
  have hE':∀w,(Go.sizeOf E).run P w=.ok (GoTy.n α) w:=hE;refine⟨if cap=i.toNat then A else A.map (·.add (i.toNat * GoTy.n α)),cap - i.toNat,λw'=>?_,H.push _ ?_⟩
  · have hj:(j.toNat:Int)=j:=wQ (by omega)
    rw[hyl]
    have hsb:(Instr.sliceBounds true xs.length cap lov hiv none).run P w'=.ok (i.toNat,j.toNat,cap) w':=by
      rcases hlo with ⟨e1,rfl⟩ | e1 <;> rcases hhi with ⟨e2,e3⟩ | e2 <;> rw[e1,e2]
      · subst e3; simp [Instr.sliceBounds]
      · simp [Instr.sliceBounds,Instr.sliceBound,asIntOf,show 0≤j by omega,show j≤cap by omega]
      · subst e3; simp [Instr.sliceBounds,Instr.sliceBound,asIntOf,h0,h1]
      · simp [Instr.sliceBounds,Instr.sliceBound,asIntOf,h0,show 0≤j by omega,show j≤cap by omega,hj,h1]
    simp [Instr.sliceAt,Instr.slice,run_underlying hT,hsb,hE']
  refine⟨_,_,rfl,by omega,by omega,λt z hz=>?_⟩;have hz':xs[i.toNat + t]?=some z:=by
    rw[←hs,sN]at hz
    rw[wT]at hz
    split at hz
    · exact hz
    · cases hz
  obtain⟨p,hp,hSp,cs,hc,hr⟩:=hel _ _ hz';have hlt:=(sy.1 hz').1;rw[if_neg (by omega),hp];refine⟨p.add (i.toNat * GoTy.n α),rfl,by rw[block_add]; exact hSp,cs,λu c hu=>?_,hr⟩;rw[add_add,←wh,←tn];exact hc u c hu
end
section
variable {P:Program} {l:List Oper} {Mid S:World→Prop} {a:Act} {w:World} {B:List Nat} {fuel:Nat} {bs:List Bool} {n:Nat} {L:List (Nat×Value)}
theorem on2 {Mid:Act→World→Prop} {i j:Nat} {oi oj:Oper} {bi bj:List Bool} (hr:Region.ready .any l.toArray bs.toArray=[i,j]) (hi:l[i]?=some oi) (hgi:oi.guard=none) (hbi:bs.set i true=bi) (hj:l[j]?=some oj) (hgj:oj.guard=none) (hbj:bs.set j true=bj)
    (h:oi.wp P a w (λa' w'=>(nb B bi.toArray=true→S w')∧DL P l Mid S B fuel bi a' w') (only Mid)) (h':oj.wp P a w (λa' w'=>(nb B bj.toArray=true→S w')∧DL P l Mid S B fuel bj a' w') (only Mid)):DL P l Mid S B (fuel + 1) bs a w:=by
 refine⟨λh0=>(by rw[hr]at h0; cases h0),λq hq=>?_⟩
 rw[hr]at hq;simp only[sZ,wz,or_false]at hq;rcases hq with rfl | rfl
 unfold wpOp;have hi':l.toArray[q]?=some oi:=by simpa using hi
 simp only[hi',Region.wanted,hgi];rw[eP hbi];exact .inl h;unfold wpOp;have hi':l.toArray[q]?=some oj:=by simpa using hj
 simp only[hi',Region.wanted,hgj];rw[eP hbj];exact .inl h'
end
instance:GoTy By where
  n:=1
  agg:=false
  flat:=true
  rep _ _ cs x:=cs=[.int .u8 x.n]
  own _ F cs x:=F=[]∧cs=[.int .u8 x.n]
  pos:=by decide
  len:=by rintro _ _ _ _ rfl; rfl
  one:=by rintro _ _ _ _ rfl; simp [Value.oneCell']
  mono:=λh _=>h
  own_rep:=λh=>h.2
  own_mono:=λh _=>h
  own_lt:=by rintro _ _ _ _ ⟨rfl,_⟩ _ h; cases h
  own_flat:=λ_ h=>⟨rfl,h⟩
instance:GoTy U64 where
  n:=1
  agg:=false
  flat:=true
  rep _ _ cs x:=cs=[.int .u64 x.n]
  own _ F cs x:=F=[]∧cs=[.int .u64 x.n]
  pos:=by decide
  len:=by rintro _ _ _ _ rfl; rfl
  one:=by rintro _ _ _ _ rfl; simp [Value.oneCell']
  mono:=λh _=>h
  own_rep:=λh=>h.2
  own_mono:=λh _=>h
  own_lt:=by rintro _ _ _ _ ⟨rfl,_⟩ _ h; cases h
  own_flat:=λ_ h=>⟨rfl,h⟩
variable {S:Nat→Prop}
theorem so {w:World} {v:Value} {x:By} (h:VR w S v x):v=.int .u8 x.n:=by obtain⟨cs,rfl,rfl⟩:=h; rfl
theorem qK {w:World} {x:By}:VR w S (.int .u8 x.n) x:=⟨_,rfl,rfl⟩
section
variable {P:Program} {a:Act} {w:World} {n:Nat} {L:List (Nat×Value)} {dst:Option Tmp} {ty:TypeId} {pos:String} {af:Array Edge} {g:Option (Nat×Bool)}
variable {T U:TypeId} {x y:Operand} {k:IntKind} {i j:Int} {f:Int→Int}
theorem pH (hf:Fr a n L) (hx:ev L x=some (.int k i)) (hy:ev L y=some (.int k j)):(execOp a.eval ⟨dst,.binOp .lss T x y U,ty,pos,af,g⟩).run P w=.ok (.value (.bool (decide (i<j)))) w:=by
 simp [execOp,hf.eval hx,hf.eval hy,eqGuard,binOp,Op.intCmp]
theorem gJ (hf:Fr a n L) (hx:ev L x=some (.int k i)) (hy:ev L y=some (.int k j)):(execOp a.eval ⟨dst,.binOp .leq T x y U,ty,pos,af,g⟩).run P w=.ok (.value (.bool (decide (i≤j)))) w:=by
 simp [execOp,hf.eval hx,hf.eval hy,eqGuard,binOp,Op.intCmp]
theorem pJ (hf:Fr a n L) (hx:ev L x=some (.int k i)) (hy:ev L y=some (.int k j)):(execOp a.eval ⟨dst,.binOp .gtr T x y U,ty,pos,af,g⟩).run P w=.ok (.value (.bool (decide (i > j)))) w:=by
 simp [execOp,hf.eval hx,hf.eval hy,eqGuard,binOp,Op.intCmp]
theorem iL (hf:Fr a n L) (hx:ev L x=some (.int k i)) (hy:ev L y=some (.int k j)):(execOp a.eval ⟨dst,.binOp .geq T x y U,ty,pos,af,g⟩).run P w=.ok (.value (.bool (decide (i≥j)))) w:=by
 simp [execOp,hf.eval hx,hf.eval hy,eqGuard,binOp,Op.intCmp]
theorem aG {k':IntKind} {us:TypeDesc} (hk:∀n,k.wrap n=f n) (hs:P.underlying T=some us) (hd:P.underlying U=some (.int k)) (hf:Fr a n L) (hx:ev L x=some (.int k' i)):(execOp a.eval ⟨dst,.convert T U x,ty,pos,af,g⟩).run P w=.ok (.value (.int k (f i))) w:=by
 simp [execOp,hf.eval hx,convert,run_underlying hs,run_underlying hd,Conv.intToInt,hk]
end
section
variable {w w' w1:World} {w0:Base} {S:Nat→Prop} {M:List Blk} {R:List Row} {D:List DI} {I:List (Bool×MP)}
theorem Mem.boxAt (H:Mem w0 S M R D I w) (i:Nat) {b:Nat} {T:TypeId} {cs:List Value} (hi:M[i]?=some ⟨b,T,cs⟩):w.heap[b]?=some (.cells cs.toArray T (0,0)) :=
  MemZ.ok H (Blk.res ⟨b,T,cs⟩) (su.2 (.inl (sS.2 ⟨_,sF hi,rfl⟩)))
variable {cs:List Value}
theorem mW {i b:Nat} {T:TypeId} (hi:M[i]?=some ⟨b,T,cs⟩):b∈fmZ (zs M R D) :=
  tt.2 ⟨Blk.res ⟨b,T,cs⟩,su.2 (.inl (sS.2 ⟨_,sF hi,rfl⟩)),by simp [Blk.res]⟩
theorem Mem.notSt (H:Mem w0 S M R D I w) (i:Nat) {b:Nat} {T:TypeId} {cs:List Value} (hi:M[i]?=some ⟨b,T,cs⟩) (f:Bool):¬St w0 S M R D f b:=by
 have h1:=mW (R:=R) (D:=D) hi;rintro (⟨-,h,-⟩ | ⟨-,h⟩)
 exact h (MemZ.lt H b (zf h1)).1;exact h h1
theorem Mem.argB {G:List Nat} (H:Mem ⟨w1,G⟩ S M R D I w) (hS:∀b∈G,¬S b) {p:MP} (h:p.pred w1 S):Mem ⟨w1,G⟩ S M R D ((false,p)::I) w:=by
 refine H.push _ (p.mono h λb hb hlt=>?_);have hn:¬(⟨w1,G⟩:Base).nw b:=by
   rintro (h1 | h1)
   · simp only at h1; omega
   · exact hS b h1 hb
 exact⟨.inl ⟨rfl,hn,hb⟩,(MemZ.below H).block b hn⟩
theorem qx {b:Nat} {T:TypeId} {bs:List Value} {i:Nat} {f:Bool} {α:Type} [GoTy α] {x:α} (hi:M[i]?=some ⟨b,T,bs⟩) (h:GoTy.rep w (St w0 S M R D f) cs x):GoTy.rep w (St w0 S [⟨b,T,bs⟩] [] [] f) cs x :=
  GoTy.mono h λc hc _=>by
    refine⟨?_,rfl⟩
    rcases hc with hc | ⟨h1,h2⟩
    · exact .inl hc
    · refine .inr ⟨h1,λh3=>h2 ?_⟩
      have:c=b:=by simpa [fmZ,zs,Blk.res] using h3
      subst this; exact mW hi
end
section
variable {P:Program} {Q:Exit→Act→World→Prop} {a:Act} {w:World} {n:Nat} {L:List (Nat×Value)} {ty:TypeId} {pos:String} {af:Array Edge} {g:Option (Nat×Bool)} {K:Act→World→Prop} {d:Nat}
variable {w0:Base} {S:Nat→Prop} {M:List Blk} {R:List Row} {D:List DI} {I:List (Bool×MP)}
end
end AT
namespace AT
open Go Go.RowKit
end AT
namespace AT
open Go Go.RowKit
def IA.cells {n:Nat} (x:IA n):List Value:=x.l.map (Value.int .i64)
theorem IA.cells_len {n:Nat} (x:IA n):x.cells.length=n:=by unfold IA.cells; rw[tJ]; exact x.h
@[reducible] def iaTy (n:Nat) (hn:0<n):GoTy (IA n) where
  n:=n
  agg:=true
  flat:=true
  rep _ _ cs x:=cs=x.cells
  own _ F cs x:=F=[]∧cs=x.cells
  pos:=hn
  len:=by rintro _ _ _ _ rfl; exact IA.cells_len _
  one:=by
    rintro _ _ _ x rfl c hc
    obtain⟨i,-,rfl⟩:=sS.1 hc
    simp [Value.oneCell']
  mono:=λh _=>h
  own_rep:=λh=>h.2
  own_mono:=λh _=>h
  own_lt:=by rintro _ _ _ _ ⟨rfl,_⟩ _ h; cases h
  own_flat:=λ_ h=>⟨rfl,h⟩
section
variable {P:Program} {Q:Exit→Act→World→Prop} {a:Act} {w:World} {n:Nat} {L:List (Nat×Value)} {dst:Option Tmp} {ty:TypeId} {pos:String} {af:Array Edge} {g:Option (Nat×Bool)} {K:Act→World→Prop} {d:Nat}
variable {w0:Base} {S:Nat→Prop} {M:List Blk} {R:List Row} {D:List DI} {I:List (Bool×MP)}
end
end AT
namespace AT
open Go Go.RowKit
theorem Mem.addRo {w w':World} {w0:Base} {S S':Nat→Prop} {M:List Blk} {R:List Row} {D:List DI} {I:List (Bool×MP)} (H:Mem w0 S M R D I w) (hb:Below w.heap.size w w') {p:MP} (hp:p.pred w' (St ⟨w,[]⟩ S' [] [] [] true)):∃F,Mem w0 S M R (⟨F,p⟩::D) I w':=by
 have hF:∀b,b∈List.range' w.heap.size (w'.heap.size - w.heap.size)↔w.heap.size≤b∧b<w'.heap.size:=λb=>by
   rw[List.mem_range'_1]
   have:=hb.size
   omega
 refine⟨List.range' w.heap.size (w'.heap.size - w.heap.size),H.addOwn hb (X:=[⟨_,p⟩]) ?_ (λd hd=>?_) (λb h=>?_)⟩;simpa using List.nodup_range';rw[sD]at hd; subst hd;refine p.mono hp λb h hlt=>⟨(hF b).2 ?_,rfl⟩;rcases h with ⟨h,_⟩ | ⟨h1 | h1,_⟩
 cases h;exact⟨h1,hlt⟩;cases h1;simp only[wq,An,s5]at h;exact (hF b).1 h
end AT
namespace AT
open Go Go.RowKit
end AT
namespace AT
open Go Go.RowKit
section
variable {P:Program} {Q:Exit→Act→World→Prop} {a:Act} {w:World} {n:Nat} {L:List (Nat×Value)} {dst:Option Tmp} {ty:TypeId} {pos:String} {af:Array Edge} {g:Option (Nat×Bool)} {K:Act→World→Prop} {d:Nat}
variable {T U:TypeId} {x y:Operand} {s t:ByteArray}
theorem ap (hf:Fr a n L) (hT:P.underlying T=some .string) {k:IntKind} {i:Int} {e:By} (hx:ev L x=some (.string s)) (hy:ev L y=some (.int k i)) (h:sidx s i=some e):(execOp a.eval ⟨dst,.index T x y,ty,pos,af,g⟩).run P w=.ok (.value (.int .u8 e.n)) w:=by
  unfold sidx at h;split at h
  case isFalse=>cases h
  rename_i h0;obtain⟨b,hb,rfl⟩:=sV.1 h;have h1:(Instr.index T (.string s) (.int k i)).run P w=.ok (.int .u8 b.toNat) w:=by
    simp [Instr.index,asIntOf,run_underlying hT,h0,hb]
  simp [execOp,hf.eval hx,hf.eval hy,h1]
theorem lK (hf:Fr a n L) {u:ByteArray} (hx:ev L x=some (.string s)) (hy:ev L y=some (.string t)) (h:scat s t=some u):(execOp a.eval ⟨dst,.binOp .add T x y U,ty,pos,af,g⟩).run P w=.ok (.value (.string u)) w:=by
  unfold scat at h;split at h
  case isFalse=>cases h
  rename_i h0;injection h with h; subst h
  have h1:(Op.stringOp .add s t).run P w=.ok (.string (s++t)) w:=by
    have:¬(((s.size + t.size:Nat):Int) > IntKind.i64.max):=by
      simp only[IntKind.max,IntKind.signed,IntKind.bits]
      simp
      omega
    simp only[Op.stringOp,this,if_false]
    rfl
  simp [execOp,hf.eval hx,hf.eval hy,eqGuard,binOp,h1]
variable {S:Nat→Prop} {A:Option Addr} {xs:List By}
theorem nt {len cap:Nat} (h:lrep w S [.slice A len cap] xs):(Conv.bytesToString (.slice A len cap)).run P w=.ok (.string (bstr xs)) w:=by
 obtain⟨A',cap',hcs,hlc,hcm,hel⟩:=h;simp only[s4,Value.slice.injEq,and_true]at hcs;obtain⟨rfl,rfl,rfl⟩:=hcs;cases A with
 | none =>
   cases xs with
   | nil=>rfl
   | cons x xs=>obtain⟨p,hp,_⟩:=hel 0 x rfl; cases hp
 | some p =>
   have hl:(loadCells p xs.length).run P w=.ok ((xs.map By.n).map (Value.int .u8)).toArray w:=by
     have:=run_loadCells_list (P:=P) (w:=w) p ((xs.map By.n).map (Value.int .u8)) λj v hj=>by
       simp only[wL,sV]at hj
       obtain⟨m,⟨x,hx,rfl⟩,rfl⟩:=hj
       obtain⟨p',hp',hS,cs,hc,hr⟩:=hel j x hx
       injection hp' with hp'; subst hp'
       have hr':cs=[.int .u8 x.n]:=hr
       subst hr'
       have:=hc 0 _ rfl
       rw[sW]at this
       have e:j * GoTy.n By=j:=Aw j
       rw[e]at this
       exact this
     simpa using this
   rw[run_bytesToString w p xs.length cap (xs.map By.n) hl]
   unfold bstr
   rw[List.foldl_map]
theorem lR {len cap:Nat} {e:TypeId} (hs:P.underlying T=some (.slice e)) (he:P.underlying e=some (.int .u8)) (hd:P.underlying U=some .string) (hf:Fr a n L) (hx:ev L x=some (.slice A len cap)) (h:lrep w S [.slice A len cap] xs) :
    (execOp a.eval ⟨dst,.convert T U x,ty,pos,af,g⟩).run P w=.ok (.value (.string (bstr xs))) w:=by
 have h1:(convert T U (.slice A len cap)).run P w=.ok (.string (bstr xs)) w:=by
   rw[run_convert_bytes_string w T U e A len cap hs he hd]; exact nt h
 simp [execOp,hf.eval hx,h1]
end
end AT
namespace AT
open Go Go.RowKit
theorem elL {w:World} {T:Nat→Prop} {α:Type} [GoTy α]:∀(l:List (List Value×α)),(∀p∈l,GoTy.rep w T p.1 p.2)→∀i x,(l.map Prod.snd)[i]?=some x→GoTy.rep w T (vt α ((l.map Prod.fst).flatten) i) x
  | [],_,i,x,h=>by simp at h
  | p::l,hp,i,x,h=>by
    have h0:=hp p (by simp)
    have hl:p.1.length=GoTy.n α:=GoTy.len h0
    cases i with
    | zero =>
      simp only[wF,wx,sO]at h
      subst h
      unfold vt
      rw[wD,tA,wF,wt,td (by omega),tK (by omega)]
      exact h0
    | succ i =>
      simp only[wF,List.getElem?_cons_succ]at h
      have:=elL l (λq hq=>hp q (by simp [hq])) i x h
      unfold vt at this ⊢
      rw[wF,wt,wP,wX,←wj,←hl,List.drop_left,hl]
      exact this
variable {T:Nat→Prop} {α:Type} [GoTy α]
theorem al0 {w:World} :∀p∈([]:List (List Value×α)),GoTy.rep w T p.1 p.2:=λ_ h=>by cases h
theorem al1 {w:World} {cs:List Value} {x:α} {l:List (List Value×α)} (h:GoTy.rep w T cs x) (t:∀p∈l,GoTy.rep w T p.1 p.2):∀p∈((cs,x)::l),GoTy.rep w T p.1 p.2:=by
 intro p hp;rcases sZ.1 hp with rfl | hp
 exact h;exact t p hp
end AT
namespace AT
open Go Go.RowKit
section
variable {P:Program} {Q:Exit→Act→World→Prop} {a:Act} {w:World} {n:Nat} {L:List (Nat×Value)} {dst:Option Tmp} {ty:TypeId} {pos:String} {af:Array Edge} {g:Option (Nat×Bool)} {K:Act→World→Prop} {d:Nat}
variable {w0:Base} {S:Nat→Prop} {M:List Blk} {R:List Row} {D:List DI} {I:List (Bool×MP)}
theorem kD (H:Mem w0 S M R D I w) {α:Type} [GoTy α] {T E E':TypeId} (hT:P.underlying T=some (.slice E)) (hE:SZ P E (GoTy.n α)) (j:Nat) {kd:Kd} {A:Option Addr} {cap:Nat} {xs:List α} {i:Int} {e:α}
    (hj:R[j]?=some ⟨kd,E',A,cap,xs⟩) (he:idx xs i=some e) :
    ∃b o,RA A b o (i.toNat * GoTy.n α)∧∀w' k,(Instr.indexAt T (.slice A xs.length cap) (.int k i)).run P w'=.ok (.pointer (some ⟨b,o,none⟩)) w':=by
 obtain⟨h0,h1,h2⟩:=ct he;obtain⟨b,q,rfl,cs,hr,hc⟩:=fK H hj he;refine⟨b,_,⟨q,rfl,rfl⟩,λw' k=>?_⟩;have hi:=run_indexAt (P:=P) (w:=w') (cap:=cap) hT hE h0 h1 (p:=⟨b,q,none⟩) (k:=k);rw[add_lit]at hi;exact hi
theorem kA (hf:Fr a n L) (H:Mem w0 S M R D I w) {α:Type} [GoTy α] {T:TypeId} (hT:LS P T) (j:Nat) {x:Operand} {b o off:Nat} {kd:Kd} {E:TypeId} {A:Option Addr} {cap:Nat} {xs:List α} {i:Int} {e:α} {v:Value}
    (hx:ev L x=some (.pointer (some ⟨b,o + off,none⟩))) (hj:R[j]?=some ⟨kd,E,A,cap,xs⟩) (hA:RA A b o (i.toNat * GoTy.n α)) (he:idx xs i=some e) (hv:∀(w:World) (T:Nat→Prop) (cs:List Value),GoTy.rep w T cs e→cs[off]?=some v) :
    (execOp a.eval ⟨dst,.load T x,ty,pos,af,g⟩).run P w=.ok (.value v) w:=by
 obtain⟨b',q',hA',cs,hr,hc⟩:=fK H hj he;obtain⟨q0,rfl,rfl⟩:=hA;injection hA' with hA'
 injection hA' with hA' hA2
 subst hA';subst hA2;have:=hc off v (hv _ _ _ hr);rw[add_lit]at this;exact cU hf hT hx this
end
end AT
namespace AT
open Go Go.RowKit
theorem iteB {R:Type} {b:Bool} {x y r:R} {G:Prop} (h:(if b=true then x else y)=r) (h1:b=true→x=r→G) (h2:b=false→y=r→G):G:=by
 cases b;exact h2 rfl (by simpa using h);exact h1 rfl (by simpa using h)
section
variable {P:Program} {Q:Exit→Act→World→Prop} {a:Act} {w:World} {n:Nat} {L:List (Nat×Value)}
variable {w0:Base} {S:Nat→Prop} {M:List Blk} {R:List Row} {D:List DI} {I:List (Bool×MP)}
theorem midF {c:Code} (t:Nat) (v:Value) (hf:Fr a n L) (H:Mem w0 S M R D I w) (h:c.wp P (Exit.then (λa w=>Fr a n ((t,v)::L)∧Mem w0 S M R D I w) Q) a w)
    (h2:∀a w,Fr a n ((t,v)::L)→Mem w0 S M R D I w→Q .normal a w):c.wp P Q a w:=mid _ h λa w q=>h2 a w q.1 q.2
theorem vF {σ:Type} {id:Nat} {c:Code} (Inv:σ→Act→World→Prop) (G:Nat→σ→Prop) (E:σ→Prop) (s0:σ) (k0:Nat) (hL:G k0 s0) (hI:Inv s0 a w) (h0:∀s,¬G 0 s)
    (round:∀k s a w,G (k + 1) s→Inv s a w→c.wp P (Exit.then (λa' w'=>∃s',G k s'∧Inv s' a' w') (Exit.inBlock id (Exit.then (λa w=>∃s,E s∧Inv s a w) Q))) a w)
    (after:∀a w,(∃s,E s∧Inv s a w)→Q .normal a w):(Code.block id (.loop c)).wp P Q a w :=
  mid _ (wp_block (ml G Inv h0 round k0 s0 a w hL hI)) after
end
section
variable {P:Program} {S0:World→Prop} {B:List Nat} {l:List Oper} {bs bs':List Bool} {a:Act} {w:World} {n fuel d i:Nat} {L:List (Nat×Value)} {Mid:Act→World→Prop} {o:Oper} {v:Value}
variable {w0:Base} {S:Nat→Prop} {M:List Blk} {R:List Row} {D:List DI} {I:List (Bool×MP)}
theorem strT (H:Mem w0 S M R D I w) (hs:∀w,Mem w0 S M R D I w→S0 w) (h:Mem w0 S M R D I w→DL P l Mid (λw=>Mem w0 S M R D I w) B fuel bs a w):DL P l Mid S0 B fuel bs a w:=str _ hs (h H)
theorem tP (i:Nat) (hi:l[i]?=some o) (hd:o.dst=some d) (hg:o.guard=none) (hdn:Nat.ble (d + 1) n=true) (hf:Fr a n L) (hc:takeB l bs i [] B=true) (hS:nb B bs.toArray=true→S0 w) (hy:∀w,(execOp a.eval o).run P w=.ok (.value v) w)
    (h:∀a',Fr a' n ((d,v)::L)→DL P l Mid S0 B fuel (bs.set i true) a' w):DL P l Mid S0 B (fuel + 1) bs a w:=tkP hi hd hg (nle hdn) hf hc hS hy rfl h
theorem tPg (i:Nat) {j e:Nat} {b:Bool} (hi:l[i]?=some o) (hd:o.dst=some d) (hg:o.guard=some (j,b)) (hj:(l[j]?).bind (·.dst)=some e) (hv:lk L e=some (.bool b)) (hdn:Nat.ble (d + 1) n=true) (hf:Fr a n L) (hc:takeB l bs i [] B=true) (hS:nb B bs.toArray=true→S0 w) (hy:∀w,(execOp a.eval o).run P w=.ok (.value v) w)
    (h:∀a',Fr a' n ((d,v)::L)→DL P l Mid S0 B fuel (bs.set i true) a' w):DL P l Mid S0 B (fuel + 1) bs a w:=tkPg hi hd hg hj hv (nle hdn) hf hc hS hy rfl h
theorem tS (i:Nat) (X:List Nat) (hi:l[i]?=some o) (hd:o.dst=some d) (hg:o.guard=none) (hdn:Nat.ble (d + 1) n=true) (hf:Fr a n L) (hc:takeB l bs i X B=true) (hBX:(B.all (X.contains ·))=true) (hS:S0 w) (hy:∀w,S0 w→(execOp a.eval o).run P w=.ok (.value v) w)
    (h:∀a',Fr a' n ((d,v)::L)→DL P l Mid S0 B fuel (bs.set i true) a' w):DL P l Mid S0 B (fuel + 1) bs a w:=tkS X hi hd hg (nle hdn) hf hc hBX hS hy rfl h
theorem tSg (i:Nat) (X:List Nat) {j e:Nat} {b:Bool} (hi:l[i]?=some o) (hd:o.dst=some d) (hg:o.guard=some (j,b)) (hj:(l[j]?).bind (·.dst)=some e) (hv:lk L e=some (.bool b)) (hdn:Nat.ble (d + 1) n=true) (hf:Fr a n L) (hc:takeB l bs i X B=true) (hBX:(B.all (X.contains ·))=true) (hS:S0 w) (hy:∀w,S0 w→(execOp a.eval o).run P w=.ok (.value v) w)
    (h:∀a',Fr a' n ((d,v)::L)→DL P l Mid S0 B fuel (bs.set i true) a' w):DL P l Mid S0 B (fuel + 1) bs a w:=tkSg X hi hd hg hj hv (nle hdn) hf hc hBX hS hy rfl h
theorem tUU (i:Nat) {j e:Nat} {b:Bool} (hi:l[i]?=some o) (hd:o.dst=some d) (hg:o.guard=some (j,b)) (hj:(l[j]?).bind (·.dst)=some e) (hv:lk L e=some undef) (hdn:Nat.ble (d + 1) n=true) (hf:Fr a n L) (hc:takeB l bs i [] B=true) (hS:nb B bs.toArray=true→S0 w)
    (h:∀a',Fr a' n ((d,undef)::L)→DL P l Mid S0 B fuel (bs.set i true) a' w):DL P l Mid S0 B (fuel + 1) bs a w:=tkUU hi hd hg hj hv (nle hdn) hf hc hS rfl h
theorem tU (i:Nat) {j e:Nat} {b c:Bool} (hi:l[i]?=some o) (hd:o.dst=some d) (hg:o.guard=some (j,b)) (hj:(l[j]?).bind (·.dst)=some e) (hv:lk L e=some (.bool c)) (hne:(c==b)=false) (hdn:Nat.ble (d + 1) n=true) (hf:Fr a n L) (hc:takeB l bs i [] B=true) (hS:nb B bs.toArray=true→S0 w)
    (h:∀a',Fr a' n ((d,undef)::L)→DL P l Mid S0 B fuel (bs.set i true) a' w):DL P l Mid S0 B (fuel + 1) bs a w:=tkU hi hd hg hj hv hne (nle hdn) hf hc hS rfl h
theorem n1 (i:Nat) (hr:Region.ready .any l.toArray bs.toArray=[i]) (hi:l[i]?=some o) (hg:o.guard=none)
    (h:o.wp P a w (λa' w'=>(nb B (bs.set i true).toArray=true→S0 w')∧DL P l Mid S0 B fuel (bs.set i true) a' w') (only Mid)):DL P l Mid S0 B (fuel + 1) bs a w:=on1 hr hi hg rfl h
theorem n1g (i:Nat) {j e:Nat} {b:Bool} (hr:Region.ready .any l.toArray bs.toArray=[i]) (hi:l[i]?=some o) (hg:o.guard=some (j,b)) (hj:(l[j]?).bind (·.dst)=some e) (hv:lk L e=some (.bool b)) (hf:Fr a n L)
    (h:o.wp P a w (λa' w'=>(nb B (bs.set i true).toArray=true→S0 w')∧DL P l Mid S0 B fuel (bs.set i true) a' w') (only Mid)):DL P l Mid S0 B (fuel + 1) bs a w:=on1g hr hi hg hj hv hf rfl h
end
end AT
namespace AT
open Go Go.RowKit
end AT
namespace AT
open Go Go.RowKit
theorem Mem.ownLen {w:World} {w0:Base} {S:Nat→Prop} {M:List Blk} {R:List Row} {D:List DI} {I:List (Bool×MP)} (H:Mem w0 S M R D I w) {α:Type} [GoTy α] {F:List Nat} {A:Option Addr} {len cap:Nat} {xs:List α} (h:D[0]?=some ⟨F,MP.own F [.slice A len cap] xs⟩):xs.length=len:=by
 obtain⟨⟨A',cap',E,cells,Fs,hcs,_⟩,-⟩:=H.diAt (sF h);simp only[s4,Value.slice.injEq,and_true]at hcs;exact hcs.2.1.symm
end AT
namespace AT
open Go Go.RowKit
def MP.and (p q:MP):MP:=⟨λw S=>p.pred w S∧q.pred w S,λh hm=>⟨p.mono h.1 hm,q.mono h.2 hm⟩⟩
theorem Mem.lendQ {w:World} {w0:Base} {S:Nat→Prop} {M:List Blk} {R:List Row} {D:List DI} {I:List (Bool×MP)} (H:Mem w0 S M R D I w) (j:Nat) {F:List Nat} {p q:MP} (hj:D[j]?=some ⟨F,p⟩) (hq:∀w S,p.pred w S→q.pred w S):Mem w0 S M R D ((true,q)::I) w :=
  H.push _ (hq _ _ (p.mono (H.diAt (sF hj)) λb hb _=>⟨MemZ.fd_st H (mN (sF hj)) hb _,rfl⟩))
end AT
namespace AT
open Go Go.RowKit
section
variable {P:Program} {a:Act} {w:World} {n:Nat} {L:List (Nat×Value)} {dst:Option Tmp} {ty:TypeId} {pos:String} {af:Array Edge} {g:Option (Nat×Bool)}
def iG (fs:List Field) (xs ys:List Int):Bool:=fs.all λf=>(xs[f.offset]?).getD 0==(ys[f.offset]?).getD 0
structure QS (P:Program) (T:TypeId) (fs:List Field) (m:Nat):Prop where
  u:P.underlying T=some (.struct fs.toArray)
  s:P.stoodInHeld T=false
  f : ∀ f ∈ fs, (f.name == "_") = false ∧ f.offset < m ∧ PT P f.type ∧ ∃ k, P.underlying f.type = some (.int k)
theorem j1 {E:TypeId} {xs:List Int} {j:Nat} (hE:PT P E) (hj:j<xs.length) (w:World):(part E (xs.map (Value.int .i64)).toArray j).run P w=.ok (.int .i64 ((xs[j]?).getD 0)) w:=by
 have hE1:∀w,(isAgg E).run P w=.ok false w:=λw=>(hE w).1;have e:xs[j]?=some xs[j]:=sv hj;simp [part,hE1,e,hj]
theorem nO {E:TypeId} {k:IntKind} {d:Nat} {i j:Int} (hE:P.underlying E=some (.int k)) (w:World):(Op.equalIn (d + 1) E (.int .i64 i) (.int .i64 j)).run P w=.ok (i==j) w:=by
 simp [Op.equalIn,run_underlying hE]
theorem eqS {T:TypeId} {fs:List Field} {m:Nat} (hq:QS P T fs m) (xs ys:List Int) (hx:xs.length=m) (hy:ys.length=m) (w:World):(Op.equal T (.agg (xs.map (Value.int .i64)).toArray) (.agg (ys.map (Value.int .i64)).toArray)).run P w=.ok (iG fs xs ys) w:=by
 obtain⟨hu,hs,hf⟩:=hq;unfold Op.equal Op.maxDepth;rw[show (10000:Nat)=9999 + 1 from rfl,Op.equalIn];simp [run_underlying hu,hs];clear hu hs;induction fs with
 | nil=>simp [iG]
 | cons f fs ih =>
   obtain⟨h1,h2,h3,k,h4⟩:=hf f (by simp)
   have h1' : ¬ f.name = "_" := by simpa using h1
   have ih':=ih λg hg=>hf g (tH _ hg)
   have hpx:=j1 (xs:=xs) (j:=f.offset) h3 (by omega) w
   have hpy:=j1 (xs:=ys) (j:=f.offset) h3 (by omega) w
   have heq:(Op.equalIn 9999 f.type (.int .i64 ((xs[f.offset]?).getD 0)) (.int .i64 ((ys[f.offset]?).getD 0))).run P w=.ok ((xs[f.offset]?).getD 0==(ys[f.offset]?).getD 0) w:=nO (d:=9998) h4 w
   have hs:iG (f::fs) xs ys=((xs[f.offset]?).getD 0==(ys[f.offset]?).getD 0&&iG fs xs ys):=rfl
   rw[hs]
   clear hs ih
   rw[List.forIn_cons]
   simp only[h1',if_false,Sem.run_bind,hpx,hpy,Result.andThen_ok,heq]
   cases hc:((xs[f.offset]?).getD 0==(ys[f.offset]?).getD 0)
   · simp
   · simpa using ih'
theorem pL (hf:Fr a n L) {T U:TypeId} {fs:List Field} {m:Nat} (hq:QS P T fs m) (hg:P.eqGuardType P.depth T=false) {x y:Operand} {cs ds:List Value} {xs ys:List Int} (hx:ev L x=some (.agg cs.toArray)) (hy:ev L y=some (.agg ds.toArray))
    (hc:cs=xs.map (Value.int .i64)) (hd:ds=ys.map (Value.int .i64)) (h1:xs.length=m) (h2:ys.length=m) :
    (execOp a.eval ⟨dst,.binOp .eql T x y U,ty,pos,af,g⟩).run P w=.ok (.value (.bool (iG fs xs ys))) w:=by
 subst hc hd;have:=eqS hq xs ys h1 h2 w;simp [execOp,hf.eval hx,hf.eval hy,eqGuard,binOp,this,hg]
theorem pC (hf:Fr a n L) {T U:TypeId} {fs:List Field} {m:Nat} (hq:QS P T fs m) (hg:P.eqGuardType P.depth T=false) {x y:Operand} {cs ds:List Value} {xs ys:List Int} (hx:ev L x=some (.agg cs.toArray)) (hy:ev L y=some (.agg ds.toArray))
    (hc:cs=xs.map (Value.int .i64)) (hd:ds=ys.map (Value.int .i64)) (h1:xs.length=m) (h2:ys.length=m) :
    (execOp a.eval ⟨dst,.binOp .neq T x y U,ty,pos,af,g⟩).run P w=.ok (.value (.bool (!iG fs xs ys))) w:=by
 subst hc hd;have:=eqS hq xs ys h1 h2 w;simp [execOp,hf.eval hx,hf.eval hy,eqGuard,binOp,this,hg]
def flds (P:Program) (T:TypeId):List Field:=match P.underlying T with
  | some (.struct fs)=>fs.toList
  | _=>[]
structure EQT (P:Program) (T:TypeId) (m:Nat) (E:TypeId):Prop where
  u:P.underlying T=some (.struct (flds P T).toArray)
  s:P.stoodInHeld T=false
  g:P.eqGuardType P.depth T=false
  o:(flds P T).map (·.offset)=List.range m
  f : ((flds P T).all fun f => !(f.name == "_") && f.type == E) = true
  p:PT P E
  i:∃k,P.underlying E=some (.int k)
theorem EQT.qs {T:TypeId} {m:Nat} {E:TypeId} (h:EQT P T m E):QS P T (flds P T) m:=by
 refine⟨h.u,h.s,λf hf=>?_⟩;have h1:=tG.1 h.f f hf;simp only[sH,tu,beq_iff_eq]at h1;have h2:f.offset∈List.range m:=by rw[←h.o]; exact List.mem_map_of_mem hf
 exact⟨h1.1,s8.1 h2,h1.2▸h.p,h1.2▸h.i⟩
theorem jW {fs:List Field} {m:Nat} (ho:fs.map (·.offset)=List.range m) (xs ys:List Int) (h1:xs.length=m) (h2:ys.length=m):iG fs xs ys=(xs==ys):=by
 have e:iG fs xs ys=(List.range m).all λj=>(xs[j]?).getD 0==(ys[j]?).getD 0:=by
   rw[←ho,List.all_map]; rfl
 rw[e,tg,beq_iff_eq,tG];constructor;intro h;apply Am (by omega);intro j a b;have:=h j (s8.2 (by omega));rw[sv a,sv b,beq_iff_eq]at this;exact this;rintro rfl j _;simp
theorem od (hf:Fr a n L) {T U:TypeId} {m:Nat} {E:TypeId} (hq:EQT P T m E) (xs ys:List Int) {x y:Operand} {cs ds:List Value} (hx:ev L x=some (.agg cs.toArray)) (hy:ev L y=some (.agg ds.toArray))
    (hc:cs=xs.map (Value.int .i64)) (hd:ds=ys.map (Value.int .i64)) (h1:xs.length=m) (h2:ys.length=m) :
    (execOp a.eval ⟨dst,.binOp .eql T x y U,ty,pos,af,g⟩).run P w=.ok (.value (.bool (xs==ys))) w:=by
 rw[←jW hq.o xs ys h1 h2]; exact pL hf hq.qs hq.g hx hy hc hd h1 h2
theorem lO (hf:Fr a n L) {T U:TypeId} {m:Nat} {E:TypeId} (hq:EQT P T m E) (xs ys:List Int) {x y:Operand} {cs ds:List Value} (hx:ev L x=some (.agg cs.toArray)) (hy:ev L y=some (.agg ds.toArray))
    (hc:cs=xs.map (Value.int .i64)) (hd:ds=ys.map (Value.int .i64)) (h1:xs.length=m) (h2:ys.length=m) :
    (execOp a.eval ⟨dst,.binOp .neq T x y U,ty,pos,af,g⟩).run P w=.ok (.value (.bool (!(xs==ys)))) w:=by
 rw[←jW hq.o xs ys h1 h2]; exact pC hf hq.qs hq.g hx hy hc hd h1 h2
end
end AT
namespace AT
open Go Go.RowKit
def m9 (P:Program) (f:FuncId) (s:Nat):Prop:=∀(w:World) (A:Option Addr) (n cap:Nat) (E:TypeId) (cells:List Value) (i j:Nat),w.ownsRow 0 E s (.slice A n cap) n cells→(∀u∈cells,u.oneCell'=true)→i≤j→j≤n →
  Calls P f #[.slice A n cap,.int .i64 i,.int .i64 j] w λe w'=>∃v,e=.returned v∧v=.slice A (n - (j - i)) cap∧GB w w' (Value.slice A n cap).ownBlock∧w'.ownsRow 0 E s (.slice A (n - (j - i)) cap) (n - (j - i)) (cells.take (i * s)++cells.drop (j * s))
def m8 (P:Program) (f:FuncId) (s:Nat):Prop:=∀(w:World) (A A2:Option Addr) (n cap m cap2:Nat) (E E2:TypeId) (cells vs:List Value) (i:Nat),w.ownsRow 0 E s (.slice A n cap) n cells→w.ownsRow 0 E2 s (.slice A2 m cap2) m vs→(∀u∈cells,u.oneCell'=true)→(∀u∈vs,u.oneCell'=true) →
  (∀b,(Value.slice A n cap).ownBlock=some b→(Value.slice A2 m cap2).ownBlock≠some b)→i≤n→n + m≤1099511627776 →
  Calls P f #[.slice A n cap,.int .i64 i,.slice A2 m cap2] w λe w'=>∃v,e=.returned v∧∃E1 A1 cap1,v=.slice A1 (n + m) cap1∧GB w w' (Value.slice A n cap).ownBlock ∧
    ((Value.slice A1 (n + m) cap1).ownBlock=(Value.slice A n cap).ownBlock∨((Value.slice A1 (n + m) cap1).ownBlock=some w.heap.size∧w.heap.size<w'.heap.size))∧w'.ownsRow 0 E1 s (.slice A1 (n + m) cap1) (n + m) (cells.take (i * s)++(vs++cells.drop (i * s)))
section
variable {P:Program} {Q:Exit→Act→World→Prop} {a:Act} {w:World} {w0:Base} {n:Nat} {L:List (Nat×Value)} {K:Act→World→Prop} {S:Nat→Prop} {M:List Blk} {D:List DI} {I:List (Bool×MP)} {d:Tmp} {ty:TypeId} {pos:String} {af:Array Edge} {g:Option (Nat×Bool)}
variable {α:Type} [GoTy α] {R:List Row}
theorem iQ (cells:List Value) (j q:Nat):vt α (cells.drop (j * GoTy.n α)) q=vt α cells (q + j):=by
 unfold vt;rw[wj,tn,wX]
theorem iP (cells:List Value) {i q:Nat} (h:q<i):vt α (cells.take (i * GoTy.n α)) q=vt α cells q:=by
 unfold vt;have h1:(q + 1) * GoTy.n α≤i * GoTy.n α:=sQ _ h;rw[tn,Nat.one_mul]at h1;rw[Au,t8];congr 1;omega
theorem take_len {cells:List Value} {m i:Nat} (hl:cells.length=m * GoTy.n α) (h:i≤m):(cells.take (i * GoTy.n α)).length=i * GoTy.n α:=by
 have:=sQ (GoTy.n α) h;rw[sG];omega
theorem row_one {E:TypeId} {A:Option Addr} {cap:Nat} {xs:List α} {cells:List Value} (h:lrep w (λ_=>True) [.slice A xs.length cap] xs) (ho:w.ownsRow 0 E (GoTy.n α) (.slice A xs.length cap) xs.length cells):∀u∈cells,u.oneCell'=true:=by
 obtain⟨A',c',hcs,hyc,hcm,hel⟩:=h;simp only[s4,Value.slice.injEq,and_true]at hcs;obtain⟨rfl,-,rfl⟩:=hcs;rcases ho.2 with ⟨hv,h0⟩ | ⟨gb,cap',cur,hv,hrest⟩
 have:cells=[]:=tF (by rw[ho.1,h0,wD]);subst this;intro u hu; cases hu
 simp only[Value.slice.injEq]at hv;obtain⟨rfl,-,rfl⟩:=hv;obtain⟨news,g1,g2,g3,_⟩:=gather (w:=w) (T:=λ_=>True) (p:=⟨gb,0,none⟩) xs 0 (λk x hx=>by
   obtain⟨p',hp',_,h⟩:=hel k x hx
   injection hp' with hp'; subst hp'
   rwa [tc])
 simp only[wD,tc]at g2;intro u hu;obtain⟨j,hj,rfl⟩:=s7.1 hu;have hc:=ho.cells (g:=gb) rfl j _ (sv hj);have hjn:j<news.length:=by rw[g1,←ho.1]; exact hj
 have hn:=g2 j _ (sv hjn);rw[hc]at hn;injection hn with hn
 rw[hn];exact g3 _ (s9 hjn)
theorem oQ (hf:Fr a n L) {α:Type} [GoTy α] {f:FuncId} {E0:TypeId} {Fs:List (List Nat)} {A:Option Addr} {cap:Nat} {xs zs:List α} {i j:Int}
    (H:Mem w0 S M (⟨.ow Fs,E0,A,cap,xs⟩::R) D I w) (hk:CL P f) (hs:m9 P f (GoTy.n α)) {x y z:Operand} (hxs:evs L [x,y,z]=some [.slice A xs.length cap,.int .i64 i,.int .i64 j]) {ats:Array TypeId} (hd:dell xs i j=some zs) (hdn:d<n)
    (k:∀Fs' a' w',Fr a' n ((d,.slice A zs.length cap)::L)→Mem w0 S M (⟨.ow Fs',E0,A,cap,zs⟩::R) D I w'→K a' w'):Oper.wp P ⟨some d,.call ⟨.value (.func f),[x,y,z].toArray,ats⟩,ty,pos,af,g⟩ a w K Q:=by
  obtain⟨cells,ho,hfit,he⟩:=H.rowAt (r:=⟨.ow Fs,E0,A,cap,xs⟩) (by simp);unfold dell at hd;split at hd
  case isFalse=>cases hd
  rename_i hij;injection hd with hd
  obtain⟨i,rfl⟩:=ww hij.1;obtain⟨j,rfl⟩:=ww (show 0≤j by omega);simp only[Int.ofNat_eq_natCast,tM]at hd hij hxs;have hzl:zs.length=xs.length - (j - i):=by rw[←hd]; simp; omega
  have hcl:cells.length=xs.length * GoTy.n α:=ho.1;have hfl:Fs.length=xs.length:=hfit;refine fL hf hk hxs hdn (hs w A xs.length cap E0 cells i j ho (row_one (H.rowTrue 0 rfl) ho) (by omega) (by omega)) λv w' a' hp hf'=>?_;obtain⟨rfl,h2,h3⟩:=hp;rw[←hzl]at h3 hf';refine k (Fs.take i++Fs.drop j) a' w' hf' ?_;have H1:=MemZ.perm H (vL _);have hnd:=MemZ.nd H1;rw[uD,uA]at hnd;have hnd':=(sA.1 hnd).1;have e0:(Row.res ⟨.ow Fs,E0,A,cap,xs⟩).all=(Value.slice A xs.length cap).ownBlock.toList++List.flatten Fs:=rfl;have eb:(Value.slice A zs.length cap).ownBlock=(Value.slice A xs.length cap).ownBlock:=by cases A <;> rfl
  have e2:(Row.res ⟨.ow (Fs.take i++Fs.drop j),E0,A,cap,zs⟩).all=(Value.slice A xs.length cap).ownBlock.toList++List.flatten (Fs.take i++Fs.drop j):=by rw[←eb]; rfl
  have hsl:(Fs.take i++Fs.drop j).Sublist Fs:=by
    have h1:(Fs.drop j).Sublist (Fs.drop i):=List.drop_sublist_drop_left _ (by omega)
    have:=(tN (Fs.take i)).append h1
    rwa [tw]at this
  have hfs:(List.flatten (Fs.take i++Fs.drop j)).Sublist (List.flatten Fs):=fy hsl;refine MemZ.perm (MemZ.step (rs':=[Row.res ⟨.ow (Fs.take i++Fs.drop j),E0,A,cap,zs⟩]) H1 ⟨h2.os,h2.tape,h2.output,h2.size,λb hb hx=>h2.block b hb λe=>hx ?_,h2.drawn⟩ (λb hb=>.inl ?_) (λb hb=>.inl ?_) ?_ (λhm q hq=>?_)) (vL _).symm
  · rw[ym]; show b∈(Value.slice A xs.length cap).ownBlock.toList; rw[←e]; simp
  · rw[uA,e2]at hb
    rw[uA,e0]
    exact ((tN _).append hfs).mem hb
  · rw[ym]at hb ⊢
    have e:(Row.res ⟨.ow (Fs.take i++Fs.drop j),E0,A,cap,zs⟩).fm=(Row.res ⟨.ow Fs,E0,A,cap,xs⟩).fm:=by
      show (Value.slice A zs.length cap).ownBlock.toList=(Value.slice A xs.length cap).ownBlock.toList
      rw[eb]
    rw[e]at hb; exact hb
  · rw[uA,e2]
    rw[e0]at hnd'
    exact ((tN _).append hfs).nodup hnd'
  · rw[sD]at hq; subst hq
    have hlt:∀b∈List.flatten Fs,b<w.heap.size:=λb hb=>(MemZ.lt H1 b (by rw[uD,uA,e0]; exact su.2 (.inl (su.2 (.inr hb))))).2
    have hsame:∀b,b∈List.flatten Fs→w'.heap[b]?=w.heap[b]?:=λb hb=>by
      refine h2.block b (hlt b hb) λe=>?_
      have hm:b∈(Value.slice A xs.length cap).ownBlock.toList:=by rw[←e]; simp
      rw[e0]at hnd'
      exact (sA.1 hnd').2.2 b hm b hb rfl
    refine⟨_,h3,by simp only[Kd.fits,sJ,sG,tB]; omega,λq e hi Fi hFi=>?_⟩
    simp only at hi
    rw[←hd]at hi
    have htl:(xs.take i).length=i:=by rw[sG]; omega
    have htf:(Fs.take i).length=i:=by rw[sG]; omega
    rw[s6]at hi hFi
    rw[htl]at hi
    rw[htf]at hFi
    split at hi
    · rename_i hq
      rw[if_pos hq,sI hq]at hFi
      rw[sI hq]at hi
      rw[cF (take_len hcl (show i≤xs.length by omega)) hq,iP _ hq]
      exact GoTy.own_mono (he q e hi Fi hFi) λb hb=>hsame b (bJ hFi hb)
    · rename_i hq
      rw[if_neg hq,sN]at hFi
      rw[sN]at hi
      rw[cE (take_len hcl (show i≤xs.length by omega)) (by omega),iQ,wX]
      exact GoTy.own_mono (he _ e hi Fi hFi) λb hb=>hsame b (bJ hFi hb)
theorem oO (hf:Fr a n L) {α:Type} [GoTy α] {f:FuncId} {E0 E':TypeId} {Fs Gs:List (List Nat)} {A A':Option Addr} {cap cap':Nat} {xs ys zs:List α} {i:Int}
    (H:Mem w0 S M (⟨.ow Fs,E0,A,cap,xs⟩::⟨.ow Gs,E',A',cap',ys⟩::R) D I w) (hk:CL P f) (hs:m8 P f (GoTy.n α)) {x y z:Operand} (hxs:evs L [x,y,z]=some [.slice A xs.length cap,.int .i64 i,.slice A' ys.length cap']) {ats:Array TypeId} (hd:insl xs i ys=some zs) (hdn:d<n)
    (k:∀Fs' E1 A2 cap2 a' w',Fr a' n ((d,.slice A2 zs.length cap2)::L)→Mem w0 S M (⟨.ow Fs',E1,A2,cap2,zs⟩::R) D I w'→K a' w'):Oper.wp P ⟨some d,.call ⟨.value (.func f),[x,y,z].toArray,ats⟩,ty,pos,af,g⟩ a w K Q:=by
  obtain⟨cells,ho,hfit,he⟩:=H.rowAt (r:=⟨.ow Fs,E0,A,cap,xs⟩) (by simp);obtain⟨cells',ho',hfit',he'⟩:=H.rowAt (r:=⟨.ow Gs,E',A',cap',ys⟩) (by simp);unfold insl at hd;split at hd
  case isFalse=>cases hd
  rename_i hij;injection hd with hd
  obtain⟨i,rfl⟩:=ww hij.1;simp only[Int.ofNat_eq_natCast,tM]at hd hij hxs;have hzl:zs.length=xs.length + ys.length:=by rw[←hd]; simp; omega
  have hcl:cells.length=xs.length * GoTy.n α:=ho.1;have hcl':cells'.length=ys.length * GoTy.n α:=ho'.1;have hfl:Fs.length=xs.length:=hfit;have hfl':Gs.length=ys.length:=hfit';have hp:(AT.zs M (⟨.ow Fs,E0,A,cap,xs⟩::⟨.ow Gs,E',A',cap',ys⟩::R) D).Perm ([Row.res ⟨.ow Fs,E0,A,cap,xs⟩,Row.res ⟨.ow Gs,E',A',cap',ys⟩]++AT.zs M R D):=(vL _).trans ((vL _).append_left [_]);have H1:=MemZ.perm H hp;have hnd:=MemZ.nd H1;rw[uD,zO]at hnd;have hnd':=(sA.1 hnd).1;have hlt:∀b∈allZ [Row.res ⟨.ow Fs,E0,A,cap,xs⟩,Row.res ⟨.ow Gs,E',A',cap',ys⟩],b<w.heap.size:=λb hb=>(MemZ.lt H1 b (by rw[uD]; exact su.2 (.inl hb))).2;have e0:(Row.res ⟨.ow Fs,E0,A,cap,xs⟩).all=(Value.slice A xs.length cap).ownBlock.toList++List.flatten Fs:=rfl;have e1:(Row.res ⟨.ow Gs,E',A',cap',ys⟩).all=(Value.slice A' ys.length cap').ownBlock.toList++List.flatten Gs:=rfl;rw[e0,e1]at hnd';refine fL hf hk hxs hdn (hs w A A' xs.length cap ys.length cap' E0 E' cells cells' i ho ho' (row_one (H.rowTrue 0 rfl) ho) (row_one (H.rowTrue 1 rfl) ho') (λb hb hb'=>?_) (by omega) (by omega)) λv w' a' hp hf'=>?_
  · have h1:b∈(Value.slice A xs.length cap).ownBlock.toList:=by rw[hb]; simp
    have h2:b∈(Value.slice A' ys.length cap').ownBlock.toList:=by rw[hb']; simp
    exact (sA.1 hnd').2.2 b (su.2 (.inl h1)) b (su.2 (.inl h2)) rfl
  obtain⟨E1,A2,cap2,rfl,h2,h4,h3⟩:=hp;rw[←hzl]at h3 hf' h4;refine k (Fs.take i++(Gs++Fs.drop i)) E1 A2 cap2 a' w' hf' ?_;have hperm:(List.flatten (Fs.take i++(Gs++Fs.drop i))).Perm (List.flatten Fs++List.flatten Gs):=by
    have h:List.flatten Fs=List.flatten (Fs.take i)++List.flatten (Fs.drop i):=by rw[←wR,tw]
    rw[wR,wR,h,sE]
    exact wl.append_left _
  have e2:(Row.res ⟨.ow (Fs.take i++(Gs++Fs.drop i)),E1,A2,cap2,zs⟩).all=(Value.slice A2 zs.length cap2).ownBlock.toList++List.flatten (Fs.take i++(Gs++Fs.drop i)):=rfl;have hxg:∀b,b∈(Value.slice A2 zs.length cap2).ownBlock.toList→b∈(Value.slice A xs.length cap).ownBlock.toList∨(w.heap.size≤b∧b<w'.heap.size):=λb hb=>by
    rcases h4 with h | ⟨h,h'⟩
    · rw[h]at hb; exact .inl hb
    · rw[h]at hb; simp at hb; subst hb; exact .inr ⟨sK _,h'⟩
  have hflat:(List.flatten Fs++List.flatten Gs).Nodup:=by
    refine wB ?_ hnd'
    exact (tq _ _).append (tq _ _)
  refine MemZ.perm (MemZ.step (rs':=[Row.res ⟨.ow (Fs.take i++(Gs++Fs.drop i)),E1,A2,cap2,zs⟩]) H1 ⟨h2.os,h2.tape,h2.output,h2.size,λb hb hx=>h2.block b hb λe=>hx ?_,h2.drawn⟩ (λb hb=>?_) (λb hb=>?_) ?_ (λhm q hq=>?_)) (vL _).symm
  · rw[eG]; exact su.2 (.inl (by show b∈(Value.slice A xs.length cap).ownBlock.toList; rw[←e]; simp))
  · rw[uA,e2]at hb
    rw[zO,e0,e1]
    rcases su.1 hb with h | h
    · exact (hxg b h).imp (λh=>su.2 (.inl (su.2 (.inl h)))) id
    · rcases su.1 (hperm.mem_iff.1 h) with h | h
      · exact .inl (su.2 (.inl (su.2 (.inr h))))
      · exact .inl (su.2 (.inr (su.2 (.inr h))))
  · rw[ym]at hb; rw[eG]
    exact (hxg b hb).imp (λh=>su.2 (.inl h)) (·.1)
  · rw[uA,e2]
    refine ((Af _).append hperm).nodup_iff.2 ?_
    rcases h4 with h | ⟨h,h'⟩
    · rw[h]
      refine wB ?_ hnd'
      rw[←sE]
      exact (tN _).append (tq _ _)
    · rw[h]
      simp only[Ag,tQ,tT]
      refine⟨λhb=>?_,hflat⟩
      have:=hlt w.heap.size (by
        rw[zO,e0,e1]
        simp only[su]at hb ⊢
        exact hb.imp .inr .inr)
      omega
  · rw[sD]at hq; subst hq
    have hsame:∀b,b∈List.flatten Fs++List.flatten Gs→w'.heap[b]?=w.heap[b]?:=λb hb=>by
      refine h2.block b (hlt b ?_) λe=>?_
      · rw[zO,e0,e1]
        simp only[su]at hb ⊢
        exact hb.imp .inr .inr
      · have hm:b∈(Value.slice A xs.length cap).ownBlock.toList:=by rw[←e]; simp
        rw[sE]at hnd'
        refine (sA.1 hnd').2.2 b hm b ?_ rfl
        simp only[su]at hb ⊢
        exact hb.imp id .inr
    refine⟨_,h3,by simp only[Kd.fits,sJ,sG,tB]; omega,λq e hi Fi hFi=>?_⟩
    simp only at hi
    rw[←hd]at hi
    have htl:(xs.take i).length=i:=by rw[sG]; omega
    have htf:(Fs.take i).length=i:=by rw[sG]; omega
    have htc:=take_len hcl (show i≤xs.length by omega)
    rw[s6]at hi hFi
    rw[htl]at hi
    rw[htf]at hFi
    split at hi
    · rename_i hq
      rw[if_pos hq,sI hq]at hFi
      rw[sI hq]at hi
      rw[cF htc hq,iP _ hq]
      exact GoTy.own_mono (he q e hi Fi hFi) λb hb=>hsame b (su.2 (.inl (bJ hFi hb)))
    · rename_i hq
      rw[if_neg hq]at hFi
      rw[cE htc (by omega)]
      rw[s6]at hi hFi
      rw[hfl']at hFi
      split at hi
      · rename_i hq2
        rw[if_pos hq2]at hFi
        rw[cF hcl' hq2]
        exact GoTy.own_mono (he' _ e hi Fi hFi) λb hb=>hsame b (su.2 (.inr (bJ hFi hb)))
      · rename_i hq2
        rw[if_neg hq2,sN]at hFi
        rw[sN]at hi
        rw[cE hcl' (by omega),iQ,wX]
        exact GoTy.own_mono (he _ e hi Fi hFi) λb hb=>hsame b (su.2 (.inl (bJ hFi hb)))
end
end AT
namespace AT
open Go Go.RowKit
section
variable {P:Program} {Q:Exit→Act→World→Prop} {a:Act} {w:World} {n:Nat} {L:List (Nat×Value)} {K:Act→World→Prop} {d:Nat} {dst:Option Tmp} {ty:TypeId} {pos:String} {af:Array Edge} {g:Option (Nat×Bool)}
variable {i j len cap:Nat}
theorem cR (h:i + j≤1099511627776):w64 ((i:Int) + (j:Int))=((i + j:Nat):Int):=by rw[vu (by omega) (by omega)]; omega
theorem ng (h0:i≤j) (h:j≤1099511627776):w64 ((j:Int) - (i:Int))=((j - i:Nat):Int):=by rw[vu (by omega) (by omega)]; omega
theorem b_lo (h:i≤len):(Instr.sliceBounds true len cap (some (.int .i64 (i:Int))) none none).run P w=.ok (i,len,cap) w:=by
 simp [Instr.sliceBounds,Instr.sliceBound,asIntOf,h]
theorem b_hi (h:j≤cap):(Instr.sliceBounds true len cap none (some (.int .i64 (j:Int))) none).run P w=.ok (0,j,cap) w:=by
 simp [Instr.sliceBounds,Instr.sliceBound,asIntOf,h]
theorem b_lh (h0:i≤j) (h:j≤cap):(Instr.sliceBounds true len cap (some (.int .i64 (i:Int))) (some (.int .i64 (j:Int))) none).run P w=.ok (i,j,cap) w:=by
 simp [Instr.sliceBounds,Instr.sliceBound,asIntOf,h,h0]
theorem sn {m:Nat} (h0:i≤j) (h:j≤m) (h2:m≤cap):(Instr.sliceBounds true len cap (some (.int .i64 (i:Int))) (some (.int .i64 (j:Int))) (some (.int .i64 (m:Int)))).run P w=.ok (i,j,m) w:=by
 simp [Instr.sliceBounds,Instr.sliceBound,asIntOf,h,h0,h2]
def cutA (A:Option Addr) (s i m:Nat):Option Addr:=if m=i then A else A.map (·.add (i * s))
variable {s m:Nat}
theorem yQ {T E:TypeId} (hT:P.underlying T=some (.slice E)) (hE:SZ P E s) {A:Option Addr} {len cap:Nat} {lov hiv mxv:Option Value} {i j m:Nat} (hb:∀w,(Instr.sliceBounds true len cap lov hiv mxv).run P w=.ok (i,j,m) w) :
    ∀w,(Instr.sliceAt T (.slice A len cap) lov hiv mxv).run P w=.ok (.slice (cutA A s i m) (j - i) (m - i)) w:=by
 intro w;have hE':∀w,(Go.sizeOf E).run P w=.ok s w:=hE;simp [Instr.sliceAt,Instr.slice,run_underlying hT,hb,hE',cutA]
theorem aI (hf:Fr a n L) {T:TypeId} {x:Operand} {u r:Value} (hx:ev L x=some u) {lo hi mx:Option Operand} {lov hiv mxv:Option Value} (hlo:evo L lo=some lov) (hhi:evo L hi=some hiv) (hmx:evo L mx=some mxv) (h:∀w',(Instr.sliceAt T u lov hiv mxv).run P w'=.ok r w') :
    ∀w,(execOp a.eval ⟨dst,.slice T x lo hi mx,ty,pos,af,g⟩).run P w=.ok (.value r) w:=by
 intro w;simp [execOp,hf.eval hx,f9 hf hlo,f9 hf hhi,f9 hf hmx,h]
theorem cg {g o:Nat} (h:m≠i):cutA (some ⟨g,o,none⟩) s i m=some ⟨g,o + i * s,none⟩:=by
 unfold cutA;rw[if_neg h,As,add_lit]
theorem iu {A:Option Addr} (hA:∀p,A=some p→p.spot=none):cutA A s 0 m=A:=by
 unfold cutA;split
 rfl;cases A with
 | none=>rfl
 | some p =>
   have:=hA p rfl
   cases p; simp only at this; subst this
   simp [Addr.add]
structure GS (w0 w:World) (g:Nat) (E:TypeId) (cur:List Value):Prop where
  os:w.os=w0.os
  tape:w.tape=w0.tape
  output:w.output=w0.output
  size:w0.heap.size≤w.heap.size
  old:∀k,k<w0.heap.size→k≠g→w.heap[k]?=w0.heap[k]?
  at_:w.heap[g]?=some (.cells cur.toArray E (0,0))
  drawn:w0.drawn≤w.drawn
variable {w0 w1:World} {E:TypeId} {cur:List Value}
theorem GS.below {g:Nat} (h:GS w0 w g E cur) (hg:g<w0.heap.size) (hb:Below w.heap.size w w1):GS w0 w1 g E cur :=
  ⟨hb.os.trans h.os,hb.tape.trans h.tape,hb.output.trans h.output,tL h.size hb.size,λk hk hne=>(hb.block k (by have:=h.size; omega)).trans (h.old k hk hne),(hb.block g (by have:=h.size; omega)).trans h.at_,tL h.drawn hb.drawn⟩
theorem GS.below' {g:Nat} (h:GS w0 w g E cur) (hg:g<w.heap.size) (hb:Below w.heap.size w w1):GS w0 w1 g E cur :=
  ⟨hb.os.trans h.os,hb.tape.trans h.tape,hb.output.trans h.output,tL h.size hb.size,λk hk hne=>(hb.block k (by have:=h.size; omega)).trans (h.old k hk hne),(hb.block g hg).trans h.at_,tL h.drawn hb.drawn⟩
theorem GS.lt {g:Nat} (h:GS w0 w g E cur):g<w.heap.size:=(tz.1 h.at_).1
theorem GS.set {g:Nat} (h:GS w0 w g E cur) (new:Array Value):GS w0 (w.setRow g new) g E new.toList :=
  ⟨h.os,h.tape,h.output,by simpa using h.size,λk hk hne=>(setRow_other w g k new hne).trans (h.old k hk hne),by rw[tX]; exact setRow_heap w g _ new E _ h.at_,h.drawn⟩
theorem GS.cell {w0 w:World} {g:Nat} {E:TypeId} {cur:List Value} (h:GS w0 w g E cur) (j:Nat):w.cell? ⟨g,j,none⟩=cur[j]?:=by
 simp [World.cell?,h.at_]
theorem GS.start {g:Nat} {cur:Array Value} (h:w.heap[g]?=some (.cells cur E (0,0))):GS w w g E cur.toList :=
  ⟨rfl,rfl,rfl,sK _,λ_ _ _=>rfl,by rw[tX]; exact h,sK _⟩
theorem GS.grown {g:Nat} (h:GS w0 w g E cur) (o:Option Nat) (ho:g<w0.heap.size→o=some g):GB w0 w o :=
  ⟨⟨h.os,h.tape,h.output,h.size,λk hk hne=>h.old k hk λe=>by subst e; exact hne (ho hk).symm⟩,h.drawn⟩
theorem GS.other {g b:Nat} (h:GS w0 w g E cur) (hb:b<w0.heap.size) (hne:b≠g) (j:Nat):w.cell? ⟨b,j,none⟩=w0.cell? ⟨b,j,none⟩:=by
 simp [World.cell?,h.old b hb hne]
theorem GS.alloc (w:World) (cs:Array Value) (E:TypeId):GS w (w.drew.alloc (.cells cs E)) w.heap.size E cs.toList :=
  ⟨rfl,rfl,rfl,by simp,λk hk _=>heap_alloc_old w.drew _ hk,by rw[tX]; exact heap_alloc_new w.drew _,Nat.le_succ _⟩
def lay (cur:List Value) (o:Nat) (cs:List Value):List Value:=cur.take o++cs++cur.drop (o + cs.length)
variable {o k gb:Nat} {cs:List Value} {T E0:TypeId}
theorem dB (h:o + cs.length≤cur.length):(lay cur o cs).length=cur.length:=by
 unfold lay;simp only[sJ,sG,tB];omega
theorem im (h:o≤cur.length):(lay cur o cs).take (o + cs.length)=cur.take o++cs:=by
 unfold lay;rw[td (by simp only[sJ,sG]; omega)];exact tK (by simp only[sJ,sG]; omega)
theorem fR (h:o≤cur.length) (hk:k≤o):(lay cur o cs).take k=cur.take k:=by
 unfold lay;rw[sE,td (by rw[sG]; omega),t8,tV hk]
theorem nK (h:o≤cur.length):(lay cur o cs).drop o=cs++cur.drop (o + cs.length):=by
 unfold lay;rw[sE,wA (by rw[sG]; omega),wd (by rw[sG]; omega),tx]
theorem oV {vs:List Value} (h:o + vs.length + cs.length≤cur.length):(lay (lay cur (o + vs.length) cs) o vs).take (o + vs.length + cs.length)=cur.take o++(vs++cs):=by
 have hl:(lay cur (o + vs.length) cs).length=cur.length:=dB h;have hd:=nK (cur:=cur) (o:=o + vs.length) (cs:=cs) (by omega);have ht:=fR (cur:=cur) (o:=o + vs.length) (k:=o) (cs:=cs) (by omega) (by omega);have e:lay (lay cur (o + vs.length) cs) o vs=(lay cur (o + vs.length) cs).take o++vs++(lay cur (o + vs.length) cs).drop (o + vs.length):=rfl;rw[e,hd,ht,←sE,td (by simp only[sJ,sG]; omega),tK (by simp only[sJ,sG]; omega),sE]
theorem kz {z:Value} {c:Nat} (hT:P.underlying T=some (.slice E)) (hZ:ZV P E z) (hz:z.cells.size=s) (h1:∀u∈z.cells.toList,u.oneCell'=true) (hs:0<s) (hk:0<k) (h:GS w0 w gb E0 cur) (hfit:o + k * s≤cur.length) :
    ∃zs:List Value,zs.length=k * s∧(Builtin.clear_ #[T] ty #[.slice (some ⟨gb,o,none⟩) k c]).run P w=.ok (.tuple #[]) (w.setRow gb (lay cur o zs).toArray):=by
 have hlen:(Builtin.zeroCells z.cells k).toList.length=k * s:=by rw[t7,size_zeroCells,hz]
 have hone:∀v∈(Builtin.zeroCells z.cells k).toList,v.oneCell'=true:=by
   intro v hv
   unfold Builtin.zeroCells at hv
   simp only[Array.toList_map,sS]at hv
   obtain⟨i,hi,rfl⟩:=hv
   have:i % z.cells.size<z.cells.size:=Nat.mod_lt _ (by omega)
   rw[getElem!_pos z.cells _ this]
   exact h1 _ (by simp)
 have hst:=run_storeCells_at P gb o E0 (Builtin.zeroCells z.cells k).toList 0 cur.toArray w h.at_ (by simp only[tC]; omega) hone;have hZ':∀w,(zeroValue E).run P w=.ok z w:=hZ;obtain⟨m,rfl⟩:∃m,k=m + 1:=⟨k - 1,by omega⟩;refine⟨(Builtin.zeroCells z.cells (m + 1)).toList,hlen,?_⟩;simp only[sW]at hst;simp [Builtin.clear_,run_underlying hT,hZ',hst,lay]
theorem dV {U:TypeId} {dLen dCap:Nat} {p:Addr} {sLen sCap:Nat} (hT:P.underlying T=some (.slice E)) (hE:SZ P E s) (h:GS w0 w gb E0 cur) (hk:Nat.min sLen dLen=k) (hl:cs.length=k * s)
    (hsrc:∀j v,cs[j]?=some v→w.cell? (p.add j)=some v) (hfit:o + cs.length≤cur.length) (h1:∀v∈cs,v.oneCell'=true) :
    (Builtin.copy_ #[T,U] ty #[.slice (some ⟨gb,o,none⟩) dLen dCap,.slice (some p) sLen sCap]).run P w=.ok (goInt k) (w.setRow gb (lay cur o cs).toArray):=by
 have hE':∀w,(Go.sizeOf E).run P w=.ok s w:=hE;have hfc:=run_firstCells_some (P:=P) w s k p sLen sCap cs hl hsrc;have hst:=run_storeCells_at P gb o E0 cs 0 cur.toArray w h.at_ (by simpa using hfit) h1;simp only[sW]at hst;simp [Builtin.copy_,run_underlying hT,Builtin.lenOf,hE',hk,hfc,hst,lay]
theorem cW (hf:Fr a n L) {T U:TypeId} {x y:Operand} {v u:Value} (hx:ev L x=some v) (hy:ev L y=some u) {r:Value} {w':World} (hr:(Builtin.copy_ #[T,U] ty #[v,u]).run P w=.ok r w') (hdn:d<n)
    (k:∀a',Fr a' n ((d,r)::L)→K a' w'):Oper.wp P ⟨some d,.call ⟨.builtin .copy,#[x,y],#[T,U]⟩,ty,pos,af,g⟩ a w K Q:=by
 have h1:(execOp a.eval ⟨some d,.call ⟨.builtin .copy,#[x,y],#[T,U]⟩,ty,pos,af,g⟩).run P w=.ok (.value r) w':=by
   simp [execOp,resolve,invoke,builtin,hf.eval hx,hf.eval hy,hr]
 unfold Oper.wp;rw[h1,Oper.upon_value];exact k _ (hf.put hdn r)
theorem jy (hf:Fr a n L) {T:TypeId} {x:Operand} {v:Value} (hx:ev L x=some v) {r:Value} {w':World} (hr:(Builtin.clear_ #[T] ty #[v]).run P w=.ok r w')
    (k:∀a',Fr a' n L→K a' w'):Oper.wp P ⟨none,.call ⟨.builtin .clear,#[x],#[T]⟩,ty,pos,af,g⟩ a w K Q:=by
 have h1:(execOp a.eval ⟨none,.call ⟨.builtin .clear,#[x],#[T]⟩,ty,pos,af,g⟩).run P w=.ok (.value r) w':=by
   simp [execOp,resolve,invoke,builtin,hf.eval hx,hr]
 unfold Oper.wp;rw[h1,Oper.upon_value];exact k _ hf
theorem iW (hf:Fr a n L) {T U:TypeId} {x y:Operand} {v u:Value} (hx:ev L x=some v) (hy:ev L y=some u) {r:Value} {w':World} (hr:(Builtin.append_ #[T,U] ty #[v,u]).run P w=.ok r w') (hdn:d<n)
    (k:∀a',Fr a' n ((d,r)::L)→K a' w'):Oper.wp P ⟨some d,.call ⟨.builtin .append,#[x,y],#[T,U]⟩,ty,pos,af,g⟩ a w K Q:=by
 have h1:(execOp a.eval ⟨some d,.call ⟨.builtin .append,#[x,y],#[T,U]⟩,ty,pos,af,g⟩).run P w=.ok (.value r) w':=by
   simp [execOp,resolve,invoke,builtin,hf.eval hx,hf.eval hy,hr]
 unfold Oper.wp;rw[h1,Oper.upon_value];exact k _ (hf.put hdn r)
theorem lS (hf:Fr a n L) {T E:TypeId} (hT:P.underlying T=some (.slice E)) {x:Operand} {A:Option Addr} {m c:Nat} (hx:ev L x=some (.slice A m c)):∀w,(execOp a.eval ⟨dst,.call ⟨.builtin .cap,#[x],#[T]⟩,ty,pos,af,g⟩).run P w=.ok (.value (.int .i64 (c:Int))) w:=by
 intro w;simp [execOp,resolve,invoke,builtin,hf.eval hx,Builtin.cap_,run_underlying hT,goInt]
theorem pK (hf:Fr a n L) {f:FuncId} {xs:List Operand} {ats:Array TypeId} {vs:List Value} (hxs:evs L xs=some vs) {r:Value} (h:(callFunc f vs.toArray).run P w=.ok (.value r) w) :
    (execOp a.eval ⟨dst,.call ⟨.value (.func f),xs.toArray,ats⟩,ty,pos,af,g⟩).run P w=.ok (.value r) w:=by
 rw[execOp_call_go];simp only[Array.empty_append,Array.append_empty,wO,hf.evals hxs,h]
theorem mZ {f : FuncId} {fn : Func} {TR:TypeId} (hf : P.funcs[f]? = some fn) (hname : (fn.name == "runtime.NumGoroutine") = false) (hb : fn.body.isNone = true) (hn : Extern.findNext fn = none) (he : Extern.find fn = some (Extern.SlicesOverlaps.overlaps #[T, T] #[TR])) (hT : P.underlying T = some (.slice E)) (hE : SZ P E s)
    {b gb o la ca lb cb:Nat} (hne:b≠gb) {Eb Eg:TypeId} {curb curg:Array Value} (hvb:w.heap[b]?=some (.cells curb Eb (0,0))) (hvg:w.heap[gb]?=some (.cells curg Eg (0,0))) (hpos:curg.size≠0) :
    (callFunc f #[.slice (some ⟨b,0,none⟩) la ca,.slice (some ⟨gb,o,none⟩) lb cb]).run P w=.ok (.value (.bool false)) w:=by
 rw[run_callFunc_extern hf hname hb hn he];have:=Lib.run_overlaps_apart (P:=P) w T TR E hT s hE ⟨b,0,none⟩ ⟨gb,o,none⟩ la ca lb cb hne Eb Eg curb.size curg.size (by simp [World.shape?,hvb]) (by simp [World.shape?,hvg]) hpos (by simp [World.frozen?,hvb]) (by simp [World.frozen?,hvb]);rw[this];rfl
def kn (P:Program) (f:FuncId) (E:TypeId) (s:Nat):Prop:=∀(w:World) (n:Nat),n≤1099511627776→Calls P f #[.slice none 0 0,.int .i64 (n:Int)] w λe w'=>∃v,e=.returned v∧((v=.slice none 0 0∧w'=w) ∨
  ∃(c:Nat) (cells:List Value),v=.slice (some ⟨w.heap.size,0,none⟩) 0 c∧w'=w.drew.alloc (.cells cells.toArray E)∧cells.length=c * s∧c≤maxLen)
variable {w0:Base} {S:Nat→Prop} {M:List Blk} {R:List Row} {D:List DI} {I:List (Bool×MP)}
theorem nF (hf:Fr a n L) (H:Mem w0 S M R D I w) (α:Type) [GoTy α] {f:FuncId} (E:TypeId) (hk:CL P f) (hs:kn P f E (GoTy.n α)) {x y:Operand} {i:Int} {zs:List α} (hxs:evs L [x,y]=some [.slice none 0 0,.int .i64 i]) {ats:Array TypeId} (hg:mC i=some zs) (hdn:d<n)
    (k:∀A c a' w',Fr a' n ((d,.slice A zs.length c)::L)→Mem w0 S M (⟨.sh true,E,A,c,zs⟩::R) D I w'→K a' w'):Oper.wp P ⟨some d,.call ⟨.value (.func f),[x,y].toArray,ats⟩,ty,pos,af,g⟩ a w K Q:=by
  unfold mC at hg;split at hg
  case isFalse=>cases hg
  rename_i hi;injection hg with hg
  subst hg;obtain⟨i,rfl⟩:=ww hi.1;refine fL hf hk hxs hdn (hs w i (by omega)) λv w' a' hp hf'=>?_;rcases hp with ⟨rfl,rfl⟩ | ⟨c,cells,rfl,rfl,h1,h2⟩
  · exact k none 0 a' w' hf' (H.nilRow α (.sh true) rfl trivial E)
  · exact k _ c a' _ hf' ((H.keep ((Below.refl _ _).drew)).newRow (.sh true) rfl E ([]:List α) cells c (by simp) h2 h1 trivial (λq e hq=>by simp at hq))
end
end AT
namespace AT
open Go Go.RowKit
section
variable {w w1 w2:World} {S:Nat→Prop} {M:List Blk} {R:List Row} {D:List DI} {I:List (Bool×MP)}
end
end AT
namespace AT
open Go Go.RowKit
section
variable {w w' w1:World} {w0:Base} {S:Nat→Prop} {M:List Blk} {R:List Row} {D:List DI} {I:List (Bool×MP)}
theorem Mem.wroteBoxO (H:Mem w0 S M R D I w) (i:Nat) {b:Nat} {T:TypeId} {cs cs':List Value} (hi:M[i]?=some ⟨b,T,cs⟩) (hc:Chg w w' [b]) (hb:w'.heap[b]?=some (.cells cs'.toArray T (0,0)))
    {X:List DI} (hn:(X.flatMap DI.F).Nodup) (hX:∀d∈X,d.p.pred w' (·∈d.F)) (hl:∀b∈X.flatMap DI.F,w.heap.size≤b∧b<w'.heap.size):Mem w0 S (M.set i ⟨b,T,cs'⟩) R (X++D) I w':=by
 have hblt:b<w.heap.size:=by
   have h:=H.boxAt i hi
   rcases wu b w.heap.size with h' | h'
   · exact h'
   · rw[wc h']at h; cases h
 have hp1:(zs (M.set i ⟨b,T,cs'⟩) R (X++D)).Perm (([Blk.res ⟨b,T,cs'⟩]++X.map DI.res)++zs (M.eraseIdx i) R D):=by
   refine (ll (R:=R) (D:=X++D) ⟨b,T,cs'⟩ hi).trans ?_
   rw[sE]
   exact (du X).append_left _
 have ha:allZ ([Blk.res ⟨b,T,cs'⟩]++X.map DI.res)=b::X.flatMap DI.F:=by
   rw[uD,uA,bC]; rfl
 have hf:fmZ ([Blk.res ⟨b,T,cs'⟩]++X.map DI.res)=[b]:=by
   rw[dL,ym,mE]; rfl
 refine MemZ.perm (MemZ.step (rs:=[Blk.res ⟨b,T,cs⟩]) (rs':=[Blk.res ⟨b,T,cs'⟩]++X.map DI.res) (MemZ.perm H (jq hi)) (hc.sub λx hx=>?_) (λx hx=>?_) (λx hx=>?_) ?_ (λ_ q hq=>?_)) hp1.symm;rw[ym]; simpa [Blk.res] using hx;rw[ha]at hx;rcases sZ.1 hx with rfl | hx
 left; rw[uA]; simp [Res.all,Blk.res];exact .inr (hl x hx);rw[hf]at hx;left; rw[ym]; simpa [Blk.res] using hx;rw[ha];exact tT.2 ⟨λh=>by have:=(hl b h).1; omega,hn⟩;rcases su.1 hq with h | h
 rw[sD]at h; subst h; exact hb;obtain⟨d,hd,rfl⟩:=sS.1 h;exact⟨hX d hd,λc hc=>(hl c (tt.2 ⟨d,hd,hc⟩)).2⟩
theorem Mem.endsB {X:List DI} {b:Nat} {T:TypeId} {cs:List Value} (H:Mem ⟨w1,[b]⟩ S M R (X++D) I w) (i:Nat) (hi:M[i]?=some ⟨b,T,cs⟩):New w1 w (X.flatMap DI.F):=by
 have H1:=MemZ.perm H (du X);have h1:=MemZ.nd H1;rw[uD,bC]at h1;refine⟨(sA.1 h1).1,λc hc=>?_⟩;obtain⟨h2,h3⟩:=MemZ.lt H1 c (by rw[uD,bC]; exact su.2 (.inl hc));rcases h2 with h2 | h2
 exact⟨h2,h3⟩;have e:=sD.1 h2;subst e;exact absurd rfl ((sA.1 h1).2.2 c hc c (zf (mW hi)))
end
section
variable {w w':World} {w0:Base} {S S1:Nat→Prop} {I I':List (Bool×MP)}
theorem MemZ.comp {rs rs' Z:List Res} {G:List Nat} (H:MemZ w0 S (rs++Z) I w) (hG:∀b∈G,b∈fmZ rs) (H':MemZ ⟨w,G⟩ S1 rs' I' w')
    (hS:((∀r∈rs',r.fresh=true)∧∀f∈I',f.1=true)∨S1=StZ w0 S (rs++Z) false):MemZ w0 S (rs'++Z) (I'++I) w':=by
 have hlt:∀b∈fmZ Z,b<w.heap.size∧b∉fmZ rs:=λb hb=>by
   have h1:=H.nd
   rw[uD]at h1
   exact⟨(H.lt b (by rw[uD]; exact su.2 (.inr (zf hb)))).2,λh=>(sA.1 h1).2.2 b (zf h) b (zf hb) rfl⟩
 have hmv:∀f,(f=true∨S1=StZ w0 S (rs++Z) false)→Moves w' w' (StZ ⟨w,G⟩ S1 rs' f) (StZ w0 S (rs'++Z) f):=λf hf b hb _=>by
   refine⟨?_,rfl⟩
   rcases hb with ⟨rfl,h1,h2⟩ | ⟨h1,h2⟩
   · rcases hf with hf | hf
     · cases hf
     · rw[hf]at h2
       have hn:b∉fmZ rs':=λh=>h1 (H'.lt b (zf h)).1
       rcases h2 with ⟨-,h3,h4⟩ | ⟨h3,h4⟩
       · exact .inl ⟨rfl,h3,h4⟩
       · refine .inr ⟨h3,?_⟩
         rw[dL]at h4 ⊢
         exact λh=>(su.1 h).elim hn λh=>h4 (su.2 (.inr h))
   · refine .inr ⟨?_,?_⟩
     · rcases h1 with h1 | h1
       · exact H.nw_new h1
       · exact (H.lt b (by rw[uD]; exact su.2 (.inl (zf (hG b h1))))).1
     · rw[dL]
       refine λh=>(su.1 h).elim h2 λh=>?_
       rcases h1 with h1 | h1
       · have:=(hlt b h).1; simp only at h1; omega
       · exact (hlt b h).2 (hG b h1)
 have hb:=H'.below;have H2:MemZ w0 S (rs'++Z) I w':=by
   refine MemZ.step (rs:=rs) (rs':=rs') H ⟨hb.os,hb.tape,hb.output,hb.size,λk hk hn=>hb.block k ?_,hb.drawn⟩ (λb h=>?_) (λb h=>?_) H'.nd (λ_ r hr=>?_)
   · rintro (h | h)
     · simp only at h; omega
     · exact hn (hG k h)
   · obtain⟨h1,h2⟩:=H'.lt b h
     rcases h1 with h1 | h1
     · exact .inr ⟨h1,h2⟩
     · exact .inl (zf (hG b h1))
   · obtain⟨h1,h2⟩:=H'.lt b (zf h)
     rcases h1 with h1 | h1
     · exact .inr h1
     · exact .inl (hG b h1)
   · exact r.mono (H'.ok r hr) (λ_ _=>rfl) (hmv _ (hS.imp (λh=>h.1 r hr) id))
 refine⟨H2.below,H2.lt,H2.nd,H2.ok,λf hf=>?_⟩;rcases su.1 hf with h | h
 exact f.2.mono (H'.imm f h) (hmv _ (hS.imp (λhh=>hh.2 f h) id));exact H2.imm f h
end
section
variable {w w':World} {w0:Base} {S S1:Nat→Prop} {M:List Blk} {R R':List Row} {D D':List DI} {I I':List (Bool×MP)}
theorem ot (X:List Row):(zs M (X++R) D).Perm (X.map Row.res++zs M R D):=by
 unfold zs;rw[Ac,sE];have h:∀(A B C:List Res),(A++(B++C)).Perm (B++(A++C)):=λA B C=>by
   rw[←sE,←sE]; exact wl.append_right _
 exact h _ _ _
theorem nf (X:List Row) (Y:List DI):(zs M (X++R) (Y++D)).Perm ((X.map Row.res++Y.map DI.res)++zs M R D):=by
 refine (ot X).trans ?_;rw[sE];exact (du Y).append_left _
theorem mD {bs:List Blk} (h:(R'.all (λr=>r.k.fresh)&&I'.all (λf=>f.1))=true):(∀r∈zs bs R' D',r.fresh=true)∧∀f∈I',f.1=true:=by
 rw[sH,tG,tG]at h;refine⟨λr hr=>?_,λf hf=>h.2 f hf⟩;rcases su.1 hr with hr | hr
 obtain⟨m,-,rfl⟩:=sS.1 hr; rfl;rcases su.1 hr with hr | hr
 obtain⟨m,hm,rfl⟩:=sS.1 hr; exact h.1 m hm;obtain⟨m,-,rfl⟩:=sS.1 hr; rfl
theorem Mem.comp (H:Mem w0 S M R D I w) (H':Mem ⟨w,[]⟩ S1 [] R' D' I' w') (hS:(R'.all (λr=>r.k.fresh)&&I'.all (λf=>f.1))=true∨S1=St w0 S M R D false):Mem w0 S M (R'++R) (D'++D) (I'++I) w':=by
 have h:=MemZ.comp (rs:=[]) (Z:=zs M R D) H (λb h=>by cases h) H' (hS.imp mD id)
 exact MemZ.perm h (nf R' D').symm
end
def NB (b:Nat):Nat→Prop:=λc=>c≠b
theorem Mem.nb {w:World} {w0:Base} {S:Nat→Prop} {M:List Blk} {R:List Row} {D:List DI} {I:List (Bool×MP)} (H:Mem w0 S M R D I w) (i:Nat) {b:Nat} {T:TypeId} {cs0:List Value} (hi:M[i]?=some ⟨b,T,cs0⟩) {α:Type} [GoTy α] {f:Bool} {cs:List Value} {x:List α} (h:lrep w (St w0 S M R D f) cs x):lrep w (NB b) cs x :=
  GoTy.mono (α:=List α) h λc hc _=>⟨λe=>H.notSt i hi f (e▸hc),rfl⟩
section
variable {P:Program} {Q:Exit→Act→World→Prop} {a:Act} {w:World} {n:Nat} {L:List (Nat×Value)} {ty:TypeId} {pos:String} {af:Array Edge} {g:Option (Nat×Bool)} {K:Act→World→Prop} {d:Nat}
variable {w0:Base} {S:Nat→Prop} {M:List Blk} {R:List Row} {D:List DI} {I:List (Bool×MP)}
end
section
variable {P:Program} {Q:Exit→Act→World→Prop} {a:Act} {w:World} {n:Nat} {L:List (Nat×Value)} {dst:Option Tmp} {ty:TypeId} {pos:String} {af:Array Edge} {g:Option (Nat×Bool)} {K:Act→World→Prop} {d:Nat}
variable {w0:Base} {S:Nat→Prop} {M:List Blk} {R:List Row} {D:List DI} {I:List (Bool×MP)}
end
end AT
namespace AT
open Go Go.RowKit
section
variable {w w' w1:World} {w0:Base} {S:Nat→Prop} {M:List Blk} {R:List Row} {D:List DI} {I:List (Bool×MP)}
end
section
variable {P:Program} {l:List Oper} {S:World→Prop} {a:Act} {w:World} {B:List Nat} {fuel:Nat} {bs:List Bool}
theorem on3 {Mid:Act→World→Prop} {i j k:Nat} {oi oj ok:Oper} {bi bj bk:List Bool} (hr:Region.ready .any l.toArray bs.toArray=[i,j,k]) (hi:l[i]?=some oi) (hgi:oi.guard=none) (hbi:bs.set i true=bi) (hj:l[j]?=some oj) (hgj:oj.guard=none) (hbj:bs.set j true=bj) (hk:l[k]?=some ok) (hgk:ok.guard=none) (hbk:bs.set k true=bk)
    (h:oi.wp P a w (λa' w'=>(nb B bi.toArray=true→S w')∧DL P l Mid S B fuel bi a' w') (only Mid)) (h':oj.wp P a w (λa' w'=>(nb B bj.toArray=true→S w')∧DL P l Mid S B fuel bj a' w') (only Mid)) (h'':ok.wp P a w (λa' w'=>(nb B bk.toArray=true→S w')∧DL P l Mid S B fuel bk a' w') (only Mid)):DL P l Mid S B (fuel + 1) bs a w:=by
 refine⟨λh0=>(by rw[hr]at h0; cases h0),λq hq=>?_⟩
 rw[hr]at hq;simp only[sZ,wz,or_false]at hq;rcases hq with rfl | rfl | rfl
 unfold wpOp;have hi':l.toArray[q]?=some oi:=by simpa using hi
 simp only[hi',Region.wanted,hgi];rw[eP hbi];exact .inl h;unfold wpOp;have hi':l.toArray[q]?=some oj:=by simpa using hj
 simp only[hi',Region.wanted,hgj];rw[eP hbj];exact .inl h';unfold wpOp;have hi':l.toArray[q]?=some ok:=by simpa using hk
 simp only[hi',Region.wanted,hgk];rw[eP hbk];exact .inl h''
end
section
variable {P:Program} {a:Act} {w:World} {n:Nat} {L:List (Nat×Value)} {dst:Option Tmp} {ty:TypeId} {pos:String} {af:Array Edge} {g:Option (Nat×Bool)}
end
end AT
namespace AT
open Go Go.RowKit
section
variable {w w' w1:World} {w0:Base} {S:Nat→Prop} {M:List Blk} {R:List Row} {D:List DI} {I:List (Bool×MP)}
end
section
variable {P:Program} {Q:Exit→Act→World→Prop} {a:Act} {w:World} {n:Nat} {L:List (Nat×Value)} {ty:TypeId} {pos:String} {af:Array Edge} {g:Option (Nat×Bool)} {K:Act→World→Prop} {d:Nat}
variable {w0:Base} {S:Nat→Prop} {M:List Blk} {R:List Row} {D:List DI} {I:List (Bool×MP)}
theorem nA {α:Type} [GoTy α] (hfl:GoTy.flat α=true) {T T':Nat→Prop} {cs:List Value} {x:α} (h:GoTy.rep w T cs x):GoTy.rep w T' cs x :=
  GoTy.mono (GoTy.own_rep (GoTy.own_flat hfl h)) λb hb=>by cases hb
end
section
variable {w:World} {w0:Base} {S:Nat→Prop} {M:List Blk} {R:List Row} {D:List DI} {I:List (Bool×MP)}
end
section
variable {w w1:World} {w0:Base} {S:Nat→Prop} {M:List Blk} {R:List Row} {D:List DI} {I:List (Bool×MP)}
def NO (F:List Nat):Nat→Prop:=λc=>c∉F
end
section
variable {w w':World} {w0:Base} {S:Nat→Prop} {M:List Blk} {R:List Row} {D:List DI} {I:List (Bool×MP)}
theorem Mem.addRow {α:Type} [GoTy α] {F:List Nat} {A:Option Addr} {len cap:Nat} {xs:List α} (H:Mem w0 S M R D I w) (hb:Below w.heap.size w w') (h:lown w' F [.slice A len cap] xs) (hN:New w w' F) :
    ∃Fs E,Mem w0 S M (⟨.ow Fs,E,A,cap,xs⟩::R) D I w':=by
 obtain⟨A',cap',E,cells,Fs,hcs,ho,hF,hl,he⟩:=h;simp only[s4,Value.slice.injEq,and_true]at hcs;obtain⟨rfl,rfl,rfl⟩:=hcs;have e1:allZ [Row.res ⟨.ow Fs,E,A,cap,xs⟩]=F:=by rw[uA,hF]; rfl
 refine⟨Fs,E,MemZ.perm (MemZ.step (rs:=[]) (rs':=[Row.res ⟨.ow Fs,E,A,cap,xs⟩]) H ⟨hb.os,hb.tape,hb.output,hb.size,λk hk' _=>hb.block k hk',hb.drawn⟩ (λb h=>.inr (hN.2 b (by rw[←e1]; exact h))) (λb h=>.inr (hN.2 b (by rw[←e1]; exact zf h)).1) (by rw[e1]; exact hN.1) (λ_ q hq=>?_)) (vL _).symm⟩;rw[sD]at hq; subst hq;exact⟨cells,ho,hl,λi x hx Fi hFi=>he i x Fi hx hFi⟩
end
section
variable {P:Program} {Q:Exit→Act→World→Prop} {a:Act} {w:World} {n:Nat} {L:List (Nat×Value)} {ty:TypeId} {pos:String} {af:Array Edge} {g:Option (Nat×Bool)} {K:Act→World→Prop} {d:Nat}
variable {w0:Base} {S:Nat→Prop} {M:List Blk} {R:List Row} {D:List DI} {I:List (Bool×MP)}
end
section
variable {w w':World} {w0:Base} {S:Nat→Prop} {M:List Blk} {R:List Row} {D:List DI} {I:List (Bool×MP)}
end
end AT
namespace AT
def wf64 (k:Int):Bool:=decide (-9223372036854775808≤k)&&decide (k≤9223372036854775807)
def mget (m:List (Int×Bool)) (k:Int):Bool:=((m.find? λe=>e.1==k).map (·.2)).getD false
def kK (m:List (Int×Bool)) (k:Int):Option Bool:=if wf64 k=true then some (mget m k) else none
def kH (m:List (Int×Bool)) (k:Int) (v:Bool):Option (List (Int×Bool)):=if wf64 k=true∧m.length<1099511627776 then some ((k,v)::m) else none
theorem iX (m:List (Int×Bool)) (k k':Int) (v:Bool):mget ((k,v)::m) k'=if k=k' then v else mget m k':=by
 unfold mget;rw[List.find?_cons];by_cases h:k=k';simp [h];have:((k,v).1==k')=false:=by simpa using h
 rw[this,if_neg h]
end AT
