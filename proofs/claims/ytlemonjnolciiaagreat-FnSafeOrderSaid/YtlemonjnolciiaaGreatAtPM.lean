/- Regions that draw their order: what only reads is taken first, as long as what is read has not been written (the operations B write). -/
import Derived.Test.YtlemonjnolciiaaGreatAtD
import Derived.Test.YtlemonjnolciiaaGreatAtR
import Derived.Laws.BytesString
import Derived.Lib.AppendZerosOnto
import Derived.Lib.Overlaps
set_option linter.unusedSimpArgs false
set_option linter.unusedVariables false
namespace AT
open Go Go.RowKit
section
variable {P:Program} {md:Region.Mode} {ops:Array Oper} {Q:Exit→Act→World→Prop} {S:World→Prop} {B:List Nat}
def nb (B:List Nat) (listed:Array Bool):Bool:=B.all fun b=>!listed.getD b true
def wpL (P:Program) (md:Region.Mode) (ops:Array Oper) (Q:Exit→Act→World→Prop) (S:World→Prop) (B:List Nat):Nat→Array Bool→Act→World→Prop
  | 0,listed,a,w=>Region.ready md ops listed=[]∧Q .normal a w
  | fuel + 1,listed,a,w=>(Region.ready md ops listed=[]→Q .normal a w) ∧
    ∀ i∈Region.ready md ops listed,wpOp P ops Q i (fun a' w'=>(nb B (listed.setIfInBounds i true)=true→S w')∧wpL P md ops Q S B fuel (listed.setIfInBounds i true) a' w') a w
theorem gdN:∀ (fuel:Nat) (listed:Array Bool) (a:Act) (w:World),wpL P md ops Q S B fuel listed a w→wpAny P md ops Q fuel listed a w
  | 0,_,_,_,h=>h
  | fuel + 1,_,_,_,h=>⟨h.1,fun i hi=>wpOp_mono (fun a' w' h'=>gdN fuel _ a' w' h'.2) (h.2 i hi)⟩
theorem gdH {l:Array Bool} {i j:Nat} (h:j≠i):(l.setIfInBounds j true).getD i true=l.getD i true:=getD_set_ne true h
theorem gjX {i:Nat} (hi:i∉B) (l:Array Bool):nb B (l.setIfInBounds i true)=nb B l:=by
 have h:∀ b∈B,(l.setIfInBounds i true).getD b true=l.getD b true:=fun b hb=>gdH fun e=>hi (e▸hb)
 rw [Bool.eq_iff_iff]
 unfold nb
 simp only [List.all_eq_true]
 exact ⟨fun g b hb=>by rw [←h b hb]; exact g b hb,fun g b hb=>by rw [h b hb]; exact g b hb⟩
theorem ghK {i:Nat} {oi:Oper} {v:Value} (S0:World→Prop) (X:List Nat) (hi:ops[i]?=some oi) (hsel:∀ (j:Nat) (o:Oper) cs b,ops[j]?=some o→o.op≠.select cs b)
    (hQ:∀ c a w,Q (.panic c) (a.put oi.dst v) w→Q (.panic c) a w)
    (hX:∀ j oj,j∈X→j≠i→ops[j]?=some oj→∃ e∈oj.after,Region.binds md e=true∧e.on∈X) (hiB:i∉B) (hBX:(∀ w,S0 w)∨((∀ b∈B,b∈X)∧∀ w,S w→S0 w)) :
    ∀ (fuel:Nat) (listed:Array Bool) (a:Act) (w:World),
      (∀ j oj,ops[j]?=some oj→j≠i→listed.getD j true=false→(∀ e∈oj.after,Region.binds md e=true→e.on≠i)→oi.apart ops oj=true) →
      (∀ x∈X,listed.getD x true=false)→i∈Region.ready md ops listed→YieldsIf P ops S0 oi v a→S0 w→(nb B listed=true→S w) →
      wpL P md ops Q S B fuel (listed.setIfInBounds i true) (a.put oi.dst v) w→wpL P md ops Q S B (fuel + 1) listed a w:=by
 intro fuel
 have hnb:∀ (listed:Array Bool),nb B (listed.setIfInBounds i true)=true→nb B listed=true:=fun listed h=>by rwa [gjX hiB] at h
 induction fuel with
 | zero =>
   intro listed a w _ _ hr hy hS0 hS H
   refine ⟨fun h=>(by rw [h] at hr; cases hr),fun j hj=>?_⟩
   by_cases hji:j=i
   · subst hji; exact hy.wpOp hi hS0 ⟨fun h=>hS (hnb _ h),H⟩
   · have:=ready_mono hj hji
     rw [H.1] at this
     cases this
 | succ fuel ih =>
   intro listed a w hfree hXu hr hy hS0 hS H
   refine ⟨fun h=>(by rw [h] at hr; cases hr),fun j hj=>?_⟩
   by_cases hji:j=i
   · subst hji; exact hy.wpOp hi hS0 ⟨fun h=>hS (hnb _ h),H⟩
   · have h1:=H.2 j (ready_mono hj hji)
     obtain ⟨hjun,oj,hoj,hall⟩:=mem_ready.1 hj
     have hlisted:∀ k,k<listed.size∨True:=fun _=>.inr trivial
     have hnot:∀ e∈oj.after,Region.binds md e=true→listed.getD e.on true=false→False:=fun e he hb h0=>by
       have h1:=hall e he hb
       rcases Nat.lt_or_ge e.on listed.size with h' | h'
       · simp [h'] at h0 h1; rw [h0] at h1; cases h1
       · simp [Array.getElem?_eq_none h'] at h1
     have hnoti:∀ e∈oj.after,Region.binds md e=true→e.on≠i:=fun e he hb heq=>hnot e he hb (by rw [heq]; exact (mem_ready.1 hr).1)
     have hjX:j∉X:=fun h=>by
       obtain ⟨e,he,hb,heX⟩:=hX j oj h hji hoj
       exact hnot e he hb (hXu _ heX)
     have h2:=wpOp_putIf hoj (hfree j oj hoj hji hjun hnoti) (fun cs b=>hsel i oi cs b hi) (fun cs b=>hsel j oj cs b hoj) hQ hy h1
     have hfree':∀ k ok,ops[k]?=some ok→k≠i→(listed.setIfInBounds j true).getD k true=false →
         (∀ e∈ok.after,Region.binds md e=true→e.on≠i)→oi.apart ops ok=true:=fun k ok hk hki hun hno=>by
       refine hfree k ok hk hki ?_ hno
       by_cases hjk:j=k
       · subst hjk; exact hjun
       · rw [getD_set_ne true hjk] at hun; exact hun
     refine wpOp_mono (fun a' w' h3=>?_) h2
     obtain ⟨h4,h5,h6⟩:=h3
     have hS':nb B (listed.setIfInBounds j true)=true→S w':=fun h=>h5 (by rw [Array.setIfInBounds_comm _ _ (Ne.symm hji),gjX hiB]; exact h)
     refine ⟨hS',ih (listed.setIfInBounds j true) a' w' hfree' (fun x hx=>?_) (ready_mono hr (Ne.symm hji)) h4 ?_ hS' ?_⟩
     · rw [gdH (fun e=>hjX (by rw [e]; exact hx))]; exact hXu x hx
     · rcases hBX with hall0 | ⟨hBX,hSS⟩
       · exact hall0 w'
       · refine hSS w' (hS' ?_)
         unfold nb
         rw [List.all_eq_true]
         intro b hb
         rw [gdH (fun e=>hjX (by rw [e]; exact hBX b hb))]
         rcases Nat.lt_or_ge b listed.size with h' | h'
         · have:=hXu b (hBX b hb); simp [h'] at this ⊢; exact this
         · have:=hXu b (hBX b hb); simp [h'] at this
     · rw [Array.setIfInBounds_comm _ _ hji]
       exact h6
end
section
variable {P:Program} {S:World→Prop} {B:List Nat} {l:List Oper} {bs bs':List Bool} {a:Act} {w:World} {n fuel d i:Nat} {L:List (Nat×Value)} {Mid:Act→World→Prop} {Q:Exit→Act→World→Prop} {o:Oper} {v:Value}
def only (Mid:Act→World→Prop):Exit→Act→World→Prop:=fun e a w=>e=.normal∧Mid a w
abbrev DL (P:Program) (l:List Oper) (Mid:Act→World→Prop) (S:World→Prop) (B:List Nat) (fuel:Nat) (bs:List Bool) (a:Act) (w:World):Prop:=wpL P .any l.toArray (only Mid) S B fuel bs.toArray a w
theorem gjz {id:Nat} (B:List Nat) (hm:P.follows .mixedOrders=true) (hb:List.replicate l.length false=bs) (hn:l.length=fuel) (h:∀ w1,Below w.heap.size w w1→DL P l (fun a w=>Q .normal a w) (fun _=>True) B fuel bs a w1):(Code.region id l.toArray true).wp P Q a w:=by
 have h1:(Code.region id l.toArray true).wp P (only fun a w=>Q .normal a w) a w:=wp_region_any hm (gdN (S:=fun _=>True) (B:=B) _ _ _ _ (by
   have e1:l.toArray.size=fuel:=by simpa using hn
   have e2:Array.replicate l.toArray.size false=bs.toArray:=by rw [←hb]; simp
   rw [e2,e1]; exact h _ ((Below.refl _ _).drew)))
 exact Code.wp_mono (fun e a w q=>by obtain ⟨rfl,q⟩:=q; exact q) h1
theorem ghJ {md:Region.Mode} {ops:Array Oper} {S S':World→Prop} (hs:∀ w,S' w→S w):∀ (fuel:Nat) (listed:Array Bool) (a:Act) (w:World),wpL P md ops Q S' B fuel listed a w→wpL P md ops Q S B fuel listed a w
  | 0,_,_,_,h=>h
  | fuel + 1,_,_,_,h=>⟨h.1,fun i hi=>wpOp_mono (fun a' w' h'=>⟨fun hn=>hs _ (h'.1 hn),ghJ hs fuel _ a' w' h'.2⟩) (h.2 i hi)⟩
theorem str (S':World→Prop) (hs:∀ w,S' w→S w) (h:DL P l Mid S' B fuel bs a w):DL P l Mid S B fuel bs a w:=ghJ hs _ _ _ _ h
def takeB (l:List Oper) (bs:List Bool) (i:Nat) (X B:List Nat):Bool :=
  Region.noSelect l.toArray&&(Region.free .any l.toArray bs.toArray i&&((Region.ready .any l.toArray bs.toArray).contains i&&(X.all (fun x=>!bs.getD x true)&&(X.all (fun j=>j==i||(match l[j]? with | some oj=>oj.after.any (fun e=>Region.binds .any e&&X.contains e.on) | none=>true))&&!B.contains i))))
theorem gdO (hb:bs.set i true=bs'):bs.toArray.setIfInBounds i true=bs'.toArray:=by subst hb; simp
theorem gha {S0:World→Prop} (X:List Nat) (hi:l[i]?=some o) (hd:o.dst=some d) (hdn:d<n) (hf:Fr a n L) (hc:takeB l bs i X B=true) (hBX:(∀ w,S0 w)∨((∀ b∈B,b∈X)∧∀ w,S w→S0 w)) (hS0:S0 w) (hS:nb B bs.toArray=true→S w)
    (hy:YieldsIf P l.toArray S0 o v a) (hb:bs.set i true=bs') (h:∀ a',Fr a' n ((d,v)::L)→DL P l Mid S B fuel bs' a' w):DL P l Mid S B (fuel + 1) bs a w:=by
 unfold takeB at hc
 simp only [Bool.and_eq_true] at hc
 obtain ⟨h1,h2,h3,h4,h5,h6⟩:=hc
 have hi':l.toArray[i]?=some o:=by simpa using hi
 refine ghK S0 X hi' (Region.noSelect_spec h1) (fun c a w q=>by cases q.1) (fun j oj hj hji hoj=>?_) (by simpa using h6) hBX fuel bs.toArray a w (Region.free_spec hi' h2) (fun x hx=>?_) (by simpa using h3) hy hS0 hS ?_
 have:=List.all_eq_true.1 h5 j hj
 have hoj':l[j]?=some oj:=by simpa using hoj
 rw [hoj'] at this
 simp only [Bool.or_eq_true,beq_iff_eq,hji,false_or,Array.any_eq_true,Bool.and_eq_true] at this
 obtain ⟨q,hq,h7,h8⟩:=this
 exact ⟨_,Array.getElem_mem hq,h7,by simpa using h8⟩
 have:=List.all_eq_true.1 h4 x hx
 simp only [Bool.not_eq_true',List.getD_eq_getElem?_getD] at this
 simpa using this
 rw [gdO hb,hd]
 exact h _ (hf.put hdn v)
theorem tkP (hi:l[i]?=some o) (hd:o.dst=some d) (hg:o.guard=none) (hdn:d<n) (hf:Fr a n L) (hc:takeB l bs i [] B=true) (hS:nb B bs.toArray=true→S w) (hy:∀ w,(execOp a.eval o).run P w=.ok (.value v) w) (hb:bs.set i true=bs')
    (h:∀ a',Fr a' n ((d,v)::L)→DL P l Mid S B fuel bs' a' w):DL P l Mid S B (fuel + 1) bs a w :=
  gha (S0:=fun _=>True) [] hi hd hdn hf hc (.inl fun _=>trivial) trivial hS (.inl ⟨by simp [Region.wanted,hg],fun w _=>hy w⟩) hb h
theorem tkS (X:List Nat) (hi:l[i]?=some o) (hd:o.dst=some d) (hg:o.guard=none) (hdn:d<n) (hf:Fr a n L) (hc:takeB l bs i X B=true) (hBX:(B.all (X.contains ·))=true) (hS:S w) (hy:∀ w,S w→(execOp a.eval o).run P w=.ok (.value v) w) (hb:bs.set i true=bs')
    (h:∀ a',Fr a' n ((d,v)::L)→DL P l Mid S B fuel bs' a' w):DL P l Mid S B (fuel + 1) bs a w :=
  gha (S0:=S) X hi hd hdn hf hc (.inr ⟨fun b hb=>by simpa using List.all_eq_true.1 hBX b hb,fun _ h=>h⟩) hS (fun _=>hS) (.inl ⟨by simp [Region.wanted,hg],hy⟩) hb h
theorem tkPg {j e:Nat} {b:Bool} (hi:l[i]?=some o) (hd:o.dst=some d) (hg:o.guard=some (j,b)) (hj:(l[j]?).bind (·.dst)=some e) (hv:lk L e=some (.bool b)) (hdn:d<n) (hf:Fr a n L) (hc:takeB l bs i [] B=true) (hS:nb B bs.toArray=true→S w) (hy:∀ w,(execOp a.eval o).run P w=.ok (.value v) w) (hb:bs.set i true=bs')
    (h:∀ a',Fr a' n ((d,v)::L)→DL P l Mid S B fuel bs' a' w):DL P l Mid S B (fuel + 1) bs a w :=
  gha (S0:=fun _=>True) [] hi hd hdn hf hc (.inl fun _=>trivial) trivial hS (.inl ⟨by simp [Region.wanted,hg,ga9 (ops:=l.toArray) hf (by simpa using hj) hv],fun w _=>hy w⟩) hb h
theorem tkSg {j e:Nat} {b:Bool} (X:List Nat) (hi:l[i]?=some o) (hd:o.dst=some d) (hg:o.guard=some (j,b)) (hj:(l[j]?).bind (·.dst)=some e) (hv:lk L e=some (.bool b)) (hdn:d<n) (hf:Fr a n L) (hc:takeB l bs i X B=true) (hBX:(B.all (X.contains ·))=true) (hS:S w) (hy:∀ w,S w→(execOp a.eval o).run P w=.ok (.value v) w) (hb:bs.set i true=bs')
    (h:∀ a',Fr a' n ((d,v)::L)→DL P l Mid S B fuel bs' a' w):DL P l Mid S B (fuel + 1) bs a w :=
  gha (S0:=S) X hi hd hdn hf hc (.inr ⟨fun b hb=>by simpa using List.all_eq_true.1 hBX b hb,fun _ h=>h⟩) hS (fun _=>hS) (.inl ⟨by simp [Region.wanted,hg,ga9 (ops:=l.toArray) hf (by simpa using hj) hv],hy⟩) hb h
theorem gc7 {ops:Array Oper} (hf:Fr a n L) {j d:Nat} (hj:(ops[j]?).bind (·.dst)=some d) (hb:lk L d=some undef):yielded ops a.tmps j=none:=by
 unfold yielded
 simp [hj,hf.get d _ hb,undef]
theorem wlsu {Q:Exit→Act→World→Prop} {ops:Array Oper} {rest:List Oper} {j d e:Nat} {b:Bool} (hf:Fr a n L) (hg:o.guard=some (j,b)) (hj:(ops[j]?).bind (·.dst)=some d) (hb:lk L d=some undef)
    (hd:o.dst=some e) (hdn:e<n) (h:∀ a',Fr a' n ((e,undef)::L)→wpList P ops Q rest a' w):wpList P ops Q (o::rest) a w:=by
 unfold wpList
 rw [if_neg (by simp [Region.wanted,hg,gc7 hf hj hb])]
 rw [hd]
 exact h _ (hf.put hdn undef)
theorem tkUU {j e:Nat} {b:Bool} (hi:l[i]?=some o) (hd:o.dst=some d) (hg:o.guard=some (j,b)) (hj:(l[j]?).bind (·.dst)=some e) (hv:lk L e=some undef) (hdn:d<n) (hf:Fr a n L) (hc:takeB l bs i [] B=true) (hS:nb B bs.toArray=true→S w) (hb:bs.set i true=bs')
    (h:∀ a',Fr a' n ((d,undef)::L)→DL P l Mid S B fuel bs' a' w):DL P l Mid S B (fuel + 1) bs a w :=
  gha (S0:=fun _=>True) (v:=undef) [] hi hd hdn hf hc (.inl fun _=>trivial) trivial hS (.inr ⟨by simp [Region.wanted,hg,gc7 (ops:=l.toArray) hf (by simpa using hj) hv],rfl⟩) hb h
theorem tkU {j e:Nat} {b c:Bool} (hi:l[i]?=some o) (hd:o.dst=some d) (hg:o.guard=some (j,b)) (hj:(l[j]?).bind (·.dst)=some e) (hv:lk L e=some (.bool c)) (hne:(c==b)=false) (hdn:d<n) (hf:Fr a n L) (hc:takeB l bs i [] B=true) (hS:nb B bs.toArray=true→S w) (hb:bs.set i true=bs')
    (h:∀ a',Fr a' n ((d,undef)::L)→DL P l Mid S B fuel bs' a' w):DL P l Mid S B (fuel + 1) bs a w :=
  gha (S0:=fun _=>True) (v:=undef) [] hi hd hdn hf hc (.inl fun _=>trivial) trivial hS (.inr ⟨by simp [Region.wanted,hg,ga9 (ops:=l.toArray) hf (by simpa using hj) hv]; simpa using hne,rfl⟩) hb h
theorem on1 (hr:Region.ready .any l.toArray bs.toArray=[i]) (hi:l[i]?=some o) (hg:o.guard=none) (hb:bs.set i true=bs')
    (h:o.wp P a w (fun a' w'=>(nb B bs'.toArray=true→S w')∧DL P l Mid S B fuel bs' a' w') (only Mid)):DL P l Mid S B (fuel + 1) bs a w:=by
 refine ⟨fun h0=>(by rw [hr] at h0; cases h0),fun j hj=>?_⟩
 rw [hr,List.mem_singleton] at hj
 subst hj
 unfold wpOp
 have hi':l.toArray[j]?=some o:=by simpa using hi
 simp only [hi',Region.wanted,hg]
 rw [gdO hb]
 exact .inl h
theorem on1g {j e:Nat} {b:Bool} (hr:Region.ready .any l.toArray bs.toArray=[i]) (hi:l[i]?=some o) (hg:o.guard=some (j,b)) (hj:(l[j]?).bind (·.dst)=some e) (hv:lk L e=some (.bool b)) (hf:Fr a n L) (hb:bs.set i true=bs')
    (h:o.wp P a w (fun a' w'=>(nb B bs'.toArray=true→S w')∧DL P l Mid S B fuel bs' a' w') (only Mid)):DL P l Mid S B (fuel + 1) bs a w:=by
 refine ⟨fun h0=>(by rw [hr] at h0; cases h0),fun q hq=>?_⟩
 rw [hr,List.mem_singleton] at hq
 subst hq
 unfold wpOp
 have hi':l.toArray[q]?=some o:=by simpa using hi
 have hw:Region.wanted o (yielded l.toArray a.tmps)=true:=by simp [Region.wanted,hg,ga9 (ops:=l.toArray) hf (by simpa using hj) hv]
 simp only [hi',hw,if_true]
 rw [gdO hb]
 exact .inl h
theorem ux {w0:Base} {S:Nat→Prop} {M:List Blk} {R:List Row} {D:List DI} {I:List (Bool×MP)} (H:Mem w0 S M R D I w) {α:Type} [GoTy α] {T E:TypeId} (hT:P.underlying T=some (.slice E)) (hE:SZ P E (GoTy.n α)) {A:Option Addr} {len cap:Nat} {i:Int} {xs:List α} {e:α} {f:Bool}
    (j:Nat) (hi:I[j]?=some (f,MP.val [.slice A len cap] xs)) (he:idx xs i=some e) :
    ∃ b o cs,(∀ w' k,(Instr.indexAt T (.slice A len cap) (.int k i)).run P w'=.ok (.pointer (some ⟨b,o,none⟩)) w')∧GoTy.rep w (St w0 S M R D f) cs e∧Mem w0 S M R D ((f,MP.cells ⟨b,o,none⟩ cs)::I) w:=by
  obtain ⟨A',cap',hcs,hlc,hcm,hel⟩:lrep w (St w0 S M R D f) [.slice A len cap] xs:=H.get j hi
  obtain ⟨h0,hl,hg⟩:=gcK he
  simp only [List.cons.injEq,Value.slice.injEq,and_true] at hcs
  obtain ⟨rfl,rfl,rfl⟩:=hcs
  obtain ⟨p,rfl,hp,cs,hc,hr⟩:=hel _ _ hg
  have hlt:p.block<w.heap.size:=ElemAt.lt (S:=St w0 S M R D f) (i:=i.toNat) (x:=e) ⟨cs,hc,hr⟩
  have hlen:=GoTy.len hr
  have hpos:=GoTy.pos (α:=α)
  have hq:p.add (i.toNat * GoTy.n α)=⟨p.block,(p.add (i.toNat * GoTy.n α)).off,none⟩:=by
    have h0:=hc 0 _ (List.getElem?_eq_getElem (by omega))
    rw [Nat.add_zero] at h0
    have hs:(p.add (i.toNat * GoTy.n α)).spot=none:=by
      unfold World.cell? at h0
      cases hsp:(p.add (i.toNat * GoTy.n α)).spot with
      | none=>rfl
      | some s =>
        rw [hsp] at h0
        split at h0 <;> simp at h0
    rw [←block_add p (i.toNat * GoTy.n α)]
    generalize p.add (i.toNat * GoTy.n α)=q at hs
    cases q; simp only at hs; subst hs; rfl
  refine ⟨p.block,(p.add (i.toNat * GoTy.n α)).off,cs,fun w' k=>?_,hr,H.push _ ⟨hp,hlt,fun q c hq'=>by rw [←hq,add_add]; exact hc q c hq'⟩⟩
  rw [←hq]
  exact run_indexAt (P:=P) (w:=w') (cap:=cap) hT hE h0 hl (p:=p) (k:=k)
theorem uu {T:TypeId} {x y:Operand} {u v r:Value} {dst:Option Tmp} {ty:TypeId} {pos:String} {af:Array Edge} {g:Option (Nat×Bool)} (hf:Fr a n L) (hx:ev L x=some u) (hy:ev L y=some v) {k:IntKind} {i:Int} (hv:v=.int k i) (h:∀ w' k,(Instr.indexAt T u (.int k i)).run P w'=.ok r w') :
    ∀ w,(execOp a.eval ⟨dst,.indexAddr T x y,ty,pos,af,g⟩).run P w=.ok (.value r) w:=by
 intro w
 subst hv
 simp [execOp,hf.eval hx,hf.eval hy,h]
theorem dn (hr:Region.ready .any l.toArray bs.toArray=[]) (h:Mid a w):DL P l Mid S B fuel bs a w:=by
 cases fuel with
 | zero=>exact ⟨hr,rfl,h⟩
 | succ k=>exact ⟨fun _=>⟨rfl,h⟩,by rw [hr]; simp⟩
end
end AT
namespace AT
open Go Go.RowKit
section
variable {P:Program} {Q:Exit→Act→World→Prop} {a:Act} {w:World} {n:Nat} {L:List (Nat×Value)} {dst:Option Tmp} {ty:TypeId} {pos:String} {af:Array Edge} {g:Option (Nat×Bool)} {K:Act→World→Prop} {d:Nat}
variable {w0:Base} {S:Nat→Prop} {M:List Blk} {R:List Row} {D:List DI} {I:List (Bool×MP)}
theorem gcP (hf:Fr a n L) {fn:Fn} {xs:List Operand} {vs:List Value} (hx:evs L xs=some vs) :
    (execOp a.eval ⟨dst,.makeFunc fn #[] xs.toArray,ty,pos,af,g⟩).run P w=.ok (.value (.func fn #[] vs.toArray)) w:=by
 simp [execOp,Instr.makeFunc,hf.evals hx]
theorem ggY (hf:Fr a n L) {f:FuncId} (hk:CL P f) {x:Operand} {ca:List Value} (hx:ev L x=some (.func (.func f) #[] ca.toArray)) {xs:List Operand} {ats:Array TypeId} {vs:List Value} (hxs:evs L xs=some vs) (hdn:d<n) {Post:Value→World→Prop}
    (hc:Calls P f (vs++ca).toArray w fun e w'=>∃ v,e=.returned v∧Post v w') (k:∀ v w' a',Post v w'→Fr a' n ((d,v)::L)→K a' w') :
    Oper.wp P ⟨some d,.call ⟨.value x,xs.toArray,ats⟩,ty,pos,af,g⟩ a w K Q:=by
 have hk':∀ args w,(callFunc f args).run P w=.ok (.enter f args) w:=hk
 have h1:execOp a.eval ⟨some d,.call ⟨.value x,xs.toArray,ats⟩,ty,pos,af,g⟩=callFunc f (vs++ca).toArray:=by
   simp [execOp,resolve,Deferred.ofValue,hf.eval hx,hf.evals hxs,invoke]
 unfold Oper.wp
 rw [h1,hk',Oper.upon_enter]
 refine hc.mono fun e w' ⟨v,he,hp⟩=>?_
 subst he
 exact k v w' _ hp (hf.put hdn v)
theorem Mem.boxTrue (H:Mem w0 S M R D I w) (i:Nat) {b:Nat} {T:TypeId} {cs:List Value} (hi:M[i]?=some ⟨b,T,cs⟩):(MP.cells ⟨b,0,none⟩ cs).pred w (fun _=>True):=by
 have h:w.heap[b]?=some (.cells cs.toArray T (0,0)):=MemZ.ok H (Blk.res ⟨b,T,cs⟩) (List.mem_append.2 (.inl (List.mem_map.2 ⟨_,List.mem_of_getElem? hi,rfl⟩)))
 refine ⟨trivial,?_,fun j c hc=>?_⟩
 rcases Nat.lt_or_ge b w.heap.size with h' | h'
 exact h'
 rw [Array.getElem?_eq_none h'] at h; cases h
 rw [add_lit,Nat.zero_add,H.cell hi]; exact hc
theorem ggx {p:MP} {T:Nat→Prop} (h:p.pred w T):p.pred w (fun _=>True):=p.mono h fun _ _ _=>⟨trivial,rfl⟩
end
end AT
namespace AT
open Go Go.RowKit
section
variable {P:Program} {Q:Exit→Act→World→Prop} {a:Act} {w w' w1:World} {n:Nat} {L:List (Nat×Value)} {dst:Option Tmp} {ty:TypeId} {pos:String} {af:Array Edge} {g:Option (Nat×Bool)} {K:Act→World→Prop} {d:Nat}
variable {w0:Base} {S:Nat→Prop} {M:List Blk} {R:List Row} {D:List DI} {I:List (Bool×MP)}
theorem ps0:∀ d∈([]:List DI),d.p.pred w (·∈d.F):=fun _ h=>by cases h
theorem ps1 {α:Type} [GoTy α] {F:List Nat} {cs:List Value} {x:α} {X:List DI} (h:GoTy.own w F cs x) (t:∀ d∈X,d.p.pred w (·∈d.F)):∀ d∈((⟨F,MP.own F cs x⟩:DI)::X),d.p.pred w (·∈d.F):=by
 intro d hd
 rcases List.mem_cons.1 hd with rfl | hd
 exact ⟨h,fun b hb=>hb⟩
 exact t d hd
theorem Mem.arg (H:Mem ⟨w1,[]⟩ S M R D I w) {p:MP} (h:p.pred w1 S):Mem ⟨w1,[]⟩ S M R D ((false,p)::I) w:=H.pushArg p h
end
end AT
namespace AT
open Go Go.RowKit
section
variable {P:Program} {Q:Exit→Act→World→Prop} {a:Act} {w w' w1:World} {n:Nat} {L:List (Nat×Value)} {dst:Option Tmp} {ty:TypeId} {pos:String} {af:Array Edge} {g:Option (Nat×Bool)} {K:Act→World→Prop} {d:Nat}
variable {w0:Base} {S:Nat→Prop} {M:List Blk} {R:List Row} {D:List DI} {I:List (Bool×MP)}
def evo (L:List (Nat×Value)):Option Operand→Option (Option Value)
  | none=>some none
  | some o=>(ev L o).map some
theorem gc3 (hf:Fr a n L) {o:Option Operand} {v:Option Value} (h:evo L o=some v):o.map a.eval=v:=by
 cases o with
 | none=>simpa [evo] using h
 | some o =>
   simp only [evo,Option.map_eq_some_iff] at h
   obtain ⟨u,hu,rfl⟩:=h
   simp [hf.eval hu]
theorem gaP (hf:Fr a n L) {T:TypeId} {x:Operand} {u r:Value} (hx:ev L x=some u) {lo hi:Option Operand} {lov hiv:Option Value} (hlo:evo L lo=some lov) (hhi:evo L hi=some hiv) (h:∀ w',(Instr.sliceAt T u lov hiv none).run P w'=.ok r w') :
    ∀ w,(execOp a.eval ⟨dst,.slice T x lo hi none,ty,pos,af,g⟩).run P w=.ok (.value r) w:=by
 intro w
 simp [execOp,hf.eval hx,gc3 hf hlo,gc3 hf hhi,h]
theorem gaQ (H:Mem w0 S M R D I w) {α:Type} [GoTy α] {T E:TypeId} (hT:P.underlying T=some (.slice E)) (hE:SZ P E (GoTy.n α)) {A:Option Addr} {len cap:Nat} {i j:Int} {xs ys:List α} {f:Bool} (q:Nat) {lov hiv:Option Value}
    (hlo:lov=none∧i=0∨lov=some (.int .i64 i)) (hhi:hiv=none∧j=xs.length∨hiv=some (.int .i64 j)) (hq:I[q]?=some (f,MP.val [.slice A len cap] xs)) (hs:sub xs i j=some ys) :
    ∃ A' c',(∀ w',(Instr.sliceAt T (.slice A len cap) lov hiv none).run P w'=.ok (.slice A' ys.length c') w')∧Mem w0 S M R D ((f,MP.val [.slice A' ys.length c'] ys)::I) w:=by
  obtain ⟨A',cap',hcs,hlc,hcm,hel⟩:lrep w (St w0 S M R D f) [.slice A len cap] xs:=H.get q hq
  simp only [List.cons.injEq,Value.slice.injEq,and_true] at hcs
  obtain ⟨rfl,rfl,rfl⟩:=hcs
  unfold sub at hs
  split at hs
  case isFalse=>cases hs
  rename_i hb
  obtain ⟨h0,h1,h2⟩:=hb
  injection hs with hs
  have hyl:ys.length=j.toNat - i.toNat:=by rw [←hs]; simp; omega
  have hE':∀ w,(Go.sizeOf E).run P w=.ok (GoTy.n α) w:=hE
  refine ⟨if cap=i.toNat then A else A.map (·.add (i.toNat * GoTy.n α)),cap - i.toNat,fun w'=>?_,H.push _ ?_⟩
  · have hj:(j.toNat:Int)=j:=Int.toNat_of_nonneg (by omega)
    rw [hyl]
    have hsb:(Instr.sliceBounds true xs.length cap lov hiv none).run P w'=.ok (i.toNat,j.toNat,cap) w':=by
      rcases hlo with ⟨e1,rfl⟩ | e1 <;> rcases hhi with ⟨e2,e3⟩ | e2 <;> rw [e1,e2]
      · subst e3; simp [Instr.sliceBounds]
      · simp [Instr.sliceBounds,Instr.sliceBound,asIntOf,show 0≤j by omega,show j≤cap by omega]
      · subst e3; simp [Instr.sliceBounds,Instr.sliceBound,asIntOf,h0,h1]
      · simp [Instr.sliceBounds,Instr.sliceBound,asIntOf,h0,show 0≤j by omega,show j≤cap by omega,hj,h1]
    simp [Instr.sliceAt,Instr.slice,run_underlying hT,hsb,hE']
  refine ⟨_,_,rfl,by omega,by omega,fun t z hz=>?_⟩
  have hz':xs[i.toNat + t]?=some z:=by
    rw [←hs,List.getElem?_drop] at hz
    rw [List.getElem?_take] at hz
    split at hz
    · exact hz
    · cases hz
  obtain ⟨p,hp,hSp,cs,hc,hr⟩:=hel _ _ hz'
  have hlt:=(List.getElem?_eq_some_iff.1 hz').1
  rw [if_neg (by omega),hp]
  refine ⟨p.add (i.toNat * GoTy.n α),rfl,by rw [block_add]; exact hSp,cs,fun u c hu=>?_,hr⟩
  rw [add_add,←Nat.add_assoc,←Nat.add_mul]
  exact hc u c hu
end
section
variable {P:Program} {l:List Oper} {Mid S:World→Prop} {a:Act} {w:World} {B:List Nat} {fuel:Nat} {bs:List Bool} {n:Nat} {L:List (Nat×Value)}
theorem on2 {Mid:Act→World→Prop} {i j:Nat} {oi oj:Oper} {bi bj:List Bool} (hr:Region.ready .any l.toArray bs.toArray=[i,j]) (hi:l[i]?=some oi) (hgi:oi.guard=none) (hbi:bs.set i true=bi) (hj:l[j]?=some oj) (hgj:oj.guard=none) (hbj:bs.set j true=bj)
    (h:oi.wp P a w (fun a' w'=>(nb B bi.toArray=true→S w')∧DL P l Mid S B fuel bi a' w') (only Mid)) (h':oj.wp P a w (fun a' w'=>(nb B bj.toArray=true→S w')∧DL P l Mid S B fuel bj a' w') (only Mid)):DL P l Mid S B (fuel + 1) bs a w:=by
 refine ⟨fun h0=>(by rw [hr] at h0; cases h0),fun q hq=>?_⟩
 rw [hr] at hq
 simp only [List.mem_cons,List.not_mem_nil,or_false] at hq
 rcases hq with rfl | rfl
 unfold wpOp
 have hi':l.toArray[q]?=some oi:=by simpa using hi
 simp only [hi',Region.wanted,hgi]
 rw [gdO hbi]
 exact .inl h
 unfold wpOp
 have hi':l.toArray[q]?=some oj:=by simpa using hj
 simp only [hi',Region.wanted,hgj]
 rw [gdO hbj]
 exact .inl h'
end
instance:GoTy By where
  n:=1
  agg:=false
  flat:=true
  rep _ _ cs x:=cs=[.int .u8 x.n]
  own _ F cs x:=F=[]∧cs=[.int .u8 x.n]
  pos:=by decide
  len:=by rintro _ _ _ _ rfl; rfl
  one:=by rintro _ _ _ _ rfl; simp [Value.oneCell']
  mono:=fun h _=>h
  own_rep:=fun h=>h.2
  own_mono:=fun h _=>h
  own_lt:=by rintro _ _ _ _ ⟨rfl,_⟩ _ h; cases h
  own_flat:=fun _ h=>⟨rfl,h⟩
instance:GoTy U64 where
  n:=1
  agg:=false
  flat:=true
  rep _ _ cs x:=cs=[.int .u64 x.n]
  own _ F cs x:=F=[]∧cs=[.int .u64 x.n]
  pos:=by decide
  len:=by rintro _ _ _ _ rfl; rfl
  one:=by rintro _ _ _ _ rfl; simp [Value.oneCell']
  mono:=fun h _=>h
  own_rep:=fun h=>h.2
  own_mono:=fun h _=>h
  own_lt:=by rintro _ _ _ _ ⟨rfl,_⟩ _ h; cases h
  own_flat:=fun _ h=>⟨rfl,h⟩
theorem gmz {w:World} {S:Nat→Prop} {v:Value} {x:By} (h:VR w S v x):v=.int .u8 x.n:=by obtain ⟨cs,rfl,rfl⟩:=h; rfl
theorem gj1 {w:World} {S:Nat→Prop} {v:Value} {x:U64} (h:VR w S v x):v=.int .u64 x.n:=by obtain ⟨cs,rfl,rfl⟩:=h; rfl
theorem glE {w:World} {S:Nat→Prop} {x:By}:VR w S (.int .u8 x.n) x:=⟨_,rfl,rfl⟩
theorem gjY {w:World} {S:Nat→Prop} {x:U64}:VR w S (.int .u64 x.n) x:=⟨_,rfl,rfl⟩
section
variable {P:Program} {a:Act} {w:World} {n:Nat} {L:List (Nat×Value)} {dst:Option Tmp} {ty:TypeId} {pos:String} {af:Array Edge} {g:Option (Nat×Bool)}
variable {T U:TypeId} {x y:Operand} {k:IntKind} {i j:Int} {f:Int→Int}
theorem gff (hk:∀ n,k.wrap n=f n) (hf:Fr a n L) (hx:ev L x=some (.int k i)) (hy:ev L y=some (.int k j)):(execOp a.eval ⟨dst,.binOp .add T x y U,ty,pos,af,g⟩).run P w=.ok (.value (.int k (f (i + j)))) w:=by
 simp [execOp,hf.eval hx,hf.eval hy,eqGuard,binOp,Op.intArith,hk]
theorem ghX (hk:∀ n,k.wrap n=f n) (hf:Fr a n L) (hx:ev L x=some (.int k i)) (hy:ev L y=some (.int k j)):(execOp a.eval ⟨dst,.binOp .mul T x y U,ty,pos,af,g⟩).run P w=.ok (.value (.int k (f (i * j)))) w:=by
 simp [execOp,hf.eval hx,hf.eval hy,eqGuard,binOp,Op.intArith,hk]
theorem gfI (hf:Fr a n L) (hx:ev L x=some (.int .u64 i)) (hy:ev L y=some (.int .u64 j)):(execOp a.eval ⟨dst,.binOp .and T x y U,ty,pos,af,g⟩).run P w=.ok (.value (.int .u64 (gdq i j))) w:=by
 simp [execOp,hf.eval hx,hf.eval hy,eqGuard,binOp,Op.intBits,u64w,gdq]
 try rfl
theorem ghT {k':IntKind} {b:Nat} {q:Int} (hb:k.bits=b) (hf:Fr a n L) (hx:ev L x=some (.int k i)) (hy:ev L y=some (.int k' j)) (h:shrk b i j=some q):(execOp a.eval ⟨dst,.binOp .shr T x y U,ty,pos,af,g⟩).run P w=.ok (.value (.int k q)) w:=by
 unfold shrk at h
 split at h
 cases h
 rename_i h0
 injection h with h; subst h
 subst hb
 simp [execOp,hf.eval hx,hf.eval hy,eqGuard,binOp,Op.shift,h0]
theorem gkY (hf:Fr a n L) (hx:ev L x=some (.int k i)) (hy:ev L y=some (.int k j)):(execOp a.eval ⟨dst,.binOp .lss T x y U,ty,pos,af,g⟩).run P w=.ok (.value (.bool (decide (i<j)))) w:=by
 simp [execOp,hf.eval hx,hf.eval hy,eqGuard,binOp,Op.intCmp]
theorem geZ (hf:Fr a n L) (hx:ev L x=some (.int k i)) (hy:ev L y=some (.int k j)):(execOp a.eval ⟨dst,.binOp .leq T x y U,ty,pos,af,g⟩).run P w=.ok (.value (.bool (decide (i≤j)))) w:=by
 simp [execOp,hf.eval hx,hf.eval hy,eqGuard,binOp,Op.intCmp]
theorem gk0 (hf:Fr a n L) (hx:ev L x=some (.int k i)) (hy:ev L y=some (.int k j)):(execOp a.eval ⟨dst,.binOp .gtr T x y U,ty,pos,af,g⟩).run P w=.ok (.value (.bool (decide (i > j)))) w:=by
 simp [execOp,hf.eval hx,hf.eval hy,eqGuard,binOp,Op.intCmp]
theorem gdP (hf:Fr a n L) (hx:ev L x=some (.int k i)) (hy:ev L y=some (.int k j)):(execOp a.eval ⟨dst,.binOp .geq T x y U,ty,pos,af,g⟩).run P w=.ok (.value (.bool (decide (i≥j)))) w:=by
 simp [execOp,hf.eval hx,hf.eval hy,eqGuard,binOp,Op.intCmp]
theorem zk {k':IntKind} {us:TypeDesc} (hk:∀ n,k.wrap n=f n) (hs:P.underlying T=some us) (hd:P.underlying U=some (.int k)) (hf:Fr a n L) (hx:ev L x=some (.int k' i)):(execOp a.eval ⟨dst,.convert T U x,ty,pos,af,g⟩).run P w=.ok (.value (.int k (f i))) w:=by
 simp [execOp,hf.eval hx,convert,run_underlying hs,run_underlying hd,Conv.intToInt,hk]
end
section
variable {w w' w1:World} {w0:Base} {S:Nat→Prop} {M:List Blk} {R:List Row} {D:List DI} {I:List (Bool×MP)}
theorem Mem.boxAt (H:Mem w0 S M R D I w) (i:Nat) {b:Nat} {T:TypeId} {cs:List Value} (hi:M[i]?=some ⟨b,T,cs⟩):w.heap[b]?=some (.cells cs.toArray T (0,0)) :=
  MemZ.ok H (Blk.res ⟨b,T,cs⟩) (List.mem_append.2 (.inl (List.mem_map.2 ⟨_,List.mem_of_getElem? hi,rfl⟩)))
theorem giQ {i b:Nat} {T:TypeId} {cs:List Value} (hi:M[i]?=some ⟨b,T,cs⟩):b∈fmZ (zs M R D) :=
  List.mem_flatMap.2 ⟨Blk.res ⟨b,T,cs⟩,List.mem_append.2 (.inl (List.mem_map.2 ⟨_,List.mem_of_getElem? hi,rfl⟩)),by simp [Blk.res]⟩
theorem Mem.notSt (H:Mem w0 S M R D I w) (i:Nat) {b:Nat} {T:TypeId} {cs:List Value} (hi:M[i]?=some ⟨b,T,cs⟩) (f:Bool):¬St w0 S M R D f b:=by
 have h1:=giQ (R:=R) (D:=D) hi
 rintro (⟨-,h,-⟩ | ⟨-,h⟩)
 exact h (MemZ.lt H b (zE h1)).1
 exact h h1
theorem Mem.startB (S:Nat→Prop) {b:Nat} {T:TypeId} {cs:List Value} (h:w1.heap[b]?=some (.cells cs.toArray T (0,0))):Mem ⟨w1,[b]⟩ S [⟨b,T,cs⟩] [] [] [] w1:=by
 have hlt:b<w1.heap.size:=by
   rcases Nat.lt_or_ge b w1.heap.size with h' | h'
   · exact h'
   · rw [Array.getElem?_eq_none h'] at h; cases h
 refine ⟨⟨rfl,rfl,rfl,Nat.le_refl _,fun _ _=>rfl⟩,fun c hc=>?_,?_,fun r hr=>?_,fun f hf=>(by cases hf)⟩
 have hc':c=b:=by simpa [allZ,zs,Res.all,Blk.res] using hc
 subst hc'
 exact ⟨.inr (by simp),hlt⟩
 simp [allZ,zs,Res.all,Blk.res]
 have:r=Blk.res ⟨b,T,cs⟩:=by simpa [zs] using hr
 subst this
 exact h
theorem Mem.argB {G:List Nat} (H:Mem ⟨w1,G⟩ S M R D I w) (hS:∀ b∈G,¬S b) {p:MP} (h:p.pred w1 S):Mem ⟨w1,G⟩ S M R D ((false,p)::I) w:=by
 refine H.push _ (p.mono h fun b hb hlt=>?_)
 have hn:¬(⟨w1,G⟩:Base).nw b:=by
   rintro (h1 | h1)
   · simp only at h1; omega
   · exact hS b h1 hb
 exact ⟨.inl ⟨rfl,hn,hb⟩,(MemZ.below H).block b hn⟩
theorem Mem.wroteBox (H:Mem w0 S M R D I w) (i:Nat) {b:Nat} {T:TypeId} {cs cs':List Value} (hi:M[i]?=some ⟨b,T,cs⟩) (hc:Chg w w' [b]) (hb:w'.heap[b]?=some (.cells cs'.toArray T (0,0))):Mem w0 S (M.set i ⟨b,T,cs'⟩) R D I w':=by
 refine MemZ.perm (MemZ.step (rs:=[Blk.res ⟨b,T,cs⟩]) (rs':=[Blk.res ⟨b,T,cs'⟩]) (MemZ.perm H (gec hi)) (hc.sub fun x hx=>?_) (fun x hx=>.inl hx) (fun x hx=>.inl hx) (by simp [allZ,Res.all,Blk.res]) fun _ q hq=>?_) (gfa _ hi).symm
 rw [yR]; simpa [Blk.res] using hx
 rw [List.mem_singleton] at hq; subst hq
 exact hb
theorem gjf {b:Nat} {T:TypeId} {bs:List Value} {i:Nat} {f:Bool} {α:Type} [GoTy α] {cs:List Value} {x:α} (hi:M[i]?=some ⟨b,T,bs⟩) (h:GoTy.rep w (St w0 S M R D f) cs x):GoTy.rep w (St w0 S [⟨b,T,bs⟩] [] [] f) cs x :=
  GoTy.mono h fun c hc _=>by
    refine ⟨?_,rfl⟩
    rcases hc with hc | ⟨h1,h2⟩
    · exact .inl hc
    · refine .inr ⟨h1,fun h3=>h2 ?_⟩
      have:c=b:=by simpa [fmZ,zs,Blk.res] using h3
      subst this; exact giQ hi
end
section
variable {P:Program} {Q:Exit→Act→World→Prop} {a:Act} {w:World} {n:Nat} {L:List (Nat×Value)} {ty:TypeId} {pos:String} {af:Array Edge} {g:Option (Nat×Bool)} {K:Act→World→Prop} {d:Nat}
variable {w0:Base} {S:Nat→Prop} {M:List Blk} {R:List Row} {D:List DI} {I:List (Bool×MP)}
theorem gfQ {B:Nat} {E:TypeId} {s:Nat} {A:Option Addr} {m cap k:Nat} {cells:List Value} (h:w.ownsRow B E s (.slice A m cap) m cells) (hk:k≤m):w.ownsRow B E s (.slice A k cap) k (cells.take (k * s)):=by
 obtain ⟨h1,h2⟩:=h
 have hks:k * s≤m * s:=Nat.mul_le_mul_right s hk
 refine ⟨by rw [List.length_take,h1]; exact Nat.min_eq_left hks,?_⟩
 rcases h2 with ⟨hv,hn⟩ | ⟨b,cap',cur,hv,hb,hg,hl,hm,hsz,ht⟩
 simp only [Value.slice.injEq] at hv
 obtain ⟨rfl,rfl,rfl⟩:=hv
 obtain rfl:k=0:=by omega
 exact .inl ⟨rfl,rfl⟩
 simp only [Value.slice.injEq] at hv
 obtain ⟨rfl,-,rfl⟩:=hv
 exact .inr ⟨b,cap,cur,rfl,hb,hg,by omega,hm,hsz,by rw [←ht,List.take_take,Nat.min_eq_left hks]⟩
theorem gic (hf:Fr a n L) (H:Mem w0 S M R D I w) {α:Type} [GoTy α] {T E E':TypeId} (hT:P.underlying T=some (.slice E)) (hE:SZ P E (GoTy.n α)) {x:Operand} {lo hi:Option Operand} {A:Option Addr} {cap:Nat} {j:Int} {xs ys:List α} {fr:Bool} (q:Nat) {lov hiv:Option Value}
    (hx:ev L x=some (.slice A xs.length cap)) (hlo:evo L lo=some lov) (hhi:evo L hi=some hiv) (hlo':lov=none∨lov=some (.int .i64 0)) (hhi':hiv=none∧j=xs.length∨hiv=some (.int .i64 j)) (hq:R[q]?=some ⟨.sh fr,E',A,cap,xs⟩) (hs:sub xs 0 j=some ys) (hdn:d<n)
    (k:∀ a',Fr a' n ((d,.slice A ys.length cap)::L)→Mem w0 S M (R.set q ⟨.sh fr,E',A,cap,ys⟩) D I w→K a' w):Oper.wp P ⟨some d,.slice T x lo hi none,ty,pos,af,g⟩ a w K Q:=by
  obtain ⟨cells,ho,hfit,hel⟩:=H.rowAt (List.mem_of_getElem? hq)
  unfold sub at hs
  split at hs
  case isFalse=>cases hs
  rename_i hb
  obtain ⟨h0,h1,h2⟩:=hb
  injection hs with hs
  have hyl:ys.length=j.toNat:=by rw [←hs]; simp; omega
  have hcap:xs.length≤cap:=by
    rcases ho.2 with ⟨hv,hn⟩ | ⟨b,cap',cur,hv,hb,hg,hl,hm,hsz,ht⟩
    · have:xs.length=0:=hn
      omega
    · simp only [Row.v,Value.slice.injEq] at hv
      obtain ⟨-,-,rfl⟩:=hv
      exact hl
  have hE':∀ w,(Go.sizeOf E).run P w=.ok (GoTy.n α) w:=hE
  have hA:(A.map fun p=>p.add 0)=A:=by cases A <;> simp [Addr.add]
  have hval:(execOp a.eval ⟨some d,.slice T x lo hi none,ty,pos,af,g⟩).run P w=.ok (.value (.slice A ys.length cap)) w:=by
    have hsl:(Instr.sliceAt T (.slice A xs.length cap) lov hiv none).run P w=.ok (.slice A ys.length cap) w:=by
      rw [hyl]
      have hsb:(Instr.sliceBounds true xs.length cap lov hiv none).run P w=.ok (0,j.toNat,cap) w:=by
        rcases hlo' with e1 | e1 <;> rcases hhi' with ⟨e2,e3⟩ | e2 <;> rw [e1,e2]
        · subst e3; simp [Instr.sliceBounds]
        · simp [Instr.sliceBounds,Instr.sliceBound,asIntOf,show 0≤j by omega,show j≤cap by omega]
        · subst e3; simp [Instr.sliceBounds,Instr.sliceBound,asIntOf]
        · simp [Instr.sliceBounds,Instr.sliceBound,asIntOf,show 0≤j by omega,show j≤cap by omega]
      simp [Instr.sliceAt,Instr.slice,run_underlying hT,hsb,hE',hA]
    simp [execOp,hf.eval hx,gc3 hf hlo,gc3 hf hhi,hsl]
  refine op_q hf hval rfl hdn fun a' hf'=>k a' hf' (H.reRow hq ⟨rfl,rfl,rfl,Nat.le_refl _,fun _ _ _=>rfl⟩ (.inl (by cases A <;> rfl)) (List.Perm.refl _) fun hm=>?_)
  have hyx:ys.length≤xs.length:=by omega
  refine ⟨cells.take (ys.length * GoTy.n α),gfQ ho hyx,trivial,fun i y hy=>?_⟩
  have hi:i<ys.length:=(List.getElem?_eq_some_iff.1 hy).1
  have hx':xs[i]?=some y:=by
    rw [←hs] at hy
    simp only [Int.toNat_zero,List.drop_zero] at hy
    rw [List.getElem?_take] at hy
    split at hy
    · exact hy
    · cases hy
  have e:yu α (cells.take (ys.length * GoTy.n α)) i=yu α cells i:=by
    unfold yu
    have h3:i * GoTy.n α + GoTy.n α≤ys.length * GoTy.n α:=by
      have:=Nat.mul_le_mul_right (GoTy.n α) (show i + 1≤ys.length from hi)
      rwa [Nat.succ_mul] at this
    rw [List.drop_take,List.take_take,Nat.min_eq_left (by omega)]
  show GoTy.rep _ _ (yu α _ i) y
  rw [e]
  exact GoTy.mono (hel i y hx') (hm _)
end
end AT
namespace AT
open Go Go.RowKit
theorem glB {P:Program} {t:TypeId} (ht:P.underlying t=some (.int .u8)):Rd P t By (fun x=>0≤x.n∧x.n≤255):=by
 intro H enc w base spare held fuel cs x h
 obtain ⟨n,rfl,-,hw⟩:=DataW.trod_int ht h
 refine ⟨⟨n⟩,rfl,?_⟩
 simp [Lit.wf,IntKind.min,IntKind.max,IntKind.signed,IntKind.bits] at hw
 simp only
 omega
end AT
namespace AT
open Go Go.RowKit
def IA.cells {n:Nat} (x:IA n):List Value:=x.l.map (Value.int .i64)
theorem IA.cells_len {n:Nat} (x:IA n):x.cells.length=n:=by unfold IA.cells; rw [List.length_map]; exact x.h
@[reducible] def iaTy (n:Nat) (hn:0<n):GoTy (IA n) where
  n:=n
  agg:=true
  flat:=true
  rep _ _ cs x:=cs=x.cells
  own _ F cs x:=F=[]∧cs=x.cells
  pos:=hn
  len:=by rintro _ _ _ _ rfl; exact IA.cells_len _
  one:=by
    rintro _ _ _ x rfl c hc
    obtain ⟨i,-,rfl⟩:=List.mem_map.1 hc
    simp [Value.oneCell']
  mono:=fun h _=>h
  own_rep:=fun h=>h.2
  own_mono:=fun h _=>h
  own_lt:=by rintro _ _ _ _ ⟨rfl,_⟩ _ h; cases h
  own_flat:=fun _ h=>⟨rfl,h⟩
section
variable {P:Program} {Q:Exit→Act→World→Prop} {a:Act} {w:World} {n:Nat} {L:List (Nat×Value)} {dst:Option Tmp} {ty:TypeId} {pos:String} {af:Array Edge} {g:Option (Nat×Bool)} {K:Act→World→Prop} {d:Nat}
variable {w0:Base} {S:Nat→Prop} {M:List Blk} {R:List Row} {D:List DI} {I:List (Bool×MP)}
end
end AT
namespace AT
open Go Go.RowKit
theorem Mem.addRo {w w':World} {w0:Base} {S S':Nat→Prop} {M:List Blk} {R:List Row} {D:List DI} {I:List (Bool×MP)} (H:Mem w0 S M R D I w) (hb:Below w.heap.size w w') {p:MP} (hp:p.pred w' (St ⟨w,[]⟩ S' [] [] [] true)):∃ F,Mem w0 S M R (⟨F,p⟩::D) I w':=by
 have hF:∀ b,b∈List.range' w.heap.size (w'.heap.size - w.heap.size)↔w.heap.size≤b∧b<w'.heap.size:=fun b=>by
   rw [List.mem_range'_1]
   have:=hb.size
   omega
 refine ⟨List.range' w.heap.size (w'.heap.size - w.heap.size),H.addOwn hb (X:=[⟨_,p⟩]) ?_ (fun d hd=>?_) (fun b h=>?_)⟩
 simpa using List.nodup_range'
 rw [List.mem_singleton] at hd; subst hd
 refine p.mono hp fun b h hlt=>⟨(hF b).2 ?_,rfl⟩
 rcases h with ⟨h,_⟩ | ⟨h1 | h1,_⟩
 cases h
 exact ⟨h1,hlt⟩
 cases h1
 simp only [List.flatMap_cons,List.flatMap_nil,List.append_nil] at h
 exact (hF b).1 h
end AT
namespace AT
open Go Go.RowKit
end AT
namespace AT
open Go Go.RowKit
section
variable {P:Program} {Q:Exit→Act→World→Prop} {a:Act} {w:World} {n:Nat} {L:List (Nat×Value)} {dst:Option Tmp} {ty:TypeId} {pos:String} {af:Array Edge} {g:Option (Nat×Bool)} {K:Act→World→Prop} {d:Nat}
variable {T U:TypeId} {x y:Operand} {s t:ByteArray}
theorem gal (hf:Fr a n L) (hT:P.underlying T=some .string) {k:IntKind} {i:Int} {e:By} (hx:ev L x=some (.string s)) (hy:ev L y=some (.int k i)) (h:sidx s i=some e):(execOp a.eval ⟨dst,.index T x y,ty,pos,af,g⟩).run P w=.ok (.value (.int .u8 e.n)) w:=by
  unfold sidx at h
  split at h
  case isFalse=>cases h
  rename_i h0
  obtain ⟨b,hb,rfl⟩:=Option.map_eq_some_iff.1 h
  have h1:(Instr.index T (.string s) (.int k i)).run P w=.ok (.int .u8 b.toNat) w:=by
    simp [Instr.index,asIntOf,run_underlying hT,h0,hb]
  simp [execOp,hf.eval hx,hf.eval hy,h1]
end
end AT
namespace AT
open Go Go.RowKit
theorem elL {w:World} {T:Nat→Prop} {α:Type} [GoTy α]:∀ (l:List (List Value×α)),(∀ p∈l,GoTy.rep w T p.1 p.2)→∀ i x,(l.map Prod.snd)[i]?=some x→GoTy.rep w T (yu α ((l.map Prod.fst).flatten) i) x
  | [],_,i,x,h=>by simp at h
  | p::l,hp,i,x,h=>by
    have h0:=hp p (by simp)
    have hl:p.1.length=GoTy.n α:=GoTy.len h0
    cases i with
    | zero =>
      simp only [List.map_cons,List.getElem?_cons_zero,Option.some.injEq] at h
      subst h
      unfold yu
      rw [Nat.zero_mul,List.drop_zero,List.map_cons,List.flatten_cons,List.take_append_of_le_length (by omega),List.take_of_length_le (by omega)]
      exact h0
    | succ i =>
      simp only [List.map_cons,List.getElem?_cons_succ] at h
      have:=elL l (fun q hq=>hp q (by simp [hq])) i x h
      unfold yu at this ⊢
      rw [List.map_cons,List.flatten_cons,Nat.succ_mul,Nat.add_comm,←List.drop_drop,←hl,List.drop_left,hl]
      exact this
theorem al0 {w:World} {T:Nat→Prop} {α:Type} [GoTy α]:∀ p∈([]:List (List Value×α)),GoTy.rep w T p.1 p.2:=fun _ h=>by cases h
theorem al1 {w:World} {T:Nat→Prop} {α:Type} [GoTy α] {cs:List Value} {x:α} {l:List (List Value×α)} (h:GoTy.rep w T cs x) (t:∀ p∈l,GoTy.rep w T p.1 p.2):∀ p∈((cs,x)::l),GoTy.rep w T p.1 p.2:=by
 intro p hp
 rcases List.mem_cons.1 hp with rfl | hp
 exact h
 exact t p hp
end AT
namespace AT
open Go Go.RowKit
section
variable {P:Program} {Q:Exit→Act→World→Prop} {a:Act} {w:World} {n:Nat} {L:List (Nat×Value)} {dst:Option Tmp} {ty:TypeId} {pos:String} {af:Array Edge} {g:Option (Nat×Bool)} {K:Act→World→Prop} {d:Nat}
variable {w0:Base} {S:Nat→Prop} {M:List Blk} {R:List Row} {D:List DI} {I:List (Bool×MP)}
theorem zM (H:Mem w0 S M R D I w) {α:Type} [GoTy α] {T E E':TypeId} (hT:P.underlying T=some (.slice E)) (hE:SZ P E (GoTy.n α)) (j:Nat) {kd:Kd} {A:Option Addr} {cap:Nat} {xs:List α} {i:Int} {e:α}
    (hj:R[j]?=some ⟨kd,E',A,cap,xs⟩) (he:idx xs i=some e) :
    ∃ b o,RA A b o (i.toNat * GoTy.n α)∧∀ w' k,(Instr.indexAt T (.slice A xs.length cap) (.int k i)).run P w'=.ok (.pointer (some ⟨b,o,none⟩)) w':=by
 obtain ⟨h0,h1,h2⟩:=gcK he
 obtain ⟨b,q,rfl,cs,hr,hc⟩:=gde H hj he
 refine ⟨b,_,⟨q,rfl,rfl⟩,fun w' k=>?_⟩
 have hi:=run_indexAt (P:=P) (w:=w') (cap:=cap) hT hE h0 h1 (p:=⟨b,q,none⟩) (k:=k)
 rw [add_lit] at hi
 exact hi
theorem gaz (hf:Fr a n L) (H:Mem w0 S M R D I w) {α:Type} [GoTy α] {T:TypeId} (hT:LS P T) (j:Nat) {x:Operand} {b o off:Nat} {kd:Kd} {E:TypeId} {A:Option Addr} {cap:Nat} {xs:List α} {i:Int} {e:α} {v:Value}
    (hx:ev L x=some (.pointer (some ⟨b,o + off,none⟩))) (hj:R[j]?=some ⟨kd,E,A,cap,xs⟩) (hA:RA A b o (i.toNat * GoTy.n α)) (he:idx xs i=some e) (hv:∀ (w:World) (T:Nat→Prop) (cs:List Value),GoTy.rep w T cs e→cs[off]?=some v) :
    (execOp a.eval ⟨dst,.load T x,ty,pos,af,g⟩).run P w=.ok (.value v) w:=by
 obtain ⟨b',q',hA',cs,hr,hc⟩:=gde H hj he
 obtain ⟨q0,rfl,rfl⟩:=hA
 injection hA' with hA'
 injection hA' with hA' hA2
 subst hA'
 subst hA2
 have:=hc off v (hv _ _ _ hr)
 rw [add_lit] at this
 exact gdd hf hT hx this
theorem geh (hf:Fr a n L) (H:Mem w0 S M R D I w) {α:Type} [GoTy α] {T:TypeId} {m:Nat} (hT:LA P T m) (j:Nat) {x:Operand} {b o off:Nat} {kd:Kd} {E:TypeId} {A:Option Addr} {cap:Nat} {xs:List α} {i:Int} {e:α} {vs:List Value}
    (hx:ev L x=some (.pointer (some ⟨b,o + off,none⟩))) (hj:R[j]?=some ⟨kd,E,A,cap,xs⟩) (hA:RA A b o (i.toNat * GoTy.n α)) (he:idx xs i=some e) (hl:vs.length=m) (hv:∀ (w:World) (T:Nat→Prop) (cs:List Value),GoTy.rep w T cs e→(cs.drop off).take m=vs) :
    (execOp a.eval ⟨dst,.load T x,ty,pos,af,g⟩).run P w=.ok (.value (.agg vs.toArray)) w:=by
 obtain ⟨b',q',hA',cs,hr,hc⟩:=gde H hj he
 obtain ⟨q0,rfl,rfl⟩:=hA
 injection hA' with hA'
 injection hA' with hA' hA2
 subst hA'
 subst hA2
 refine gdc hf hT hx hl fun q c hq=>?_
 rw [←hv _ _ _ hr] at hq
 have hqm:q<m:=by
   have:=(List.getElem?_eq_some_iff.1 hq).1
   simp only [List.length_take,List.length_drop] at this; omega
 rw [List.getElem?_take_of_lt hqm,List.getElem?_drop] at hq
 have:=hc _ _ hq
 rw [add_lit] at this ⊢
 rw [Nat.add_assoc]
 exact this
end
end AT
namespace AT
open Go Go.RowKit
theorem iteB {R:Type} {b:Bool} {x y r:R} {G:Prop} (h:(if b=true then x else y)=r) (h1:b=true→x=r→G) (h2:b=false→y=r→G):G:=by
 cases b
 exact h2 rfl (by simpa using h)
 exact h1 rfl (by simpa using h)
section
variable {P:Program} {Q:Exit→Act→World→Prop} {a:Act} {w:World} {n:Nat} {L:List (Nat×Value)}
variable {w0:Base} {S:Nat→Prop} {M:List Blk} {R:List Row} {D:List DI} {I:List (Bool×MP)}
theorem midF {c:Code} (t:Nat) (v:Value) (hf:Fr a n L) (H:Mem w0 S M R D I w) (h:c.wp P (Exit.then (fun a w=>Fr a n ((t,v)::L)∧Mem w0 S M R D I w) Q) a w)
    (h2:∀ a w,Fr a n ((t,v)::L)→Mem w0 S M R D I w→Q .normal a w):c.wp P Q a w:=mid _ h fun a w q=>h2 a w q.1 q.2
theorem vU {σ:Type} {id:Nat} {c:Code} (Inv:σ→Act→World→Prop) (G:Nat→σ→Prop) (E:σ→Prop) (s0:σ) (k0:Nat) (hL:G k0 s0) (hI:Inv s0 a w) (h0:∀ s,¬G 0 s)
    (round:∀ k s a w,G (k + 1) s→Inv s a w→c.wp P (Exit.then (fun a' w'=>∃ s',G k s'∧Inv s' a' w') (Exit.inBlock id (Exit.then (fun a w=>∃ s,E s∧Inv s a w) Q))) a w)
    (after:∀ a w,(∃ s,E s∧Inv s a w)→Q .normal a w):(Code.block id (.loop c)).wp P Q a w :=
  mid _ (wp_block (gio G Inv h0 round k0 s0 a w hL hI)) after
end
section
variable {P:Program} {S0:World→Prop} {B:List Nat} {l:List Oper} {bs bs':List Bool} {a:Act} {w:World} {n fuel d i:Nat} {L:List (Nat×Value)} {Mid:Act→World→Prop} {o:Oper} {v:Value}
variable {w0:Base} {S:Nat→Prop} {M:List Blk} {R:List Row} {D:List DI} {I:List (Bool×MP)}
theorem strT (H:Mem w0 S M R D I w) (hs:∀ w,Mem w0 S M R D I w→S0 w) (h:Mem w0 S M R D I w→DL P l Mid (fun w=>Mem w0 S M R D I w) B fuel bs a w):DL P l Mid S0 B fuel bs a w:=str _ hs (h H)
theorem tP (i:Nat) (hi:l[i]?=some o) (hd:o.dst=some d) (hg:o.guard=none) (hdn:Nat.ble (d + 1) n=true) (hf:Fr a n L) (hc:takeB l bs i [] B=true) (hS:nb B bs.toArray=true→S0 w) (hy:∀ w,(execOp a.eval o).run P w=.ok (.value v) w)
    (h:∀ a',Fr a' n ((d,v)::L)→DL P l Mid S0 B fuel (bs.set i true) a' w):DL P l Mid S0 B (fuel + 1) bs a w:=tkP hi hd hg (nle hdn) hf hc hS hy rfl h
theorem tPg (i:Nat) {j e:Nat} {b:Bool} (hi:l[i]?=some o) (hd:o.dst=some d) (hg:o.guard=some (j,b)) (hj:(l[j]?).bind (·.dst)=some e) (hv:lk L e=some (.bool b)) (hdn:Nat.ble (d + 1) n=true) (hf:Fr a n L) (hc:takeB l bs i [] B=true) (hS:nb B bs.toArray=true→S0 w) (hy:∀ w,(execOp a.eval o).run P w=.ok (.value v) w)
    (h:∀ a',Fr a' n ((d,v)::L)→DL P l Mid S0 B fuel (bs.set i true) a' w):DL P l Mid S0 B (fuel + 1) bs a w:=tkPg hi hd hg hj hv (nle hdn) hf hc hS hy rfl h
theorem tS (i:Nat) (X:List Nat) (hi:l[i]?=some o) (hd:o.dst=some d) (hg:o.guard=none) (hdn:Nat.ble (d + 1) n=true) (hf:Fr a n L) (hc:takeB l bs i X B=true) (hBX:(B.all (X.contains ·))=true) (hS:S0 w) (hy:∀ w,S0 w→(execOp a.eval o).run P w=.ok (.value v) w)
    (h:∀ a',Fr a' n ((d,v)::L)→DL P l Mid S0 B fuel (bs.set i true) a' w):DL P l Mid S0 B (fuel + 1) bs a w:=tkS X hi hd hg (nle hdn) hf hc hBX hS hy rfl h
theorem tSg (i:Nat) (X:List Nat) {j e:Nat} {b:Bool} (hi:l[i]?=some o) (hd:o.dst=some d) (hg:o.guard=some (j,b)) (hj:(l[j]?).bind (·.dst)=some e) (hv:lk L e=some (.bool b)) (hdn:Nat.ble (d + 1) n=true) (hf:Fr a n L) (hc:takeB l bs i X B=true) (hBX:(B.all (X.contains ·))=true) (hS:S0 w) (hy:∀ w,S0 w→(execOp a.eval o).run P w=.ok (.value v) w)
    (h:∀ a',Fr a' n ((d,v)::L)→DL P l Mid S0 B fuel (bs.set i true) a' w):DL P l Mid S0 B (fuel + 1) bs a w:=tkSg X hi hd hg hj hv (nle hdn) hf hc hBX hS hy rfl h
theorem tUU (i:Nat) {j e:Nat} {b:Bool} (hi:l[i]?=some o) (hd:o.dst=some d) (hg:o.guard=some (j,b)) (hj:(l[j]?).bind (·.dst)=some e) (hv:lk L e=some undef) (hdn:Nat.ble (d + 1) n=true) (hf:Fr a n L) (hc:takeB l bs i [] B=true) (hS:nb B bs.toArray=true→S0 w)
    (h:∀ a',Fr a' n ((d,undef)::L)→DL P l Mid S0 B fuel (bs.set i true) a' w):DL P l Mid S0 B (fuel + 1) bs a w:=tkUU hi hd hg hj hv (nle hdn) hf hc hS rfl h
theorem tU (i:Nat) {j e:Nat} {b c:Bool} (hi:l[i]?=some o) (hd:o.dst=some d) (hg:o.guard=some (j,b)) (hj:(l[j]?).bind (·.dst)=some e) (hv:lk L e=some (.bool c)) (hne:(c==b)=false) (hdn:Nat.ble (d + 1) n=true) (hf:Fr a n L) (hc:takeB l bs i [] B=true) (hS:nb B bs.toArray=true→S0 w)
    (h:∀ a',Fr a' n ((d,undef)::L)→DL P l Mid S0 B fuel (bs.set i true) a' w):DL P l Mid S0 B (fuel + 1) bs a w:=tkU hi hd hg hj hv hne (nle hdn) hf hc hS rfl h
theorem n1 (i:Nat) (hr:Region.ready .any l.toArray bs.toArray=[i]) (hi:l[i]?=some o) (hg:o.guard=none)
    (h:o.wp P a w (fun a' w'=>(nb B (bs.set i true).toArray=true→S0 w')∧DL P l Mid S0 B fuel (bs.set i true) a' w') (only Mid)):DL P l Mid S0 B (fuel + 1) bs a w:=on1 hr hi hg rfl h
theorem n1g (i:Nat) {j e:Nat} {b:Bool} (hr:Region.ready .any l.toArray bs.toArray=[i]) (hi:l[i]?=some o) (hg:o.guard=some (j,b)) (hj:(l[j]?).bind (·.dst)=some e) (hv:lk L e=some (.bool b)) (hf:Fr a n L)
    (h:o.wp P a w (fun a' w'=>(nb B (bs.set i true).toArray=true→S0 w')∧DL P l Mid S0 B fuel (bs.set i true) a' w') (only Mid)):DL P l Mid S0 B (fuel + 1) bs a w:=on1g hr hi hg hj hv hf rfl h
end
end AT
namespace AT
open Go Go.RowKit
theorem gk5 {P:Program} {w:World} {a:Act} {n:Nat} {L:List (Nat×Value)} {fn:Func} {Rr:Ending→World→Prop} (hf:Fr a n L) (hres:fn.results=#[]) (hR:Rr (.returned (.tuple #[])) w):bodyPost P fn Rr .ret a w :=
  ⟨hf.defs,_,gbr (rs:=[]) hres .nil,by simpa using hR⟩
end AT
namespace AT
open Go Go.RowKit
end AT
namespace AT
open Go Go.RowKit
def MP.and (p q:MP):MP:=⟨fun w S=>p.pred w S∧q.pred w S,fun h hm=>⟨p.mono h.1 hm,q.mono h.2 hm⟩⟩
theorem Mem.lendQ {w:World} {w0:Base} {S:Nat→Prop} {M:List Blk} {R:List Row} {D:List DI} {I:List (Bool×MP)} (H:Mem w0 S M R D I w) (j:Nat) {F:List Nat} {p q:MP} (hj:D[j]?=some ⟨F,p⟩) (hq:∀ w S,p.pred w S→q.pred w S):Mem w0 S M R D ((true,q)::I) w :=
  H.push _ (hq _ _ (p.mono (H.diAt (List.mem_of_getElem? hj)) fun b hb _=>⟨MemZ.fd_st H (gg3 (List.mem_of_getElem? hj)) hb _,rfl⟩))
end AT
namespace AT
open Go Go.RowKit
section
variable {P:Program} {a:Act} {w:World} {n:Nat} {L:List (Nat×Value)} {dst:Option Tmp} {ty:TypeId} {pos:String} {af:Array Edge} {g:Option (Nat×Bool)}
def gfD (fs:List Field) (xs ys:List Int):Bool:=fs.all fun f=>(xs[f.offset]?).getD 0==(ys[f.offset]?).getD 0
structure QS (P:Program) (T:TypeId) (fs:List Field) (m:Nat):Prop where
  u:P.underlying T=some (.struct fs.toArray)
  s:P.stoodInHeld T=false
  f : ∀ f ∈ fs, (f.name == "_") = false ∧ f.offset < m ∧ PT P f.type ∧ ∃ k, P.underlying f.type = some (.int k)
theorem ggW {E:TypeId} {xs:List Int} {j:Nat} (hE:PT P E) (hj:j<xs.length) (w:World):(part E (xs.map (Value.int .i64)).toArray j).run P w=.ok (.int .i64 ((xs[j]?).getD 0)) w:=by
 have hE1:∀ w,(isAgg E).run P w=.ok false w:=fun w=>(hE w).1
 have e:xs[j]?=some xs[j]:=List.getElem?_eq_getElem hj
 simp [part,hE1,e,hj]
theorem gjx {E:TypeId} {k:IntKind} {d:Nat} {i j:Int} (hE:P.underlying E=some (.int k)) (w:World):(Op.equalIn (d + 1) E (.int .i64 i) (.int .i64 j)).run P w=.ok (i==j) w:=by
 simp [Op.equalIn,run_underlying hE]
theorem eqS {T:TypeId} {fs:List Field} {m:Nat} (hq:QS P T fs m) (xs ys:List Int) (hx:xs.length=m) (hy:ys.length=m) (w:World):(Op.equal T (.agg (xs.map (Value.int .i64)).toArray) (.agg (ys.map (Value.int .i64)).toArray)).run P w=.ok (gfD fs xs ys) w:=by
 obtain ⟨hu,hs,hf⟩:=hq
 unfold Op.equal Op.maxDepth
 rw [show (10000:Nat)=9999 + 1 from rfl,Op.equalIn]
 simp [run_underlying hu,hs]
 clear hu hs
 induction fs with
 | nil=>simp [gfD]
 | cons f fs ih =>
   obtain ⟨h1,h2,h3,k,h4⟩:=hf f (by simp)
   have h1' : ¬ f.name = "_" := by simpa using h1
   have ih':=ih fun g hg=>hf g (List.mem_cons_of_mem _ hg)
   have hpx:=ggW (xs:=xs) (j:=f.offset) h3 (by omega) w
   have hpy:=ggW (xs:=ys) (j:=f.offset) h3 (by omega) w
   have heq:(Op.equalIn 9999 f.type (.int .i64 ((xs[f.offset]?).getD 0)) (.int .i64 ((ys[f.offset]?).getD 0))).run P w=.ok ((xs[f.offset]?).getD 0==(ys[f.offset]?).getD 0) w:=gjx (d:=9998) h4 w
   have hs:gfD (f::fs) xs ys=((xs[f.offset]?).getD 0==(ys[f.offset]?).getD 0&&gfD fs xs ys):=rfl
   rw [hs]
   clear hs ih
   rw [List.forIn_cons]
   simp only [h1',if_false,Sem.run_bind,hpx,hpy,Result.andThen_ok,heq]
   cases hc:((xs[f.offset]?).getD 0==(ys[f.offset]?).getD 0)
   · simp
   · simpa using ih'
theorem gk2 (hf:Fr a n L) {T U:TypeId} {fs:List Field} {m:Nat} (hq:QS P T fs m) (hg:P.eqGuardType P.depth T=false) {x y:Operand} {cs ds:List Value} {xs ys:List Int} (hx:ev L x=some (.agg cs.toArray)) (hy:ev L y=some (.agg ds.toArray))
    (hc:cs=xs.map (Value.int .i64)) (hd:ds=ys.map (Value.int .i64)) (h1:xs.length=m) (h2:ys.length=m) :
    (execOp a.eval ⟨dst,.binOp .eql T x y U,ty,pos,af,g⟩).run P w=.ok (.value (.bool (gfD fs xs ys))) w:=by
 subst hc hd
 have:=eqS hq xs ys h1 h2 w
 simp [execOp,hf.eval hx,hf.eval hy,eqGuard,binOp,this,hg]
theorem gkU (hf:Fr a n L) {T U:TypeId} {fs:List Field} {m:Nat} (hq:QS P T fs m) (hg:P.eqGuardType P.depth T=false) {x y:Operand} {cs ds:List Value} {xs ys:List Int} (hx:ev L x=some (.agg cs.toArray)) (hy:ev L y=some (.agg ds.toArray))
    (hc:cs=xs.map (Value.int .i64)) (hd:ds=ys.map (Value.int .i64)) (h1:xs.length=m) (h2:ys.length=m) :
    (execOp a.eval ⟨dst,.binOp .neq T x y U,ty,pos,af,g⟩).run P w=.ok (.value (.bool (!gfD fs xs ys))) w:=by
 subst hc hd
 have:=eqS hq xs ys h1 h2 w
 simp [execOp,hf.eval hx,hf.eval hy,eqGuard,binOp,this,hg]
def flds (P:Program) (T:TypeId):List Field:=match P.underlying T with
  | some (.struct fs)=>fs.toList
  | _=>[]
structure EQT (P:Program) (T:TypeId) (m:Nat) (E:TypeId):Prop where
  u:P.underlying T=some (.struct (flds P T).toArray)
  s:P.stoodInHeld T=false
  g:P.eqGuardType P.depth T=false
  o:(flds P T).map (·.offset)=List.range m
  f : ((flds P T).all fun f => !(f.name == "_") && f.type == E) = true
  p:PT P E
  i:∃ k,P.underlying E=some (.int k)
theorem EQT.qs {T:TypeId} {m:Nat} {E:TypeId} (h:EQT P T m E):QS P T (flds P T) m:=by
 refine ⟨h.u,h.s,fun f hf=>?_⟩
 have h1:=List.all_eq_true.1 h.f f hf
 simp only [Bool.and_eq_true,Bool.not_eq_true',beq_iff_eq] at h1
 have h2:f.offset∈List.range m:=by rw [←h.o]; exact List.mem_map_of_mem hf
 exact ⟨h1.1,List.mem_range.1 h2,h1.2▸h.p,h1.2▸h.i⟩
theorem ggP {fs:List Field} {m:Nat} (ho:fs.map (·.offset)=List.range m) (xs ys:List Int) (h1:xs.length=m) (h2:ys.length=m):gfD fs xs ys=(xs==ys):=by
 have e:gfD fs xs ys=(List.range m).all fun j=>(xs[j]?).getD 0==(ys[j]?).getD 0:=by
   rw [←ho,List.all_map]; rfl
 rw [e,Bool.eq_iff_iff,beq_iff_eq,List.all_eq_true]
 constructor
 intro h
 apply List.ext_getElem (by omega)
 intro j a b
 have:=h j (List.mem_range.2 (by omega))
 rw [List.getElem?_eq_getElem a,List.getElem?_eq_getElem b,beq_iff_eq] at this
 exact this
 rintro rfl j _
 simp
theorem gh0 (hf:Fr a n L) {T U:TypeId} {m:Nat} {E:TypeId} (hq:EQT P T m E) (xs ys:List Int) {x y:Operand} {cs ds:List Value} (hx:ev L x=some (.agg cs.toArray)) (hy:ev L y=some (.agg ds.toArray))
    (hc:cs=xs.map (Value.int .i64)) (hd:ds=ys.map (Value.int .i64)) (h1:xs.length=m) (h2:ys.length=m) :
    (execOp a.eval ⟨dst,.binOp .eql T x y U,ty,pos,af,g⟩).run P w=.ok (.value (.bool (xs==ys))) w:=by
 rw [←ggP hq.o xs ys h1 h2]; exact gk2 hf hq.qs hq.g hx hy hc hd h1 h2
theorem ggQ (hf:Fr a n L) {T U:TypeId} {m:Nat} {E:TypeId} (hq:EQT P T m E) (xs ys:List Int) {x y:Operand} {cs ds:List Value} (hx:ev L x=some (.agg cs.toArray)) (hy:ev L y=some (.agg ds.toArray))
    (hc:cs=xs.map (Value.int .i64)) (hd:ds=ys.map (Value.int .i64)) (h1:xs.length=m) (h2:ys.length=m) :
    (execOp a.eval ⟨dst,.binOp .neq T x y U,ty,pos,af,g⟩).run P w=.ok (.value (.bool (!(xs==ys)))) w:=by
 rw [←ggP hq.o xs ys h1 h2]; exact gkU hf hq.qs hq.g hx hy hc hd h1 h2
end
end AT
namespace AT
open Go Go.RowKit
def giZ (P:Program) (f:FuncId) (s:Nat):Prop:=∀ (w:World) (A:Option Addr) (n cap:Nat) (E:TypeId) (cells:List Value) (i j:Nat),w.ownsRow 0 E s (.slice A n cap) n cells→(∀ u∈cells,u.oneCell'=true)→i≤j→j≤n →
  Calls P f #[.slice A n cap,.int .i64 i,.int .i64 j] w fun e w'=>∃ v,e=.returned v∧v=.slice A (n - (j - i)) cap∧w.grownBy w' (Value.slice A n cap).ownBlock∧w'.ownsRow 0 E s (.slice A (n - (j - i)) cap) (n - (j - i)) (cells.take (i * s)++cells.drop (j * s))
def giY (P:Program) (f:FuncId) (s:Nat):Prop:=∀ (w:World) (A A2:Option Addr) (n cap m cap2:Nat) (E E2:TypeId) (cells vs:List Value) (i:Nat),w.ownsRow 0 E s (.slice A n cap) n cells→w.ownsRow 0 E2 s (.slice A2 m cap2) m vs→(∀ u∈cells,u.oneCell'=true)→(∀ u∈vs,u.oneCell'=true) →
  (∀ b,(Value.slice A n cap).ownBlock=some b→(Value.slice A2 m cap2).ownBlock≠some b)→i≤n→n + m≤1099511627776 →
  Calls P f #[.slice A n cap,.int .i64 i,.slice A2 m cap2] w fun e w'=>∃ v,e=.returned v∧∃ E1 A1 cap1,v=.slice A1 (n + m) cap1∧w.grownBy w' (Value.slice A n cap).ownBlock ∧
    ((Value.slice A1 (n + m) cap1).ownBlock=(Value.slice A n cap).ownBlock∨((Value.slice A1 (n + m) cap1).ownBlock=some w.heap.size∧w.heap.size<w'.heap.size))∧w'.ownsRow 0 E1 s (.slice A1 (n + m) cap1) (n + m) (cells.take (i * s)++(vs++cells.drop (i * s)))
section
variable {P:Program} {Q:Exit→Act→World→Prop} {a:Act} {w:World} {w0:Base} {n:Nat} {L:List (Nat×Value)} {K:Act→World→Prop} {S:Nat→Prop} {M:List Blk} {D:List DI} {I:List (Bool×MP)} {d:Tmp} {ty:TypeId} {pos:String} {af:Array Edge} {g:Option (Nat×Bool)}
theorem gfO {α:Type} [GoTy α] (cells:List Value) (j q:Nat):yu α (cells.drop (j * GoTy.n α)) q=yu α cells (q + j):=by
 unfold yu
 rw [List.drop_drop,Nat.add_mul,Nat.add_comm]
theorem gfN {α:Type} [GoTy α] (cells:List Value) {i q:Nat} (h:q<i):yu α (cells.take (i * GoTy.n α)) q=yu α cells q:=by
 unfold yu
 have h1:(q + 1) * GoTy.n α≤i * GoTy.n α:=Nat.mul_le_mul_right _ h
 rw [Nat.add_mul,Nat.one_mul] at h1
 rw [List.drop_take,List.take_take]
 congr 1
 omega
theorem take_len {α:Type} [GoTy α] {cells:List Value} {m i:Nat} (hl:cells.length=m * GoTy.n α) (h:i≤m):(cells.take (i * GoTy.n α)).length=i * GoTy.n α:=by
 have:=Nat.mul_le_mul_right (GoTy.n α) h
 rw [List.length_take]
 omega
theorem row_one {α:Type} [GoTy α] {E:TypeId} {A:Option Addr} {cap:Nat} {xs:List α} {cells:List Value} (h:lrep w (fun _=>True) [.slice A xs.length cap] xs) (ho:w.ownsRow 0 E (GoTy.n α) (.slice A xs.length cap) xs.length cells):∀ u∈cells,u.oneCell'=true:=by
 obtain ⟨A',c',hcs,hyc,hcm,hel⟩:=h
 simp only [List.cons.injEq,Value.slice.injEq,and_true] at hcs
 obtain ⟨rfl,-,rfl⟩:=hcs
 rcases ho.2 with ⟨hv,h0⟩ | ⟨gb,cap',cur,hv,hrest⟩
 have:cells=[]:=List.eq_nil_of_length_eq_zero (by rw [ho.1,h0,Nat.zero_mul])
 subst this
 intro u hu; cases hu
 simp only [Value.slice.injEq] at hv
 obtain ⟨rfl,-,rfl⟩:=hv
 obtain ⟨news,g1,g2,g3,_⟩:=gather (w:=w) (T:=fun _=>True) (p:=⟨gb,0,none⟩) xs 0 (fun k x hx=>by
   obtain ⟨p',hp',_,h⟩:=hel k x hx
   injection hp' with hp'; subst hp'
   rwa [Nat.zero_add])
 simp only [Nat.zero_mul,Nat.zero_add] at g2
 intro u hu
 obtain ⟨j,hj,rfl⟩:=List.mem_iff_getElem.1 hu
 have hc:=ho.cells (g:=gb) rfl j _ (List.getElem?_eq_getElem hj)
 have hjn:j<news.length:=by rw [g1,←ho.1]; exact hj
 have hn:=g2 j _ (List.getElem?_eq_getElem hjn)
 rw [hc] at hn
 injection hn with hn
 rw [hn]
 exact g3 _ (List.getElem_mem hjn)
theorem gko {R:List Row} (hf:Fr a n L) {α:Type} [GoTy α] {f:FuncId} {E0:TypeId} {Fs:List (List Nat)} {A:Option Addr} {cap:Nat} {xs zs:List α} {i j:Int}
    (H:Mem w0 S M (⟨.ow Fs,E0,A,cap,xs⟩::R) D I w) (hk:CL P f) (hs:giZ P f (GoTy.n α)) {x y z:Operand} (hxs:evs L [x,y,z]=some [.slice A xs.length cap,.int .i64 i,.int .i64 j]) {ats:Array TypeId} (hd:dell xs i j=some zs) (hdn:d<n)
    (k:∀ Fs' a' w',Fr a' n ((d,.slice A zs.length cap)::L)→Mem w0 S M (⟨.ow Fs',E0,A,cap,zs⟩::R) D I w'→K a' w'):Oper.wp P ⟨some d,.call ⟨.value (.func f),[x,y,z].toArray,ats⟩,ty,pos,af,g⟩ a w K Q:=by
  obtain ⟨cells,ho,hfit,he⟩:=H.rowAt (r:=⟨.ow Fs,E0,A,cap,xs⟩) (by simp)
  unfold dell at hd
  split at hd
  case isFalse=>cases hd
  rename_i hij
  injection hd with hd
  obtain ⟨i,rfl⟩:=Int.eq_ofNat_of_zero_le hij.1
  obtain ⟨j,rfl⟩:=Int.eq_ofNat_of_zero_le (show 0≤j by omega)
  simp only [Int.ofNat_eq_natCast,Int.toNat_natCast] at hd hij hxs
  have hzl:zs.length=xs.length - (j - i):=by rw [←hd]; simp; omega
  have hcl:cells.length=xs.length * GoTy.n α:=ho.1
  have hfl:Fs.length=xs.length:=hfit
  refine gei hf hk hxs hdn (hs w A xs.length cap E0 cells i j ho (row_one (H.rowTrue 0 rfl) ho) (by omega) (by omega)) fun v w' a' hp hf'=>?_
  obtain ⟨rfl,h2,h3⟩:=hp
  rw [←hzl] at h3 hf'
  refine k (Fs.take i++Fs.drop j) a' w' hf' ?_
  have H1:=MemZ.perm H (xI _)
  have hnd:=MemZ.nd H1
  rw [u7,u6] at hnd
  have hnd':=(List.nodup_append.1 hnd).1
  have e0:(Row.res ⟨.ow Fs,E0,A,cap,xs⟩).all=(Value.slice A xs.length cap).ownBlock.toList++List.flatten Fs:=rfl
  have eb:(Value.slice A zs.length cap).ownBlock=(Value.slice A xs.length cap).ownBlock:=by cases A <;> rfl
  have e2:(Row.res ⟨.ow (Fs.take i++Fs.drop j),E0,A,cap,zs⟩).all=(Value.slice A xs.length cap).ownBlock.toList++List.flatten (Fs.take i++Fs.drop j):=by rw [←eb]; rfl
  have hsl:(Fs.take i++Fs.drop j).Sublist Fs:=by
    have h1:(Fs.drop j).Sublist (Fs.drop i):=List.drop_sublist_drop_left _ (by omega)
    have:=(List.Sublist.refl (Fs.take i)).append h1
    rwa [List.take_append_drop] at this
  have hfs:(List.flatten (Fs.take i++Fs.drop j)).Sublist (List.flatten Fs):=gd5 hsl
  refine MemZ.perm (MemZ.step (rs':=[Row.res ⟨.ow (Fs.take i++Fs.drop j),E0,A,cap,zs⟩]) H1 ⟨h2.os,h2.tape,h2.output,h2.size,fun b hb hx=>h2.block b hb fun e=>hx ?_⟩ (fun b hb=>.inl ?_) (fun b hb=>.inl ?_) ?_ (fun hm q hq=>?_)) (xI _).symm
  · rw [yR]; show b∈(Value.slice A xs.length cap).ownBlock.toList; rw [←e]; simp
  · rw [u6,e2] at hb
    rw [u6,e0]
    exact ((List.Sublist.refl _).append hfs).mem hb
  · rw [yR] at hb ⊢
    have e:(Row.res ⟨.ow (Fs.take i++Fs.drop j),E0,A,cap,zs⟩).fm=(Row.res ⟨.ow Fs,E0,A,cap,xs⟩).fm:=by
      show (Value.slice A zs.length cap).ownBlock.toList=(Value.slice A xs.length cap).ownBlock.toList
      rw [eb]
    rw [e] at hb; exact hb
  · rw [u6,e2]
    rw [e0] at hnd'
    exact ((List.Sublist.refl _).append hfs).nodup hnd'
  · rw [List.mem_singleton] at hq; subst hq
    have hlt:∀ b∈List.flatten Fs,b<w.heap.size:=fun b hb=>(MemZ.lt H1 b (by rw [u7,u6,e0]; exact List.mem_append.2 (.inl (List.mem_append.2 (.inr hb))))).2
    have hsame:∀ b,b∈List.flatten Fs→w'.heap[b]?=w.heap[b]?:=fun b hb=>by
      refine h2.block b (hlt b hb) fun e=>?_
      have hm:b∈(Value.slice A xs.length cap).ownBlock.toList:=by rw [←e]; simp
      rw [e0] at hnd'
      exact (List.nodup_append.1 hnd').2.2 b hm b hb rfl
    refine ⟨_,h3,by simp only [Kd.fits,List.length_append,List.length_take,List.length_drop]; omega,fun q e hi Fi hFi=>?_⟩
    simp only at hi
    rw [←hd] at hi
    have htl:(xs.take i).length=i:=by rw [List.length_take]; omega
    have htf:(Fs.take i).length=i:=by rw [List.length_take]; omega
    rw [List.getElem?_append] at hi hFi
    rw [htl] at hi
    rw [htf] at hFi
    split at hi
    · rename_i hq
      rw [if_pos hq,List.getElem?_take_of_lt hq] at hFi
      rw [List.getElem?_take_of_lt hq] at hi
      rw [gcj (take_len hcl (show i≤xs.length by omega)) hq,gfN _ hq]
      exact GoTy.own_mono (he q e hi Fi hFi) fun b hb=>hsame b (gbJ hFi hb)
    · rename_i hq
      rw [if_neg hq,List.getElem?_drop] at hFi
      rw [List.getElem?_drop] at hi
      rw [gci (take_len hcl (show i≤xs.length by omega)) (by omega),gfO,Nat.add_comm]
      exact GoTy.own_mono (he _ e hi Fi hFi) fun b hb=>hsame b (gbJ hFi hb)
theorem gkn {R:List Row} (hf:Fr a n L) {α:Type} [GoTy α] {f:FuncId} {E0 E':TypeId} {Fs Gs:List (List Nat)} {A A':Option Addr} {cap cap':Nat} {xs ys zs:List α} {i:Int}
    (H:Mem w0 S M (⟨.ow Fs,E0,A,cap,xs⟩::⟨.ow Gs,E',A',cap',ys⟩::R) D I w) (hk:CL P f) (hs:giY P f (GoTy.n α)) {x y z:Operand} (hxs:evs L [x,y,z]=some [.slice A xs.length cap,.int .i64 i,.slice A' ys.length cap']) {ats:Array TypeId} (hd:insl xs i ys=some zs) (hdn:d<n)
    (k:∀ Fs' E1 A2 cap2 a' w',Fr a' n ((d,.slice A2 zs.length cap2)::L)→Mem w0 S M (⟨.ow Fs',E1,A2,cap2,zs⟩::R) D I w'→K a' w'):Oper.wp P ⟨some d,.call ⟨.value (.func f),[x,y,z].toArray,ats⟩,ty,pos,af,g⟩ a w K Q:=by
  obtain ⟨cells,ho,hfit,he⟩:=H.rowAt (r:=⟨.ow Fs,E0,A,cap,xs⟩) (by simp)
  obtain ⟨cells',ho',hfit',he'⟩:=H.rowAt (r:=⟨.ow Gs,E',A',cap',ys⟩) (by simp)
  unfold insl at hd
  split at hd
  case isFalse=>cases hd
  rename_i hij
  injection hd with hd
  obtain ⟨i,rfl⟩:=Int.eq_ofNat_of_zero_le hij.1
  simp only [Int.ofNat_eq_natCast,Int.toNat_natCast] at hd hij hxs
  have hzl:zs.length=xs.length + ys.length:=by rw [←hd]; simp; omega
  have hcl:cells.length=xs.length * GoTy.n α:=ho.1
  have hcl':cells'.length=ys.length * GoTy.n α:=ho'.1
  have hfl:Fs.length=xs.length:=hfit
  have hfl':Gs.length=ys.length:=hfit'
  have hp:(AT.zs M (⟨.ow Fs,E0,A,cap,xs⟩::⟨.ow Gs,E',A',cap',ys⟩::R) D).Perm ([Row.res ⟨.ow Fs,E0,A,cap,xs⟩,Row.res ⟨.ow Gs,E',A',cap',ys⟩]++AT.zs M R D):=(xI _).trans ((xI _).append_left [_])
  have H1:=MemZ.perm H hp
  have hnd:=MemZ.nd H1
  rw [u7,gaq] at hnd
  have hnd':=(List.nodup_append.1 hnd).1
  have hlt:∀ b∈allZ [Row.res ⟨.ow Fs,E0,A,cap,xs⟩,Row.res ⟨.ow Gs,E',A',cap',ys⟩],b<w.heap.size:=fun b hb=>(MemZ.lt H1 b (by rw [u7]; exact List.mem_append.2 (.inl hb))).2
  have e0:(Row.res ⟨.ow Fs,E0,A,cap,xs⟩).all=(Value.slice A xs.length cap).ownBlock.toList++List.flatten Fs:=rfl
  have e1:(Row.res ⟨.ow Gs,E',A',cap',ys⟩).all=(Value.slice A' ys.length cap').ownBlock.toList++List.flatten Gs:=rfl
  rw [e0,e1] at hnd'
  refine gei hf hk hxs hdn (hs w A A' xs.length cap ys.length cap' E0 E' cells cells' i ho ho' (row_one (H.rowTrue 0 rfl) ho) (row_one (H.rowTrue 1 rfl) ho') (fun b hb hb'=>?_) (by omega) (by omega)) fun v w' a' hp hf'=>?_
  · have h1:b∈(Value.slice A xs.length cap).ownBlock.toList:=by rw [hb]; simp
    have h2:b∈(Value.slice A' ys.length cap').ownBlock.toList:=by rw [hb']; simp
    exact (List.nodup_append.1 hnd').2.2 b (List.mem_append.2 (.inl h1)) b (List.mem_append.2 (.inl h2)) rfl
  obtain ⟨E1,A2,cap2,rfl,h2,h4,h3⟩:=hp
  rw [←hzl] at h3 hf' h4
  refine k (Fs.take i++(Gs++Fs.drop i)) E1 A2 cap2 a' w' hf' ?_
  have hperm:(List.flatten (Fs.take i++(Gs++Fs.drop i))).Perm (List.flatten Fs++List.flatten Gs):=by
    have h:List.flatten Fs=List.flatten (Fs.take i)++List.flatten (Fs.drop i):=by rw [←List.flatten_append,List.take_append_drop]
    rw [List.flatten_append,List.flatten_append,h,List.append_assoc]
    exact List.perm_append_comm.append_left _
  have e2:(Row.res ⟨.ow (Fs.take i++(Gs++Fs.drop i)),E1,A2,cap2,zs⟩).all=(Value.slice A2 zs.length cap2).ownBlock.toList++List.flatten (Fs.take i++(Gs++Fs.drop i)):=rfl
  have hxg:∀ b,b∈(Value.slice A2 zs.length cap2).ownBlock.toList→b∈(Value.slice A xs.length cap).ownBlock.toList∨(w.heap.size≤b∧b<w'.heap.size):=fun b hb=>by
    rcases h4 with h | ⟨h,h'⟩
    · rw [h] at hb; exact .inl hb
    · rw [h] at hb; simp at hb; subst hb; exact .inr ⟨Nat.le_refl _,h'⟩
  have hflat:(List.flatten Fs++List.flatten Gs).Nodup:=by
    refine List.Sublist.nodup ?_ hnd'
    exact (List.sublist_append_right _ _).append (List.sublist_append_right _ _)
  refine MemZ.perm (MemZ.step (rs':=[Row.res ⟨.ow (Fs.take i++(Gs++Fs.drop i)),E1,A2,cap2,zs⟩]) H1 ⟨h2.os,h2.tape,h2.output,h2.size,fun b hb hx=>h2.block b hb fun e=>hx ?_⟩ (fun b hb=>?_) (fun b hb=>?_) ?_ (fun hm q hq=>?_)) (xI _).symm
  · rw [gdI]; exact List.mem_append.2 (.inl (by show b∈(Value.slice A xs.length cap).ownBlock.toList; rw [←e]; simp))
  · rw [u6,e2] at hb
    rw [gaq,e0,e1]
    rcases List.mem_append.1 hb with h | h
    · exact (hxg b h).imp (fun h=>List.mem_append.2 (.inl (List.mem_append.2 (.inl h)))) id
    · rcases List.mem_append.1 (hperm.mem_iff.1 h) with h | h
      · exact .inl (List.mem_append.2 (.inl (List.mem_append.2 (.inr h))))
      · exact .inl (List.mem_append.2 (.inr (List.mem_append.2 (.inr h))))
  · rw [yR] at hb; rw [gdI]
    exact (hxg b hb).imp (fun h=>List.mem_append.2 (.inl h)) (·.1)
  · rw [u6,e2]
    refine ((List.Perm.refl _).append hperm).nodup_iff.2 ?_
    rcases h4 with h | ⟨h,h'⟩
    · rw [h]
      refine List.Sublist.nodup ?_ hnd'
      rw [←List.append_assoc]
      exact (List.Sublist.refl _).append (List.sublist_append_right _ _)
    · rw [h]
      simp only [Option.toList_some,List.singleton_append,List.nodup_cons]
      refine ⟨fun hb=>?_,hflat⟩
      have:=hlt w.heap.size (by
        rw [gaq,e0,e1]
        simp only [List.mem_append] at hb ⊢
        exact hb.imp .inr .inr)
      omega
  · rw [List.mem_singleton] at hq; subst hq
    have hsame:∀ b,b∈List.flatten Fs++List.flatten Gs→w'.heap[b]?=w.heap[b]?:=fun b hb=>by
      refine h2.block b (hlt b ?_) fun e=>?_
      · rw [gaq,e0,e1]
        simp only [List.mem_append] at hb ⊢
        exact hb.imp .inr .inr
      · have hm:b∈(Value.slice A xs.length cap).ownBlock.toList:=by rw [←e]; simp
        rw [List.append_assoc] at hnd'
        refine (List.nodup_append.1 hnd').2.2 b hm b ?_ rfl
        simp only [List.mem_append] at hb ⊢
        exact hb.imp id .inr
    refine ⟨_,h3,by simp only [Kd.fits,List.length_append,List.length_take,List.length_drop]; omega,fun q e hi Fi hFi=>?_⟩
    simp only at hi
    rw [←hd] at hi
    have htl:(xs.take i).length=i:=by rw [List.length_take]; omega
    have htf:(Fs.take i).length=i:=by rw [List.length_take]; omega
    have htc:=take_len hcl (show i≤xs.length by omega)
    rw [List.getElem?_append] at hi hFi
    rw [htl] at hi
    rw [htf] at hFi
    split at hi
    · rename_i hq
      rw [if_pos hq,List.getElem?_take_of_lt hq] at hFi
      rw [List.getElem?_take_of_lt hq] at hi
      rw [gcj htc hq,gfN _ hq]
      exact GoTy.own_mono (he q e hi Fi hFi) fun b hb=>hsame b (List.mem_append.2 (.inl (gbJ hFi hb)))
    · rename_i hq
      rw [if_neg hq] at hFi
      rw [gci htc (by omega)]
      rw [List.getElem?_append] at hi hFi
      rw [hfl'] at hFi
      split at hi
      · rename_i hq2
        rw [if_pos hq2] at hFi
        rw [gcj hcl' hq2]
        exact GoTy.own_mono (he' _ e hi Fi hFi) fun b hb=>hsame b (List.mem_append.2 (.inr (gbJ hFi hb)))
      · rename_i hq2
        rw [if_neg hq2,List.getElem?_drop] at hFi
        rw [List.getElem?_drop] at hi
        rw [gci hcl' (by omega),gfO,Nat.add_comm]
        exact GoTy.own_mono (he _ e hi Fi hFi) fun b hb=>hsame b (List.mem_append.2 (.inl (gbJ hFi hb)))
end
end AT
namespace AT
open Go Go.RowKit
section
variable {P:Program} {Q:Exit→Act→World→Prop} {a:Act} {w:World} {n:Nat} {L:List (Nat×Value)} {K:Act→World→Prop} {d:Nat} {dst:Option Tmp} {ty:TypeId} {pos:String} {af:Array Edge} {g:Option (Nat×Bool)}
theorem gcr {i j:Nat} (h:i + j≤1099511627776):w64 ((i:Int) + (j:Int))=((i + j:Nat):Int):=by rw [vV (by omega) (by omega)]; omega
theorem gi2 {i j:Nat} (h0:i≤j) (h:j≤1099511627776):w64 ((j:Int) - (i:Int))=((j - i:Nat):Int):=by rw [vV (by omega) (by omega)]; omega
theorem b_lo {len cap i:Nat} (h:i≤len):(Instr.sliceBounds true len cap (some (.int .i64 (i:Int))) none none).run P w=.ok (i,len,cap) w:=by
 simp [Instr.sliceBounds,Instr.sliceBound,asIntOf,h]
theorem b_hi {len cap j:Nat} (h:j≤cap):(Instr.sliceBounds true len cap none (some (.int .i64 (j:Int))) none).run P w=.ok (0,j,cap) w:=by
 simp [Instr.sliceBounds,Instr.sliceBound,asIntOf,h]
theorem b_lh {len cap i j:Nat} (h0:i≤j) (h:j≤cap):(Instr.sliceBounds true len cap (some (.int .i64 (i:Int))) (some (.int .i64 (j:Int))) none).run P w=.ok (i,j,cap) w:=by
 simp [Instr.sliceBounds,Instr.sliceBound,asIntOf,h,h0]
theorem gmy {len cap i j m:Nat} (h0:i≤j) (h:j≤m) (h2:m≤cap):(Instr.sliceBounds true len cap (some (.int .i64 (i:Int))) (some (.int .i64 (j:Int))) (some (.int .i64 (m:Int)))).run P w=.ok (i,j,m) w:=by
 simp [Instr.sliceBounds,Instr.sliceBound,asIntOf,h,h0,h2]
def cutA (A:Option Addr) (s i m:Nat):Option Addr:=if m=i then A else A.map (·.add (i * s))
theorem zR {T E:TypeId} {s:Nat} (hT:P.underlying T=some (.slice E)) (hE:SZ P E s) {A:Option Addr} {len cap:Nat} {lov hiv mxv:Option Value} {i j m:Nat} (hb:∀ w,(Instr.sliceBounds true len cap lov hiv mxv).run P w=.ok (i,j,m) w) :
    ∀ w,(Instr.sliceAt T (.slice A len cap) lov hiv mxv).run P w=.ok (.slice (cutA A s i m) (j - i) (m - i)) w:=by
 intro w
 have hE':∀ w,(Go.sizeOf E).run P w=.ok s w:=hE
 simp [Instr.sliceAt,Instr.slice,run_underlying hT,hb,hE',cutA]
theorem ga1 (hf:Fr a n L) {T:TypeId} {x:Operand} {u r:Value} (hx:ev L x=some u) {lo hi mx:Option Operand} {lov hiv mxv:Option Value} (hlo:evo L lo=some lov) (hhi:evo L hi=some hiv) (hmx:evo L mx=some mxv) (h:∀ w',(Instr.sliceAt T u lov hiv mxv).run P w'=.ok r w') :
    ∀ w,(execOp a.eval ⟨dst,.slice T x lo hi mx,ty,pos,af,g⟩).run P w=.ok (.value r) w:=by
 intro w
 simp [execOp,hf.eval hx,gc3 hf hlo,gc3 hf hhi,gc3 hf hmx,h]
theorem gb4 {g o s i m:Nat} (h:m≠i):cutA (some ⟨g,o,none⟩) s i m=some ⟨g,o + i * s,none⟩:=by
 unfold cutA
 rw [if_neg h,Option.map_some,add_lit]
theorem gfr {A:Option Addr} {s m:Nat} (hA:∀ p,A=some p→p.spot=none):cutA A s 0 m=A:=by
 unfold cutA
 split
 rfl
 cases A with
 | none=>rfl
 | some p =>
   have:=hA p rfl
   cases p; simp only at this; subst this
   simp [Addr.add]
structure GS (w0 w:World) (g:Nat) (E:TypeId) (cur:List Value):Prop where
  os:w.os=w0.os
  tape:w.tape=w0.tape
  output:w.output=w0.output
  size:w0.heap.size≤w.heap.size
  old:∀ k,k<w0.heap.size→k≠g→w.heap[k]?=w0.heap[k]?
  at_:w.heap[g]?=some (.cells cur.toArray E (0,0))
theorem GS.below {w0 w w1:World} {g:Nat} {E:TypeId} {cur:List Value} (h:GS w0 w g E cur) (hg:g<w0.heap.size) (hb:Below w.heap.size w w1):GS w0 w1 g E cur :=
  ⟨hb.os.trans h.os,hb.tape.trans h.tape,hb.output.trans h.output,Nat.le_trans h.size hb.size,fun k hk hne=>(hb.block k (by have:=h.size; omega)).trans (h.old k hk hne),(hb.block g (by have:=h.size; omega)).trans h.at_⟩
theorem GS.below' {w0 w w1:World} {g:Nat} {E:TypeId} {cur:List Value} (h:GS w0 w g E cur) (hg:g<w.heap.size) (hb:Below w.heap.size w w1):GS w0 w1 g E cur :=
  ⟨hb.os.trans h.os,hb.tape.trans h.tape,hb.output.trans h.output,Nat.le_trans h.size hb.size,fun k hk hne=>(hb.block k (by have:=h.size; omega)).trans (h.old k hk hne),(hb.block g hg).trans h.at_⟩
theorem GS.lt {w0 w:World} {g:Nat} {E:TypeId} {cur:List Value} (h:GS w0 w g E cur):g<w.heap.size:=(Array.getElem?_eq_some_iff.1 h.at_).1
theorem GS.set {w0 w:World} {g:Nat} {E:TypeId} {cur:List Value} (h:GS w0 w g E cur) (new:Array Value):GS w0 (w.setRow g new) g E new.toList :=
  ⟨h.os,h.tape,h.output,by simpa using h.size,fun k hk hne=>(setRow_other w g k new hne).trans (h.old k hk hne),by rw [Array.toArray_toList]; exact setRow_heap w g _ new E _ h.at_⟩
theorem GS.cell {w0 w:World} {g:Nat} {E:TypeId} {cur:List Value} (h:GS w0 w g E cur) (j:Nat):w.cell? ⟨g,j,none⟩=cur[j]?:=by
 simp [World.cell?,h.at_]
theorem GS.start {w:World} {g:Nat} {E:TypeId} {cur:Array Value} (h:w.heap[g]?=some (.cells cur E (0,0))):GS w w g E cur.toList :=
  ⟨rfl,rfl,rfl,Nat.le_refl _,fun _ _ _=>rfl,by rw [Array.toArray_toList]; exact h⟩
theorem GS.grown {w0 w:World} {g:Nat} {E:TypeId} {cur:List Value} (h:GS w0 w g E cur) (o:Option Nat) (ho:g<w0.heap.size→o=some g):w0.grownBy w o :=
  ⟨h.os,h.tape,h.output,h.size,fun k hk hne=>h.old k hk fun e=>by subst e; exact hne (ho hk).symm⟩
theorem GS.other {w0 w:World} {g b:Nat} {E:TypeId} {cur:List Value} (h:GS w0 w g E cur) (hb:b<w0.heap.size) (hne:b≠g) (j:Nat):w.cell? ⟨b,j,none⟩=w0.cell? ⟨b,j,none⟩:=by
 simp [World.cell?,h.old b hb hne]
theorem GS.alloc (w:World) (cs:Array Value) (E:TypeId):GS w (w.drew.alloc (.cells cs E)) w.heap.size E cs.toList :=
  ⟨rfl,rfl,rfl,by simp,fun k hk _=>heap_alloc_old w.drew _ hk,by rw [Array.toArray_toList]; exact heap_alloc_new w.drew _⟩
def lay (cur:List Value) (o:Nat) (cs:List Value):List Value:=cur.take o++cs++cur.drop (o + cs.length)
theorem gcT {cur:List Value} {o:Nat} {cs:List Value} (h:o + cs.length≤cur.length):(lay cur o cs).length=cur.length:=by
 unfold lay
 simp only [List.length_append,List.length_take,List.length_drop]
 omega
theorem gfk {cur:List Value} {o:Nat} {cs:List Value} (h:o≤cur.length):(lay cur o cs).take (o + cs.length)=cur.take o++cs:=by
 unfold lay
 rw [List.take_append_of_le_length (by simp only [List.length_append,List.length_take]; omega)]
 exact List.take_of_length_le (by simp only [List.length_append,List.length_take]; omega)
theorem gel {cur:List Value} {o k:Nat} {cs:List Value} (h:o≤cur.length) (hk:k≤o):(lay cur o cs).take k=cur.take k:=by
 unfold lay
 rw [List.append_assoc,List.take_append_of_le_length (by rw [List.length_take]; omega),List.take_take,Nat.min_eq_left hk]
theorem gjq {cur:List Value} {o:Nat} {cs:List Value} (h:o≤cur.length):(lay cur o cs).drop o=cs++cur.drop (o + cs.length):=by
 unfold lay
 rw [List.append_assoc,List.drop_append_of_le_length (by rw [List.length_take]; omega),List.drop_eq_nil_of_le (by rw [List.length_take]; omega),List.nil_append]
theorem gkr {cur:List Value} {o:Nat} {vs cs:List Value} (h:o + vs.length + cs.length≤cur.length):(lay (lay cur (o + vs.length) cs) o vs).take (o + vs.length + cs.length)=cur.take o++(vs++cs):=by
 have hl:(lay cur (o + vs.length) cs).length=cur.length:=gcT h
 have hd:=gjq (cur:=cur) (o:=o + vs.length) (cs:=cs) (by omega)
 have ht:=gel (cur:=cur) (o:=o + vs.length) (k:=o) (cs:=cs) (by omega) (by omega)
 have e:lay (lay cur (o + vs.length) cs) o vs=(lay cur (o + vs.length) cs).take o++vs++(lay cur (o + vs.length) cs).drop (o + vs.length):=rfl
 rw [e,hd,ht,←List.append_assoc,List.take_append_of_le_length (by simp only [List.length_append,List.length_take]; omega),List.take_of_length_le (by simp only [List.length_append,List.length_take]; omega),List.append_assoc]
theorem ghb {T E E0:TypeId} {z:Value} {s gb o k c:Nat} {cur:List Value} {w0:World} (hT:P.underlying T=some (.slice E)) (hZ:ZV P E z) (hz:z.cells.size=s) (h1:∀ u∈z.cells.toList,u.oneCell'=true) (hs:0<s) (hk:0<k) (h:GS w0 w gb E0 cur) (hfit:o + k * s≤cur.length) :
    ∃ zs:List Value,zs.length=k * s∧(Builtin.clear_ #[T] ty #[.slice (some ⟨gb,o,none⟩) k c]).run P w=.ok (.tuple #[]) (w.setRow gb (lay cur o zs).toArray):=by
 have hlen:(Builtin.zeroCells z.cells k).toList.length=k * s:=by rw [Array.length_toList,size_zeroCells,hz]
 have hone:∀ v∈(Builtin.zeroCells z.cells k).toList,v.oneCell'=true:=by
   intro v hv
   unfold Builtin.zeroCells at hv
   simp only [Array.toList_map,List.mem_map] at hv
   obtain ⟨i,hi,rfl⟩:=hv
   have:i % z.cells.size<z.cells.size:=Nat.mod_lt _ (by omega)
   rw [getElem!_pos z.cells _ this]
   exact h1 _ (by simp)
 have hst:=run_storeCells_at P gb o E0 (Builtin.zeroCells z.cells k).toList 0 cur.toArray w h.at_ (by simp only [List.size_toArray]; omega) hone
 have hZ':∀ w,(zeroValue E).run P w=.ok z w:=hZ
 obtain ⟨m,rfl⟩:∃ m,k=m + 1:=⟨k - 1,by omega⟩
 refine ⟨(Builtin.zeroCells z.cells (m + 1)).toList,hlen,?_⟩
 simp only [Nat.add_zero] at hst
 simp [Builtin.clear_,run_underlying hT,hZ',hst,lay]
theorem gdb {T U E E0:TypeId} {s gb o dLen dCap:Nat} {p:Addr} {sLen sCap k:Nat} {cur cs:List Value} {w0:World} (hT:P.underlying T=some (.slice E)) (hE:SZ P E s) (h:GS w0 w gb E0 cur) (hk:Nat.min sLen dLen=k) (hl:cs.length=k * s)
    (hsrc:∀ j v,cs[j]?=some v→w.cell? (p.add j)=some v) (hfit:o + cs.length≤cur.length) (h1:∀ v∈cs,v.oneCell'=true) :
    (Builtin.copy_ #[T,U] ty #[.slice (some ⟨gb,o,none⟩) dLen dCap,.slice (some p) sLen sCap]).run P w=.ok (goInt k) (w.setRow gb (lay cur o cs).toArray):=by
 have hE':∀ w,(Go.sizeOf E).run P w=.ok s w:=hE
 have hfc:=run_firstCells_some (P:=P) w s k p sLen sCap cs hl hsrc
 have hst:=run_storeCells_at P gb o E0 cs 0 cur.toArray w h.at_ (by simpa using hfit) h1
 simp only [Nat.add_zero] at hst
 simp [Builtin.copy_,run_underlying hT,Builtin.lenOf,hE',hk,hfc,hst,lay]
theorem gcw (hf:Fr a n L) {T U:TypeId} {x y:Operand} {v u:Value} (hx:ev L x=some v) (hy:ev L y=some u) {r:Value} {w':World} (hr:(Builtin.copy_ #[T,U] ty #[v,u]).run P w=.ok r w') (hdn:d<n)
    (k:∀ a',Fr a' n ((d,r)::L)→K a' w'):Oper.wp P ⟨some d,.call ⟨.builtin .copy,#[x,y],#[T,U]⟩,ty,pos,af,g⟩ a w K Q:=by
 have h1:(execOp a.eval ⟨some d,.call ⟨.builtin .copy,#[x,y],#[T,U]⟩,ty,pos,af,g⟩).run P w=.ok (.value r) w':=by
   simp [execOp,resolve,invoke,builtin,hf.eval hx,hf.eval hy,hr]
 unfold Oper.wp
 rw [h1,Oper.upon_value]
 exact k _ (hf.put hdn r)
theorem ggw (hf:Fr a n L) {T:TypeId} {x:Operand} {v:Value} (hx:ev L x=some v) {r:Value} {w':World} (hr:(Builtin.clear_ #[T] ty #[v]).run P w=.ok r w')
    (k:∀ a',Fr a' n L→K a' w'):Oper.wp P ⟨none,.call ⟨.builtin .clear,#[x],#[T]⟩,ty,pos,af,g⟩ a w K Q:=by
 have h1:(execOp a.eval ⟨none,.call ⟨.builtin .clear,#[x],#[T]⟩,ty,pos,af,g⟩).run P w=.ok (.value r) w':=by
   simp [execOp,resolve,invoke,builtin,hf.eval hx,hr]
 unfold Oper.wp
 rw [h1,Oper.upon_value]
 exact k _ hf
theorem gfT (hf:Fr a n L) {T U:TypeId} {x y:Operand} {v u:Value} (hx:ev L x=some v) (hy:ev L y=some u) {r:Value} {w':World} (hr:(Builtin.append_ #[T,U] ty #[v,u]).run P w=.ok r w') (hdn:d<n)
    (k:∀ a',Fr a' n ((d,r)::L)→K a' w'):Oper.wp P ⟨some d,.call ⟨.builtin .append,#[x,y],#[T,U]⟩,ty,pos,af,g⟩ a w K Q:=by
 have h1:(execOp a.eval ⟨some d,.call ⟨.builtin .append,#[x,y],#[T,U]⟩,ty,pos,af,g⟩).run P w=.ok (.value r) w':=by
   simp [execOp,resolve,invoke,builtin,hf.eval hx,hf.eval hy,hr]
 unfold Oper.wp
 rw [h1,Oper.upon_value]
 exact k _ (hf.put hdn r)
theorem gh1 (hf:Fr a n L) {T E:TypeId} (hT:P.underlying T=some (.slice E)) {x:Operand} {A:Option Addr} {m c:Nat} (hx:ev L x=some (.slice A m c)):∀ w,(execOp a.eval ⟨dst,.call ⟨.builtin .cap,#[x],#[T]⟩,ty,pos,af,g⟩).run P w=.ok (.value (.int .i64 (c:Int))) w:=by
 intro w
 simp [execOp,resolve,invoke,builtin,hf.eval hx,Builtin.cap_,run_underlying hT,goInt]
theorem gk1 (hf:Fr a n L) {f:FuncId} {xs:List Operand} {ats:Array TypeId} {vs:List Value} (hxs:evs L xs=some vs) {r:Value} (h:(callFunc f vs.toArray).run P w=.ok (.value r) w) :
    (execOp a.eval ⟨dst,.call ⟨.value (.func f),xs.toArray,ats⟩,ty,pos,af,g⟩).run P w=.ok (.value r) w:=by
 rw [execOp_call_go]
 simp only [Array.empty_append,Array.append_empty,List.map_toArray,hf.evals hxs,h]
theorem giT {f : FuncId} {fn : Func} {T TR E : TypeId} {s : Nat} (hf : P.funcs[f]? = some fn) (hname : (fn.name == "runtime.NumGoroutine") = false) (hb : fn.body.isNone = true) (hn : Extern.findNext fn = none) (he : Extern.find fn = some (Extern.SlicesOverlaps.overlaps #[T, T] #[TR])) (hT : P.underlying T = some (.slice E)) (hE : SZ P E s)
    {b gb o la ca lb cb:Nat} (hne:b≠gb) {Eb Eg:TypeId} {curb curg:Array Value} (hvb:w.heap[b]?=some (.cells curb Eb (0,0))) (hvg:w.heap[gb]?=some (.cells curg Eg (0,0))) (hpos:curg.size≠0) :
    (callFunc f #[.slice (some ⟨b,0,none⟩) la ca,.slice (some ⟨gb,o,none⟩) lb cb]).run P w=.ok (.value (.bool false)) w:=by
 rw [run_callFunc_extern hf hname hb hn he]
 have:=Lib.run_overlaps_apart (P:=P) w T TR E hT s hE ⟨b,0,none⟩ ⟨gb,o,none⟩ la ca lb cb hne Eb Eg curb.size curg.size (by simp [World.shape?,hvb]) (by simp [World.shape?,hvg]) hpos (by simp [World.frozen?,hvb]) (by simp [World.frozen?,hvb])
 rw [this]
 rfl
def gg6 (P:Program) (f:FuncId) (E:TypeId) (s:Nat):Prop:=∀ (w:World) (n:Nat),n≤1099511627776→Calls P f #[.slice none 0 0,.int .i64 (n:Int)] w fun e w'=>∃ v,e=.returned v∧((v=.slice none 0 0∧w'=w) ∨
  ∃ (c:Nat) (cells:List Value),v=.slice (some ⟨w.heap.size,0,none⟩) 0 c∧w'=w.drew.alloc (.cells cells.toArray E)∧cells.length=c * s∧c≤maxLen)
variable {w0:Base} {S:Nat→Prop} {M:List Blk} {R:List Row} {D:List DI} {I:List (Bool×MP)}
theorem gji (hf:Fr a n L) (H:Mem w0 S M R D I w) (α:Type) [GoTy α] {f:FuncId} (E:TypeId) (hk:CL P f) (hs:gg6 P f E (GoTy.n α)) {x y:Operand} {i:Int} {zs:List α} (hxs:evs L [x,y]=some [.slice none 0 0,.int .i64 i]) {ats:Array TypeId} (hg:giD i=some zs) (hdn:d<n)
    (k:∀ A c a' w',Fr a' n ((d,.slice A zs.length c)::L)→Mem w0 S M (⟨.sh true,E,A,c,zs⟩::R) D I w'→K a' w'):Oper.wp P ⟨some d,.call ⟨.value (.func f),[x,y].toArray,ats⟩,ty,pos,af,g⟩ a w K Q:=by
  unfold giD at hg
  split at hg
  case isFalse=>cases hg
  rename_i hi
  injection hg with hg
  subst hg
  obtain ⟨i,rfl⟩:=Int.eq_ofNat_of_zero_le hi.1
  refine gei hf hk hxs hdn (hs w i (by omega)) fun v w' a' hp hf'=>?_
  rcases hp with ⟨rfl,rfl⟩ | ⟨c,cells,rfl,rfl,h1,h2⟩
  · exact k none 0 a' w' hf' (H.nilRow α (.sh true) rfl trivial E)
  · exact k _ c a' _ hf' ((H.keep ((Below.refl _ _).drew)).newRow (.sh true) rfl E ([]:List α) cells c (by simp) h2 h1 trivial (fun q e hq=>by simp at hq))
end
end AT
namespace AT
open Go Go.RowKit
section
variable {w w1 w2:World} {S:Nat→Prop} {M:List Blk} {R:List Row} {D:List DI} {I:List (Bool×MP)}
theorem giU (M:List Blk):allZ (zs M [] [])=M.map Blk.b:=by
 unfold zs allZ
 induction M with
 | nil=>rfl
 | cons m M ih =>
   simp only [List.map_nil,List.append_nil,List.map_cons,List.flatMap_cons] at ih ⊢
   rw [ih]
   rfl
theorem gkw (M:List Blk) (R:List Row) (D:List DI) {b:Nat} (h:b∈M.map Blk.b):b∈fmZ (zs M R D):=by
 obtain ⟨m,hm,rfl⟩:=List.mem_map.1 h
 exact List.mem_flatMap.2 ⟨m.res,List.mem_append.2 (.inl (List.mem_map.2 ⟨m,hm,rfl⟩)),by simp [Blk.res]⟩
theorem Mem.rebase {w0:Base} (H:Mem w0 S M R D I w):Mem ⟨w,M.map Blk.b⟩ (fun b=>b∉M.map Blk.b) M [] [] (I.map fun f=>(false,f.2)) w:=by
 have hin:∀ b∈M.map Blk.b,b∈allZ (zs M R D):=fun b hb=>zE (gkw M R D hb)
 refine ⟨⟨rfl,rfl,rfl,Nat.le_refl _,fun _ _=>rfl⟩,fun b hb=>?_,?_,fun r hr=>?_,fun f hf=>?_⟩
 rw [giU] at hb
 exact ⟨.inr hb,(H.lt b (hin b hb)).2⟩
 rw [giU]
 have h:=H.nd
 have h2:allZ (zs M R D)=M.map Blk.b++allZ (R.map Row.res++D.map DI.res):=by
   rw [←giU M,←u7]
   unfold zs
   simp
 rw [h2] at h
 exact (List.nodup_append.1 h).1
 have:r∈M.map Blk.res:=by simpa [zs] using hr
 obtain ⟨m,hm,rfl⟩:=List.mem_map.1 this
 exact H.ok m.res (List.mem_append.2 (.inl (List.mem_map.2 ⟨m,hm,rfl⟩)))
 obtain ⟨g,hg,rfl⟩:=List.mem_map.1 hf
 refine g.2.mono (H.imm g hg) fun b hb hlt=>⟨?_,rfl⟩
 have hn:b∉M.map Blk.b:=fun hc=>by
   rcases hb with ⟨_,h1,_⟩ | ⟨_,h1⟩
   · exact h1 (H.lt b (hin b hc)).1
   · exact h1 (gkw M R D hc)
 refine .inl ⟨rfl,?_,hn⟩
 rintro (h1 | h1)
 simp only at h1; omega
 exact hn h1
theorem Mem.boxesNew (H:Mem ⟨w1,[]⟩ S M R D I w):∀ b∈M.map Blk.b,w1.heap.size≤b:=fun b hb=>by
  rcases (H.lt b (zE (gkw M R D hb))).1 with h | h
  · exact h
  · cases h
theorem Mem.bel2 {G:List Nat} (hb:Below w1.heap.size w1 w2) (hG:∀ b∈G,w1.heap.size≤b) (H:Mem ⟨w2,G⟩ S M R D I w):Below w1.heap.size w1 w:=by
 have h:=MemZ.below H
 refine ⟨h.os.trans hb.os,h.tape.trans hb.tape,h.output.trans hb.output,Nat.le_trans hb.size h.size,fun k hk=>?_⟩
 rw [h.block k ?_]
 exact hb.block k hk
 have hs:=hb.size
 rintro (h1 | h1)
 simp only at h1; omega
 have:=hG k h1; omega
end
end AT
namespace AT
open Go Go.RowKit
section
variable {w w' w1:World} {w0:Base} {S:Nat→Prop} {M:List Blk} {R:List Row} {D:List DI} {I:List (Bool×MP)}
theorem Mem.wroteBoxO (H:Mem w0 S M R D I w) (i:Nat) {b:Nat} {T:TypeId} {cs cs':List Value} (hi:M[i]?=some ⟨b,T,cs⟩) (hc:Chg w w' [b]) (hb:w'.heap[b]?=some (.cells cs'.toArray T (0,0)))
    {X:List DI} (hn:(X.flatMap DI.F).Nodup) (hX:∀ d∈X,d.p.pred w' (·∈d.F)) (hl:∀ b∈X.flatMap DI.F,w.heap.size≤b∧b<w'.heap.size):Mem w0 S (M.set i ⟨b,T,cs'⟩) R (X++D) I w':=by
 have hblt:b<w.heap.size:=by
   have h:=H.boxAt i hi
   rcases Nat.lt_or_ge b w.heap.size with h' | h'
   · exact h'
   · rw [Array.getElem?_eq_none h'] at h; cases h
 have hp1:(zs (M.set i ⟨b,T,cs'⟩) R (X++D)).Perm (([Blk.res ⟨b,T,cs'⟩]++X.map DI.res)++zs (M.eraseIdx i) R D):=by
   refine (gfa (R:=R) (D:=X++D) ⟨b,T,cs'⟩ hi).trans ?_
   rw [List.append_assoc]
   exact (gcM X).append_left _
 have ha:allZ ([Blk.res ⟨b,T,cs'⟩]++X.map DI.res)=b::X.flatMap DI.F:=by
   rw [u7,u6,gbD]; rfl
 have hf:fmZ ([Blk.res ⟨b,T,cs'⟩]++X.map DI.res)=[b]:=by
   rw [gc2,yR,giF]; rfl
 refine MemZ.perm (MemZ.step (rs:=[Blk.res ⟨b,T,cs⟩]) (rs':=[Blk.res ⟨b,T,cs'⟩]++X.map DI.res) (MemZ.perm H (gec hi)) (hc.sub fun x hx=>?_) (fun x hx=>?_) (fun x hx=>?_) ?_ (fun _ q hq=>?_)) hp1.symm
 rw [yR]; simpa [Blk.res] using hx
 rw [ha] at hx
 rcases List.mem_cons.1 hx with rfl | hx
 left; rw [u6]; simp [Res.all,Blk.res]
 exact .inr (hl x hx)
 rw [hf] at hx
 left; rw [yR]; simpa [Blk.res] using hx
 rw [ha]
 exact List.nodup_cons.2 ⟨fun h=>by have:=(hl b h).1; omega,hn⟩
 rcases List.mem_append.1 hq with h | h
 rw [List.mem_singleton] at h; subst h; exact hb
 obtain ⟨d,hd,rfl⟩:=List.mem_map.1 h
 exact ⟨hX d hd,fun c hc=>(hl c (List.mem_flatMap.2 ⟨d,hd,hc⟩)).2⟩
theorem Mem.endsB {X:List DI} {b:Nat} {T:TypeId} {cs:List Value} (H:Mem ⟨w1,[b]⟩ S M R (X++D) I w) (i:Nat) (hi:M[i]?=some ⟨b,T,cs⟩):New w1 w (X.flatMap DI.F):=by
 have H1:=MemZ.perm H (gcM X)
 have h1:=MemZ.nd H1
 rw [u7,gbD] at h1
 refine ⟨(List.nodup_append.1 h1).1,fun c hc=>?_⟩
 obtain ⟨h2,h3⟩:=MemZ.lt H1 c (by rw [u7,gbD]; exact List.mem_append.2 (.inl hc))
 rcases h2 with h2 | h2
 exact ⟨h2,h3⟩
 have e:=List.mem_singleton.1 h2
 subst e
 exact absurd rfl ((List.nodup_append.1 h1).2.2 c hc c (zE (giQ hi)))
end
theorem un {l l':List Value} {q:Nat} {A A':Option Addr} {m m' c c':Nat} (h:l'[q]?=l[q]?) (h1:l'[q]?=some (.slice A' m' c')) (h2:l[q]?=some (.slice A m c)):A=A'∧c=c':=by
 rw [h1,h2] at h
 simp only [Option.some.injEq,Value.slice.injEq] at h
 exact ⟨h.1.symm,h.2.2.symm⟩
section
variable {w w':World} {w0:Base} {S S1:Nat→Prop} {I I':List (Bool×MP)}
theorem MemZ.comp {rs rs' Z:List Res} {G:List Nat} (H:MemZ w0 S (rs++Z) I w) (hG:∀ b∈G,b∈fmZ rs) (H':MemZ ⟨w,G⟩ S1 rs' I' w')
    (hS:((∀ r∈rs',r.fresh=true)∧∀ f∈I',f.1=true)∨S1=StZ w0 S (rs++Z) false):MemZ w0 S (rs'++Z) (I'++I) w':=by
 have hlt:∀ b∈fmZ Z,b<w.heap.size∧b∉fmZ rs:=fun b hb=>by
   have h1:=H.nd
   rw [u7] at h1
   exact ⟨(H.lt b (by rw [u7]; exact List.mem_append.2 (.inr (zE hb)))).2,fun h=>(List.nodup_append.1 h1).2.2 b (zE h) b (zE hb) rfl⟩
 have hmv:∀ f,(f=true∨S1=StZ w0 S (rs++Z) false)→Moves w' w' (StZ ⟨w,G⟩ S1 rs' f) (StZ w0 S (rs'++Z) f):=fun f hf b hb _=>by
   refine ⟨?_,rfl⟩
   rcases hb with ⟨rfl,h1,h2⟩ | ⟨h1,h2⟩
   · rcases hf with hf | hf
     · cases hf
     · rw [hf] at h2
       have hn:b∉fmZ rs':=fun h=>h1 (H'.lt b (zE h)).1
       rcases h2 with ⟨-,h3,h4⟩ | ⟨h3,h4⟩
       · exact .inl ⟨rfl,h3,h4⟩
       · refine .inr ⟨h3,?_⟩
         rw [gc2] at h4 ⊢
         exact fun h=>(List.mem_append.1 h).elim hn fun h=>h4 (List.mem_append.2 (.inr h))
   · refine .inr ⟨?_,?_⟩
     · rcases h1 with h1 | h1
       · exact H.nw_new h1
       · exact (H.lt b (by rw [u7]; exact List.mem_append.2 (.inl (zE (hG b h1))))).1
     · rw [gc2]
       refine fun h=>(List.mem_append.1 h).elim h2 fun h=>?_
       rcases h1 with h1 | h1
       · have:=(hlt b h).1; simp only at h1; omega
       · exact (hlt b h).2 (hG b h1)
 have hb:=H'.below
 have H2:MemZ w0 S (rs'++Z) I w':=by
   refine MemZ.step (rs:=rs) (rs':=rs') H ⟨hb.os,hb.tape,hb.output,hb.size,fun k hk hn=>hb.block k ?_⟩ (fun b h=>?_) (fun b h=>?_) H'.nd (fun _ r hr=>?_)
   · rintro (h | h)
     · simp only at h; omega
     · exact hn (hG k h)
   · obtain ⟨h1,h2⟩:=H'.lt b h
     rcases h1 with h1 | h1
     · exact .inr ⟨h1,h2⟩
     · exact .inl (zE (hG b h1))
   · obtain ⟨h1,h2⟩:=H'.lt b (zE h)
     rcases h1 with h1 | h1
     · exact .inr h1
     · exact .inl (hG b h1)
   · exact r.mono (H'.ok r hr) (fun _ _=>rfl) (hmv _ (hS.imp (fun h=>h.1 r hr) id))
 refine ⟨H2.below,H2.lt,H2.nd,H2.ok,fun f hf=>?_⟩
 rcases List.mem_append.1 hf with h | h
 exact f.2.mono (H'.imm f h) (hmv _ (hS.imp (fun hh=>hh.2 f h) id))
 exact H2.imm f h
end
section
variable {w w':World} {w0:Base} {S S1:Nat→Prop} {M:List Blk} {R R':List Row} {D D':List DI} {I I':List (Bool×MP)}
theorem gj3 (X:List Row):(zs M (X++R) D).Perm (X.map Row.res++zs M R D):=by
 unfold zs
 rw [List.map_append,List.append_assoc]
 have h:∀ (A B C:List Res),(A++(B++C)).Perm (B++(A++C)):=fun A B C=>by
   rw [←List.append_assoc,←List.append_assoc]; exact List.perm_append_comm.append_right _
 exact h _ _ _
theorem ggL (X:List Row) (Y:List DI):(zs M (X++R) (Y++D)).Perm ((X.map Row.res++Y.map DI.res)++zs M R D):=by
 refine (gj3 X).trans ?_
 rw [List.append_assoc]
 exact (gcM Y).append_left _
theorem gf3 {bs:List Blk} (h:(R'.all (fun r=>r.k.fresh)&&I'.all (fun f=>f.1))=true):(∀ r∈zs bs R' D',r.fresh=true)∧∀ f∈I',f.1=true:=by
 rw [Bool.and_eq_true,List.all_eq_true,List.all_eq_true] at h
 refine ⟨fun r hr=>?_,fun f hf=>h.2 f hf⟩
 rcases List.mem_append.1 hr with hr | hr
 obtain ⟨m,-,rfl⟩:=List.mem_map.1 hr; rfl
 rcases List.mem_append.1 hr with hr | hr
 obtain ⟨m,hm,rfl⟩:=List.mem_map.1 hr; exact h.1 m hm
 obtain ⟨m,-,rfl⟩:=List.mem_map.1 hr; rfl
theorem Mem.comp (H:Mem w0 S M R D I w) (H':Mem ⟨w,[]⟩ S1 [] R' D' I' w') (hS:(R'.all (fun r=>r.k.fresh)&&I'.all (fun f=>f.1))=true∨S1=St w0 S M R D false):Mem w0 S M (R'++R) (D'++D) (I'++I) w':=by
 have h:=MemZ.comp (rs:=[]) (Z:=zs M R D) H (fun b h=>by cases h) H' (hS.imp gf3 id)
 exact MemZ.perm h (ggL R' D').symm
theorem Mem.compB (H:Mem w0 S M R D I w) (i:Nat) {b:Nat} {T T':TypeId} {cs cs':List Value} (hi:M[i]?=some ⟨b,T,cs⟩) (H':Mem ⟨w,[b]⟩ S1 [⟨b,T',cs'⟩] R' D' I' w')
    (hS:(R'.all (fun r=>r.k.fresh)&&I'.all (fun f=>f.1))=true∨S1=St w0 S M R D false):Mem w0 S (M.set i ⟨b,T',cs'⟩) (R'++R) (D'++D) (I'++I) w':=by
 have hp:=gec (R:=R) (D:=D) hi
 have h:=MemZ.comp (rs:=[Blk.res ⟨b,T,cs⟩]) (MemZ.perm H hp) (fun c h=>by rw [yR]; simpa [Blk.res] using h) H' (hS.imp gf3 fun e=>e.trans (geb hp _))
 refine MemZ.perm h ?_
 refine List.Perm.symm ?_
 refine (gfa (R:=R'++R) (D:=D'++D) ⟨b,T',cs'⟩ hi).trans ?_
 exact (ggL (M:=M.eraseIdx i) R' D').append_left [Blk.res ⟨b,T',cs'⟩]
end
def NB (b:Nat):Nat→Prop:=fun c=>c≠b
theorem Mem.nb {w:World} {w0:Base} {S:Nat→Prop} {M:List Blk} {R:List Row} {D:List DI} {I:List (Bool×MP)} (H:Mem w0 S M R D I w) (i:Nat) {b:Nat} {T:TypeId} {cs0:List Value} (hi:M[i]?=some ⟨b,T,cs0⟩) {α:Type} [GoTy α] {f:Bool} {cs:List Value} {x:List α} (h:lrep w (St w0 S M R D f) cs x):lrep w (NB b) cs x :=
  GoTy.mono (α:=List α) h fun c hc _=>⟨fun e=>H.notSt i hi f (e▸hc),rfl⟩
section
variable {P:Program} {Q:Exit→Act→World→Prop} {a:Act} {w:World} {n:Nat} {L:List (Nat×Value)} {ty:TypeId} {pos:String} {af:Array Edge} {g:Option (Nat×Bool)} {K:Act→World→Prop} {d:Nat}
variable {w0:Base} {S:Nat→Prop} {M:List Blk} {R:List Row} {D:List DI} {I:List (Bool×MP)}
end
section
variable {P:Program} {Q:Exit→Act→World→Prop} {a:Act} {w:World} {n:Nat} {L:List (Nat×Value)} {dst:Option Tmp} {ty:TypeId} {pos:String} {af:Array Edge} {g:Option (Nat×Bool)} {K:Act→World→Prop} {d:Nat}
variable {w0:Base} {S:Nat→Prop} {M:List Blk} {R:List Row} {D:List DI} {I:List (Bool×MP)}
end
end AT
namespace AT
open Go Go.RowKit
section
variable {w w' w1:World} {w0:Base} {S:Nat→Prop} {M:List Blk} {R:List Row} {D:List DI} {I:List (Bool×MP)}
end
section
variable {P:Program} {l:List Oper} {S:World→Prop} {a:Act} {w:World} {B:List Nat} {fuel:Nat} {bs:List Bool}
theorem on3 {Mid:Act→World→Prop} {i j k:Nat} {oi oj ok:Oper} {bi bj bk:List Bool} (hr:Region.ready .any l.toArray bs.toArray=[i,j,k]) (hi:l[i]?=some oi) (hgi:oi.guard=none) (hbi:bs.set i true=bi) (hj:l[j]?=some oj) (hgj:oj.guard=none) (hbj:bs.set j true=bj) (hk:l[k]?=some ok) (hgk:ok.guard=none) (hbk:bs.set k true=bk)
    (h:oi.wp P a w (fun a' w'=>(nb B bi.toArray=true→S w')∧DL P l Mid S B fuel bi a' w') (only Mid)) (h':oj.wp P a w (fun a' w'=>(nb B bj.toArray=true→S w')∧DL P l Mid S B fuel bj a' w') (only Mid)) (h'':ok.wp P a w (fun a' w'=>(nb B bk.toArray=true→S w')∧DL P l Mid S B fuel bk a' w') (only Mid)):DL P l Mid S B (fuel + 1) bs a w:=by
 refine ⟨fun h0=>(by rw [hr] at h0; cases h0),fun q hq=>?_⟩
 rw [hr] at hq
 simp only [List.mem_cons,List.not_mem_nil,or_false] at hq
 rcases hq with rfl | rfl | rfl
 unfold wpOp
 have hi':l.toArray[q]?=some oi:=by simpa using hi
 simp only [hi',Region.wanted,hgi]
 rw [gdO hbi]
 exact .inl h
 unfold wpOp
 have hi':l.toArray[q]?=some oj:=by simpa using hj
 simp only [hi',Region.wanted,hgj]
 rw [gdO hbj]
 exact .inl h'
 unfold wpOp
 have hi':l.toArray[q]?=some ok:=by simpa using hk
 simp only [hi',Region.wanted,hgk]
 rw [gdO hbk]
 exact .inl h''
end
section
variable {P:Program} {a:Act} {w:World} {n:Nat} {L:List (Nat×Value)} {dst:Option Tmp} {ty:TypeId} {pos:String} {af:Array Edge} {g:Option (Nat×Bool)}
end
end AT
namespace AT
open Go Go.RowKit
section
variable {w w' w1:World} {w0:Base} {S:Nat→Prop} {M:List Blk} {R:List Row} {D:List DI} {I:List (Bool×MP)}
end
section
variable {P:Program} {Q:Exit→Act→World→Prop} {a:Act} {w:World} {n:Nat} {L:List (Nat×Value)} {ty:TypeId} {pos:String} {af:Array Edge} {g:Option (Nat×Bool)} {K:Act→World→Prop} {d:Nat}
variable {w0:Base} {S:Nat→Prop} {M:List Blk} {R:List Row} {D:List DI} {I:List (Bool×MP)}
theorem gjd {α:Type} [GoTy α] (hfl:GoTy.flat α=true) {T T':Nat→Prop} {cs:List Value} {x:α} (h:GoTy.rep w T cs x):GoTy.rep w T' cs x :=
  GoTy.mono (GoTy.own_rep (GoTy.own_flat hfl h)) fun b hb=>by cases hb
end
section
variable {w:World} {w0:Base} {S:Nat→Prop} {M:List Blk} {R:List Row} {D:List DI} {I:List (Bool×MP)}
end
section
variable {w w1:World} {w0:Base} {S:Nat→Prop} {M:List Blk} {R:List Row} {D:List DI} {I:List (Bool×MP)}
end
section
variable {w w':World} {w0:Base} {S:Nat→Prop} {M:List Blk} {R:List Row} {D:List DI} {I:List (Bool×MP)}
theorem Mem.addRow {α:Type} [GoTy α] {F:List Nat} {A:Option Addr} {len cap:Nat} {xs:List α} (H:Mem w0 S M R D I w) (hb:Below w.heap.size w w') (h:lown w' F [.slice A len cap] xs) (hN:New w w' F) :
    ∃ Fs E,Mem w0 S M (⟨.ow Fs,E,A,cap,xs⟩::R) D I w':=by
 obtain ⟨A',cap',E,cells,Fs,hcs,ho,hF,hl,he⟩:=h
 simp only [List.cons.injEq,Value.slice.injEq,and_true] at hcs
 obtain ⟨rfl,rfl,rfl⟩:=hcs
 have e1:allZ [Row.res ⟨.ow Fs,E,A,cap,xs⟩]=F:=by rw [u6,hF]; rfl
 refine ⟨Fs,E,MemZ.perm (MemZ.step (rs:=[]) (rs':=[Row.res ⟨.ow Fs,E,A,cap,xs⟩]) H ⟨hb.os,hb.tape,hb.output,hb.size,fun k hk' _=>hb.block k hk'⟩ (fun b h=>.inr (hN.2 b (by rw [←e1]; exact h))) (fun b h=>.inr (hN.2 b (by rw [←e1]; exact zE h)).1) (by rw [e1]; exact hN.1) (fun _ q hq=>?_)) (xI _).symm⟩
 rw [List.mem_singleton] at hq; subst hq
 exact ⟨cells,ho,hl,fun i x hx Fi hFi=>he i x Fi hx hFi⟩
end
section
variable {P:Program} {Q:Exit→Act→World→Prop} {a:Act} {w:World} {n:Nat} {L:List (Nat×Value)} {ty:TypeId} {pos:String} {af:Array Edge} {g:Option (Nat×Bool)} {K:Act→World→Prop} {d:Nat}
variable {w0:Base} {S:Nat→Prop} {M:List Blk} {R:List Row} {D:List DI} {I:List (Bool×MP)}
end
section
variable {w w':World} {w0:Base} {S:Nat→Prop} {M:List Blk} {R:List Row} {D:List DI} {I:List (Bool×MP)}
end
end AT
namespace AT
def wf64 (k:Int):Bool:=decide (-9223372036854775808≤k)&&decide (k≤9223372036854775807)
def mget (m:List (Int×Bool)) (k:Int):Bool:=((m.find? fun e=>e.1==k).map (·.2)).getD false
def gil (m:List (Int×Bool)) (k:Int):Option Bool:=if wf64 k=true then some (mget m k) else none
def gii (m:List (Int×Bool)) (k:Int) (v:Bool):Option (List (Int×Bool)):=if wf64 k=true∧m.length<1099511627776 then some ((k,v)::m) else none
theorem gfU (m:List (Int×Bool)) (k k':Int) (v:Bool):mget ((k,v)::m) k'=if k=k' then v else mget m k':=by
 unfold mget
 rw [List.find?_cons]
 by_cases h:k=k'
 simp [h]
 have:((k,v).1==k')=false:=by simpa using h
 rw [this,if_neg h]
end AT
