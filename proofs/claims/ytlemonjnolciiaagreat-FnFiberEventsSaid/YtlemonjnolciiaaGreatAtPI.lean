/- Lists of ints: sorted; without repeats side by side; elements struck out by a function that carries a state. Plainly. -/
import Derived.Test.YtlemonjnolciiaaGreatAtPS
set_option linter.unusedSimpArgs false
set_option linter.unusedVariables false
namespace AT
def sP (l:List Int):Option (List Int):=if l.length<4611686018427387904 then some (l.mergeSort λx y=>decide (x≤y)) else none
def dG (p:Int):List Int→List Int
  | []=>[]
  | b::l=>if b=p then dG b l else b::dG b l
def jf:List Int→List Int
  | []=>[]
  | a::l=>a::dG a l
def delO {α σ:Type} (del:α→σ→Option (Bool×σ)):List α→σ→Option (List α×σ)
  | [],s=>some ([],s)
  | a::l,s=>(del a s).bind λr=>(delO del l r.2).bind λq=>some (if r.1 then q.1 else a::q.1,q.2)
def idxO {α σ:Type} (del:α→σ→Option (Bool×σ)):List α→Int→σ→Option (Int×σ)
  | [],_,s=>some (-1,s)
  | a::l,i,s=>(del a s).bind λr=>if r.1 then some (i,r.2) else idxO del l (i + 1) r.2
def tR {α:Type} (p:α→Option Bool) (l:List α):Option (List α):=(delO (λa (_:Unit)=>(p a).map λb=>(b,())) l ()).map (·.1)
theorem kl {α σ:Type} {del:α→σ→Option (Bool×σ)} {a:α} {l:List α} {s:σ} {q:List α×σ} (h:delO del (a::l) s=some q):∃b s' q',del a s=some (b,s')∧delO del l s'=some (q',q.2)∧q.1=if b then q' else a::q':=by
 unfold delO at h;cases h1:del a s with
 | none=>rw[h1]at h; cases h
 | some r =>
   rw[h1,Dw]at h
   cases h2:delO del l r.2 with
   | none=>rw[h2]at h; cases h
   | some q2 =>
     rw[h2,Dw]at h
     injection h with h
     subst h
     exact⟨r.1,r.2,q2.1,rfl,h2,rfl⟩
theorem pt {α σ:Type} {del:α→σ→Option (Bool×σ)}:∀{l:List α} {s:σ} {q:List α×σ},delO del l s=some q→q.1.Sublist l
  | [],s,q,h=>by unfold delO at h; injection h with h; subst h; exact .slnil
  | a::l,s,q,h=>by
    obtain⟨b,s',q',-,h2,h3⟩:=kl h
    have:=pt h2
    rw[h3]
    cases b
    · exact this.cons_cons a
    · exact this.cons a
theorem ms {α σ:Type} {del:α→σ→Option (Bool×σ)}:∀{l:List α} {i:Int} {s:σ} {q:List α×σ},delO del l s=some q→∃r,idxO del l i s=some r∧((r.1=-1∧r.2=q.2∧q.1=l)∨∃(k:Nat) (l2:List α) (a:α),r.1=i + k∧k<l.length∧l.drop k=a::l2∧∃q2,delO del l2 r.2=some (q2,q.2)∧q.1=l.take k++q2)
  | [],i,s,q,h=>by unfold delO at h; injection h with h; subst h; exact⟨_,rfl,.inl ⟨rfl,rfl,rfl⟩⟩
  | a::l,i,s,q,h=>by
    obtain⟨b,s',q',h1,h2,h3⟩:=kl h
    cases b with
    | true=>exact⟨(i,s'),by unfold idxO; rw[h1]; rfl,.inr ⟨0,l,a,by simp,by simp,rfl,q',h2,by rw[h3]; rfl⟩⟩
    | false =>
      obtain⟨r,hr,hq⟩:=ms (i:=i + 1) h2
      refine⟨r,by unfold idxO; rw[h1]; exact hr,?_⟩
      rcases hq with ⟨e1,e2,e3⟩ | ⟨k,l2,a2,e1,e2,e3,q2,e4,e5⟩
      · exact .inl ⟨e1,e2,by rw[h3]; simp only[DF,if_false]; exact congrArg _ e3⟩
      · refine .inr ⟨k + 1,l2,a2,by rw[e1]; push_cast; omega,by simpa using e2,e3,q2,e4,?_⟩
        rw[h3]; simp only[DF,if_false]
        show a::q'=a::(l.take k++q2)
        exact congrArg _ e5
theorem mz {α β σ:Type} {del:β→σ→Option (Bool×σ)} (f:α→β):∀(l:List α) (s:σ),delO del (l.map f) s=(delO (λa s=>del (f a) s) l s).map λq=>(q.1.map f,q.2)
  | [],s=>rfl
  | a::l,s=>by
    show (del (f a) s).bind _=((del (f a) s).bind _).map _
    cases h:del (f a) s with
    | none=>rfl
    | some r =>
      simp only[Dw]
      rw[mz f l r.2]
      cases h2:delO (λa s=>del (f a) s) l r.2 with
      | none=>rfl
      | some q =>
        simp only[Gf,Dw]
        cases r.1 <;> rfl
theorem lz (b:Int):∀(l:List Int) (p:Int),dG p (l++[b])=dG p l++if b=(l.getLast?).getD p then [] else [b]
  | [],p=>by
    show (if b=p then dG b [] else b::dG b [])=_
    by_cases h:b=p <;> simp [dG,h]
  | a::l,p=>by
    have ih:=lz b l a
    have e:((a::l).getLast?).getD p=(l.getLast?).getD a:=by
      cases l with
      | nil=>rfl
      | cons c l=>simp [Hf,List.getLast?_cons]
    show (if a=p then dG a (l++[b]) else a::dG a (l++[b]))=(if a=p then dG a l else a::dG a l)++_
    rw[ih,e]
    split <;> simp
theorem qp (b:Int) (l:List Int):jf (l++[b])=jf l++if l≠[]∧b=(l.getLast?).getD 0 then [] else [b]:=by
 cases l with
 | nil=>simp [jf,dG]
 | cons a l =>
   show a::dG a (l++[b])=a::dG a l++_
   rw[lz]
   have e:((a::l).getLast?).getD 0=(l.getLast?).getD a:=by
     cases l with
     | nil=>rfl
     | cons c l=>simp [Hf,List.getLast?_cons]
   rw[e]
   simp
end AT
