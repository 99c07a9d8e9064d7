/- Loops over lists, plainly: a loop with fuel and wrapping counters is a walk over the list. No program in sight. -/
import Derived.Test.YtlemonjnolciiaaGreatAtR
set_option linter.unusedSimpArgs false
set_option linter.unusedVariables false
namespace AT
theorem vD {α:Type} {l:List α} {i:Nat} (h:i<l.length):idx l (i:Int)=some l[i]:=by rw[wt,CR h]
theorem zt {α:Type} {l:List α} {i:Int} (h0:0≤i) (h:i<l.length):∃e,idx l i=some e∧e∈l:=by
 refine⟨l[i.toNat]'(by omega),?_,Dh _⟩;unfold idx;rw[if_pos h0,CR]
theorem vV {n:Nat} {i:Nat} (h:i<n) (hn:(n:Int)≤9223372036854775807):w64 ((i:Int) + 1)=((i + 1:Nat):Int):=by
 rw[vq (by omega) (by omega)]; omega
def each {α σ R:Type} (b:Int→α→σ→Option (Out σ R)):List α→Int→σ→Option (Out σ R)
  | [],_,s=>some (.next s)
  | e::l,i,s=>(b i e s).bind λo=>match o with
    | .ret r=>some (.ret r)
    | .next s'=>each b l (i + 1) s'
end AT
namespace AT
theorem Al {α:Type} {z:α} {n:Nat} (h:n≤2097152):mk z (n:Int)=some (List.replicate n z):=by
 unfold mk; rw[if_pos (by omega)]; simp
theorem oL {α:Type} (a:List α) (G:Nat→Int→Option (Out Int Bool)) (p:α→α→Option Bool) (hn:a.length≤2097152) (hp:∀e∈a,p e e=some true)
    (hG:∀fk i,G (fk + 1) i=if decide (i<(a.length:Int)) then (idx a i).bind λe=>(idx a i).bind λe2=>(p e e2).bind λy=>if !y then some (.ret false) else G fk (w64 (i + 1)) else some (.next i)) :
    ∀(fk i:Nat),i≤a.length→a.length - i<fk→G fk i=some (.next (a.length:Int)):=by
 intro fk;induction fk with
 | zero=>intro i _ h; omega
 | succ fk ih =>
   intro i hi hk
   rw[hG]
   by_cases h:i<a.length
   · rw[if_pos (by simpa using h),vD h,CP,CP,hp _ (Dh h),CP,vV h (by omega),ih (i + 1) h (by omega)]
     rfl
   · obtain rfl:i=a.length:=by omega
     rw[if_neg (by simp)]
variable {α:Type} [BEq α] [ReflBEq α]
theorem sS (a:List α) (G:Nat→Int→Option (Out Int Bool)) (hn:a.length≤2097152)
    (hG:∀fk i,G (fk + 1) i=if decide (i<(a.length:Int)) then (idx a i).bind λe=>(idx a i).bind λe2=>if e != e2 then some (.ret false) else G fk (w64 (i + 1)) else some (.next i)) :
    ∀(fk i:Nat),i≤a.length→a.length - i<fk→G fk i=some (.next (a.length:Int)) :=
  oL a G (λe e2=>some (e==e2)) hn (λe _=>by simp) (λfk i=>by rw[hG]; rfl)
theorem qp {α R:Type} (l:List α) (G:Nat→Int→Option (Out Int R)) (p:α→Bool) (r:Nat→R) (hn:(l.length:Int)≤9223372036854775807)
    (hG:∀fk (i:Nat) (h:i<l.length),G (fk + 1) i=if p l[i] then some (.ret (r i)) else G fk (w64 ((i:Int) + 1)))
    (hz:∀fk,G (fk + 1) l.length=some (.next (l.length:Int))) :
    ∀(fk i:Nat),i≤l.length→l.length - i<fk→G fk i=some (if (l.drop i).any p then .ret (r (i + (l.drop i).findIdx p)) else .next (l.length:Int)):=by
 intro fk;induction fk with
 | zero=>intro i _ h; omega
 | succ fk ih =>
   intro i hi hk
   by_cases h:i<l.length
   · rw[hG fk i h,←C7 h,FU,Gg]
     by_cases hp:p l[i]=true
     · simp [hp]
     · simp only[hp,CU,if_false,Et,cond_false]
       rw[vV h hn,ih (i + 1) h (by omega),show i + ((l.drop (i + 1)).findIdx p + 1)=i + 1 + (l.drop (i + 1)).findIdx p by omega]
   · obtain rfl:i=l.length:=by omega
     rw[hz,Dn]; rfl
theorem wz {α:Type} (a:List α) (G:Nat→Int→Option (Out Int Bool)) (p:α→α→Option Bool) (hn:a.length≤2097152) (hp:∀e∈a,p e e=some true)
    (hG:∀fk i,G (fk + 1) i=if decide (i<(a.length:Int)) then (idx a i).bind λe=>(idx a i).bind λe2=>(p e e2).bind λy=>if !y then some (.ret false) else G fk (w64 (i + 1)) else some (.next i))
    (fk:Nat) (hk:a.length<fk):G fk 0=some (.next (a.length:Int)):=by
 have:=oL a G p hn hp hG fk 0 (by omega) (by omega);simpa using this
theorem wA (a:List α) (G:Nat→Int→Option (Out Int Bool)) (hn:a.length≤2097152)
    (hG:∀fk i,G (fk + 1) i=if decide (i<(a.length:Int)) then (idx a i).bind λe=>(idx a i).bind λe2=>if e != e2 then some (.ret false) else G fk (w64 (i + 1)) else some (.next i))
    (fk:Nat) (hk:a.length<fk):G fk 0=some (.next (a.length:Int)):=by
 have:=sS a G hn hG fk 0 (by omega) (by omega);simpa using this
theorem xr {α R:Type} {l:List α} {G:Nat→Int→Option (Out Int R)} (p:α→Bool) (r:Nat→R) (hn:(l.length:Int)≤9223372036854775807)
    (hG:∀fk (i:Nat) (h:i<l.length),G (fk + 1) i=if p l[i] then some (.ret (r i)) else G fk (w64 ((i:Int) + 1)))
    (hz:∀fk,G (fk + 1) l.length=some (.next (l.length:Int))) (fk:Nat) (hk:l.length<fk) :
    G fk 0=some (if l.any p then .ret (r (l.findIdx p)) else .next (l.length:Int)):=by
 have:=qp l G p r hn hG hz fk 0 (by omega) (by omega);simpa using this
def gd {α:Type} (l:List α) (i:Nat) (d:α):α:=(l[i]?).getD d
variable {i:Nat}
theorem zH {α:Type} {l:List α} (d:α) (h:i<l.length):idx l (i:Int)=some (gd l i d):=by
 rw[vD h,gd,CR h]; rfl
theorem bM {α:Type} {l:List α} (d:α) (h:i<l.length):gd l i d=l[i]:=by
 rw[gd,CR h]; rfl
theorem my {α:Type} {p q:α→Bool}:∀{l:List α},(∀i∈l,p i=q i)→l.any p=l.any q
  | [],_=>rfl
  | x::l,h=>by rw[FU,FU,h x (by simp),my λi hi=>h i (by simp [hi])]
theorem dJ (h:0<i) (hn:i≤2097152):w64 ((i:Int) - 1)=((i - 1:Nat):Int):=by
 rw[vq (by omega) (by omega)]; omega
end AT
