/- The step lemmas of the engine AT: frames as lists of known slots, memory as a list of known blocks, rows and readings; no program in sight. -/
import Derived.WalkKit
import Derived.OrdersHeld
import Derived.Maps.AppendAt
set_option linter.unusedSimpArgs false
set_option linter.unusedVariables false
namespace AT
abbrev Dw:=@Option.bind_some
abbrev Dx:=@List.mem_append
abbrev Dy:=@List.getElem?_eq_getElem
abbrev Dz:=@Option.some.inj
abbrev DC:=@Bool.and_eq_true
abbrev DD:=@List.append_assoc
abbrev DF:=@Bool.false_eq_true
abbrev DG:=@List.getElem_cons_drop
abbrev DJ:=@List.length_singleton
abbrev DK:=@List.getElem?_eq_some_iff
abbrev DN:=@List.length_set
abbrev DO:=@List.length_take
abbrev DR:=@List.length_append
abbrev DT:=@List.any_eq_true
abbrev DU:=@List.mem_singleton
abbrev DV:=@Bool.false_ne_true
abbrev DW:=@List.nodup_append
abbrev DX:=@Bool.eq_false_iff
abbrev DY:=@List.mem_of_getElem?
abbrev DZ:=@List.mem_cons
abbrev D1:=@List.append_nil
abbrev D3:=@Nat.le_refl
abbrev D4:=@List.drop_zero
abbrev D5:=@Nat.mul_le_mul_right
abbrev D6:=@List.getElem_mem
abbrev D7:=@List.mem_cons_of_mem
abbrev D8:=@List.getElem?_take_of_lt
abbrev D9:=@Bool.not_eq_true'
abbrev Ea:=@List.drop_length
abbrev Ec:=@Option.some.injEq
abbrev Ed:=@Option.map_eq_some_iff
abbrev Ee:=@List.mem_iff_getElem
abbrev Ef:=@List.flatMap_cons
abbrev Eh:=@List.mem_map
abbrev Ei:=@List.mem_cons_self
abbrev Ej:=@Bool.eq_iff_iff
abbrev Ek:=@List.nil_append
abbrev El:=@Array.length_toList
abbrev Em:=@List.getElem?_drop
abbrev En:=@List.drop_eq_nil_of_le
abbrev Eo:=@List.all_eq_true
abbrev Ep:=@List.length_cons
abbrev Er:=@List.length_drop
abbrev Es:=@List.mem_flatMap
abbrev Et:=@List.mem_range
abbrev Eu:=@List.cons.injEq
abbrev Ev:=@List.length_map
abbrev Ew:=@List.getElem_range
abbrev Ex:=@List.flatMap_nil
abbrev Ey:=@Nat.zero_add
abbrev Ez:=@Nat.add_zero
abbrev EA:=@List.getElem?_eq_none
abbrev EB:=@List.mem_filter
abbrev EC:=@List.singleton_append
abbrev ED:=@Bool.not_true
abbrev EE:=@List.toList_toArray
abbrev EF:=@List.getElem?_append
abbrev EG:=@List.pairwise_iff_getElem
abbrev EH:=@List.length_range
abbrev EI:=@List.filter_cons
abbrev EJ:=@Nat.le_trans
abbrev EK:=@Prod.mk.injEq
abbrev EL:=@Bool.or_eq_false_iff
abbrev EM:=@List.take_append_of_le_length
abbrev EN:=@List.getElem_take
abbrev EO:=@Option.bind_eq_some_iff
abbrev EP:=@List.nodup_cons
abbrev EQ:=@Array.getElem?_eq_none
abbrev ER:=@Nat.min_eq_left
abbrev ES:=@Array.getElem?_eq_some_iff
abbrev ET:=@List.pairwise_cons
abbrev EU:=@List.eq_nil_of_length_eq_zero
abbrev EV:=@Bool.true_and
abbrev EW:=@Int.toNat_of_nonneg
abbrev EX:=@List.sublist_append_right
abbrev EY:=@List.length_nil
abbrev EZ:=@Int.toNat_natCast
abbrev Fe:=@List.size_toArray
abbrev Ff:=@Nat.lt_of_lt_of_le
abbrev Fg:=@Nat.add_mul
abbrev Fh:=@Array.getElem?_eq_getElem
abbrev Fj:=@List.take_of_length_le
abbrev Fl:=@Nat.lt_or_ge
abbrev Fo:=@Bool.false_or
abbrev Fp:=@List.take_append_drop
abbrev Fq:=@Nat.succ_mul
abbrev Ft:=@List.take_take
abbrev Fu:=@Nat.zero_le
abbrev Fv:=@Bool.or_eq_true
abbrev Fw:=@List.foldl_cons
abbrev Fx:=@List.ext_getElem
abbrev Fy:=@List.not_mem_nil
abbrev Fz:=@Nat.sub_zero
abbrev FB:=@List.getElem?_map
abbrev FC:=@List.map_cons
abbrev FD:=@Option.isSome_iff_exists
abbrev FE:=@Array.getElem?_append_left
abbrev FF:=@Bool.not_eq_false
abbrev FG:=@List.Sublist.refl
abbrev FH:=@List.eraseIdx_eq_take_drop_succ
abbrev FI:=@List.pairwise_append
abbrev FJ:=@List.Perm.of_eq
abbrev FK:=@Bool.not_eq_true
abbrev FL:=@Array.getElem?_modify
abbrev FM:=@List.length_filter_le
abbrev FN:=@List.mem_iff_getElem?
abbrev FO:=@List.perm_append_comm
abbrev FP:=@List.mem_or_eq_of_mem_set
abbrev FQ:=@List.filter_nil
abbrev FR:=@Array.getElem_toList
abbrev FSq:=@Array.toArray_toList
abbrev FT:=@List.ext_getElem?
abbrev FU:=@List.mem_of_mem_drop
abbrev FV:=@List.pairwise_map
abbrev FW:=@List.take_succ_eq_append_getElem
abbrev FX:=@Nat.zero_mul
abbrev FY:=@Nat.add_assoc
abbrev FZ:=@List.cons_append
abbrev Ga:=@List.drop_drop
abbrev Gb:=@List.getElem?_cons_zero
abbrev Gc:=@List.drop_append_of_le_length
abbrev Gd:=@Bool.not_eq_false'
abbrev Ge:=@List.getElem?_take
abbrev Gf:=@Option.map_some
abbrev Gg:=@List.any_cons
abbrev Gh:=@List.Pairwise.sublist
abbrev Gi:=@Nat.eq_of_beq_eq_true
abbrev Gj:=@Array.size_append
abbrev Gk:=@List.flatten_cons
abbrev Gl:=@Int.le_refl
abbrev Gm:=@List.drop_take
abbrev Gn:=@Nat.pow_le_pow_right
abbrev Gp:=@Array.size_range
abbrev Gq:=@List.getElem_map
abbrev Gr:=@List.map_toArray
abbrev Gt:=@List.perm_middle
abbrev Gu:=@Nat.mul_comm
abbrev Gv:=@Option.getD_some
abbrev Gw:=@List.drop_set_of_lt
abbrev Gx:=@List.flatten_append
abbrev Gy:=@List.take_set_of_le
abbrev Gz:=@Int.natCast_nonneg
abbrev GA:=@List.Sublist.nodup
abbrev GC:=@Nat.eq_zero_or_pos
abbrev GD:=@List.getElem?_replicate
abbrev GE:=@List.Perm.refl
abbrev GF:=@List.getElem_drop
abbrev GG:=@List.map_nil
abbrev GH:=@Nat.add_comm
abbrev GI:=@Array.getElem?_toList
abbrev GJ:=@Bool.and_eq_false_iff
abbrev GK:=@List.length_replicate
abbrev GL:=@List.eq_nil_iff_forall_not_mem
abbrev GM:=@List.mem_eraseIdx_iff_getElem?
abbrev GN:=@List.mem_flatten
abbrev GO:=@List.mem_of_mem_take
abbrev GP:=@Nat.not_lt_zero
abbrev GQ:=@Array.toList_append
abbrev GR:=@List.length_pos_iff
abbrev GT:=@Bool.true_or
abbrev GU:=@Bool.not_false
abbrev GV:=@Int.ofNat_zero
abbrev GW:=@Int.tmod_eq_emod_of_nonneg
abbrev GX:=@Nat.lt_or_gt_of_ne
abbrev GY:=@Option.toList_some
abbrev GZ:=@List.any_eq_false
abbrev G4:=@List.drop_sublist
abbrev G5:=@List.findIdx_cons
abbrev G6:=@List.getElem?_set
abbrev G7:=@List.take_add_one
abbrev G8:=@Array.setIfInBounds_comm
abbrev G9:=@Bool.and_true
abbrev Ha:=@Bool.eq_false_or_eq_true
abbrev Hb:=@List.mem_of_mem_eraseIdx
abbrev Hd:=@Int.eq_ofNat_of_zero_le
abbrev He:=@List.getElem_set
abbrev Hf:=@List.getLast?_cons_cons
abbrev Hg:=@List.length_eq_zero_iff
abbrev Hh:=@List.pairwise_mergeSort
abbrev Hi:=@List.take_length
abbrev Hj:=@Nat.add_sub_cancel_left
abbrev Hk:=@Nat.lt_succ_self
abbrev Hl:=@List.length_eq_one_iff
abbrev Hn:=@List.map_append
abbrev Ho:=@Bool.and_assoc
abbrev Hp:=@List.foldl_nil
abbrev Hq:=@List.take_zero
abbrev Hr:=@Nat.min_def
abbrev Hs:=@Nat.sub_mul
abbrev Ht:=@Bool.beq_comm
abbrev Hu:=@Bool.or_false
abbrev Hv:=@List.all_cons
abbrev Hw:=@Classical.em
abbrev Hx:=@List.any_nil
abbrev Hy:=@Nat.sub_self
open Go Go.RowKit
def lk:List (Nat×Value)→Nat→Option Value
  | [],_=>none
  | (t,v)::L,s=>bif Nat.beq t s then some v else lk L s
theorem mf (t:Nat) (v:Value) (L:List (Nat×Value)) (s:Nat):lk ((t,v)::L) s=if t=s then some v else lk L s:=by
 show (bif Nat.beq t s then some v else lk L s)=_;by_cases h:t=s;subst h; simp;have:Nat.beq t s=false:=by
   rcases hb:Nat.beq t s with _ | _
   · rfl
   · exact absurd (Gi hb) h
 simp [this,h]
structure Fr (a:Act) (n:Nat) (L:List (Nat×Value)):Prop where
  size:a.tmps.size=n
  defs:a.defers=[]
  get:∀t v,lk L t=some v→a.tmps[t]?=some v
def ev (L:List (Nat×Value)):Operand→Option Value
  | .tmp t=>lk L t
  | .const v=>some v
  | .func f=>some (.func (.func f) #[] #[])
  | .global g=>some (.pointer (some ⟨g,0,none⟩))
def evs (L:List (Nat×Value)):List Operand→Option (List Value)
  | []=>some []
  | x::r=>(ev L x).bind λv=>(evs L r).map (v::·)
section
variable {a:Act} {n:Nat} {L:List (Nat×Value)}
theorem Fr.eval (hf:Fr a n L) {x:Operand} {v:Value} (h:ev L x=some v):a.eval x=v:=by
 cases x with
 | tmp t=>have:=hf.get t v h; simp [Act.eval,this]
 | const u=>simpa [ev,Act.eval] using h
 | global g=>simpa [ev,Act.eval] using h
 | func f=>simpa [ev,Act.eval] using h
theorem Fr.evals (hf:Fr a n L):∀{xs:List Operand} {vs:List Value},evs L xs=some vs→xs.map a.eval=vs
  | [],vs,h=>by simp [evs]at h; simp [h]
  | x::r,vs,h=>by
    simp only[evs,EO,Ed]at h
    obtain⟨v,hv,us,hus,rfl⟩:=h
    simp [hf.eval hv,hf.evals hus]
theorem Fr.put (hf:Fr a n L) {d:Nat} (hd:d<n) (v:Value):Fr (a.put (some d) v) n ((d,v)::L):=by
 refine⟨by simp [Act.put,hf.size],by simp [Act.put,hf.defs],λt u h=>?_⟩;rw[mf]at h;simp only[Act.put];by_cases he:d=t;subst he;simp at h; subst h;simp [hf.size,hd];rw[if_neg he]at h;rw[Array.getElem?_setIfInBounds_ne he];exact hf.get t u h
def rl (L:List (Nat×Value)):List Nat→Option (List (Nat×Value))
  | []=>some []
  | t::r=>match lk L t with
    | none=>none
    | some v=>match rl L r with
      | none=>none
      | some l=>some ((t,v)::l)
theorem Fr.prune (hf:Fr a n L):∀(ts:List Nat) {L':List (Nat×Value)},rl L ts=some L'→Fr a n L'
  | [],L',h=>by
    simp only[rl,Ec]at h
    subst h
    exact⟨hf.size,hf.defs,λt v ht=>by simp [lk]at ht⟩
  | t::r,L',h=>by
    unfold rl at h
    split at h
    · cases h
    · rename_i v hv
      split at h
      · cases h
      · rename_i l hl
        simp only[Ec]at h
        subst h
        have ih:=hf.prune r hl
        refine⟨hf.size,hf.defs,λs u hs=>?_⟩
        rw[mf]at hs
        by_cases he:t=s
        · rw[if_pos he]at hs
          injection hs with hs
          subst hs he
          exact hf.get t v hv
        · rw[if_neg he]at hs
          exact ih.get s u hs
theorem Fr.entry (args:List Value) (n:Nat) (h:args.length≤n) :
    Fr { tmps:=args.toArray++Array.replicate (n - args.toArray.size) undef,defers:=[] } n (args.zipIdx.map λp=>(p.2,p.1)):=by
 refine⟨by simp; omega,rfl,λt v ht=>?_⟩;have key:∀(l:List Value) (k t:Nat) (v:Value),lk ((l.zipIdx k).map λp=>(p.2,p.1)) t=some v→k≤t∧l[t - k]?=some v:=by
   intro l
   induction l with
   | nil=>intro k t v h; simp [lk]at h
   | cons x r ih =>
     intro k t v h
     rw[List.zipIdx_cons,FC,mf]at h
     by_cases he:k=t
     · subst he; simp at h; simp [h]
     · rw[if_neg he]at h
       obtain⟨h1,h2⟩:=ih (k + 1) t v h
       refine⟨by omega,?_⟩
       rw[show t - k=(t - (k + 1)) + 1 by omega]
       simpa using h2
 obtain⟨_,h2⟩:=key args 0 t v ht;have hlt:t<args.length:=(DK.1 h2).1;simp only[Fz]at h2;rw[FE (by simpa using hlt)];simpa using h2
end
section
variable {P:Program} {ops:Array Oper} {Q:Exit→Act→World→Prop} {a:Act} {w:World} {n:Nat} {L:List (Nat×Value)} {K:Act→World→Prop}
variable {o:Oper} {d j:Nat}
theorem op_q {v:Value} (hf:Fr a n L) (hr:(execOp a.eval o).run P w=.ok (.value v) w) (hd:o.dst=some d) (hdn:d<n)
    (k:∀a',Fr a' n ((d,v)::L)→K a' w):o.wp P a w K Q:=by
 unfold Oper.wp;rw[hr,Oper.upon_value,hd];exact k _ (hf.put hdn v)
theorem wl0 {rest:List Oper} (hg:o.guard=none) (h:o.wp P a w (wpList P ops Q rest) Q):wpList P ops Q (o::rest) a w:=by
 unfold wpList;rw[if_pos (by simp [Region.wanted,hg])];exact .inl h
theorem dJ (hf:Fr a n L) {j d:Nat} {b:Bool} (hj:(ops[j]?).bind (·.dst)=some d) (hb:lk L d=some (.bool b)):yielded ops a.tmps j=some b:=by
 unfold yielded;simp [hj,hf.get d _ hb]
theorem wlg {rest:List Oper} {b:Bool} (hf:Fr a n L) (hg:o.guard=some (j,b)) (hj:(ops[j]?).bind (·.dst)=some d) (hb:lk L d=some (.bool b))
    (h:o.wp P a w (wpList P ops Q rest) Q):wpList P ops Q (o::rest) a w:=by
 unfold wpList;rw[if_pos (by simp [Region.wanted,hg,dJ hf hj hb])];exact .inl h
theorem wls {rest:List Oper} {e:Nat} {b c:Bool} (hf:Fr a n L) (hg:o.guard=some (j,b)) (hj:(ops[j]?).bind (·.dst)=some d) (hb:lk L d=some (.bool c)) (hne:(c==b)=false)
    (hd:o.dst=some e) (hdn:e<n) (h:∀a',Fr a' n ((e,undef)::L)→wpList P ops Q rest a' w):wpList P ops Q (o::rest) a w:=by
 unfold wpList;rw[if_neg (by simp [Region.wanted,hg,dJ hf hj hb]; simpa using hne)];rw[hd];exact h _ (hf.put hdn undef)
theorem ub (h:Q .normal a w):wpList P ops Q [] a w:=h
theorem reg {id:Nat} {l:List Oper} (h:wpList P l.toArray Q l a w):(Code.region id l.toArray false).wp P Q a w:=wp_region_lit h
end
end AT
namespace AT
def w64 (n:Int):Int:=(n + 9223372036854775808) % 18446744073709551616 - 9223372036854775808
def wu64 (n:Int):Int:=n % 18446744073709551616
theorem vt {n:Int} (h:-9223372036854775808≤n) (h':n≤9223372036854775807):w64 n=n:=by unfold w64; omega
def idx {α:Type} (l:List α) (i:Int):Option α:=if 0≤i then l[i.toNat]? else none
def sub {α:Type} (l:List α) (a b:Int):Option (List α):=if 0≤a∧a≤b∧b≤l.length then some ((l.take b.toNat).drop a.toNat) else none
def rem (x y:Int):Option Int:=if y=0 then none else some (x.tmod y)
def app {α:Type} (l m:List α):Option (List α):=if l.length + m.length≤1099511627776 then some (l++m) else none
def mk {α:Type} (z:α) (n:Int):Option (List α):=if 0≤n∧n≤1099511627776 then some (List.replicate n.toNat z) else none
def band (x y:Int):Int:=w64 ((BitVec.ofInt 64 x &&& BitVec.ofInt 64 y).toNat)
def bor (x y:Int):Int:=w64 ((BitVec.ofInt 64 x ||| BitVec.ofInt 64 y).toNat)
def bxor (x y:Int):Int:=w64 ((BitVec.ofInt 64 x ^^^ BitVec.ofInt 64 y).toNat)
def Aw (x y:Int):Int:=w64 ((BitVec.ofInt 64 x &&& ~~~(BitVec.ofInt 64 y)).toNat)
def shl (x y:Int):Option Int:=if y<0 then none else some (w64 (x * 2 ^ (min y.toNat 64)))
def shr (x y:Int):Option Int:=if y<0 then none else some (x.fdiv (2 ^ (min y.toNat 64)))
def gmin (x y:Int):Int:=if y<x then y else x
def gmax (x y:Int):Int:=if y > x then y else x
inductive Out (S R:Type) where
  | next (s:S)
  | ret (r:R)
def Out.on {S R T:Type} (o:Out S R) (f:R→T) (k:S→T):T :=
  match o with
  | .next s=>k s
  | .ret r=>f r
theorem xk {S R T:Type} {s:S} {f:R→T} {k:S→T} {x:T} (h:(Out.next s:Out S R).on f k=x):k s=x:=h
theorem xG {S R T:Type} {r:R} {f:R→T} {k:S→T} {x:T} (h:(Out.ret r:Out S R).on f k=x):f r=x:=h
theorem ke {α:Type} {l:List α} {i:Int} {x:α} (h:idx l i=some x):0≤i∧i<l.length∧l[i.toNat]?=some x:=by
 unfold idx at h;split at h
 rename_i h0;have:=(DK.1 h).1;exact⟨h0,by omega,h⟩;cases h
theorem Ag {α:Type} (l:List α) (k:Nat):idx l (k:Int)=l[k]?:=by simp [idx]
theorem bind_some {α β:Type} {x:Option α} {f:α→Option β} {r:β} (h:x.bind f=some r):∃a,x=some a∧f a=some r:=EO.1 h
end AT
namespace AT
structure By where
  n:Int
  deriving DecidableEq
structure U64 where
  n:Int
  deriving DecidableEq
def iE (x y:Int):Int:=wu64 ((BitVec.ofInt 64 x &&& BitVec.ofInt 64 y).toNat)
def shrk (b:Nat) (x y:Int):Option Int:=if y<0 then none else some (x.fdiv (2 ^ (min y.toNat b)))
def iU {α R:Type} [DecidableEq R] (l:List α) (a b:Option R):Option R :=
  match l with
  | []=>if a=b then b else none
  | _::_=>b
variable {R:Type} [DecidableEq R] {a b:Option R}
theorem ry {α:Type} {l:List α} {r:R} (hl:l=[]) (h:iU l a b=some r):a=some r:=by
 subst hl;unfold iU at h;simp only at h;split at h
 rename_i e; rw[e]; exact h;cases h
theorem rx {α:Type} {l:List α} {r:R} (h:iU l a b=some r):b=some r:=by
 unfold iU at h;split at h
 split at h
 exact h;cases h
 exact h
end AT
namespace AT
structure IA (n:Nat) where
  l:List Int
  h:l.length=n
def IA.zero (n:Nat):IA n:=⟨List.replicate n 0,GK⟩
def IA.get {n:Nat} (x:IA n) (k:Nat):Option Int:=x.l[k]?
def IA.put {n:Nat} (x:IA n) (k:Nat) (v:Int):Option (IA n):=if k<n then some ⟨x.l.set k v,by rw[DN]; exact x.h⟩ else none
def IA.part {n:Nat} (x:IA n) (k m:Nat):Option (IA m):=if h:k + m≤n then some ⟨(x.l.drop k).take m,by rw[DO,Er,x.h]; omega⟩ else none
end AT
namespace AT
def sidx (s:ByteArray) (i:Int):Option By:=if 0≤i then (s[i.toNat]?).map λb=>⟨(b.toNat:Int)⟩ else none
def seq (s t:ByteArray):Bool:=s.toList==t.toList
def insl {α:Type} (l:List α) (i:Int) (v:List α):Option (List α):=if 0≤i∧i≤l.length∧l.length + v.length≤1099511627776 then some (l.take i.toNat++(v++l.drop i.toNat)) else none
def rZ {α:Type} (n:Int):Option (List α):=if 0≤n∧n≤1099511627776 then some [] else none
end AT
namespace AT
open Go Go.RowKit
theorem i64w (n:Int):IntKind.i64.wrap n=w64 n:=IntKind.wrap_i64 n
theorem u64w (n:Int):IntKind.u64.wrap n=wu64 n:=by
 unfold IntKind.wrap wu64; simp [IntKind.signed,IntKind.bits]
section
variable {P:Program} {a:Act} {w:World} {n:Nat} {L:List (Nat×Value)} {dst:Option Tmp} {ty:TypeId} {pos:String} {af:Array Edge} {g:Option (Nat×Bool)}
theorem wS (hf:Fr a n L) {x:Operand} {v:Value} (hx:ev L x=some v):(execOp a.eval ⟨dst,.move x,ty,pos,af,g⟩).run P w=.ok (.value v) w:=by
 simp [execOp,hf.eval hx]
theorem q6 (hf:Fr a n L) {x:Operand} {v:Value} (hx:ev L x=some v):(execOp a.eval ⟨dst,.assign x,ty,pos,af,g⟩).run P w=.ok (.value v) w:=by
 simp [execOp,hf.eval hx]
theorem qV (hf:Fr a n L) {c x y:Operand} {v:Value} (hc:ev L c=some (.bool true)) (hx:ev L x=some v):(execOp a.eval ⟨dst,.pick c x y,ty,pos,af,g⟩).run P w=.ok (.value v) w:=by
 simp [execOp,hf.eval hc,hf.eval hx,asBool]
theorem qW (hf:Fr a n L) {c x y:Operand} {v:Value} (hc:ev L c=some (.bool false)) (hx:ev L y=some v):(execOp a.eval ⟨dst,.pick c x y,ty,pos,af,g⟩).run P w=.ok (.value v) w:=by
 simp [execOp,hf.eval hc,hf.eval hx,asBool]
theorem AG (hf:Fr a n L) {T:TypeId} {x:Operand} {b:Bool} (hx:ev L x=some (.bool b)):(execOp a.eval ⟨dst,.unOp .not T x,ty,pos,af,g⟩).run P w=.ok (.value (.bool (!b))) w:=by
 simp [execOp,hf.eval hx,Op.unary]
theorem AH (hf:Fr a n L) {T:TypeId} {x:Operand} {i:Int} (hx:ev L x=some (.int .i64 i)):(execOp a.eval ⟨dst,.unOp .neg T x,ty,pos,af,g⟩).run P w=.ok (.value (.int .i64 (w64 (0 - i)))) w:=by
 simp [execOp,hf.eval hx,Op.unary,Op.intArith,i64w]
theorem pN (hf:Fr a n L) {x:Operand} {i:Nat} {vs:List Value} {v:Value} (hx:ev L x=some (.tuple vs.toArray)) (hv:vs[i]?=some v):(execOp a.eval ⟨dst,.extract x i,ty,pos,af,g⟩).run P w=.ok (.value v) w:=by
 simp [execOp,hf.eval hx,Instr.extract,hv]
section ints
variable {T U:TypeId} {x y:Operand} {i j:Int} (hf:Fr a n L)
include hf
theorem AS (hx:ev L x=some (.int .i64 i)) (hy:ev L y=some (.int .i64 j)):(execOp a.eval ⟨dst,.binOp .add T x y U,ty,pos,af,g⟩).run P w=.ok (.value (.int .i64 (w64 (i + j)))) w:=by
 simp [execOp,hf.eval hx,hf.eval hy,eqGuard,binOp,Op.intArith,i64w]
theorem AE (hx:ev L x=some (.int .i64 i)) (hy:ev L y=some (.int .i64 j)):(execOp a.eval ⟨dst,.binOp .sub T x y U,ty,pos,af,g⟩).run P w=.ok (.value (.int .i64 (w64 (i - j)))) w:=by
 simp [execOp,hf.eval hx,hf.eval hy,eqGuard,binOp,Op.intArith,i64w]
theorem AJ (hx:ev L x=some (.int .i64 i)) (hy:ev L y=some (.int .i64 j)):(execOp a.eval ⟨dst,.binOp .mul T x y U,ty,pos,af,g⟩).run P w=.ok (.value (.int .i64 (w64 (i * j)))) w:=by
 simp [execOp,hf.eval hx,hf.eval hy,eqGuard,binOp,Op.intArith,i64w]
variable {k:Int} {yk:IntKind}
theorem qU (hx:ev L x=some (.int .i64 i)) (hy:ev L y=some (.int .i64 j)) (h:rem i j=some k):(execOp a.eval ⟨dst,.binOp .rem T x y U,ty,pos,af,g⟩).run P w=.ok (.value (.int .i64 k)) w:=by
 unfold rem at h;split at h
 cases h;rename_i h0;injection h with h; subst h
 simp [execOp,hf.eval hx,hf.eval hy,eqGuard,binOp,Op.intDiv,h0]
theorem AR (hx:ev L x=some (.int .i64 i)) (hy:ev L y=some (.int .i64 j)):(execOp a.eval ⟨dst,.binOp .and T x y U,ty,pos,af,g⟩).run P w=.ok (.value (.int .i64 (band i j))) w:=by
 simp [execOp,hf.eval hx,hf.eval hy,eqGuard,binOp,Op.intBits,i64w,band];try rfl
theorem BR (hx:ev L x=some (.int .i64 i)) (hy:ev L y=some (.int .i64 j)):(execOp a.eval ⟨dst,.binOp .or T x y U,ty,pos,af,g⟩).run P w=.ok (.value (.int .i64 (bor i j))) w:=by
 simp [execOp,hf.eval hx,hf.eval hy,eqGuard,binOp,Op.intBits,i64w,bor];try rfl
theorem AD (hx:ev L x=some (.int .i64 i)) (hy:ev L y=some (.int .i64 j)):(execOp a.eval ⟨dst,.binOp .xor T x y U,ty,pos,af,g⟩).run P w=.ok (.value (.int .i64 (bxor i j))) w:=by
 simp [execOp,hf.eval hx,hf.eval hy,eqGuard,binOp,Op.intBits,i64w,bxor];try rfl
theorem q7 (hx:ev L x=some (.int .i64 i)) (hy:ev L y=some (.int .i64 j)):(execOp a.eval ⟨dst,.binOp .andNot T x y U,ty,pos,af,g⟩).run P w=.ok (.value (.int .i64 (Aw i j))) w:=by
 simp [execOp,hf.eval hx,hf.eval hy,eqGuard,binOp,Op.intBits,i64w,Aw];try rfl
theorem kY (hx:ev L x=some (.int .i64 i)) (hy:ev L y=some (.int yk j)) (h:shl i j=some k):(execOp a.eval ⟨dst,.binOp .shl T x y U,ty,pos,af,g⟩).run P w=.ok (.value (.int .i64 k)) w:=by
 unfold shl at h;split at h
 cases h;rename_i h0;injection h with h; subst h
 simp [execOp,hf.eval hx,hf.eval hy,eqGuard,binOp,Op.shift,i64w,h0,IntKind.bits]
theorem AF (hx:ev L x=some (.int .i64 i)) (hy:ev L y=some (.int yk j)) (h:shr i j=some k):(execOp a.eval ⟨dst,.binOp .shr T x y U,ty,pos,af,g⟩).run P w=.ok (.value (.int .i64 k)) w:=by
 unfold shr at h;split at h
 cases h;rename_i h0;injection h with h; subst h
 simp [execOp,hf.eval hx,hf.eval hy,eqGuard,binOp,Op.shift,i64w,h0,IntKind.bits]
variable {k:IntKind}
theorem wu (hx:ev L x=some (.int k i)) (hy:ev L y=some (.int k j)):(execOp a.eval ⟨dst,.binOp .eql T x y U,ty,pos,af,g⟩).run P w=.ok (.value (.bool (i==j))) w:=by
 simp [execOp,hf.eval hx,hf.eval hy,eqGuard,binOp,Op.intCmp]
theorem wm (hx:ev L x=some (.int k i)) (hy:ev L y=some (.int k j)):(execOp a.eval ⟨dst,.binOp .neq T x y U,ty,pos,af,g⟩).run P w=.ok (.value (.bool (i != j))) w:=by
 simp [execOp,hf.eval hx,hf.eval hy,eqGuard,binOp,Op.intCmp]
theorem wn (hx:ev L x=some (.int k i)) (hy:ev L y=some (.int k j)):(execOp a.eval ⟨dst,.binOp .lss T x y U,ty,pos,af,g⟩).run P w=.ok (.value (.bool (decide (i<j)))) w:=by
 simp [execOp,hf.eval hx,hf.eval hy,eqGuard,binOp,Op.intCmp]
theorem wo (hx:ev L x=some (.int k i)) (hy:ev L y=some (.int k j)):(execOp a.eval ⟨dst,.binOp .leq T x y U,ty,pos,af,g⟩).run P w=.ok (.value (.bool (decide (i≤j)))) w:=by
 simp [execOp,hf.eval hx,hf.eval hy,eqGuard,binOp,Op.intCmp]
theorem wq (hx:ev L x=some (.int k i)) (hy:ev L y=some (.int k j)):(execOp a.eval ⟨dst,.binOp .gtr T x y U,ty,pos,af,g⟩).run P w=.ok (.value (.bool (decide (i > j)))) w:=by
 simp [execOp,hf.eval hx,hf.eval hy,eqGuard,binOp,Op.intCmp]
theorem wt (hx:ev L x=some (.int k i)) (hy:ev L y=some (.int k j)):(execOp a.eval ⟨dst,.binOp .geq T x y U,ty,pos,af,g⟩).run P w=.ok (.value (.bool (decide (i≥j)))) w:=by
 simp [execOp,hf.eval hx,hf.eval hy,eqGuard,binOp,Op.intCmp]
end ints
variable {T:TypeId}
theorem run_equal_bool (hT:P.underlying T=some .bool) (b c:Bool):(Op.equal T (.bool b) (.bool c)).run P w=.ok (b==c) w:=by
 have key:∀d,(Op.equalIn (d + 1) T (.bool b) (.bool c)).run P w=.ok (b==c) w:=λd=>by simp [Op.equalIn,run_underlying hT]
 exact key 9999
theorem sV (hT:P.underlying T=some .bool) (b c:Bool):(binOp .eql T (.bool b) (.bool c)).run P w=.ok (.bool (b==c)) w:=by
 simp only[binOp,Sem.run_bind,run_equal_bool hT,Result.andThen_ok,Sem.run_pure]
theorem sS (hT:P.underlying T=some .bool) (b c:Bool):(binOp .neq T (.bool b) (.bool c)).run P w=.ok (.bool (b != c)) w:=by
 simp only[binOp,Sem.run_bind,run_equal_bool hT,Result.andThen_ok,Sem.run_pure];cases b <;> cases c <;> rfl
theorem wU (hf:Fr a n L) {T U:TypeId} (hT:P.underlying T=some .bool) {x y:Operand} {b c:Bool} (hx:ev L x=some (.bool b)) (hy:ev L y=some (.bool c)) :
    (execOp a.eval ⟨dst,.binOp .eql T x y U,ty,pos,af,g⟩).run P w=.ok (.value (.bool (b==c))) w:=by
 simp only[execOp,hf.eval hx,hf.eval hy,eqGuard,Sem.run_bind,Sem.run_pure,Result.andThen_ok,Bool.or_true,GT,ED,DF,if_false,sV hT]
theorem wT (hf:Fr a n L) {T U:TypeId} (hT:P.underlying T=some .bool) {x y:Operand} {b c:Bool} (hx:ev L x=some (.bool b)) (hy:ev L y=some (.bool c)) :
    (execOp a.eval ⟨dst,.binOp .neq T x y U,ty,pos,af,g⟩).run P w=.ok (.value (.bool (b != c))) w:=by
 simp only[execOp,hf.eval hx,hf.eval hy,eqGuard,Sem.run_bind,Sem.run_pure,Result.andThen_ok,Bool.or_true,GT,ED,DF,if_false,sS hT]
theorem wP (hf:Fr a n L) {T U:TypeId} {x y:Operand} {b c:ByteArray} (hx:ev L x=some (.string b)) (hy:ev L y=some (.string c)) :
    (execOp a.eval ⟨dst,.binOp .eql T x y U,ty,pos,af,g⟩).run P w=.ok (.value (.bool (b.toList==c.toList))) w:=by
 simp [execOp,hf.eval hx,hf.eval hy,eqGuard,binOp,Op.stringOp]
theorem wN (hf:Fr a n L) {T U:TypeId} {x y:Operand} {b c:ByteArray} (hx:ev L x=some (.string b)) (hy:ev L y=some (.string c)) :
    (execOp a.eval ⟨dst,.binOp .neq T x y U,ty,pos,af,g⟩).run P w=.ok (.value (.bool (!(b.toList==c.toList)))) w:=by
 simp [execOp,hf.eval hx,hf.eval hy,eqGuard,binOp,Op.stringOp]
theorem AN (hf:Fr a n L) {T E:TypeId} (hT:P.underlying T=some (.slice E)) {x:Operand} {A:Option Addr} {m c:Nat} (hx:ev L x=some (.slice A m c)) :
    (execOp a.eval ⟨dst,.call ⟨.builtin .len,#[x],#[T]⟩,ty,pos,af,g⟩).run P w=.ok (.value (.int .i64 m)) w:=by
 simp [execOp,resolve,invoke,builtin,Builtin.len_,hf.eval hx,run_underlying hT,goInt]
theorem wO (hf:Fr a n L) {T:TypeId} (hT:P.underlying T=some .string) {x:Operand} {s:ByteArray} (hx:ev L x=some (.string s)) :
    (execOp a.eval ⟨dst,.call ⟨.builtin .len,#[x],#[T]⟩,ty,pos,af,g⟩).run P w=.ok (.value (.int .i64 s.size)) w:=by
 simp [execOp,resolve,invoke,builtin,Builtin.len_,hf.eval hx,run_underlying hT,goInt]
theorem AK (hf:Fr a n L) {T U:TypeId} {x y:Operand} {i j:Int} (hx:ev L x=some (.int .i64 i)) (hy:ev L y=some (.int .i64 j)) :
    (execOp a.eval ⟨dst,.call ⟨.builtin .min,#[x,y],#[T,U]⟩,ty,pos,af,g⟩).run P w=.ok (.value (.int .i64 (gmin i j))) w:=by
 simp [execOp,resolve,invoke,builtin,Builtin.min_,Builtin.min2,hf.eval hx,hf.eval hy,gmin]
theorem AL (hf:Fr a n L) {T U:TypeId} {x y:Operand} {i j:Int} (hx:ev L x=some (.int .i64 i)) (hy:ev L y=some (.int .i64 j)) :
    (execOp a.eval ⟨dst,.call ⟨.builtin .max,#[x,y],#[T,U]⟩,ty,pos,af,g⟩).run P w=.ok (.value (.int .i64 (gmax i j))) w:=by
 simp [execOp,resolve,invoke,builtin,Builtin.max_,Builtin.max2,hf.eval hx,hf.eval hy,gmax]
end
end AT
namespace AT
open Go Go.RowKit
structure Below (B:Nat) (w w':World):Prop where
  os:w'.os=w.os
  tape:w'.tape=w.tape
  output:w'.output=w.output
  size:w.heap.size≤w'.heap.size
  block:∀k,k<B→w'.heap[k]?=w.heap[k]?
  drawn:w.drawn≤w'.drawn
theorem Below.go {B:Nat} {w w':World} (h:Below B w w'):Go.RowKit.Below B w w':=⟨h.os,h.tape,h.output,h.size,h.block⟩
theorem Below.refl (B:Nat) (w:World):Below B w w:=⟨rfl,rfl,rfl,D3 _,λ_ _=>rfl,D3 _⟩
theorem Below.drew {B:Nat} {a w:World} (h:Below B a w):Below B a w.drew:=⟨h.os,h.tape,h.output,h.size,h.block,Nat.le_succ_of_le h.drawn⟩
theorem Below.heap_alloc (w:World) (o:Obj) (k:Nat) (h:k<w.heap.size):(w.alloc o).heap[k]?=w.heap[k]?:=Go.RowKit.Below.heap_alloc w o k h
theorem Below.heap_setCell (w:World) (a:Addr) (u:Value) (k:Nat) (h:k≠a.block):(w.setCell a u).heap[k]?=w.heap[k]?:=Go.RowKit.Below.heap_setCell w a u k h
structure GB (w w':World) (r:Option Nat):Prop where
  by_:w.grownBy w' r
  drawn:w.drawn≤w'.drawn
theorem GB.os {a b:World} {r:Option Nat} (h:GB a b r):b.os=a.os:=h.by_.os
theorem GB.tape {a b:World} {r:Option Nat} (h:GB a b r):b.tape=a.tape:=h.by_.tape
theorem GB.output {a b:World} {r:Option Nat} (h:GB a b r):b.output=a.output:=h.by_.output
theorem GB.size {a b:World} {r:Option Nat} (h:GB a b r):a.heap.size≤b.heap.size:=h.by_.size
theorem GB.block {a b:World} {r:Option Nat} (h:GB a b r):∀k,k<a.heap.size→some k≠r→b.heap[k]?=a.heap[k]?:=h.by_.block
theorem GB.trans {a b c:World} {r:Option Nat} (h:GB a b r) (k:GB b c r):GB a c r:=⟨World.grownBy.trans h.by_ k.by_,EJ h.drawn k.drawn⟩
theorem block_add (p:Addr) (k:Nat):(p.add k).block=p.block:=by unfold Addr.add; split <;> rfl
theorem add_add (p:Addr) (i j:Nat):(p.add i).add j=p.add (i + j):=by
 unfold Addr.add;by_cases hi:i=0 <;> by_cases hj:j=0 <;> simp [hi,hj,FY]
theorem add_lit (b k j:Nat):(⟨b,k,none⟩:Addr).add j=⟨b,k + j,none⟩:=by
 unfold Addr.add; split <;> simp_all
def Moves (w w':World) (S S':Nat→Prop):Prop:=∀b,S b→b<w.heap.size→S' b∧w'.heap[b]?=w.heap[b]?
theorem Moves.cell {w w':World} {S S':Nat→Prop} (h:Moves w w' S S') {p:Addr} (hp:S p.block) {v:Value} (hc:w.cell? p=some v):w'.cell? p=some v :=
  (World.cell?_of_block ((h _ hp (World.block_lt_of_cell? w p hc)).2)).trans hc
theorem Moves.refl (w:World) (S:Nat→Prop):Moves w w S S:=λ_ h _=>⟨h,rfl⟩
def Same (w w':World) (F:List Nat):Prop:=∀b∈F,w'.heap[b]?=w.heap[b]?
theorem Same.sub {w w':World} {F F':List Nat} (h:Same w w' F) (hs:∀b∈F',b∈F):Same w w' F':=λb hb=>h b (hs b hb)
class GoTy (α:Type) where
  n:Nat
  agg:Bool
  flat:Bool
  rep:World→(Nat→Prop)→List Value→α→Prop
  own:World→List Nat→List Value→α→Prop
  pos:0<n
  len:∀{w S cs x},rep w S cs x→cs.length=n
  one:∀{w S cs x},rep w S cs x→∀c∈cs,c.oneCell'=true
  mono:∀{w w' S S' cs x},rep w S cs x→Moves w w' S S'→rep w' S' cs x
  own_rep:∀{w F cs x},own w F cs x→rep w (·∈F) cs x
  own_mono:∀{w w' F cs x},own w F cs x→Same w w' F→own w' F cs x
  own_lt:∀{w F cs x},own w F cs x→∀b∈F,b<w.heap.size
  own_flat:∀{w S cs x},flat=true→rep w S cs x→own w [] cs x
instance:GoTy Int where
  n:=1
  agg:=false
  flat:=true
  rep _ _ cs x:=cs=[.int .i64 x]
  own _ F cs x:=F=[]∧cs=[.int .i64 x]
  pos:=by decide
  len:=by rintro _ _ _ _ rfl; rfl
  one:=by rintro _ _ _ _ rfl; simp [Value.oneCell']
  mono:=λh _=>h
  own_rep:=λh=>h.2
  own_mono:=λh _=>h
  own_lt:=by rintro _ _ _ _ ⟨rfl,_⟩ _ h; cases h
  own_flat:=λ_ h=>⟨rfl,h⟩
instance:GoTy Bool where
  n:=1
  agg:=false
  flat:=true
  rep _ _ cs x:=cs=[.bool x]
  own _ F cs x:=F=[]∧cs=[.bool x]
  pos:=by decide
  len:=by rintro _ _ _ _ rfl; rfl
  one:=by rintro _ _ _ _ rfl; simp [Value.oneCell']
  mono:=λh _=>h
  own_rep:=λh=>h.2
  own_mono:=λh _=>h
  own_lt:=by rintro _ _ _ _ ⟨rfl,_⟩ _ h; cases h
  own_flat:=λ_ h=>⟨rfl,h⟩
instance:GoTy ByteArray where
  n:=1
  agg:=false
  flat:=true
  rep _ _ cs x:=cs=[.string x]
  own _ F cs x:=F=[]∧cs=[.string x]
  pos:=by decide
  len:=by rintro _ _ _ _ rfl; rfl
  one:=by rintro _ _ _ _ rfl; simp [Value.oneCell']
  mono:=λh _=>h
  own_rep:=λh=>h.2
  own_mono:=λh _=>h
  own_lt:=by rintro _ _ _ _ ⟨rfl,_⟩ _ h; cases h
  own_flat:=λ_ h=>⟨rfl,h⟩
def ElemAt (α:Type) [GoTy α] (w:World) (S:Nat→Prop) (p:Addr) (i:Nat) (x:α):Prop :=
  ∃cs:List Value,(∀j c,cs[j]?=some c→w.cell? (p.add (i * GoTy.n α + j))=some c)∧GoTy.rep w S cs x
def lrep {α:Type} [GoTy α] (w:World) (S:Nat→Prop) (cs:List Value) (xs:List α):Prop :=
  ∃A cap,cs=[.slice A xs.length cap]∧xs.length≤cap∧cap≤maxLen∧∀i x,xs[i]?=some x→∃p,A=some p∧S p.block∧ElemAt α w S p i x
def xp (α:Type) [GoTy α] (cells:List Value) (i:Nat):List Value:=(cells.drop (i * GoTy.n α)).take (GoTy.n α)
def lown {α:Type} [GoTy α] (w:World) (F:List Nat) (cs:List Value) (xs:List α):Prop :=
  ∃A cap E cells Fs,cs=[.slice A xs.length cap]∧w.ownsRow 0 E (GoTy.n α) (.slice A xs.length cap) xs.length cells∧F=(Value.slice A xs.length cap).ownBlock.toList++List.flatten Fs∧Fs.length=xs.length ∧
    ∀(i:Nat) (x:α) (Fi:List Nat),xs[i]?=some x→Fs[i]?=some Fi→GoTy.own w Fi (xp α cells i) x
theorem ElemAt.mono {α:Type} [GoTy α] {w w':World} {S S':Nat→Prop} {p:Addr} {i:Nat} {x:α} (h:ElemAt α w S p i x) (hp:S p.block) (hm:Moves w w' S S'):ElemAt α w' S' p i x:=by
 obtain⟨cs,hc,hr⟩:=h;exact⟨cs,λj c hj=>hm.cell (by rw[block_add]; exact hp) (hc j c hj),GoTy.mono hr hm⟩
theorem ElemAt.lt {α:Type} [GoTy α] {w:World} {S:Nat→Prop} {p:Addr} {i:Nat} {x:α} (h:ElemAt α w S p i x):p.block<w.heap.size:=by
 obtain⟨cs,hc,hr⟩:=h;have hl:=GoTy.len hr;have hp:=GoTy.pos (α:=α);have:=hc 0 (cs[0]'(by omega)) (Dy (by omega));have:=World.block_lt_of_cell? w _ this;rwa [block_add]at this
def _root_.Go.World.ownsTail (w:World) (E:TypeId) (s:Nat) (v:Value) (n:Nat) (xs:List Value):Prop :=
  xs.length=n * s∧((v=.slice none 0 0∧n=0)∨∃g o cap cur,v=.slice (some ⟨g,o,none⟩) n cap∧w.heap[g]?=some (.cells cur E (0,0))∧n≤cap∧cap≤maxLen∧o + cap * s≤cur.size∧(cur.toList.drop o).take (n * s)=xs)
theorem nI {w:World} {E:TypeId} {s:Nat} {v:Value} {n:Nat} {xs:List Value} (h:w.ownsRow 0 E s v n xs):w.ownsTail E s v n xs:=by
 refine⟨h.1,?_⟩;rcases h.2 with hn | ⟨g,cap,cur,rfl,-,hg,h1,h2,h3,h4⟩
 exact .inl hn;exact .inr ⟨g,0,cap,cur,rfl,hg,h1,h2,by omega,h4⟩
def _root_.Go.World.ownsK (w:World) (f:Bool) (E:TypeId) (s:Nat) (v:Value) (n:Nat) (xs:List Value):Prop:=match f with
  | false=>w.ownsRow 0 E s v n xs
  | true=>w.ownsTail E s v n xs
variable {w w':World} {E:TypeId} {s n cap:Nat} {xs:List Value} {f:Bool} {A:Option Addr} {α:Type} [GoTy α] {S:Nat→Prop} {Fs:List (List Nat)}
theorem oW {v:Value} (f:Bool) (h:w.ownsRow 0 E s v n xs):w.ownsK f E s v n xs:=by
 cases f;exact h;exact nI h
theorem eL {v:Value} (h:w.ownsK f E s v n xs):w.ownsTail E s v n xs:=by
 cases f;exact nI h;exact h
theorem jl {B:Nat} {v:Value} (h:w.ownsRow B E s v n xs) (hs:Same w w' v.ownBlock.toList):w'.ownsRow B E s v n xs:=by
 refine⟨h.1,?_⟩;rcases h.2 with hn | ⟨g,cap,cur,rfl,hb,hgg,rest⟩
 exact .inl hn;exact .inr ⟨g,cap,cur,rfl,hb,(hs g (by simp [Value.ownBlock])).trans hgg,rest⟩
theorem im {v:Value} (h:w.ownsTail E s v n xs) (hs:Same w w' v.ownBlock.toList):w'.ownsTail E s v n xs:=by
 refine⟨h.1,?_⟩;rcases h.2 with hn | ⟨g,o,cap,cur,rfl,hgg,rest⟩
 exact .inl hn;exact .inr ⟨g,o,cap,cur,rfl,(hs g (by simp [Value.ownBlock])).trans hgg,rest⟩
theorem pS {v:Value} (h:w.ownsK f E s v n xs) (hs:Same w w' v.ownBlock.toList):w'.ownsK f E s v n xs:=by
 cases f;exact jl h hs;exact im h hs
theorem wJ {v:Value} (h:w.ownsTail E s v n xs):∀k,v.ownBlock=some k→k<w.heap.size:=by
 intro k hk;rcases h.2 with ⟨rfl,_⟩ | ⟨g,o,cap,cur,rfl,hg,_⟩
 simp [Value.ownBlock]at hk;simp [Value.ownBlock]at hk;subst hk;exact (ES.1 hg).1
theorem gf {g o:Nat} (h:w.ownsTail E s (.slice (some ⟨g,o,none⟩) n cap) n xs):∀j u,xs[j]?=some u→w.cell? ⟨g,o + j,none⟩=some u:=by
 intro j u hu;rcases h.2 with ⟨h',_⟩ | ⟨g',o',cap',cur,h',hg,_,_,_,ht⟩
 simp at h';simp only[Value.slice.injEq,Ec,Addr.mk.injEq,and_true,true_and]at h';obtain⟨⟨rfl,rfl⟩,rfl⟩:=h';rw[cell_of_row w g (o + j) cur E (0,0) hg];rw[←ht,Ge]at hu;split at hu
 rw[Em]at hu;rw[←hu]; simp;cases hu
theorem tq (h:w.ownsK f E s (.slice A n cap) n xs) (h0:0<n):∃b q,A=some ⟨b,q,none⟩:=by
 rcases (eL h).2 with ⟨-,hn⟩ | ⟨g,o,cap',cur,hv,-⟩
 omega;simp only[Value.slice.injEq]at hv;exact⟨g,o,hv.1⟩
theorem lZ {xs:List α} {cells:List Value} (ho:w.ownsTail E (GoTy.n α) (.slice A xs.length cap) xs.length cells)
    (hS:∀b,(Value.slice A xs.length cap).ownBlock=some b→S b) (hel:∀i x,xs[i]?=some x→GoTy.rep w S (xp α cells i) x):lrep w S [.slice A xs.length cap] xs:=by
 rcases ho.2 with ⟨hv,h0⟩ | ⟨b,o,cap',cur,hv,hh,hnc,hcm,hcs,htk⟩
 have hx:xs=[]:=EU h0;simp only[Value.slice.injEq]at hv;exact⟨A,cap,rfl,by omega,by rw[hv.2.2]; simp [maxLen],λj x hj=>by rw[hx]at hj; simp at hj⟩;simp only[Value.slice.injEq]at hv;obtain⟨rfl,-,rfl⟩:=hv;refine⟨_,cap,rfl,hnc,hcm,λj x hj=>⟨_,rfl,hS b rfl,xp α cells j,λk c hk=>?_,hel j x hj⟩⟩;have hc:=gf ho (j * GoTy.n α + k) c;rw[add_lit];refine hc ?_;unfold xp at hk;have hlt:k<GoTy.n α:=by
   have:=(DK.1 hk).1
   simp only[DO]at this; omega
 rw[D8 hlt,Em]at hk;exact hk
theorem nO {xs:List α} {cells:List Value} (ho:w.ownsRow 0 E (GoTy.n α) (.slice A xs.length cap) xs.length cells)
    (hS:∀b,(Value.slice A xs.length cap).ownBlock=some b→S b) (hel:∀i x,xs[i]?=some x→GoTy.rep w S (xp α cells i) x):lrep w S [.slice A xs.length cap] xs:=lZ (nI ho) hS hel
theorem eM {i:Nat} {Fi:List Nat} (h:Fs[i]?=some Fi) {b:Nat} (hb:b∈Fi):b∈List.flatten Fs:=GN.2 ⟨Fi,DY h,hb⟩
theorem nk {β:Type} {xs:List β} (h:Fs.length=xs.length) {i:Nat} {x:β} (hx:xs[i]?=some x):∃Fi,Fs[i]?=some Fi:=by
 have:=(DK.1 hx).1;exact⟨Fs[i]'(by omega),Dy _⟩
instance {α:Type} [GoTy α]:GoTy (List α) where
  n:=1
  agg:=false
  flat:=false
  rep:=lrep
  own:=lown
  pos:=by decide
  len:=by rintro _ _ _ _ ⟨A,c,rfl,_⟩; rfl
  one:=by rintro _ _ _ _ ⟨A,c,rfl,_⟩; simp [Value.oneCell']
  mono:=by
    rintro w w' S S' cs x ⟨A,c,rfl,h1,h2,h3⟩ hm
    refine⟨A,c,rfl,h1,h2,λi x hx=>?_⟩
    obtain⟨p,hA,hp,he⟩:=h3 i x hx
    exact⟨p,hA,(hm _ hp he.lt).1,he.mono hp hm⟩
  own_rep:=by
    rintro w F cs xs ⟨A,cap,E,cells,Fs,rfl,ho,rfl,hl,hel⟩
    refine nO ho (λb hb=>by simp [hb]) λi x hx=>?_
    obtain⟨Fi,hFi⟩:=nk hl hx
    exact GoTy.mono (GoTy.own_rep (hel i x Fi hx hFi)) λb hb _=>⟨Dx.2 (.inr (eM hFi hb)),rfl⟩
  own_mono:=by
    rintro w w' F cs xs ⟨A,cap,E,cells,Fs,rfl,ho,rfl,hl,hel⟩ hs
    exact⟨A,cap,E,cells,Fs,rfl,jl ho (hs.sub λb hb=>Dx.2 (.inl hb)),rfl,hl,λi x Fi hx hFi=>GoTy.own_mono (hel i x Fi hx hFi) (hs.sub λb hb=>Dx.2 (.inr (eM hFi hb)))⟩
  own_lt:=by
    rintro w F cs xs ⟨A,cap,E,cells,Fs,rfl,ho,rfl,hl,hel⟩ b hb
    rcases Dx.1 hb with h | h
    · exact (ho.lt b (by simpa using h)).2
    · obtain⟨Fi,hFi,hb'⟩:=GN.1 h
      obtain⟨i,hi⟩:=FN.1 hFi
      have hlt:i<xs.length:=by have:=(DK.1 hi).1; omega
      exact GoTy.own_lt (hel i _ Fi (Dy hlt) hi) b hb'
  own_flat:=λh=>by cases h
def town {α:Type} [GoTy α] (w:World) (F:List Nat) (cs:List Value) (xs:List α):Prop :=
  ∃A cap E cells Fs,cs=[.slice A xs.length cap]∧w.ownsTail E (GoTy.n α) (.slice A xs.length cap) xs.length cells∧F=(Value.slice A xs.length cap).ownBlock.toList++List.flatten Fs∧Fs.length=xs.length ∧
    ∀(i:Nat) (x:α) (Fi:List Nat),xs[i]?=some x→Fs[i]?=some Fi→GoTy.own w Fi (xp α cells i) x
structure Tl (α:Type) where
  l:List α
instance {α:Type} [GoTy α]:GoTy (Tl α) where
  n:=1
  agg:=false
  flat:=false
  rep w S cs x:=lrep w S cs x.l
  own w F cs x:=town w F cs x.l
  pos:=by decide
  len:=by rintro _ _ _ _ ⟨A,c,rfl,_⟩; rfl
  one:=by rintro _ _ _ _ ⟨A,c,rfl,_⟩; simp [Value.oneCell']
  mono:=λ{w w' S S' cs x} h hm=>GoTy.mono (α:=List α) h hm
  own_rep:=by
    rintro w F cs xs ⟨A,cap,E,cells,Fs,rfl,ho,rfl,hl,hel⟩
    refine lZ ho (λb hb=>by simp [hb]) λi x hx=>?_
    obtain⟨Fi,hFi⟩:=nk hl hx
    exact GoTy.mono (GoTy.own_rep (hel i x Fi hx hFi)) λb hb _=>⟨Dx.2 (.inr (eM hFi hb)),rfl⟩
  own_mono:=by
    rintro w w' F cs xs ⟨A,cap,E,cells,Fs,rfl,ho,rfl,hl,hel⟩ hs
    exact⟨A,cap,E,cells,Fs,rfl,im ho (hs.sub λb hb=>Dx.2 (.inl hb)),rfl,hl,λi x Fi hx hFi=>GoTy.own_mono (hel i x Fi hx hFi) (hs.sub λb hb=>Dx.2 (.inr (eM hFi hb)))⟩
  own_lt:=by
    rintro w F cs xs ⟨A,cap,E,cells,Fs,rfl,ho,rfl,hl,hel⟩ b hb
    rcases Dx.1 hb with h | h
    · exact wJ ho b (by simpa using h)
    · obtain⟨Fi,hFi,hb'⟩:=GN.1 h
      obtain⟨i,hi⟩:=FN.1 hFi
      have hlt:i<xs.l.length:=by have:=(DK.1 hi).1; omega
      exact GoTy.own_lt (hel i _ Fi (Dy hlt) hi) b hb'
  own_flat:=λh=>by cases h
@[reducible] def GoTy.two (α β γ:Type) [GoTy α] [GoTy β] (f:γ→α) (g:γ→β):GoTy γ where
  n:=GoTy.n α + GoTy.n β
  agg:=true
  flat:=GoTy.flat α&&GoTy.flat β
  rep w S cs x:=∃c1 c2,cs=c1++c2∧GoTy.rep w S c1 (f x)∧GoTy.rep w S c2 (g x)
  own w F cs x:=∃c1 c2 F1 F2,cs=c1++c2∧F=F1++F2∧GoTy.own w F1 c1 (f x)∧GoTy.own w F2 c2 (g x)
  pos:=by have:=GoTy.pos (α:=α); omega
  len:=by
    rintro _ _ _ _ ⟨c1,c2,rfl,h1,h2⟩
    simp [GoTy.len h1,GoTy.len h2]
  one:=by
    rintro _ _ _ _ ⟨c1,c2,rfl,h1,h2⟩ c hc
    rcases Dx.1 hc with h | h
    · exact GoTy.one h1 c h
    · exact GoTy.one h2 c h
  mono:=by
    rintro w w' S S' cs x ⟨c1,c2,rfl,h1,h2⟩ hm
    exact⟨c1,c2,rfl,GoTy.mono h1 hm,GoTy.mono h2 hm⟩
  own_rep:=by
    rintro w F cs x ⟨c1,c2,F1,F2,rfl,rfl,h1,h2⟩
    exact⟨c1,c2,rfl,GoTy.mono (GoTy.own_rep h1) λb hb _=>⟨Dx.2 (.inl hb),rfl⟩,GoTy.mono (GoTy.own_rep h2) λb hb _=>⟨Dx.2 (.inr hb),rfl⟩⟩
  own_mono:=by
    rintro w w' F cs x ⟨c1,c2,F1,F2,rfl,rfl,h1,h2⟩ hs
    exact⟨c1,c2,F1,F2,rfl,rfl,GoTy.own_mono h1 (hs.sub λb hb=>Dx.2 (.inl hb)),GoTy.own_mono h2 (hs.sub λb hb=>Dx.2 (.inr hb))⟩
  own_lt:=by
    rintro w F cs x ⟨c1,c2,F1,F2,rfl,rfl,h1,h2⟩ b hb
    rcases Dx.1 hb with h | h
    · exact GoTy.own_lt h1 b h
    · exact GoTy.own_lt h2 b h
  own_flat:=by
    rintro w S cs x hf ⟨c1,c2,rfl,h1,h2⟩
    simp only[DC]at hf
    exact⟨c1,c2,[],[],rfl,rfl,GoTy.own_flat hf.1 h1,GoTy.own_flat hf.2 h2⟩
instance {α β:Type} [GoTy α] [GoTy β]:GoTy (α×β):=GoTy.two α β (α×β) Prod.fst Prod.snd
@[reducible] def GoTy.via {α γ:Type} [GoTy α] (f:γ→α):GoTy γ where
  n:=GoTy.n α
  agg:=true
  flat:=GoTy.flat α
  rep w S cs x:=GoTy.rep w S cs (f x)
  own w F cs x:=GoTy.own w F cs (f x)
  pos:=GoTy.pos (α:=α)
  len:=GoTy.len (α:=α)
  one:=GoTy.one (α:=α)
  mono:=GoTy.mono (α:=α)
  own_rep:=GoTy.own_rep (α:=α)
  own_mono:=GoTy.own_mono (α:=α)
  own_lt:=GoTy.own_lt (α:=α)
  own_flat:=GoTy.own_flat (α:=α)
structure MP where
  pred:World→(Nat→Prop)→Prop
  mono:∀{w w':World} {S S':Nat→Prop},pred w S→Moves w w' S S'→pred w' S'
def MP.val {α:Type} [GoTy α] (cs:List Value) (x:α):MP:=⟨λw S=>GoTy.rep w S cs x,GoTy.mono⟩
def MP.cells (p:Addr) (cs:List Value):MP:=⟨λw S=>S p.block∧p.block<w.heap.size∧∀j c,cs[j]?=some c→w.cell? (p.add j)=some c,by
  rintro w w' S S' ⟨h1,h2,h3⟩ hm
  have hb:=hm _ h1 h2
  refine⟨hb.1,?_,λj c hj=>hm.cell (by rw[block_add]; exact h1) (h3 j c hj)⟩
  rcases Fl p.block w'.heap.size with h | h
  · exact h
  · have h4:=hb.2
    rw[EQ h,Fh h2]at h4
    cases h4⟩
def MP.own {α:Type} [GoTy α] (F:List Nat) (cs:List Value) (x:α):MP:=⟨λw S=>GoTy.own w F cs x∧∀b∈F,S b,by
  rintro w w' S S' ⟨h1,h2⟩ hm
  exact⟨GoTy.own_mono h1 λb hb=>(hm b (h2 b hb) (GoTy.own_lt h1 b hb)).2,λb hb=>(hm b (h2 b hb) (GoTy.own_lt h1 b hb)).1⟩⟩
structure Base where
  w:World
  G:List Nat
def Base.nw (B:Base) (b:Nat):Prop:=B.w.heap.size≤b∨b∈B.G
structure Kept (B:Base) (w:World):Prop where
  os:w.os=B.w.os
  tape:w.tape=B.w.tape
  output:w.output=B.w.output
  size:B.w.heap.size≤w.heap.size
  block:∀k,¬B.nw k→w.heap[k]?=B.w.heap[k]?
  drawn:B.w.drawn≤w.drawn
structure Chg (w w':World) (X:List Nat):Prop where
  os:w'.os=w.os
  tape:w'.tape=w.tape
  output:w'.output=w.output
  size:w.heap.size≤w'.heap.size
  block:∀k,k<w.heap.size→k∉X→w'.heap[k]?=w.heap[k]?
  drawn:w.drawn≤w'.drawn
theorem Chg.refl (w:World) (X:List Nat):Chg w w X:=⟨rfl,rfl,rfl,D3 _,λ_ _ _=>rfl,D3 _⟩
theorem Chg.sub {X Y:List Nat} (h:Chg w w' X) (hs:∀b∈X,b∈Y):Chg w w' Y:=⟨h.os,h.tape,h.output,h.size,λk hk hn=>h.block k hk λhx=>hn (hs k hx),h.drawn⟩
structure Res where
  fm:List Nat
  fd:List Nat
  fresh:Bool
  ok:World→(Nat→Prop)→Prop
  mono:∀{w w':World} {T T':Nat→Prop},ok w T→Same w w' (fm++fd)→Moves w w' T T'→ok w' T'
def Res.all (r:Res):List Nat:=r.fm++r.fd
def fmZ (Z:List Res):List Nat:=Z.flatMap Res.fm
def allZ (Z:List Res):List Nat:=Z.flatMap Res.all
theorem cK {Z:List Res} {b:Nat} (h:b∈fmZ Z):b∈allZ Z:=by
 obtain⟨r,hr,hb⟩:=Es.1 h;exact Es.2 ⟨r,hr,Dx.2 (.inl hb)⟩
theorem gV (X Y:List Res):fmZ (X++Y)=fmZ X++fmZ Y:=List.flatMap_append
theorem uZ (X Y:List Res):allZ (X++Y)=allZ X++allZ Y:=List.flatMap_append
def Res.tight (r:Res):Prop:=∀{w:World} {T T':Nat→Prop},r.ok w T→r.ok w T'
def StZ (w0:Base) (S:Nat→Prop) (Z:List Res) (f:Bool) (b:Nat):Prop:=(f=false∧¬w0.nw b∧S b)∨(w0.nw b∧b∉fmZ Z)
structure MemZ (w0:Base) (S:Nat→Prop) (Z:List Res) (I:List (Bool×MP)) (w:World):Prop where
  below:Kept w0 w
  lt:∀b∈allZ Z,w0.nw b∧b<w.heap.size
  nd:(allZ Z).Nodup
  ok:∀r∈Z,r.ok w (StZ w0 S Z r.fresh)
  imm:∀f∈I,f.2.pred w (StZ w0 S Z f.1)
section
variable {w0:Base} {w w':World} {S:Nat→Prop} {Z Z' rs rs':List Res} {I:List (Bool×MP)}
theorem MemZ.perm (H:MemZ w0 S Z I w) (h:Z.Perm Z'):MemZ w0 S Z' I w:=by
 have ha:(allZ Z).Perm (allZ Z'):=h.flatMap_right _;have hf:(fmZ Z).Perm (fmZ Z'):=h.flatMap_right _;have hst:∀f,StZ w0 S Z' f=StZ w0 S Z f:=λf=>by funext b; unfold StZ; rw[hf.mem_iff]
 exact⟨H.below,λb hb=>H.lt b (ha.mem_iff.2 hb),ha.nodup_iff.1 H.nd,λr hr=>by rw[hst]; exact H.ok r (h.mem_iff.2 hr),λf hf=>by rw[hst]; exact H.imm f hf⟩
theorem MemZ.nw_new (H:MemZ w0 S Z I w) {b:Nat} (h:w.heap.size≤b):w0.nw b:=.inl (EJ H.below.size h)
theorem rE {b:Nat} (h:¬w0.nw b):b<w0.w.heap.size:=Nat.lt_of_not_ge λh'=>h (.inl h')
theorem MemZ.kept (H:MemZ w0 S (rs++Z) I w) (hw:Chg w w' (allZ rs)):Kept w0 w' :=
  ⟨hw.os.trans H.below.os,hw.tape.trans H.below.tape,hw.output.trans H.below.output,EJ H.below.size hw.size,λk hk =>
    (hw.block k (Ff (rE hk) H.below.size) λhx=>hk (H.lt k (by rw[uZ]; exact Dx.2 (.inl hx))).1).trans (H.below.block k hk),EJ H.below.drawn hw.drawn⟩
theorem MemZ.nd' (H:MemZ w0 S (rs++Z) I w) (hsz:w.heap.size≤w'.heap.size) (hsub:∀b∈allZ rs',b∈allZ rs∨(w.heap.size≤b∧b<w'.heap.size)) (hnd:(allZ rs').Nodup) :
    (allZ (rs'++Z)).Nodup∧∀b∈allZ (rs'++Z),w0.nw b∧b<w'.heap.size:=by
 have h1:=H.nd;rw[uZ]at h1;obtain⟨h2,h3,h4⟩:=DW.1 h1;rw[uZ];refine⟨DW.2 ⟨hnd,h3,λb hb c hc e=>?_⟩,λb hb=>?_⟩;subst e;rcases hsub b hb with h | ⟨h,_⟩
 exact h4 b h b hc rfl;have:=(H.lt b (by rw[uZ]; exact Dx.2 (.inr hc))).2; omega;rcases Dx.1 hb with h | h
 rcases hsub b h with h | ⟨h,h'⟩
 have:=H.lt b (by rw[uZ]; exact Dx.2 (.inl h));exact⟨this.1,Ff this.2 hsz⟩;exact⟨H.nw_new h,h'⟩;have:=H.lt b (by rw[uZ]; exact Dx.2 (.inr h));exact⟨this.1,Ff this.2 hsz⟩
theorem MemZ.apart (H:MemZ w0 S (rs++Z) I w) {q:Res} (hq:q∈Z) {b:Nat} (hb:b∈q.all):b∉allZ rs∧b<w.heap.size:=by
 have h1:=H.nd;rw[uZ]at h1;have hZ:b∈allZ Z:=Es.2 ⟨q,hq,hb⟩;exact⟨λh=>(DW.1 h1).2.2 b h b hZ rfl,(H.lt b (by rw[uZ]; exact Dx.2 (.inr hZ))).2⟩
theorem MemZ.step (H:MemZ w0 S (rs++Z) I w) (hw:Chg w w' (fmZ rs)) (hsub:∀b∈allZ rs',b∈allZ rs∨(w.heap.size≤b∧b<w'.heap.size)) (hfm:∀b∈fmZ rs',b∈fmZ rs∨w.heap.size≤b) (hnd:(allZ rs').Nodup)
    (hok:(∀f,Moves w w' (StZ w0 S (rs++Z) f) (StZ w0 S (rs'++Z) f))→∀r∈rs',r.ok w' (StZ w0 S (rs'++Z) r.fresh)):MemZ w0 S (rs'++Z) I w':=by
 have hm:∀f,Moves w w' (StZ w0 S (rs++Z) f) (StZ w0 S (rs'++Z) f):=λf b hb hlt=>by
   rcases hb with ⟨h1,h2,h3⟩ | ⟨h1,h2⟩
   · refine⟨.inl ⟨h1,h2,h3⟩,hw.block b hlt λhx=>h2 (H.lt b ?_).1⟩
     rw[uZ]; exact Dx.2 (.inl (cK hx))
   · rw[gV]at h2
     refine⟨.inr ⟨h1,λh=>?_⟩,hw.block b hlt λhx=>h2 (Dx.2 (.inl hx))⟩
     rw[gV]at h
     rcases Dx.1 h with h | h
     · rcases hfm b h with h | h
       · exact h2 (Dx.2 (.inl h))
       · omega
     · exact h2 (Dx.2 (.inr h))
 obtain⟨hn,hl⟩:=H.nd' hw.size hsub hnd;refine⟨H.kept (hw.sub λb hb=>cK hb),hl,hn,λr hr=>?_,λf hf=>f.2.mono (H.imm f hf) (hm _)⟩;rcases Dx.1 hr with h | h
 exact hok hm r h;exact r.mono (H.ok r (Dx.2 (.inr h))) (λb hb=>hw.block b (H.apart h hb).2 λhx=>(H.apart h hb).1 (cK hx)) (hm _)
theorem MemZ.turn (H:MemZ w0 S (rs++Z) I w) (hw:Chg w w' (allZ rs)) (hsub:∀b∈allZ rs',b∈allZ rs∨(w.heap.size≤b∧b<w'.heap.size)) (hnd:(allZ rs').Nodup) (ht:∀r∈Z,r.tight)
    (hok:∀r∈rs',r.ok w' (StZ w0 S (rs'++Z) r.fresh)):MemZ w0 S (rs'++Z) [] w':=by
 obtain⟨hn,hl⟩:=H.nd' hw.size hsub hnd;refine⟨H.kept hw,hl,hn,λr hr=>?_,λf hf=>by cases hf⟩
 rcases Dx.1 hr with h | h
 exact hok r h;refine ht r h (T:=λ_=>False) (r.mono (ht r h (T':=λ_=>False) (H.ok r (Dx.2 (.inr h)))) (λb hb=>?_) λb hb=>hb.elim);exact hw.block b (H.apart h hb).2 (H.apart h hb).1
theorem MemZ.get (H:MemZ w0 S Z I w) (i:Nat) {f:Bool×MP} (hi:I[i]?=some f):f.2.pred w (StZ w0 S Z f.1):=H.imm f (DY hi)
theorem MemZ.push (H:MemZ w0 S Z I w) (f:Bool×MP) (hf:f.2.pred w (StZ w0 S Z f.1)):MemZ w0 S Z (f::I) w :=
  ⟨H.below,H.lt,H.nd,H.ok,λg hg=>by
    rcases DZ.1 hg with rfl | h
    · exact hf
    · exact H.imm g h⟩
theorem MemZ.keep (H:MemZ w0 S Z I w) (hk:Below w.heap.size w w'):MemZ w0 S Z I w':=by
 have:=MemZ.step (rs:=[]) (rs':=[]) (Z:=Z) (w':=w') H ⟨hk.os,hk.tape,hk.output,hk.size,λk hk' _=>hk.block k hk',hk.drawn⟩ (λb hb=>by cases hb) (λb hb=>by cases hb) .nil (λ_ r hr=>by cases hr)
 exact this
end
end AT
namespace AT
open Go Go.RowKit
structure Blk where
  b:Nat
  T:TypeId
  cs:List Value
inductive Kd where
  | sh (fresh:Bool)
  | ow (Fs:List (List Nat)) (free:Bool:=false)
@[reducible] def Kd.free:Kd→Bool
  | .sh _=>false
  | .ow _ f=>f
def Kd.fd:Kd→List Nat
  | .sh _=>[]
  | .ow Fs _=>List.flatten Fs
def Kd.fresh:Kd→Bool
  | .sh f=>f
  | .ow _ _=>true
def Kd.fits:Kd→Nat→Prop
  | .sh _,_=>True
  | .ow Fs _,n=>Fs.length=n
def Kd.holds {α:Type} [GoTy α] (k:Kd) (w:World) (T:Nat→Prop) (i:Nat) (cs:List Value) (x:α):Prop :=
  match k with
  | .sh _=>GoTy.rep w T cs x
  | .ow Fs _=>∀Fi,Fs[i]?=some Fi→GoTy.own w Fi cs x
structure Row where
  {α:Type}
  [inst:GoTy α]
  k:Kd
  E:TypeId
  A:Option Addr
  cap:Nat
  xs:List α
attribute [instance] Row.inst
def Row.v (r:Row):Value:=.slice r.A r.xs.length r.cap
structure DI where
  F:List Nat
  p:MP
theorem Kd.holds_mono {α:Type} [GoTy α] {k:Kd} {w w':World} {T T':Nat→Prop} {i:Nat} {cs:List Value} {x:α} (h:k.holds w T i cs x) (hs:Same w w' k.fd) (hm:Moves w w' T T'):k.holds w' T' i cs x:=by
 cases k with
 | sh f=>exact GoTy.mono h hm
 | ow Fs fr=>exact λFi hFi=>GoTy.own_mono (h Fi hFi) (hs.sub λb hb=>eM hFi hb)
def Blk.res (m:Blk):Res:=⟨[m.b],[],true,λw _=>w.heap[m.b]?=some (.cells m.cs.toArray m.T (0,0)),λh hs _=>(hs _ (by simp)).trans h⟩
def Row.ok (r:Row) (w:World) (T:Nat→Prop):Prop :=
  ∃cells,w.ownsK r.k.free r.E (GoTy.n r.α) r.v r.xs.length cells∧r.k.fits r.xs.length∧∀i x,r.xs[i]?=some x→r.k.holds w T i (xp r.α cells i) x
def Row.res (r:Row):Res:=⟨r.v.ownBlock.toList,r.k.fd,r.k.fresh,r.ok,by
  rintro w w' T T' ⟨cells,ho,hf,hel⟩ hs hm
  exact⟨cells,pS ho (hs.sub λb hb=>Dx.2 (.inl hb)),hf,λi x hx=>Kd.holds_mono (hel i x hx) (hs.sub λb hb=>Dx.2 (.inr hb)) hm⟩⟩
def DI.res (d:DI):Res:=⟨[],d.F,true,λw _=>d.p.pred w (·∈d.F)∧∀b∈d.F,b<w.heap.size,by
  rintro w w' T T' ⟨h,hl⟩ hs _
  refine⟨d.p.mono h λb hb _=>⟨hb,hs b hb⟩,λb hb=>?_⟩
  have h1:=hs b hb
  rcases Fl b w'.heap.size with h | h
  · exact h
  · rw[EQ h,Fh (hl b hb)]at h1
    cases h1⟩
theorem Blk.tight (m:Blk):m.res.tight:=λh=>h
theorem DI.tight (d:DI):d.res.tight:=λh=>h
def zs (M:List Blk) (R:List Row) (D:List DI):List Res:=M.map Blk.res++(R.map Row.res++D.map DI.res)
def St (w0:Base) (S:Nat→Prop) (M:List Blk) (R:List Row) (D:List DI) (f:Bool):Nat→Prop:=StZ w0 S (zs M R D) f
def Mem (w0:Base) (S:Nat→Prop) (M:List Blk) (R:List Row) (D:List DI) (I:List (Bool×MP)) (w:World):Prop:=MemZ w0 S (zs M R D) I w
theorem perm_out.{u} {β:Type u} {l:List β} {i:Nat} {x:β} (h:l[i]?=some x):l.Perm (x::l.eraseIdx i):=by
 obtain⟨hl,rfl⟩:=DK.1 h;rw[FH];have h2:l=l.take i++l[i]::l.drop (i + 1):=by rw[DG hl,Fp]
 have:=Gt (a:=l[i]) (l₁:=l.take i) (l₂:=l.drop (i + 1));rwa [←h2]at this
theorem perm_set.{u} {β:Type u} {l:List β} {i:Nat} {x:β} (y:β) (h:l[i]?=some x):(l.set i y).Perm (y::l.eraseIdx i):=by
 have hl:=(DK.1 h).1;have h1:(l.set i y)[i]?=some y:=by simp [hl]
 have:=perm_out h1;rwa [List.eraseIdx_set_eq]at this
section
variable {M:List Blk} {R:List Row} {D:List DI}
variable {i:Nat}
theorem fI {m:Blk} (h:M[i]?=some m):(zs M R D).Perm ([m.res]++zs (M.eraseIdx i) R D):=by
 have:=((perm_out h).map Blk.res).append_right (R.map Row.res++D.map DI.res);exact this
theorem gH {m:Blk} (m':Blk) (h:M[i]?=some m):(zs (M.set i m') R D).Perm ([m'.res]++zs (M.eraseIdx i) R D):=by
 have:=((perm_set m' h).map Blk.res).append_right (R.map Row.res++D.map DI.res);exact this
theorem aX (r:Row):(zs M (r::R) D).Perm ([r.res]++zs M R D):=by
 unfold zs;simp only[FC,FZ,Ek];exact Gt
theorem zy (d:DI):(zs M R (d::D)).Perm ([d.res]++zs M R D):=by
 unfold zs;simp only[FC,FZ,Ek];rw[←DD,←DD];exact Gt
theorem lJ {R':List Row} (h:R.Perm R'):(zs M R D).Perm (zs M R' D):=((h.map Row.res).append_right _).append_left _
theorem sK {D':List DI} (h:D.Perm D'):(zs M R D).Perm (zs M R D'):=((h.map DI.res).append_left _).append_left _
theorem iI {r:Row} (h:R[i]?=some r):(zs M R D).Perm ([r.res]++zs M (R.eraseIdx i) D):=(lJ (perm_out h)).trans (aX r)
theorem qC {r:Row} (r':Row) (h:R[i]?=some r):(zs M (R.set i r') D).Perm ([r'.res]++zs M (R.eraseIdx i) D):=(lJ (perm_set r' h)).trans (aX r')
theorem cF (r:Res):fmZ [r]=r.fm:=by simp [fmZ]
theorem vA (r:Res):allZ [r]=r.all:=by simp [allZ]
theorem ep (r s:Res):allZ [r,s]=r.all++s.all:=by simp [allZ]
theorem mu (r s:Res):fmZ [r,s]=r.fm++s.fm:=by simp [fmZ]
end
section
variable {w0:Base} {w w':World} {S:Nat→Prop} {M:List Blk} {R:List Row} {D:List DI} {I:List (Bool×MP)}
theorem Mem.get (H:Mem w0 S M R D I w) (i:Nat) {f:Bool×MP} (hi:I[i]?=some f):f.2.pred w (St w0 S M R D f.1):=MemZ.get H i hi
theorem Mem.push (H:Mem w0 S M R D I w) (f:Bool×MP) (hf:f.2.pred w (St w0 S M R D f.1)):Mem w0 S M R D (f::I) w:=MemZ.push H f hf
theorem Mem.keep (H:Mem w0 S M R D I w) (hk:Below w.heap.size w w'):Mem w0 S M R D I w':=MemZ.keep H hk
theorem Mem.drew (H:Mem w0 S M R D I w):Mem w0 S M R D I w.drew:=H.keep ((Below.refl _ _).drew)
theorem Mem.size (H:Mem w0 S M R D I w):w0.w.heap.size≤w.heap.size:=(MemZ.below H).size
def mask.{u} {α:Type u}:List Bool→List α→List α
  | true::bs,x::xs=>x::mask bs xs
  | false::bs,_::xs=>mask bs xs
  | _,_=>[]
theorem mask_sub.{u} {α:Type u}:∀(bs:List Bool) (xs:List α),(mask bs xs).Sublist xs
  | [],[]=>.slnil
  | [],_::_=>by simp [mask]
  | true::_,[]=>.slnil
  | false::_,[]=>.slnil
  | true::bs,x::xs=>(mask_sub bs xs).cons_cons x
  | false::bs,_::xs=>(mask_sub bs xs).cons _
variable {Z Z':List Res}
theorem gr (h:Z.Perm Z') (f:Bool):StZ w0 S Z f=StZ w0 S Z' f:=by
 have hf:(fmZ Z).Perm (fmZ Z'):=h.flatMap_right _;funext b; unfold StZ; rw[hf.mem_iff]
theorem cL {f:Res→List Nat}:∀{Z Z':List Res},Z'.Sublist Z→(Z'.flatMap f).Sublist (Z.flatMap f)
  | _,_,.slnil=>.slnil
  | _,_,.cons x h=>by rw[Ef]; exact (cL h).trans (EX _ _)
  | _,_,.cons_cons x h=>by rw[Ef,Ef]; exact (FG _).append (cL h)
theorem gq (h:∀b∈fmZ Z',b∈fmZ Z) (f:Bool):Moves w w (StZ w0 S Z f) (StZ w0 S Z' f):=λb hb _=>by
  refine⟨?_,rfl⟩
  rcases hb with hb | ⟨h1,h2⟩
  · exact .inl hb
  · exact .inr ⟨h1,λh3=>h2 (h b h3)⟩
theorem Mem.let0 (H:Mem w0 S M R D I w) (bm br bd:List Bool) (is:List Nat):Mem w0 S (mask bm M) (mask br R) (mask bd D) (is.filterMap (I[·]?)) w:=by
 have hz:(zs (mask bm M) (mask br R) (mask bd D)).Sublist (zs M R D):=((mask_sub bm M).map _).append (((mask_sub br R).map _).append ((mask_sub bd D).map _));have ha:(allZ (zs (mask bm M) (mask br R) (mask bd D))).Sublist (allZ (zs M R D)):=cL hz;have hf:(fmZ (zs (mask bm M) (mask br R) (mask bd D))).Sublist (fmZ (zs M R D)):=cL hz;have hw:∀f,Moves w w (StZ w0 S (zs M R D) f) (StZ w0 S (zs (mask bm M) (mask br R) (mask bd D)) f):=gq λb hb=>hf.mem hb;refine⟨MemZ.below H,λb hb=>MemZ.lt H b (ha.mem hb),ha.nodup (MemZ.nd H),λr hr=>r.mono (MemZ.ok H r (hz.mem hr)) (λ_ _=>rfl) (hw _),λf hf=>?_⟩;obtain⟨i,_,hi⟩:=List.mem_filterMap.1 hf;exact f.2.mono (MemZ.imm H f (DY hi)) (hw _)
def maskO.{u} {α:Type u}:List Bool→List α→Option (List α)
  | true::bs,x::xs=>match maskO bs xs with
    | some l=>some (x::l)
    | none=>none
  | false::bs,_::xs=>maskO bs xs
  | _,_=>some []
theorem maskO_eq.{u} {α:Type u}:∀{bs:List Bool} {xs l:List α},maskO bs xs=some l→mask bs xs=l
  | true::bs,x::xs,l,h=>by
    unfold maskO at h
    split at h
    · rename_i l' h'
      injection h with h
      subst h
      unfold mask
      rw[maskO_eq h']
    · cases h
  | false::bs,_::xs,l,h=>by unfold mask; exact maskO_eq h
  | [],xs,l,h=>by simp only[maskO,Ec]at h; subst h; rfl
  | true::bs,[],l,h=>by simp only[maskO,Ec]at h; subst h; rfl
  | false::bs,[],l,h=>by simp only[maskO,Ec]at h; subst h; rfl
def atO.{u} {α:Type u}:Nat→List α→Option α
  | _,[]=>none
  | 0,x::_=>some x
  | n + 1,_::xs=>atO n xs
theorem atO_eq.{u} {α:Type u}:∀(n:Nat) (xs:List α),atO n xs=xs[n]?
  | _,[]=>by simp [atO]
  | 0,x::_=>by simp [atO]
  | n + 1,_::xs=>by simp [atO,atO_eq n xs]
def pickO.{u} {α:Type u} (I:List α):List Nat→Option (List α)
  | []=>some []
  | i::r=>match atO i I with
    | none=>none
    | some v=>match pickO I r with
      | none=>none
      | some l=>some (v::l)
theorem pickO_eq.{u} {α:Type u} {I:List α}:∀{is:List Nat} {l:List α},pickO I is=some l→is.filterMap (I[·]?)=l
  | [],l,h=>by simp only[pickO,Ec]at h; subst h; rfl
  | i::r,l,h=>by
    unfold pickO at h
    split at h
    · cases h
    · rename_i v hv
      split at h
      · cases h
      · rename_i l' hl
        injection h with h
        subst h
        rw[atO_eq]at hv
        rw[List.filterMap_cons,hv,pickO_eq hl]
theorem Mem.let (H:Mem w0 S M R D I w) (bm br bd:List Bool) (is:List Nat) {M':List Blk} {R':List Row} {D':List DI} {I':List (Bool×MP)} (hM:maskO bm M=some M') (hR:maskO br R=some R') (hD:maskO bd D=some D') (hI:pickO I is=some I'):Mem w0 S M' R' D' I' w:=by
 have h:=H.let0 bm br bd is;rw[maskO_eq hM,maskO_eq hR,maskO_eq hD,pickO_eq hI]at h;exact h
theorem Chg.alloc (w:World) (o:Obj) (X:List Nat):Chg w (w.alloc o) X:=⟨rfl,rfl,rfl,by simp,λk hk _=>Below.heap_alloc _ _ _ hk,D3 _⟩
theorem MemZ.add {r:Res} (H:MemZ w0 S Z I w) (hw:Chg w w' []) (hb:∀b∈r.all,w.heap.size≤b∧b<w'.heap.size) (hn:r.all.Nodup) (hok:(∀f,Moves w w' (StZ w0 S Z f) (StZ w0 S ([r]++Z) f))→r.ok w' (StZ w0 S ([r]++Z) r.fresh)):MemZ w0 S ([r]++Z) I w' :=
  MemZ.step (rs:=[]) (rs':=[r]) H hw (λb h=>.inr (hb b (by rwa [vA]at h))) (λb h=>.inr (hb b (by rw[cF]at h; exact Dx.2 (.inl h))).1) (by rwa [vA]) λhm q hq=>by
    rw[DU]at hq; subst hq; exact hok hm
theorem Mem.alloc (H:Mem w0 S M R D I w) (T:TypeId) (cs:List Value):Mem w0 S (⟨w.heap.size,T,cs⟩::M) R D I (w.alloc (.cells cs.toArray T)):=by
 refine MemZ.add (r:=Blk.res ⟨w.heap.size,T,cs⟩) H (Chg.alloc _ _ _) (λb hb=>?_) (by simp [Res.all,Blk.res]) λ_=>heap_alloc_new w _;simp [Res.all,Blk.res]at hb;subst hb; simp
theorem Mem.cell (H:Mem w0 S M R D I w) {i:Nat} {b:Nat} {T:TypeId} {cs:List Value} (hi:M[i]?=some ⟨b,T,cs⟩) (j:Nat):w.cell? ⟨b,j,none⟩=cs[j]?:=by
 have h:w.heap[b]?=some (.cells cs.toArray T (0,0)):=MemZ.ok H (Blk.res ⟨b,T,cs⟩) (Dx.2 (.inl (Eh.2 ⟨_,DY hi,rfl⟩)));rw[cell_of_row w b j _ _ _ h];simp
theorem Mem.unfrozen (H:Mem w0 S M R D I w) {i:Nat} {b:Nat} {T:TypeId} {cs:List Value} (hi:M[i]?=some ⟨b,T,cs⟩) (j:Nat):w.frozen? ⟨b,j,none⟩=false:=by
 have h:w.heap[b]?=some (.cells cs.toArray T (0,0)):=MemZ.ok H (Blk.res ⟨b,T,cs⟩) (Dx.2 (.inl (Eh.2 ⟨_,DY hi,rfl⟩)));exact frozen_of_row w b j _ _ h
theorem Mem.set (H:Mem w0 S M R D I w) (i:Nat) {b:Nat} {T:TypeId} {cs:List Value} (hi:M[i]?=some ⟨b,T,cs⟩) (j:Nat) (v:Value) :
    Mem w0 S (M.set i ⟨b,T,cs.set j v⟩) R D I (w.setCell ⟨b,j,none⟩ v):=by
 have h:w.heap[b]?=some (.cells cs.toArray T (0,0)):=MemZ.ok H (Blk.res ⟨b,T,cs⟩) (Dx.2 (.inl (Eh.2 ⟨_,DY hi,rfl⟩)));refine MemZ.perm (MemZ.step (rs:=[Blk.res ⟨b,T,cs⟩]) (rs':=[Blk.res ⟨b,T,cs.set j v⟩]) (MemZ.perm H (fI hi)) ⟨rfl,rfl,rfl,by simp [World.setCell],λk _ hk=>Below.heap_setCell _ _ _ _ λe=>hk ?_,D3 _⟩ (λb hb=>.inl hb) (λb hb=>.inl hb) (by simp [allZ,Res.all,Blk.res]) λ_ q hq=>?_) (gH _ hi).symm;rw[cF]; simp [Blk.res,e];rw[DU]at hq; subst hq;show (w.setCell _ _).heap[b]?=_;simp [World.setCell,FL,h]
theorem Mem.reRow (H:Mem w0 S M R D I w) {i:Nat} {r r':Row} {w':World} (hi:R[i]?=some r) (hg0:GB w w' r.v.ownBlock) (hat:r'.v.ownBlock=r.v.ownBlock∨(r'.v.ownBlock=some w.heap.size∧w.heap.size<w'.heap.size)) (hk:r'.k.fd.Perm r.k.fd)
    (hok:(∀f,Moves w w' (St w0 S M R D f) (St w0 S M (R.set i r') D f))→r'.ok w' (St w0 S M (R.set i r') D r'.k.fresh)):Mem w0 S M (R.set i r') D I w':=by
 have hg:=hg0.by_;have hp:=iI (M:=M) (D:=D) hi;have hp':=qC (M:=M) (D:=D) r' hi;have hst:∀f,StZ w0 S (zs M R D) f=StZ w0 S ([r.res]++zs M (R.eraseIdx i) D) f:=gr hp;have hst':∀f,StZ w0 S (zs M (R.set i r') D) f=StZ w0 S ([r'.res]++zs M (R.eraseIdx i) D) f:=gr hp';have H1:=MemZ.perm H hp;have hall:∀b,b∈r'.res.all→b∈r.res.all∨(w.heap.size≤b∧b<w'.heap.size):=λb hb=>by
   rcases Dx.1 hb with h | h
   · rcases hat with h1 | ⟨h1,h2⟩
     · exact .inl (Dx.2 (.inl (by rw[show r'.res.fm=r'.v.ownBlock.toList from rfl,h1]at h; exact h)))
     · rw[show r'.res.fm=r'.v.ownBlock.toList from rfl,h1]at h
       simp at h; subst h; exact .inr ⟨D3 _,h2⟩
   · exact .inl (Dx.2 (.inr (hk.mem_iff.1 h)))
 refine MemZ.perm (MemZ.step (rs:=[r.res]) (rs':=[r'.res]) H1 ⟨hg.os,hg.tape,hg.output,hg.size,λk hk' hx=>hg.block k hk' λe=>hx ?_,hg0.drawn⟩ (λb hb=>?_) (λb hb=>?_) ?_ λhm q hq=>?_) hp'.symm;rw[cF]; show k∈r.v.ownBlock.toList; rw[←e]; simp;rw[vA]at hb ⊢; exact hall b hb;rw[cF]at hb ⊢;rcases hat with h1 | ⟨h1,h2⟩
 left; rw[show r'.res.fm=r'.v.ownBlock.toList from rfl,h1]at hb; exact hb;right; rw[show r'.res.fm=r'.v.ownBlock.toList from rfl,h1]at hb;simp at hb; omega;rw[vA];have hn:r.res.all.Nodup:=by
   have:=MemZ.nd H1
   rw[uZ,vA]at this
   exact (DW.1 this).1
 rcases hat with h1 | ⟨h1,h2⟩
 have:r'.res.all.Perm r.res.all:=by
   show (r'.v.ownBlock.toList++r'.k.fd).Perm (r.v.ownBlock.toList++r.k.fd)
   rw[h1]; exact hk.append_left _
 exact this.nodup_iff.2 hn;show (r'.v.ownBlock.toList++r'.k.fd).Nodup;rw[h1];simp only[GY,EC,EP];refine⟨λh=>?_,hk.nodup_iff.2 (DW.1 hn).2.1⟩;have hb:w.heap.size∈allZ ([r.res]++zs M (R.eraseIdx i) D):=by
   rw[uZ,vA]; exact Dx.2 (.inl (Dx.2 (.inr (hk.mem_iff.1 h))))
 have:=(MemZ.lt H1 _ hb).2;omega;rw[DU]at hq; subst hq;have:=hok λf=>by show Moves w w' (StZ w0 S (zs M R D) f) (StZ w0 S (zs M (R.set i r') D) f); rw[hst,hst']; exact hm f
 show r'.ok w' _;rw[←hst']; exact this
end
end AT
namespace AT
open Go Go.RowKit
def LS (P:Program) (T:TypeId):Prop:=∀w ad,(loadVar T ad).run P w=(load ad).run P w
def LA (P:Program) (T:TypeId) (n:Nat):Prop:=∀w ad,(loadVar T ad).run P w=(loadCells ad n >>= λc=>pure (Value.agg c):Sem Value).run P w
def SZ (P:Program) (T:TypeId) (n:Nat):Prop:=∀w,(Go.sizeOf T).run P w=.ok n w
def FA (P:Program) (T:TypeId) (f off:Nat):Prop:=∀w ad,(Instr.fieldAt T (.pointer (some ad)) f).run P w=.ok (.pointer (some (ad.add off))) w
def ZV (P:Program) (T:TypeId) (z:Value):Prop:=∀w,(zeroValue T).run P w=.ok z w
def CL (P:Program) (k:FuncId):Prop:=∀args w,(callFunc k args).run P w=.ok (.enter k args) w
section
variable {P:Program} {Q:Exit→Act→World→Prop} {a:Act} {w:World} {w0:Base} {n:Nat} {L:List (Nat×Value)} {K:Act→World→Prop}
variable {S:Nat→Prop} {M:List Blk} {R:List Row} {D:List DI} {I:List (Bool×MP)} {dst:Option Tmp} {d:Nat} {ty:TypeId} {pos:String} {af:Array Edge} {g:Option (Nat×Bool)}
theorem eZ (hf:Fr a n L) {T:TypeId} (hT:LS P T) {x:Operand} {p:Addr} {v:Value} (hx:ev L x=some (.pointer (some p))) (hc:w.cell? p=some v) :
    (execOp a.eval ⟨dst,.load T x,ty,pos,af,g⟩).run P w=.ok (.value v) w:=by
 have h1:(Instr.loadAt T (.pointer (some p))).run P w=.ok v w:=by
   show (loadVar T p).run P w=_
   rw[hT]; simp [hc]
 simp [execOp,hf.eval hx,h1]
theorem ek (hf:Fr a n L) {T:TypeId} {m:Nat} (hT:LA P T m) {x:Operand} {p:Addr} {cs:List Value} (hx:ev L x=some (.pointer (some p))) (hl:cs.length=m)
    (hc:∀j c,cs[j]?=some c→w.cell? (p.add j)=some c):(execOp a.eval ⟨dst,.load T x,ty,pos,af,g⟩).run P w=.ok (.value (.agg cs.toArray)) w:=by
 have h1:(Instr.loadAt T (.pointer (some p))).run P w=.ok (.agg cs.toArray) w:=by
   show (loadVar T p).run P w=_
   rw[hT,←hl,Sem.run_bind,run_loadCells_list (P:=P) w p cs hc]
   rfl
 simp [execOp,hf.eval hx,h1]
theorem vK (hf:Fr a n L) (H:Mem w0 S M R D I w) {T:TypeId} (hT:LS P T) {x:Operand} {b j:Nat} {T':TypeId} {cs:List Value} {v:Value} (i:Nat) (hx:ev L x=some (.pointer (some ⟨b,j,none⟩)))
    (hi:M[i]?=some ⟨b,T',cs⟩) (hv:cs[j]?=some v):(execOp a.eval ⟨dst,.load T x,ty,pos,af,g⟩).run P w=.ok (.value v) w :=
  eZ hf hT hx ((H.cell hi j).trans hv)
theorem x9 (hf:Fr a n L) (H:Mem w0 S M R D I w) {T:TypeId} {m:Nat} (hT:LA P T m) {x:Operand} {b j:Nat} {T':TypeId} {cs ds:List Value} (i:Nat) (hx:ev L x=some (.pointer (some ⟨b,j,none⟩)))
    (hi:M[i]?=some ⟨b,T',cs⟩) (hd:(cs.drop j).take m=ds) (hl:ds.length=m):(execOp a.eval ⟨dst,.load T x,ty,pos,af,g⟩).run P w=.ok (.value (.agg ds.toArray)) w :=
  ek hf hT hx hl λk c hk=>by
    rw[add_lit,H.cell hi,←hk,←hd]
    have hlt:k<m:=by have:=(DK.1 hk).1; omega
    simp [Ge,hlt]
theorem aa (hf:Fr a n L) (H:Mem w0 S M R D I w) {T:TypeId} (hT:LS P T) {x:Operand} {b o:Nat} {f:Bool} {cs:List Value} {v:Value} (i j:Nat) (hx:ev L x=some (.pointer (some ⟨b,o + j,none⟩)))
    (hi:I[i]?=some (f,MP.cells ⟨b,o,none⟩ cs)) (hv:cs[j]?=some v):(execOp a.eval ⟨dst,.load T x,ty,pos,af,g⟩).run P w=.ok (.value v) w :=
  eZ hf hT hx (by rw[←add_lit]; exact (H.get i hi).2.2 j v hv)
theorem bn (hf:Fr a n L) (H:Mem w0 S M R D I w) {T:TypeId} {m:Nat} (hT:LA P T m) {x:Operand} {b o:Nat} {f:Bool} {cs ds:List Value} (i j:Nat) (hx:ev L x=some (.pointer (some ⟨b,o + j,none⟩)))
    (hi:I[i]?=some (f,MP.cells ⟨b,o,none⟩ cs)) (hd:(cs.drop j).take m=ds) (hl:ds.length=m):(execOp a.eval ⟨dst,.load T x,ty,pos,af,g⟩).run P w=.ok (.value (.agg ds.toArray)) w :=
  ek hf hT hx hl λk c hk=>by
    rw[add_lit,FY,←add_lit]
    refine (H.get i hi).2.2 _ c ?_
    rw[←hk,←hd]
    have hlt:k<m:=by have:=(DK.1 hk).1; omega
    simp [hlt]
theorem qZ (hf:Fr a n L) {T:TypeId} {f off:Nat} (hT:FA P T f off) {x:Operand} {b j:Nat} (hx:ev L x=some (.pointer (some ⟨b,j,none⟩))) :
    (execOp a.eval ⟨dst,.fieldAddr T x f,ty,pos,af,g⟩).run P w=.ok (.value (.pointer (some ⟨b,j + off,none⟩))) w:=by
 have h1:=hT w ⟨b,j,none⟩;rw[add_lit]at h1;simp [execOp,hf.eval hx,h1]
theorem sX (hf:Fr a n L) {x:Operand} {p:Addr} (hx:ev L x=some (.pointer (some p))) :
    (execOp a.eval ⟨dst,.nilCheck x,ty,pos,af,g⟩).run P w=.ok (.value (.pointer (some p))) w:=by
 simp [execOp,hf.eval hx]
theorem run_indexAt {T E:TypeId} {m:Nat} (hT:P.underlying T=some (.slice E)) (hE:SZ P E m) {p:Addr} {len cap:Nat} {k:IntKind} {i:Int} (h0:0≤i) (h1:i<len) :
    (Instr.indexAt T (.slice (some p) len cap) (.int k i)).run P w=.ok (.pointer (some (p.add (i.toNat * m)))) w:=by
 have hE':∀w,(Go.sizeOf E).run P w=.ok m w:=hE;simp [Instr.indexAt,asIntOf,run_underlying hT,h0,h1,hE']
theorem sY (hf:Fr a n L) (H:Mem w0 S M R D I w) {α:Type} [GoTy α] {T E:TypeId} (hT:P.underlying T=some (.slice E)) (hE:SZ P E (GoTy.n α)) {x y:Operand} {A:Option Addr} {len cap:Nat} {k:IntKind} {i:Int} {xs:List α} {e:α} {f:Bool}
    (j:Nat) (hx:ev L x=some (.slice A len cap)) (hy:ev L y=some (.int k i)) (hi:I[j]?=some (f,MP.val [.slice A len cap] xs)) (he:idx xs i=some e) :
    ∃b o cs,(execOp a.eval ⟨dst,.indexAddr T x y,ty,pos,af,g⟩).run P w=.ok (.value (.pointer (some ⟨b,o,none⟩))) w∧GoTy.rep w (St w0 S M R D f) cs e∧Mem w0 S M R D ((f,MP.cells ⟨b,o,none⟩ cs)::I) w:=by
  obtain⟨A',cap',hcs,hlc,hcm,hel⟩:lrep w (St w0 S M R D f) [.slice A len cap] xs:=H.get j hi;obtain⟨h0,hl,hg⟩:=ke he;simp only[Eu,Value.slice.injEq,and_true]at hcs;obtain⟨rfl,rfl,rfl⟩:=hcs;obtain⟨p,rfl,hp,cs,hc,hr⟩:=hel _ _ hg;have hlt:p.block<w.heap.size:=ElemAt.lt (S:=St w0 S M R D f) (i:=i.toNat) (x:=e) ⟨cs,hc,hr⟩;have hlen:=GoTy.len hr;have hpos:=GoTy.pos (α:=α);have hq:p.add (i.toNat * GoTy.n α)=⟨p.block,(p.add (i.toNat * GoTy.n α)).off,none⟩:=by
    have h0:=hc 0 _ (Dy (by omega))
    rw[Ez]at h0
    have hs:(p.add (i.toNat * GoTy.n α)).spot=none:=by
      unfold World.cell? at h0
      cases hsp:(p.add (i.toNat * GoTy.n α)).spot with
      | none=>rfl
      | some s =>
        rw[hsp]at h0
        split at h0 <;> simp at h0
    rw[←block_add p (i.toNat * GoTy.n α)]
    generalize p.add (i.toNat * GoTy.n α)=q at hs
    cases q; simp only at hs; subst hs; rfl
  refine⟨p.block,(p.add (i.toNat * GoTy.n α)).off,cs,?_,hr,H.push _ ⟨hp,hlt,λq c hq'=>by rw[←hq,add_add]; exact hc q c hq'⟩⟩;have h1:=run_indexAt (P:=P) (w:=w) (cap:=cap) hT hE h0 hl (p:=p) (k:=k);rw[←hq];simp [execOp,hf.eval hx,hf.eval hy,h1]
theorem yj (hf:Fr a n L) (H:Mem w0 S M R D I w) {T:TypeId} {x:Operand} {v:Value} {cs:List Value} (hx:ev L x=some v) (hcs:v.cells=cs.toArray) (hdn:d<n)
    (k:∀b a' w',Fr a' n ((d,.pointer (some ⟨b,0,none⟩))::L)→Mem w0 S (⟨b,T,cs⟩::M) R D I w'→K a' w'):Oper.wp P ⟨some d,.box T x,ty,pos,af,g⟩ a w K Q:=by
 have h1:(execOp a.eval ⟨some d,.box T x,ty,pos,af,g⟩).run P w=.ok (.value (.pointer (some ⟨w.heap.size,0,none⟩))) (w.alloc (.cells cs.toArray T)):=by
   simp [execOp,Instr.box,newVar,newRow,hf.eval hx,hcs]
 unfold Oper.wp;rw[h1,Oper.upon_value];exact k _ _ _ (hf.put hdn _) (H.alloc T cs)
theorem uY (hf:Fr a n L) (H:Mem w0 S M R D I w) {T:TypeId} {z:Value} {cs:List Value} (hz:ZV P T z) (hcs:z.cells=cs.toArray) (hdn:d<n)
    (k:∀b a' w',Fr a' n ((d,.pointer (some ⟨b,0,none⟩))::L)→Mem w0 S (⟨b,T,cs⟩::M) R D I w'→K a' w'):Oper.wp P ⟨some d,.alloc T,ty,pos,af,g⟩ a w K Q:=by
 have hz':∀w,(zeroValue T).run P w=.ok z w:=hz;have h1:(execOp a.eval ⟨some d,.alloc T,ty,pos,af,g⟩).run P w=.ok (.value (.pointer (some ⟨w.heap.size,0,none⟩))) (w.alloc (.cells cs.toArray T)):=by
   simp [execOp,Instr.alloc,newVar,newRow,hz',hcs]
 unfold Oper.wp;rw[h1,Oper.upon_value];exact k _ _ _ (hf.put hdn _) (H.alloc T cs)
theorem kJ (H:Mem w0 S M R D I w):∀{i b:Nat} {T:TypeId} {cs:List Value} (vs:List Value) (j q:Nat),M[i]?=some ⟨b,T,cs⟩→(∀v∈vs,v.oneCell'=true)→j + q + vs.length≤cs.length →
    ∃w',(storeCells ⟨b,j,none⟩ vs q).run P w=.ok () w'∧Mem w0 S (M.set i ⟨b,T,cs.take (j + q)++vs++cs.drop (j + q + vs.length)⟩) R D I w':=by
 intro i b T cs vs;induction vs generalizing w M cs with
 | nil =>
   intro j q hi _ _
   refine⟨w,by simp [storeCells],?_⟩
   obtain⟨h1,h2⟩:=DK.1 hi
   rw[show cs.take (j + q)++[]++cs.drop (j + q + ([]:List Value).length)=cs by simp,←h2,List.set_getElem_self h1]
   exact H
 | cons v vs ih =>
   intro j q hi h1 hlen
   simp only[Ep]at hlen
   have hil:=(DK.1 hi).1
   have hcell:w.cell? ⟨b,j + q,none⟩=some (cs[j + q]'(by omega)):=by rw[H.cell hi]; exact Dy (by omega)
   have hst:(store ((⟨b,j,none⟩:Addr).add q) v).run P w=.ok () (w.setCell ⟨b,j + q,none⟩ v):=by
     rw[add_lit,run_store P w _ v .plain (h1 v (by simp)),hcell]
     simp [H.unfrozen hi]
   have H1:=H.set i hi (j + q) v
   obtain⟨w',hr,H2⟩:=ih (M:=M.set i ⟨b,T,cs.set (j + q) v⟩) (cs:=cs.set (j + q) v) H1 j (q + 1) (by simp [hil]) (λu hu=>h1 u (by simp [hu])) (by simp; omega)
   refine⟨w',?_,?_⟩
   · simp [storeCells,hst,hr]
   · have e:(cs.set (j + q) v).take (j + (q + 1))++vs++(cs.set (j + q) v).drop (j + (q + 1) + vs.length)=cs.take (j + q)++(v::vs)++cs.drop (j + q + (v::vs).length):=by
       have e1:(cs.set (j + q) v).take (j + (q + 1))=cs.take (j + q)++[v]:=by
         rw[show j + (q + 1)=(j + q) + 1 by omega,G7,Gy (by omega)]
         simp [G6,show j + q<cs.length by omega]
       rw[e1,Gw (by omega),Ep,show j + (q + 1) + vs.length=j + q + (vs.length + 1) by omega]
       simp
     rw[List.set_set,e]at H2
     exact H2
theorem d5 (hf:Fr a n L) (H:Mem w0 S M R D I w) {T:TypeId} {x y:Operand} {b j:Nat} {T':TypeId} {cs vs:List Value} {m:Nat} {v:Value} (i:Nat) (hT:SZ P T m) (hx:ev L x=some (.pointer (some ⟨b,j,none⟩))) (hy:ev L y=some v)
    (hv:v.cells=vs.toArray) (hi:M[i]?=some ⟨b,T',cs⟩) (h1:(vs.all Value.oneCell')=true) (hm:vs.length=m) (hlen:j + vs.length≤cs.length)
    (k:∀w',Mem w0 S (M.set i ⟨b,T',cs.take j++vs++cs.drop (j + vs.length)⟩) R D I w'→K a w'):Oper.wp P ⟨none,.store T x y,ty,pos,af,g⟩ a w K Q:=by
 have hT':∀w,(Go.sizeOf T).run P w=.ok m w:=hT;obtain⟨w',hr,H2⟩:=kJ (P:=P) H vs j 0 hi (by simpa using h1) (by simpa using hlen);have h2:(execOp a.eval ⟨none,.store T x y,ty,pos,af,g⟩).run P w=.ok .skip w':=by
   simp [execOp,Instr.storeAt,Instr.sureAddr,storeVar,hf.eval hx,hf.eval hy,hv,hT',hm,hr]
 unfold Oper.wp;rw[h2,Oper.upon_skip];exact k w' (by simpa using H2)
theorem iT (hf:Fr a n L) {f:FuncId} (hk:CL P f) {xs:List Operand} {ats:Array TypeId} {vs:List Value} (hxs:evs L xs=some vs) (hdn:d<n) {Post:Value→World→Prop}
    (hc:Calls P f vs.toArray w λe w'=>∃v,e=.returned v∧Post v w') (k:∀v w' a',Post v w'→Fr a' n ((d,v)::L)→K a' w') :
    Oper.wp P ⟨some d,.call ⟨.value (.func f),xs.toArray,ats⟩,ty,pos,af,g⟩ a w K Q:=by
 have hk':∀args w,(callFunc f args).run P w=.ok (.enter f args) w:=hk;unfold Oper.wp;rw[execOp_call_go,hk'];simp only[Array.empty_append,Array.append_empty,Gr,hf.evals hxs,Oper.upon_enter];refine hc.mono λe w' ⟨v,he,hp⟩=>?_;subst he;exact k v w' _ hp (hf.put hdn v)
theorem Mem.new (H:Mem w0 S M R D I w) {b:Nat} (h:w.heap.size≤b) (f:Bool):St w0 S M R D f b :=
  .inr ⟨MemZ.nw_new H h,λh2=>by have:=(MemZ.lt H b (cK h2)).2; omega⟩
theorem Mem.res (H:Mem w0 S M R D I w) {w':World} {f:MP} {fa tag:Bool} (h:f.pred w' (St ⟨w,[]⟩ (St w0 S M R D fa) [] [] [] tag)):f.pred w' (St w0 S M R D (if tag then true else fa)) :=
  f.mono h λb hb _=>by
    refine⟨?_,rfl⟩
    rcases hb with ⟨rfl,hlt,h1⟩ | ⟨h1 | h1,_⟩
    · simpa using h1
    · exact H.new h1 _
    · cases h1
theorem enter {f:FuncId} {fn:Func} {c:Code} {args:List Value} {Rr:Ending→World→Prop} (hF:P.funcs[f]?=some fn) (hb:fn.body=some c) (hn:fn.ntmps=n) (hl:args.length≤n) (hL:(args.zipIdx.map λp=>(p.2,p.1))=L)
    (h:∀a,Fr a n L→c.wp P (bodyPost P fn Rr) a w):Calls P f args.toArray w Rr :=
  calls_of_wp hF hb (h _ (by subst hn; rw[←hL]; exact Fr.entry args _ hl))
theorem sq {x y:Code} (h:x.wp P (Exit.then (y.wp P Q) Q) a w):(Code.seq x y).wp P Q a w:=wp_seq h
theorem cd_t (hf:Fr a n L) {c:Operand} {x y:Code} {b:Bool} (hc:ev L c=some (.bool b)) (hb:b=true) (h:x.wp P Q a w):(Code.cond c x y).wp P Q a w :=
  wp_cond_true (by rw[hf.eval hc,hb]) h
theorem cd_f (hf:Fr a n L) {c:Operand} {x y:Code} {b:Bool} (hc:ev L c=some (.bool b)) (hb:b=false) (h:y.wp P Q a w):(Code.cond c x y).wp P Q a w :=
  wp_cond_false (by rw[hf.eval hc,hb]) h
theorem nt {b:Bool} (h:b=false):¬b=true:=by rw[h]; decide
theorem rG {σ:Type} {c:Code} (G:Nat→σ→Prop) (Inv:σ→Act→World→Prop) (h0:∀s,¬G 0 s)
    (round:∀k s a w,G (k + 1) s→Inv s a w→c.wp P (Exit.then (λa' w'=>∃s',G k s'∧Inv s' a' w') Q) a w) :
    ∀k s a w,G k s→Inv s a w→(Code.loop c).wp P Q a w:=by
 intro k s a w hG hI b kk cs;have key:∀k s a w,G k s→Inv s a w→∃e a' w',Q e a' w'∧Arrives P (lone (b.at a (.code c::.inLoop c::kk)) cs w) b kk cs e a' w':=by
   intro k
   induction k with
   | zero=>intro s a w hG; exact absurd hG (h0 s)
   | succ k ih =>
     intro s a w hG hI
     obtain⟨e,a1,w1,hq,harr⟩:=round k s a w hG hI b (.inLoop c::kk) cs
     cases e with
     | normal =>
       obtain⟨s',hG',hI'⟩:=hq
       obtain⟨e2,a2,w2,hq2,harr2⟩:=ih s' a1 w1 hG' hI'
       exact⟨e2,a2,w2,hq2,.of_steps (Steps.trans harr (.one step_inLoop)) harr2⟩
     | exit id=>exact⟨_,a1,w1,hq,.pass (x:=.inLoop c) rfl (λ_ _=>.inl (by simp)) harr⟩
     | goto l=>exact⟨_,a1,w1,hq,.pass (x:=.inLoop c) rfl (λ_ _=>.inl (by simp)) harr⟩
     | ret=>exact⟨_,a1,w1,hq,.pass (x:=.inLoop c) rfl (λ_ _=>.inl (by simp)) harr⟩
     | panic ch=>exact⟨_,a1,w1,hq,.pass (x:=.inLoop c) rfl (λ_ _=>.inl (by simp)) harr⟩
     | outgrown=>exact⟨_,a1,w1,hq,.pass (x:=.inLoop c) rfl (λ_ _=>.inl (by simp)) harr⟩
 obtain⟨e,a',w',hq,harr⟩:=key k s a w hG hI;exact⟨e,a',w',hq,.of_steps (.one step_loop) harr⟩
end
end AT
namespace AT
open Go Go.RowKit
section
variable {P:Program} {Q:Exit→Act→World→Prop} {a:Act} {w:World} {w0:Base} {n:Nat} {L:List (Nat×Value)} {K:Act→World→Prop}
variable {S:Nat→Prop} {M:List Blk} {R:List Row} {D:List DI} {I:List (Bool×MP)} {dst:Option Tmp} {d:Nat} {ty:TypeId} {pos:String} {af:Array Edge} {g:Option (Nat×Bool)}
def RV (P:Program) (w:World) (a:Act):ResultVar→Value→Prop
  | .tmp t,v=>a.tmps.getD t undef=v
  | .cell ad T,v=>∃p,a.tmps.getD ad undef=.pointer (some p)∧(loadVar T p).run P w=.ok v w
theorem uL (hf:Fr a n L) {t:Nat} {v:Value} (h:lk L t=some v):RV P w a (.tmp t) v:=hf.eval (x:=.tmp t) h
theorem uy (hf:Fr a n L) (H:Mem w0 S M R D I w) {t:Nat} {T T':TypeId} {m b:Nat} {cs:List Value} (i:Nat) (hT:LA P T m) (h:lk L t=some (.pointer (some ⟨b,0,none⟩))) (hi:M[i]?=some ⟨b,T',cs⟩) (hl:cs.length=m) :
    RV P w a (.cell t T) (.agg cs.toArray):=by
 refine⟨_,hf.eval (x:=.tmp t) h,?_⟩;rw[hT,←hl,Sem.run_bind,run_loadCells_list (P:=P) w _ cs (λj c hj=>by rw[add_lit,Ey,H.cell hi]; exact hj)];rfl
inductive RVs (P:Program) (w:World) (a:Act):List ResultVar→List Value→Prop
  | nil:RVs P w a [] []
  | cons {r v rs vs} (h:RV P w a r v) (t:RVs P w a rs vs):RVs P w a (r::rs) (v::vs)
variable {fn:Func} {Rr:Ending→World→Prop} {r s:ResultVar}
theorem d4 {rs:List ResultVar} {vs:List Value} (hres:fn.results=rs.toArray) (h:RVs P w a rs vs) :
    (results fn a.tmps).run P w=.ok (if h:vs.toArray.size=1 then vs.toArray[0] else .tuple vs.toArray) w:=by
 have key:∀(f:ResultVar→Sem Value),(∀t,f (.tmp t)=pure (a.tmps.getD t undef))→(∀ad t,f (.cell ad t)=(asAddr (a.tmps.getD ad undef) >>= λp=>loadVar t p)) →
     ∀{rs:List ResultVar} {vs:List Value},RVs P w a rs vs→(rs.mapM f).run P w=.ok vs w:=by
   intro f f1 f2 rs vs h
   induction h with
   | nil=>simp
   | @cons r v rs vs h t ih =>
     simp only[List.mapM_cons,Sem.run_bind,Sem.run_pure]
     cases r with
     | tmp t =>
       simp only[RV]at h
       simp only[f1,Sem.run_pure,Result.andThen_ok,ih,h]
     | cell ad T =>
       obtain⟨p,h1,h2⟩:=h
       have h3:(asAddr (a.tmps.getD ad undef) >>= λp=>loadVar T p:Sem Value).run P w=.ok v w:=by
         rw[h1]; simpa [asAddr] using h2
       simp only[f2,h3,ih,Result.andThen_ok]
 unfold results;rw[hres,List.mapM_toArray,Sem.run_bind,Sem.run_map,key _ (λ_=>rfl) (λ_ _=>rfl) h];rfl
theorem xO {v:Value} (hf:Fr a n L) (hres:fn.results=#[r]) (h:RV P w a r v) (hR:Rr (.returned v) w):bodyPost P fn Rr .ret a w :=
  ⟨hf.defs,_,d4 (rs:=[r]) hres (.cons h .nil),by simpa using hR⟩
theorem aC {v u:Value} (hf:Fr a n L) (hres:fn.results=#[r,s]) (h:RV P w a r v) (h':RV P w a s u) (hR:Rr (.returned (.tuple #[v,u])) w):bodyPost P fn Rr .ret a w :=
  ⟨hf.defs,_,d4 (rs:=[r,s]) hres (.cons h (.cons h' .nil)),by simpa using hR⟩
theorem js {t:ResultVar} {v u x:Value} (hf:Fr a n L) (hres:fn.results=#[r,s,t]) (h:RV P w a r v) (h':RV P w a s u) (h'':RV P w a t x) (hR:Rr (.returned (.tuple #[v,u,x])) w):bodyPost P fn Rr .ret a w :=
  ⟨hf.defs,_,d4 (rs:=[r,s,t]) hres (.cons h (.cons h' (.cons h'' .nil))),by simpa using hR⟩
theorem rc (hf:Fr a n L) (hres:fn.results=#[]) (hR:Rr (.returned (.tuple #[])) w):bodyPost P fn Rr .normal a w :=
  ⟨hf.defs,_,d4 (rs:=[]) hres .nil,by simpa using hR⟩
theorem Mem.newRow (H:Mem w0 S M R D I w) {α:Type} [GoTy α] (k:Kd) (hk0:k.fd=[]) (E:TypeId) (xs:List α) (cells:List Value) (cap:Nat) (hcap:xs.length≤cap) (hmax:cap≤maxLen) (hlen:cells.length=cap * GoTy.n α)
    (hfit:k.fits xs.length) (hel:∀i x,xs[i]?=some x→k.holds w (St w0 S M R D k.fresh) i (xp α cells i) x) :
    Mem w0 S M (⟨k,E,some ⟨w.heap.size,0,none⟩,cap,xs⟩::R) D I (w.alloc (.cells cells.toArray E)):=by
 refine MemZ.perm (MemZ.add (r:=Row.res ⟨k,E,some ⟨w.heap.size,0,none⟩,cap,xs⟩) H (Chg.alloc _ _ _) (λb hb=>?_) ?_ λhm=>?_) (aX _).symm;simp [Res.all,Row.res,Row.v,Value.ownBlock,hk0]at hb;subst hb; simp;simp [Res.all,Row.res,Row.v,Value.ownBlock,hk0];refine⟨cells.take (xs.length * GoTy.n α),oW _ ⟨?_,.inr ⟨w.heap.size,cap,cells.toArray,rfl,Fu _,heap_alloc_new w _,hcap,hmax,by simpa using hlen,by simp⟩⟩,hfit,λi x hx=>?_⟩;simp only[DO,hlen];exact ER (D5 _ hcap);have hi:i<xs.length:=(DK.1 hx).1;have h2:i * GoTy.n α + GoTy.n α≤xs.length * GoTy.n α:=by
   have:=D5 (GoTy.n α) (show i + 1≤xs.length from hi)
   rwa [Fq]at this
 have e:xp α (cells.take (xs.length * GoTy.n α)) i=xp α cells i:=by
   unfold xp
   rw[Gm,Ft,ER (by omega)]
 rw[e];exact Kd.holds_mono (hel i x hx) (by rw[hk0]; intro b hb; cases hb) (hm _)
theorem Mem.nilRow (H:Mem w0 S M R D I w) (α:Type) [GoTy α] (k:Kd) (hk0:k.fd=[]) (hfit:k.fits 0) (E:TypeId):Mem w0 S M (⟨k,E,none,0,([]:List α)⟩::R) D I w:=by
 refine MemZ.perm (MemZ.add (r:=Row.res ⟨k,E,none,0,([]:List α)⟩) H (Chg.refl _ _) (λb hb=>?_) ?_ λhm=>?_) (aX _).symm;simp [Res.all,Row.res,Row.v,Value.ownBlock,hk0]at hb;simp [Res.all,Row.res,Row.v,Value.ownBlock,hk0];exact⟨[],oW _ (World.ownsRow_nil _ _ _ _),hfit,λi x hx=>by simp at hx⟩
theorem Mem.rowAtK (H:Mem w0 S M R D I w) {r:Row} (hr:r∈R):r.ok w (St w0 S M R D r.k.fresh):=MemZ.ok H r.res (Dx.2 (.inr (Dx.2 (.inl (Eh.2 ⟨r,hr,rfl⟩)))))
theorem Mem.rowAt (H:Mem w0 S M R D I w) {r:Row} (hr:r∈R) (hk:r.k.free=false:=by exact rfl):∃cells,w.ownsRow 0 r.E (GoTy.n r.α) r.v r.xs.length cells∧r.k.fits r.xs.length∧∀i x,r.xs[i]?=some x→r.k.holds w (St w0 S M R D r.k.fresh) i (xp r.α cells i) x:=by
 obtain⟨cells,ho,rest⟩:=H.rowAtK hr;rw[hk]at ho;exact⟨cells,ho,rest⟩
theorem Mem.diAt (H:Mem w0 S M R D I w) {d:DI} (hd:d∈D):d.p.pred w (·∈d.F):=(MemZ.ok H d.res (Dx.2 (.inr (Dx.2 (.inr (Eh.2 ⟨d,hd,rfl⟩)))))).1
end
end AT
