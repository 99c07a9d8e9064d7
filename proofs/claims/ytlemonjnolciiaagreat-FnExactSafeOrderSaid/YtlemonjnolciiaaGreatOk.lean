/- What is known of data that came in, by program (law.py). -/
import Derived.Test.YtlemonjnolciiaaGreatF
namespace AT
def qI (x:By):Prop:=(0≤x.n∧x.n≤255)
def sr (x:List By):Prop:=((∀ e∈x,qI e)∧x.length≤9223372036854775807)
def mc (x:ByteArray):Prop:=x.size≤9223372036854775807
def jz (x:List ByteArray):Prop:=((∀ e∈x,mc e)∧x.length≤9223372036854775807)
def dj (x:Int):Prop:=(-9223372036854775808≤x∧x≤9223372036854775807)
def j4 (x:Np):Prop:=dj x.A∧dj x.B∧dj x.Nt∧dj x.Pj
def fN (x:List Np):Prop:=((∀ e∈x,j4 e)∧x.length≤9223372036854775807)
def eo (x:Nk):Prop:=jz x.Ng∧fN x.Nq
def jA (x:List Int):Prop:=((∀ e∈x,dj e)∧x.length≤9223372036854775807)
def ij (x:Nz):Prop:=dj x.Pz∧jA x.Nq
def j5 (x:Nj):Prop:=dj x.Px∧dj x.Pk
def ik (x:Nw):Prop:=dj x.Id∧ij x.Nz∧j5 x.Nj
def fM (x:List Nw):Prop:=((∀ e∈x,ik e)∧x.length≤9223372036854775807)
def el (x:Nd):Prop:=eo x.Nk∧fM x.Nv
end AT
