/- Texts of ours. No condition. -/
import Derived.Test.YtfmobncdogfbmaaGreatR11
set_option linter.all false
open List renaming map->aa,findIdx?->ab,take->ac,drop->ae,length->af
open Go.IntKind renaming i64->ag,u8->aj,u32->ak
open Bool renaming true->am,false->ao
open Sx.fq renaming rk->ap,cells->aq,own->ar,kr->au
open Option renaming some->av,none->aw
open Int renaming toNat->ax
open BitVec renaming ofInt->ay
open True renaming intro->Y_
open Cv.dp renaming mk->W_
namespace Sx
set_option maxRecDepth 100000
open Go Cv Go.Proofs
open Tryz renaming prog->Z_
open Tryz hiding prog
def y2q (i:Q_ D):Prop:=
 ∀(b:Bool),(b=am->i=[])->dp b (∃(o:Unit),i=[]/\True) ((0+i.length)*(112:Nat)<=(140737488355328:Nat)/\∃(o:Unit),i=[]++i/\True)
def y6c (i:Q_ D):y2q i=walk Z_ ([]) 0 ([]) ([]) [] Tryz.f153 (Tryz.f153.body.getD .skip) (Ar.pat i) (Ar.pre i) (Ar.alts i):=by kernel_rfl
def y9i (hG:zq Z_ ([])) (h:∀(i:Q_ D),Ar.dp i->y2q i):Ar.ok Z_ 153:=qY mixed ([]) hG 0 (λ(i:Q_ D)=>[]) (λ(i:Q_ D)=>[]) [] func153 (by kernel_rfl) (by kernel_rfl) (by kernel_rfl) (λ_=>by kernel_rfl) (λ(i:Q_ D) hc=>Eq.mp (y6c i) (h i hc))
def y3e (i:Q_ D):Prop:=
 ∀(b:Bool),(b=am->i=[])->dp b (∃(o:Unit),i=[]/\True) ((0+i.length)*(24:Nat)<=(140737488355328:Nat)/\∃(o:Unit),i=[]++i/\True)
def y5y (i:Q_ D):y3e i=walk Z_ ([]) 0 ([]) ([]) [] Tryz.f154 (Tryz.f154.body.getD .skip) (Av.pat i) (Av.pre i) (Av.alts i):=by kernel_rfl
def y6e (hG:zq Z_ ([])) (h:∀(i:Q_ D),Av.dp i->y3e i):Av.ok Z_ 154:=qY mixed ([]) hG 0 (λ(i:Q_ D)=>[]) (λ(i:Q_ D)=>[]) [] func154 (by kernel_rfl) (by kernel_rfl) (by kernel_rfl) (λ_=>by kernel_rfl) (λ(i:Q_ D) hc=>Eq.mp (y5y i) (h i hc))
def zIf (a:Nat->Prop) (b:Nat) (c:Nat->Nat) (d:Nat) (e:o6):Prop:=a b/\c b<c d/\dk (aq ot.cl 59)/\dk (au 10 (aa zA e.v))
def lG (a:o6) (b:Nat) (c:Q_ D) (d:Nat->Prop) (e:Nat->Nat) (f:Nat):Prop:=(bif decide (a.n<b)then a.lv else[])=c/\zIf d b e f a
def fT (a:o6) (b:Nat) (c:Q_ D):=(zJ (aa zA a.v) (b:Int).toNat 0 [D.ro 3 c])
def lT (a:Nat) (b:o6) (c:Q_ D):Prop:=0<=(a:Int)/\(a:Int)<((fT b a c).length:Int)
def fQ (a:Nat) (b:o6):Prop:=0<=(a:Int)/\(a:Int)<((aa zA b.v).length:Int)
def yNx (i:o6):Prop:=
 ∃(a:Q_ D),a=aa zA i.v/\a.length*(112:Nat)<=(140737488355328:Nat)/\ff (∃(c:Nat),(c:Int)=0/\(aa zA i.v=a/\decide (i.n<c)=ao)/\(bif decide (i.n<c)then i.lv else[])=[]/\∃(d:Nat->Prop),∃(e:Nat->Nat),d c/\∀(f:Nat),d f->dp (decide ((f:Int)<(a.length:Int))) ((fQ f i)/\∃(g:Q_ D),zC (aa zA i.v) (f:Int).toNat 0 1=av [D.ro 3 g]/\(i.f<10/\(decide (i.n<f)=am->(f:Int).toNat=i.n->(0:Nat)+(1:Nat)<=i.f\/i.f<0))/\(fQ f i)/\∃(h:Q_ D),h=g/\h.length*(24:Nat)<=(140737488355328:Nat)/\ff (((fQ f i)/\dk ((f:Int).toNat))/\True/\((f:Int).toNat<(aa zA i.v).length/\(0:Nat)<(10:Nat))/\((f:Int).toNat=i.n->0=i.f->(fQ f i)/\∃(k:Q_ D),zC (aa zA i.v) (f:Int).toNat 5 1=av [D.ro 3 k]/\(i.f<10/\(am=am->(f:Int).toNat=i.n->(5:Nat)+(1:Nat)<=i.f\/i.f<5))/\(fQ f i)/\∃(l:Q_ D),l=k/\l.length*(24:Nat)<=(140737488355328:Nat)/\ff (((fQ f i)/\dk ((f:Int).toNat))/\True/\((f:Int).toNat<(aa zA i.v).length/\(5:Nat)<(10:Nat))/\((f:Int).toNat=i.n->5=i.f->∃(n:Nat),(n:Int)=ag.wrap ((f:Int)+1)/\(dk (aa zA i.v)/\i.n=i.n/\i.f=i.f/\decide (i.n<n)=am)/\lG i n l d e f)/\i.f<10/\(¬((f:Int).toNat=i.n/\5=i.f)->dk (qg.mk ao vS 10 (aa zA i.v) i.n i.f am (av ((0:Nat)+(1:Nat)+(1:Nat)+(1:Nat)+((1:Nat)-(0:Nat))+(1:Nat)+(3:Nat)+nat_lit 0)))/\∃(n:Nat),(n:Int)=ag.wrap ((f:Int)+1)/\(aa zA i.v=zJ (aa zA i.v) (f:Int).toNat 5 [D.ro 3 l]/\i.n=i.n/\i.f=i.f/\decide (i.n<n)=am)/\lG i n h d e f)))/\i.f<10/\(¬((f:Int).toNat=i.n/\0=i.f)->dk (qg.mk ao vS 10 (aa zA i.v) i.n i.f (decide (i.n<f)) (oN (aY (λ(x:Nat) ↦ ao) ((0:Nat)+(1:Nat)+(1:Nat)+(1:Nat)+((1:Nat)-(0:Nat))+1) [((2:Nat),(0:Nat)+(1:Nat)+(1:Nat)+(1:Nat)+((1:Nat)-(0:Nat))),((1:Nat),(0:Nat)+(1:Nat)+(1:Nat)+(1:Nat)+nat_lit 0),((0:Nat),(0:Nat)+(1:Nat))] 0 [aq [V.own 1] (59:TypeId),fq.uq ao vS 10 (aa zA i.v) i.n i.f (decide (i.n<c)) (av 2),ar EZ 3 (bif decide (i.n<c)then i.lv else[])]) (av 2)))/\(lT f i h)/\∃(k:Q_ D),zC (fT i f h) (f:Int).toNat 5 1=av [D.ro 3 k]/\(i.f<10/\(decide (i.n<f)=am->(f:Int).toNat=i.n->(5:Nat)+(1:Nat)<=i.f\/i.f<5))/\(lT f i h)/\∃(l:Q_ D),l=k/\l.length*(24:Nat)<=(140737488355328:Nat)/\ff (((lT f i h)/\dk ((f:Int).toNat))/\True/\((f:Int).toNat<(fT i f h).length/\(5:Nat)<(10:Nat))/\((f:Int).toNat=i.n->5=i.f->∃(n:Nat),(n:Int)=ag.wrap ((f:Int)+1)/\(aa zA i.v=zJ (aa zA i.v) (f:Int).toNat 0 [D.ro 3 h]/\i.n=i.n/\i.f=i.f/\decide (i.n<n)=am)/\lG i n l d e f)/\i.f<10/\(¬((f:Int).toNat=i.n/\5=i.f)->dk (qg.mk ao vS 10 (fT i f h) i.n i.f (decide (i.n<f)) (oN (aY (λ(x:Nat) ↦ ao) ((0:Nat)+(1:Nat)+(1:Nat)+(1:Nat)+((1:Nat)-(0:Nat))+1) [((2:Nat),(0:Nat)+(1:Nat)+(1:Nat)+(1:Nat)+((1:Nat)-(0:Nat))),((1:Nat),(0:Nat)+(1:Nat)+(1:Nat)+(1:Nat)+nat_lit 0),((0:Nat),(0:Nat)+(1:Nat))] 0 [aq [V.own 1] (59:TypeId),fq.uq ao vS 10 (aa zA i.v) i.n i.f (decide (i.n<c)) (av 2),ar EZ 3 (bif decide (i.n<c)then i.lv else[])]) (av 2)))/\∃(n:Nat),(n:Int)=ag.wrap ((f:Int)+1)/\(aa zA i.v=zJ (fT i f h) (f:Int).toNat 5 [D.ro 3 l]/\i.n=i.n/\i.f=i.f/\decide (i.n<n)=decide (i.n<f))/\((bif decide (i.n<n)then i.lv else[])=bif decide (i.n<f)then i.lv else[])/\zIf d n e f i))))) (dx ((dk (aa zA i.v)/\i.n=i.n/\i.f=i.f/\am=decide (i.n<f))/\(i.lv=bif decide (i.n<f)then i.lv else[])/\True)))
def z9y (i:MJ):Prop:=
 dp (decide (i.m.inst<0)) (dx (gi.iO i.k i.m=20/\True)) (dp (decide (i.m.inst>=i.k)) (dx (gi.iO i.k i.m=20/\True)) (dp (i.m.side !=1) (dp (i.m.side !=2) (dx (gi.iO i.k i.m=21/\True)) (dp (decide (i.m.dr<0)) (dx (gi.iO i.k i.m=24/\True)) (dp (decide (i.m.count<0)) (dx (gi.iO i.k i.m=24/\True)) (dp (!(i.m.dr==0)==(i.m.count==0)) (dx (gi.iO i.k i.m=24/\True)) (dx (gi.iO i.k i.m=0/\True)))))) (dp (decide (i.m.dr<0)) (dx (gi.iO i.k i.m=24/\True)) (dp (decide (i.m.count<0)) (dx (gi.iO i.k i.m=24/\True)) (dp (!(i.m.dr==0)==(i.m.count==0)) (dx (gi.iO i.k i.m=24/\True)) (dx (gi.iO i.k i.m=0/\True)))))))
def tC (a:we):Prop:=aa iq a.L=aa iq a.L/\dk a.m.seq/\dk a.m.inst/\dk a.m.side/\dk a.m.dm/\dk a.m.dr/\dk a.m.count/\dk a.m.gg/\True
def VE (a:Nat) (b:Nat->Prop) (c:Nat->Nat) (d:we):Prop:=∃(e:Nat),QM e a b c (dk (ar EZ 3 (aa iq d.L))/\dk (RI d.m))
def xFk (i:we):Prop:=
 ∃(a:Nat),(a:Int)=0/\∃(b:Nat->Prop),∃(c:Nat->Nat),b a/\∀(d:Nat),b d->dp (decide ((d:Int)<((aa iq i.L).length:Int))) ((0<=(d:Int)/\(d:Int)<((aa iq i.L).length:Int))/\∃(e:Int),∃(f:Int),∃(g:Int),zC (aa iq i.L) (d:Int).toNat 0 3=av [dI e,dI f,dI g]/\dp (e==i.m.dm) (dx (oI (ab (λ(y:Lv) ↦ decide (y.dm=i.m.dm)) i.L)=(d:Int)/\tC i)) (VE d b c i)) (dx (oI (ab (λ(y:Lv) ↦ decide (y.dm=i.m.dm)) i.L)=(-1)/\tC i))
def xDu (i:we):Prop:=
 ∃(a:Nat),(a:Int)=0/\∃(b:Nat->Prop),∃(c:Nat->Nat),b a/\∀(d:Nat),b d->dp (decide ((d:Int)<((aa iq i.L).length:Int))) ((0<=(d:Int)/\(d:Int)<((aa iq i.L).length:Int))/\∃(e:Int),∃(f:Int),∃(g:Int),zC (aa iq i.L) (d:Int).toNat 0 3=av [dI e,dI f,dI g]/\∃(h:I3),h.side=i.m.side/\h.x=i.m.dm/\h.y=e/\True/\ff (dp (xJ h.side h.x h.y) (dx (oI (ab (λ(y:Lv) ↦ xJ i.m.side i.m.dm y.dm) i.L)=(d:Int)/\tC i)) (VE d b c i))) (dx (oI (ab (λ(y:Lv) ↦ xJ i.m.side i.m.dm y.dm) i.L)=(-1)/\tC i))
def VC (a:o6):Prop:=a.n<af a.v/\af a.v<=1000000/\af a.v<=1099511627776/\∀(b:Sd×Sd),b∈a.v->qN b
def wQ:=(oN (HF 0 ((0:Nat)+(1:Nat)+(1:Nat)+(1:Nat)+1+((0:Nat)-(0:Nat))) ((2:Nat)-(0:Nat)) []) (av 1))
def qW (a:Ey):=(decide (a.m.dr>0))
@[reducible] def Qi (a b:we)(R:Prop):Prop:=aa iq a.L=aa iq b.L/\a.m.seq=b.m.seq/\a.m.inst=b.m.inst/\a.m.side=b.m.side/\a.m.dm=b.m.dm/\a.m.dr=b.m.dr/\a.m.count=b.m.count/\a.m.gg=b.m.gg/\a.L.length<=1099511627776/\R
@[reducible] def Qm (a:Int)(b:o6)(R:Prop):Prop:=(a.toNat=b.n/\0=b.f/\am=am/\a.toNat<(aa zA b.v).length/\(0:Nat)<(10:Nat))/\((a.toNat=b.n/\0=b.f/\am=am/\a.toNat<(aa zA b.v).length/\(0:Nat)<(10:Nat))/\True)/\R
@[reducible] def Qs (a:gi)(b:o6)(c:we)(R:Prop):Prop:=(a.inst.toNat=b.n/\0=b.f/\am=am/\a.inst.toNat<(aa zA b.v).length/\(0:Nat)<(10:Nat))/\(0<=oI (ab (λ(y:Lv) ↦ decide (y.dm=c.m.dm)) c.L)/\oI (ab (λ(y:Lv) ↦ decide (y.dm=c.m.dm)) c.L)<((aa iq c.L).length:Int))/\(oI (ab (λ(y:Lv) ↦ decide (y.dm=c.m.dm)) c.L)).toNat<(aa iq c.L).length/\R
@[reducible] def QE (a:o6)(b:Ey)(c:Bv)(R:Prop):Prop:=(am=am/\a.n<(aa zA a.v).length/\a.f<10/\aa zA (ru b.v b.m)=zJ (aa zA a.v) a.n a.f [D.ro 3 (ac c.i c.fa++c.el::ae c.i c.fa)])/\(0:Int)=(0:Int)/\R
@[reducible] def QH (a:Bv)(b:we)(c:Ey)(R:Prop):Prop:=a.fa=aa iq b.L/\[a.el]=[[dI c.m.dm,dI c.m.dr,dI c.m.count]]/\(a.i<=a.fa.length/\(a.fa.length+1)*(24:Nat)<=(140737488355328:Nat))/\R
@[reducible] def QJ (a:o6)(b:Ey)(c:we)(R:Prop):Prop:=(am=am/\a.n<(aa zA a.v).length/\a.f<10/\aa zA (ru b.v b.m)=zJ (aa zA a.v) a.n a.f [D.ro 3 (zJ (aa iq c.L) (oI (ab (λ(y:Lv) ↦ decide (y.dm=c.m.dm)) c.L)).toNat 0 [dI b.m.dm,dI b.m.dr,dI b.m.count])])/\(0:Int)=(0:Int)/\R
@[reducible] def QQ (a:o6)(b:Ey)(c:we)(R:Prop):Prop:=(am=am/\a.n<(aa zA a.v).length/\a.f<10/\aa zA (ru b.v b.m)=zJ (aa zA a.v) a.n a.f [D.ro 3 (aa iq c.L)])/\(0:Int)=(0:Int)/\R
@[reducible] def QT (a:gi)(b:o6)(R:Prop):Prop:=a.inst.toNat=b.n/\0=b.f/\am=am/\a.inst.toNat<(aa zA b.v).length/\R
@[reducible] def QW (a:gi)(b:o6)(R:Prop):Prop:=(a.inst.toNat<(aa zA b.v).length/\(0:Nat)<(10:Nat))/\(a.inst.toNat=b.n/\0=b.f)/\R
@[reducible] def Q2 (a b:gi)(R:Prop):Prop:=a.dm=b.dm/\a.dr=b.dr/\a.count=b.count/\a.gg=b.gg/\R
@[reducible] def Q6 (a:LQ)(b:we)(R:Prop):Prop:=(a.i:Int)=oI (ab (λ(y:Lv) ↦ decide (y.dm=b.m.dm)) b.L)/\(a.j:Int)=ag.wrap (oI (ab (λ(y:Lv) ↦ decide (y.dm=b.m.dm)) b.L)+1)/\a.fa=aa iq b.L/\(a.i<a.j/\a.j<=a.fa.length)/\R
@[reducible] def YF (a:o6)(b:Ey)(c:LQ)(R:Prop):Prop:=(am=am/\a.n<(aa zA a.v).length/\a.f<10/\aa zA (ru b.v b.m)=zJ (aa zA a.v) a.n a.f [D.ro 3 (ac c.i c.fa++ae c.j c.fa)])/\(0:Int)=(0:Int)/\R
def xHe (i:Ey):Prop:=
 ∃(a:MJ),a.k=((aa zA i.v).length:Int)/\a.m.seq=i.m.seq/\a.m.inst=i.m.inst/\a.m.side=1/\Q2 a.m i.m (True/\ff (dp (gi.iO a.k a.m !=0) (dx (aa zA (ru i.v i.m)=[]/\0=gi.iO a.k a.m/\True)) (∃(c:o6),aa zA c.v=aa zA i.v/\(VC c)/\∀(d:Unit),True->(0<=i.m.inst/\i.m.inst<((aa zA c.v).length:Int))/\dp i.m.gg ((dk (qg.mk am vS 10 (aa zA c.v) c.n c.f am wQ)/\i.m.inst.toNat<(aa zA c.v).length/\(4:Nat)<=(10:Nat)/\c.f<10/\(am=am->i.m.inst.toNat=c.n->4<=c.f\/c.f<1))/\dk i.m.dr/\(dk (qg.mk am vS 10 (zJ (aa zA c.v) i.m.inst.toNat 1 [dI i.m.dm,dI i.m.dr,dI i.m.count]) c.n c.f am wQ)/\i.m.inst.toNat<(zJ (aa zA c.v) i.m.inst.toNat 1 [dI i.m.dm,dI i.m.dr,dI i.m.count]).length/\(5:Nat)<=(10:Nat)/\c.f<10/\(am=am->i.m.inst.toNat=c.n->5<=c.f\/c.f<4))/\∃(e:Bool),zC (zJ (zJ (aa zA c.v) i.m.inst.toNat 1 [dI i.m.dm,dI i.m.dr,dI i.m.count]) i.m.inst.toNat 4 [D.v (.bool (qW i))]) i.m.inst.toNat 4 1=av [D.v (.bool e)]/\(c.f<10/\(am=am->i.m.inst.toNat=c.n->(4:Nat)+(1:Nat)<=c.f\/c.f<4))/\dp (!e) ((dk (qg.mk am vS 10 (zJ (zJ (aa zA c.v) i.m.inst.toNat 1 [dI i.m.dm,dI i.m.dr,dI i.m.count]) i.m.inst.toNat 4 [D.v (.bool (qW i))]) c.n c.f am wQ)/\i.m.inst.toNat<(zJ (zJ (aa zA c.v) i.m.inst.toNat 1 [dI i.m.dm,dI i.m.dr,dI i.m.count]) i.m.inst.toNat 4 [D.v (.bool (qW i))]).length/\(4:Nat)<=(10:Nat)/\c.f<10/\(am=am->i.m.inst.toNat=c.n->4<=c.f\/c.f<1))/\dx ((am=am/\c.n<(zJ (zJ (zJ (aa zA c.v) i.m.inst.toNat 1 [dI i.m.dm,dI i.m.dr,dI i.m.count]) i.m.inst.toNat 4 [D.v (.bool (qW i))]) i.m.inst.toNat 1 [dI 0,dI 0,dI 0]).length/\c.f<10/\aa zA (ru i.v i.m)=zJ (zJ (zJ (zJ (aa zA c.v) i.m.inst.toNat 1 [dI i.m.dm,dI i.m.dr,dI i.m.count]) i.m.inst.toNat 4 [D.v (.bool (qW i))]) i.m.inst.toNat 1 [dI 0,dI 0,dI 0]) c.n c.f [D.ro 3 c.lv])/\dk ((0:Int))/\True)) (dx ((am=am/\c.n<(zJ (zJ (aa zA c.v) i.m.inst.toNat 1 [dI i.m.dm,dI i.m.dr,dI i.m.count]) i.m.inst.toNat 4 [D.v (.bool (qW i))]).length/\c.f<10/\aa zA (ru i.v i.m)=zJ (zJ (zJ (aa zA c.v) i.m.inst.toNat 1 [dI i.m.dm,dI i.m.dr,dI i.m.count]) i.m.inst.toNat 4 [D.v (.bool (qW i))]) c.n c.f [D.ro 3 c.lv])/\dk ((0:Int))/\True))) ((QT i.m c ((0:Nat)<(10:Nat)))/\((∃(mn:we),aa iq mn.L=c.lv/\mn.m.seq=i.m.seq/\mn.m.inst=i.m.inst/\mn.m.side=1/\Q2 mn.m i.m (mn.L.length<=1099511627776/\∀(d:Unit),True->dp (decide (oI (ab (λ(y:Lv) ↦ decide (y.dm=mn.m.dm)) mn.L)>=0)) (dp (mn.m.dr==0) ((QT i.m c ((0:Nat)<(10:Nat)))/\∃(oE:LQ),Q6 oE mn (∀(d:Unit),True->QW i.m c (dx (YF c i oE (True))))) (dp (decide (oI (ab (λ(y:Lv) ↦ decide (y.dm=mn.m.dm)) mn.L)>=0)) (Qs i.m c mn (dx (QJ c i mn (True)))) (dp (decide (mn.m.dr>0)) ((QT i.m c ((0:Nat)<(10:Nat)))/\((∃(i:we),False)\/(∃(oE:we),Qi oE mn (∀(d:Unit),True->dp (decide (oI (ab (λ(y:Lv) ↦ xJ oE.m.side oE.m.dm y.dm) oE.L)<0)) ((QT i.m c ((0:Nat)<(10:Nat)))/\Qm i.m.inst c (∃(ud:Bv),(ud.i:Int)=((aa iq oE.L).length:Int)/\QH ud oE i (∀(d:Unit),True->QW i.m c (dx (QE c i ud (True)))))) (Qm i.m.inst c (∃(ud:Bv),(ud.i:Int)=oI (ab (λ(y:Lv) ↦ xJ oE.m.side oE.m.dm y.dm) oE.L)/\QH ud oE i (∀(d:Unit),True->QW i.m c (dx (QE c i ud (True)))))))))) (dx (QQ c i mn (True)))))) (dp (decide (oI (ab (λ(y:Lv) ↦ decide (y.dm=mn.m.dm)) mn.L)>=0)) (Qs i.m c mn (dx (QJ c i mn (True)))) (dp (decide (mn.m.dr>0)) ((QT i.m c ((0:Nat)<(10:Nat)))/\((∃(i:we),False)\/(∃(oE:we),Qi oE mn (∀(d:Unit),True->dp (decide (oI (ab (λ(y:Lv) ↦ xJ oE.m.side oE.m.dm y.dm) oE.L)<0)) ((QT i.m c ((0:Nat)<(10:Nat)))/\Qm i.m.inst c (∃(ud:Bv),(ud.i:Int)=((aa iq oE.L).length:Int)/\QH ud oE i (∀(d:Unit),True->QW i.m c (dx (QE c i ud (True)))))) (Qm i.m.inst c (∃(ud:Bv),(ud.i:Int)=oI (ab (λ(y:Lv) ↦ xJ oE.m.side oE.m.dm y.dm) oE.L)/\QH ud oE i (∀(d:Unit),True->QW i.m c (dx (QE c i ud (True)))))))))) (dx (QQ c i mn (True)))))))\/(∃(i:we),False))))))
@[reducible] def Qn (a:Int)(b:o6)(R:Prop):Prop:=(a.toNat=b.n/\5=b.f/\am=am/\a.toNat<(aa zA b.v).length/\(5:Nat)<(10:Nat))/\((a.toNat=b.n/\5=b.f/\am=am/\a.toNat<(aa zA b.v).length/\(5:Nat)<(10:Nat))/\True)/\R
@[reducible] def Qt (a:gi)(b:o6)(c:we)(R:Prop):Prop:=(a.inst.toNat=b.n/\5=b.f/\am=am/\a.inst.toNat<(aa zA b.v).length/\(5:Nat)<(10:Nat))/\(0<=oI (ab (λ(y:Lv) ↦ decide (y.dm=c.m.dm)) c.L)/\oI (ab (λ(y:Lv) ↦ decide (y.dm=c.m.dm)) c.L)<((aa iq c.L).length:Int))/\(oI (ab (λ(y:Lv) ↦ decide (y.dm=c.m.dm)) c.L)).toNat<(aa iq c.L).length/\R
@[reducible] def QU (a:gi)(b:o6)(R:Prop):Prop:=a.inst.toNat=b.n/\5=b.f/\am=am/\a.inst.toNat<(aa zA b.v).length/\R
@[reducible] def QX (a:gi)(b:o6)(R:Prop):Prop:=(a.inst.toNat<(aa zA b.v).length/\(5:Nat)<(10:Nat))/\(a.inst.toNat=b.n/\5=b.f)/\R
def xFz (i:Ey):Prop:=
 ∃(a:MJ),a.k=((aa zA i.v).length:Int)/\a.m.seq=i.m.seq/\a.m.inst=i.m.inst/\a.m.side=2/\Q2 a.m i.m (True/\ff (dp (gi.iO a.k a.m !=0) (dx (aa zA (ru i.v i.m)=[]/\0=gi.iO a.k a.m/\True)) (∃(c:o6),aa zA c.v=aa zA i.v/\(VC c)/\∀(d:Unit),True->(0<=i.m.inst/\i.m.inst<((aa zA c.v).length:Int))/\dp i.m.gg ((dk (qg.mk am vS 10 (aa zA c.v) c.n c.f am wQ)/\i.m.inst.toNat<(aa zA c.v).length/\(9:Nat)<=(10:Nat)/\c.f<10/\(am=am->i.m.inst.toNat=c.n->9<=c.f\/c.f<6))/\dk i.m.dr/\(dk (qg.mk am vS 10 (zJ (aa zA c.v) i.m.inst.toNat 6 [dI i.m.dm,dI i.m.dr,dI i.m.count]) c.n c.f am wQ)/\i.m.inst.toNat<(zJ (aa zA c.v) i.m.inst.toNat 6 [dI i.m.dm,dI i.m.dr,dI i.m.count]).length/\(10:Nat)<=(10:Nat)/\c.f<10/\(am=am->i.m.inst.toNat=c.n->10<=c.f\/c.f<9))/\∃(e:Bool),zC (zJ (zJ (aa zA c.v) i.m.inst.toNat 6 [dI i.m.dm,dI i.m.dr,dI i.m.count]) i.m.inst.toNat 9 [D.v (.bool (qW i))]) i.m.inst.toNat 9 1=av [D.v (.bool e)]/\(c.f<10/\(am=am->i.m.inst.toNat=c.n->(9:Nat)+(1:Nat)<=c.f\/c.f<9))/\dp (!e) ((dk (qg.mk am vS 10 (zJ (zJ (aa zA c.v) i.m.inst.toNat 6 [dI i.m.dm,dI i.m.dr,dI i.m.count]) i.m.inst.toNat 9 [D.v (.bool (qW i))]) c.n c.f am wQ)/\i.m.inst.toNat<(zJ (zJ (aa zA c.v) i.m.inst.toNat 6 [dI i.m.dm,dI i.m.dr,dI i.m.count]) i.m.inst.toNat 9 [D.v (.bool (qW i))]).length/\(9:Nat)<=(10:Nat)/\c.f<10/\(am=am->i.m.inst.toNat=c.n->9<=c.f\/c.f<6))/\dx ((am=am/\c.n<(zJ (zJ (zJ (aa zA c.v) i.m.inst.toNat 6 [dI i.m.dm,dI i.m.dr,dI i.m.count]) i.m.inst.toNat 9 [D.v (.bool (qW i))]) i.m.inst.toNat 6 [dI 0,dI 0,dI 0]).length/\c.f<10/\aa zA (ru i.v i.m)=zJ (zJ (zJ (zJ (aa zA c.v) i.m.inst.toNat 6 [dI i.m.dm,dI i.m.dr,dI i.m.count]) i.m.inst.toNat 9 [D.v (.bool (qW i))]) i.m.inst.toNat 6 [dI 0,dI 0,dI 0]) c.n c.f [D.ro 3 c.lv])/\dk ((0:Int))/\True)) (dx ((am=am/\c.n<(zJ (zJ (aa zA c.v) i.m.inst.toNat 6 [dI i.m.dm,dI i.m.dr,dI i.m.count]) i.m.inst.toNat 9 [D.v (.bool (qW i))]).length/\c.f<10/\aa zA (ru i.v i.m)=zJ (zJ (zJ (aa zA c.v) i.m.inst.toNat 6 [dI i.m.dm,dI i.m.dr,dI i.m.count]) i.m.inst.toNat 9 [D.v (.bool (qW i))]) c.n c.f [D.ro 3 c.lv])/\dk ((0:Int))/\True))) ((QU i.m c ((5:Nat)<(10:Nat)))/\((∃(mn:we),aa iq mn.L=c.lv/\mn.m.seq=i.m.seq/\mn.m.inst=i.m.inst/\mn.m.side=2/\Q2 mn.m i.m (mn.L.length<=1099511627776/\∀(d:Unit),True->dp (decide (oI (ab (λ(y:Lv) ↦ decide (y.dm=mn.m.dm)) mn.L)>=0)) (dp (mn.m.dr==0) ((QU i.m c ((5:Nat)<(10:Nat)))/\∃(oE:LQ),Q6 oE mn (∀(d:Unit),True->QX i.m c (dx (YF c i oE (True))))) (dp (decide (oI (ab (λ(y:Lv) ↦ decide (y.dm=mn.m.dm)) mn.L)>=0)) (Qt i.m c mn (dx (QJ c i mn (True)))) (dp (decide (mn.m.dr>0)) ((QU i.m c ((5:Nat)<(10:Nat)))/\((∃(i:we),False)\/(∃(oE:we),Qi oE mn (∀(d:Unit),True->dp (decide (oI (ab (λ(y:Lv) ↦ xJ oE.m.side oE.m.dm y.dm) oE.L)<0)) ((QU i.m c ((5:Nat)<(10:Nat)))/\Qn i.m.inst c (∃(ud:Bv),(ud.i:Int)=((aa iq oE.L).length:Int)/\QH ud oE i (∀(d:Unit),True->QX i.m c (dx (QE c i ud (True)))))) (Qn i.m.inst c (∃(ud:Bv),(ud.i:Int)=oI (ab (λ(y:Lv) ↦ xJ oE.m.side oE.m.dm y.dm) oE.L)/\QH ud oE i (∀(d:Unit),True->QX i.m c (dx (QE c i ud (True)))))))))) (dx (QQ c i mn (True)))))) (dp (decide (oI (ab (λ(y:Lv) ↦ decide (y.dm=mn.m.dm)) mn.L)>=0)) (Qt i.m c mn (dx (QJ c i mn (True)))) (dp (decide (mn.m.dr>0)) ((QU i.m c ((5:Nat)<(10:Nat)))/\((∃(i:we),False)\/(∃(oE:we),Qi oE mn (∀(d:Unit),True->dp (decide (oI (ab (λ(y:Lv) ↦ xJ oE.m.side oE.m.dm y.dm) oE.L)<0)) ((QU i.m c ((5:Nat)<(10:Nat)))/\Qn i.m.inst c (∃(ud:Bv),(ud.i:Int)=((aa iq oE.L).length:Int)/\QH ud oE i (∀(d:Unit),True->QX i.m c (dx (QE c i ud (True)))))) (Qn i.m.inst c (∃(ud:Bv),(ud.i:Int)=oI (ab (λ(y:Lv) ↦ xJ oE.m.side oE.m.dm y.dm) oE.L)/\QH ud oE i (∀(d:Unit),True->QX i.m c (dx (QE c i ud (True)))))))))) (dx (QQ c i mn (True)))))))\/(∃(i:we),False))))))
def yJg:Ar.ok Z_ 153:=y9i fk λi h b hb=>by
 have h:i.length*112<=140737488355328:=h;exact W_ (λe=>⟨(),hb e,Y_⟩) (λ_=>⟨oM,(),rfl,Y_⟩)
def yGa:Av.ok Z_ 154:=y6e fk λi h b hb=>by
 have h:i.length*24<=140737488355328:=h;exact W_ (λe=>⟨(),hb e,Y_⟩) (λ_=>⟨oM,(),rfl,Y_⟩)
def xBd {v:Vw} {j:Nat} {p:Sd×Sd} (h:v[j]? =av p):zC (v.map zA) j 0 1=av [.ro 3 (p.1.levels.map iq)]:=by
 rw[zC,ra,h];rfl
def yPu {v:Vw} {j:Nat} {p:Sd×Sd} (h:v[j]? =av p):zC (v.map zA) j 5 1=av [.ro 3 (p.2.levels.map iq)]:=by
 rw[zC,ra,h];rfl
def aS {fa:Q_ D} {j f:Nat} {ds el SV:List D} (h:fa[j]? =av el) (e:el.take f++(ds++el.drop (f+ds.length))=SV):zJ fa j f ds=fa.set j SV:=by
 rw[zJ];apply Du;intro k;rw[FN,Ci];by_cases hk:j=k
 ·subst hk;rw[fh rfl,h,fh (jk.1 h).1,<- e];show av (if j=j then _ else el)=_;rw[fh rfl]
 ·rw[eg hk];cases fa[k]? with
  |none=>rfl
  |some x=>
   show av (if j=k then _ else x)=av x;rw[eg hk]
def zXu {α:Type} {l:List α} {j:Nat} {x:α} (h:l[j]? =av x):l.set j x=l:=by
 apply Du;intro k;rw[Ci];by_cases hk:j=k
 ·subst hk;rw[fh rfl,fh (jk.1 h).1,h]
 ·rw[eg hk]
def y1i {v:Vw} {j:Nat} {p:Sd×Sd} (h:v[j]? =av p):zJ (v.map zA) j 0 [.ro 3 (p.1.levels.map iq)]=v.map zA:=by
 have h':(v.map zA)[j]? =av (zA p):=by rw[ra,h];rfl
 rw[aS h' (SV:=zA p) rfl,zXu h']
def yHu {v:Vw} {j:Nat} {p:Sd×Sd} (h:v[j]? =av p):zJ (v.map zA) j 5 [.ro 3 (p.2.levels.map iq)]=v.map zA:=by
 have h':(v.map zA)[j]? =av (zA p):=by rw[ra,h];rfl
 rw[aS h' (SV:=zA p) rfl,zXu h']
def xAa (i:o6) (h:GW.dp i):yNx i:=by
 obtain⟨hn,hl,um,zd⟩:i.n<i.v.length/\i.v.length<=1000000/\xZ i.v:=h;have ux:(i.v.map zA).length=i.v.length:=ib _;have z0:((0:Nat)+nat_lit 0*(5:Nat)+(0:Nat))=0:=rfl;have z5:((0:Nat)+(nat_lit 0+nat_lit 1) % ((2:Int) ^ ag.bits).natAbs*(5:Nat)+(0:Nat))=5:=by decide
 have hf:i.f=if i.s=am then 5 else 0:=by rw[o6.f];cases i.s<;>rfl
 have EG:i.f<10:=by rw[hf];split<;>omega
 unfold yNx ff dx fQ lT fT lG zIf ot qL y7;simp only[z0,z5,ov];refine⟨_,rfl,oM,λ_ _=>⟨0,rfl,⟨rfl,by simp⟩,by simp,λj=>j<=i.v.length,λj=>i.v.length-j,ml _,λj hj=>zH (λgr=> ?_) (λgr=> ?_)⟩⟩
 ·have gr:(j:Int)<((i.v.map zA).length:Nat):=gr;obtain⟨p,hp⟩:=zZ (l:=i.v) (i:=j) oM;have qw:=zd p (kx hp);have l1:(p.1.levels.map iq).length=p.1.levels.length:=ib _;have l2:(p.2.levels.map iq).length=p.2.levels.length:=ib _;have bd:(0:Int)<=(j:Int)/\(j:Int)<((i.v.map zA).length:Nat):=⟨oM,gr⟩
  have no:decide (i.n<j)=am->j=i.n->False:=λa b=>by
   have:=su a;omega
  have lv1:j=i.n->0=i.f->i.lv=p.1.levels.map iq:=λa b=>by
   subst a;rw[hf]at b;rw[o6.lv,LS,hp];cases hs:i.s
   ·rfl
   ·rw[hs]at b;simp at b
  have lv2:j=i.n->5=i.f->i.lv=p.2.levels.map iq:=λa b=>by
   subst a;rw[hf]at b;rw[o6.lv,LS,hp];cases hs:i.s
   ·rw[hs]at b;simp at b
   ·rfl
  refine⟨bd,_,xBd hp,⟨EG,λa b=>(no a b).elim⟩,bd,_,rfl,oM,λ_ _=>⟨⟨bd,i7⟩,Y_,⟨oM,oM⟩,λe1 e2=> ?_,EG,λjy=> ?_⟩⟩
  ·refine⟨bd,_,yPu hp,⟨EG,λ_ _=> .inr oM⟩,bd,_,rfl,oM,λ_ _=>⟨⟨bd,i7⟩,Y_,⟨oM,oM⟩,λ_ e3=>absurd e3 oM,EG,λ_=>⟨i7,j+1,pf oM,⟨(yHu hp).symm,i7,i7,jt oM⟩,?_,Z9,Z9,gj⟩⟩⟩;rw[jt (show i.n<j+1 by omega),cond_true,lv1 e1 e2]
  ·rw[y1i hp];refine⟨i7,bd,_,yPu hp,⟨EG,λa b=>(no a b).elim⟩,bd,_,rfl,oM,λ_ _=>⟨⟨bd,i7⟩,Y_,⟨oM,oM⟩,λe1 e3=>⟨j+1,pf oM,⟨i7,i7,i7,jt oM⟩,?_,Z9,Z9,gj⟩,EG,λEE=>⟨i7,j+1,pf oM,⟨(yHu hp).symm,i7,i7,?_⟩,?_,Z9,Z9,gj⟩⟩⟩
   ·rw[jt (show i.n<j+1 by omega),cond_true,lv2 e1 e3]
   ·have:j≠i.n:=λe=>by
     have:i.f=0\/i.f=5:=by rw[hf];split<;>omega
     rcases this with h|h
     ·exact jy ⟨e,h.symm⟩
     ·exact EE ⟨e,h.symm⟩
    exact decide_eq_decide.2 ⟨λ_=>X_,λ_=>X_⟩
   ·have:j≠i.n:=λe=>by
     have:i.f=0\/i.f=5:=by rw[hf];split<;>omega
     rcases this with h|h
     ·exact jy ⟨e,h.symm⟩
     ·exact EE ⟨e,h.symm⟩
    rw[show decide (i.n<j+1)=decide (i.n<j)from decide_eq_decide.2 ⟨λ_=>X_,λ_=>X_⟩]
 ·have hj:j<=i.v.length:=hj;obtain rfl:j=i.v.length:=X_
  have e:decide (i.n<i.v.length)=am:=jt hn;exact⟨(),⟨i7,i7,i7,e.symm⟩,by rw[e];rfl,gj⟩
def z4e:GW.ok Z_ 77:=gy mixed (dw yJg (dw yGa fk)) 0 i6 (λi=>y7x i) [] func77 xAa
def xAl (i:MJ):z9y i:=by
 unfold z9y dx;have fin:∀{x:Int},¬i.m.inst<0->¬i.m.inst>=i.k->¬(i.m.side≠1/\i.m.side≠2)->dp (decide (i.m.dr<0)) (∃(o:Unit),i.m.iO i.k=24/\True) (dp (decide (i.m.count<0)) (∃(o:Unit),i.m.iO i.k=24/\True) (dp (!(i.m.dr==0)==(i.m.count==0)) (∃(o:Unit),i.m.iO i.k=24/\True) (∃(o:Unit),i.m.iO i.k=0/\True))):=by
  intro _ h1 h2 h3;have e:i.m.iO i.k=if(i.m.dr<0\/i.m.count<0)\/¬(i.m.dr=0↔i.m.count=0)then 24 else 0:=by rw[gi.iO,eg X_,eg h3]
  rw[e];refine zH (λa=>⟨(),by rw[fh (.inl (.inl a))],Y_⟩) (λa=>zH (λb=>⟨(),by rw[fh (.inl (.inr b))],Y_⟩) (λb=>W_ (λc=>⟨(),?_,Y_⟩) (λc=>⟨(),?_,Y_⟩)))
  ·have hx:¬(i.m.dr=0↔i.m.count=0):=λx=>by
    have:(i.m.dr==0)=(i.m.count==0):=by
     rw[CK,ID,ID];exact x
    rw[this]at c;revert c;cases (i.m.count==0)<;>decide
   rw[fh (.inr hx)]
  ·rw[eg];rintro(x|x)
   ·omega
   ·refine x ?_;have:(i.m.dr==0)=(i.m.count==0):=by
     revert c;cases (i.m.count==0)<;>cases (i.m.dr==0)<;>decide
    rw[CK,ID,ID]at this;exact this
 refine zH (λa=>⟨(),by rw[gi.iO,fh (.inl a)],Y_⟩) (λa=>zH (λb=>⟨(),by rw[gi.iO,fh (.inr b)],Y_⟩) (λb=>W_ (λc=>W_ (λd=>⟨(),?_,Y_⟩) (λd=> ?_)) (λc=> ?_)))
 ·rw[gi.iO,eg X_,fh ⟨i9 c,i9 d⟩]
 ·exact fin (x:=0) a b λx=>x.2 (i9 d)
 ·exact fin (x:=0) a b λx=>x.1 (i9 c)
def Y0:Nx.ok Z_ 66:=gy (V:=z9y) mixed fk 0 i6 i6 [] func66 λ(i:MJ) _=>xAl i
def VP {k:Int} {m:gi} (h:m.iO k=0):(0<=m.inst/\m.inst<k)/\(m.side=1\/m.side=2)/\(0<=m.dr/\0<=m.count)/\(m.dr=0↔m.count=0):=by
 rw[gi.iO]at h;split at h
 ·cases h
 ·split at h
  ·cases h
  ·split at h
   ·cases h
   ·rename_i a b c;refine⟨oM,oM,oM,?_⟩;exact Classical.byContradiction λx=>c (.inr x)
def y3g {L:List Lv} {k:Nat} {l:Lv} (h:L[k]? =av l):zC (L.map iq) k 0 3=av [D.v (.int .i64 l.dm),D.v (.int .i64 l.dr),D.v (.int .i64 l.count)]:=by
 rw[zC,ra,h];rfl
def zZf {f:Lv->Bool} {L:List Lv} {k:Nat} {l:Lv} (h:L[k]? =av l) (h0:(L.take k).findIdx? f=aw):(f l=am->L.findIdx? f=av k)/\(f l=ao->(L.take (k+1)).findIdx? f=aw):=by
 have hk:=(jk.1 h).1;have e:L=L.take k++(l::L.drop (k+1)):=by
  obtain⟨_,h2⟩:=jk.1 h;rw[<- h2,List.getElem_cons_drop,Bi]
 constructor
 ·intro hl;rw[e,List.findIdx?_append,h0,Kc,fh hl];simp;omega
 ·intro hl;rw[qf,h,AD,List.findIdx?_append,h0,Kc,hl,List.findIdx?_nil];rfl
def xJz (i:we) (h:Tt.dp i):xFk i:=by
 (
 have hl:i.L.length<=1099511627776:=h;have ux:(i.L.map iq).length=i.L.length:=ib _)
 unfold xFk dx VE QM tC dI;refine⟨0,rfl,λk=>k<=i.L.length/\(i.L.take k).findIdx? (λy=>decide (y.dm=i.m.dm))=aw,λk=>i.L.length-k,⟨ml _,by rw[EX];rfl⟩,λk hk=>zH (λc=> ?_) (λc=> ?_)⟩
 ·obtain⟨hk,h0⟩:=hk;obtain⟨l,Fg⟩:=zZ (l:=i.L) (i:=k) oM;obtain⟨n1,n2⟩:=zZf Fg h0;refine⟨⟨oM,oM⟩,l.dm,l.dr,l.count,y3g Fg,W_ (λe=>⟨(),?_,gj⟩) (λe=>⟨k+1,?_,⟨oM,n2 (ju (i9 e))⟩,Z9,gj⟩)⟩
  ·rw[n1 (jt (i9 e))];rfl
  ·rw[iw X_];rfl
 ·obtain⟨hk,h0⟩:=hk;obtain rfl:k=i.L.length:=X_
  rw[zf]at h0;exact⟨(),by rw[h0];rfl,gj⟩
def yPl:Tt.ok Z_ 207:=gy mixed fk 1 i6 (λ_=>ixA) [] func207 xJz
def xKj (i:we) (h:Tu.dp i):xDu i:=by
 (
 have hl:i.L.length<=1099511627776:=h;have ux:(i.L.map iq).length=i.L.length:=ib _)
 unfold xDu ff dx VE QM tC dI;refine⟨0,rfl,λk=>k<=i.L.length/\(i.L.take k).findIdx? (λy=>xJ i.m.side i.m.dm y.dm)=aw,λk=>i.L.length-k,⟨ml _,by rw[EX];rfl⟩,λk hk=>zH (λc=> ?_) (λc=> ?_)⟩
 ·obtain⟨hk,h0⟩:=hk;obtain⟨l,Fg⟩:=zZ (l:=i.L) (i:=k) oM;obtain⟨n1,n2⟩:=zZf Fg h0;refine⟨⟨oM,oM⟩,l.dm,l.dr,l.count,y3g Fg,⟨i.m.side,i.m.dm,l.dm⟩,rfl,rfl,rfl,Y_,λ_ _=>W_ (λe=>⟨(),?_,gj⟩) (λe=>⟨k+1,?_,⟨oM,n2 e⟩,Z9,gj⟩)⟩
  ·rw[n1 e];rfl
  ·rw[iw X_];rfl
 ·obtain⟨hk,h0⟩:=hk;obtain rfl:k=i.L.length:=X_
  rw[zf]at h0;exact⟨(),by rw[h0];rfl,gj⟩
def yRw:Tu.ok Z_ 207:=gy mixed (dw zMq fk) 1 i6 (λ_=>ixA) [] func207 xKj
def z1q:vY Z_ 133=av (135,3,24,#[.int .i64 0,.int .i64 0,.int .i64 0]):=by kernel_rfl
def yHl:Ui.ok Z_ 212:=
 A4 (tS:=133) (tI:=3) (fO:=252) (fR:=253) (z:= #[.int .i64 0,.int .i64 0,.int .i64 0]) mixed func212 rfl (by kernel_rfl) (by kernel_rfl) (by kernel_rfl) (by kernel_rfl) z1q rfl Z8 Z8 (by kernel_rfl) (by kernel_rfl)
  (z1l (tS:=133) (tB:=4) func252 (by kernel_rfl) (by kernel_rfl) (by kernel_rfl) (by kernel_rfl) z1q) (λs sn sk i v vn vk w R=>by kernel_rfl)
def yHg:UJ.ok Z_ 209:=
 D' mixed func209 rfl (by kernel_rfl) (by kernel_rfl) (by kernel_rfl) (by kernel_rfl) z1q rfl Z8 (λs sn sk i j w R=>by kernel_rfl)
def N7 {fa:Q_ D} {j f:Nat} {ds el:List D} (h:j<fa.length):zJ (fa.set j el) j f ds=fa.set j (el.take f++(ds++el.drop (f+ds.length))):=by
 have h':(fa.set j el)[j]? =av el:=by rw[Ci,fh rfl,fh h]
 rw[aS h' rfl,Eg]
def yUq {v:Vw} {m:gi} {p:Sd×Sd} (h:v[m.inst.toNat]? =av p):(ru v m).map zA=(v.map zA).set m.inst.toNat (zA (if m.side=1 then(Ba 1 p.1 m,p.2)else(p.1,Ba 2 p.2 m))):=by
 rw[ru];apply Du;intro k;rw[ra,FN,Ci];by_cases hk:m.inst.toNat=k
 ·subst hk;have hl:m.inst.toNat<(v.map zA).length:=by rw[ib];exact(jk.1 h).1
  rw[h,fh rfl,fh hl];show Option.map zA (av (if m.inst.toNat=m.inst.toNat then _ else p))=_;rw[fh rfl];rfl
 ·rw[eg hk,ra];cases v[k]? with
  |none=>rfl
  |some x=>
   show Option.map zA (av (if m.inst.toNat=k then _ else x))=_;rw[eg hk];first|done|rfl
def yTc {s:Int} {L:List Lv} {m:Lv} {k:Nat} (h:L.findIdx? (λy=>decide (y.dm=m.dm))=av k) (hq:m.dr=0):(jR s L m).map iq=(L.map iq).take k++(L.map iq).drop (k+1):=by
 rw[jR,h];dsimp only;rw[fh hq,List.eraseIdx_eq_take_drop_succ,jh,Eh,FK]
def yUr {s:Int} {L:List Lv} {m:Lv} {k:Nat} (h:L.findIdx? (λy=>decide (y.dm=m.dm))=av k) (hq:¬m.dr=0) (hk:k<L.length):(jR s L m).map iq=zJ (L.map iq) k 0 [D.v (.int .i64 m.dm),D.v (.int .i64 m.dr),D.v (.int .i64 m.count)]:=by
 rw[jR,h];dsimp only;obtain⟨l,hl⟩:=zZ hk;have h':(L.map iq)[k]? =av (iq l):=by rw[ra,hl];rfl
 rw[eg hq,aS h' (SV:=iq m) rfl,List.map_set]
def yHr {s:Int} {L:List Lv} {m:Lv} (h:L.findIdx? (λy=>decide (y.dm=m.dm))=aw) (hq:¬0<m.dr):jR s L m=L:=by
 rw[jR,h];dsimp only;rw[eg hq]
def UR {s:Int} {L:List Lv} {m:Lv} (h:L.findIdx? (λy=>decide (y.dm=m.dm))=aw) (hq:0<m.dr) {k:Nat} (hk:(L.findIdx? λy=>xJ s m.dm y.dm).getD L.length=k):(jR s L m).map iq=(L.map iq).take k++iq m::(L.map iq).drop k:=by
 have e:jR s L m=L.take ((L.findIdx? λy=>xJ s m.dm y.dm).getD L.length)++m::L.drop ((L.findIdx? λy=>xJ s m.dm y.dm).getD L.length):=by
  rw[jR,h];dsimp only;rw[fh hq]
  first|done|rfl
 rw[e,hk,jh,jg,Eh,FK]
def U6 {f:Lv->Bool} {L:List Lv} {k:Nat} (h:L.findIdx? f=av k):k<L.length:=by
 obtain⟨h,_⟩:=Mj.1 h;exact h
def yNc {s:Int} {x:Sd} {m:gi} (h:¬m.gg=am):Ba s x m=⟨jR s x.levels m.lv,x.imp,x.has⟩:=by rw[Ba,eg h]
def xHx (i:Ey) (h:M4.dp i):xHe i:=by
 obtain⟨hs,F4,hl,qw⟩:i.m.side=1/\i.m.iO i.v.length=0/\i.v.length<=1000000/\xZ i.v:=h;have ux:(i.v.map zA).length=i.v.length:=ib _;obtain⟨⟨f1,f2⟩,f3,f4,f5⟩:=VP F4;have hN:i.m.inst.toNat<(i.v.map zA).length:=X_
 obtain⟨p,hp⟩:=zZ (l:=i.v) (i:=i.m.inst.toNat) oM;have Sp:(i.v.map zA)[i.m.inst.toNat]? =av (zA p):=by rw[ra,hp];rfl
 have Cn:=qw.2 p (kx hp);have z0:((0:Nat)+(nat_lit 1-Nat.succ (nat_lit 0)) % ((2:Int) ^ ag.bits).natAbs*(5:Nat)+(0:Nat))=0:=by decide
 have z1:((0:Nat)+(nat_lit 1-Nat.succ (nat_lit 0)) % ((2:Int) ^ ag.bits).natAbs*(5:Nat)+(1:Nat))=1:=by decide
 have z4:((0:Nat)+(nat_lit 1-Nat.succ (nat_lit 0)) % ((2:Int) ^ ag.bits).natAbs*(5:Nat)+(4:Nat))=4:=by decide
 have hA:=yUq hp;rw[fh hs]at hA;unfold xHe Q2 Q6 QE QH QJ QQ QT QW YF ff dx Qi Qm Qs qW wQ VC qN dI;simp only[z0,z1,z4];refine⟨⟨i.v.length,i.m⟩,by rw[ux],rfl,rfl,hs,iP ⟨rfl,Y_,λ_ _=>W_ (λe=> ?_) (λ_=>⟨⟨i.v,i.m.inst.toNat,ao⟩,rfl,⟨Z9,hl,qw⟩,λ_ _=>⟨⟨f1,by rw[ux];exact f2⟩,W_ (λhi=> ?_) (λhi=> ?_)⟩⟩)⟩⟩
 ·exfalso;simp[F4]at e
 ·have SI:(⟨i.v,i.m.inst.toNat,ao⟩:o6).f=0:=rfl;have Eo:(⟨i.v,i.m.inst.toNat,ao⟩:o6).lv=p.1.levels.map iq:=by rw[o6.lv,LS,hp];rfl
  have e0:Ba 1 p.1 i.m=if 0<i.m.dr then⟨p.1.levels,i.m.lv,am⟩else⟨p.1.levels,BG,ao⟩:=by rw[Ba,fh hi]
  rw[SI,Eo];have a1:zJ (i.v.map zA) i.m.inst.toNat 1 [D.v (.int .i64 i.m.dm),D.v (.int .i64 i.m.dr),D.v (.int .i64 i.m.count)]=(i.v.map zA).set i.m.inst.toNat (zA (⟨p.1.levels,i.m.lv,p.1.has⟩,p.2)):=aS Sp rfl;have a2:∀b:Bool,zJ ((i.v.map zA).set i.m.inst.toNat (zA (⟨p.1.levels,i.m.lv,p.1.has⟩,p.2))) i.m.inst.toNat 4 [D.v (.bool b)]=(i.v.map zA).set i.m.inst.toNat (zA (⟨p.1.levels,i.m.lv,b⟩,p.2)):=λb=>N7 hN
  have a3:∀b:Bool,zJ ((i.v.map zA).set i.m.inst.toNat (zA (⟨p.1.levels,i.m.lv,b⟩,p.2))) i.m.inst.toNat 1 [D.v (.int .i64 0),D.v (.int .i64 0),D.v (.int .i64 0)]=(i.v.map zA).set i.m.inst.toNat (zA (⟨p.1.levels,BG,b⟩,p.2)):=λb=>N7 hN
  have a4:∀(y:Lv) (b:Bool),zJ ((i.v.map zA).set i.m.inst.toNat (zA (⟨p.1.levels,y,b⟩,p.2))) i.m.inst.toNat 0 [D.ro 3 (p.1.levels.map iq)]=(i.v.map zA).set i.m.inst.toNat (zA (⟨p.1.levels,y,b⟩,p.2)):=λy b=>N7 hN
  have a5:∀b:Bool,zC ((i.v.map zA).set i.m.inst.toNat (zA (⟨p.1.levels,i.m.lv,b⟩,p.2))) i.m.inst.toNat 4 1=av [D.v (.bool b)]:=λb=>by
   rw[zC,Ci,fh rfl,fh hN];rfl
  simp only[a1,a2,a3,a4,qj];refine⟨⟨i7,hN,Z8,Z8,λ_ _=> .inr Z8⟩,i7,⟨i7,hN,Z8,Z8,λ_ _=> .inr Z8⟩,_,a5 _,⟨Z8,λ_ _=> .inr Z8⟩,W_ (λhb=>⟨⟨i7,hN,Z8,Z8,λ_ _=> .inr Z8⟩,(),⟨i7,hN,Z8,?_⟩,gj⟩) (λhb=>⟨(),⟨i7,hN,Z8,?_⟩,gj⟩)⟩
  ·have hq:¬0<i.m.dr:=i9 hb
   rw[hA,e0,eg hq,ju (show ¬i.m.dr>0 from hq)]
  ·have hq:0<i.m.dr:=i9 hb
   rw[hA,e0,fh hq,jt (show i.m.dr>0 from hq)]
 ·have SI:(⟨i.v,i.m.inst.toNat,ao⟩:o6).f=0:=rfl;have Eo:(⟨i.v,i.m.inst.toNat,ao⟩:o6).lv=p.1.levels.map iq:=by rw[o6.lv,LS,hp];rfl
  have e0:=yNc (s:=1) (x:=p.1) (m:=i.m) (by simp[hi]);rw[e0]at hA;have hh:i.m.inst.toNat=i.m.inst.toNat/\0=(⟨i.v,i.m.inst.toNat,ao⟩:o6).f/\True/\i.m.inst.toNat<(i.v.map zA).length/\0<10:=⟨rfl,rfl,Y_,hN,Z8⟩
  have F5:(⟨i.v,i.m.inst.toNat,ao⟩:o6).f<10:=by show 0<10;decide
  have yf:i.m.inst.toNat<(i.v.map zA).length/\0<10:=⟨hN,Z8⟩
  have hB:∀l:Q_ D,(jR 1 p.1.levels i.m.lv).map iq=l->(ru i.v i.m).map zA=zJ (i.v.map zA) i.m.inst.toNat 0 [D.ro 3 l]:=λl e=>by
   subst e;rw[hA];exact Eq.symm (aS (f:=0) (ds:=[D.ro 3 ((jR 1 p.1.levels i.m.lv).map iq)]) Sp rfl)
  have O7:(p.1.levels.map iq).length=p.1.levels.length:=ib _;have e1:1=i.m.side:=hs.symm;refine⟨hh,.inl ⟨⟨p.1.levels,i.m⟩,Eo.symm,rfl,rfl,hs,iP ⟨rfl,Z9,λ_ _=> ?_⟩⟩⟩;dsimp only;cases hk:p.1.levels.findIdx? (λy=>decide (y.dm=i.m.dm))with
  |some k=>
   have pg:=U6 hk;refine zH (λ_=>W_ (λhq=>⟨hh,⟨p.1.levels.map iq,k,k+1⟩,rfl,?_,rfl,⟨Z9,Z9⟩,λ_ _=>⟨yf,⟨i7,i7⟩,(),⟨i7,hN,F5,hB _ (yTc hk (by show i.m.dr=0;simpa using hq))⟩,gj⟩⟩) (λhq=>zH (λ_=>⟨hh,⟨by show(0:Int)<=(k:Int);omega,by show(k:Int)<_;omega⟩,by show k<_;omega,(),⟨i7,hN,F5,hB _ (yUr hk (by show ¬i.m.dr=0;simpa using hq) pg)⟩,gj⟩) (λc=>absurd (show(0:Int)<=(k:Int)by omega) c))) (λc=>absurd (show(0:Int)<=(k:Int)by omega) c);show((k+1:Nat):Int)=ag.wrap ((k:Int)+1);rw[iw X_];rfl
  |none=>
   refine zH (λc=>absurd c Z8) (λ_=>zH (λc=>absurd c Z8) (λ_=>zH (λhq=>⟨hh,.inr ⟨⟨p.1.levels,i.m⟩,oO ⟨rfl,Z9,λ_ _=> ?_⟩⟩⟩) (λhq=>⟨(),⟨i7,hN,F5,hB _ (by rw[yHr hk hq])⟩,gj⟩)));dsimp only;rw[hs];cases hb:p.1.levels.findIdx? (λy=>xJ 1 i.m.dm y.dm)with
   |some k=>
    have pg:=U6 hb;exact zH (λc=>absurd c (by show ¬(k:Int)<0;omega)) (λ_=>⟨hh,⟨hh,Y_⟩,⟨p.1.levels.map iq,iq i.m.lv,k⟩,rfl,rfl,rfl,⟨Z9,Z9⟩,λ_ _=>⟨yf,⟨i7,i7⟩,(),⟨i7,hN,F5,hB _ (UR hk hq (by rw[show(p.1.levels.findIdx? λy=>xJ 1 i.m.lv.dm y.dm)=av k from hb];rfl))⟩,gj⟩⟩)
   |none=>
    exact zH (λ_=>⟨hh,hh,⟨hh,Y_⟩,⟨p.1.levels.map iq,iq i.m.lv,p.1.levels.length⟩,by rw[O7],rfl,rfl,⟨Z9,Z9⟩,λ_ _=>⟨yf,⟨i7,i7⟩,(),⟨i7,hN,F5,hB _ (UR hk hq (by rw[show(p.1.levels.findIdx? λy=>xJ 1 i.m.lv.dm y.dm)=aw from hb];rfl))⟩,gj⟩⟩) (λc=>absurd (show(-1:Int)<0 by decide) c)
def y8h:M4.ok Z_ 143:=gy mixed (dw Y0 (dw z4e (dw yPl (dw yRw (dw yHg (dw yHl fk)))))) 0 i6 i6 [] func143 xHx
def xKi (i:Ey) (h:M3.dp i):xFz i:=by
 obtain⟨hs,F4,hl,qw⟩:i.m.side=2/\i.m.iO i.v.length=0/\i.v.length<=1000000/\xZ i.v:=h;have ux:(i.v.map zA).length=i.v.length:=ib _;obtain⟨⟨f1,f2⟩,f3,f4,f5⟩:=VP F4;have hN:i.m.inst.toNat<(i.v.map zA).length:=X_
 obtain⟨p,hp⟩:=zZ (l:=i.v) (i:=i.m.inst.toNat) oM;have Sp:(i.v.map zA)[i.m.inst.toNat]? =av (zA p):=by rw[ra,hp];rfl
 have Cn:=qw.2 p (kx hp);have z0:((0:Nat)+(nat_lit 2-Nat.succ (nat_lit 0)) % ((2:Int) ^ ag.bits).natAbs*(5:Nat)+(0:Nat))=5:=by decide
 have z1:((0:Nat)+(nat_lit 2-Nat.succ (nat_lit 0)) % ((2:Int) ^ ag.bits).natAbs*(5:Nat)+(1:Nat))=6:=by decide
 have z4:((0:Nat)+(nat_lit 2-Nat.succ (nat_lit 0)) % ((2:Int) ^ ag.bits).natAbs*(5:Nat)+(4:Nat))=9:=by decide
 have hA:=yUq hp;rw[eg (show ¬i.m.side=1 by omega)]at hA;unfold xFz Q2 Q6 QE QH QJ QQ QU QX YF ff dx Qi Qn Qt qW wQ VC qN dI;simp only[z0,z1,z4];refine⟨⟨i.v.length,i.m⟩,by rw[ux],rfl,rfl,hs,iP ⟨rfl,Y_,λ_ _=>W_ (λe=> ?_) (λ_=>⟨⟨i.v,i.m.inst.toNat,am⟩,rfl,⟨Z9,hl,qw⟩,λ_ _=>⟨⟨f1,by rw[ux];exact f2⟩,W_ (λhi=> ?_) (λhi=> ?_)⟩⟩)⟩⟩
 ·exfalso;simp[F4]at e
 ·have SI:(⟨i.v,i.m.inst.toNat,am⟩:o6).f=5:=rfl;have Eo:(⟨i.v,i.m.inst.toNat,am⟩:o6).lv=p.2.levels.map iq:=by rw[o6.lv,LS,hp];rfl
  have e0:Ba 2 p.2 i.m=if 0<i.m.dr then⟨p.2.levels,i.m.lv,am⟩else⟨p.2.levels,BG,ao⟩:=by rw[Ba,fh hi]
  rw[SI,Eo];have a1:zJ (i.v.map zA) i.m.inst.toNat 6 [D.v (.int .i64 i.m.dm),D.v (.int .i64 i.m.dr),D.v (.int .i64 i.m.count)]=(i.v.map zA).set i.m.inst.toNat (zA (p.1,⟨p.2.levels,i.m.lv,p.2.has⟩)):=aS Sp rfl;have a2:∀b:Bool,zJ ((i.v.map zA).set i.m.inst.toNat (zA (p.1,⟨p.2.levels,i.m.lv,p.2.has⟩))) i.m.inst.toNat 9 [D.v (.bool b)]=(i.v.map zA).set i.m.inst.toNat (zA (p.1,⟨p.2.levels,i.m.lv,b⟩)):=λb=>N7 hN
  have a3:∀b:Bool,zJ ((i.v.map zA).set i.m.inst.toNat (zA (p.1,⟨p.2.levels,i.m.lv,b⟩))) i.m.inst.toNat 6 [D.v (.int .i64 0),D.v (.int .i64 0),D.v (.int .i64 0)]=(i.v.map zA).set i.m.inst.toNat (zA (p.1,⟨p.2.levels,BG,b⟩)):=λb=>N7 hN
  have a4:∀(y:Lv) (b:Bool),zJ ((i.v.map zA).set i.m.inst.toNat (zA (p.1,⟨p.2.levels,y,b⟩))) i.m.inst.toNat 5 [D.ro 3 (p.2.levels.map iq)]=(i.v.map zA).set i.m.inst.toNat (zA (p.1,⟨p.2.levels,y,b⟩)):=λy b=>N7 hN
  have a5:∀b:Bool,zC ((i.v.map zA).set i.m.inst.toNat (zA (p.1,⟨p.2.levels,i.m.lv,b⟩))) i.m.inst.toNat 9 1=av [D.v (.bool b)]:=λb=>by
   rw[zC,Ci,fh rfl,fh hN];rfl
  simp only[a1,a2,a3,a4,qj];refine⟨⟨i7,hN,Z8,Z8,λ_ _=> .inr Z8⟩,i7,⟨i7,hN,Z8,Z8,λ_ _=> .inr Z8⟩,_,a5 _,⟨Z8,λ_ _=> .inr Z8⟩,W_ (λhb=>⟨⟨i7,hN,Z8,Z8,λ_ _=> .inr Z8⟩,(),⟨i7,hN,Z8,?_⟩,gj⟩) (λhb=>⟨(),⟨i7,hN,Z8,?_⟩,gj⟩)⟩
  ·have hq:¬0<i.m.dr:=i9 hb
   rw[hA,e0,eg hq,ju (show ¬i.m.dr>0 from hq)]
  ·have hq:0<i.m.dr:=i9 hb
   rw[hA,e0,fh hq,jt (show i.m.dr>0 from hq)]
 ·have SI:(⟨i.v,i.m.inst.toNat,am⟩:o6).f=5:=rfl;have Eo:(⟨i.v,i.m.inst.toNat,am⟩:o6).lv=p.2.levels.map iq:=by rw[o6.lv,LS,hp];rfl
  have e0:=yNc (s:=2) (x:=p.2) (m:=i.m) (by simp[hi]);rw[e0]at hA;have hh:i.m.inst.toNat=i.m.inst.toNat/\5=(⟨i.v,i.m.inst.toNat,am⟩:o6).f/\True/\i.m.inst.toNat<(i.v.map zA).length/\5<10:=⟨rfl,rfl,Y_,hN,Z8⟩
  have F5:(⟨i.v,i.m.inst.toNat,am⟩:o6).f<10:=by show 5<10;decide
  have yf:i.m.inst.toNat<(i.v.map zA).length/\5<10:=⟨hN,Z8⟩
  have hB:∀l:Q_ D,(jR 2 p.2.levels i.m.lv).map iq=l->(ru i.v i.m).map zA=zJ (i.v.map zA) i.m.inst.toNat 5 [D.ro 3 l]:=λl e=>by
   subst e;rw[hA];exact Eq.symm (aS (f:=5) (ds:=[D.ro 3 ((jR 2 p.2.levels i.m.lv).map iq)]) Sp rfl)
  have O7:(p.2.levels.map iq).length=p.2.levels.length:=ib _;have e1:2=i.m.side:=hs.symm;refine⟨hh,.inl ⟨⟨p.2.levels,i.m⟩,Eo.symm,rfl,rfl,hs,iP ⟨rfl,Z9,λ_ _=> ?_⟩⟩⟩;dsimp only;cases hk:p.2.levels.findIdx? (λy=>decide (y.dm=i.m.dm))with
  |some k=>
   have pg:=U6 hk;refine zH (λ_=>W_ (λhq=>⟨hh,⟨p.2.levels.map iq,k,k+1⟩,rfl,?_,rfl,⟨Z9,Z9⟩,λ_ _=>⟨yf,⟨i7,i7⟩,(),⟨i7,hN,F5,hB _ (yTc hk (by show i.m.dr=0;simpa using hq))⟩,gj⟩⟩) (λhq=>zH (λ_=>⟨hh,⟨by show(0:Int)<=(k:Int);omega,by show(k:Int)<_;omega⟩,by show k<_;omega,(),⟨i7,hN,F5,hB _ (yUr hk (by show ¬i.m.dr=0;simpa using hq) pg)⟩,gj⟩) (λc=>absurd (show(0:Int)<=(k:Int)by omega) c))) (λc=>absurd (show(0:Int)<=(k:Int)by omega) c);show((k+1:Nat):Int)=ag.wrap ((k:Int)+1);rw[iw X_];rfl
  |none=>
   refine zH (λc=>absurd c Z8) (λ_=>zH (λc=>absurd c Z8) (λ_=>zH (λhq=>⟨hh,.inr ⟨⟨p.2.levels,i.m⟩,oO ⟨rfl,Z9,λ_ _=> ?_⟩⟩⟩) (λhq=>⟨(),⟨i7,hN,F5,hB _ (by rw[yHr hk hq])⟩,gj⟩)));dsimp only;rw[hs];cases hb:p.2.levels.findIdx? (λy=>xJ 2 i.m.dm y.dm)with
   |some k=>
    have pg:=U6 hb;exact zH (λc=>absurd c (by show ¬(k:Int)<0;omega)) (λ_=>⟨hh,⟨hh,Y_⟩,⟨p.2.levels.map iq,iq i.m.lv,k⟩,rfl,rfl,rfl,⟨Z9,Z9⟩,λ_ _=>⟨yf,⟨i7,i7⟩,(),⟨i7,hN,F5,hB _ (UR hk hq (by rw[show(p.2.levels.findIdx? λy=>xJ 2 i.m.lv.dm y.dm)=av k from hb];rfl))⟩,gj⟩⟩)
   |none=>
    exact zH (λ_=>⟨hh,hh,⟨hh,Y_⟩,⟨p.2.levels.map iq,iq i.m.lv,p.2.levels.length⟩,by rw[O7],rfl,rfl,⟨Z9,Z9⟩,λ_ _=>⟨yf,⟨i7,i7⟩,(),⟨i7,hN,F5,hB _ (UR hk hq (by rw[show(p.2.levels.findIdx? λy=>xJ 2 i.m.lv.dm y.dm)=aw from hb];rfl))⟩,gj⟩⟩) (λc=>absurd (show(-1:Int)<0 by decide) c)
def y8c:M3.ok Z_ 143:=gy mixed (dw Y0 (dw z4e (dw yPl (dw yRw (dw yHg (dw yHl fk)))))) 0 i6 i6 [] func143 xKi
def yWg:De.ok Z_ 143:=by
 intro i h;obtain⟨F4,hl,qw⟩:i.m.iO i.v.length=0/\i.v.length<=1000000/\xZ i.v:=h;obtain⟨_,f3,_⟩:=VP F4;rcases f3 with e|e
 ·have:=y8h i ⟨e,F4,hl,qw⟩;have e2:De.pat i=M4.pat i:=by
   show[Ag i.v,Iy i.m]=[Ag i.v,V.agg [zB i.m.seq,zB i.m.inst,zB 1,zB i.m.dm,zB i.m.dr,zB i.m.count,yM i.m.gg]];rw[Iy,e]
  intro k L E w ys R hv;rw[e2]at hv;exact this k L E w ys R hv
 ·have:=y8c i ⟨e,F4,hl,qw⟩;have e2:De.pat i=M3.pat i:=by
   show[Ag i.v,Iy i.m]=[Ag i.v,V.agg [zB i.m.seq,zB i.m.inst,zB 2,zB i.m.dm,zB i.m.dr,zB i.m.count,yM i.m.gg]];rw[Iy,e]
  intro k L E w ys R hv;rw[e2]at hv;exact this k L E w ys R hv
def y4v:∀{l:List zK} {v:Lv},v∈yh l->(1<=v.count/\v.count<=l.length)/\∃o∈l,o.dm=v.dm
 |[],v,h=>by cases h
 |o::l,v,h=>by
  have ih:∀v∈yh l,(1<=v.count/\v.count<=l.length)/\∃o∈l,o.dm=v.dm:=λv hv=>y4v hv
  rw[yh]at h;rw[iG];split at h
  ·rw[tq]at h;subst h;exact⟨Z9,o,iY,rfl⟩
  ·rename_i w ws e;rw[e]at ih;have hw:=ih w iY;split at h
   ·rename_i ep;rcases j'.1 h with rfl|h
    ·exact⟨Z9,o,iY,ep.symm⟩
    ·obtain⟨a,x,hx,hp⟩:=ih v (jj _ h);exact⟨oM,x,jj _ hx,hp⟩
   ·rcases j'.1 h with rfl|h
    ·exact⟨Z9,o,iY,rfl⟩
    ·obtain⟨a,x,hx,hp⟩:=ih v h;exact⟨oM,x,jj _ hx,hp⟩
def UY:∀l:List zK,(yh l).length<=l.length
 |[]=>jx 0
 |o::l=>by
  have ih:=UY l;rw[yh,iG];cases e:yh l with
  |nil=>simp
  |cons w ws=>
   rw[e,iG]at ih;dsimp only;split
   ·rw[iG];omega
   ·rw[iG,iG];omega
def y8r {s:Int} {L:List Lv} (h:cT s L) (hp:∀l∈L,1<=l.dr/\1<=l.count) (i:Nat):wo s L i:=by
 intro a ha;have hm:=hp a (kx ha);refine⟨hm.1,hm.2,?_⟩;rintro j b rfl hb;obtain⟨h1,e1⟩:=jk.1 ha;obtain⟨h2,e2⟩:=jk.1 hb;have:=(List.pairwise_iff_getElem.1 h) j (j+1) h2 h1 (Mc j);rw[e1,e2]at this;exact this
def yGe {p:fj} {B:Q_ zK} (h:rz p B) {k:Nat} {L:List zK} (hL:B[k]? =av L) {s:Int} (hs:s=1\/s=2):
 (∀i,wo s (uF L s) i)/\(uF L s).length<=255/\∀l∈uF L s,(1<=l.dr/\l.dr<=250000000)/\l.fit:=by
 obtain⟨h1,h2,h3⟩:=h.od k L hL;have hf:(L.filter λo=>decide (o.side=s)).length<=L.length:=HK _ _;have hl:=UY (L.filter λo=>decide (o.side=s));have tp:∀l∈uF L s,(1<=l.dr/\l.dr<=250000000)/\(1<=l.count/\l.count<=250)/\(-2000000<=l.dm/\l.dm<=2000000):=λl hm=>by
  have q:=XM (λo ho=>h1 o (vi.1 ho).1) hm;obtain⟨c,o,ho,e⟩:=y4v hm;have hp:=h.ok.yq hL o (vi.1 ho).1;rw[e]at hp;exact⟨oM,oM,hp⟩
 refine⟨y8r (yXk h hL hs).1 λl hm=>⟨(tp l hm).1.1,(tp l hm).2.1.1⟩,by rw[uF];omega,λl hm=> ?_⟩;obtain⟨a,b,c⟩:=tp l hm;exact⟨a,⟨oM,oM⟩,⟨oM,oM⟩,⟨oM,oM⟩⟩
def z5z {p:fj} {B:Q_ zK} (h:rz p B) {k:Nat} {L:List zK} (hL:B[k]? =av L) {s:Int} (hs:s=1\/s=2) (hb:(iI L s).2=am):1<=(iI L s).1.dr/\(iI L s).1.dr<=250000000:=by
 have hm:(iI L s).1∈uF L s:=by
  rw[iI]at hb ⊢;split at hb
  ·cases hb
  ·rename_i v vs e;rw[e];exact iY
 exact((yGe h hL hs).2.2 _ hm).1
def y5h {p:fj} {B:Q_ zK} (h:rz p B) {i s:Int} (hi:0<=i/\i<(B.map qC).length) (hs:s=1\/s=2) (hh:((B.map qC).getD i.toNat kg).has s=am):1<=((B.map qC).getD i.toNat kg).dr s/\((B.map qC).getD i.toNat kg).dr s<=250000000:=by
 rw[ib]at hi;obtain⟨L,hL⟩:=zZ (l:=B) (i:=i.toNat) oM;have e:(B.map qC).getD i.toNat kg=qC L:=by rw[mz,ra,hL];rfl
 rw[e]at hh ⊢;obtain⟨t1,t2,t3,t4,t5,t6⟩:=U2 L;rcases hs with rfl|rfl
 ·rw[kf.has,fh rfl,t3]at hh;rw[kf.dr,fh rfl,t2];exact z5z h hL (.inl rfl) hh
 ·rw[kf.has,eg (by decide),t6]at hh;rw[kf.dr,eg (by decide),t5];exact z5z h hL (.inr rfl) hh
def y1h {p:fj} {B:Q_ zK} (h:rz p B) {n s:Int} (hs:s=1\/s=2) {q:Quote} (hq:q∈xR ⟨p,B.map qC,n⟩ s):(1<=q.dr/\q.dr<=250000000)/\(-2000000<=q.dm/\q.dm<=2000000):=by
 rw[xR,vi]at hq;obtain⟨ok,-⟩:=yGl h.ok.pc (by rw[ib,h.ok.bl]) hs hq.1;have qa:=y5h h ok.a ok.sa ok.ha;have qb:=y5h h ok.b ok.sb ok.hb;have hp:p.dm n q.dm=0:=by simpa using hq.2
 exact⟨by rw[ok.dr];omega,Re h.ok.pc hp⟩
def zMp (b:Quote) {M:Int}:∀(l:List Quote) (a:Int×Int),(∀q∈l,1<=q.dr/\q.dr<=M)->1<=a.1->a.1<=M->
 (1<=(l.foldl (λa q=>if q.dm=b.dm then(if q.dr>a.1 then q.dr else a.1,a.2+1)else a) a).1/\(l.foldl (λa q=>if q.dm=b.dm then(if q.dr>a.1 then q.dr else a.1,a.2+1)else a) a).1<=M)/\
 a.2<=(l.foldl (λa q=>if q.dm=b.dm then(if q.dr>a.1 then q.dr else a.1,a.2+1)else a) a).2/\(l.foldl (λa q=>if q.dm=b.dm then(if q.dr>a.1 then q.dr else a.1,a.2+1)else a) a).2<=a.2+l.length/\
 (b∈l->a.2+1<=(l.foldl (λa q=>if q.dm=b.dm then(if q.dr>a.1 then q.dr else a.1,a.2+1)else a) a).2)
 |[],a,_,h1,h2=>⟨⟨h1,h2⟩,yy _,by simp,λh=>by cases h⟩
 |q::l,a,hq,h1,h2=>by
  have q0:=hq q iY;rw[Be,iG];by_cases e:q.dm=b.dm
  ·rw[fh e];obtain⟨r1,r2,r3,r4⟩:=zMp b (M:=M) l (if q.dr>a.1 then q.dr else a.1,a.2+1) (λx hx=>hq x (jj _ hx)) (by dsimp only;split<;>omega) (by dsimp only;split<;>omega);dsimp only at r2 r3;exact⟨r1,oM,oM,λ_=>r2⟩
  ·rw[eg e];obtain⟨r1,r2,r3,r4⟩:=zMp b (M:=M) l a (λx hx=>hq x (jj _ hx)) h1 h2;refine⟨r1,r2,oM,λhb=> ?_⟩;rcases j'.1 hb with rfl|hb
   ·exact absurd rfl e
   ·exact r4 hb
def yPa {l:List Quote} {s:Int} (hl:l.length<=100) (h:∀q∈l,(1<=q.dr/\q.dr<=250000000)/\(-2000000<=q.dm/\q.dm<=2000000)):
 ((kC l s).2=am->1<=(kC l s).1.dr/\1<=(kC l s).1.count)/\((kC l s).2=ao->(kC l s).1=⟨0,0,0⟩)/\(kC l s).1.fit:=by
 by_cases e:(z6 l s).2=am
 ·have hm:=ZZ e;have hb:=h _ hm;have:=zMp (z6 l s).1 (M:=250000000) l ((z6 l s).1.dr,0) (λq hq=>(h q hq).1) hb.1.1 hb.1.2;have e2:kC l s=(⟨(z6 l s).1.dm,(cW l (z6 l s).1).1,(cW l (z6 l s).1).2⟩,am):=by rw[kC,fh e]
  rw[e2];rw[<- cW]at this;obtain⟨r1,r2,r3,r4⟩:=this;have r4:=r4 hm;dsimp only at r2 r3 r4 ⊢;exact⟨λ_=>⟨r1.1,oM⟩,λx=>(by cases x),⟨Z9,Z9⟩,⟨Z9,Z9⟩,⟨Z9,Z9⟩⟩
 ·have e2:kC l s=(⟨0,0,0⟩,ao):=by rw[kC,eg e]
  rw[e2];exact⟨λx=>(by cases x),λ_=>rfl,⟨Z8,Z8⟩,⟨Z8,Z8⟩,⟨Z8,Z8⟩⟩
def zGl {p:fj} {B:Q_ zK} (h:rz p B):wE (yH p B)/\Ry (yH p B)/\xZ (yH p B):=by
 have hc:=y8 p;have hlen:=dO p B;have o7:∀k,k<p.count->∀s,s=1\/s=2->oq s (cY p B k s)/\(cY p B k s).fit:=λk hk s hs=>by
  obtain⟨L,hL⟩:=zZ (l:=B) (i:=k) (by rw[h.ok.bl];exact hk);have e:B.getD k []=L:=zX hL;obtain⟨a1,a2,a3⟩:=yGe h hL hs;obtain⟨b1,b2,b3⟩:=yPa (s:=s) (zBs ⟨p,B.map qC,k⟩ s) (λq hq=>y1h h hs hq);rw[cY,e];exact⟨⟨a1,a2,b1,b2⟩,λx hx=>(a3 x hx).2,b3⟩
 have ug:∀b∈yH p B,∃k,k<p.count/\b=(cY p B k 1,cY p B k 2):=λb hb=>by
  rw[yH]at hb;obtain⟨k,hk,rfl⟩:=nn.1 hb;exact⟨k,CJ.1 hk,rfl⟩
 refine⟨⟨λb hb=> ?_,oM⟩,λb hb=> ?_,⟨oM,λb hb=> ?_⟩⟩
 ·obtain⟨k,hk,rfl⟩:=ug b hb;exact⟨(o7 k hk 1 (.inl rfl)).1,(o7 k hk 2 (.inr rfl)).1⟩
 ·obtain⟨k,hk,rfl⟩:=ug b hb;exact⟨(o7 k hk 1 (.inl rfl)).2,(o7 k hk 2 (.inr rfl)).2⟩
 ·obtain⟨k,hk,rfl⟩:=ug b hb;have a:=(o7 k hk 1 (.inl rfl)).1.2.1;have c:=(o7 k hk 2 (.inr rfl)).1.2.1;dsimp only;omega
structure xg (p:fj) (v:Vw):Prop where
 r:wE v
 f:Ry v
 s:xZ v
 len:v.length=p.count
def JQ {p:fj} {B:Q_ zK} (h:rz p B):xg p (yH p B):=⟨(zGl h).1,(zGl h).2.1,(zGl h).2.2,dO p B⟩
def Pt {s:Int}:∀{L:List Lv},(∀i,wo s L i)->cT s L/\∀l∈L,1<=l.dr/\1<=l.count
 |[],_=>⟨List.Pairwise.nil,λl h=>by cases h⟩
 |x::L,h=>by
  have hL:∀i,wo s L i:=λi a ha=>by
   obtain⟨h1,h2,h3⟩:=h (i+1) a (i9 ha);exact⟨h1,h2,λj b e hb=>h3 (j+1) b oM (i9 hb)⟩
  obtain⟨i1,i2⟩:=Pt hL;obtain⟨h1,h2,_⟩:=h 0 x rfl;refine⟨zg.2 ⟨?_,i1⟩,λl hl=> ?_⟩
  ·cases L with
   |nil=>intro a ha;cases ha
   |cons y L=>
    have hy:jo s x.dm y.dm=am:=(h 1 y rfl).2.2 0 x rfl rfl;intro a ha;rcases j'.1 ha with rfl|ha
    ·exact hy
    ·exact Is hy ((zg.1 i1).1 a ha)
  ·rcases j'.1 hl with rfl|hl
   ·exact⟨h1,h2⟩
   ·exact i2 l hl
def lZ {v:Vw} (h:wE v):Xt v:=λp hp=>by
 obtain⟨⟨a1,a2,a3,a4⟩,⟨b1,b2,b3,b4⟩⟩:=h.1 p hp;obtain⟨s1,p1⟩:=Pt a1;obtain⟨s2,p2⟩:=Pt b1;exact⟨⟨s1,λl hl=>(p1 l hl).1,λx=>(a3 x).1,a4⟩,⟨s2,λl hl=>(p2 l hl).1,λx=>(b3 x).1,b4⟩⟩
def RG:gx 0:=⟨Z8,Z8⟩
def KA (x:Sd):Prop:=(∀l∈x.levels,(1<=l.dr/\1<=l.count)/\l.fit)/\(x.has=am->1<=x.imp.dr/\1<=x.imp.count)/\x.imp.fit
def y3s {p:fj} {v:Vw} (h:xg p v):∀b∈v,KA b.1/\KA b.2:=λb hb=>by
 obtain⟨⟨a1,a2,a3,a4⟩,⟨b1,b2,b3,b4⟩⟩:=h.r.1 b hb;obtain⟨⟨f1,f2⟩,⟨g1,g2⟩⟩:=h.f b hb;exact⟨⟨λl hl=>⟨(Pt a1).2 l hl,f1 l hl⟩,a3,f2⟩,⟨λl hl=>⟨(Pt b1).2 l hl,g1 l hl⟩,b3,g2⟩⟩
def sG {s:Int}:∀(k:Nat) (X Y:List Lv),∀m∈x7 s k X Y,m∈Y\/∃x∈X,m=⟨x.dm,0,0⟩
 |0,_,_,m,h=>by rw[x7]at h;cases h
 |k+1,[],[],m,h=>by rw[x7]at h;cases h
 |k+1,x::X,[],m,h=>by
  rw[x7]at h;rcases j'.1 h with rfl|h
  ·exact .inr ⟨x,iY,rfl⟩
  ·rcases sG k X [] m h with h|⟨z,hz,e⟩
   ·cases h
   ·exact .inr ⟨z,jj _ hz,e⟩
 |k+1,[],y::Y,m,h=>by
  rw[x7]at h;rcases j'.1 h with rfl|h
  ·exact .inl iY
  ·rcases sG k [] Y m h with h|⟨z,hz,e⟩
   ·exact .inl (jj _ h)
   ·cases hz
 |k+1,x::X,y::Y,m,h=>by
  rw[x7]at h;split at h
  ·rcases j'.1 h with rfl|h
   ·exact .inr ⟨x,iY,rfl⟩
   ·rcases sG k X (y::Y) m h with h|⟨z,hz,e⟩
    ·exact .inl h
    ·exact .inr ⟨z,jj _ hz,e⟩
  ·split at h
   ·rcases j'.1 h with rfl|h
    ·exact .inl iY
    ·rcases sG k (x::X) Y m h with h|h
     ·exact .inl (jj _ h)
     ·exact .inr h
   ·rcases oH.1 h with h|h
    ·split at h
     ·cases h
     ·rw[tq]at h;subst h;exact .inl iY
    ·rcases sG k X Y m h with h|⟨z,hz,e⟩
     ·exact .inl (jj _ h)
     ·exact .inr ⟨z,jj _ hz,e⟩
structure CG (n:Nat) (m:VM):Prop where
 inst:m.inst<n
 side:m.side=1\/m.side=2
 q:0<=m.l.dr/\0<=m.l.count
 e:m.l.dr=0↔m.l.count=0
 f:m.l.fit
def z6e {n N:Nat} {s:Int} {a b:Sd} (hn:n<N) (hs:s=1\/s=2) (ha:KA a) (hb:KA b):∀m∈xW n s a b,CG N m:=by
 intro m hm;rw[xW,oH]at hm;rcases hm with hm|hm
 ·obtain⟨l,hl,rfl⟩:=nn.1 hm;rcases sG _ _ _ l hl with h|⟨x,hx,rfl⟩
  ·obtain⟨⟨h1,h2⟩,h3⟩:=hb.1 l h;exact⟨hn,hs,⟨Z9,Z9⟩,⟨λ_=>by dsimp only at*;omega,λ_=>by dsimp only at*;omega⟩,h3⟩
  ·exact⟨hn,hs,⟨yy _,yy _⟩,⟨λ_=>rfl,λ_=>rfl⟩,⟨(ha.1 x hx).2.1,RG,RG⟩⟩
 ·split at hm
  ·rw[tq]at hm;subst hm;have hI:(0<=(CF b).dr/\0<=(CF b).count)/\((CF b).dr=0↔(CF b).count=0)/\(CF b).fit:=by
    rw[CF];split
    ·rename_i h;have:=hb.2.1 h;exact⟨⟨oM,oM⟩,⟨λ_=>X_,λ_=>X_⟩,hb.2.2⟩
    ·exact⟨⟨yy _,yy _⟩,⟨λ_=>rfl,λ_=>rfl⟩,⟨RG,RG,RG⟩⟩
   exact⟨hn,hs,hI.1,hI.2.1,hI.2.2⟩
  ·cases hm
def yIr:∀(n:Nat) (A B:Vw),(∀p∈A,KA p.1/\KA p.2)->(∀p∈B,KA p.1/\KA p.2)->∀m∈xN n A B,CG (n+A.length) m
 |n,[],_,_,_,m,h=>by rw[xN]at h<;>first|cases h|simp
 |n,a::A,[],_,_,m,h=>by rw[xN]at h<;>first|cases h|simp
 |n,a::A,b::B,hA,hB,m,h=>by
  rw[xN,oH,oH]at h;have ha:=hA a iY;have hb:=hB b iY;rw[iG];rcases h with(h|h)|h
  ·exact z6e oM (.inl rfl) ha.1 hb.1 m h
  ·exact z6e oM (.inr rfl) ha.2 hb.2 m h
  ·have:=yIr (n+1) A B (λp hp=>hA p (jj _ hp)) (λp hp=>hB p (jj _ hp)) m h;rwa [show n+1+A.length=n+(A.length+1)by omega]at this
def yUx {p:fj} {v:Vw} (h:xg p v):Vw.oP v<=510*v.length:=by
 have:∀{v:Vw},(∀b∈v,oq 1 b.1/\oq 2 b.2)->Vw.oP v<=510*v.length:=by
  intro v
  induction v with
  |nil=>intro _;exact jx _
  |cons a v ih=>
   intro h;have ha:=h a iY;have:=ih λb hb=>h b (jj _ hb)
   have h1:=ha.1.2.1;have h2:=ha.2.2.1;rw[Vw.oP]at this ⊢;rw[jg,qi,iG];omega
 exact this h.r.1
def ofM (m:gi):VM:=⟨m.inst.toNat,m.side,m.lv,m.gg⟩
def EY (seq:Int) (m:VM):gi:=⟨seq,m.inst,m.side,m.l.dm,m.l.dr,m.l.count,m.imp⟩
def xFo (seq:Int) (m:VM):ofM (EY seq m)=m:=rfl
def yFz:∀{M:List VM} {seq:Int} {k:Nat} {x:VM},M[k]? =av x->(jX seq M)[k]? =av (EY (seq+k+1) x)
 |[],seq,k,x,h=>by cases h
 |m::M,seq,0,x,h=>by
  cases h;rw[jX,CM,Int.natCast_zero,Int.add_zero];rfl
 |m::M,seq,k+1,x,h=>by
  rw[jX,Bk,yFz (M:=M) (i9 h)];congr 2;omega
def yHd:∀(M:List VM) (seq:Int),(jX seq M).length=M.length
 |[],_=>rfl
 |m::M,seq=>by rw[jX,iG,iG,yHd M]
def LN (v:Vw):Prop:=∀p∈v,cT 1 p.1.levels/\cT 2 p.2.levels
def lR (n:Nat) (v:Vw):Prop:=∀p∈v,p.1.levels.length<=n/\p.2.levels.length<=n
def yEf (s:Int) (m:Lv):∀L:List Lv,(mC s L m).length<=L.length+1
 |[]=>by rw[mC];split<;>simp
 |x::L=>by
  have:=yEf s m L;rw[mC];split
  ·split
   ·rw[iG];omega
   ·simp
  ·split
   ·split<;>simp
   ·rw[iG,iG];omega
def yHa {v:Vw} {m:VM} {q:Sd×Sd} (h:q∈bW v m):q∈v\/∃p∈v,q=aD p m:=by
 rw[bW]at h;obtain⟨k,hk⟩:=BB.1 h;rw[FN]at hk;cases e:v[k]? with
 |none=>rw[e]at hk;cases hk
 |some x=>
  rw[e]at hk;have hx:=kx e;have hk:(if m.inst=k then aD x m else x)=q:=Option.some.inj hk;split at hk
  ·exact .inr ⟨x,hx,hk.symm⟩
  ·exact .inl (hk▸hx)
def y1n {v:Vw} {m:VM} (h:LN v):LN (bW v m):=λq hq=>by
 rcases yHa hq with hq|⟨p,hp,rfl⟩
 ·exact h q hq
 ·obtain⟨h1,h2⟩:=h p hp;rw[aD];split
  ·refine⟨?_,h2⟩;rw[vH];split
   ·split<;>exact h1
   ·exact Vl h1
  ·refine⟨h1,?_⟩;rw[vH];split
   ·split<;>exact h2
   ·exact Vl h2
def yYo {v:Vw} {m:VM} {n:Nat} (h:lR n v):lR (n+1) (bW v m):=λq hq=>by
 rcases yHa hq with hq|⟨p,hp,rfl⟩
 ·have:=h q hq;omega
 ·obtain⟨h1,h2⟩:=h p hp;have key:∀s (x:Sd),x.levels.length<=n->(vH s x m).levels.length<=n+1:=λs x hx=>by
   rw[vH];split
   ·split<;>exact HI hx
   ·have:=yEf s m.l x.levels;show(mC s x.levels m.l).length<=n+1;omega
  rw[aD];split
  ·exact⟨key 1 p.1 h1,HI h2⟩
  ·exact⟨HI h1,key 2 p.2 h2⟩
def yEn {s:Int} {x:Sd} {m:gi} (hs:cT s x.levels) (hq:0<=m.dr):Ba s x m=vH s x (ofM m):=by
 rw[Ba,vH];show(if m.gg=am then _ else _)=(if m.gg=am then _ else _);split
 ·rfl
 ·rw[zYn (m:=m.lv) hq hs];rfl
def y9z {v:Vw} {m:gi} (hs:LN v) (hf:m.iO v.length=0):ru v m=bW v (ofM m):=by
 obtain⟨_,f3,f4,_⟩:=VP hf;rw[ru,bW];apply Du;intro k;rw[FN,FN];cases e:v[k]? with
 |none=>rfl
 |some x=>
  obtain⟨h1,h2⟩:=hs x (kx e);show av (if m.inst.toNat=k then _ else x)=av (if m.inst.toNat=k then aD x (ofM m)else x);congr 1;split
  ·rw[aD,yEn h1 f4.1,yEn h2 f4.1];rfl
  ·rfl
def z1p {n:Nat} {m:VM} (h:CG n m) (seq:Int):(EY seq m).iO n=0:=by
 obtain⟨h1,h2,h3,h4,_⟩:=h;rw[gi.iO];show(if(m.inst:Int)<0\/(n:Int)<=(m.inst:Int)then _ else if m.side≠1/\m.side≠2 then _ else if(m.l.dr<0\/m.l.count<0)\/¬(m.l.dr=0↔m.l.count=0)then _ else _)=_;rw[eg X_,eg X_,eg];rintro(x|x)
 ·omega
 ·exact x h4
def tg (c:Vw) (L:List VM) (k:Nat):Vw:=(L.take k).foldl bW c
def y3w (c:Vw) (L:List VM):tg c L 0=c:=by rw[tg,EX];rfl
def z3q {c:Vw} {L:List VM} {k:Nat} {m:VM} (h:L[k]? =av m):tg c L (k+1)=bW (tg c L k) m:=by
 rw[tg,qf,h,AD,IG];rfl
def U3 (c:Vw) (L:List VM):tg c L L.length=L.foldl bW c:=by rw[tg,zf]
def z9o {c:Vw} (hs:LN c) {n:Nat} (hl:lR n c) (L:List VM):∀k,k<=L.length->LN (tg c L k)/\lR (n+k) (tg c L k)/\(tg c L k).length=c.length
 |0,_=>by rw[y3w];exact⟨hs,hl,rfl⟩
 |k+1,h=>by
  obtain⟨m,hm⟩:=zZ (l:=L) (i:=k) oM;obtain⟨h1,h2,h3⟩:=z9o hs hl L k oM;rw[z3q hm];exact⟨y1n h1,yYo h2,by rw[yWm,h3]⟩
def yQk {v:Vw} (h:Xt v):LN v:=λp hp=>⟨(h p hp).1.1,(h p hp).2.1⟩
def yBm {p:fj} {v:Vw} (h:xg p v):lR 255 v:=λb hb=>⟨(h.r.1 b hb).1.2.1,(h.r.1 b hb).2.2.1⟩
def zYy {v:Vw} {n:Nat} (h:lR n v) (hn:n<=1000000) (hl:v.length<=1000000):xZ v:=⟨oM,λb hb=>by have:=h b hb;omega⟩
def xJv {p:fj} {c:Vw} (h:xg p c) {L:List VM} (hL:L.length<=600000) {k:Nat} (hk:k<=L.length):LN (tg c L k)/\xZ (tg c L k)/\(tg c L k).length=p.count:=by
 obtain⟨h1,h2,h3⟩:=z9o (yQk (lZ h.r)) (yBm h) L k hk;have:=h.r.2;exact⟨h1,zYy h2 oM oM,by rw[h3,h.len]⟩
def yFc {p:fj} {c:Vw} (h:xg p c) {L:List VM} (hL:L.length<=600000) (hm:∀m∈L,CG p.count m) {k:Nat} {x:VM} (hx:L[k]? =av x) (seq:Int):
 (EY seq x).iO (tg c L k).length=0/\(tg c L k).length<=1000000/\xZ (tg c L k)/\ru (tg c L k) (EY seq x)=tg c L (k+1):=by
 have hk:=(jk.1 hx).1;obtain⟨h1,h2,h3⟩:=xJv h hL (k:=k) oM;have hf:=z1p (hm x (kx hx)) seq;have:=y8 p;rw[<- h3]at hf;exact⟨hf,oM,h2,by rw[y9z h1 hf,xFo,z3q hx]⟩
@[reducible] def xf (l:i4):Prop:=l.length<=140737488355328
def qv:gh:=fp (Q_ D) (λl=>[ox 1 l]) i6 (λl=>l.length<=140737488355328) (λl=>ox 1 l) i6
def Nj:gh:=fp i4 (λl=>[ox 1 (bE l)]) i6 (λl=>xf l) (λ_=> .nm 0 0) (λl=>[Rd l ao])
def M8:gh:=fp RN (λi=>[.nm 0 0,zB i.n]) (λi=>[Rd i.l i.b]) (λi=>i.n<=255/\xf i.l) (λi=>ox 1 (bE i.iT)) (λi=>[Rd i.left i.bad])
def Lf:gh:=fp RN (λi=>[.nm 0 0,zB i.n]) (λi=>[Rd i.l i.b]) (λi=>i.n<=8/\xf i.l) (λi=>A8 (yW i.iT)) (λi=>[Rd i.left i.bad])
def Jr:gh:=fp RB (λi=>[.nm 0 0]) (λi=>[Rd i.l i.b]) (λi=>xf i.l) (λi=>zB (yW (i.n 1).iT)) (λi=>[Rd (i.n 1).left (i.n 1).bad])
def Jp:gh:=fp RB (λi=>[.nm 0 0]) (λi=>[Rd i.l i.b]) (λi=>xf i.l) (λi=>zB (ag.wrap (yW (i.n 8).iT))) (λi=>[Rd (i.n 8).left (i.n 8).bad])
def Ng:gh:=fp RB (λi=>[.nm 0 0]) (λi=>[Rd i.l i.b]) (λi=>xf i.l) (λi=>zB (if i.b then 10 else if 0<i.l.length then 15 else 0)) (λi=>[Rd i.l i.b])
def GN:gh:=fp i4 (λb=>[ox 1 (bE b)]) i6 (λb=>xf b) (λb=> .je [Iy (xP b).1,zB (xP b).2]) i6
def zYr (i:Q_ D):Prop:=
 ∀(b:Bool),(b=am->i=[])->dp b (∃(o:Unit),i=[]/\True) ((0+i.length)*(1:Nat)<=(140737488355328:Nat)/\∃(o:Unit),i=[]++i/\True)
def yCd (i:Q_ D):zYr i=walk Z_ ([]) 0 ([]) ([]) [] Tryz.f138 (Tryz.f138.body.getD .skip) (qv.pat i) (qv.pre i) (qv.alts i):=by kernel_rfl
def z9v (hG:zq Z_ ([])) (h:∀(i:Q_ D),qv.dp i->zYr i):qv.ok Z_ 138:=qY mixed ([]) hG 0 (λ(i:Q_ D)=>[]) (λ(i:Q_ D)=>[]) [] func138 (by kernel_rfl) (by kernel_rfl) (by kernel_rfl) (λ_=>by kernel_rfl) (λ(i:Q_ D) hc=>Eq.mp (yCd i) (h i hc))
def y8y (i:i4):Prop:=
 ∃(ia:Q_ D),ia=bE i/\ia.length<=140737488355328/\∀(o:Unit),True->∃(o:Unit),bE i=ia/\ao=ao/\True
def y5r (i:RN):Prop:=
 dp i.b (∃(o:Unit),bE i.iT=[]/\bE i.left=bE i.l/\i.bad=am/\True) (dp (decide ((i.n:Int)>((bE i.l).length:Int))) (∃(o:Unit),bE i.iT=[]/\bE i.left=bE i.l/\i.bad=decide ((i.n:Int)>((bE i.l).length:Int))/\True) ((0<=(i.n:Int)/\(i.n:Int)<=((bE i.l).length:Int))/\(0<=(i.n:Int)/\(i.n:Int)<=((bE i.l).length:Int))/\∃(o:Unit),bE i.iT=ac (i.n:Int).toNat (bE i.l)/\bE i.left=ae (i.n:Int).toNat (bE i.l)/\i.bad=decide ((i.n:Int)>((bE i.l).length:Int))/\True))
def y4m (i:RN):Prop:=
 ∃(a:RN),(a.n:Int)=(i.n:Int)/\ap (i4×Bool) 1 iW (a.l,a.b)=Rd i.l i.b/\(a.n<=255/\xf a.l)/\UU i a
def yYl (i:RB):Prop:=
 ∃(ia:RN),(ia.n:Int)=1/\ap (i4×Bool) 1 iW (ia.l,ia.b)=Rd i.l i.b/\(ia.n<=8/\xf ia.l)/\∀(o:Unit),True->∃(o:Unit),yW (i.n 1).iT=ag.wrap (yW ia.iT)/\ap (i4×Bool) 1 iW ((i.n 1).left,(i.n 1).bad)=ap (i4×Bool) 1 iW (ia.left,ia.bad)/\True
def yXj (i:RB):Prop:=
 ∃(ia:RN),(ia.n:Int)=8/\ap (i4×Bool) 1 iW (ia.l,ia.b)=Rd i.l i.b/\(ia.n<=8/\xf ia.l)/\∀(o:Unit),True->∃(o:Unit),ag.wrap (yW (i.n 8).iT)=ag.wrap (yW ia.iT)/\ap (i4×Bool) 1 iW ((i.n 8).left,(i.n 8).bad)=ap (i4×Bool) 1 iW (ia.left,ia.bad)/\True
def y6p (i:RB):Prop:=
 dp i.b (∃(o:Unit),(if i.b=am then(10:Int)else if 0<i.l.length then(15:Int)else(0:Int))=10/\dk (bE i.l)/\i.b=i.b/\True) (dp (decide (((bE i.l).length:Int)>0)) (∃(o:Unit),(if i.b=am then(10:Int)else if 0<i.l.length then(15:Int)else(0:Int))=15/\dk (bE i.l)/\i.b=i.b/\True) (∃(o:Unit),(if i.b=am then(10:Int)else if 0<i.l.length then(15:Int)else(0:Int))=0/\dk (bE i.l)/\i.b=i.b/\True))
def uB (a:RB):=(dI (ag.wrap (x4 a)))
def Wu (a:Bool->Prop) (b:Bool) (c:RB) (d:RB) (e:RB) (f:RB) (g:RB) (h:RB) (j:RB) (k:RB):Prop:=a b/\ap (i4×Bool) 1 iW (c.l,c.b)=ap (i4×Bool) 1 iW ((d.n 1).left,(d.n 1).bad)/\aq [V.d (uB e),V.d (dI (yW (f.n 1).iT)),V.d (dI (yW (g.n 1).iT)),V.d (uB h),V.d (uB j),V.d (uB k),V.d (D.v (.bool (yW (d.n 1).iT==1)))] 51=aq [V.d (uB e),V.d (dI (yW (f.n 1).iT)),V.d (dI (yW (g.n 1).iT)),V.d (uB h),V.d (uB j),V.d (uB k),V.d (D.v (.bool (yW (d.n 1).iT==1)))] 51/\dk (aq (Sx.V.agg [V.d (dI 0),V.d (dI 0),V.d (dI 0),V.d (dI 0),V.d (dI 0),V.d (dI 0),V.d (D.v (.bool ao))]).cl 51)
def zLp (a:Bool->Prop) (b:RB) (c:RB) (d:RB) (e:RB) (f:RB) (g:RB) (h:RB) (j:RB):Prop:=∃(k:Bool),k=am/\Wu a k b c d e f g h j
def yWj (b:i4):Prop:=
 ∃(a:i4),bE a=bE b/\xf a/\ff (∃(d:RB),ap (i4×Bool) 1 iW (d.l,d.b)=ap (i4×Bool) 1 iW (a,ao)/\xf d.l/\ff (∃(f:RB),ap (i4×Bool) 1 iW (f.l,f.b)=ap (i4×Bool) 1 iW ((d.n 8).left,(d.n 8).bad)/\xf f.l/\ff (∃(h:RB),ap (i4×Bool) 1 iW (h.l,h.b)=ap (i4×Bool) 1 iW ((f.n 1).left,(f.n 1).bad)/\xf h.l/\ff (∃(k:RB),ap (i4×Bool) 1 iW (k.l,k.b)=ap (i4×Bool) 1 iW ((h.n 1).left,(h.n 1).bad)/\xf k.l/\ff (∃(m:RB),ap (i4×Bool) 1 iW (m.l,m.b)=ap (i4×Bool) 1 iW ((k.n 8).left,(k.n 8).bad)/\xf m.l/\ff (∃(p:RB),ap (i4×Bool) 1 iW (p.l,p.b)=ap (i4×Bool) 1 iW ((m.n 8).left,(m.n 8).bad)/\xf p.l/\ff (∃(r:RB),ap (i4×Bool) 1 iW (r.l,r.b)=ap (i4×Bool) 1 iW ((p.n 8).left,(p.n 8).bad)/\xf r.l/\ff (∃(t:Bool),∃(u:Bool->Prop),(∃(v:RB),ap (i4×Bool) 1 iW (v.l,v.b)=ap (i4×Bool) 1 iW ((r.n 1).left,(r.n 1).bad)/\xf v.l/\ff (dp ((if v.b=am then(10:Int)else if 0<v.l.length then(15:Int)else(0:Int)) !=0) (zLp u v r d f h k m p) (dp (decide (yW (r.n 1).iT>1)) (zLp u v r d f h k m p) (dp (yW (h.n 1).iT !=1) (∃(x:Bool),x=(yW (h.n 1).iT !=2)/\Wu u x v r d f h k m p) (∃(x:Bool),x=ao/\Wu u x v r d f h k m p)))))/\∀(v:Bool),u v->dp v (dx ((xP b).fst.seq=0/\(xP b).fst.inst=0/\(xP b).fst.side=0/\(xP b).fst.dm=0/\(xP b).fst.dr=0/\(xP b).fst.count=0/\(xP b).fst.gg=ao/\(xP b).snd=12/\True)) (dx ((xP b).fst.seq=ag.wrap (x4 d)/\(xP b).fst.inst=yW (f.n 1).iT/\(xP b).fst.side=yW (h.n 1).iT/\(xP b).fst.dm=ag.wrap (x4 k)/\(xP b).fst.dr=ag.wrap (x4 m)/\(xP b).fst.count=ag.wrap (x4 p)/\(xP b).fst.gg=(yW (r.n 1).iT==1)/\(xP b).snd=0/\True))))))))))
def z6j:qv.ok Z_ 138:=z9v fk λi h=>λb hb=>
 W_ (λe=>⟨(),hb e,Y_⟩) (λ_=>⟨by have h:i.length<=140737488355328:=h;rw[nt,Nat.mul_one];exact h,(),rfl,Y_⟩)
def yPh:Nj.ok Z_ 139:=gy (V:=y8y) mixed (dw z6j fk) 0 i6 i6 [] func139 λ(i:i4) h=>by
 have h:i.length<=140737488355328:=h;exact⟨_,rfl,by rw[yV];exact h,λ_ _=>⟨(),rfl,rfl,Y_⟩⟩
def ySj:M8.ok Z_ 251:=gy (V:=y5r) mixed fk 0 i6 i6 [0] func251 λ(i:RN) h=>by
 obtain⟨h1,h2⟩:=h;have h2:i.l.length<=140737488355328:=h2;refine W_ (λe=> ?_) (λe=>zH (λgr=> ?_) (λgr=> ?_))
 ·have:i.bad=am:=by simp[RN.bad,e]
  exact⟨(),by simp[RN.iT,this],by simp[RN.left,this],this,Y_⟩
 ·rw[yV]at gr;have:i.bad=am:=by simp[RN.bad];right;omega
  exact⟨(),by simp[RN.iT,this],by simp[RN.left,this],by rw[this,yV];simp;omega,Y_⟩
 ·rw[yV]at gr;have:i.bad=ao:=by simp[RN.bad,e];omega
  rw[yV];exact⟨⟨oM,oM⟩,⟨oM,oM⟩,(),by simp[RN.iT,this,eV],by simp[RN.left,this,lK],by rw[this];simp;omega,Y_⟩
def xCs (i:RN) (h:Lf.dp i):y4m i:=by
 unfold y4m UU QM ff dx;obtain⟨h1,h2⟩:=h;refine⟨i,rfl,rfl,⟨oM,h2⟩,λ_ _=>⟨0,rfl,rfl,λj=>j<=i.iT.length,λj=>i.iT.length-j,Z9,λj hj=>zH (λgr=> ?_) (λgr=> ?_)⟩⟩
 ·dsimp only at hj;have hl:=eW i;rw[yV]at gr ⊢;obtain⟨b,hb⟩:∃b,i.iT[j]? =av b:=⟨_,vl oM⟩
  have e8:ag.wrap (8*(j:Int))=8*j:=iw oM;refine⟨⟨oM,oM⟩,b.toNat,dD hb,by rw[e8];omega,j+1,?_,?_,Z9,Z9,rfl⟩
  ·rw[e8,y2r,qf,hb];simp only[AD];rw[zMx];obtain⟨r1,r2⟩:=hJ (i.iT.take j);rw[nr,FL X_]at r2 ⊢;obtain⟨x,hx⟩:∃x:Nat,yW (i.iT.take j)=x:=⟨(yW (i.iT.take j)).toNat,oM⟩
   rw[hx]at r2 ⊢;have:=z7v (x:=x) (b:=b.toNat) (j:=j) (by exact_mod_cast r2) b.toNat_lt oM;rw[show(8*(j:Int))=((8*j:Nat):Int)by simp,this];simp
  ·rw[iw X_];rfl
 ·dsimp only at hj;rw[yV]at gr;exact⟨(),by rw[ng X_],rfl,Y_⟩
def yIv:Lf.ok Z_ 206:=gy mixed (dw ySj fk) 0 i6 (λi=>xFt i) [] func206 xCs
def yKj:Jr.ok Z_ 141:=gy (V:=yYl) mixed (dw yIv fk) 0 i6 i6 [] func141 λ(i:RB) h=>by
 have hl:=eW (i.n 1);have hr:=hJ (i.n 1).iT;have h0:(256:Int) ^ (i.n 1).iT.length<=256 ^ 1:=by
  have:(256:Nat) ^ (i.n 1).iT.length<=256 ^ 1:=Nat.pow_le_pow_right oM hl
  exact_mod_cast this
 exact⟨i.n 1,rfl,rfl,⟨by show 1<=8;omega,h⟩,λ_ _=>⟨(),(iw oM).symm,rfl,Y_⟩⟩
def yJm:Jp.ok Z_ 140:=gy (V:=yXj) mixed (dw yIv fk) 0 i6 i6 [] func140 λ(i:RB) h=>by
 exact⟨i.n 8,rfl,rfl,⟨by show 8<=8;omega,h⟩,λ_ _=>⟨(),rfl,rfl,Y_⟩⟩
def yTi:Ng.ok Z_ 142:=gy (V:=y6p) mixed fk 0 i6 i6 [0] func142 λ(i:RB) h=>by
 refine W_ (λe=>⟨(),by rw[fh e],rfl,rfl,Y_⟩) (λe=>zH (λgr=>⟨(),?_,rfl,rfl,Y_⟩) (λgr=>⟨(),?_,rfl,rfl,Y_⟩))
 ·rw[yV]at gr;rw[eg (by simp[e]),fh X_]
 ·rw[yV]at gr;rw[eg (by simp[e]),eg X_]
def z2o {r:RB} (h:xf r.l):xf r.byte.2.l:=tz (pD _) h
def Vn {r:RB} (h:xf r.l):xf r.fx.2.l:=tz (pD _) h
def xBr (b:i4) (h:GN.dp b):yWj b:=by
 have h:xf b:=h;obtain⟨r0,hr⟩:∃r0,r0=RB.mk b ao:=⟨_,rfl⟩
 have h0:xf r0.l:=by rw[hr];exact h
 have h1:=Vn h0;have h2:=z2o h1;have h3:=z2o h2;have h4:=Vn h3;have h5:=Vn h4;have h6:=Vn h5;have h7:=z2o h6;obtain⟨M,hm⟩:∃M:gi,M=⟨r0.fx.1,r0.fx.2.byte.1,r0.fx.2.byte.2.byte.1,r0.fx.2.byte.2.byte.2.fx.1,r0.fx.2.byte.2.byte.2.fx.2.fx.1,r0.fx.2.byte.2.byte.2.fx.2.fx.2.fx.1,decide (r0.fx.2.byte.2.byte.2.fx.2.fx.2.fx.2.byte.1=1)⟩:=⟨_,rfl⟩
 have vd:xP b=if r0.fx.2.byte.2.byte.2.fx.2.fx.2.fx.2.byte.2.lj≠0\/1<r0.fx.2.byte.2.byte.2.fx.2.fx.2.fx.2.byte.1\/(r0.fx.2.byte.2.byte.1≠1/\r0.fx.2.byte.2.byte.1≠2)then(EN,12)else(M,0):=by
  rw[hm,hr];rfl
 unfold yWj ff dx zLp Wu uB x4 dI;generalize xP b=X at vd ⊢;refine⟨b,rfl,h,λ_ _=>⟨r0,by rw[hr],h0,λ_ _=>⟨r0.fx.2,rfl,h1,λ_ _=>⟨r0.fx.2.byte.2,rfl,h2,λ_ _=>⟨r0.fx.2.byte.2.byte.2,rfl,h3,λ_ _=>⟨r0.fx.2.byte.2.byte.2.fx.2,rfl,h4,λ_ _=>⟨r0.fx.2.byte.2.byte.2.fx.2.fx.2,rfl,h5,λ_ _=>⟨r0.fx.2.byte.2.byte.2.fx.2.fx.2.fx.2,rfl,h6,λ_ _=>⟨ao,λx=>x=decide (r0.fx.2.byte.2.byte.2.fx.2.fx.2.fx.2.byte.2.lj≠0\/1<r0.fx.2.byte.2.byte.2.fx.2.fx.2.fx.2.byte.1\/(r0.fx.2.byte.2.byte.1≠1/\r0.fx.2.byte.2.byte.1≠2)),⟨r0.fx.2.byte.2.byte.2.fx.2.fx.2.fx.2.byte.2,rfl,h7,λ_ _=> ?_⟩,?_⟩⟩⟩⟩⟩⟩⟩⟩⟩
 ·refine W_ (λe=>⟨am,rfl,(jt (.inl ((bne_iff_ne (a:=r0.fx.2.byte.2.byte.2.fx.2.fx.2.fx.2.byte.2.lj) (b:=0)).1 e))).symm,rfl,gj⟩) (λe=>zH (λe2=>⟨am,rfl,(jt (.inr (.inl e2))).symm,rfl,gj⟩) (λe2=>W_ (λe3=>⟨_,rfl,?_,rfl,gj⟩) (λe3=>⟨_,rfl,?_,rfl,gj⟩)))
  ·have e:¬r0.fx.2.byte.2.byte.2.fx.2.fx.2.fx.2.byte.2.lj≠0:=not_not_intro ((bne_eq_false_iff_eq (a:=r0.fx.2.byte.2.byte.2.fx.2.fx.2.fx.2.byte.2.lj) (b:=0)).1 e);have e3:r0.fx.2.byte.2.byte.1≠1:=(bne_iff_ne (a:=r0.fx.2.byte.2.byte.1) (b:=1)).1 e3;show(r0.fx.2.byte.2.byte.1 !=2)=decide _;rw[CK,decide_eq_true_iff,bne_iff_ne];exact⟨λx=> .inr (.inr ⟨e3,x⟩),λx=>((x.resolve_left e).resolve_left e2).2⟩
  ·have e:¬r0.fx.2.byte.2.byte.2.fx.2.fx.2.fx.2.byte.2.lj≠0:=not_not_intro ((bne_eq_false_iff_eq (a:=r0.fx.2.byte.2.byte.2.fx.2.fx.2.fx.2.byte.2.lj) (b:=0)).1 e);have e3:r0.fx.2.byte.2.byte.1=1:=(bne_eq_false_iff_eq (a:=r0.fx.2.byte.2.byte.1) (b:=1)).1 e3;exact(ju λx=>((x.resolve_left e).resolve_left e2).1 e3).symm
 rintro _ rfl;refine zH (λe=> ?_) (λe=> ?_)
 ·rw[fh e]at vd;rw[vd];exact⟨(),iB Y_⟩
 ·rw[eg e]at vd;rw[vd,hm];exact⟨(),iB Y_⟩
def yTp:GN.ok Z_ 65:=gy mixed (dw yPh (dw yKj (dw yJm (dw yTi fk)))) 0 (λ_=>xEv) i6 [] func65 xBr
@[reducible] def FP:Nat:=44
def kj (l:i4):List D:=[.ro 1 (bE l)]
def B6:gh:=fp Nat (λn=>[.d (.v (.slice aw 0 0)),zB n]) i6 (λn=>1<=n/\n<=1099511627776) (λ_=> .own 0) (λ_=>[.own FO 1 []])
def yo:gh:=fp (Q_ UInt8) (λls=>[ox 1 (ls.map kj)]) i6 (λls=>1<=ls.flatten.length/\ls.flatten.length<=1099511627776/\ls.length<=1000) (λ_=> .own 0) (λls=>[.own FO 1 (bE ls.flatten)])
def y3q (ls:Q_ UInt8):List gu:=[
 {ι:=Nat,du:=λk=>[(3,zB (ls.take k).flatten.length),(11,zB k)],rows:=λ_=>[]},
 {ι:=Nat,du:=λk=>[(6,.own 0),(27,zB k)],rows:=λk=>[.own FO 1 (bE (ls.take k).flatten)]}]
structure Dk where
 b:i4
 safe:Nat
def YO (d:Dk):Nat->fq
 |0=> .cells [.own 1,zB d.safe] 218
 |1=> .own FO 1 (bE d.b)
 |_=> .gone
def mc (d:Dk):fq:= .rk Dk 2 YO d
@[reducible] def Dk.ok (d:Dk):Prop:=d.safe<=d.b.length/\d.b.length<=1048576
structure KE where
 d:Dk
 l:i4
def UH:gh:=fp Unit i6 i6 (λ_=>True) (λ_=> .nm 0 0) (λ_=>[mc ⟨[],0⟩])
def UL:gh:=fp KE (λi=>[.nm 0 0,ox 1 (bE i.l)]) (λi=>[mc i.d]) (λi=>i.d.b.length+i.l.length<=1048576) (λ_=>zB 0) (λi=>[mc ⟨i.d.b++i.l,i.d.safe⟩])
def UK:gh:=fp Dk (λ_=>[.nm 0 0]) (λd=>[mc d]) (λd=>d.ok) (λ_=> .own 1) (λd=>[mc d,.own FO 1 (bE d.b)])
def te:gh:=fp (Q_ D) (λl=>[ox 1 l]) i6 (λl=>l.length<=140737488355328) (λ_=> .own 0) (λl=>[.own FO 1 l])
def UE:gh:=fp KE (λi=>[.nm 0 0,ox 1 (bE i.l)]) (λi=>[mc i.d]) (λi=>i.l.length<=1048576) (λ_=>zB 0) (λi=>[mc ⟨i.l,i.l.length⟩])
def jC (l:i4):i4:=iZ l.length::UInt8.ofNat (255-l.length)::(l++le (dH l) 4)
def GS:gh:=fp i4 (λl=>[ox 1 (bE l)]) i6 (λl=>l.length<=255) (λ_=> .je [.own 0,zB 0]) (λl=>[.own FO 1 (bE (jC l))])
def xCc:List (Nat×gu):=[(20,{ι:=Unit,du:=λ_=>[],rows:=λ_=>[],Dy:=[4]})]
def CE (l:i4):i4×Nat×Int:=
 if l.length<2 then([],0,10)else if(l.getD 1 0).toNat≠255-(l.getD 0 0).toNat then([],0,14)else
 if l.length<6+(l.getD 0 0).toNat then([],0,10)else
 if yW ((l.drop (2+(l.getD 0 0).toNat)).take 4)≠dH ((l.drop 2).take (l.getD 0 0).toNat)then([],0,14)else
 ((l.drop 2).take (l.getD 0 0).toNat,6+(l.getD 0 0).toNat,0)
structure Ga where
 b:i4
 k:Nat
def Ga.x (i:Ga):i4×Nat×Int:=CE (i.b.drop i.k)
def LV:V:= .d (.v (.slice aw 0 0))
def S5:gh where
 ι:=Ga
 pat:=λi=>[ox 1 (bE i.b),zB i.k]
 pre:=λ_=>[]
 dp:=λi=>i.k<=i.b.length/\i.b.length<=1099511627776
 alts:=λi=>[{o:=Unit,res:=λ_=> .je [.own 0,zB (i.k+i.x.2.1),zB 0],post:=λ_=>[.own FO 1 (bE i.x.1)],rel:=λ_=>i.x.2.2=0},
  {o:=Unit,res:=λ_=> .je [LV,zB 0,zB i.x.2.2],post:=λ_=>[],rel:=λ_=>i.x.2.2≠0}]
def oV (L:Q_ UInt8):i4:=L.flatMap jC
structure Er where
 L:Q_ UInt8
 t:i4
@[reducible] def Er.ok (i:Er):Prop:=(∀l∈i.L,l.length<=255)/\(CE i.t).2.2=10/\(oV i.L).length+i.t.length<=1048576
@[reducible] def HR (L:Q_ UInt8):fq:= .own FP 1 (L.map kj)
def KO:gh:=fp Er (λi=>[ox 1 (bE (oV i.L++i.t))]) i6 (λi=>i.ok) (λi=> .je [.own 0,zB (oV i.L).length,zB 0]) (λi=>[HR i.L])
def xEh (i:Er):List gu:=[{ι:=Nat,du:=λk=>[(5,.own 0),(6,zB (oV (i.L.take k)).length)],rows:=λk=>[HR (i.L.take k)]}]
def Mm (d:Nat) (n:Int):fq:= .cells [.nm d 0,zB n] 235
structure Cx where
 s:Nat
 L:Q_ UInt8
 t:i4
def Cx.d (i:Cx):Dk:=⟨oV i.L++i.t,i.s⟩
def Cx.d' (i:Cx):Dk:=if i.t=[]then i.d else⟨oV i.L,(oV i.L).length⟩
def aax:gh:=fp Cx (λ_=>[.nm 0 0]) (λi=>[mc i.d]) (λi=>(Er.mk i.L i.t).ok/\i.d.ok) (λ_=> .je [.nm 1 0,.own 2,zB 0]) (λi=>[mc i.d',Mm 0 i.L.length,HR i.L])
structure YM where
 d:Dk
 n:Int
 l:i4
def Uf:gh:=fp YM (λi=>[.nm 0 0,ox 1 (bE i.l)]) (λi=>[Mm 1 i.n,mc i.d]) (λi=>i.l.length<=255/\i.d.b.length+i.l.length+6<=1048576/\0<=i.n/\i.n<=1048576) (λ_=>zB 0) (λi=>[Mm 1 (i.n+1),mc ⟨i.d.b++jC i.l,i.d.safe⟩])
def mV (a:Nat) (b:Q_ UInt8):=((ac a b).flatten.length:Int)
def XD (ls:Q_ UInt8):Prop:=
 ∃(a:Nat),(mV a ls)=0/\(a:Int)=0/\∃(b:Nat->Prop),∃(c:Nat->Nat),b a/\∀(d:Nat),b d->dp (decide ((d:Int)<((aa kj ls).length:Int))) ((0<=(d:Int)/\(d:Int)<((aa kj ls).length:Int))/\∃(e:Q_ D),zC (aa kj ls) (d:Int).toNat 0 1=av [D.ro 1 e]/\dp (decide (ag.wrap ((mV d ls)+(e.length:Int))<0)) False (∃(f:Nat),(mV f ls)=ag.wrap ((mV d ls)+(e.length:Int))/\kL f d b c)) (∃(e:Nat),True/\(e:Int)=(mV d ls)/\(1<=e/\e<=1099511627776)/\ff (∃(g:Nat),(g:Int)=0/\bE (ac g ls).flatten=[]/\∃(h:Nat->Prop),∃(j:Nat->Nat),h g/\∀(k:Nat),h k->dp (decide ((k:Int)<((aa kj ls).length:Int))) ((0<=(k:Int)/\(k:Int)<((aa kj ls).length:Int))/\∃(l:Q_ D),zC (aa kj ls) (k:Int).toNat 0 1=av [D.ro 1 l]/\((bE (ac k ls).flatten).length+l.length)*(1:Nat)<=(140737488355328:Nat)/\∃(m:Nat),(m:Int)=ag.wrap ((k:Int)+1)/\bE (ac m ls).flatten=bE (ac k ls).flatten++l/\h m/\j m<j k/\True) (dx (bE ls.flatten=bE (ac k ls).flatten/\True))))
def y8w (ls:Q_ UInt8):XD ls=walk Z_ ([(134,B6)]) 0 ([]) (y3q ls) [] Tryz.f58 (Tryz.f58.body.getD .skip) (yo.pat ls) (yo.pre ls) (yo.alts ls):=by kernel_rfl
def xCb (hG:zq Z_ ([(134,B6)])) (h:∀(ls:Q_ UInt8),yo.dp ls->XD ls):yo.ok Z_ 58:=qY mixed ([(134,B6)]) hG 0 (λ(ls:Q_ UInt8)=>[]) (λ(ls:Q_ UInt8)=>y3q ls) [] func58 (by kernel_rfl) (by kernel_rfl) (by kernel_rfl) (λ_=>by kernel_rfl) (λ(ls:Q_ UInt8) hc=>Eq.mp (y8w ls) (h ls hc))
def xFu (u:Unit):Prop:=
 ∃(o:Unit),((0:Nat):Int)=0/\bE []=[]/\True
def y2w (i:KE):Prop:=
 dp (decide (((bE i.l).length:Int)>ag.wrap (1048576-((bE i.d.b).length:Int)))) (dx ((0:Int)=(13:Int)/\dk ((i.d.safe:Int))/\bE (i.d.b++i.l)=bE i.d.b/\True)) (((bE i.d.b).length+(bE i.l).length)*(1:Nat)<=(140737488355328:Nat)/\dx (dk ((0:Int))/\dk ((i.d.safe:Int))/\bE (i.d.b++i.l)=bE i.d.b++bE i.l/\True))
def xHl (d:Dk):Prop:=
 ∃(i:Q_ D),i=bE d.b/\i.length*(1:Nat)<=(140737488355328:Nat)/\∀(o:Unit),True->∃(o:Unit),dk ((d.safe:Int))/\bE d.b=i/\bE d.b=i/\True
def z5l (i:Q_ D):Prop:=
 ∀(b:Bool),(b=am->i=[])->dp b (∃(o:Unit),i=[]/\True) ((0+i.length)*(1:Nat)<=(140737488355328:Nat)/\∃(o:Unit),i=[]++i/\True)
def yLz (i:Q_ D):z5l i=walk Z_ ([]) 0 ([]) ([]) [] Tryz.f138 (Tryz.f138.body.getD .skip) (te.pat i) (te.pre i) (te.alts i):=by kernel_rfl
def yLu (hG:zq Z_ ([])) (h:∀(i:Q_ D),te.dp i->z5l i):te.ok Z_ 138:=qY mixed ([]) hG 0 (λ(i:Q_ D)=>[]) (λ(i:Q_ D)=>[]) [] func138 (by kernel_rfl) (by kernel_rfl) (by kernel_rfl) (λ_=>by kernel_rfl) (λ(i:Q_ D) hc=>Eq.mp (yLz i) (h i hc))
def y5d (i:KE):Prop:=
 dp (decide (((bE i.l).length:Int)>1048576)) (dx ((0:Int)=(13:Int)/\(i.l.length:Int)=(i.d.safe:Int)/\bE i.l=bE i.d.b/\True)) (∃(a:Q_ D),a=bE i.l/\a.length<=140737488355328/\ff (dx (dk ((0:Int))/\(i.l.length:Int)=(a.length:Int)/\bE i.l=a/\True)))
def yTw (l:i4):Prop:=
 dp (decide (((bE l).length:Int)>255)) (dx ((0:Int)=(3:Int)/\bE (jC l)=[]/\True)) (dx (True/\ff (∃(c:WN),c.n=((bE l).length:Int)/\ap i4 2 ld c.l=ap i4 2 ld []/\c.ok/\ff (∃(e:WN),e.n=ag.wrap ((ay ag.bits (if ag.signed=am then(-1:Int)else ag.max) ^^^ ay ag.bits ((bE l).length:Int)).toNat:Int)/\ap i4 2 ld e.l=ap i4 2 ld (c.l++[iZ c.n])/\e.ok/\ff (((bE (e.l++[iZ e.n])).length+(bE l).length)*(1:Nat)<=(140737488355328:Nat)/\∃(g:i4),bE g=bE l/\g.length<=1099511627776/\ff (∃(j:WN),j.n=dH g/\bE j.l=bE (e.l++[iZ e.n])++bE l/\(j.l.length+(8:Nat)<=(1099511627776:Nat)/\0<=j.n/\j.n<4294967296)/\ff (∃(m:i4),ap i4 2 ld m=ap i4 2 ld (j.l++le j.n 4)/\m.length<=1099511627776/\ff (dx (dk ((0:Int))/\bE (jC l)=bE m/\True)))))))))
def nV (a:Ga):=(ae (a.k:Int).toNat (bE a.b))
def aN (a:Ga):=((nV a).length:Int)
def cJ (a:Int):=(2+ag.wrap a)
def ZA (a:Int) (b:Ga):Prop:=(0:Int)<=(2:Int)/\2<=ag.wrap (cJ a)/\ag.wrap (cJ a)<=(aN b)
def VA (a:Int) (b:Ga):=(ac (ag.wrap (cJ a)).toNat (nV b))
def Rh (a:Int):=(ag.wrap (cJ a)+4)
def xEc (i:Ga):Prop:=
 dp (decide ((i.k:Int)>((bE i.b).length:Int))) ((dx ((i.k:Int)+(i.x.snd.fst:Int)=(0:Int)/\(0:Int)=1/\bE i.x.fst=[]/\i.x.snd.snd=0))\/(dx (True/\dk ((0:Int))/\i.x.snd.snd=1/\(i.x.snd.snd=0->False)))) ((0<=(i.k:Int)/\(i.k:Int)<=((bE i.b).length:Int))/\dp (decide ((aN i)<2)) ((dx ((i.k:Int)+(i.x.snd.fst:Int)=(0:Int)/\(0:Int)=10/\bE i.x.fst=[]/\i.x.snd.snd=0))\/(dx (True/\dk ((0:Int))/\i.x.snd.snd=10/\(i.x.snd.snd=0->False)))) (((0:Int)<=(1:Int)/\1<(aN i))/\∃(a:Int),zC (nV i) (ax 1) 0 1=av [D.v (.int .u8 a)]/\((0:Int)<=(0:Int)/\0<(aN i))/\∃(b:Int),zC (nV i) (ax 0) 0 1=av [D.v (.int .u8 b)]/\dp (a !=aj.wrap ((ay aj.bits (if aj.signed=am then(-1:Int)else aj.max) ^^^ ay aj.bits b).toNat:Int)) ((dx ((i.k:Int)+(i.x.snd.fst:Int)=(0:Int)/\(0:Int)=14/\bE i.x.fst=[]/\i.x.snd.snd=0))\/(dx (True/\dk ((0:Int))/\i.x.snd.snd=14/\(i.x.snd.snd=0->False)))) (((0:Int)<=(0:Int)/\0<(aN i))/\∃(c:Int),zC (nV i) (ax 0) 0 1=av [D.v (.int .u8 c)]/\dp (decide ((aN i)<ag.wrap (Rh c))) ((dx ((i.k:Int)+(i.x.snd.fst:Int)=(0:Int)/\(0:Int)=10/\bE i.x.fst=[]/\i.x.snd.snd=0))\/(dx (True/\dk ((0:Int))/\i.x.snd.snd=10/\(i.x.snd.snd=0->False)))) ((0<=ag.wrap (cJ c)/\ag.wrap (cJ c)<=ag.wrap (Rh c)/\ag.wrap (Rh c)<=(aN i))/\∃(d:i4),bE d=ae (ag.wrap (cJ c)).toNat (ac (ag.wrap (Rh c)).toNat (nV i))/\d.length<=1099511627776/\ff ((ZA c i)/\∃(f:RN),(f.n:Int)=4/\ap (i4×Bool) 1 iW (f.l,f.b)=ap (i4×Bool) 1 iW (d,ao)/\(f.n<=8/\f.l.length<=1099511627776)/\ff (∃(h:i4),bE h=ae (ax 2) (VA c i)/\h.length<=1099511627776/\ff (dp (ak.wrap (yW f.iT) !=dH h) ((dx ((i.k:Int)+(i.x.snd.fst:Int)=(0:Int)/\(0:Int)=14/\bE i.x.fst=[]/\i.x.snd.snd=0))\/(dx (True/\dk ((0:Int))/\i.x.snd.snd=14/\(i.x.snd.snd=0->False)))) ((ZA c i)/\(0+(ae (ax 2) (VA c i)).length)*(1:Nat)<=(140737488355328:Nat)/\((dx ((i.k:Int)+(i.x.snd.fst:Int)=ag.wrap (ag.wrap ((i.k:Int)+ag.wrap (cJ c))+4)/\dk ((0:Int))/\bE i.x.fst=[]++ae (ax 2) (VA c i)/\i.x.snd.snd=0))\/(dx (False)))))))))))
def dG (a:Nat) (b:Er):=((oV (ac a b.L)).length:Int)
def zNb (a:Er) (b:Nat):Prop:=dx (((oV a.L).length:Int)=(dG b a)/\dk ((0:Int))/\aa kj a.L=aa kj (ac b a.L)/\True)
def y3l (i:Er):Prop:=
 ∃(a:Nat),(dG a i)=0/\aa kj (ac a i.L)=[]/\∃(b:Nat->Prop),∃(c:Nat->Nat),b a/\∀(d:Nat),b d->dp (decide ((dG d i)<((bE (oV i.L++i.t)).length:Int))) (∃(e:Ga),bE e.b=bE (oV i.L++i.t)/\(e.k:Int)=(dG d i)/\(e.k<=e.b.length/\e.b.length<=1099511627776)/\(∀(f:Unit),e.x.snd.snd=0->((aa kj (ac d i.L)).length+1)*(24:Nat)<=(140737488355328:Nat)/\∃(g:Nat),(dG g i)=(e.k:Int)+(e.x.snd.fst:Int)/\aa kj (ac g i.L)=aa kj (ac d i.L)++[[D.ro 1 (bE e.x.fst)]]/\b g/\c g<c d/\True)/\∀(f:Unit),e.x.snd.snd≠0->dp (e.x.snd.snd==0) (((aa kj (ac d i.L)).length+1)*(24:Nat)<=(140737488355328:Nat)/\∃(g:Nat),(dG g i)=0/\aa kj (ac g i.L)=aa kj (ac d i.L)++[[D.v y7]]/\b g/\c g<c d/\True) (dp (e.x.snd.snd==10) (zNb i d) (dx (((oV i.L).length:Int)=(dG d i)/\(0:Int)=(14:Int)/\aa kj i.L=aa kj (ac d i.L)/\True)))) (zNb i d)
def xDk (i:Cx):Prop:=
 ∃(a:Dk),mc a=mc i.d/\(a.safe<=a.b.length/\a.b.length<=1048576)/\ff (∃(c:Er),bE (oV c.L++c.t)=bE a.b/\((∀(d:i4),d∈c.L->d.length<=255)/\(CE c.t).snd.snd=10/\(oV c.L).length+c.t.length<=1048576)/\ff (dp (decide (((oV c.L).length:Int)<((bE a.b).length:Int))) ((0<=((oV c.L).length:Int)/\((oV c.L).length:Int)<=((bE a.b).length:Int))/\∃(e:KE),bE e.l=ac ((oV c.L).length:Int).toNat (bE a.b)/\mc e.d=mc a/\e.l.length<=1048576/\ff (dx (dk ((0:Int))/\mc i.d'=mc (Dk.mk e.l e.l.length)/\(i.L.length:Int)=((aa kj c.L).length:Int)/\aa kj i.L=aa kj c.L/\True))) (dx (dk ((0:Int))/\mc i.d'=mc a/\(i.L.length:Int)=((aa kj c.L).length:Int)/\aa kj i.L=aa kj c.L/\True))))
def xGq (i:YM):Prop:=
 ∃(ia:i4),bE ia=bE i.l/\ia.length<=255/\∀(o:Unit),True->∃(mh:KE),bE mh.l=bE (jC ia)/\ap Dk 2 YO mh.d=mc i.d/\mh.d.b.length+mh.l.length<=1048576/\∀(o:Unit),True->∃(o:Unit),dk ((0:Int))/\i.n+1=ag.wrap (i.n+1)/\ap Dk 2 YO (Dk.mk (i.d.b++jC i.l) i.d.safe)=ap Dk 2 YO (Dk.mk (mh.d.b++mh.l) mh.d.safe)/\True
end Sx
