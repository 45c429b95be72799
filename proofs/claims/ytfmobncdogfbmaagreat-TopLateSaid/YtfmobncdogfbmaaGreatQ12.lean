/- Texts of ours. No condition. -/
import Derived.Test.YtfmobncdogfbmaaGreatQ11
set_option linter.all false
open List renaming map->ab,findIdx?->ac,take->ae,drop->af,length->ag
open Go.IntKind renaming i64->aj,u8->ak,u32->am
open Bool renaming true->ao,false->ap
open Sx.fq renaming rh->aq,cells->ar,own->au,kq->av
open Option renaming some->aw,none->ax
open Int renaming toNat->ay
open BitVec renaming ofInt->az
namespace Sx
set_option maxRecDepth 100000
open Go Cv Go.Proofs
def y2o (i:Q_ D):Prop:=
 ∀(b:Bool),(b=ao->i=[])->dp b (∃(o:Unit),i=[]/\True) ((0+i.length)*(112:Nat)<=(140737488355328:Nat)/\∃(o:Unit),i=[]++i/\True)
def y6j (i:Q_ D):y2o i=walk Tryz.prog ([]) 0 ([]) ([]) [] Tryz.f153 (Tryz.f153.body.getD .skip) (Ag.pat i) (Ag.pre i) (Ag.alts i):=by kernel_rfl
def xBk (hG:zf Tryz.prog ([])) (h:∀(i:Q_ D),Ag.dp i->y2o i):Ag.ok Tryz.prog 153:=qY mixed ([]) hG 0 (λ(i:Q_ D)=>[]) (λ(i:Q_ D)=>[]) [] Tryz.func153 (by kernel_rfl) (by kernel_rfl) (by kernel_rfl) (λ_=>by kernel_rfl) (λ(i:Q_ D) hc=>Eq.mp (y6j i) (h i hc))
def y3l (i:Q_ D):Prop:=
 ∀(b:Bool),(b=ao->i=[])->dp b (∃(o:Unit),i=[]/\True) ((0+i.length)*(24:Nat)<=(140737488355328:Nat)/\∃(o:Unit),i=[]++i/\True)
def y4s (i:Q_ D):y3l i=walk Tryz.prog ([]) 0 ([]) ([]) [] Tryz.f154 (Tryz.f154.body.getD .skip) (Ak.pat i) (Ak.pre i) (Ak.alts i):=by kernel_rfl
def y6v (hG:zf Tryz.prog ([])) (h:∀(i:Q_ D),Ak.dp i->y3l i):Ak.ok Tryz.prog 154:=qY mixed ([]) hG 0 (λ(i:Q_ D)=>[]) (λ(i:Q_ D)=>[]) [] Tryz.func154 (by kernel_rfl) (by kernel_rfl) (by kernel_rfl) (λ_=>by kernel_rfl) (λ(i:Q_ D) hc=>Eq.mp (y4s i) (h i hc))
def zHk (a:Nat->Prop) (b:Nat) (c:Nat->Nat) (d:Nat) (e:oZ):Prop:=a b/\c b<c d/\dl (ar om.cl 59)/\dl (av 10 (ab zA e.v))
def eU (a:oZ) (b:Nat) (c:Q_ D) (d:Nat->Prop) (e:Nat->Nat) (f:Nat):Prop:=(bif decide (a.n<b)then a.lv else[])=c/\zHk d b e f a
def fU (a:oZ) (b:Nat) (c:Q_ D):=(zK (ab zA a.v) (b:Int).toNat 0 [D.ro 3 c])
def lR (a:Nat) (b:oZ) (c:Q_ D):Prop:=0<=(a:Int)/\(a:Int)<((fU b a c).length:Int)
def fW (a:Nat) (b:oZ):Prop:=0<=(a:Int)/\(a:Int)<((ab zA b.v).length:Int)
def ySw (i:oZ):Prop:=
 ∃(a:Q_ D),a=ab zA i.v/\a.length*(112:Nat)<=(140737488355328:Nat)/\ff (∃(c:Nat),(c:Int)=0/\(ab zA i.v=a/\decide (i.n<c)=ap)/\(bif decide (i.n<c)then i.lv else[])=[]/\∃(d:Nat->Prop),∃(e:Nat->Nat),d c/\∀(f:Nat),d f->dp (decide ((f:Int)<(a.length:Int))) ((fW f i)/\∃(g:Q_ D),zD (ab zA i.v) (f:Int).toNat 0 1=aw [D.ro 3 g]/\(i.f<10/\(decide (i.n<f)=ao->(f:Int).toNat=i.n->(0:Nat)+(1:Nat)<=i.f\/i.f<0))/\(fW f i)/\∃(h:Q_ D),h=g/\h.length*(24:Nat)<=(140737488355328:Nat)/\ff (((fW f i)/\dl ((f:Int).toNat))/\True/\((f:Int).toNat<(ab zA i.v).length/\(0:Nat)<(10:Nat))/\((f:Int).toNat=i.n->0=i.f->(fW f i)/\∃(k:Q_ D),zD (ab zA i.v) (f:Int).toNat 5 1=aw [D.ro 3 k]/\(i.f<10/\(ao=ao->(f:Int).toNat=i.n->(5:Nat)+(1:Nat)<=i.f\/i.f<5))/\(fW f i)/\∃(l:Q_ D),l=k/\l.length*(24:Nat)<=(140737488355328:Nat)/\ff (((fW f i)/\dl ((f:Int).toNat))/\True/\((f:Int).toNat<(ab zA i.v).length/\(5:Nat)<(10:Nat))/\((f:Int).toNat=i.n->5=i.f->∃(n:Nat),(n:Int)=aj.wrap ((f:Int)+1)/\(dl (ab zA i.v)/\i.n=i.n/\i.f=i.f/\decide (i.n<n)=ao)/\eU i n l d e f)/\i.f<10/\(¬((f:Int).toNat=i.n/\5=i.f)->dl (py.mk ap vS 10 (ab zA i.v) i.n i.f ao (aw ((0:Nat)+(1:Nat)+(1:Nat)+(1:Nat)+((1:Nat)-(0:Nat))+(1:Nat)+(3:Nat)+nat_lit 0)))/\∃(n:Nat),(n:Int)=aj.wrap ((f:Int)+1)/\(ab zA i.v=zK (ab zA i.v) (f:Int).toNat 5 [D.ro 3 l]/\i.n=i.n/\i.f=i.f/\decide (i.n<n)=ao)/\eU i n h d e f)))/\i.f<10/\(¬((f:Int).toNat=i.n/\0=i.f)->dl (py.mk ap vS 10 (ab zA i.v) i.n i.f (decide (i.n<f)) (oN (aX (λ(x:Nat) ↦ ap) ((0:Nat)+(1:Nat)+(1:Nat)+(1:Nat)+((1:Nat)-(0:Nat))+1) [((2:Nat),(0:Nat)+(1:Nat)+(1:Nat)+(1:Nat)+((1:Nat)-(0:Nat))),((1:Nat),(0:Nat)+(1:Nat)+(1:Nat)+(1:Nat)+nat_lit 0),((0:Nat),(0:Nat)+(1:Nat))] 0 [ar [V.own 1] (59:TypeId),fq.uf ap vS 10 (ab zA i.v) i.n i.f (decide (i.n<c)) (aw 2),au EX 3 (bif decide (i.n<c)then i.lv else[])]) (aw 2)))/\(lR f i h)/\∃(k:Q_ D),zD (fU i f h) (f:Int).toNat 5 1=aw [D.ro 3 k]/\(i.f<10/\(decide (i.n<f)=ao->(f:Int).toNat=i.n->(5:Nat)+(1:Nat)<=i.f\/i.f<5))/\(lR f i h)/\∃(l:Q_ D),l=k/\l.length*(24:Nat)<=(140737488355328:Nat)/\ff (((lR f i h)/\dl ((f:Int).toNat))/\True/\((f:Int).toNat<(fU i f h).length/\(5:Nat)<(10:Nat))/\((f:Int).toNat=i.n->5=i.f->∃(n:Nat),(n:Int)=aj.wrap ((f:Int)+1)/\(ab zA i.v=zK (ab zA i.v) (f:Int).toNat 0 [D.ro 3 h]/\i.n=i.n/\i.f=i.f/\decide (i.n<n)=ao)/\eU i n l d e f)/\i.f<10/\(¬((f:Int).toNat=i.n/\5=i.f)->dl (py.mk ap vS 10 (fU i f h) i.n i.f (decide (i.n<f)) (oN (aX (λ(x:Nat) ↦ ap) ((0:Nat)+(1:Nat)+(1:Nat)+(1:Nat)+((1:Nat)-(0:Nat))+1) [((2:Nat),(0:Nat)+(1:Nat)+(1:Nat)+(1:Nat)+((1:Nat)-(0:Nat))),((1:Nat),(0:Nat)+(1:Nat)+(1:Nat)+(1:Nat)+nat_lit 0),((0:Nat),(0:Nat)+(1:Nat))] 0 [ar [V.own 1] (59:TypeId),fq.uf ap vS 10 (ab zA i.v) i.n i.f (decide (i.n<c)) (aw 2),au EX 3 (bif decide (i.n<c)then i.lv else[])]) (aw 2)))/\∃(n:Nat),(n:Int)=aj.wrap ((f:Int)+1)/\(ab zA i.v=zK (fU i f h) (f:Int).toNat 5 [D.ro 3 l]/\i.n=i.n/\i.f=i.f/\decide (i.n<n)=decide (i.n<f))/\((bif decide (i.n<n)then i.lv else[])=bif decide (i.n<f)then i.lv else[])/\zHk d n e f i))))) (dx ((dl (ab zA i.v)/\i.n=i.n/\i.f=i.f/\ao=decide (i.n<f))/\(i.lv=bif decide (i.n<f)then i.lv else[])/\True)))
def yBz (i:Mv):Prop:=
 dp (decide (i.m.inst<0)) (dx (gi.iN i.k i.m=20/\True)) (dp (decide (i.m.inst>=i.k)) (dx (gi.iN i.k i.m=20/\True)) (dp (i.m.side !=1) (dp (i.m.side !=2) (dx (gi.iN i.k i.m=21/\True)) (dp (decide (i.m.dr<0)) (dx (gi.iN i.k i.m=24/\True)) (dp (decide (i.m.count<0)) (dx (gi.iN i.k i.m=24/\True)) (dp (!(i.m.dr==0)==(i.m.count==0)) (dx (gi.iN i.k i.m=24/\True)) (dx (gi.iN i.k i.m=0/\True)))))) (dp (decide (i.m.dr<0)) (dx (gi.iN i.k i.m=24/\True)) (dp (decide (i.m.count<0)) (dx (gi.iN i.k i.m=24/\True)) (dp (!(i.m.dr==0)==(i.m.count==0)) (dx (gi.iN i.k i.m=24/\True)) (dx (gi.iN i.k i.m=0/\True)))))))
def tF (a:vp):Prop:=ab im a.L=ab im a.L/\dl a.m.seq/\dl a.m.inst/\dl a.m.side/\dl a.m.dm/\dl a.m.dr/\dl a.m.count/\dl a.m.gg/\True
def VJ (a:Nat) (b:Nat->Prop) (c:Nat->Nat) (d:vp):Prop:=∃(e:Nat),QO e a b c (dl (au EX 3 (ab im d.L))/\dl (Rt d.m))
def xGq (i:vp):Prop:=
 ∃(a:Nat),(a:Int)=0/\∃(b:Nat->Prop),∃(c:Nat->Nat),b a/\∀(d:Nat),b d->dp (decide ((d:Int)<((ab im i.L).length:Int))) ((0<=(d:Int)/\(d:Int)<((ab im i.L).length:Int))/\∃(e:Int),∃(f:Int),∃(g:Int),zD (ab im i.L) (d:Int).toNat 0 3=aw [dI e,dI f,dI g]/\dp (e==i.m.dm) (dx (oI (ac (λ(y:Lv) ↦ decide (y.dm=i.m.dm)) i.L)=(d:Int)/\tF i)) (VJ d b c i)) (dx (oI (ac (λ(y:Lv) ↦ decide (y.dm=i.m.dm)) i.L)=(-1)/\tF i))
def xDd (i:vp):Prop:=
 ∃(a:Nat),(a:Int)=0/\∃(b:Nat->Prop),∃(c:Nat->Nat),b a/\∀(d:Nat),b d->dp (decide ((d:Int)<((ab im i.L).length:Int))) ((0<=(d:Int)/\(d:Int)<((ab im i.L).length:Int))/\∃(e:Int),∃(f:Int),∃(g:Int),zD (ab im i.L) (d:Int).toNat 0 3=aw [dI e,dI f,dI g]/\∃(h:I3),h.side=i.m.side/\h.x=i.m.dm/\h.y=e/\True/\ff (dp (xK h.side h.x h.y) (dx (oI (ac (λ(y:Lv) ↦ xK i.m.side i.m.dm y.dm) i.L)=(d:Int)/\tF i)) (VJ d b c i))) (dx (oI (ac (λ(y:Lv) ↦ xK i.m.side i.m.dm y.dm) i.L)=(-1)/\tF i))
def VF (a:oZ):Prop:=a.n<ag a.v/\ag a.v<=1000000/\ag a.v<=1099511627776/\∀(b:Sd×Sd),b∈a.v->qL b
def wN:=(oN (Hx 0 ((0:Nat)+(1:Nat)+(1:Nat)+(1:Nat)+1+((0:Nat)-(0:Nat))) ((2:Nat)-(0:Nat)) []) (aw 1))
def qW (a:Ew):=(decide (a.m.dr>0))
@[reducible] def Qi (a b:vp)(R:Prop):Prop:=ab im a.L=ab im b.L/\a.m.seq=b.m.seq/\a.m.inst=b.m.inst/\a.m.side=b.m.side/\a.m.dm=b.m.dm/\a.m.dr=b.m.dr/\a.m.count=b.m.count/\a.m.gg=b.m.gg/\a.L.length<=1099511627776/\R
@[reducible] def Qm (a:Int)(b:oZ)(R:Prop):Prop:=(a.toNat=b.n/\0=b.f/\ao=ao/\a.toNat<(ab zA b.v).length/\(0:Nat)<(10:Nat))/\((a.toNat=b.n/\0=b.f/\ao=ao/\a.toNat<(ab zA b.v).length/\(0:Nat)<(10:Nat))/\True)/\R
@[reducible] def Qs (a:gi)(b:oZ)(c:vp)(R:Prop):Prop:=(a.inst.toNat=b.n/\0=b.f/\ao=ao/\a.inst.toNat<(ab zA b.v).length/\(0:Nat)<(10:Nat))/\(0<=oI (ac (λ(y:Lv) ↦ decide (y.dm=c.m.dm)) c.L)/\oI (ac (λ(y:Lv) ↦ decide (y.dm=c.m.dm)) c.L)<((ab im c.L).length:Int))/\(oI (ac (λ(y:Lv) ↦ decide (y.dm=c.m.dm)) c.L)).toNat<(ab im c.L).length/\R
@[reducible] def QF (a:oZ)(b:Ew)(c:Bo)(R:Prop):Prop:=(ao=ao/\a.n<(ab zA a.v).length/\a.f<10/\ab zA (rn b.v b.m)=zK (ab zA a.v) a.n a.f [D.ro 3 (ae c.i c.fa++c.el::af c.i c.fa)])/\(0:Int)=(0:Int)/\R
@[reducible] def QI (a:Bo)(b:vp)(c:Ew)(R:Prop):Prop:=a.fa=ab im b.L/\[a.el]=[[dI c.m.dm,dI c.m.dr,dI c.m.count]]/\(a.i<=a.fa.length/\(a.fa.length+1)*(24:Nat)<=(140737488355328:Nat))/\R
@[reducible] def QK (a:oZ)(b:Ew)(c:vp)(R:Prop):Prop:=(ao=ao/\a.n<(ab zA a.v).length/\a.f<10/\ab zA (rn b.v b.m)=zK (ab zA a.v) a.n a.f [D.ro 3 (zK (ab im c.L) (oI (ac (λ(y:Lv) ↦ decide (y.dm=c.m.dm)) c.L)).toNat 0 [dI b.m.dm,dI b.m.dr,dI b.m.count])])/\(0:Int)=(0:Int)/\R
@[reducible] def QR (a:oZ)(b:Ew)(c:vp)(R:Prop):Prop:=(ao=ao/\a.n<(ab zA a.v).length/\a.f<10/\ab zA (rn b.v b.m)=zK (ab zA a.v) a.n a.f [D.ro 3 (ab im c.L)])/\(0:Int)=(0:Int)/\R
@[reducible] def QU (a:gi)(b:oZ)(R:Prop):Prop:=a.inst.toNat=b.n/\0=b.f/\ao=ao/\a.inst.toNat<(ab zA b.v).length/\R
@[reducible] def QX (a:gi)(b:oZ)(R:Prop):Prop:=(a.inst.toNat<(ab zA b.v).length/\(0:Nat)<(10:Nat))/\(a.inst.toNat=b.n/\0=b.f)/\R
@[reducible] def Q2 (a b:gi)(R:Prop):Prop:=a.dm=b.dm/\a.dr=b.dr/\a.count=b.count/\a.gg=b.gg/\R
@[reducible] def Q6 (a:LF)(b:vp)(R:Prop):Prop:=(a.i:Int)=oI (ac (λ(y:Lv) ↦ decide (y.dm=b.m.dm)) b.L)/\(a.j:Int)=aj.wrap (oI (ac (λ(y:Lv) ↦ decide (y.dm=b.m.dm)) b.L)+1)/\a.fa=ab im b.L/\(a.i<a.j/\a.j<=a.fa.length)/\R
@[reducible] def Yp (a:oZ)(b:Ew)(c:LF)(R:Prop):Prop:=(ao=ao/\a.n<(ab zA a.v).length/\a.f<10/\ab zA (rn b.v b.m)=zK (ab zA a.v) a.n a.f [D.ro 3 (ae c.i c.fa++af c.j c.fa)])/\(0:Int)=(0:Int)/\R
def xGo (i:Ew):Prop:=
 ∃(a:Mv),a.k=((ab zA i.v).length:Int)/\a.m.seq=i.m.seq/\a.m.inst=i.m.inst/\a.m.side=1/\Q2 a.m i.m (True/\ff (dp (gi.iN a.k a.m !=0) (dx (ab zA (rn i.v i.m)=[]/\0=gi.iN a.k a.m/\True)) (∃(c:oZ),ab zA c.v=ab zA i.v/\(VF c)/\∀(d:Unit),True->(0<=i.m.inst/\i.m.inst<((ab zA c.v).length:Int))/\dp i.m.gg ((dl (py.mk ao vS 10 (ab zA c.v) c.n c.f ao wN)/\i.m.inst.toNat<(ab zA c.v).length/\(4:Nat)<=(10:Nat)/\c.f<10/\(ao=ao->i.m.inst.toNat=c.n->4<=c.f\/c.f<1))/\dl i.m.dr/\(dl (py.mk ao vS 10 (zK (ab zA c.v) i.m.inst.toNat 1 [dI i.m.dm,dI i.m.dr,dI i.m.count]) c.n c.f ao wN)/\i.m.inst.toNat<(zK (ab zA c.v) i.m.inst.toNat 1 [dI i.m.dm,dI i.m.dr,dI i.m.count]).length/\(5:Nat)<=(10:Nat)/\c.f<10/\(ao=ao->i.m.inst.toNat=c.n->5<=c.f\/c.f<4))/\∃(e:Bool),zD (zK (zK (ab zA c.v) i.m.inst.toNat 1 [dI i.m.dm,dI i.m.dr,dI i.m.count]) i.m.inst.toNat 4 [D.v (.bool (qW i))]) i.m.inst.toNat 4 1=aw [D.v (.bool e)]/\(c.f<10/\(ao=ao->i.m.inst.toNat=c.n->(4:Nat)+(1:Nat)<=c.f\/c.f<4))/\dp (!e) ((dl (py.mk ao vS 10 (zK (zK (ab zA c.v) i.m.inst.toNat 1 [dI i.m.dm,dI i.m.dr,dI i.m.count]) i.m.inst.toNat 4 [D.v (.bool (qW i))]) c.n c.f ao wN)/\i.m.inst.toNat<(zK (zK (ab zA c.v) i.m.inst.toNat 1 [dI i.m.dm,dI i.m.dr,dI i.m.count]) i.m.inst.toNat 4 [D.v (.bool (qW i))]).length/\(4:Nat)<=(10:Nat)/\c.f<10/\(ao=ao->i.m.inst.toNat=c.n->4<=c.f\/c.f<1))/\dx ((ao=ao/\c.n<(zK (zK (zK (ab zA c.v) i.m.inst.toNat 1 [dI i.m.dm,dI i.m.dr,dI i.m.count]) i.m.inst.toNat 4 [D.v (.bool (qW i))]) i.m.inst.toNat 1 [dI 0,dI 0,dI 0]).length/\c.f<10/\ab zA (rn i.v i.m)=zK (zK (zK (zK (ab zA c.v) i.m.inst.toNat 1 [dI i.m.dm,dI i.m.dr,dI i.m.count]) i.m.inst.toNat 4 [D.v (.bool (qW i))]) i.m.inst.toNat 1 [dI 0,dI 0,dI 0]) c.n c.f [D.ro 3 c.lv])/\dl ((0:Int))/\True)) (dx ((ao=ao/\c.n<(zK (zK (ab zA c.v) i.m.inst.toNat 1 [dI i.m.dm,dI i.m.dr,dI i.m.count]) i.m.inst.toNat 4 [D.v (.bool (qW i))]).length/\c.f<10/\ab zA (rn i.v i.m)=zK (zK (zK (ab zA c.v) i.m.inst.toNat 1 [dI i.m.dm,dI i.m.dr,dI i.m.count]) i.m.inst.toNat 4 [D.v (.bool (qW i))]) c.n c.f [D.ro 3 c.lv])/\dl ((0:Int))/\True))) ((QU i.m c ((0:Nat)<(10:Nat)))/\((∃(mh:vp),ab im mh.L=c.lv/\mh.m.seq=i.m.seq/\mh.m.inst=i.m.inst/\mh.m.side=1/\Q2 mh.m i.m (mh.L.length<=1099511627776/\∀(d:Unit),True->dp (decide (oI (ac (λ(y:Lv) ↦ decide (y.dm=mh.m.dm)) mh.L)>=0)) (dp (mh.m.dr==0) ((QU i.m c ((0:Nat)<(10:Nat)))/\∃(oC:LF),Q6 oC mh (∀(d:Unit),True->QX i.m c (dx (Yp c i oC (True))))) (dp (decide (oI (ac (λ(y:Lv) ↦ decide (y.dm=mh.m.dm)) mh.L)>=0)) (Qs i.m c mh (dx (QK c i mh (True)))) (dp (decide (mh.m.dr>0)) ((QU i.m c ((0:Nat)<(10:Nat)))/\((∃(i:vp),False)\/(∃(oC:vp),Qi oC mh (∀(d:Unit),True->dp (decide (oI (ac (λ(y:Lv) ↦ xK oC.m.side oC.m.dm y.dm) oC.L)<0)) ((QU i.m c ((0:Nat)<(10:Nat)))/\Qm i.m.inst c (∃(tq:Bo),(tq.i:Int)=((ab im oC.L).length:Int)/\QI tq oC i (∀(d:Unit),True->QX i.m c (dx (QF c i tq (True)))))) (Qm i.m.inst c (∃(tq:Bo),(tq.i:Int)=oI (ac (λ(y:Lv) ↦ xK oC.m.side oC.m.dm y.dm) oC.L)/\QI tq oC i (∀(d:Unit),True->QX i.m c (dx (QF c i tq (True)))))))))) (dx (QR c i mh (True)))))) (dp (decide (oI (ac (λ(y:Lv) ↦ decide (y.dm=mh.m.dm)) mh.L)>=0)) (Qs i.m c mh (dx (QK c i mh (True)))) (dp (decide (mh.m.dr>0)) ((QU i.m c ((0:Nat)<(10:Nat)))/\((∃(i:vp),False)\/(∃(oC:vp),Qi oC mh (∀(d:Unit),True->dp (decide (oI (ac (λ(y:Lv) ↦ xK oC.m.side oC.m.dm y.dm) oC.L)<0)) ((QU i.m c ((0:Nat)<(10:Nat)))/\Qm i.m.inst c (∃(tq:Bo),(tq.i:Int)=((ab im oC.L).length:Int)/\QI tq oC i (∀(d:Unit),True->QX i.m c (dx (QF c i tq (True)))))) (Qm i.m.inst c (∃(tq:Bo),(tq.i:Int)=oI (ac (λ(y:Lv) ↦ xK oC.m.side oC.m.dm y.dm) oC.L)/\QI tq oC i (∀(d:Unit),True->QX i.m c (dx (QF c i tq (True)))))))))) (dx (QR c i mh (True)))))))\/(∃(i:vp),False))))))
@[reducible] def Qn (a:Int)(b:oZ)(R:Prop):Prop:=(a.toNat=b.n/\5=b.f/\ao=ao/\a.toNat<(ab zA b.v).length/\(5:Nat)<(10:Nat))/\((a.toNat=b.n/\5=b.f/\ao=ao/\a.toNat<(ab zA b.v).length/\(5:Nat)<(10:Nat))/\True)/\R
@[reducible] def Qt (a:gi)(b:oZ)(c:vp)(R:Prop):Prop:=(a.inst.toNat=b.n/\5=b.f/\ao=ao/\a.inst.toNat<(ab zA b.v).length/\(5:Nat)<(10:Nat))/\(0<=oI (ac (λ(y:Lv) ↦ decide (y.dm=c.m.dm)) c.L)/\oI (ac (λ(y:Lv) ↦ decide (y.dm=c.m.dm)) c.L)<((ab im c.L).length:Int))/\(oI (ac (λ(y:Lv) ↦ decide (y.dm=c.m.dm)) c.L)).toNat<(ab im c.L).length/\R
@[reducible] def QV (a:gi)(b:oZ)(R:Prop):Prop:=a.inst.toNat=b.n/\5=b.f/\ao=ao/\a.inst.toNat<(ab zA b.v).length/\R
@[reducible] def QY (a:gi)(b:oZ)(R:Prop):Prop:=(a.inst.toNat<(ab zA b.v).length/\(5:Nat)<(10:Nat))/\(a.inst.toNat=b.n/\5=b.f)/\R
def xDw (i:Ew):Prop:=
 ∃(a:Mv),a.k=((ab zA i.v).length:Int)/\a.m.seq=i.m.seq/\a.m.inst=i.m.inst/\a.m.side=2/\Q2 a.m i.m (True/\ff (dp (gi.iN a.k a.m !=0) (dx (ab zA (rn i.v i.m)=[]/\0=gi.iN a.k a.m/\True)) (∃(c:oZ),ab zA c.v=ab zA i.v/\(VF c)/\∀(d:Unit),True->(0<=i.m.inst/\i.m.inst<((ab zA c.v).length:Int))/\dp i.m.gg ((dl (py.mk ao vS 10 (ab zA c.v) c.n c.f ao wN)/\i.m.inst.toNat<(ab zA c.v).length/\(9:Nat)<=(10:Nat)/\c.f<10/\(ao=ao->i.m.inst.toNat=c.n->9<=c.f\/c.f<6))/\dl i.m.dr/\(dl (py.mk ao vS 10 (zK (ab zA c.v) i.m.inst.toNat 6 [dI i.m.dm,dI i.m.dr,dI i.m.count]) c.n c.f ao wN)/\i.m.inst.toNat<(zK (ab zA c.v) i.m.inst.toNat 6 [dI i.m.dm,dI i.m.dr,dI i.m.count]).length/\(10:Nat)<=(10:Nat)/\c.f<10/\(ao=ao->i.m.inst.toNat=c.n->10<=c.f\/c.f<9))/\∃(e:Bool),zD (zK (zK (ab zA c.v) i.m.inst.toNat 6 [dI i.m.dm,dI i.m.dr,dI i.m.count]) i.m.inst.toNat 9 [D.v (.bool (qW i))]) i.m.inst.toNat 9 1=aw [D.v (.bool e)]/\(c.f<10/\(ao=ao->i.m.inst.toNat=c.n->(9:Nat)+(1:Nat)<=c.f\/c.f<9))/\dp (!e) ((dl (py.mk ao vS 10 (zK (zK (ab zA c.v) i.m.inst.toNat 6 [dI i.m.dm,dI i.m.dr,dI i.m.count]) i.m.inst.toNat 9 [D.v (.bool (qW i))]) c.n c.f ao wN)/\i.m.inst.toNat<(zK (zK (ab zA c.v) i.m.inst.toNat 6 [dI i.m.dm,dI i.m.dr,dI i.m.count]) i.m.inst.toNat 9 [D.v (.bool (qW i))]).length/\(9:Nat)<=(10:Nat)/\c.f<10/\(ao=ao->i.m.inst.toNat=c.n->9<=c.f\/c.f<6))/\dx ((ao=ao/\c.n<(zK (zK (zK (ab zA c.v) i.m.inst.toNat 6 [dI i.m.dm,dI i.m.dr,dI i.m.count]) i.m.inst.toNat 9 [D.v (.bool (qW i))]) i.m.inst.toNat 6 [dI 0,dI 0,dI 0]).length/\c.f<10/\ab zA (rn i.v i.m)=zK (zK (zK (zK (ab zA c.v) i.m.inst.toNat 6 [dI i.m.dm,dI i.m.dr,dI i.m.count]) i.m.inst.toNat 9 [D.v (.bool (qW i))]) i.m.inst.toNat 6 [dI 0,dI 0,dI 0]) c.n c.f [D.ro 3 c.lv])/\dl ((0:Int))/\True)) (dx ((ao=ao/\c.n<(zK (zK (ab zA c.v) i.m.inst.toNat 6 [dI i.m.dm,dI i.m.dr,dI i.m.count]) i.m.inst.toNat 9 [D.v (.bool (qW i))]).length/\c.f<10/\ab zA (rn i.v i.m)=zK (zK (zK (ab zA c.v) i.m.inst.toNat 6 [dI i.m.dm,dI i.m.dr,dI i.m.count]) i.m.inst.toNat 9 [D.v (.bool (qW i))]) c.n c.f [D.ro 3 c.lv])/\dl ((0:Int))/\True))) ((QV i.m c ((5:Nat)<(10:Nat)))/\((∃(mh:vp),ab im mh.L=c.lv/\mh.m.seq=i.m.seq/\mh.m.inst=i.m.inst/\mh.m.side=2/\Q2 mh.m i.m (mh.L.length<=1099511627776/\∀(d:Unit),True->dp (decide (oI (ac (λ(y:Lv) ↦ decide (y.dm=mh.m.dm)) mh.L)>=0)) (dp (mh.m.dr==0) ((QV i.m c ((5:Nat)<(10:Nat)))/\∃(oC:LF),Q6 oC mh (∀(d:Unit),True->QY i.m c (dx (Yp c i oC (True))))) (dp (decide (oI (ac (λ(y:Lv) ↦ decide (y.dm=mh.m.dm)) mh.L)>=0)) (Qt i.m c mh (dx (QK c i mh (True)))) (dp (decide (mh.m.dr>0)) ((QV i.m c ((5:Nat)<(10:Nat)))/\((∃(i:vp),False)\/(∃(oC:vp),Qi oC mh (∀(d:Unit),True->dp (decide (oI (ac (λ(y:Lv) ↦ xK oC.m.side oC.m.dm y.dm) oC.L)<0)) ((QV i.m c ((5:Nat)<(10:Nat)))/\Qn i.m.inst c (∃(tq:Bo),(tq.i:Int)=((ab im oC.L).length:Int)/\QI tq oC i (∀(d:Unit),True->QY i.m c (dx (QF c i tq (True)))))) (Qn i.m.inst c (∃(tq:Bo),(tq.i:Int)=oI (ac (λ(y:Lv) ↦ xK oC.m.side oC.m.dm y.dm) oC.L)/\QI tq oC i (∀(d:Unit),True->QY i.m c (dx (QF c i tq (True)))))))))) (dx (QR c i mh (True)))))) (dp (decide (oI (ac (λ(y:Lv) ↦ decide (y.dm=mh.m.dm)) mh.L)>=0)) (Qt i.m c mh (dx (QK c i mh (True)))) (dp (decide (mh.m.dr>0)) ((QV i.m c ((5:Nat)<(10:Nat)))/\((∃(i:vp),False)\/(∃(oC:vp),Qi oC mh (∀(d:Unit),True->dp (decide (oI (ac (λ(y:Lv) ↦ xK oC.m.side oC.m.dm y.dm) oC.L)<0)) ((QV i.m c ((5:Nat)<(10:Nat)))/\Qn i.m.inst c (∃(tq:Bo),(tq.i:Int)=((ab im oC.L).length:Int)/\QI tq oC i (∀(d:Unit),True->QY i.m c (dx (QF c i tq (True)))))) (Qn i.m.inst c (∃(tq:Bo),(tq.i:Int)=oI (ac (λ(y:Lv) ↦ xK oC.m.side oC.m.dm y.dm) oC.L)/\QI tq oC i (∀(d:Unit),True->QY i.m c (dx (QF c i tq (True)))))))))) (dx (QR c i mh (True)))))))\/(∃(i:vp),False))))))
def yFq:Ag.ok Tryz.prog 153:=xBk fk λi h b hb=>by
 have h:i.length*112<=140737488355328:=h;exact Cv.dp.mk (λe=>⟨(),hb e,trivial⟩) (λ_=>⟨oM,(),rfl,trivial⟩)
def yFc:Ak.ok Tryz.prog 154:=y6v fk λi h b hb=>by
 have h:i.length*24<=140737488355328:=h;exact Cv.dp.mk (λe=>⟨(),hb e,trivial⟩) (λ_=>⟨oM,(),rfl,trivial⟩)
def y7m {v:Vw} {j:Nat} {p:Sd×Sd} (h:v[j]? =aw p):zD (v.map zA) j 0 1=aw [.ro 3 (p.1.levels.map im)]:=by
 rw[zD,qt,h];rfl
def yOr {v:Vw} {j:Nat} {p:Sd×Sd} (h:v[j]? =aw p):zD (v.map zA) j 5 1=aw [.ro 3 (p.2.levels.map im)]:=by
 rw[zD,qt,h];rfl
def aO {fa:Q_ D} {j f:Nat} {ds el SJ:List D} (h:fa[j]? =aw el) (e:el.take f++(ds++el.drop (f+ds.length))=SJ):zK fa j f ds=fa.set j SJ:=by
 rw[zK];apply Dn;intro k;rw[FI,Ce];by_cases hk:j=k
 ·subst hk;rw[fh rfl,h,fh (jm.1 h).1,<- e];show aw (if j=j then _ else el)=_;rw[fh rfl]
 ·rw[ez hk];cases fa[k]? with
  |none=>rfl
  |some x=>
   show aw (if j=k then _ else x)=aw x;rw[ez hk]
def zYz {α:Type} {l:List α} {j:Nat} {x:α} (h:l[j]? =aw x):l.set j x=l:=by
 apply Dn;intro k;rw[Ce];by_cases hk:j=k
 ·subst hk;rw[fh rfl,fh (jm.1 h).1,h]
 ·rw[ez hk]
def yZp {v:Vw} {j:Nat} {p:Sd×Sd} (h:v[j]? =aw p):zK (v.map zA) j 0 [.ro 3 (p.1.levels.map im)]=v.map zA:=by
 have h':(v.map zA)[j]? =aw (zA p):=by rw[qt,h];rfl
 rw[aO h' (SJ:=zA p) rfl,zYz h']
def yDj {v:Vw} {j:Nat} {p:Sd×Sd} (h:v[j]? =aw p):zK (v.map zA) j 5 [.ro 3 (p.2.levels.map im)]=v.map zA:=by
 have h':(v.map zA)[j]? =aw (zA p):=by rw[qt,h];rfl
 rw[aO h' (SJ:=zA p) rfl,zYz h']
def y9m (i:oZ) (h:GO.dp i):ySw i:=by
 obtain⟨hn,hl,ud,yu⟩:i.n<i.v.length/\i.v.length<=1000000/\xZ i.v:=h;have uk:(i.v.map zA).length=i.v.length:=ia _;have z0:((0:Nat)+nat_lit 0*(5:Nat)+(0:Nat))=0:=rfl;have z5:((0:Nat)+(nat_lit 0+nat_lit 1) % ((2:Int) ^ aj.bits).natAbs*(5:Nat)+(0:Nat))=5:=by decide
 have hf:i.f=if i.s=ao then 5 else 0:=by rw[oZ.f];cases i.s<;>rfl
 have EE:i.f<10:=by rw[hf];split<;>omega
 unfold ySw ff dx fW lR fU eU zHk om qN;simp only[z0,z5,ot];refine⟨_,rfl,oM,λ_ _=>⟨0,rfl,⟨rfl,by simp⟩,by simp,λj=>j<=i.v.length,λj=>i.v.length-j,mn _,λj hj=>zG (λgu=> ?_) (λgu=> ?_)⟩⟩
 ·have gu:(j:Int)<((i.v.map zA).length:Nat):=gu;obtain⟨p,hp⟩:=zZ (l:=i.v) (i:=j) oM;have qy:=yu p (lh hp);have l1:(p.1.levels.map im).length=p.1.levels.length:=ia _;have l2:(p.2.levels.map im).length=p.2.levels.length:=ia _;have bd:(0:Int)<=(j:Int)/\(j:Int)<((i.v.map zA).length:Nat):=⟨oM,gu⟩
  have no:decide (i.n<j)=ao->j=i.n->False:=λa b=>by
   have:=rf a;omega
  have lv1:j=i.n->0=i.f->i.lv=p.1.levels.map im:=λa b=>by
   subst a;rw[hf]at b;rw[oZ.lv,LA,hp];cases hs:i.s
   ·rfl
   ·rw[hs]at b;simp at b
  have lv2:j=i.n->5=i.f->i.lv=p.2.levels.map im:=λa b=>by
   subst a;rw[hf]at b;rw[oZ.lv,LA,hp];cases hs:i.s
   ·rw[hs]at b;simp at b
   ·rfl
  refine⟨bd,_,y7m hp,⟨EE,λa b=>(no a b).elim⟩,bd,_,rfl,oM,λ_ _=>⟨⟨bd,i7⟩,trivial,⟨oM,oM⟩,λe1 e2=> ?_,EE,λjy=> ?_⟩⟩
  ·refine⟨bd,_,yOr hp,⟨EE,λ_ _=> .inr oM⟩,bd,_,rfl,oM,λ_ _=>⟨⟨bd,i7⟩,trivial,⟨oM,oM⟩,λ_ e3=>absurd e3 oM,EE,λ_=>⟨i7,j+1,qu oM,⟨(yDj hp).symm,i7,i7,jo oM⟩,?_,Z9,Z9,gn⟩⟩⟩;rw[jo (show i.n<j+1 by omega),cond_true,lv1 e1 e2]
  ·rw[yZp hp];refine⟨i7,bd,_,yOr hp,⟨EE,λa b=>(no a b).elim⟩,bd,_,rfl,oM,λ_ _=>⟨⟨bd,i7⟩,trivial,⟨oM,oM⟩,λe1 e3=>⟨j+1,qu oM,⟨i7,i7,i7,jo oM⟩,?_,Z9,Z9,gn⟩,EE,λEC=>⟨i7,j+1,qu oM,⟨(yDj hp).symm,i7,i7,?_⟩,?_,Z9,Z9,gn⟩⟩⟩
   ·rw[jo (show i.n<j+1 by omega),cond_true,lv2 e1 e3]
   ·have:j≠i.n:=λe=>by
     have:i.f=0\/i.f=5:=by rw[hf];split<;>omega
     rcases this with h|h
     ·exact jy ⟨e,h.symm⟩
     ·exact EC ⟨e,h.symm⟩
    exact decide_eq_decide.2 ⟨λ_=>by omega,λ_=>by omega⟩
   ·have:j≠i.n:=λe=>by
     have:i.f=0\/i.f=5:=by rw[hf];split<;>omega
     rcases this with h|h
     ·exact jy ⟨e,h.symm⟩
     ·exact EC ⟨e,h.symm⟩
    rw[show decide (i.n<j+1)=decide (i.n<j)from decide_eq_decide.2 ⟨λ_=>by omega,λ_=>by omega⟩]
 ·have hj:j<=i.v.length:=hj;obtain rfl:j=i.v.length:=by omega
  have e:decide (i.n<i.v.length)=ao:=jo hn;exact⟨(),⟨i7,i7,i7,e.symm⟩,by rw[e];rfl,gn⟩
def z4i:GO.ok Tryz.prog 77:=gx mixed (dw yFq (dw yFc fk)) 0 i6 (λi=>xAu i) [] Tryz.func77 y9m
def y9y (i:Mv):yBz i:=by
 unfold yBz dx;have fin:∀{x:Int},¬i.m.inst<0->¬i.m.inst>=i.k->¬(i.m.side≠1/\i.m.side≠2)->dp (decide (i.m.dr<0)) (∃(o:Unit),i.m.iN i.k=24/\True) (dp (decide (i.m.count<0)) (∃(o:Unit),i.m.iN i.k=24/\True) (dp (!(i.m.dr==0)==(i.m.count==0)) (∃(o:Unit),i.m.iN i.k=24/\True) (∃(o:Unit),i.m.iN i.k=0/\True))):=by
  intro _ h1 h2 h3;have e:i.m.iN i.k=if(i.m.dr<0\/i.m.count<0)\/¬(i.m.dr=0↔i.m.count=0)then 24 else 0:=by rw[gi.iN,ez (by omega),ez h3]
  rw[e];refine zG (λa=>⟨(),by rw[fh (.inl (.inl a))],trivial⟩) (λa=>zG (λb=>⟨(),by rw[fh (.inl (.inr b))],trivial⟩) (λb=>Cv.dp.mk (λc=>⟨(),?_,trivial⟩) (λc=>⟨(),?_,trivial⟩)))
  ·have hx:¬(i.m.dr=0↔i.m.count=0):=λx=>by
    have:(i.m.dr==0)=(i.m.count==0):=by
     rw[CF,Ix,Ix];exact x
    rw[this]at c;revert c;cases (i.m.count==0)<;>decide
   rw[fh (.inr hx)]
  ·rw[ez];rintro(x|x)
   ·omega
   ·refine x ?_;have:(i.m.dr==0)=(i.m.count==0):=by
     revert c;cases (i.m.count==0)<;>cases (i.m.dr==0)<;>decide
    rw[CF,Ix,Ix]at this;exact this
 refine zG (λa=>⟨(),by rw[gi.iN,fh (.inl a)],trivial⟩) (λa=>zG (λb=>⟨(),by rw[gi.iN,fh (.inr b)],trivial⟩) (λb=>Cv.dp.mk (λc=>Cv.dp.mk (λd=>⟨(),?_,trivial⟩) (λd=> ?_)) (λc=> ?_)))
 ·rw[gi.iN,ez (by omega),fh ⟨i9 c,i9 d⟩]
 ·exact fin (x:=0) a b λx=>x.2 (i9 d)
 ·exact fin (x:=0) a b λx=>x.1 (i9 c)
def YJ:Nk.ok Tryz.prog 66:=gx (V:=yBz) mixed fk 0 i6 i6 [] Tryz.func66 λ(i:Mv) _=>y9y i
def Vy {k:Int} {m:gi} (h:m.iN k=0):(0<=m.inst/\m.inst<k)/\(m.side=1\/m.side=2)/\(0<=m.dr/\0<=m.count)/\(m.dr=0↔m.count=0):=by
 rw[gi.iN]at h;split at h
 ·cases h
 ·split at h
  ·cases h
  ·split at h
   ·cases h
   ·rename_i a b c;refine⟨oM,oM,oM,?_⟩;exact Classical.byContradiction λx=>c (.inr x)
def y3a {L:List Lv} {k:Nat} {l:Lv} (h:L[k]? =aw l):zD (L.map im) k 0 3=aw [D.v (.int .i64 l.dm),D.v (.int .i64 l.dr),D.v (.int .i64 l.count)]:=by
 rw[zD,qt,h];rfl
def zXm {f:Lv->Bool} {L:List Lv} {k:Nat} {l:Lv} (h:L[k]? =aw l) (h0:(L.take k).findIdx? f=ax):(f l=ao->L.findIdx? f=aw k)/\(f l=ap->(L.take (k+1)).findIdx? f=ax):=by
 have hk:=(jm.1 h).1;have e:L=L.take k++(l::L.drop (k+1)):=by
  obtain⟨_,h2⟩:=jm.1 h;rw[<- h2,List.getElem_cons_drop,Bb]
 constructor
 ·intro hl;rw[e,List.findIdx?_append,h0,J3,fh hl];simp;omega
 ·intro hl;rw[qq,h,Bt,List.findIdx?_append,h0,J3,hl,List.findIdx?_nil];rfl
def xIh (i:vp) (h:Tf.dp i):xGq i:=by
 (
 have hl:i.L.length<=1099511627776:=h;have uk:(i.L.map im).length=i.L.length:=ia _)
 unfold xGq dx VJ QO tF dI;refine⟨0,rfl,λk=>k<=i.L.length/\(i.L.take k).findIdx? (λy=>decide (y.dm=i.m.dm))=ax,λk=>i.L.length-k,⟨mn _,by rw[EU];rfl⟩,λk hk=>zG (λc=> ?_) (λc=> ?_)⟩
 ·obtain⟨hk,h0⟩:=hk;obtain⟨l,Ff⟩:=zZ (l:=i.L) (i:=k) oM;obtain⟨n1,n2⟩:=zXm Ff h0;refine⟨⟨oM,oM⟩,l.dm,l.dr,l.count,y3a Ff,Cv.dp.mk (λe=>⟨(),?_,gn⟩) (λe=>⟨k+1,?_,⟨oM,n2 (jv (i9 e))⟩,Z9,gn⟩)⟩
  ·rw[n1 (jo (i9 e))];rfl
  ·rw[iw (by omega)];rfl
 ·obtain⟨hk,h0⟩:=hk;obtain rfl:k=i.L.length:=by omega
  rw[At]at h0;exact⟨(),by rw[h0];rfl,gn⟩
def yQq:Tf.ok Tryz.prog 207:=gx mixed fk 1 i6 (λ_=>ixA) [] Tryz.func207 xIh
def xHf (i:vp) (h:Tg.dp i):xDd i:=by
 (
 have hl:i.L.length<=1099511627776:=h;have uk:(i.L.map im).length=i.L.length:=ia _)
 unfold xDd ff dx VJ QO tF dI;refine⟨0,rfl,λk=>k<=i.L.length/\(i.L.take k).findIdx? (λy=>xK i.m.side i.m.dm y.dm)=ax,λk=>i.L.length-k,⟨mn _,by rw[EU];rfl⟩,λk hk=>zG (λc=> ?_) (λc=> ?_)⟩
 ·obtain⟨hk,h0⟩:=hk;obtain⟨l,Ff⟩:=zZ (l:=i.L) (i:=k) oM;obtain⟨n1,n2⟩:=zXm Ff h0;refine⟨⟨oM,oM⟩,l.dm,l.dr,l.count,y3a Ff,⟨i.m.side,i.m.dm,l.dm⟩,rfl,rfl,rfl,trivial,λ_ _=>Cv.dp.mk (λe=>⟨(),?_,gn⟩) (λe=>⟨k+1,?_,⟨oM,n2 e⟩,Z9,gn⟩)⟩
  ·rw[n1 e];rfl
  ·rw[iw (by omega)];rfl
 ·obtain⟨hk,h0⟩:=hk;obtain rfl:k=i.L.length:=by omega
  rw[At]at h0;exact⟨(),by rw[h0];rfl,gn⟩
def ySa:Tg.ok Tryz.prog 207:=gx mixed (dw Z2 fk) 1 i6 (λ_=>ixA) [] Tryz.func207 xHf
def z2r:vW Tryz.prog 133=aw (135,3,24,#[.int .i64 0,.int .i64 0,.int .i64 0]):=by kernel_rfl
def yIk:T6.ok Tryz.prog 212:=
 AX (tS:=133) (tI:=3) (fO:=252) (fR:=253) (z:= #[.int .i64 0,.int .i64 0,.int .i64 0]) mixed Tryz.func212 rfl (by kernel_rfl) (by kernel_rfl) (by kernel_rfl) (by kernel_rfl) z2r rfl Z8 Z8 (by kernel_rfl) (by kernel_rfl)
  (z0s (tS:=133) (tB:=4) Tryz.func252 (by kernel_rfl) (by kernel_rfl) (by kernel_rfl) (by kernel_rfl) z2r) (λs sn sk i v vn vk w R=>by kernel_rfl)
def yHe:Ux.ok Tryz.prog 209:=
 D6 mixed Tryz.func209 rfl (by kernel_rfl) (by kernel_rfl) (by kernel_rfl) (by kernel_rfl) z2r rfl Z8 (λs sn sk i j w R=>by kernel_rfl)
def NR {fa:Q_ D} {j f:Nat} {ds el:List D} (h:j<fa.length):zK (fa.set j el) j f ds=fa.set j (el.take f++(ds++el.drop (f+ds.length))):=by
 have h':(fa.set j el)[j]? =aw el:=by rw[Ce,fh rfl,fh h]
 rw[aO h' rfl,Ec]
def yOp {v:Vw} {m:gi} {p:Sd×Sd} (h:v[m.inst.toNat]? =aw p):(rn v m).map zA=(v.map zA).set m.inst.toNat (zA (if m.side=1 then(A0 1 p.1 m,p.2)else(p.1,A0 2 p.2 m))):=by
 rw[rn];apply Dn;intro k;rw[qt,FI,Ce];by_cases hk:m.inst.toNat=k
 ·subst hk;have hl:m.inst.toNat<(v.map zA).length:=by rw[ia];exact(jm.1 h).1
  rw[h,fh rfl,fh hl];show Option.map zA (aw (if m.inst.toNat=m.inst.toNat then _ else p))=_;rw[fh rfl];rfl
 ·rw[ez hk,qt];cases v[k]? with
  |none=>rfl
  |some x=>
   show Option.map zA (aw (if m.inst.toNat=k then _ else x))=_;rw[ez hk];first|done|rfl
def yTu {s:Int} {L:List Lv} {m:Lv} {k:Nat} (h:L.findIdx? (λy=>decide (y.dm=m.dm))=aw k) (hq:m.dr=0):(jS s L m).map im=(L.map im).take k++(L.map im).drop (k+1):=by
 rw[jS,h];dsimp only;rw[fh hq,List.eraseIdx_eq_take_drop_succ,jk,Ed,FF]
def yTv {s:Int} {L:List Lv} {m:Lv} {k:Nat} (h:L.findIdx? (λy=>decide (y.dm=m.dm))=aw k) (hq:¬m.dr=0) (hk:k<L.length):(jS s L m).map im=zK (L.map im) k 0 [D.v (.int .i64 m.dm),D.v (.int .i64 m.dr),D.v (.int .i64 m.count)]:=by
 rw[jS,h];dsimp only;obtain⟨l,hl⟩:=zZ hk;have h':(L.map im)[k]? =aw (im l):=by rw[qt,hl];rfl
 rw[ez hq,aO h' (SJ:=im m) rfl,List.map_set]
def yFi {s:Int} {L:List Lv} {m:Lv} (h:L.findIdx? (λy=>decide (y.dm=m.dm))=ax) (hq:¬0<m.dr):jS s L m=L:=by
 rw[jS,h];dsimp only;rw[ez hq]
def WM {s:Int} {L:List Lv} {m:Lv} (h:L.findIdx? (λy=>decide (y.dm=m.dm))=ax) (hq:0<m.dr) {k:Nat} (hk:(L.findIdx? λy=>xK s m.dm y.dm).getD L.length=k):(jS s L m).map im=(L.map im).take k++im m::(L.map im).drop k:=by
 have e:jS s L m=L.take ((L.findIdx? λy=>xK s m.dm y.dm).getD L.length)++m::L.drop ((L.findIdx? λy=>xK s m.dm y.dm).getD L.length):=by
  rw[jS,h];dsimp only;rw[fh hq]
  first|done|rfl
 rw[e,hk,jk,jf,Ed,FF]
def U5 {f:Lv->Bool} {L:List Lv} {k:Nat} (h:L.findIdx? f=aw k):k<L.length:=by
 obtain⟨h,_⟩:=L4.1 h;exact h
def yRx {s:Int} {x:Sd} {m:gi} (h:¬m.gg=ao):A0 s x m=⟨jS s x.levels m.lv,x.imp,x.has⟩:=by rw[A0,ez h]
def xJb (i:Ew) (h:MQ.dp i):xGo i:=by
 obtain⟨hs,FY,hl,qy⟩:i.m.side=1/\i.m.iN i.v.length=0/\i.v.length<=1000000/\xZ i.v:=h;have uk:(i.v.map zA).length=i.v.length:=ia _;obtain⟨⟨f1,f2⟩,f3,f4,f5⟩:=Vy FY;have hN:i.m.inst.toNat<(i.v.map zA).length:=by omega
 obtain⟨p,hp⟩:=zZ (l:=i.v) (i:=i.m.inst.toNat) oM;have Sc:(i.v.map zA)[i.m.inst.toNat]? =aw (zA p):=by rw[qt,hp];rfl
 have Ck:=qy.2 p (lh hp);have z0:((0:Nat)+(nat_lit 1-Nat.succ (nat_lit 0)) % ((2:Int) ^ aj.bits).natAbs*(5:Nat)+(0:Nat))=0:=by decide
 have z1:((0:Nat)+(nat_lit 1-Nat.succ (nat_lit 0)) % ((2:Int) ^ aj.bits).natAbs*(5:Nat)+(1:Nat))=1:=by decide
 have z4:((0:Nat)+(nat_lit 1-Nat.succ (nat_lit 0)) % ((2:Int) ^ aj.bits).natAbs*(5:Nat)+(4:Nat))=4:=by decide
 have hA:=yOp hp;rw[fh hs]at hA;unfold xGo Q2 Q6 QF QI QK QR QU QX Yp ff dx Qi Qm Qs qW wN VF qL dI;simp only[z0,z1,z4];refine⟨⟨i.v.length,i.m⟩,by rw[uk],rfl,rfl,hs,iM ⟨rfl,trivial,λ_ _=>Cv.dp.mk (λe=> ?_) (λ_=>⟨⟨i.v,i.m.inst.toNat,ap⟩,rfl,⟨Z9,hl,qy⟩,λ_ _=>⟨⟨f1,by rw[uk];exact f2⟩,Cv.dp.mk (λhi=> ?_) (λhi=> ?_)⟩⟩)⟩⟩
 ·exfalso;simp[FY]at e
 ·have Sw:(⟨i.v,i.m.inst.toNat,ap⟩:oZ).f=0:=rfl;have El:(⟨i.v,i.m.inst.toNat,ap⟩:oZ).lv=p.1.levels.map im:=by rw[oZ.lv,LA,hp];rfl
  have e0:A0 1 p.1 i.m=if 0<i.m.dr then⟨p.1.levels,i.m.lv,ao⟩else⟨p.1.levels,BA,ap⟩:=by rw[A0,fh hi]
  rw[Sw,El];have a1:zK (i.v.map zA) i.m.inst.toNat 1 [D.v (.int .i64 i.m.dm),D.v (.int .i64 i.m.dr),D.v (.int .i64 i.m.count)]=(i.v.map zA).set i.m.inst.toNat (zA (⟨p.1.levels,i.m.lv,p.1.has⟩,p.2)):=aO Sc rfl;have a2:∀b:Bool,zK ((i.v.map zA).set i.m.inst.toNat (zA (⟨p.1.levels,i.m.lv,p.1.has⟩,p.2))) i.m.inst.toNat 4 [D.v (.bool b)]=(i.v.map zA).set i.m.inst.toNat (zA (⟨p.1.levels,i.m.lv,b⟩,p.2)):=λb=>NR hN
  have a3:∀b:Bool,zK ((i.v.map zA).set i.m.inst.toNat (zA (⟨p.1.levels,i.m.lv,b⟩,p.2))) i.m.inst.toNat 1 [D.v (.int .i64 0),D.v (.int .i64 0),D.v (.int .i64 0)]=(i.v.map zA).set i.m.inst.toNat (zA (⟨p.1.levels,BA,b⟩,p.2)):=λb=>NR hN
  have a4:∀(y:Lv) (b:Bool),zK ((i.v.map zA).set i.m.inst.toNat (zA (⟨p.1.levels,y,b⟩,p.2))) i.m.inst.toNat 0 [D.ro 3 (p.1.levels.map im)]=(i.v.map zA).set i.m.inst.toNat (zA (⟨p.1.levels,y,b⟩,p.2)):=λy b=>NR hN
  have a5:∀b:Bool,zD ((i.v.map zA).set i.m.inst.toNat (zA (⟨p.1.levels,i.m.lv,b⟩,p.2))) i.m.inst.toNat 4 1=aw [D.v (.bool b)]:=λb=>by
   rw[zD,Ce,fh rfl,fh hN];rfl
  simp only[a1,a2,a3,a4,qm];refine⟨⟨i7,hN,Z8,Z8,λ_ _=> .inr Z8⟩,i7,⟨i7,hN,Z8,Z8,λ_ _=> .inr Z8⟩,_,a5 _,⟨Z8,λ_ _=> .inr Z8⟩,Cv.dp.mk (λhb=>⟨⟨i7,hN,Z8,Z8,λ_ _=> .inr Z8⟩,(),⟨i7,hN,Z8,?_⟩,gn⟩) (λhb=>⟨(),⟨i7,hN,Z8,?_⟩,gn⟩)⟩
  ·have hq:¬0<i.m.dr:=i9 hb
   rw[hA,e0,ez hq,jv (show ¬i.m.dr>0 from hq)]
  ·have hq:0<i.m.dr:=i9 hb
   rw[hA,e0,fh hq,jo (show i.m.dr>0 from hq)]
 ·have Sw:(⟨i.v,i.m.inst.toNat,ap⟩:oZ).f=0:=rfl;have El:(⟨i.v,i.m.inst.toNat,ap⟩:oZ).lv=p.1.levels.map im:=by rw[oZ.lv,LA,hp];rfl
  have e0:=yRx (s:=1) (x:=p.1) (m:=i.m) (by simp[hi]);rw[e0]at hA;have hh:i.m.inst.toNat=i.m.inst.toNat/\0=(⟨i.v,i.m.inst.toNat,ap⟩:oZ).f/\True/\i.m.inst.toNat<(i.v.map zA).length/\0<10:=⟨rfl,rfl,trivial,hN,Z8⟩
  have FZ:(⟨i.v,i.m.inst.toNat,ap⟩:oZ).f<10:=by show 0<10;decide
  have xu:i.m.inst.toNat<(i.v.map zA).length/\0<10:=⟨hN,Z8⟩
  have hB:∀l:Q_ D,(jS 1 p.1.levels i.m.lv).map im=l->(rn i.v i.m).map zA=zK (i.v.map zA) i.m.inst.toNat 0 [D.ro 3 l]:=λl e=>by
   subst e;rw[hA];exact Eq.symm (aO (f:=0) (ds:=[D.ro 3 ((jS 1 p.1.levels i.m.lv).map im)]) Sc rfl)
  have OP:(p.1.levels.map im).length=p.1.levels.length:=ia _;have e1:1=i.m.side:=hs.symm;refine⟨hh,.inl ⟨⟨p.1.levels,i.m⟩,El.symm,rfl,rfl,hs,iM ⟨rfl,Z9,λ_ _=> ?_⟩⟩⟩;dsimp only;cases hk:p.1.levels.findIdx? (λy=>decide (y.dm=i.m.dm))with
  |some k=>
   have o7:=U5 hk;refine zG (λ_=>Cv.dp.mk (λhq=>⟨hh,⟨p.1.levels.map im,k,k+1⟩,rfl,?_,rfl,⟨Z9,Z9⟩,λ_ _=>⟨xu,⟨i7,i7⟩,(),⟨i7,hN,FZ,hB _ (yTu hk (by show i.m.dr=0;simpa using hq))⟩,gn⟩⟩) (λhq=>zG (λ_=>⟨hh,⟨by show(0:Int)<=(k:Int);omega,by show(k:Int)<_;omega⟩,by show k<_;omega,(),⟨i7,hN,FZ,hB _ (yTv hk (by show ¬i.m.dr=0;simpa using hq) o7)⟩,gn⟩) (λc=>absurd (show(0:Int)<=(k:Int)by omega) c))) (λc=>absurd (show(0:Int)<=(k:Int)by omega) c);show((k+1:Nat):Int)=aj.wrap ((k:Int)+1);rw[iw (by omega)];rfl
  |none=>
   refine zG (λc=>absurd c Z8) (λ_=>zG (λc=>absurd c Z8) (λ_=>zG (λhq=>⟨hh,.inr ⟨⟨p.1.levels,i.m⟩,oL ⟨rfl,Z9,λ_ _=> ?_⟩⟩⟩) (λhq=>⟨(),⟨i7,hN,FZ,hB _ (by rw[yFi hk hq])⟩,gn⟩)));dsimp only;rw[hs];cases hb:p.1.levels.findIdx? (λy=>xK 1 i.m.dm y.dm)with
   |some k=>
    have o7:=U5 hb;exact zG (λc=>absurd c (by show ¬(k:Int)<0;omega)) (λ_=>⟨hh,⟨hh,trivial⟩,⟨p.1.levels.map im,im i.m.lv,k⟩,rfl,rfl,rfl,⟨Z9,Z9⟩,λ_ _=>⟨xu,⟨i7,i7⟩,(),⟨i7,hN,FZ,hB _ (WM hk hq (by rw[show(p.1.levels.findIdx? λy=>xK 1 i.m.lv.dm y.dm)=aw k from hb];rfl))⟩,gn⟩⟩)
   |none=>
    exact zG (λ_=>⟨hh,hh,⟨hh,trivial⟩,⟨p.1.levels.map im,im i.m.lv,p.1.levels.length⟩,by rw[OP],rfl,rfl,⟨Z9,Z9⟩,λ_ _=>⟨xu,⟨i7,i7⟩,(),⟨i7,hN,FZ,hB _ (WM hk hq (by rw[show(p.1.levels.findIdx? λy=>xK 1 i.m.lv.dm y.dm)=ax from hb];rfl))⟩,gn⟩⟩) (λc=>absurd (show(-1:Int)<0 by decide) c)
def y5y:MQ.ok Tryz.prog 143:=gx mixed (dw YJ (dw z4i (dw yQq (dw ySa (dw yHe (dw yIk fk)))))) 0 i6 i6 [] Tryz.func143 xJb
def xHq (i:Ew) (h:MP.dp i):xDw i:=by
 obtain⟨hs,FY,hl,qy⟩:i.m.side=2/\i.m.iN i.v.length=0/\i.v.length<=1000000/\xZ i.v:=h;have uk:(i.v.map zA).length=i.v.length:=ia _;obtain⟨⟨f1,f2⟩,f3,f4,f5⟩:=Vy FY;have hN:i.m.inst.toNat<(i.v.map zA).length:=by omega
 obtain⟨p,hp⟩:=zZ (l:=i.v) (i:=i.m.inst.toNat) oM;have Sc:(i.v.map zA)[i.m.inst.toNat]? =aw (zA p):=by rw[qt,hp];rfl
 have Ck:=qy.2 p (lh hp);have z0:((0:Nat)+(nat_lit 2-Nat.succ (nat_lit 0)) % ((2:Int) ^ aj.bits).natAbs*(5:Nat)+(0:Nat))=5:=by decide
 have z1:((0:Nat)+(nat_lit 2-Nat.succ (nat_lit 0)) % ((2:Int) ^ aj.bits).natAbs*(5:Nat)+(1:Nat))=6:=by decide
 have z4:((0:Nat)+(nat_lit 2-Nat.succ (nat_lit 0)) % ((2:Int) ^ aj.bits).natAbs*(5:Nat)+(4:Nat))=9:=by decide
 have hA:=yOp hp;rw[ez (show ¬i.m.side=1 by omega)]at hA;unfold xDw Q2 Q6 QF QI QK QR QV QY Yp ff dx Qi Qn Qt qW wN VF qL dI;simp only[z0,z1,z4];refine⟨⟨i.v.length,i.m⟩,by rw[uk],rfl,rfl,hs,iM ⟨rfl,trivial,λ_ _=>Cv.dp.mk (λe=> ?_) (λ_=>⟨⟨i.v,i.m.inst.toNat,ao⟩,rfl,⟨Z9,hl,qy⟩,λ_ _=>⟨⟨f1,by rw[uk];exact f2⟩,Cv.dp.mk (λhi=> ?_) (λhi=> ?_)⟩⟩)⟩⟩
 ·exfalso;simp[FY]at e
 ·have Sw:(⟨i.v,i.m.inst.toNat,ao⟩:oZ).f=5:=rfl;have El:(⟨i.v,i.m.inst.toNat,ao⟩:oZ).lv=p.2.levels.map im:=by rw[oZ.lv,LA,hp];rfl
  have e0:A0 2 p.2 i.m=if 0<i.m.dr then⟨p.2.levels,i.m.lv,ao⟩else⟨p.2.levels,BA,ap⟩:=by rw[A0,fh hi]
  rw[Sw,El];have a1:zK (i.v.map zA) i.m.inst.toNat 6 [D.v (.int .i64 i.m.dm),D.v (.int .i64 i.m.dr),D.v (.int .i64 i.m.count)]=(i.v.map zA).set i.m.inst.toNat (zA (p.1,⟨p.2.levels,i.m.lv,p.2.has⟩)):=aO Sc rfl;have a2:∀b:Bool,zK ((i.v.map zA).set i.m.inst.toNat (zA (p.1,⟨p.2.levels,i.m.lv,p.2.has⟩))) i.m.inst.toNat 9 [D.v (.bool b)]=(i.v.map zA).set i.m.inst.toNat (zA (p.1,⟨p.2.levels,i.m.lv,b⟩)):=λb=>NR hN
  have a3:∀b:Bool,zK ((i.v.map zA).set i.m.inst.toNat (zA (p.1,⟨p.2.levels,i.m.lv,b⟩))) i.m.inst.toNat 6 [D.v (.int .i64 0),D.v (.int .i64 0),D.v (.int .i64 0)]=(i.v.map zA).set i.m.inst.toNat (zA (p.1,⟨p.2.levels,BA,b⟩)):=λb=>NR hN
  have a4:∀(y:Lv) (b:Bool),zK ((i.v.map zA).set i.m.inst.toNat (zA (p.1,⟨p.2.levels,y,b⟩))) i.m.inst.toNat 5 [D.ro 3 (p.2.levels.map im)]=(i.v.map zA).set i.m.inst.toNat (zA (p.1,⟨p.2.levels,y,b⟩)):=λy b=>NR hN
  have a5:∀b:Bool,zD ((i.v.map zA).set i.m.inst.toNat (zA (p.1,⟨p.2.levels,i.m.lv,b⟩))) i.m.inst.toNat 9 1=aw [D.v (.bool b)]:=λb=>by
   rw[zD,Ce,fh rfl,fh hN];rfl
  simp only[a1,a2,a3,a4,qm];refine⟨⟨i7,hN,Z8,Z8,λ_ _=> .inr Z8⟩,i7,⟨i7,hN,Z8,Z8,λ_ _=> .inr Z8⟩,_,a5 _,⟨Z8,λ_ _=> .inr Z8⟩,Cv.dp.mk (λhb=>⟨⟨i7,hN,Z8,Z8,λ_ _=> .inr Z8⟩,(),⟨i7,hN,Z8,?_⟩,gn⟩) (λhb=>⟨(),⟨i7,hN,Z8,?_⟩,gn⟩)⟩
  ·have hq:¬0<i.m.dr:=i9 hb
   rw[hA,e0,ez hq,jv (show ¬i.m.dr>0 from hq)]
  ·have hq:0<i.m.dr:=i9 hb
   rw[hA,e0,fh hq,jo (show i.m.dr>0 from hq)]
 ·have Sw:(⟨i.v,i.m.inst.toNat,ao⟩:oZ).f=5:=rfl;have El:(⟨i.v,i.m.inst.toNat,ao⟩:oZ).lv=p.2.levels.map im:=by rw[oZ.lv,LA,hp];rfl
  have e0:=yRx (s:=2) (x:=p.2) (m:=i.m) (by simp[hi]);rw[e0]at hA;have hh:i.m.inst.toNat=i.m.inst.toNat/\5=(⟨i.v,i.m.inst.toNat,ao⟩:oZ).f/\True/\i.m.inst.toNat<(i.v.map zA).length/\5<10:=⟨rfl,rfl,trivial,hN,Z8⟩
  have FZ:(⟨i.v,i.m.inst.toNat,ao⟩:oZ).f<10:=by show 5<10;decide
  have xu:i.m.inst.toNat<(i.v.map zA).length/\5<10:=⟨hN,Z8⟩
  have hB:∀l:Q_ D,(jS 2 p.2.levels i.m.lv).map im=l->(rn i.v i.m).map zA=zK (i.v.map zA) i.m.inst.toNat 5 [D.ro 3 l]:=λl e=>by
   subst e;rw[hA];exact Eq.symm (aO (f:=5) (ds:=[D.ro 3 ((jS 2 p.2.levels i.m.lv).map im)]) Sc rfl)
  have OP:(p.2.levels.map im).length=p.2.levels.length:=ia _;have e1:2=i.m.side:=hs.symm;refine⟨hh,.inl ⟨⟨p.2.levels,i.m⟩,El.symm,rfl,rfl,hs,iM ⟨rfl,Z9,λ_ _=> ?_⟩⟩⟩;dsimp only;cases hk:p.2.levels.findIdx? (λy=>decide (y.dm=i.m.dm))with
  |some k=>
   have o7:=U5 hk;refine zG (λ_=>Cv.dp.mk (λhq=>⟨hh,⟨p.2.levels.map im,k,k+1⟩,rfl,?_,rfl,⟨Z9,Z9⟩,λ_ _=>⟨xu,⟨i7,i7⟩,(),⟨i7,hN,FZ,hB _ (yTu hk (by show i.m.dr=0;simpa using hq))⟩,gn⟩⟩) (λhq=>zG (λ_=>⟨hh,⟨by show(0:Int)<=(k:Int);omega,by show(k:Int)<_;omega⟩,by show k<_;omega,(),⟨i7,hN,FZ,hB _ (yTv hk (by show ¬i.m.dr=0;simpa using hq) o7)⟩,gn⟩) (λc=>absurd (show(0:Int)<=(k:Int)by omega) c))) (λc=>absurd (show(0:Int)<=(k:Int)by omega) c);show((k+1:Nat):Int)=aj.wrap ((k:Int)+1);rw[iw (by omega)];rfl
  |none=>
   refine zG (λc=>absurd c Z8) (λ_=>zG (λc=>absurd c Z8) (λ_=>zG (λhq=>⟨hh,.inr ⟨⟨p.2.levels,i.m⟩,oL ⟨rfl,Z9,λ_ _=> ?_⟩⟩⟩) (λhq=>⟨(),⟨i7,hN,FZ,hB _ (by rw[yFi hk hq])⟩,gn⟩)));dsimp only;rw[hs];cases hb:p.2.levels.findIdx? (λy=>xK 2 i.m.dm y.dm)with
   |some k=>
    have o7:=U5 hb;exact zG (λc=>absurd c (by show ¬(k:Int)<0;omega)) (λ_=>⟨hh,⟨hh,trivial⟩,⟨p.2.levels.map im,im i.m.lv,k⟩,rfl,rfl,rfl,⟨Z9,Z9⟩,λ_ _=>⟨xu,⟨i7,i7⟩,(),⟨i7,hN,FZ,hB _ (WM hk hq (by rw[show(p.2.levels.findIdx? λy=>xK 2 i.m.lv.dm y.dm)=aw k from hb];rfl))⟩,gn⟩⟩)
   |none=>
    exact zG (λ_=>⟨hh,hh,⟨hh,trivial⟩,⟨p.2.levels.map im,im i.m.lv,p.2.levels.length⟩,by rw[OP],rfl,rfl,⟨Z9,Z9⟩,λ_ _=>⟨xu,⟨i7,i7⟩,(),⟨i7,hN,FZ,hB _ (WM hk hq (by rw[show(p.2.levels.findIdx? λy=>xK 2 i.m.lv.dm y.dm)=ax from hb];rfl))⟩,gn⟩⟩) (λc=>absurd (show(-1:Int)<0 by decide) c)
def y6x:MP.ok Tryz.prog 143:=gx mixed (dw YJ (dw z4i (dw yQq (dw ySa (dw yHe (dw yIk fk)))))) 0 i6 i6 [] Tryz.func143 xHq
def yVl:C8.ok Tryz.prog 143:=by
 intro i h;obtain⟨FY,hl,qy⟩:i.m.iN i.v.length=0/\i.v.length<=1000000/\xZ i.v:=h;obtain⟨_,f3,_⟩:=Vy FY;rcases f3 with e|e
 ·have:=y5y i ⟨e,FY,hl,qy⟩;have e2:C8.pat i=MQ.pat i:=by
   show[zw i.v,Iu i.m]=[zw i.v,V.agg [zB i.m.seq,zB i.m.inst,zB 1,zB i.m.dm,zB i.m.dr,zB i.m.count,yL i.m.gg]];rw[Iu,e]
  intro k L E w ys R hv;rw[e2]at hv;exact this k L E w ys R hv
 ·have:=y6x i ⟨e,FY,hl,qy⟩;have e2:C8.pat i=MP.pat i:=by
   show[zw i.v,Iu i.m]=[zw i.v,V.agg [zB i.m.seq,zB i.m.inst,zB 2,zB i.m.dm,zB i.m.dr,zB i.m.count,yL i.m.gg]];rw[Iu,e]
  intro k L E w ys R hv;rw[e2]at hv;exact this k L E w ys R hv
def y4e:∀{l:List zJ} {v:Lv},v∈xw l->(1<=v.count/\v.count<=l.length)/\∃o∈l,o.dm=v.dm
 |[],v,h=>by cases h
 |o::l,v,h=>by
  have ih:∀v∈xw l,(1<=v.count/\v.count<=l.length)/\∃o∈l,o.dm=v.dm:=λv hv=>y4e hv
  rw[xw]at h;rw[iF];split at h
  ·rw[ua]at h;subst h;exact⟨Z9,o,iX,rfl⟩
  ·rename_i w ws e;rw[e]at ih;have hw:=ih w iX;split at h
   ·rename_i ep;rcases jx.1 h with rfl|h
    ·exact⟨Z9,o,iX,ep.symm⟩
    ·obtain⟨a,x,hx,hp⟩:=ih v (ji _ h);exact⟨oM,x,ji _ hx,hp⟩
   ·rcases jx.1 h with rfl|h
    ·exact⟨Z9,o,iX,rfl⟩
    ·obtain⟨a,x,hx,hp⟩:=ih v h;exact⟨oM,x,ji _ hx,hp⟩
def U2:∀l:List zJ,(xw l).length<=l.length
 |[]=>ju 0
 |o::l=>by
  have ih:=U2 l;rw[xw,iF];cases e:xw l with
  |nil=>simp
  |cons w ws=>
   rw[e,iF]at ih;dsimp only;split
   ·rw[iF];omega
   ·rw[iF,iF];omega
def y7u {s:Int} {L:List Lv} (h:cR s L) (hp:∀l∈L,1<=l.dr/\1<=l.count) (i:Nat):vy s L i:=by
 intro a ha;have hm:=hp a (lh ha);refine⟨hm.1,hm.2,?_⟩;rintro j b rfl hb;obtain⟨h1,e1⟩:=jm.1 ha;obtain⟨h2,e2⟩:=jm.1 hb;have:=(List.pairwise_iff_getElem.1 h) j (j+1) h2 h1 (LX j);rw[e1,e2]at this;exact this
def yIe {p:fj} {B:Q_ zJ} (h:rr p B) {k:Nat} {L:List zJ} (hL:B[k]? =aw L) {s:Int} (hs:s=1\/s=2):
 (∀i,vy s (uE L s) i)/\(uE L s).length<=255/\∀l∈uE L s,(1<=l.dr/\l.dr<=250000000)/\l.fit:=by
 obtain⟨h1,h2,h3⟩:=h.od k L hL;have hf:(L.filter λo=>decide (o.side=s)).length<=L.length:=HE _ _;have hl:=U2 (L.filter λo=>decide (o.side=s));have te:∀l∈uE L s,(1<=l.dr/\l.dr<=250000000)/\(1<=l.count/\l.count<=250)/\(-2000000<=l.dm/\l.dm<=2000000):=λl hm=>by
  have q:=Xs (λo ho=>h1 o (ug.1 ho).1) hm;obtain⟨c,o,ho,e⟩:=y4e hm;have hp:=h.ok.yh hL o (ug.1 ho).1;rw[e]at hp;exact⟨oM,oM,hp⟩
 refine⟨y7u (yYi h hL hs).1 λl hm=>⟨(te l hm).1.1,(te l hm).2.1.1⟩,by rw[uE];omega,λl hm=> ?_⟩;obtain⟨a,b,c⟩:=te l hm;exact⟨a,⟨oM,oM⟩,⟨oM,oM⟩,⟨oM,oM⟩⟩
def z5x {p:fj} {B:Q_ zJ} (h:rr p B) {k:Nat} {L:List zJ} (hL:B[k]? =aw L) {s:Int} (hs:s=1\/s=2) (hb:(iG L s).2=ao):1<=(iG L s).1.dr/\(iG L s).1.dr<=250000000:=by
 have hm:(iG L s).1∈uE L s:=by
  rw[iG]at hb ⊢;split at hb
  ·cases hb
  ·rename_i v vs e;rw[e];exact iX
 exact((yIe h hL hs).2.2 _ hm).1
def y1r {p:fj} {B:Q_ zJ} (h:rr p B) {i s:Int} (hi:0<=i/\i<(B.map qC).length) (hs:s=1\/s=2) (hh:((B.map qC).getD i.toNat kf).has s=ao):1<=((B.map qC).getD i.toNat kf).dr s/\((B.map qC).getD i.toNat kf).dr s<=250000000:=by
 rw[ia]at hi;obtain⟨L,hL⟩:=zZ (l:=B) (i:=i.toNat) oM;have e:(B.map qC).getD i.toNat kf=qC L:=by rw[mu,qt,hL];rfl
 rw[e]at hh ⊢;obtain⟨t1,t2,t3,t4,t5,t6⟩:=UW L;rcases hs with rfl|rfl
 ·rw[j'.has,fh rfl,t3]at hh;rw[j'.dr,fh rfl,t2];exact z5x h hL (.inl rfl) hh
 ·rw[j'.has,ez (by decide),t6]at hh;rw[j'.dr,ez (by decide),t5];exact z5x h hL (.inr rfl) hh
def yYm {p:fj} {B:Q_ zJ} (h:rr p B) {n s:Int} (hs:s=1\/s=2) {q:Quote} (hq:q∈xR ⟨p,B.map qC,n⟩ s):(1<=q.dr/\q.dr<=250000000)/\(-2000000<=q.dm/\q.dm<=2000000):=by
 rw[xR,ug]at hq;obtain⟨ok,-⟩:=yFr h.ok.pc (by rw[ia,h.ok.bl]) hs hq.1;have qa:=y1r h ok.a ok.sa ok.ha;have qb:=y1r h ok.b ok.sb ok.hb;have hp:p.dm n q.dm=0:=by simpa using hq.2
 exact⟨by rw[ok.dr];omega,PX h.ok.pc hp⟩
def zMa (b:Quote) {M:Int}:∀(l:List Quote) (a:Int×Int),(∀q∈l,1<=q.dr/\q.dr<=M)->1<=a.1->a.1<=M->
 (1<=(l.foldl (λa q=>if q.dm=b.dm then(if q.dr>a.1 then q.dr else a.1,a.2+1)else a) a).1/\(l.foldl (λa q=>if q.dm=b.dm then(if q.dr>a.1 then q.dr else a.1,a.2+1)else a) a).1<=M)/\
 a.2<=(l.foldl (λa q=>if q.dm=b.dm then(if q.dr>a.1 then q.dr else a.1,a.2+1)else a) a).2/\(l.foldl (λa q=>if q.dm=b.dm then(if q.dr>a.1 then q.dr else a.1,a.2+1)else a) a).2<=a.2+l.length/\
 (b∈l->a.2+1<=(l.foldl (λa q=>if q.dm=b.dm then(if q.dr>a.1 then q.dr else a.1,a.2+1)else a) a).2)
 |[],a,_,h1,h2=>⟨⟨h1,h2⟩,yl _,by simp,λh=>by cases h⟩
 |q::l,a,hq,h1,h2=>by
  have q0:=hq q iX;rw[A7,iF];by_cases e:q.dm=b.dm
  ·rw[fh e];obtain⟨r1,r2,r3,r4⟩:=zMa b (M:=M) l (if q.dr>a.1 then q.dr else a.1,a.2+1) (λx hx=>hq x (ji _ hx)) (by dsimp only;split<;>omega) (by dsimp only;split<;>omega);dsimp only at r2 r3;exact⟨r1,oM,oM,λ_=>r2⟩
  ·rw[ez e];obtain⟨r1,r2,r3,r4⟩:=zMa b (M:=M) l a (λx hx=>hq x (ji _ hx)) h1 h2;refine⟨r1,r2,oM,λhb=> ?_⟩;rcases jx.1 hb with rfl|hb
   ·exact absurd rfl e
   ·exact r4 hb
def yNq {l:List Quote} {s:Int} (hl:l.length<=100) (h:∀q∈l,(1<=q.dr/\q.dr<=250000000)/\(-2000000<=q.dm/\q.dm<=2000000)):
 ((kB l s).2=ao->1<=(kB l s).1.dr/\1<=(kB l s).1.count)/\((kB l s).2=ap->(kB l s).1=⟨0,0,0⟩)/\(kB l s).1.fit:=by
 by_cases e:(z6 l s).2=ao
 ·have hm:=zMp e;have hb:=h _ hm;have:=zMa (z6 l s).1 (M:=250000000) l ((z6 l s).1.dr,0) (λq hq=>(h q hq).1) hb.1.1 hb.1.2;have e2:kB l s=(⟨(z6 l s).1.dm,(cT l (z6 l s).1).1,(cT l (z6 l s).1).2⟩,ao):=by rw[kB,fh e]
  rw[e2];rw[<- cT]at this;obtain⟨r1,r2,r3,r4⟩:=this;have r4:=r4 hm;dsimp only at r2 r3 r4 ⊢;exact⟨λ_=>⟨r1.1,oM⟩,λx=>(by cases x),⟨Z9,Z9⟩,⟨Z9,Z9⟩,⟨Z9,Z9⟩⟩
 ·have e2:kB l s=(⟨0,0,0⟩,ap):=by rw[kB,ez e]
  rw[e2];exact⟨λx=>(by cases x),λ_=>rfl,⟨Z8,Z8⟩,⟨Z8,Z8⟩,⟨Z8,Z8⟩⟩
def zGz {p:fj} {B:Q_ zJ} (h:rr p B):wO (yK p B)/\Rp (yK p B)/\xZ (yK p B):=by
 have hc:=y7 p;have hlen:=dN p B;have o5:∀k,k<p.count->∀s,s=1\/s=2->oh s (cX p B k s)/\(cX p B k s).fit:=λk hk s hs=>by
  obtain⟨L,hL⟩:=zZ (l:=B) (i:=k) (by rw[h.ok.bl];exact hk);have e:B.getD k []=L:=zX hL;obtain⟨a1,a2,a3⟩:=yIe h hL hs;obtain⟨b1,b2,b3⟩:=yNq (s:=s) (zAz ⟨p,B.map qC,k⟩ s) (λq hq=>yYm h hs hq);rw[cX,e];exact⟨⟨a1,a2,b1,b2⟩,λx hx=>(a3 x hx).2,b3⟩
 have tv:∀b∈yK p B,∃k,k<p.count/\b=(cX p B k 1,cX p B k 2):=λb hb=>by
  rw[yK]at hb;obtain⟨k,hk,rfl⟩:=np.1 hb;exact⟨k,Cd.1 hk,rfl⟩
 refine⟨⟨λb hb=> ?_,oM⟩,λb hb=> ?_,⟨oM,λb hb=> ?_⟩⟩
 ·obtain⟨k,hk,rfl⟩:=tv b hb;exact⟨(o5 k hk 1 (.inl rfl)).1,(o5 k hk 2 (.inr rfl)).1⟩
 ·obtain⟨k,hk,rfl⟩:=tv b hb;exact⟨(o5 k hk 1 (.inl rfl)).2,(o5 k hk 2 (.inr rfl)).2⟩
 ·obtain⟨k,hk,rfl⟩:=tv b hb;have a:=(o5 k hk 1 (.inl rfl)).1.2.1;have c:=(o5 k hk 2 (.inr rfl)).1.2.1;dsimp only;omega
structure xe (p:fj) (v:Vw):Prop where
 r:wO v
 f:Rp v
 s:xZ v
 len:v.length=p.count
def JH {p:fj} {B:Q_ zJ} (h:rr p B):xe p (yK p B):=⟨(zGz h).1,(zGz h).2.1,(zGz h).2.2,dN p B⟩
def Pm {s:Int}:∀{L:List Lv},(∀i,vy s L i)->cR s L/\∀l∈L,1<=l.dr/\1<=l.count
 |[],_=>⟨List.Pairwise.nil,λl h=>by cases h⟩
 |x::L,h=>by
  have hL:∀i,vy s L i:=λi a ha=>by
   obtain⟨h1,h2,h3⟩:=h (i+1) a (i9 ha);exact⟨h1,h2,λj b e hb=>h3 (j+1) b oM (i9 hb)⟩
  obtain⟨i1,i2⟩:=Pm hL;obtain⟨h1,h2,_⟩:=h 0 x rfl;refine⟨yx.2 ⟨?_,i1⟩,λl hl=> ?_⟩
  ·cases L with
   |nil=>intro a ha;cases ha
   |cons y L=>
    have hy:jl s x.dm y.dm=ao:=(h 1 y rfl).2.2 0 x rfl rfl;intro a ha;rcases jx.1 ha with rfl|ha
    ·exact hy
    ·exact lO hy ((yx.1 i1).1 a ha)
  ·rcases jx.1 hl with rfl|hl
   ·exact⟨h1,h2⟩
   ·exact i2 l hl
def tU {v:Vw} (h:wO v):XB v:=λp hp=>by
 obtain⟨⟨a1,a2,a3,a4⟩,⟨b1,b2,b3,b4⟩⟩:=h.1 p hp;obtain⟨s1,p1⟩:=Pm a1;obtain⟨s2,p2⟩:=Pm b1;exact⟨⟨s1,λl hl=>(p1 l hl).1,λx=>(a3 x).1,a4⟩,⟨s2,λl hl=>(p2 l hl).1,λx=>(b3 x).1,b4⟩⟩
def Rr:yP 0:=⟨Z8,Z8⟩
def Ks (x:Sd):Prop:=(∀l∈x.levels,(1<=l.dr/\1<=l.count)/\l.fit)/\(x.has=ao->1<=x.imp.dr/\1<=x.imp.count)/\x.imp.fit
def y3g {p:fj} {v:Vw} (h:xe p v):∀b∈v,Ks b.1/\Ks b.2:=λb hb=>by
 obtain⟨⟨a1,a2,a3,a4⟩,⟨b1,b2,b3,b4⟩⟩:=h.r.1 b hb;obtain⟨⟨f1,f2⟩,⟨g1,g2⟩⟩:=h.f b hb;exact⟨⟨λl hl=>⟨(Pm a1).2 l hl,f1 l hl⟩,a3,f2⟩,⟨λl hl=>⟨(Pm b1).2 l hl,g1 l hl⟩,b3,g2⟩⟩
def tH {s:Int}:∀(k:Nat) (X Y:List Lv),∀m∈qA s k X Y,m∈Y\/∃x∈X,m=⟨x.dm,0,0⟩
 |0,_,_,m,h=>by rw[qA]at h;cases h
 |k+1,[],[],m,h=>by rw[qA]at h;cases h
 |k+1,x::X,[],m,h=>by
  rw[qA]at h;rcases jx.1 h with rfl|h
  ·exact .inr ⟨x,iX,rfl⟩
  ·rcases tH k X [] m h with h|⟨z,hz,e⟩
   ·cases h
   ·exact .inr ⟨z,ji _ hz,e⟩
 |k+1,[],y::Y,m,h=>by
  rw[qA]at h;rcases jx.1 h with rfl|h
  ·exact .inl iX
  ·rcases tH k [] Y m h with h|⟨z,hz,e⟩
   ·exact .inl (ji _ h)
   ·cases hz
 |k+1,x::X,y::Y,m,h=>by
  rw[qA]at h;split at h
  ·rcases jx.1 h with rfl|h
   ·exact .inr ⟨x,iX,rfl⟩
   ·rcases tH k X (y::Y) m h with h|⟨z,hz,e⟩
    ·exact .inl h
    ·exact .inr ⟨z,ji _ hz,e⟩
  ·split at h
   ·rcases jx.1 h with rfl|h
    ·exact .inl iX
    ·rcases tH k (x::X) Y m h with h|h
     ·exact .inl (ji _ h)
     ·exact .inr h
   ·rcases oK.1 h with h|h
    ·split at h
     ·cases h
     ·rw[ua]at h;subst h;exact .inl iX
    ·rcases tH k X Y m h with h|⟨z,hz,e⟩
     ·exact .inl (ji _ h)
     ·exact .inr ⟨z,ji _ hz,e⟩
structure Dc (n:Nat) (m:VM):Prop where
 inst:m.inst<n
 side:m.side=1\/m.side=2
 q:0<=m.l.dr/\0<=m.l.count
 e:m.l.dr=0↔m.l.count=0
 f:m.l.fit
def z8f {n N:Nat} {s:Int} {a b:Sd} (hn:n<N) (hs:s=1\/s=2) (ha:Ks a) (hb:Ks b):∀m∈xV n s a b,Dc N m:=by
 intro m hm;rw[xV,oK]at hm;rcases hm with hm|hm
 ·obtain⟨l,hl,rfl⟩:=np.1 hm;rcases tH _ _ _ l hl with h|⟨x,hx,rfl⟩
  ·obtain⟨⟨h1,h2⟩,h3⟩:=hb.1 l h;exact⟨hn,hs,⟨Z9,Z9⟩,⟨λ_=>by dsimp only at*;omega,λ_=>by dsimp only at*;omega⟩,h3⟩
  ·exact⟨hn,hs,⟨yl _,yl _⟩,⟨λ_=>rfl,λ_=>rfl⟩,⟨(ha.1 x hx).2.1,Rr,Rr⟩⟩
 ·split at hm
  ·rw[ua]at hm;subst hm;have hI:(0<=(Cy b).dr/\0<=(Cy b).count)/\((Cy b).dr=0↔(Cy b).count=0)/\(Cy b).fit:=by
    rw[Cy];split
    ·rename_i h;have:=hb.2.1 h;exact⟨⟨oM,oM⟩,⟨λ_=>by omega,λ_=>by omega⟩,hb.2.2⟩
    ·exact⟨⟨yl _,yl _⟩,⟨λ_=>rfl,λ_=>rfl⟩,⟨Rr,Rr,Rr⟩⟩
   exact⟨hn,hs,hI.1,hI.2.1,hI.2.2⟩
  ·cases hm
def yGt:∀(n:Nat) (A B:Vw),(∀p∈A,Ks p.1/\Ks p.2)->(∀p∈B,Ks p.1/\Ks p.2)->∀m∈xN n A B,Dc (n+A.length) m
 |n,[],_,_,_,m,h=>by rw[xN]at h<;>first|cases h|simp
 |n,a::A,[],_,_,m,h=>by rw[xN]at h<;>first|cases h|simp
 |n,a::A,b::B,hA,hB,m,h=>by
  rw[xN,oK,oK]at h;have ha:=hA a iX;have hb:=hB b iX;rw[iF];rcases h with(h|h)|h
  ·exact z8f oM (.inl rfl) ha.1 hb.1 m h
  ·exact z8f oM (.inr rfl) ha.2 hb.2 m h
  ·have:=yGt (n+1) A B (λp hp=>hA p (ji _ hp)) (λp hp=>hB p (ji _ hp)) m h;rwa [show n+1+A.length=n+(A.length+1)by omega]at this
def yPm {p:fj} {v:Vw} (h:xe p v):Vw.oO v<=510*v.length:=by
 have:∀{v:Vw},(∀b∈v,oh 1 b.1/\oh 2 b.2)->Vw.oO v<=510*v.length:=by
  intro v
  induction v with
  |nil=>intro _;exact ju _
  |cons a v ih=>
   intro h;have ha:=h a iX;have:=ih λb hb=>h b (ji _ hb)
   have h1:=ha.1.2.1;have h2:=ha.2.2.1;rw[Vw.oO]at this ⊢;rw[jf,qc,iF];omega
 exact this h.r.1
def ofM (m:gi):VM:=⟨m.inst.toNat,m.side,m.lv,m.gg⟩
def EW (seq:Int) (m:VM):gi:=⟨seq,m.inst,m.side,m.l.dm,m.l.dr,m.l.count,m.imp⟩
def xFe (seq:Int) (m:VM):ofM (EW seq m)=m:=rfl
def yHp:∀{M:List VM} {seq:Int} {k:Nat} {x:VM},M[k]? =aw x->(jY seq M)[k]? =aw (EW (seq+k+1) x)
 |[],seq,k,x,h=>by cases h
 |m::M,seq,0,x,h=>by
  cases h;rw[jY,CG,Int.natCast_zero,Int.add_zero];rfl
 |m::M,seq,k+1,x,h=>by
  rw[jY,Bd,yHp (M:=M) (i9 h)];congr 2;omega
def yFf:∀(M:List VM) (seq:Int),(jY seq M).length=M.length
 |[],_=>rfl
 |m::M,seq=>by rw[jY,iF,iF,yFf M]
def LJ (v:Vw):Prop:=∀p∈v,cR 1 p.1.levels/\cR 2 p.2.levels
def tX (n:Nat) (v:Vw):Prop:=∀p∈v,p.1.levels.length<=n/\p.2.levels.length<=n
def yIc (s:Int) (m:Lv):∀L:List Lv,(mC s L m).length<=L.length+1
 |[]=>by rw[mC];split<;>simp
 |x::L=>by
  have:=yIc s m L;rw[mC];split
  ·split
   ·rw[iF];omega
   ·simp
  ·split
   ·split<;>simp
   ·rw[iF,iF];omega
def yEa {v:Vw} {m:VM} {q:Sd×Sd} (h:q∈bC v m):q∈v\/∃p∈v,q=b9 p m:=by
 rw[bC]at h;obtain⟨k,hk⟩:=Bv.1 h;rw[FI]at hk;cases e:v[k]? with
 |none=>rw[e]at hk;cases hk
 |some x=>
  rw[e]at hk;have hx:=lh e;have hk:(if m.inst=k then b9 x m else x)=q:=Option.some.inj hk;split at hk
  ·exact .inr ⟨x,hx,hk.symm⟩
  ·exact .inl (hk▸hx)
def yYj {v:Vw} {m:VM} (h:LJ v):LJ (bC v m):=λq hq=>by
 rcases yEa hq with hq|⟨p,hp,rfl⟩
 ·exact h q hq
 ·obtain⟨h1,h2⟩:=h p hp;rw[b9];split
  ·refine⟨?_,h2⟩;rw[vJ];split
   ·split<;>exact h1
   ·exact U3 h1
  ·refine⟨h1,?_⟩;rw[vJ];split
   ·split<;>exact h2
   ·exact U3 h2
def yWb {v:Vw} {m:VM} {n:Nat} (h:tX n v):tX (n+1) (bC v m):=λq hq=>by
 rcases yEa hq with hq|⟨p,hp,rfl⟩
 ·have:=h q hq;omega
 ·obtain⟨h1,h2⟩:=h p hp;have key:∀s (x:Sd),x.levels.length<=n->(vJ s x m).levels.length<=n+1:=λs x hx=>by
   rw[vJ];split
   ·split<;>exact HC hx
   ·have:=yIc s m.l x.levels;show(mC s x.levels m.l).length<=n+1;omega
  rw[b9];split
  ·exact⟨key 1 p.1 h1,HC h2⟩
  ·exact⟨HC h1,key 2 p.2 h2⟩
def yHv {s:Int} {x:Sd} {m:gi} (hs:cR s x.levels) (hq:0<=m.dr):A0 s x m=vJ s x (ofM m):=by
 rw[A0,vJ];show(if m.gg=ao then _ else _)=(if m.gg=ao then _ else _);split
 ·rfl
 ·rw[zYb (m:=m.lv) hq hs];rfl
def y7t {v:Vw} {m:gi} (hs:LJ v) (hf:m.iN v.length=0):rn v m=bC v (ofM m):=by
 obtain⟨_,f3,f4,_⟩:=Vy hf;rw[rn,bC];apply Dn;intro k;rw[FI,FI];cases e:v[k]? with
 |none=>rfl
 |some x=>
  obtain⟨h1,h2⟩:=hs x (lh e);show aw (if m.inst.toNat=k then _ else x)=aw (if m.inst.toNat=k then b9 x (ofM m)else x);congr 1;split
  ·rw[b9,yHv h1 f4.1,yHv h2 f4.1];rfl
  ·rfl
def z1x {n:Nat} {m:VM} (h:Dc n m) (seq:Int):(EW seq m).iN n=0:=by
 obtain⟨h1,h2,h3,h4,_⟩:=h;rw[gi.iN];show(if(m.inst:Int)<0\/(n:Int)<=(m.inst:Int)then _ else if m.side≠1/\m.side≠2 then _ else if(m.l.dr<0\/m.l.count<0)\/¬(m.l.dr=0↔m.l.count=0)then _ else _)=_;rw[ez (by omega),ez (by omega),ez];rintro(x|x)
 ·omega
 ·exact x h4
def rm (c:Vw) (L:List VM) (k:Nat):Vw:=(L.take k).foldl bC c
def y3q (c:Vw) (L:List VM):rm c L 0=c:=by rw[rm,EU];rfl
def z4m {c:Vw} {L:List VM} {k:Nat} {m:VM} (h:L[k]? =aw m):rm c L (k+1)=bC (rm c L k) m:=by
 rw[rm,qq,h,Bt,Iz];rfl
def U6 (c:Vw) (L:List VM):rm c L L.length=L.foldl bC c:=by rw[rm,At]
def yBh {c:Vw} (hs:LJ c) {n:Nat} (hl:tX n c) (L:List VM):∀k,k<=L.length->LJ (rm c L k)/\tX (n+k) (rm c L k)/\(rm c L k).length=c.length
 |0,_=>by rw[y3q];exact⟨hs,hl,rfl⟩
 |k+1,h=>by
  obtain⟨m,hm⟩:=zZ (l:=L) (i:=k) oM;obtain⟨h1,h2,h3⟩:=yBh hs hl L k oM;rw[z4m hm];exact⟨yYj h1,yWb h2,by rw[y0e,h3]⟩
def ySi {v:Vw} (h:XB v):LJ v:=λp hp=>⟨(h p hp).1.1,(h p hp).2.1⟩
def yAr {p:fj} {v:Vw} (h:xe p v):tX 255 v:=λb hb=>⟨(h.r.1 b hb).1.2.1,(h.r.1 b hb).2.2.1⟩
def zWh {v:Vw} {n:Nat} (h:tX n v) (hn:n<=1000000) (hl:v.length<=1000000):xZ v:=⟨oM,λb hb=>by have:=h b hb;omega⟩
def xIq {p:fj} {c:Vw} (h:xe p c) {L:List VM} (hL:L.length<=600000) {k:Nat} (hk:k<=L.length):LJ (rm c L k)/\xZ (rm c L k)/\(rm c L k).length=p.count:=by
 obtain⟨h1,h2,h3⟩:=yBh (ySi (tU h.r)) (yAr h) L k hk;have:=h.r.2;exact⟨h1,zWh h2 oM oM,by rw[h3,h.len]⟩
def yHd {p:fj} {c:Vw} (h:xe p c) {L:List VM} (hL:L.length<=600000) (hm:∀m∈L,Dc p.count m) {k:Nat} {x:VM} (hx:L[k]? =aw x) (seq:Int):
 (EW seq x).iN (rm c L k).length=0/\(rm c L k).length<=1000000/\xZ (rm c L k)/\rn (rm c L k) (EW seq x)=rm c L (k+1):=by
 have hk:=(jm.1 hx).1;obtain⟨h1,h2,h3⟩:=xIq h hL (k:=k) oM;have hf:=z1x (hm x (lh hx)) seq;have:=y7 p;rw[<- h3]at hf;exact⟨hf,oM,h2,by rw[y7t h1 hf,xFe,z4m hx]⟩
@[reducible] def wx (l:i4):Prop:=l.length<=140737488355328
def qk:gh:=fp (Q_ D) (λl=>[ow 1 l]) i6 (λl=>l.length<=140737488355328) (λl=>ow 1 l) i6
def M6:gh:=fp i4 (λl=>[ow 1 (bE l)]) i6 (λl=>wx l) (λ_=> .nm 0 0) (λl=>[Rd l ap])
def MV:gh:=fp RN (λi=>[.nm 0 0,zB i.n]) (λi=>[Rd i.l i.b]) (λi=>i.n<=255/\wx i.l) (λi=>ow 1 (bE i.iS)) (λi=>[Rd i.left i.bad])
def K5:gh:=fp RN (λi=>[.nm 0 0,zB i.n]) (λi=>[Rd i.l i.b]) (λi=>i.n<=8/\wx i.l) (λi=>A4 (yX i.iS)) (λi=>[Rd i.left i.bad])
def Ji:gh:=fp RB (λi=>[.nm 0 0]) (λi=>[Rd i.l i.b]) (λi=>wx i.l) (λi=>zB (yX (i.n 1).iS)) (λi=>[Rd (i.n 1).left (i.n 1).bad])
def Jg:gh:=fp RB (λi=>[.nm 0 0]) (λi=>[Rd i.l i.b]) (λi=>wx i.l) (λi=>zB (aj.wrap (yX (i.n 8).iS))) (λi=>[Rd (i.n 8).left (i.n 8).bad])
def M3:gh:=fp RB (λi=>[.nm 0 0]) (λi=>[Rd i.l i.b]) (λi=>wx i.l) (λi=>zB (if i.b then 10 else if 0<i.l.length then 15 else 0)) (λi=>[Rd i.l i.b])
def GG:gh:=fp i4 (λb=>[ow 1 (bE b)]) i6 (λb=>wx b) (λb=> .je [Iu (xO b).1,zB (xO b).2]) i6
def zWe (i:Q_ D):Prop:=
 ∀(b:Bool),(b=ao->i=[])->dp b (∃(o:Unit),i=[]/\True) ((0+i.length)*(1:Nat)<=(140737488355328:Nat)/\∃(o:Unit),i=[]++i/\True)
def z9o (i:Q_ D):zWe i=walk Tryz.prog ([]) 0 ([]) ([]) [] Tryz.f138 (Tryz.f138.body.getD .skip) (qk.pat i) (qk.pre i) (qk.alts i):=by kernel_rfl
def yBb (hG:zf Tryz.prog ([])) (h:∀(i:Q_ D),qk.dp i->zWe i):qk.ok Tryz.prog 138:=qY mixed ([]) hG 0 (λ(i:Q_ D)=>[]) (λ(i:Q_ D)=>[]) [] Tryz.func138 (by kernel_rfl) (by kernel_rfl) (by kernel_rfl) (λ_=>by kernel_rfl) (λ(i:Q_ D) hc=>Eq.mp (z9o i) (h i hc))
def y9c (i:i4):Prop:=
 ∃(gz:Q_ D),gz=bE i/\gz.length<=140737488355328/\∀(o:Unit),True->∃(o:Unit),bE i=gz/\ap=ap/\True
def y8v (i:RN):Prop:=
 dp i.b (∃(o:Unit),bE i.iS=[]/\bE i.left=bE i.l/\i.bad=ao/\True) (dp (decide ((i.n:Int)>((bE i.l).length:Int))) (∃(o:Unit),bE i.iS=[]/\bE i.left=bE i.l/\i.bad=decide ((i.n:Int)>((bE i.l).length:Int))/\True) ((0<=(i.n:Int)/\(i.n:Int)<=((bE i.l).length:Int))/\(0<=(i.n:Int)/\(i.n:Int)<=((bE i.l).length:Int))/\∃(o:Unit),bE i.iS=ae (i.n:Int).toNat (bE i.l)/\bE i.left=af (i.n:Int).toNat (bE i.l)/\i.bad=decide ((i.n:Int)>((bE i.l).length:Int))/\True))
def y3r (i:RN):Prop:=
 ∃(a:RN),(a.n:Int)=(i.n:Int)/\aq (i4×Bool) 1 iU (a.l,a.b)=Rd i.l i.b/\(a.n<=255/\wx a.l)/\UO i a
def y1h (i:RB):Prop:=
 ∃(gz:RN),(gz.n:Int)=1/\aq (i4×Bool) 1 iU (gz.l,gz.b)=Rd i.l i.b/\(gz.n<=8/\wx gz.l)/\∀(o:Unit),True->∃(o:Unit),yX (i.n 1).iS=aj.wrap (yX gz.iS)/\aq (i4×Bool) 1 iU ((i.n 1).left,(i.n 1).bad)=aq (i4×Bool) 1 iU (gz.left,gz.bad)/\True
def y1i (i:RB):Prop:=
 ∃(gz:RN),(gz.n:Int)=8/\aq (i4×Bool) 1 iU (gz.l,gz.b)=Rd i.l i.b/\(gz.n<=8/\wx gz.l)/\∀(o:Unit),True->∃(o:Unit),aj.wrap (yX (i.n 8).iS)=aj.wrap (yX gz.iS)/\aq (i4×Bool) 1 iU ((i.n 8).left,(i.n 8).bad)=aq (i4×Bool) 1 iU (gz.left,gz.bad)/\True
def y6y (i:RB):Prop:=
 dp i.b (∃(o:Unit),(if i.b=ao then(10:Int)else if 0<i.l.length then(15:Int)else(0:Int))=10/\dl (bE i.l)/\i.b=i.b/\True) (dp (decide (((bE i.l).length:Int)>0)) (∃(o:Unit),(if i.b=ao then(10:Int)else if 0<i.l.length then(15:Int)else(0:Int))=15/\dl (bE i.l)/\i.b=i.b/\True) (∃(o:Unit),(if i.b=ao then(10:Int)else if 0<i.l.length then(15:Int)else(0:Int))=0/\dl (bE i.l)/\i.b=i.b/\True))
def vZ (a:RB):=(dI (aj.wrap (x5 a)))
def V5 (a:Bool->Prop) (b:Bool) (c:RB) (d:RB) (e:RB) (f:RB) (g:RB) (h:RB) (j:RB) (k:RB):Prop:=a b/\aq (i4×Bool) 1 iU (c.l,c.b)=aq (i4×Bool) 1 iU ((d.n 1).left,(d.n 1).bad)/\ar [V.d (vZ e),V.d (dI (yX (f.n 1).iS)),V.d (dI (yX (g.n 1).iS)),V.d (vZ h),V.d (vZ j),V.d (vZ k),V.d (D.v (.bool (yX (d.n 1).iS==1)))] 51=ar [V.d (vZ e),V.d (dI (yX (f.n 1).iS)),V.d (dI (yX (g.n 1).iS)),V.d (vZ h),V.d (vZ j),V.d (vZ k),V.d (D.v (.bool (yX (d.n 1).iS==1)))] 51/\dl (ar (Sx.V.agg [V.d (dI 0),V.d (dI 0),V.d (dI 0),V.d (dI 0),V.d (dI 0),V.d (dI 0),V.d (D.v (.bool ap))]).cl 51)
def zLd (a:Bool->Prop) (b:RB) (c:RB) (d:RB) (e:RB) (f:RB) (g:RB) (h:RB) (j:RB):Prop:=∃(k:Bool),k=ao/\V5 a k b c d e f g h j
def yUk (b:i4):Prop:=
 ∃(a:i4),bE a=bE b/\wx a/\ff (∃(d:RB),aq (i4×Bool) 1 iU (d.l,d.b)=aq (i4×Bool) 1 iU (a,ap)/\wx d.l/\ff (∃(f:RB),aq (i4×Bool) 1 iU (f.l,f.b)=aq (i4×Bool) 1 iU ((d.n 8).left,(d.n 8).bad)/\wx f.l/\ff (∃(h:RB),aq (i4×Bool) 1 iU (h.l,h.b)=aq (i4×Bool) 1 iU ((f.n 1).left,(f.n 1).bad)/\wx h.l/\ff (∃(k:RB),aq (i4×Bool) 1 iU (k.l,k.b)=aq (i4×Bool) 1 iU ((h.n 1).left,(h.n 1).bad)/\wx k.l/\ff (∃(m:RB),aq (i4×Bool) 1 iU (m.l,m.b)=aq (i4×Bool) 1 iU ((k.n 8).left,(k.n 8).bad)/\wx m.l/\ff (∃(p:RB),aq (i4×Bool) 1 iU (p.l,p.b)=aq (i4×Bool) 1 iU ((m.n 8).left,(m.n 8).bad)/\wx p.l/\ff (∃(r:RB),aq (i4×Bool) 1 iU (r.l,r.b)=aq (i4×Bool) 1 iU ((p.n 8).left,(p.n 8).bad)/\wx r.l/\ff (∃(t:Bool),∃(u:Bool->Prop),(∃(v:RB),aq (i4×Bool) 1 iU (v.l,v.b)=aq (i4×Bool) 1 iU ((r.n 1).left,(r.n 1).bad)/\wx v.l/\ff (dp ((if v.b=ao then(10:Int)else if 0<v.l.length then(15:Int)else(0:Int)) !=0) (zLd u v r d f h k m p) (dp (decide (yX (r.n 1).iS>1)) (zLd u v r d f h k m p) (dp (yX (h.n 1).iS !=1) (∃(x:Bool),x=(yX (h.n 1).iS !=2)/\V5 u x v r d f h k m p) (∃(x:Bool),x=ap/\V5 u x v r d f h k m p)))))/\∀(v:Bool),u v->dp v (dx ((xO b).fst.seq=0/\(xO b).fst.inst=0/\(xO b).fst.side=0/\(xO b).fst.dm=0/\(xO b).fst.dr=0/\(xO b).fst.count=0/\(xO b).fst.gg=ap/\(xO b).snd=12/\True)) (dx ((xO b).fst.seq=aj.wrap (x5 d)/\(xO b).fst.inst=yX (f.n 1).iS/\(xO b).fst.side=yX (h.n 1).iS/\(xO b).fst.dm=aj.wrap (x5 k)/\(xO b).fst.dr=aj.wrap (x5 m)/\(xO b).fst.count=aj.wrap (x5 p)/\(xO b).fst.gg=(yX (r.n 1).iS==1)/\(xO b).snd=0/\True))))))))))
def z7a:qk.ok Tryz.prog 138:=yBb fk λi h=>λb hb=>
 Cv.dp.mk (λe=>⟨(),hb e,trivial⟩) (λ_=>⟨by have h:i.length<=140737488355328:=h;rw[nq,Nat.mul_one];exact h,(),rfl,trivial⟩)
def yOn:M6.ok Tryz.prog 139:=gx (V:=y9c) mixed (dw z7a fk) 0 i6 i6 [] Tryz.func139 λ(i:i4) h=>by
 have h:i.length<=140737488355328:=h;exact⟨_,rfl,by rw[yW];exact h,λ_ _=>⟨(),rfl,rfl,trivial⟩⟩
def yTx:MV.ok Tryz.prog 251:=gx (V:=y8v) mixed fk 0 i6 i6 [0] Tryz.func251 λ(i:RN) h=>by
 obtain⟨h1,h2⟩:=h;have h2:i.l.length<=140737488355328:=h2;refine Cv.dp.mk (λe=> ?_) (λe=>zG (λgu=> ?_) (λgu=> ?_))
 ·have:i.bad=ao:=by simp[RN.bad,e]
  exact⟨(),by simp[RN.iS,this],by simp[RN.left,this],this,trivial⟩
 ·rw[yW]at gu;have:i.bad=ao:=by simp[RN.bad];right;omega
  exact⟨(),by simp[RN.iS,this],by simp[RN.left,this],by rw[this,yW];simp;omega,trivial⟩
 ·rw[yW]at gu;have:i.bad=ap:=by simp[RN.bad,e];omega
  rw[yW];exact⟨⟨oM,oM⟩,⟨oM,oM⟩,(),by simp[RN.iS,this,Lw],by simp[RN.left,this,lS],by rw[this];simp;omega,trivial⟩
def xCb (i:RN) (h:K5.dp i):y3r i:=by
 unfold y3r UO QO ff dx;obtain⟨h1,h2⟩:=h;refine⟨i,rfl,rfl,⟨oM,h2⟩,λ_ _=>⟨0,rfl,rfl,λj=>j<=i.iS.length,λj=>i.iS.length-j,Z9,λj hj=>zG (λgu=> ?_) (λgu=> ?_)⟩⟩
 ·dsimp only at hj;have hl:=l9 i;rw[yW]at gu ⊢;obtain⟨b,hb⟩:∃b,i.iS[j]? =aw b:=⟨_,vd oM⟩
  have e8:aj.wrap (8*(j:Int))=8*j:=iw oM;refine⟨⟨oM,oM⟩,b.toNat,dC hb,by rw[e8];omega,j+1,?_,?_,Z9,Z9,rfl⟩
  ·rw[e8,y4g,qq,hb];simp only[Bt];rw[zMf];obtain⟨r1,r2⟩:=uV (i.iS.take j);rw[nn,FG (by omega)]at r2 ⊢;obtain⟨x,hx⟩:∃x:Nat,yX (i.iS.take j)=x:=⟨(yX (i.iS.take j)).toNat,oM⟩
   rw[hx]at r2 ⊢;have:=z7s (x:=x) (b:=b.toNat) (j:=j) (by exact_mod_cast r2) b.toNat_lt oM;rw[show(8*(j:Int))=((8*j:Nat):Int)by simp,this];simp
  ·rw[iw (by omega)];rfl
 ·dsimp only at hj;rw[yW]at gu;exact⟨(),by rw[mz (by omega)],rfl,trivial⟩
def yEg:K5.ok Tryz.prog 206:=gx mixed (dw yTx fk) 0 i6 (λi=>xGv i) [] Tryz.func206 xCb
def yJp:Ji.ok Tryz.prog 141:=gx (V:=y1h) mixed (dw yEg fk) 0 i6 i6 [] Tryz.func141 λ(i:RB) h=>by
 have hl:=l9 (i.n 1);have hr:=uV (i.n 1).iS;have h0:(256:Int) ^ (i.n 1).iS.length<=256 ^ 1:=by
  have:(256:Nat) ^ (i.n 1).iS.length<=256 ^ 1:=Nat.pow_le_pow_right oM hl
  exact_mod_cast this
 exact⟨i.n 1,rfl,rfl,⟨by show 1<=8;omega,h⟩,λ_ _=>⟨(),(iw oM).symm,rfl,trivial⟩⟩
def yJv:Jg.ok Tryz.prog 140:=gx (V:=y1i) mixed (dw yEg fk) 0 i6 i6 [] Tryz.func140 λ(i:RB) h=>by
 exact⟨i.n 8,rfl,rfl,⟨by show 8<=8;omega,h⟩,λ_ _=>⟨(),rfl,rfl,trivial⟩⟩
def yRb:M3.ok Tryz.prog 142:=gx (V:=y6y) mixed fk 0 i6 i6 [0] Tryz.func142 λ(i:RB) h=>by
 refine Cv.dp.mk (λe=>⟨(),by rw[fh e],rfl,rfl,trivial⟩) (λe=>zG (λgu=>⟨(),?_,rfl,rfl,trivial⟩) (λgu=>⟨(),?_,rfl,rfl,trivial⟩))
 ·rw[yW]at gu;rw[ez (by simp[e]),fh (by omega)]
 ·rw[yW]at gu;rw[ez (by simp[e]),ez (by omega)]
def z1g {r:RB} (h:wx r.l):wx r.byte.2.l:=tm (nR _) h
def UX {r:RB} (h:wx r.l):wx r.fx.2.l:=tm (nR _) h
def y5e (b:i4) (h:GG.dp b):yUk b:=by
 have h:wx b:=h;obtain⟨r0,hr⟩:∃r0,r0=RB.mk b ap:=⟨_,rfl⟩
 have h0:wx r0.l:=by rw[hr];exact h
 have h1:=UX h0;have h2:=z1g h1;have h3:=z1g h2;have h4:=UX h3;have h5:=UX h4;have h6:=UX h5;have h7:=z1g h6;obtain⟨M,hm⟩:∃M:gi,M=⟨r0.fx.1,r0.fx.2.byte.1,r0.fx.2.byte.2.byte.1,r0.fx.2.byte.2.byte.2.fx.1,r0.fx.2.byte.2.byte.2.fx.2.fx.1,r0.fx.2.byte.2.byte.2.fx.2.fx.2.fx.1,decide (r0.fx.2.byte.2.byte.2.fx.2.fx.2.fx.2.byte.1=1)⟩:=⟨_,rfl⟩
 have uu:xO b=if r0.fx.2.byte.2.byte.2.fx.2.fx.2.fx.2.byte.2.lg≠0\/1<r0.fx.2.byte.2.byte.2.fx.2.fx.2.fx.2.byte.1\/(r0.fx.2.byte.2.byte.1≠1/\r0.fx.2.byte.2.byte.1≠2)then(EP,12)else(M,0):=by
  rw[hm,hr];rfl
 unfold yUk ff dx zLd V5 vZ x5 dI;generalize xO b=X at uu ⊢;refine⟨b,rfl,h,λ_ _=>⟨r0,by rw[hr],h0,λ_ _=>⟨r0.fx.2,rfl,h1,λ_ _=>⟨r0.fx.2.byte.2,rfl,h2,λ_ _=>⟨r0.fx.2.byte.2.byte.2,rfl,h3,λ_ _=>⟨r0.fx.2.byte.2.byte.2.fx.2,rfl,h4,λ_ _=>⟨r0.fx.2.byte.2.byte.2.fx.2.fx.2,rfl,h5,λ_ _=>⟨r0.fx.2.byte.2.byte.2.fx.2.fx.2.fx.2,rfl,h6,λ_ _=>⟨ap,λx=>x=decide (r0.fx.2.byte.2.byte.2.fx.2.fx.2.fx.2.byte.2.lg≠0\/1<r0.fx.2.byte.2.byte.2.fx.2.fx.2.fx.2.byte.1\/(r0.fx.2.byte.2.byte.1≠1/\r0.fx.2.byte.2.byte.1≠2)),⟨r0.fx.2.byte.2.byte.2.fx.2.fx.2.fx.2.byte.2,rfl,h7,λ_ _=> ?_⟩,?_⟩⟩⟩⟩⟩⟩⟩⟩⟩
 ·refine Cv.dp.mk (λe=>⟨ao,rfl,(jo (.inl ((bne_iff_ne (a:=r0.fx.2.byte.2.byte.2.fx.2.fx.2.fx.2.byte.2.lg) (b:=0)).1 e))).symm,rfl,gn⟩) (λe=>zG (λe2=>⟨ao,rfl,(jo (.inr (.inl e2))).symm,rfl,gn⟩) (λe2=>Cv.dp.mk (λe3=>⟨_,rfl,?_,rfl,gn⟩) (λe3=>⟨_,rfl,?_,rfl,gn⟩)))
  ·have e:¬r0.fx.2.byte.2.byte.2.fx.2.fx.2.fx.2.byte.2.lg≠0:=not_not_intro ((bne_eq_false_iff_eq (a:=r0.fx.2.byte.2.byte.2.fx.2.fx.2.fx.2.byte.2.lg) (b:=0)).1 e);have e3:r0.fx.2.byte.2.byte.1≠1:=(bne_iff_ne (a:=r0.fx.2.byte.2.byte.1) (b:=1)).1 e3;show(r0.fx.2.byte.2.byte.1 !=2)=decide _;rw[CF,decide_eq_true_iff,bne_iff_ne];exact⟨λx=> .inr (.inr ⟨e3,x⟩),λx=>((x.resolve_left e).resolve_left e2).2⟩
  ·have e:¬r0.fx.2.byte.2.byte.2.fx.2.fx.2.fx.2.byte.2.lg≠0:=not_not_intro ((bne_eq_false_iff_eq (a:=r0.fx.2.byte.2.byte.2.fx.2.fx.2.fx.2.byte.2.lg) (b:=0)).1 e);have e3:r0.fx.2.byte.2.byte.1=1:=(bne_eq_false_iff_eq (a:=r0.fx.2.byte.2.byte.1) (b:=1)).1 e3;exact(jv λx=>((x.resolve_left e).resolve_left e2).1 e3).symm
 rintro _ rfl;refine zG (λe=> ?_) (λe=> ?_)
 ·rw[fh e]at uu;rw[uu];exact⟨(),iA trivial⟩
 ·rw[ez e]at uu;rw[uu,hm];exact⟨(),iA trivial⟩
def yNc:GG.ok Tryz.prog 65:=gx mixed (dw yOn (dw yJp (dw yJv (dw yRb fk)))) 0 (λ_=>xGl) i6 [] Tryz.func65 y5e
@[reducible] def J':Nat:=44
def iZ (l:i4):List D:=[.ro 1 (bE l)]
def B0:gh:=fp Nat (λn=>[.d (.v (.slice ax 0 0)),zB n]) i6 (λn=>1<=n/\n<=1099511627776) (λ_=> .own 0) (λ_=>[.own FJ 1 []])
def yf:gh:=fp (Q_ UInt8) (λls=>[ow 1 (ls.map iZ)]) i6 (λls=>1<=ls.flatten.length/\ls.flatten.length<=1099511627776/\ls.length<=1000) (λ_=> .own 0) (λls=>[.own FJ 1 (bE ls.flatten)])
def y2n (ls:Q_ UInt8):List gr:=[
 {ι:=Nat,du:=λk=>[(3,zB (ls.take k).flatten.length),(11,zB k)],rows:=λ_=>[]},
 {ι:=Nat,du:=λk=>[(6,.own 0),(27,zB k)],rows:=λk=>[.own FJ 1 (bE (ls.take k).flatten)]}]
structure Dk where
 b:i4
 safe:Nat
def YA (d:Dk):Nat->fq
 |0=> .cells [.own 1,zB d.safe] 218
 |1=> .own FJ 1 (bE d.b)
 |_=> .gone
def lz (d:Dk):fq:= .rh Dk 2 YA d
@[reducible] def Dk.ok (d:Dk):Prop:=d.safe<=d.b.length/\d.b.length<=1048576
structure Kw where
 d:Dk
 l:i4
def Uv:gh:=fp Unit i6 i6 (λ_=>True) (λ_=> .nm 0 0) (λ_=>[lz ⟨[],0⟩])
def Uz:gh:=fp Kw (λi=>[.nm 0 0,ow 1 (bE i.l)]) (λi=>[lz i.d]) (λi=>i.d.b.length+i.l.length<=1048576) (λ_=>zB 0) (λi=>[lz ⟨i.d.b++i.l,i.d.safe⟩])
def Uy:gh:=fp Dk (λ_=>[.nm 0 0]) (λd=>[lz d]) (λd=>d.ok) (λ_=> .own 1) (λd=>[lz d,.own FJ 1 (bE d.b)])
def sx:gh:=fp (Q_ D) (λl=>[ow 1 l]) i6 (λl=>l.length<=140737488355328) (λ_=> .own 0) (λl=>[.own FJ 1 l])
def Us:gh:=fp Kw (λi=>[.nm 0 0,ow 1 (bE i.l)]) (λi=>[lz i.d]) (λi=>i.l.length<=1048576) (λ_=>zB 0) (λi=>[lz ⟨i.l,i.l.length⟩])
def jH (l:i4):i4:=iY l.length::UInt8.ofNat (255-l.length)::(l++le (dP l) 4)
def GL:gh:=fp i4 (λl=>[ow 1 (bE l)]) i6 (λl=>l.length<=255) (λ_=> .je [.own 0,zB 0]) (λl=>[.own FJ 1 (bE (jH l))])
def y4o:List (Nat×gr):=[(20,{ι:=Unit,du:=λ_=>[],rows:=λ_=>[],Ds:=[4]})]
def Cx (l:i4):i4×Nat×Int:=
 if l.length<2 then([],0,10)else if(l.getD 1 0).toNat≠255-(l.getD 0 0).toNat then([],0,14)else
 if l.length<6+(l.getD 0 0).toNat then([],0,10)else
 if yX ((l.drop (2+(l.getD 0 0).toNat)).take 4)≠dP ((l.drop 2).take (l.getD 0 0).toNat)then([],0,14)else
 ((l.drop 2).take (l.getD 0 0).toNat,6+(l.getD 0 0).toNat,0)
structure F6 where
 b:i4
 k:Nat
def F6.x (i:F6):i4×Nat×Int:=Cx (i.b.drop i.k)
def LS:V:= .d (.v (.slice ax 0 0))
def SR:gh where
 ι:=F6
 pat:=λi=>[ow 1 (bE i.b),zB i.k]
 pre:=λ_=>[]
 dp:=λi=>i.k<=i.b.length/\i.b.length<=1099511627776
 alts:=λi=>[{o:=Unit,res:=λ_=> .je [.own 0,zB (i.k+i.x.2.1),zB 0],post:=λ_=>[.own FJ 1 (bE i.x.1)],rel:=λ_=>i.x.2.2=0},
  {o:=Unit,res:=λ_=> .je [LS,zB 0,zB i.x.2.2],post:=λ_=>[],rel:=λ_=>i.x.2.2≠0}]
def oU (L:Q_ UInt8):i4:=L.flatMap jH
structure Eo where
 L:Q_ UInt8
 t:i4
@[reducible] def Eo.ok (i:Eo):Prop:=(∀l∈i.L,l.length<=255)/\(Cx i.t).2.2=10/\(oU i.L).length+i.t.length<=1048576
@[reducible] def Eh (L:Q_ UInt8):fq:= .own J' 1 (L.map iZ)
def KG:gh:=fp Eo (λi=>[ow 1 (bE (oU i.L++i.t))]) i6 (λi=>i.ok) (λi=> .je [.own 0,zB (oU i.L).length,zB 0]) (λi=>[Eh i.L])
def xEg (i:Eo):List gr:=[{ι:=Nat,du:=λk=>[(5,.own 0),(6,zB (oU (i.L.take k)).length)],rows:=λk=>[Eh (i.L.take k)]}]
def L7 (d:Nat) (n:Int):fq:= .cells [.nm d 0,zB n] 235
structure Cu where
 s:Nat
 L:Q_ UInt8
 t:i4
def Cu.d (i:Cu):Dk:=⟨oU i.L++i.t,i.s⟩
def Cu.d' (i:Cu):Dk:=if i.t=[]then i.d else⟨oU i.L,(oU i.L).length⟩
def aax:gh:=fp Cu (λ_=>[.nm 0 0]) (λi=>[lz i.d]) (λi=>(Eo.mk i.L i.t).ok/\i.d.ok) (λ_=> .je [.nm 1 0,.own 2,zB 0]) (λi=>[lz i.d',L7 0 i.L.length,Eh i.L])
structure Yx where
 d:Dk
 n:Int
 l:i4
def T3:gh:=fp Yx (λi=>[.nm 0 0,ow 1 (bE i.l)]) (λi=>[L7 1 i.n,lz i.d]) (λi=>i.l.length<=255/\i.d.b.length+i.l.length+6<=1048576/\0<=i.n/\i.n<=1048576) (λ_=>zB 0) (λi=>[L7 1 (i.n+1),lz ⟨i.d.b++jH i.l,i.d.safe⟩])
def mR (a:Nat) (b:Q_ UInt8):=((ae a b).flatten.length:Int)
def Xq (ls:Q_ UInt8):Prop:=
 ∃(a:Nat),(mR a ls)=0/\(a:Int)=0/\∃(b:Nat->Prop),∃(c:Nat->Nat),b a/\∀(d:Nat),b d->dp (decide ((d:Int)<((ab iZ ls).length:Int))) ((0<=(d:Int)/\(d:Int)<((ab iZ ls).length:Int))/\∃(e:Q_ D),zD (ab iZ ls) (d:Int).toNat 0 1=aw [D.ro 1 e]/\dp (decide (aj.wrap ((mR d ls)+(e.length:Int))<0)) False (∃(f:Nat),(mR f ls)=aj.wrap ((mR d ls)+(e.length:Int))/\kL f d b c)) (∃(e:Nat),True/\(e:Int)=(mR d ls)/\(1<=e/\e<=1099511627776)/\ff (∃(g:Nat),(g:Int)=0/\bE (ae g ls).flatten=[]/\∃(h:Nat->Prop),∃(j:Nat->Nat),h g/\∀(k:Nat),h k->dp (decide ((k:Int)<((ab iZ ls).length:Int))) ((0<=(k:Int)/\(k:Int)<((ab iZ ls).length:Int))/\∃(l:Q_ D),zD (ab iZ ls) (k:Int).toNat 0 1=aw [D.ro 1 l]/\((bE (ae k ls).flatten).length+l.length)*(1:Nat)<=(140737488355328:Nat)/\∃(m:Nat),(m:Int)=aj.wrap ((k:Int)+1)/\bE (ae m ls).flatten=bE (ae k ls).flatten++l/\h m/\j m<j k/\True) (dx (bE ls.flatten=bE (ae k ls).flatten/\True))))
def y6m (ls:Q_ UInt8):Xq ls=walk Tryz.prog ([(134,B0)]) 0 ([]) (y2n ls) [] Tryz.f58 (Tryz.f58.body.getD .skip) (yf.pat ls) (yf.pre ls) (yf.alts ls):=by kernel_rfl
def y9o (hG:zf Tryz.prog ([(134,B0)])) (h:∀(ls:Q_ UInt8),yf.dp ls->Xq ls):yf.ok Tryz.prog 58:=qY mixed ([(134,B0)]) hG 0 (λ(ls:Q_ UInt8)=>[]) (λ(ls:Q_ UInt8)=>y2n ls) [] Tryz.func58 (by kernel_rfl) (by kernel_rfl) (by kernel_rfl) (λ_=>by kernel_rfl) (λ(ls:Q_ UInt8) hc=>Eq.mp (y6m ls) (h ls hc))
def xCd (u:Unit):Prop:=
 ∃(o:Unit),((0:Nat):Int)=0/\bE []=[]/\True
def y2e (i:Kw):Prop:=
 dp (decide (((bE i.l).length:Int)>aj.wrap (1048576-((bE i.d.b).length:Int)))) (dx ((0:Int)=(13:Int)/\dl ((i.d.safe:Int))/\bE (i.d.b++i.l)=bE i.d.b/\True)) (((bE i.d.b).length+(bE i.l).length)*(1:Nat)<=(140737488355328:Nat)/\dx (dl ((0:Int))/\dl ((i.d.safe:Int))/\bE (i.d.b++i.l)=bE i.d.b++bE i.l/\True))
def xDa (d:Dk):Prop:=
 ∃(i:Q_ D),i=bE d.b/\i.length*(1:Nat)<=(140737488355328:Nat)/\∀(o:Unit),True->∃(o:Unit),dl ((d.safe:Int))/\bE d.b=i/\bE d.b=i/\True
def z6v (i:Q_ D):Prop:=
 ∀(b:Bool),(b=ao->i=[])->dp b (∃(o:Unit),i=[]/\True) ((0+i.length)*(1:Nat)<=(140737488355328:Nat)/\∃(o:Unit),i=[]++i/\True)
def yLz (i:Q_ D):z6v i=walk Tryz.prog ([]) 0 ([]) ([]) [] Tryz.f138 (Tryz.f138.body.getD .skip) (sx.pat i) (sx.pre i) (sx.alts i):=by kernel_rfl
def yJi (hG:zf Tryz.prog ([])) (h:∀(i:Q_ D),sx.dp i->z6v i):sx.ok Tryz.prog 138:=qY mixed ([]) hG 0 (λ(i:Q_ D)=>[]) (λ(i:Q_ D)=>[]) [] Tryz.func138 (by kernel_rfl) (by kernel_rfl) (by kernel_rfl) (λ_=>by kernel_rfl) (λ(i:Q_ D) hc=>Eq.mp (yLz i) (h i hc))
def y3d (i:Kw):Prop:=
 dp (decide (((bE i.l).length:Int)>1048576)) (dx ((0:Int)=(13:Int)/\(i.l.length:Int)=(i.d.safe:Int)/\bE i.l=bE i.d.b/\True)) (∃(a:Q_ D),a=bE i.l/\a.length<=140737488355328/\ff (dx (dl ((0:Int))/\(i.l.length:Int)=(a.length:Int)/\bE i.l=a/\True)))
def yNj (l:i4):Prop:=
 dp (decide (((bE l).length:Int)>255)) (dx ((0:Int)=(3:Int)/\bE (jH l)=[]/\True)) (dx (True/\ff (∃(c:WN),c.n=((bE l).length:Int)/\aq i4 2 ku c.l=aq i4 2 ku []/\c.ok/\ff (∃(e:WN),e.n=aj.wrap ((az aj.bits (if aj.signed=ao then(-1:Int)else aj.max) ^^^ az aj.bits ((bE l).length:Int)).toNat:Int)/\aq i4 2 ku e.l=aq i4 2 ku (c.l++[iY c.n])/\e.ok/\ff (((bE (e.l++[iY e.n])).length+(bE l).length)*(1:Nat)<=(140737488355328:Nat)/\∃(g:i4),bE g=bE l/\g.length<=1099511627776/\ff (∃(j:WN),j.n=dP g/\bE j.l=bE (e.l++[iY e.n])++bE l/\(j.l.length+(8:Nat)<=(1099511627776:Nat)/\0<=j.n/\j.n<4294967296)/\ff (∃(m:i4),aq i4 2 ku m=aq i4 2 ku (j.l++le j.n 4)/\m.length<=1099511627776/\ff (dx (dl ((0:Int))/\bE (jH l)=bE m/\True)))))))))
def nV (a:F6):=(af (a.k:Int).toNat (bE a.b))
def aM (a:F6):=((nV a).length:Int)
def cC (a:Int):=(2+aj.wrap a)
def ZM (a:Int) (b:F6):Prop:=(0:Int)<=(2:Int)/\2<=aj.wrap (cC a)/\aj.wrap (cC a)<=(aM b)
def Vi (a:Int) (b:F6):=(ae (aj.wrap (cC a)).toNat (nV b))
def PR (a:Int):=(aj.wrap (cC a)+4)
def xDq (i:F6):Prop:=
 dp (decide ((i.k:Int)>((bE i.b).length:Int))) ((dx ((i.k:Int)+(i.x.snd.fst:Int)=(0:Int)/\(0:Int)=1/\bE i.x.fst=[]/\i.x.snd.snd=0))\/(dx (True/\dl ((0:Int))/\i.x.snd.snd=1/\(i.x.snd.snd=0->False)))) ((0<=(i.k:Int)/\(i.k:Int)<=((bE i.b).length:Int))/\dp (decide ((aM i)<2)) ((dx ((i.k:Int)+(i.x.snd.fst:Int)=(0:Int)/\(0:Int)=10/\bE i.x.fst=[]/\i.x.snd.snd=0))\/(dx (True/\dl ((0:Int))/\i.x.snd.snd=10/\(i.x.snd.snd=0->False)))) (((0:Int)<=(1:Int)/\1<(aM i))/\∃(a:Int),zD (nV i) (ay 1) 0 1=aw [D.v (.int .u8 a)]/\((0:Int)<=(0:Int)/\0<(aM i))/\∃(b:Int),zD (nV i) (ay 0) 0 1=aw [D.v (.int .u8 b)]/\dp (a !=ak.wrap ((az ak.bits (if ak.signed=ao then(-1:Int)else ak.max) ^^^ az ak.bits b).toNat:Int)) ((dx ((i.k:Int)+(i.x.snd.fst:Int)=(0:Int)/\(0:Int)=14/\bE i.x.fst=[]/\i.x.snd.snd=0))\/(dx (True/\dl ((0:Int))/\i.x.snd.snd=14/\(i.x.snd.snd=0->False)))) (((0:Int)<=(0:Int)/\0<(aM i))/\∃(c:Int),zD (nV i) (ay 0) 0 1=aw [D.v (.int .u8 c)]/\dp (decide ((aM i)<aj.wrap (PR c))) ((dx ((i.k:Int)+(i.x.snd.fst:Int)=(0:Int)/\(0:Int)=10/\bE i.x.fst=[]/\i.x.snd.snd=0))\/(dx (True/\dl ((0:Int))/\i.x.snd.snd=10/\(i.x.snd.snd=0->False)))) ((0<=aj.wrap (cC c)/\aj.wrap (cC c)<=aj.wrap (PR c)/\aj.wrap (PR c)<=(aM i))/\∃(d:i4),bE d=af (aj.wrap (cC c)).toNat (ae (aj.wrap (PR c)).toNat (nV i))/\d.length<=1099511627776/\ff ((ZM c i)/\∃(f:RN),(f.n:Int)=4/\aq (i4×Bool) 1 iU (f.l,f.b)=aq (i4×Bool) 1 iU (d,ap)/\(f.n<=8/\f.l.length<=1099511627776)/\ff (∃(h:i4),bE h=af (ay 2) (Vi c i)/\h.length<=1099511627776/\ff (dp (am.wrap (yX f.iS) !=dP h) ((dx ((i.k:Int)+(i.x.snd.fst:Int)=(0:Int)/\(0:Int)=14/\bE i.x.fst=[]/\i.x.snd.snd=0))\/(dx (True/\dl ((0:Int))/\i.x.snd.snd=14/\(i.x.snd.snd=0->False)))) ((ZM c i)/\(0+(af (ay 2) (Vi c i)).length)*(1:Nat)<=(140737488355328:Nat)/\((dx ((i.k:Int)+(i.x.snd.fst:Int)=aj.wrap (aj.wrap ((i.k:Int)+aj.wrap (cC c))+4)/\dl ((0:Int))/\bE i.x.fst=[]++af (ay 2) (Vi c i)/\i.x.snd.snd=0))\/(dx (False)))))))))))
def dB (a:Nat) (b:Eo):=((oU (ae a b.L)).length:Int)
def zLq (a:Eo) (b:Nat):Prop:=dx (((oU a.L).length:Int)=(dB b a)/\dl ((0:Int))/\ab iZ a.L=ab iZ (ae b a.L)/\True)
def y2w (i:Eo):Prop:=
 ∃(a:Nat),(dB a i)=0/\ab iZ (ae a i.L)=[]/\∃(b:Nat->Prop),∃(c:Nat->Nat),b a/\∀(d:Nat),b d->dp (decide ((dB d i)<((bE (oU i.L++i.t)).length:Int))) (∃(e:F6),bE e.b=bE (oU i.L++i.t)/\(e.k:Int)=(dB d i)/\(e.k<=e.b.length/\e.b.length<=1099511627776)/\(∀(f:Unit),e.x.snd.snd=0->((ab iZ (ae d i.L)).length+1)*(24:Nat)<=(140737488355328:Nat)/\∃(g:Nat),(dB g i)=(e.k:Int)+(e.x.snd.fst:Int)/\ab iZ (ae g i.L)=ab iZ (ae d i.L)++[[D.ro 1 (bE e.x.fst)]]/\b g/\c g<c d/\True)/\∀(f:Unit),e.x.snd.snd≠0->dp (e.x.snd.snd==0) (((ab iZ (ae d i.L)).length+1)*(24:Nat)<=(140737488355328:Nat)/\∃(g:Nat),(dB g i)=0/\ab iZ (ae g i.L)=ab iZ (ae d i.L)++[[D.ro 1 []]]/\b g/\c g<c d/\True) (dp (e.x.snd.snd==10) (zLq i d) (dx (((oU i.L).length:Int)=(dB d i)/\(0:Int)=(14:Int)/\ab iZ i.L=ab iZ (ae d i.L)/\True)))) (zLq i d)
def xFh (i:Cu):Prop:=
 ∃(a:Dk),lz a=lz i.d/\(a.safe<=a.b.length/\a.b.length<=1048576)/\ff (∃(c:Eo),bE (oU c.L++c.t)=bE a.b/\((∀(d:i4),d∈c.L->d.length<=255)/\(Cx c.t).snd.snd=10/\(oU c.L).length+c.t.length<=1048576)/\ff (dp (decide (((oU c.L).length:Int)<((bE a.b).length:Int))) ((0<=((oU c.L).length:Int)/\((oU c.L).length:Int)<=((bE a.b).length:Int))/\∃(e:Kw),bE e.l=ae ((oU c.L).length:Int).toNat (bE a.b)/\lz e.d=lz a/\e.l.length<=1048576/\ff (dx (dl ((0:Int))/\lz i.d'=lz (Dk.mk e.l e.l.length)/\(i.L.length:Int)=((ab iZ c.L).length:Int)/\ab iZ i.L=ab iZ c.L/\True))) (dx (dl ((0:Int))/\lz i.d'=lz a/\(i.L.length:Int)=((ab iZ c.L).length:Int)/\ab iZ i.L=ab iZ c.L/\True))))
def xDo (i:Yx):Prop:=
 ∃(gz:i4),bE gz=bE i.l/\gz.length<=255/\∀(o:Unit),True->∃(mf:Kw),bE mf.l=bE (jH gz)/\aq Dk 2 YA mf.d=lz i.d/\mf.d.b.length+mf.l.length<=1048576/\∀(o:Unit),True->∃(o:Unit),dl ((0:Int))/\i.n+1=aj.wrap (i.n+1)/\aq Dk 2 YA (Dk.mk (i.d.b++jH i.l) i.d.safe)=aq Dk 2 YA (Dk.mk (mf.d.b++mf.l) mf.d.safe)/\True
end Sx
