/- Texts of ours. No condition. -/
import Derived.Test.YtgmmlhddihaocaaGreatF11
set_option linter.all false
open List renaming map->ab,findIdx?->ac,take->ae,drop->af,length->ag
open Go.IntKind renaming i64->aj,u8->ak,u32->am
open Bool renaming true->ao,false->ap
open Sx.fj renaming ra->aq,cells->ar,own->au,kg->av
open Option renaming some->aw,none->ax
open Int renaming toNat->ay
open BitVec renaming ofInt->az
namespace Sx
set_option maxRecDepth 100000
open Go Cv Go.Proofs
def y1a (i:List (List D)):Prop:=
 ∀(b:Bool),(b=ao->i=[])->dp b (∃(o:Unit),i=[]/\True) ((0+i.length)*(112:Nat)<=(140737488355328:Nat)/\∃(o:Unit),i=[]++i/\True)
def y4c (i:List (List D)):y1a i=walk Tryz.prog ([]) 0 ([]) ([]) [] Tryz.f150 (Tryz.f150.body.getD .skip) (Ae.pat i) (Ae.pre i) (Ae.alts i):=by kernel_rfl
def y5x (hG:zd Tryz.prog ([])) (h:∀(i:List (List D)),Ae.dp i->y1a i):Ae.ok Tryz.prog 150:=qY mixed ([]) hG 0 (λ(i:List (List D))=>[]) (λ(i:List (List D))=>[]) [] Tryz.func150 (by kernel_rfl) (by kernel_rfl) (by kernel_rfl) (λ_=>by kernel_rfl) (λ(i:List (List D)) hc=>Eq.mp (y4c i) (h i hc))
def y0m (i:List (List D)):Prop:=
 ∀(b:Bool),(b=ao->i=[])->dp b (∃(o:Unit),i=[]/\True) ((0+i.length)*(24:Nat)<=(140737488355328:Nat)/\∃(o:Unit),i=[]++i/\True)
def y6m (i:List (List D)):y0m i=walk Tryz.prog ([]) 0 ([]) ([]) [] Tryz.f151 (Tryz.f151.body.getD .skip) (Ai.pat i) (Ai.pre i) (Ai.alts i):=by kernel_rfl
def y8o (hG:zd Tryz.prog ([])) (h:∀(i:List (List D)),Ai.dp i->y0m i):Ai.ok Tryz.prog 151:=qY mixed ([]) hG 0 (λ(i:List (List D))=>[]) (λ(i:List (List D))=>[]) [] Tryz.func151 (by kernel_rfl) (by kernel_rfl) (by kernel_rfl) (λ_=>by kernel_rfl) (λ(i:List (List D)) hc=>Eq.mp (y6m i) (h i hc))
def zHk (a:Nat->Prop) (b:Nat) (c:Nat->Nat) (d:Nat) (e:oX):Prop:=a b/\c b<c d/\dl (ar ob.cl 89)/\dl (av 10 (ab zA e.v))
def lH (a:oX) (b:Nat) (c:List (List D)) (d:Nat->Prop) (e:Nat->Nat) (f:Nat):Prop:=(bif decide (a.n<b)then a.lv else[])=c/\zHk d b e f a
def fQ (a:oX) (b:Nat) (c:List (List D)):=(zJ (ab zA a.v) (↑b:Int).toNat 0 [D.ro 3 c])
def lR (a:Nat) (b:oX) (c:List (List D)):Prop:=0<=(↑a:Int)/\(↑a:Int)<(↑(fQ b a c).length:Int)
def fU (a:Nat) (b:oX):Prop:=0<=(↑a:Int)/\(↑a:Int)<(↑(ab zA b.v).length:Int)
def ySp (i:oX):Prop:=
 ∃(a:List (List D)),a=ab zA i.v/\a.length*(112:Nat)<=(140737488355328:Nat)/\fa (∃(c:Nat),(↑c:Int)=0/\(ab zA i.v=a/\decide (i.n<c)=ap)/\(bif decide (i.n<c)then i.lv else[])=[]/\∃(d:Nat->Prop),∃(e:Nat->Nat),d c/\∀(f:Nat),d f->dp (decide ((↑f:Int)<(↑a.length:Int))) ((fU f i)/\∃(g:List (List D)),zD (ab zA i.v) (↑f:Int).toNat 0 1=aw [D.ro 3 g]/\(i.f<10/\(decide (i.n<f)=ao->(↑f:Int).toNat=i.n->(0:Nat)+(1:Nat)<=i.f\/i.f<0))/\(fU f i)/\∃(h:List (List D)),h=g/\h.length*(24:Nat)<=(140737488355328:Nat)/\fa (((fU f i)/\dl ((↑f:Int).toNat))/\True/\((↑f:Int).toNat<(ab zA i.v).length/\(0:Nat)<(10:Nat))/\((↑f:Int).toNat=i.n->0=i.f->(fU f i)/\∃(k:List (List D)),zD (ab zA i.v) (↑f:Int).toNat 5 1=aw [D.ro 3 k]/\(i.f<10/\(ao=ao->(↑f:Int).toNat=i.n->(5:Nat)+(1:Nat)<=i.f\/i.f<5))/\(fU f i)/\∃(l:List (List D)),l=k/\l.length*(24:Nat)<=(140737488355328:Nat)/\fa (((fU f i)/\dl ((↑f:Int).toNat))/\True/\((↑f:Int).toNat<(ab zA i.v).length/\(5:Nat)<(10:Nat))/\((↑f:Int).toNat=i.n->5=i.f->∃(n:Nat),(↑n:Int)=aj.wrap ((↑f:Int)+1)/\(dl (ab zA i.v)/\i.n=i.n/\i.f=i.f/\decide (i.n<n)=ao)/\lH i n l d e f)/\i.f<10/\(¬((↑f:Int).toNat=i.n/\5=i.f)->dl (py.mk ap vO 10 (ab zA i.v) i.n i.f ao (aw ((0:Nat)+(1:Nat)+(1:Nat)+(1:Nat)+((1:Nat)-(0:Nat))+(1:Nat)+(3:Nat)+nat_lit 0)))/\∃(n:Nat),(↑n:Int)=aj.wrap ((↑f:Int)+1)/\(ab zA i.v=zJ (ab zA i.v) (↑f:Int).toNat 5 [D.ro 3 l]/\i.n=i.n/\i.f=i.f/\decide (i.n<n)=ao)/\lH i n h d e f)))/\i.f<10/\(¬((↑f:Int).toNat=i.n/\0=i.f)->dl (py.mk ap vO 10 (ab zA i.v) i.n i.f (decide (i.n<f)) (oN (aT (λ(x:Nat) ↦ ap) ((0:Nat)+(1:Nat)+(1:Nat)+(1:Nat)+((1:Nat)-(0:Nat))+1) [((2:Nat),(0:Nat)+(1:Nat)+(1:Nat)+(1:Nat)+((1:Nat)-(0:Nat))),((1:Nat),(0:Nat)+(1:Nat)+(1:Nat)+(1:Nat)+nat_lit 0),((0:Nat),(0:Nat)+(1:Nat))] 0 [ar [V.own 1] (89:TypeId),fj.ug ap vO 10 (ab zA i.v) i.n i.f (decide (i.n<c)) (aw 2),au EO 3 (bif decide (i.n<c)then i.lv else[])]) (aw 2)))/\(lR f i h)/\∃(k:List (List D)),zD (fQ i f h) (↑f:Int).toNat 5 1=aw [D.ro 3 k]/\(i.f<10/\(decide (i.n<f)=ao->(↑f:Int).toNat=i.n->(5:Nat)+(1:Nat)<=i.f\/i.f<5))/\(lR f i h)/\∃(l:List (List D)),l=k/\l.length*(24:Nat)<=(140737488355328:Nat)/\fa (((lR f i h)/\dl ((↑f:Int).toNat))/\True/\((↑f:Int).toNat<(fQ i f h).length/\(5:Nat)<(10:Nat))/\((↑f:Int).toNat=i.n->5=i.f->∃(n:Nat),(↑n:Int)=aj.wrap ((↑f:Int)+1)/\(ab zA i.v=zJ (ab zA i.v) (↑f:Int).toNat 0 [D.ro 3 h]/\i.n=i.n/\i.f=i.f/\decide (i.n<n)=ao)/\lH i n l d e f)/\i.f<10/\(¬((↑f:Int).toNat=i.n/\5=i.f)->dl (py.mk ap vO 10 (fQ i f h) i.n i.f (decide (i.n<f)) (oN (aT (λ(x:Nat) ↦ ap) ((0:Nat)+(1:Nat)+(1:Nat)+(1:Nat)+((1:Nat)-(0:Nat))+1) [((2:Nat),(0:Nat)+(1:Nat)+(1:Nat)+(1:Nat)+((1:Nat)-(0:Nat))),((1:Nat),(0:Nat)+(1:Nat)+(1:Nat)+(1:Nat)+nat_lit 0),((0:Nat),(0:Nat)+(1:Nat))] 0 [ar [V.own 1] (89:TypeId),fj.ug ap vO 10 (ab zA i.v) i.n i.f (decide (i.n<c)) (aw 2),au EO 3 (bif decide (i.n<c)then i.lv else[])]) (aw 2)))/\∃(n:Nat),(↑n:Int)=aj.wrap ((↑f:Int)+1)/\(ab zA i.v=zJ (fQ i f h) (↑f:Int).toNat 5 [D.ro 3 l]/\i.n=i.n/\i.f=i.f/\decide (i.n<n)=decide (i.n<f))/\((bif decide (i.n<n)then i.lv else[])=bif decide (i.n<f)then i.lv else[])/\zHk d n e f i))))) (dx ((dl (ab zA i.v)/\i.n=i.n/\i.f=i.f/\ao=decide (i.n<f))/\(i.lv=bif decide (i.n<f)then i.lv else[])/\True)))
def z8k (i:Me):Prop:=
 dp (decide (i.m.inst<0)) (dx (gh.iL i.k i.m=20/\True)) (dp (decide (i.m.inst>=i.k)) (dx (gh.iL i.k i.m=20/\True)) (dp (i.m.side !=1) (dp (i.m.side !=2) (dx (gh.iL i.k i.m=21/\True)) (dp (decide (i.m.dr<0)) (dx (gh.iL i.k i.m=24/\True)) (dp (decide (i.m.count<0)) (dx (gh.iL i.k i.m=24/\True)) (dp (!(i.m.dr==0)==(i.m.count==0)) (dx (gh.iL i.k i.m=24/\True)) (dx (gh.iL i.k i.m=0/\True)))))) (dp (decide (i.m.dr<0)) (dx (gh.iL i.k i.m=24/\True)) (dp (decide (i.m.count<0)) (dx (gh.iL i.k i.m=24/\True)) (dp (!(i.m.dr==0)==(i.m.count==0)) (dx (gh.iL i.k i.m=24/\True)) (dx (gh.iL i.k i.m=0/\True)))))))
def sK (a:vp):Prop:=ab ic a.L=ab ic a.L/\dl a.m.seq/\dl a.m.inst/\dl a.m.side/\dl a.m.dm/\dl a.m.dr/\dl a.m.count/\dl a.m.fx/\True
def VB (a:Nat) (b:Nat->Prop) (c:Nat->Nat) (d:vp):Prop:=∃(e:Nat),QP e a b c (dl (au EO 3 (ab ic d.L))/\dl (P' d.m))
def xBv (i:vp):Prop:=
 ∃(a:Nat),(↑a:Int)=0/\∃(b:Nat->Prop),∃(c:Nat->Nat),b a/\∀(d:Nat),b d->dp (decide ((↑d:Int)<(↑(ab ic i.L).length:Int))) ((0<=(↑d:Int)/\(↑d:Int)<(↑(ab ic i.L).length:Int))/\∃(e:Int),∃(f:Int),∃(g:Int),zD (ab ic i.L) (↑d:Int).toNat 0 3=aw [dI e,dI f,dI g]/\dp (e==i.m.dm) (dx (oI (ac (λ(y:Lv) ↦ decide (y.dm=i.m.dm)) i.L)=(↑d:Int)/\sK i)) (VB d b c i)) (dx (oI (ac (λ(y:Lv) ↦ decide (y.dm=i.m.dm)) i.L)=(-1)/\sK i))
def xAm (i:vp):Prop:=
 ∃(a:Nat),(↑a:Int)=0/\∃(b:Nat->Prop),∃(c:Nat->Nat),b a/\∀(d:Nat),b d->dp (decide ((↑d:Int)<(↑(ab ic i.L).length:Int))) ((0<=(↑d:Int)/\(↑d:Int)<(↑(ab ic i.L).length:Int))/\∃(e:Int),∃(f:Int),∃(g:Int),zD (ab ic i.L) (↑d:Int).toNat 0 3=aw [dI e,dI f,dI g]/\∃(h:I3),h.side=i.m.side/\h.x=i.m.dm/\h.y=e/\True/\fa (dp (xH h.side h.x h.y) (dx (oI (ac (λ(y:Lv) ↦ xH i.m.side i.m.dm y.dm) i.L)=(↑d:Int)/\sK i)) (VB d b c i))) (dx (oI (ac (λ(y:Lv) ↦ xH i.m.side i.m.dm y.dm) i.L)=(-1)/\sK i))
def U3 (a:oX):Prop:=a.n<ag a.v/\ag a.v<=1000000/\ag a.v<=1099511627776/\∀(b:Sd×Sd),b∈a.v->qK b
def wB:=(oN (Hn 0 ((0:Nat)+(1:Nat)+(1:Nat)+(1:Nat)+1+((0:Nat)-(0:Nat))) ((2:Nat)-(0:Nat)) []) (aw 1))
def qU (a:El):=(decide (a.m.dr>0))
@[reducible] def Qi (a b:vp)(R:Prop):Prop:=ab ic a.L=ab ic b.L/\a.m.seq=b.m.seq/\a.m.inst=b.m.inst/\a.m.side=b.m.side/\a.m.dm=b.m.dm/\a.m.dr=b.m.dr/\a.m.count=b.m.count/\a.m.fx=b.m.fx/\a.L.length<=1099511627776/\R
@[reducible] def Qm (a:Int)(b:oX)(R:Prop):Prop:=(a.toNat=b.n/\0=b.f/\ao=ao/\a.toNat<(ab zA b.v).length/\(0:Nat)<(10:Nat))/\((a.toNat=b.n/\0=b.f/\ao=ao/\a.toNat<(ab zA b.v).length/\(0:Nat)<(10:Nat))/\True)/\R
@[reducible] def Qu (a:gh)(b:oX)(c:vp)(R:Prop):Prop:=(a.inst.toNat=b.n/\0=b.f/\ao=ao/\a.inst.toNat<(ab zA b.v).length/\(0:Nat)<(10:Nat))/\(0<=oI (ac (λ(y:Lv) ↦ decide (y.dm=c.m.dm)) c.L)/\oI (ac (λ(y:Lv) ↦ decide (y.dm=c.m.dm)) c.L)<(↑(ab ic c.L).length:Int))/\(oI (ac (λ(y:Lv) ↦ decide (y.dm=c.m.dm)) c.L)).toNat<(ab ic c.L).length/\R
@[reducible] def QG (a:oX)(b:El)(c:Bp)(R:Prop):Prop:=(ao=ao/\a.n<(ab zA a.v).length/\a.f<10/\ab zA (sm b.v b.m)=zJ (ab zA a.v) a.n a.f [D.ro 3 (ae c.i c.ez++c.el::af c.i c.ez)])/\(0:Int)=(0:Int)/\R
@[reducible] def QJ (a:Bp)(b:vp)(c:El)(R:Prop):Prop:=a.ez=ab ic b.L/\[a.el]=[[dI c.m.dm,dI c.m.dr,dI c.m.count]]/\(a.i<=a.ez.length/\(a.ez.length+1)*(24:Nat)<=(140737488355328:Nat))/\R
@[reducible] def QK (a:oX)(b:El)(c:vp)(R:Prop):Prop:=(ao=ao/\a.n<(ab zA a.v).length/\a.f<10/\ab zA (sm b.v b.m)=zJ (ab zA a.v) a.n a.f [D.ro 3 (zJ (ab ic c.L) (oI (ac (λ(y:Lv) ↦ decide (y.dm=c.m.dm)) c.L)).toNat 0 [dI b.m.dm,dI b.m.dr,dI b.m.count])])/\(0:Int)=(0:Int)/\R
@[reducible] def QS (a:oX)(b:El)(c:vp)(R:Prop):Prop:=(ao=ao/\a.n<(ab zA a.v).length/\a.f<10/\ab zA (sm b.v b.m)=zJ (ab zA a.v) a.n a.f [D.ro 3 (ab ic c.L)])/\(0:Int)=(0:Int)/\R
@[reducible] def QV (a:gh)(b:oX)(R:Prop):Prop:=a.inst.toNat=b.n/\0=b.f/\ao=ao/\a.inst.toNat<(ab zA b.v).length/\R
@[reducible] def QY (a:gh)(b:oX)(R:Prop):Prop:=(a.inst.toNat<(ab zA b.v).length/\(0:Nat)<(10:Nat))/\(a.inst.toNat=b.n/\0=b.f)/\R
@[reducible] def Q4 (a b:gh)(R:Prop):Prop:=a.dm=b.dm/\a.dr=b.dr/\a.count=b.count/\a.fx=b.fx/\R
@[reducible] def Q7 (a:Li)(b:vp)(R:Prop):Prop:=(↑a.i:Int)=oI (ac (λ(y:Lv) ↦ decide (y.dm=b.m.dm)) b.L)/\(↑a.j:Int)=aj.wrap (oI (ac (λ(y:Lv) ↦ decide (y.dm=b.m.dm)) b.L)+1)/\a.ez=ab ic b.L/\(a.i<a.j/\a.j<=a.ez.length)/\R
@[reducible] def Ya (a:oX)(b:El)(c:Li)(R:Prop):Prop:=(ao=ao/\a.n<(ab zA a.v).length/\a.f<10/\ab zA (sm b.v b.m)=zJ (ab zA a.v) a.n a.f [D.ro 3 (ae c.i c.ez++af c.j c.ez)])/\(0:Int)=(0:Int)/\R
def xCk (i:El):Prop:=
 ∃(a:Me),a.k=(↑(ab zA i.v).length:Int)/\a.m.seq=i.m.seq/\a.m.inst=i.m.inst/\a.m.side=1/\Q4 a.m i.m (True/\fa (dp (gh.iL a.k a.m !=0) (dx (ab zA (sm i.v i.m)=[]/\0=gh.iL a.k a.m/\True)) (∃(c:oX),ab zA c.v=ab zA i.v/\(U3 c)/\∀(d:Unit),True->(0<=i.m.inst/\i.m.inst<(↑(ab zA c.v).length:Int))/\dp i.m.fx ((dl (py.mk ao vO 10 (ab zA c.v) c.n c.f ao wB)/\i.m.inst.toNat<(ab zA c.v).length/\(4:Nat)<=(10:Nat)/\c.f<10/\(ao=ao->i.m.inst.toNat=c.n->4<=c.f\/c.f<1))/\dl i.m.dr/\(dl (py.mk ao vO 10 (zJ (ab zA c.v) i.m.inst.toNat 1 [dI i.m.dm,dI i.m.dr,dI i.m.count]) c.n c.f ao wB)/\i.m.inst.toNat<(zJ (ab zA c.v) i.m.inst.toNat 1 [dI i.m.dm,dI i.m.dr,dI i.m.count]).length/\(5:Nat)<=(10:Nat)/\c.f<10/\(ao=ao->i.m.inst.toNat=c.n->5<=c.f\/c.f<4))/\∃(e:Bool),zD (zJ (zJ (ab zA c.v) i.m.inst.toNat 1 [dI i.m.dm,dI i.m.dr,dI i.m.count]) i.m.inst.toNat 4 [D.v (.bool (qU i))]) i.m.inst.toNat 4 1=aw [D.v (.bool e)]/\(c.f<10/\(ao=ao->i.m.inst.toNat=c.n->(4:Nat)+(1:Nat)<=c.f\/c.f<4))/\dp (!e) ((dl (py.mk ao vO 10 (zJ (zJ (ab zA c.v) i.m.inst.toNat 1 [dI i.m.dm,dI i.m.dr,dI i.m.count]) i.m.inst.toNat 4 [D.v (.bool (qU i))]) c.n c.f ao wB)/\i.m.inst.toNat<(zJ (zJ (ab zA c.v) i.m.inst.toNat 1 [dI i.m.dm,dI i.m.dr,dI i.m.count]) i.m.inst.toNat 4 [D.v (.bool (qU i))]).length/\(4:Nat)<=(10:Nat)/\c.f<10/\(ao=ao->i.m.inst.toNat=c.n->4<=c.f\/c.f<1))/\dx ((ao=ao/\c.n<(zJ (zJ (zJ (ab zA c.v) i.m.inst.toNat 1 [dI i.m.dm,dI i.m.dr,dI i.m.count]) i.m.inst.toNat 4 [D.v (.bool (qU i))]) i.m.inst.toNat 1 [dI 0,dI 0,dI 0]).length/\c.f<10/\ab zA (sm i.v i.m)=zJ (zJ (zJ (zJ (ab zA c.v) i.m.inst.toNat 1 [dI i.m.dm,dI i.m.dr,dI i.m.count]) i.m.inst.toNat 4 [D.v (.bool (qU i))]) i.m.inst.toNat 1 [dI 0,dI 0,dI 0]) c.n c.f [D.ro 3 c.lv])/\dl ((0:Int))/\True)) (dx ((ao=ao/\c.n<(zJ (zJ (ab zA c.v) i.m.inst.toNat 1 [dI i.m.dm,dI i.m.dr,dI i.m.count]) i.m.inst.toNat 4 [D.v (.bool (qU i))]).length/\c.f<10/\ab zA (sm i.v i.m)=zJ (zJ (zJ (ab zA c.v) i.m.inst.toNat 1 [dI i.m.dm,dI i.m.dr,dI i.m.count]) i.m.inst.toNat 4 [D.v (.bool (qU i))]) c.n c.f [D.ro 3 c.lv])/\dl ((0:Int))/\True))) ((QV i.m c ((0:Nat)<(10:Nat)))/\((∃(me:vp),ab ic me.L=c.lv/\me.m.seq=i.m.seq/\me.m.inst=i.m.inst/\me.m.side=1/\Q4 me.m i.m (me.L.length<=1099511627776/\∀(d:Unit),True->dp (decide (oI (ac (λ(y:Lv) ↦ decide (y.dm=me.m.dm)) me.L)>=0)) (dp (me.m.dr==0) ((QV i.m c ((0:Nat)<(10:Nat)))/\∃(oB:Li),Q7 oB me (∀(d:Unit),True->QY i.m c (dx (Ya c i oB (True))))) (dp (decide (oI (ac (λ(y:Lv) ↦ decide (y.dm=me.m.dm)) me.L)>=0)) (Qu i.m c me (dx (QK c i me (True)))) (dp (decide (me.m.dr>0)) ((QV i.m c ((0:Nat)<(10:Nat)))/\((∃(i:vp),False)\/(∃(oB:vp),Qi oB me (∀(d:Unit),True->dp (decide (oI (ac (λ(y:Lv) ↦ xH oB.m.side oB.m.dm y.dm) oB.L)<0)) ((QV i.m c ((0:Nat)<(10:Nat)))/\Qm i.m.inst c (∃(tu:Bp),(↑tu.i:Int)=(↑(ab ic oB.L).length:Int)/\QJ tu oB i (∀(d:Unit),True->QY i.m c (dx (QG c i tu (True)))))) (Qm i.m.inst c (∃(tu:Bp),(↑tu.i:Int)=oI (ac (λ(y:Lv) ↦ xH oB.m.side oB.m.dm y.dm) oB.L)/\QJ tu oB i (∀(d:Unit),True->QY i.m c (dx (QG c i tu (True)))))))))) (dx (QS c i me (True)))))) (dp (decide (oI (ac (λ(y:Lv) ↦ decide (y.dm=me.m.dm)) me.L)>=0)) (Qu i.m c me (dx (QK c i me (True)))) (dp (decide (me.m.dr>0)) ((QV i.m c ((0:Nat)<(10:Nat)))/\((∃(i:vp),False)\/(∃(oB:vp),Qi oB me (∀(d:Unit),True->dp (decide (oI (ac (λ(y:Lv) ↦ xH oB.m.side oB.m.dm y.dm) oB.L)<0)) ((QV i.m c ((0:Nat)<(10:Nat)))/\Qm i.m.inst c (∃(tu:Bp),(↑tu.i:Int)=(↑(ab ic oB.L).length:Int)/\QJ tu oB i (∀(d:Unit),True->QY i.m c (dx (QG c i tu (True)))))) (Qm i.m.inst c (∃(tu:Bp),(↑tu.i:Int)=oI (ac (λ(y:Lv) ↦ xH oB.m.side oB.m.dm y.dm) oB.L)/\QJ tu oB i (∀(d:Unit),True->QY i.m c (dx (QG c i tu (True)))))))))) (dx (QS c i me (True)))))))\/(∃(i:vp),False))))))
@[reducible] def Qn (a:Int)(b:oX)(R:Prop):Prop:=(a.toNat=b.n/\5=b.f/\ao=ao/\a.toNat<(ab zA b.v).length/\(5:Nat)<(10:Nat))/\((a.toNat=b.n/\5=b.f/\ao=ao/\a.toNat<(ab zA b.v).length/\(5:Nat)<(10:Nat))/\True)/\R
@[reducible] def Qv (a:gh)(b:oX)(c:vp)(R:Prop):Prop:=(a.inst.toNat=b.n/\5=b.f/\ao=ao/\a.inst.toNat<(ab zA b.v).length/\(5:Nat)<(10:Nat))/\(0<=oI (ac (λ(y:Lv) ↦ decide (y.dm=c.m.dm)) c.L)/\oI (ac (λ(y:Lv) ↦ decide (y.dm=c.m.dm)) c.L)<(↑(ab ic c.L).length:Int))/\(oI (ac (λ(y:Lv) ↦ decide (y.dm=c.m.dm)) c.L)).toNat<(ab ic c.L).length/\R
@[reducible] def QW (a:gh)(b:oX)(R:Prop):Prop:=a.inst.toNat=b.n/\5=b.f/\ao=ao/\a.inst.toNat<(ab zA b.v).length/\R
@[reducible] def QZ (a:gh)(b:oX)(R:Prop):Prop:=(a.inst.toNat<(ab zA b.v).length/\(5:Nat)<(10:Nat))/\(a.inst.toNat=b.n/\5=b.f)/\R
def xFo (i:El):Prop:=
 ∃(a:Me),a.k=(↑(ab zA i.v).length:Int)/\a.m.seq=i.m.seq/\a.m.inst=i.m.inst/\a.m.side=2/\Q4 a.m i.m (True/\fa (dp (gh.iL a.k a.m !=0) (dx (ab zA (sm i.v i.m)=[]/\0=gh.iL a.k a.m/\True)) (∃(c:oX),ab zA c.v=ab zA i.v/\(U3 c)/\∀(d:Unit),True->(0<=i.m.inst/\i.m.inst<(↑(ab zA c.v).length:Int))/\dp i.m.fx ((dl (py.mk ao vO 10 (ab zA c.v) c.n c.f ao wB)/\i.m.inst.toNat<(ab zA c.v).length/\(9:Nat)<=(10:Nat)/\c.f<10/\(ao=ao->i.m.inst.toNat=c.n->9<=c.f\/c.f<6))/\dl i.m.dr/\(dl (py.mk ao vO 10 (zJ (ab zA c.v) i.m.inst.toNat 6 [dI i.m.dm,dI i.m.dr,dI i.m.count]) c.n c.f ao wB)/\i.m.inst.toNat<(zJ (ab zA c.v) i.m.inst.toNat 6 [dI i.m.dm,dI i.m.dr,dI i.m.count]).length/\(10:Nat)<=(10:Nat)/\c.f<10/\(ao=ao->i.m.inst.toNat=c.n->10<=c.f\/c.f<9))/\∃(e:Bool),zD (zJ (zJ (ab zA c.v) i.m.inst.toNat 6 [dI i.m.dm,dI i.m.dr,dI i.m.count]) i.m.inst.toNat 9 [D.v (.bool (qU i))]) i.m.inst.toNat 9 1=aw [D.v (.bool e)]/\(c.f<10/\(ao=ao->i.m.inst.toNat=c.n->(9:Nat)+(1:Nat)<=c.f\/c.f<9))/\dp (!e) ((dl (py.mk ao vO 10 (zJ (zJ (ab zA c.v) i.m.inst.toNat 6 [dI i.m.dm,dI i.m.dr,dI i.m.count]) i.m.inst.toNat 9 [D.v (.bool (qU i))]) c.n c.f ao wB)/\i.m.inst.toNat<(zJ (zJ (ab zA c.v) i.m.inst.toNat 6 [dI i.m.dm,dI i.m.dr,dI i.m.count]) i.m.inst.toNat 9 [D.v (.bool (qU i))]).length/\(9:Nat)<=(10:Nat)/\c.f<10/\(ao=ao->i.m.inst.toNat=c.n->9<=c.f\/c.f<6))/\dx ((ao=ao/\c.n<(zJ (zJ (zJ (ab zA c.v) i.m.inst.toNat 6 [dI i.m.dm,dI i.m.dr,dI i.m.count]) i.m.inst.toNat 9 [D.v (.bool (qU i))]) i.m.inst.toNat 6 [dI 0,dI 0,dI 0]).length/\c.f<10/\ab zA (sm i.v i.m)=zJ (zJ (zJ (zJ (ab zA c.v) i.m.inst.toNat 6 [dI i.m.dm,dI i.m.dr,dI i.m.count]) i.m.inst.toNat 9 [D.v (.bool (qU i))]) i.m.inst.toNat 6 [dI 0,dI 0,dI 0]) c.n c.f [D.ro 3 c.lv])/\dl ((0:Int))/\True)) (dx ((ao=ao/\c.n<(zJ (zJ (ab zA c.v) i.m.inst.toNat 6 [dI i.m.dm,dI i.m.dr,dI i.m.count]) i.m.inst.toNat 9 [D.v (.bool (qU i))]).length/\c.f<10/\ab zA (sm i.v i.m)=zJ (zJ (zJ (ab zA c.v) i.m.inst.toNat 6 [dI i.m.dm,dI i.m.dr,dI i.m.count]) i.m.inst.toNat 9 [D.v (.bool (qU i))]) c.n c.f [D.ro 3 c.lv])/\dl ((0:Int))/\True))) ((QW i.m c ((5:Nat)<(10:Nat)))/\((∃(me:vp),ab ic me.L=c.lv/\me.m.seq=i.m.seq/\me.m.inst=i.m.inst/\me.m.side=2/\Q4 me.m i.m (me.L.length<=1099511627776/\∀(d:Unit),True->dp (decide (oI (ac (λ(y:Lv) ↦ decide (y.dm=me.m.dm)) me.L)>=0)) (dp (me.m.dr==0) ((QW i.m c ((5:Nat)<(10:Nat)))/\∃(oB:Li),Q7 oB me (∀(d:Unit),True->QZ i.m c (dx (Ya c i oB (True))))) (dp (decide (oI (ac (λ(y:Lv) ↦ decide (y.dm=me.m.dm)) me.L)>=0)) (Qv i.m c me (dx (QK c i me (True)))) (dp (decide (me.m.dr>0)) ((QW i.m c ((5:Nat)<(10:Nat)))/\((∃(i:vp),False)\/(∃(oB:vp),Qi oB me (∀(d:Unit),True->dp (decide (oI (ac (λ(y:Lv) ↦ xH oB.m.side oB.m.dm y.dm) oB.L)<0)) ((QW i.m c ((5:Nat)<(10:Nat)))/\Qn i.m.inst c (∃(tu:Bp),(↑tu.i:Int)=(↑(ab ic oB.L).length:Int)/\QJ tu oB i (∀(d:Unit),True->QZ i.m c (dx (QG c i tu (True)))))) (Qn i.m.inst c (∃(tu:Bp),(↑tu.i:Int)=oI (ac (λ(y:Lv) ↦ xH oB.m.side oB.m.dm y.dm) oB.L)/\QJ tu oB i (∀(d:Unit),True->QZ i.m c (dx (QG c i tu (True)))))))))) (dx (QS c i me (True)))))) (dp (decide (oI (ac (λ(y:Lv) ↦ decide (y.dm=me.m.dm)) me.L)>=0)) (Qv i.m c me (dx (QK c i me (True)))) (dp (decide (me.m.dr>0)) ((QW i.m c ((5:Nat)<(10:Nat)))/\((∃(i:vp),False)\/(∃(oB:vp),Qi oB me (∀(d:Unit),True->dp (decide (oI (ac (λ(y:Lv) ↦ xH oB.m.side oB.m.dm y.dm) oB.L)<0)) ((QW i.m c ((5:Nat)<(10:Nat)))/\Qn i.m.inst c (∃(tu:Bp),(↑tu.i:Int)=(↑(ab ic oB.L).length:Int)/\QJ tu oB i (∀(d:Unit),True->QZ i.m c (dx (QG c i tu (True)))))) (Qn i.m.inst c (∃(tu:Bp),(↑tu.i:Int)=oI (ac (λ(y:Lv) ↦ xH oB.m.side oB.m.dm y.dm) oB.L)/\QJ tu oB i (∀(d:Unit),True->QZ i.m c (dx (QG c i tu (True)))))))))) (dx (QS c i me (True)))))))\/(∃(i:vp),False))))))
def yFb:Ae.ok Tryz.prog 150:=y5x fg λi h b hb=>by
 have h:i.length*112<=140737488355328:=h;exact Cv.dp.mk (λe=>⟨(),hb e,trivial⟩) (λ_=>⟨oM,(),rfl,trivial⟩)
def yDh:Ai.ok Tryz.prog 151:=y8o fg λi h b hb=>by
 have h:i.length*24<=140737488355328:=h;exact Cv.dp.mk (λe=>⟨(),hb e,trivial⟩) (λ_=>⟨oM,(),rfl,trivial⟩)
def y9z {v:Vw} {j:Nat} {p:Sd×Sd} (h:v[j]? =aw p):zD (v.map zA) j 0 1=aw [.ro 3 (p.1.levels.map ic)]:=by
 rw[zD,rf,h];rfl
def yOl {v:Vw} {j:Nat} {p:Sd×Sd} (h:v[j]? =aw p):zD (v.map zA) j 5 1=aw [.ro 3 (p.2.levels.map ic)]:=by
 rw[zD,rf,h];rfl
def aA {ez:List (List D)} {j f:Nat} {ds el Ss:List D} (h:ez[j]? =aw el) (e:el.take f++(ds++el.drop (f+ds.length))=Ss):zJ ez j f ds=ez.set j Ss:=by
 rw[zJ];apply Dd;intro k;rw[FA,Ca];by_cases hk:j=k
 ·subst hk;rw[fc rfl,h,fc (jf.1 h).1,<- e];show aw (if j=j then _ else el)=_;rw[fc rfl]
 ·rw[eg hk];cases ez[k]? with
  |none=>rfl
  |some x=>
   show aw (if j=k then _ else x)=aw x;rw[eg hk]
def zYe {α:Type} {l:List α} {j:Nat} {x:α} (h:l[j]? =aw x):l.set j x=l:=by
 apply Dd;intro k;rw[Ca];by_cases hk:j=k
 ·subst hk;rw[fc rfl,fc (jf.1 h).1,h]
 ·rw[eg hk]
def yUs {v:Vw} {j:Nat} {p:Sd×Sd} (h:v[j]? =aw p):zJ (v.map zA) j 0 [.ro 3 (p.1.levels.map ic)]=v.map zA:=by
 have h':(v.map zA)[j]? =aw (zA p):=by rw[rf,h];rfl
 rw[aA h' (Ss:=zA p) rfl,zYe h']
def yFt {v:Vw} {j:Nat} {p:Sd×Sd} (h:v[j]? =aw p):zJ (v.map zA) j 5 [.ro 3 (p.2.levels.map ic)]=v.map zA:=by
 have h':(v.map zA)[j]? =aw (zA p):=by rw[rf,h];rfl
 rw[aA h' (Ss:=zA p) rfl,zYe h']
def y3o (i:oX) (h:GI.dp i):ySp i:=by
 obtain⟨hn,hl,ue,yp⟩:i.n<i.v.length/\i.v.length<=1000000/\xX i.v:=h;have uk:(i.v.map zA).length=i.v.length:=gy _;have z0:((0:Nat)+nat_lit 0*(5:Nat)+(0:Nat))=0:=rfl;have z5:((0:Nat)+(nat_lit 0+nat_lit 1) % ((2:Int) ^ aj.bits).natAbs*(5:Nat)+(0:Nat))=5:=by decide
 have hf:i.f=if i.s=ao then 5 else 0:=by rw[oX.f];cases i.s<;>rfl
 have Ey:i.f<10:=by rw[hf];split<;>omega
 unfold ySp fa dx fU lR fQ lH zHk ob qN;simp only[z0,z5,om];refine⟨_,rfl,oM,λ_ _=>⟨0,rfl,⟨rfl,by simp⟩,by simp,λj=>j<=i.v.length,λj=>i.v.length-j,mi _,λj hj=>zH (λgn=> ?_) (λgn=> ?_)⟩⟩
 ·have gn:(j:Int)<((i.v.map zA).length:Nat):=gn;obtain⟨p,hp⟩:=z6 (l:=i.v) (i:=j) oM;have qf:=yp p (ku hp);have l1:(p.1.levels.map ic).length=p.1.levels.length:=gy _;have l2:(p.2.levels.map ic).length=p.2.levels.length:=gy _;have bd:(0:Int)<=(j:Int)/\(j:Int)<((i.v.map zA).length:Nat):=⟨oM,gn⟩
  have no:decide (i.n<j)=ao->j=i.n->False:=λa b=>by
   have:=qp a;omega
  have lv1:j=i.n->0=i.f->i.lv=p.1.levels.map ic:=λa b=>by
   subst a;rw[hf]at b;rw[oX.lv,Lr,hp];cases hs:i.s
   ·rfl
   ·rw[hs]at b;simp at b
  have lv2:j=i.n->5=i.f->i.lv=p.2.levels.map ic:=λa b=>by
   subst a;rw[hf]at b;rw[oX.lv,Lr,hp];cases hs:i.s
   ·rw[hs]at b;simp at b
   ·rfl
  refine⟨bd,_,y9z hp,⟨Ey,λa b=>(no a b).elim⟩,bd,_,rfl,oM,λ_ _=>⟨⟨bd,by(first|rfl|trivial)⟩,trivial,⟨oM,oM⟩,λe1 e2=> ?_,Ey,λjr=> ?_⟩⟩
  ·refine⟨bd,_,yOl hp,⟨Ey,λ_ _=> .inr oM⟩,bd,_,rfl,oM,λ_ _=>⟨⟨bd,by(first|rfl|trivial)⟩,trivial,⟨oM,oM⟩,λ_ e3=>absurd e3 oM,Ey,λ_=>⟨by(first|rfl|trivial),j+1,qy oM,⟨(yFt hp).symm,by(first|rfl|trivial),by(first|rfl|trivial),jk oM⟩,?_,Z9,Z9,gg⟩⟩⟩;rw[jk (show i.n<j+1 by omega),cond_true,lv1 e1 e2]
  ·rw[yUs hp];refine⟨by(first|rfl|trivial),bd,_,yOl hp,⟨Ey,λa b=>(no a b).elim⟩,bd,_,rfl,oM,λ_ _=>⟨⟨bd,by(first|rfl|trivial)⟩,trivial,⟨oM,oM⟩,λe1 e3=>⟨j+1,qy oM,⟨by(first|rfl|trivial),by(first|rfl|trivial),by(first|rfl|trivial),jk oM⟩,?_,Z9,Z9,gg⟩,Ey,λEw=>⟨by(first|rfl|trivial),j+1,qy oM,⟨(yFt hp).symm,by(first|rfl|trivial),by(first|rfl|trivial),?_⟩,?_,Z9,Z9,gg⟩⟩⟩
   ·rw[jk (show i.n<j+1 by omega),cond_true,lv2 e1 e3]
   ·have:j≠i.n:=λe=>by
     have:i.f=0\/i.f=5:=by rw[hf];split<;>omega
     rcases this with h|h
     ·exact jr ⟨e,h.symm⟩
     ·exact Ew ⟨e,h.symm⟩
    exact decide_eq_decide.2 ⟨λ_=>by omega,λ_=>by omega⟩
   ·have:j≠i.n:=λe=>by
     have:i.f=0\/i.f=5:=by rw[hf];split<;>omega
     rcases this with h|h
     ·exact jr ⟨e,h.symm⟩
     ·exact Ew ⟨e,h.symm⟩
    rw[show decide (i.n<j+1)=decide (i.n<j)from decide_eq_decide.2 ⟨λ_=>by omega,λ_=>by omega⟩]
 ·have hj:j<=i.v.length:=hj;obtain rfl:j=i.v.length:=by omega
  have e:decide (i.n<i.v.length)=ao:=jk hn;exact⟨(),⟨by(first|rfl|trivial),by(first|rfl|trivial),by(first|rfl|trivial),e.symm⟩,by rw[e];rfl,gg⟩
def z2l:GI.ok Tryz.prog 99:=gu mixed (dw yFb (dw yDh fg)) 0 (λ_=>[]) (λi=>y5a i) [] Tryz.func99 y3o
def y4l (i:Me):z8k i:=by
 unfold z8k dx;have fin:∀{x:Int},¬i.m.inst<0->¬i.m.inst>=i.k->¬(i.m.side≠1/\i.m.side≠2)->dp (decide (i.m.dr<0)) (∃(o:Unit),i.m.iL i.k=24/\True) (dp (decide (i.m.count<0)) (∃(o:Unit),i.m.iL i.k=24/\True) (dp (!(i.m.dr==0)==(i.m.count==0)) (∃(o:Unit),i.m.iL i.k=24/\True) (∃(o:Unit),i.m.iL i.k=0/\True))):=by
  intro _ h1 h2 h3;have e:i.m.iL i.k=if(i.m.dr<0\/i.m.count<0)\/¬(i.m.dr=0↔i.m.count=0)then 24 else 0:=by rw[gh.iL,eg (by omega),eg h3]
  rw[e];refine zH (λa=>⟨(),by rw[fc (.inl (.inl a))],trivial⟩) (λa=>zH (λb=>⟨(),by rw[fc (.inl (.inr b))],trivial⟩) (λb=>Cv.dp.mk (λc=>⟨(),?_,trivial⟩) (λc=>⟨(),?_,trivial⟩)))
  ·have hx:¬(i.m.dr=0↔i.m.count=0):=λx=>by
    have:(i.m.dr==0)=(i.m.count==0):=by
     rw[Dc,Hr,Hr];exact x
    rw[this]at c;revert c;cases (i.m.count==0)<;>decide
   rw[fc (.inr hx)]
  ·rw[eg];rintro(x|x)
   ·omega
   ·refine x ?_;have:(i.m.dr==0)=(i.m.count==0):=by
     revert c;cases (i.m.count==0)<;>cases (i.m.dr==0)<;>decide
    rw[Dc,Hr,Hr]at this;exact this
 refine zH (λa=>⟨(),by rw[gh.iL,fc (.inl a)],trivial⟩) (λa=>zH (λb=>⟨(),by rw[gh.iL,fc (.inr b)],trivial⟩) (λb=>Cv.dp.mk (λc=>Cv.dp.mk (λd=>⟨(),?_,trivial⟩) (λd=> ?_)) (λc=> ?_)))
 ·rw[gh.iL,eg (by omega),fc ⟨by simpa using c,by simpa using d⟩]
 ·exact fin (x:=0) a b λx=>x.2 (by simpa using d)
 ·exact fin (x:=0) a b λx=>x.1 (by simpa using c)
def Y9:M3.ok Tryz.prog 86:=gu (V:=z8k) mixed fg 0 (λ_=>[]) (λ_=>[]) [] Tryz.func86 λ(i:Me) _=>y4l i
def Vi {k:Int} {m:gh} (h:m.iL k=0):(0<=m.inst/\m.inst<k)/\(m.side=1\/m.side=2)/\(0<=m.dr/\0<=m.count)/\(m.dr=0↔m.count=0):=by
 rw[gh.iL]at h;split at h
 ·cases h
 ·split at h
  ·cases h
  ·split at h
   ·cases h
   ·rename_i a b c;refine⟨oM,oM,oM,?_⟩;exact Classical.byContradiction λx=>c (.inr x)
def y1r {L:List Lv} {k:Nat} {l:Lv} (h:L[k]? =aw l):zD (L.map ic) k 0 3=aw [D.v (.int .i64 l.dm),D.v (.int .i64 l.dr),D.v (.int .i64 l.count)]:=by
 rw[zD,rf,h];rfl
def zYm {f:Lv->Bool} {L:List Lv} {k:Nat} {l:Lv} (h:L[k]? =aw l) (h0:(L.take k).findIdx? f=ax):(f l=ao->L.findIdx? f=aw k)/\(f l=ap->(L.take (k+1)).findIdx? f=ax):=by
 have hk:=(jf.1 h).1;have e:L=L.take k++(l::L.drop (k+1)):=by
  obtain⟨_,h2⟩:=jf.1 h;rw[<- h2,List.getElem_cons_drop,Bb]
 constructor
 ·intro hl;rw[e,List.findIdx?_append,h0,JM,fc hl];simp;omega
 ·intro hl;rw[qx,h,Cb,List.findIdx?_append,h0,JM,hl,List.findIdx?_nil];rfl
def xGe (i:vp) (h:S2.dp i):xBv i:=by
 (
 have hl:i.L.length<=1099511627776:=h;have uk:(i.L.map ic).length=i.L.length:=gy _)
 unfold xBv dx VB QP sK dI;refine⟨0,rfl,λk=>k<=i.L.length/\(i.L.take k).findIdx? (λy=>decide (y.dm=i.m.dm))=ax,λk=>i.L.length-k,⟨mi _,by rw[EN];rfl⟩,λk hk=>zH (λc=> ?_) (λc=> ?_)⟩
 ·obtain⟨hk,h0⟩:=hk;obtain⟨l,Dq⟩:=z6 (l:=i.L) (i:=k) oM;obtain⟨n1,n2⟩:=zYm Dq h0;refine⟨⟨oM,oM⟩,l.dm,l.dr,l.count,y1r Dq,Cv.dp.mk (λe=>⟨(),?_,gg⟩) (λe=>⟨k+1,?_,⟨oM,n2 (jt (by simpa using e))⟩,Z9,gg⟩)⟩
  ·rw[n1 (jk (by simpa using e))];rfl
  ·rw[iq (by omega)];rfl
 ·obtain⟨hk,h0⟩:=hk;obtain rfl:k=i.L.length:=by omega
  rw[zr]at h0;exact⟨(),by rw[h0];rfl,gg⟩
def yTr:S2.ok Tryz.prog 183:=gu mixed fg 1 (λ_=>[]) (λ_=>ixA) [] Tryz.func183 xGe
def xIj (i:vp) (h:S3.dp i):xAm i:=by
 (
 have hl:i.L.length<=1099511627776:=h;have uk:(i.L.map ic).length=i.L.length:=gy _)
 unfold xAm fa dx VB QP sK dI;refine⟨0,rfl,λk=>k<=i.L.length/\(i.L.take k).findIdx? (λy=>xH i.m.side i.m.dm y.dm)=ax,λk=>i.L.length-k,⟨mi _,by rw[EN];rfl⟩,λk hk=>zH (λc=> ?_) (λc=> ?_)⟩
 ·obtain⟨hk,h0⟩:=hk;obtain⟨l,Dq⟩:=z6 (l:=i.L) (i:=k) oM;obtain⟨n1,n2⟩:=zYm Dq h0;refine⟨⟨oM,oM⟩,l.dm,l.dr,l.count,y1r Dq,⟨i.m.side,i.m.dm,l.dm⟩,rfl,rfl,rfl,trivial,λ_ _=>Cv.dp.mk (λe=>⟨(),?_,gg⟩) (λe=>⟨k+1,?_,⟨oM,n2 e⟩,Z9,gg⟩)⟩
  ·rw[n1 e];rfl
  ·rw[iq (by omega)];rfl
 ·obtain⟨hk,h0⟩:=hk;obtain rfl:k=i.L.length:=by omega
  rw[zr]at h0;exact⟨(),by rw[h0];rfl,gg⟩
def yPd:S3.ok Tryz.prog 183:=gu mixed (dw ZR fg) 1 (λ_=>[]) (λ_=>ixA) [] Tryz.func183 xIj
def z2i:vS Tryz.prog 175=aw (177,3,24,#[.int .i64 0,.int .i64 0,.int .i64 0]):=by kernel_rfl
def yFu:TP.ok Tryz.prog 188:=
 AV (tS:=175) (tI:=3) (fO:=212) (fR:=213) (z:= #[.int .i64 0,.int .i64 0,.int .i64 0]) mixed Tryz.func188 rfl (by kernel_rfl) (by kernel_rfl) (by kernel_rfl) (by kernel_rfl) z2i rfl Z8 Z8 (by kernel_rfl) (by kernel_rfl)
  (z2j (tS:=175) (tB:=4) Tryz.func212 (by kernel_rfl) (by kernel_rfl) (by kernel_rfl) (by kernel_rfl) z2i) (λs sn sk i v vn vk w R=>by kernel_rfl)
def yDl:Ui.ok Tryz.prog 185:=
 DZ mixed Tryz.func185 rfl (by kernel_rfl) (by kernel_rfl) (by kernel_rfl) (by kernel_rfl) z2i rfl Z8 (λs sn sk i j w R=>by kernel_rfl)
def Nt {ez:List (List D)} {j f:Nat} {ds el:List D} (h:j<ez.length):zJ (ez.set j el) j f ds=ez.set j (el.take f++(ds++el.drop (f+ds.length))):=by
 have h':(ez.set j el)[j]? =aw el:=by rw[Ca,fc rfl,fc h]
 rw[aA h' rfl,D8]
def yTd {v:Vw} {m:gh} {p:Sd×Sd} (h:v[m.inst.toNat]? =aw p):(sm v m).map zA=(v.map zA).set m.inst.toNat (zA (if m.side=1 then(A1 1 p.1 m,p.2)else(p.1,A1 2 p.2 m))):=by
 rw[sm];apply Dd;intro k;rw[rf,FA,Ca];by_cases hk:m.inst.toNat=k
 ·subst hk;have hl:m.inst.toNat<(v.map zA).length:=by rw[gy];exact(jf.1 h).1
  rw[h,fc rfl,fc hl];show Option.map zA (aw (if m.inst.toNat=m.inst.toNat then _ else p))=_;rw[fc rfl];rfl
 ·rw[eg hk,rf];cases v[k]? with
  |none=>rfl
  |some x=>
   show Option.map zA (aw (if m.inst.toNat=k then _ else x))=_;rw[eg hk];first|done|rfl
def ySq {s:Int} {L:List Lv} {m:Lv} {k:Nat} (h:L.findIdx? (λy=>decide (y.dm=m.dm))=aw k) (hq:m.dr=0):(jQ s L m).map ic=(L.map ic).take k++(L.map ic).drop (k+1):=by
 rw[jQ,h];dsimp only;rw[fc hq,List.eraseIdx_eq_take_drop_succ,jl,D9,Fx]
def yPm {s:Int} {L:List Lv} {m:Lv} {k:Nat} (h:L.findIdx? (λy=>decide (y.dm=m.dm))=aw k) (hq:¬m.dr=0) (hk:k<L.length):(jQ s L m).map ic=zJ (L.map ic) k 0 [D.v (.int .i64 m.dm),D.v (.int .i64 m.dr),D.v (.int .i64 m.count)]:=by
 rw[jQ,h];dsimp only;obtain⟨l,hl⟩:=z6 hk;have h':(L.map ic)[k]? =aw (ic l):=by rw[rf,hl];rfl
 rw[eg hq,aA h' (Ss:=ic m) rfl,List.map_set]
def yHe {s:Int} {L:List Lv} {m:Lv} (h:L.findIdx? (λy=>decide (y.dm=m.dm))=ax) (hq:¬0<m.dr):jQ s L m=L:=by
 rw[jQ,h];dsimp only;rw[eg hq]
def Up {s:Int} {L:List Lv} {m:Lv} (h:L.findIdx? (λy=>decide (y.dm=m.dm))=ax) (hq:0<m.dr) {k:Nat} (hk:(L.findIdx? λy=>xH s m.dm y.dm).getD L.length=k):(jQ s L m).map ic=(L.map ic).take k++ic m::(L.map ic).drop k:=by
 have e:jQ s L m=L.take ((L.findIdx? λy=>xH s m.dm y.dm).getD L.length)++m::L.drop ((L.findIdx? λy=>xH s m.dm y.dm).getD L.length):=by
  rw[jQ,h];dsimp only;rw[fc hq]
  first|done|rfl
 rw[e,hk,jl,jj,D9,Fx]
def UQ {f:Lv->Bool} {L:List Lv} {k:Nat} (h:L.findIdx? f=aw k):k<L.length:=by
 obtain⟨h,_⟩:=LJ.1 h;exact h
def yPp {s:Int} {x:Sd} {m:gh} (h:¬m.fx=ao):A1 s x m=⟨jQ s x.levels m.lv,x.imp,x.has⟩:=by rw[A1,eg h]
def xHe (i:El) (h:My.dp i):xCk i:=by
 obtain⟨hs,FR,hl,qf⟩:i.m.side=1/\i.m.iL i.v.length=0/\i.v.length<=1000000/\xX i.v:=h;have uk:(i.v.map zA).length=i.v.length:=gy _;obtain⟨⟨f1,f2⟩,f3,f4,f5⟩:=Vi FR;have hN:i.m.inst.toNat<(i.v.map zA).length:=by omega
 obtain⟨p,hp⟩:=z6 (l:=i.v) (i:=i.m.inst.toNat) oM;have RQ:(i.v.map zA)[i.m.inst.toNat]? =aw (zA p):=by rw[rf,hp];rfl
 have Cf:=qf.2 p (ku hp);have z0:((0:Nat)+(nat_lit 1-Nat.succ (nat_lit 0)) % ((2:Int) ^ aj.bits).natAbs*(5:Nat)+(0:Nat))=0:=by decide
 have z1:((0:Nat)+(nat_lit 1-Nat.succ (nat_lit 0)) % ((2:Int) ^ aj.bits).natAbs*(5:Nat)+(1:Nat))=1:=by decide
 have z4:((0:Nat)+(nat_lit 1-Nat.succ (nat_lit 0)) % ((2:Int) ^ aj.bits).natAbs*(5:Nat)+(4:Nat))=4:=by decide
 have hA:=yTd hp;rw[fc hs]at hA;unfold xCk Q4 Q7 QG QJ QK QS QV QY Ya fa dx Qi Qm Qu qU wB U3 qK dI;simp only[z0,z1,z4];refine⟨⟨i.v.length,i.m⟩,by rw[uk],rfl,rfl,hs,iJ ⟨rfl,trivial,λ_ _=>Cv.dp.mk (λe=> ?_) (λ_=>⟨⟨i.v,i.m.inst.toNat,ap⟩,rfl,⟨Z9,hl,qf⟩,λ_ _=>⟨⟨f1,by rw[uk];exact f2⟩,Cv.dp.mk (λhi=> ?_) (λhi=> ?_)⟩⟩)⟩⟩
 ·exfalso;simp[FR]at e
 ·have Sg:(⟨i.v,i.m.inst.toNat,ap⟩:oX).f=0:=rfl;have Ee:(⟨i.v,i.m.inst.toNat,ap⟩:oX).lv=p.1.levels.map ic:=by rw[oX.lv,Lr,hp];rfl
  have e0:A1 1 p.1 i.m=if 0<i.m.dr then⟨p.1.levels,i.m.lv,ao⟩else⟨p.1.levels,Ce,ap⟩:=by rw[A1,fc hi]
  rw[Sg,Ee];have a1:zJ (i.v.map zA) i.m.inst.toNat 1 [D.v (.int .i64 i.m.dm),D.v (.int .i64 i.m.dr),D.v (.int .i64 i.m.count)]=(i.v.map zA).set i.m.inst.toNat (zA (⟨p.1.levels,i.m.lv,p.1.has⟩,p.2)):=aA RQ rfl;have a2:∀b:Bool,zJ ((i.v.map zA).set i.m.inst.toNat (zA (⟨p.1.levels,i.m.lv,p.1.has⟩,p.2))) i.m.inst.toNat 4 [D.v (.bool b)]=(i.v.map zA).set i.m.inst.toNat (zA (⟨p.1.levels,i.m.lv,b⟩,p.2)):=λb=>Nt hN
  have a3:∀b:Bool,zJ ((i.v.map zA).set i.m.inst.toNat (zA (⟨p.1.levels,i.m.lv,b⟩,p.2))) i.m.inst.toNat 1 [D.v (.int .i64 0),D.v (.int .i64 0),D.v (.int .i64 0)]=(i.v.map zA).set i.m.inst.toNat (zA (⟨p.1.levels,Ce,b⟩,p.2)):=λb=>Nt hN
  have a4:∀(y:Lv) (b:Bool),zJ ((i.v.map zA).set i.m.inst.toNat (zA (⟨p.1.levels,y,b⟩,p.2))) i.m.inst.toNat 0 [D.ro 3 (p.1.levels.map ic)]=(i.v.map zA).set i.m.inst.toNat (zA (⟨p.1.levels,y,b⟩,p.2)):=λy b=>Nt hN
  have a5:∀b:Bool,zD ((i.v.map zA).set i.m.inst.toNat (zA (⟨p.1.levels,i.m.lv,b⟩,p.2))) i.m.inst.toNat 4 1=aw [D.v (.bool b)]:=λb=>by
   rw[zD,Ca,fc rfl,fc hN];rfl
  simp only[a1,a2,a3,a4,qm];refine⟨⟨by(first|rfl|trivial),hN,Z8,Z8,λ_ _=> .inr Z8⟩,by(first|rfl|trivial),⟨by(first|rfl|trivial),hN,Z8,Z8,λ_ _=> .inr Z8⟩,_,a5 _,⟨Z8,λ_ _=> .inr Z8⟩,Cv.dp.mk (λhb=>⟨⟨by(first|rfl|trivial),hN,Z8,Z8,λ_ _=> .inr Z8⟩,(),⟨by(first|rfl|trivial),hN,Z8,?_⟩,gg⟩) (λhb=>⟨(),⟨by(first|rfl|trivial),hN,Z8,?_⟩,gg⟩)⟩
  ·have hq:¬0<i.m.dr:=by simpa using hb
   rw[hA,e0,eg hq,jt (show ¬i.m.dr>0 from hq)]
  ·have hq:0<i.m.dr:=by simpa using hb
   rw[hA,e0,fc hq,jk (show i.m.dr>0 from hq)]
 ·have Sg:(⟨i.v,i.m.inst.toNat,ap⟩:oX).f=0:=rfl;have Ee:(⟨i.v,i.m.inst.toNat,ap⟩:oX).lv=p.1.levels.map ic:=by rw[oX.lv,Lr,hp];rfl
  have e0:=yPp (s:=1) (x:=p.1) (m:=i.m) (by simp[hi]);rw[e0]at hA;have hh:i.m.inst.toNat=i.m.inst.toNat/\0=(⟨i.v,i.m.inst.toNat,ap⟩:oX).f/\True/\i.m.inst.toNat<(i.v.map zA).length/\0<10:=⟨rfl,rfl,trivial,hN,Z8⟩
  have FT:(⟨i.v,i.m.inst.toNat,ap⟩:oX).f<10:=by show 0<10;decide
  have xv:i.m.inst.toNat<(i.v.map zA).length/\0<10:=⟨hN,Z8⟩
  have hB:∀l:List (List D),(jQ 1 p.1.levels i.m.lv).map ic=l->(sm i.v i.m).map zA=zJ (i.v.map zA) i.m.inst.toNat 0 [D.ro 3 l]:=λl e=>by
   subst e;rw[hA];exact Eq.symm (aA (f:=0) (ds:=[D.ro 3 ((jQ 1 p.1.levels i.m.lv).map ic)]) RQ rfl)
  have OA:(p.1.levels.map ic).length=p.1.levels.length:=gy _;have e1:1=i.m.side:=hs.symm;refine⟨hh,.inl ⟨⟨p.1.levels,i.m⟩,Ee.symm,rfl,rfl,hs,iJ ⟨rfl,Z9,λ_ _=> ?_⟩⟩⟩;dsimp only;cases hk:p.1.levels.findIdx? (λy=>decide (y.dm=i.m.dm))with
  |some k=>
   have o6:=UQ hk;refine zH (λ_=>Cv.dp.mk (λhq=>⟨hh,⟨p.1.levels.map ic,k,k+1⟩,rfl,?_,rfl,⟨Z9,Z9⟩,λ_ _=>⟨xv,⟨by(first|rfl|trivial),by(first|rfl|trivial)⟩,(),⟨by(first|rfl|trivial),hN,FT,hB _ (ySq hk (by show i.m.dr=0;simpa using hq))⟩,gg⟩⟩) (λhq=>zH (λ_=>⟨hh,⟨by show(0:Int)<=(k:Int);omega,by show(k:Int)<_;omega⟩,by show k<_;omega,(),⟨by(first|rfl|trivial),hN,FT,hB _ (yPm hk (by show ¬i.m.dr=0;simpa using hq) o6)⟩,gg⟩) (λc=>absurd (show(0:Int)<=(k:Int)by omega) c))) (λc=>absurd (show(0:Int)<=(k:Int)by omega) c);show((k+1:Nat):Int)=aj.wrap ((k:Int)+1);rw[iq (by omega)];rfl
  |none=>
   refine zH (λc=>absurd c Z8) (λ_=>zH (λc=>absurd c Z8) (λ_=>zH (λhq=>⟨hh,.inr ⟨⟨p.1.levels,i.m⟩,oF ⟨rfl,Z9,λ_ _=> ?_⟩⟩⟩) (λhq=>⟨(),⟨by(first|rfl|trivial),hN,FT,hB _ (by rw[yHe hk hq])⟩,gg⟩)));dsimp only;rw[hs];cases hb:p.1.levels.findIdx? (λy=>xH 1 i.m.dm y.dm)with
   |some k=>
    have o6:=UQ hb;exact zH (λc=>absurd c (by show ¬(k:Int)<0;omega)) (λ_=>⟨hh,⟨hh,trivial⟩,⟨p.1.levels.map ic,ic i.m.lv,k⟩,rfl,rfl,rfl,⟨Z9,Z9⟩,λ_ _=>⟨xv,⟨by(first|rfl|trivial),by(first|rfl|trivial)⟩,(),⟨by(first|rfl|trivial),hN,FT,hB _ (Up hk hq (by rw[show(p.1.levels.findIdx? λy=>xH 1 i.m.lv.dm y.dm)=aw k from hb];rfl))⟩,gg⟩⟩)
   |none=>
    exact zH (λ_=>⟨hh,hh,⟨hh,trivial⟩,⟨p.1.levels.map ic,ic i.m.lv,p.1.levels.length⟩,by rw[OA],rfl,rfl,⟨Z9,Z9⟩,λ_ _=>⟨xv,⟨by(first|rfl|trivial),by(first|rfl|trivial)⟩,(),⟨by(first|rfl|trivial),hN,FT,hB _ (Up hk hq (by rw[show(p.1.levels.findIdx? λy=>xH 1 i.m.lv.dm y.dm)=ax from hb];rfl))⟩,gg⟩⟩) (λc=>absurd (show(-1:Int)<0 by decide) c)
def y5f:My.ok Tryz.prog 142:=gu mixed (dw Y9 (dw z2l (dw yTr (dw yPd (dw yDl (dw yFu fg)))))) 0 (λ_=>[]) (λ_=>[]) [] Tryz.func142 xHe
def xIn (i:El) (h:Mx.dp i):xFo i:=by
 obtain⟨hs,FR,hl,qf⟩:i.m.side=2/\i.m.iL i.v.length=0/\i.v.length<=1000000/\xX i.v:=h;have uk:(i.v.map zA).length=i.v.length:=gy _;obtain⟨⟨f1,f2⟩,f3,f4,f5⟩:=Vi FR;have hN:i.m.inst.toNat<(i.v.map zA).length:=by omega
 obtain⟨p,hp⟩:=z6 (l:=i.v) (i:=i.m.inst.toNat) oM;have RQ:(i.v.map zA)[i.m.inst.toNat]? =aw (zA p):=by rw[rf,hp];rfl
 have Cf:=qf.2 p (ku hp);have z0:((0:Nat)+(nat_lit 2-Nat.succ (nat_lit 0)) % ((2:Int) ^ aj.bits).natAbs*(5:Nat)+(0:Nat))=5:=by decide
 have z1:((0:Nat)+(nat_lit 2-Nat.succ (nat_lit 0)) % ((2:Int) ^ aj.bits).natAbs*(5:Nat)+(1:Nat))=6:=by decide
 have z4:((0:Nat)+(nat_lit 2-Nat.succ (nat_lit 0)) % ((2:Int) ^ aj.bits).natAbs*(5:Nat)+(4:Nat))=9:=by decide
 have hA:=yTd hp;rw[eg (show ¬i.m.side=1 by omega)]at hA;unfold xFo Q4 Q7 QG QJ QK QS QW QZ Ya fa dx Qi Qn Qv qU wB U3 qK dI;simp only[z0,z1,z4];refine⟨⟨i.v.length,i.m⟩,by rw[uk],rfl,rfl,hs,iJ ⟨rfl,trivial,λ_ _=>Cv.dp.mk (λe=> ?_) (λ_=>⟨⟨i.v,i.m.inst.toNat,ao⟩,rfl,⟨Z9,hl,qf⟩,λ_ _=>⟨⟨f1,by rw[uk];exact f2⟩,Cv.dp.mk (λhi=> ?_) (λhi=> ?_)⟩⟩)⟩⟩
 ·exfalso;simp[FR]at e
 ·have Sg:(⟨i.v,i.m.inst.toNat,ao⟩:oX).f=5:=rfl;have Ee:(⟨i.v,i.m.inst.toNat,ao⟩:oX).lv=p.2.levels.map ic:=by rw[oX.lv,Lr,hp];rfl
  have e0:A1 2 p.2 i.m=if 0<i.m.dr then⟨p.2.levels,i.m.lv,ao⟩else⟨p.2.levels,Ce,ap⟩:=by rw[A1,fc hi]
  rw[Sg,Ee];have a1:zJ (i.v.map zA) i.m.inst.toNat 6 [D.v (.int .i64 i.m.dm),D.v (.int .i64 i.m.dr),D.v (.int .i64 i.m.count)]=(i.v.map zA).set i.m.inst.toNat (zA (p.1,⟨p.2.levels,i.m.lv,p.2.has⟩)):=aA RQ rfl;have a2:∀b:Bool,zJ ((i.v.map zA).set i.m.inst.toNat (zA (p.1,⟨p.2.levels,i.m.lv,p.2.has⟩))) i.m.inst.toNat 9 [D.v (.bool b)]=(i.v.map zA).set i.m.inst.toNat (zA (p.1,⟨p.2.levels,i.m.lv,b⟩)):=λb=>Nt hN
  have a3:∀b:Bool,zJ ((i.v.map zA).set i.m.inst.toNat (zA (p.1,⟨p.2.levels,i.m.lv,b⟩))) i.m.inst.toNat 6 [D.v (.int .i64 0),D.v (.int .i64 0),D.v (.int .i64 0)]=(i.v.map zA).set i.m.inst.toNat (zA (p.1,⟨p.2.levels,Ce,b⟩)):=λb=>Nt hN
  have a4:∀(y:Lv) (b:Bool),zJ ((i.v.map zA).set i.m.inst.toNat (zA (p.1,⟨p.2.levels,y,b⟩))) i.m.inst.toNat 5 [D.ro 3 (p.2.levels.map ic)]=(i.v.map zA).set i.m.inst.toNat (zA (p.1,⟨p.2.levels,y,b⟩)):=λy b=>Nt hN
  have a5:∀b:Bool,zD ((i.v.map zA).set i.m.inst.toNat (zA (p.1,⟨p.2.levels,i.m.lv,b⟩))) i.m.inst.toNat 9 1=aw [D.v (.bool b)]:=λb=>by
   rw[zD,Ca,fc rfl,fc hN];rfl
  simp only[a1,a2,a3,a4,qm];refine⟨⟨by(first|rfl|trivial),hN,Z8,Z8,λ_ _=> .inr Z8⟩,by(first|rfl|trivial),⟨by(first|rfl|trivial),hN,Z8,Z8,λ_ _=> .inr Z8⟩,_,a5 _,⟨Z8,λ_ _=> .inr Z8⟩,Cv.dp.mk (λhb=>⟨⟨by(first|rfl|trivial),hN,Z8,Z8,λ_ _=> .inr Z8⟩,(),⟨by(first|rfl|trivial),hN,Z8,?_⟩,gg⟩) (λhb=>⟨(),⟨by(first|rfl|trivial),hN,Z8,?_⟩,gg⟩)⟩
  ·have hq:¬0<i.m.dr:=by simpa using hb
   rw[hA,e0,eg hq,jt (show ¬i.m.dr>0 from hq)]
  ·have hq:0<i.m.dr:=by simpa using hb
   rw[hA,e0,fc hq,jk (show i.m.dr>0 from hq)]
 ·have Sg:(⟨i.v,i.m.inst.toNat,ao⟩:oX).f=5:=rfl;have Ee:(⟨i.v,i.m.inst.toNat,ao⟩:oX).lv=p.2.levels.map ic:=by rw[oX.lv,Lr,hp];rfl
  have e0:=yPp (s:=2) (x:=p.2) (m:=i.m) (by simp[hi]);rw[e0]at hA;have hh:i.m.inst.toNat=i.m.inst.toNat/\5=(⟨i.v,i.m.inst.toNat,ao⟩:oX).f/\True/\i.m.inst.toNat<(i.v.map zA).length/\5<10:=⟨rfl,rfl,trivial,hN,Z8⟩
  have FT:(⟨i.v,i.m.inst.toNat,ao⟩:oX).f<10:=by show 5<10;decide
  have xv:i.m.inst.toNat<(i.v.map zA).length/\5<10:=⟨hN,Z8⟩
  have hB:∀l:List (List D),(jQ 2 p.2.levels i.m.lv).map ic=l->(sm i.v i.m).map zA=zJ (i.v.map zA) i.m.inst.toNat 5 [D.ro 3 l]:=λl e=>by
   subst e;rw[hA];exact Eq.symm (aA (f:=5) (ds:=[D.ro 3 ((jQ 2 p.2.levels i.m.lv).map ic)]) RQ rfl)
  have OA:(p.2.levels.map ic).length=p.2.levels.length:=gy _;have e1:2=i.m.side:=hs.symm;refine⟨hh,.inl ⟨⟨p.2.levels,i.m⟩,Ee.symm,rfl,rfl,hs,iJ ⟨rfl,Z9,λ_ _=> ?_⟩⟩⟩;dsimp only;cases hk:p.2.levels.findIdx? (λy=>decide (y.dm=i.m.dm))with
  |some k=>
   have o6:=UQ hk;refine zH (λ_=>Cv.dp.mk (λhq=>⟨hh,⟨p.2.levels.map ic,k,k+1⟩,rfl,?_,rfl,⟨Z9,Z9⟩,λ_ _=>⟨xv,⟨by(first|rfl|trivial),by(first|rfl|trivial)⟩,(),⟨by(first|rfl|trivial),hN,FT,hB _ (ySq hk (by show i.m.dr=0;simpa using hq))⟩,gg⟩⟩) (λhq=>zH (λ_=>⟨hh,⟨by show(0:Int)<=(k:Int);omega,by show(k:Int)<_;omega⟩,by show k<_;omega,(),⟨by(first|rfl|trivial),hN,FT,hB _ (yPm hk (by show ¬i.m.dr=0;simpa using hq) o6)⟩,gg⟩) (λc=>absurd (show(0:Int)<=(k:Int)by omega) c))) (λc=>absurd (show(0:Int)<=(k:Int)by omega) c);show((k+1:Nat):Int)=aj.wrap ((k:Int)+1);rw[iq (by omega)];rfl
  |none=>
   refine zH (λc=>absurd c Z8) (λ_=>zH (λc=>absurd c Z8) (λ_=>zH (λhq=>⟨hh,.inr ⟨⟨p.2.levels,i.m⟩,oF ⟨rfl,Z9,λ_ _=> ?_⟩⟩⟩) (λhq=>⟨(),⟨by(first|rfl|trivial),hN,FT,hB _ (by rw[yHe hk hq])⟩,gg⟩)));dsimp only;rw[hs];cases hb:p.2.levels.findIdx? (λy=>xH 2 i.m.dm y.dm)with
   |some k=>
    have o6:=UQ hb;exact zH (λc=>absurd c (by show ¬(k:Int)<0;omega)) (λ_=>⟨hh,⟨hh,trivial⟩,⟨p.2.levels.map ic,ic i.m.lv,k⟩,rfl,rfl,rfl,⟨Z9,Z9⟩,λ_ _=>⟨xv,⟨by(first|rfl|trivial),by(first|rfl|trivial)⟩,(),⟨by(first|rfl|trivial),hN,FT,hB _ (Up hk hq (by rw[show(p.2.levels.findIdx? λy=>xH 2 i.m.lv.dm y.dm)=aw k from hb];rfl))⟩,gg⟩⟩)
   |none=>
    exact zH (λ_=>⟨hh,hh,⟨hh,trivial⟩,⟨p.2.levels.map ic,ic i.m.lv,p.2.levels.length⟩,by rw[OA],rfl,rfl,⟨Z9,Z9⟩,λ_ _=>⟨xv,⟨by(first|rfl|trivial),by(first|rfl|trivial)⟩,(),⟨by(first|rfl|trivial),hN,FT,hB _ (Up hk hq (by rw[show(p.2.levels.findIdx? λy=>xH 2 i.m.lv.dm y.dm)=ax from hb];rfl))⟩,gg⟩⟩) (λc=>absurd (show(-1:Int)<0 by decide) c)
def y7z:Mx.ok Tryz.prog 142:=gu mixed (dw Y9 (dw z2l (dw yTr (dw yPd (dw yDl (dw yFu fg)))))) 0 (λ_=>[]) (λ_=>[]) [] Tryz.func142 xIn
def yRg:C3.ok Tryz.prog 142:=by
 intro i h;obtain⟨FR,hl,qf⟩:i.m.iL i.v.length=0/\i.v.length<=1000000/\xX i.v:=h;obtain⟨_,f3,_⟩:=Vi FR;rcases f3 with e|e
 ·have:=y5f i ⟨e,FR,hl,qf⟩;have e2:C3.pat i=My.pat i:=by
   show[zw i.v,Ic i.m]=[zw i.v,V.agg [zB i.m.seq,zB i.m.inst,zB 1,zB i.m.dm,zB i.m.dr,zB i.m.count,yL i.m.fx]];rw[Ic,e]
  intro k L E w ys R hv;rw[e2]at hv;exact this k L E w ys R hv
 ·have:=y7z i ⟨e,FR,hl,qf⟩;have e2:C3.pat i=Mx.pat i:=by
   show[zw i.v,Ic i.m]=[zw i.v,V.agg [zB i.m.seq,zB i.m.inst,zB 2,zB i.m.dm,zB i.m.dr,zB i.m.count,yL i.m.fx]];rw[Ic,e]
  intro k L E w ys R hv;rw[e2]at hv;exact this k L E w ys R hv
def y1d:∀{l:List zK} {v:Lv},v∈xx l->(1<=v.count/\v.count<=l.length)/\∃o∈l,o.dm=v.dm
 |[],v,h=>by cases h
 |o::l,v,h=>by
  have ih:∀v∈xx l,(1<=v.count/\v.count<=l.length)/\∃o∈l,o.dm=v.dm:=λv hv=>y1d hv
  rw[xx]at h;rw[iC];split at h
  ·rw[uc]at h;subst h;exact⟨Z9,o,iS,rfl⟩
  ·rename_i w ws e;rw[e]at ih;have hw:=ih w iS;split at h
   ·rename_i ep;rcases jq.1 h with rfl|h
    ·exact⟨Z9,o,iS,ep.symm⟩
    ·obtain⟨a,x,hx,hp⟩:=ih v (jc _ h);exact⟨oM,x,jc _ hx,hp⟩
   ·rcases jq.1 h with rfl|h
    ·exact⟨Z9,o,iS,rfl⟩
    ·obtain⟨a,x,hx,hp⟩:=ih v h;exact⟨oM,x,jc _ hx,hp⟩
def yDf:∀l:List zK,(xx l).length<=l.length
 |[]=>lh 0
 |o::l=>by
  have ih:=yDf l;rw[xx,iC];cases e:xx l with
  |nil=>simp
  |cons w ws=>
   rw[e,iC]at ih;dsimp only;split
   ·rw[iC];omega
   ·rw[iC,iC];omega
def xAe {s:Int} {L:List Lv} (h:cN s L) (hp:∀l∈L,1<=l.dr/\1<=l.count) (i:Nat):vx s L i:=by
 intro a ha;have hm:=hp a (ku ha);refine⟨hm.1,hm.2,?_⟩;rintro j b rfl hb;obtain⟨h1,e1⟩:=jf.1 ha;obtain⟨h2,e2⟩:=jf.1 hb;have:=(List.pairwise_iff_getElem.1 h) j (j+1) h2 h1 (LC j);rw[e1,e2]at this;exact this
def yHb {p:ff} {B:List (List zK)} (h:uh p B) {k:Nat} {L:List zK} (hL:B[k]? =aw L) {s:Int} (hs:s=1\/s=2):
 (∀i,vx s (gY L s) i)/\(gY L s).length<=255/\∀l∈gY L s,(1<=l.dr/\l.dr<=250000000)/\l.fit:=by
 obtain⟨h1,h2,h3⟩:=h.od k L hL;have hf:(L.filter λo=>decide (o.side=s)).length<=L.length:=Ij _ _;have hl:=yDf (L.filter λo=>decide (o.side=s));have tf:∀l∈gY L s,(1<=l.dr/\l.dr<=250000000)/\(1<=l.count/\l.count<=250)/\(-2000000<=l.dm/\l.dm<=2000000):=λl hm=>by
  have q:=Xa (λo ho=>h1 o (wb.1 ho).1) hm;obtain⟨c,o,ho,e⟩:=y1d hm;have hp:=h.ok.yg hL o (wb.1 ho).1;rw[e]at hp;exact⟨oM,oM,hp⟩
 refine⟨xAe (yXx h hL hs).1 λl hm=>⟨(tf l hm).1.1,(tf l hm).2.1.1⟩,by rw[gY];omega,λl hm=> ?_⟩;obtain⟨a,b,c⟩:=tf l hm;exact⟨a,⟨oM,oM⟩,⟨oM,oM⟩,⟨oM,oM⟩⟩
def z6s {p:ff} {B:List (List zK)} (h:uh p B) {k:Nat} {L:List zK} (hL:B[k]? =aw L) {s:Int} (hs:s=1\/s=2) (hb:(iA L s).2=ao):1<=(iA L s).1.dr/\(iA L s).1.dr<=250000000:=by
 have hm:(iA L s).1∈gY L s:=by
  rw[iA]at hb ⊢;split at hb
  ·cases hb
  ·rename_i v vs e;rw[e];exact iS
 exact((yHb h hL hs).2.2 _ hm).1
def y1c {p:ff} {B:List (List zK)} (h:uh p B) {i s:Int} (hi:0<=i/\i<(B.map qA).length) (hs:s=1\/s=2) (hh:((B.map qA).getD i.toNat jw).has s=ao):1<=((B.map qA).getD i.toNat jw).dr s/\((B.map qA).getD i.toNat jw).dr s<=250000000:=by
 rw[gy]at hi;obtain⟨L,hL⟩:=z6 (l:=B) (i:=i.toNat) oM;have e:(B.map qA).getD i.toNat jw=qA L:=by rw[oc,rf,hL];rfl
 rw[e]at hh ⊢;obtain⟨t1,t2,t3,t4,t5,t6⟩:=UR L;rcases hs with rfl|rfl
 ·rw[jv.has,fc rfl,t3]at hh;rw[jv.dr,fc rfl,t2];exact z6s h hL (.inl rfl) hh
 ·rw[jv.has,eg (by decide),t6]at hh;rw[jv.dr,eg (by decide),t5];exact z6s h hL (.inr rfl) hh
def yVi {p:ff} {B:List (List zK)} (h:uh p B) {n s:Int} (hs:s=1\/s=2) {q:Quote} (hq:q∈xN ⟨p,B.map qA,n⟩ s):(1<=q.dr/\q.dr<=250000000)/\(-2000000<=q.dm/\q.dm<=2000000):=by
 rw[xN,wb]at hq;obtain⟨ok,-⟩:=yGi h.ok.pc (by rw[gy,h.ok.bl]) hs hq.1;have qa:=y1c h ok.a ok.sa ok.ha;have qb:=y1c h ok.b ok.sb ok.hb;have hp:p.dm n q.dm=0:=by simpa using hq.2
 exact⟨by rw[ok.dr];omega,Pv h.ok.pc hp⟩
def zKz (b:Quote) {M:Int}:∀(l:List Quote) (a:Int×Int),(∀q∈l,1<=q.dr/\q.dr<=M)->1<=a.1->a.1<=M->
 (1<=(l.foldl (λa q=>if q.dm=b.dm then(if q.dr>a.1 then q.dr else a.1,a.2+1)else a) a).1/\(l.foldl (λa q=>if q.dm=b.dm then(if q.dr>a.1 then q.dr else a.1,a.2+1)else a) a).1<=M)/\
 a.2<=(l.foldl (λa q=>if q.dm=b.dm then(if q.dr>a.1 then q.dr else a.1,a.2+1)else a) a).2/\(l.foldl (λa q=>if q.dm=b.dm then(if q.dr>a.1 then q.dr else a.1,a.2+1)else a) a).2<=a.2+l.length/\
 (b∈l->a.2+1<=(l.foldl (λa q=>if q.dm=b.dm then(if q.dr>a.1 then q.dr else a.1,a.2+1)else a) a).2)
 |[],a,_,h1,h2=>⟨⟨h1,h2⟩,xq _,by simp,λh=>by cases h⟩
 |q::l,a,hq,h1,h2=>by
  have q0:=hq q iS;rw[A7,iC];by_cases e:q.dm=b.dm
  ·rw[fc e];obtain⟨r1,r2,r3,r4⟩:=zKz b (M:=M) l (if q.dr>a.1 then q.dr else a.1,a.2+1) (λx hx=>hq x (jc _ hx)) (by dsimp only;split<;>omega) (by dsimp only;split<;>omega);dsimp only at r2 r3;exact⟨r1,oM,oM,λ_=>r2⟩
  ·rw[eg e];obtain⟨r1,r2,r3,r4⟩:=zKz b (M:=M) l a (λx hx=>hq x (jc _ hx)) h1 h2;refine⟨r1,r2,oM,λhb=> ?_⟩;rcases jq.1 hb with rfl|hb
   ·exact absurd rfl e
   ·exact r4 hb
def yTn {l:List Quote} {s:Int} (hl:l.length<=100) (h:∀q∈l,(1<=q.dr/\q.dr<=250000000)/\(-2000000<=q.dm/\q.dm<=2000000)):
 ((qZ l s).2=ao->1<=(qZ l s).1.dr/\1<=(qZ l s).1.count)/\((qZ l s).2=ap->(qZ l s).1=⟨0,0,0⟩)/\(qZ l s).1.fit:=by
 by_cases e:(zZ l s).2=ao
 ·have hm:=zKp e;have hb:=h _ hm;have:=zKz (zZ l s).1 (M:=250000000) l ((zZ l s).1.dr,0) (λq hq=>(h q hq).1) hb.1.1 hb.1.2;have e2:qZ l s=(⟨(zZ l s).1.dm,(cO l (zZ l s).1).1,(cO l (zZ l s).1).2⟩,ao):=by rw[qZ,fc e]
  rw[e2];rw[<- cO]at this;obtain⟨r1,r2,r3,r4⟩:=this;have r4:=r4 hm;dsimp only at r2 r3 r4 ⊢;exact⟨λ_=>⟨r1.1,oM⟩,λx=>(by cases x),⟨Z9,Z9⟩,⟨Z9,Z9⟩,⟨Z9,Z9⟩⟩
 ·have e2:qZ l s=(⟨0,0,0⟩,ap):=by rw[qZ,eg e]
  rw[e2];exact⟨λx=>(by cases x),λ_=>rfl,⟨Z8,Z8⟩,⟨Z8,Z8⟩,⟨Z8,Z8⟩⟩
def zHh {p:ff} {B:List (List zK)} (h:uh p B):wF (yD p B)/\PY (yD p B)/\xX (yD p B):=by
 have hc:=xF p;have hlen:=V0 p B;have oY:∀k,k<p.count->∀s,s=1\/s=2->oa s (tD p B k s)/\(tD p B k s).fit:=λk hk s hs=>by
  obtain⟨L,hL⟩:=z6 (l:=B) (i:=k) (by rw[h.ok.bl];exact hk);have e:B.getD k []=L:=zY hL;obtain⟨a1,a2,a3⟩:=yHb h hL hs;obtain⟨b1,b2,b3⟩:=yTn (s:=s) (zAr ⟨p,B.map qA,k⟩ s) (λq hq=>yVi h hs hq);rw[tD,e];exact⟨⟨a1,a2,b1,b2⟩,λx hx=>(a3 x hx).2,b3⟩
 have tw:∀b∈yD p B,∃k,k<p.count/\b=(tD p B k 1,tD p B k 2):=λb hb=>by
  rw[yD]at hb;obtain⟨k,hk,rfl⟩:=oe.1 hb;exact⟨k,CB.1 hk,rfl⟩
 refine⟨⟨λb hb=> ?_,oM⟩,λb hb=> ?_,⟨oM,λb hb=> ?_⟩⟩
 ·obtain⟨k,hk,rfl⟩:=tw b hb;exact⟨(oY k hk 1 (.inl rfl)).1,(oY k hk 2 (.inr rfl)).1⟩
 ·obtain⟨k,hk,rfl⟩:=tw b hb;exact⟨(oY k hk 1 (.inl rfl)).2,(oY k hk 2 (.inr rfl)).2⟩
 ·obtain⟨k,hk,rfl⟩:=tw b hb;have a:=(oY k hk 1 (.inl rfl)).1.2.1;have c:=(oY k hk 2 (.inr rfl)).1.2.1;dsimp only;omega
structure AA (p:ff) (v:Vw):Prop where
 r:wF v
 f:PY v
 s:xX v
 len:v.length=p.count
def Nq {p:ff} {B:List (List zK)} (h:uh p B):AA p (yD p B):=⟨(zHh h).1,(zHh h).2.1,(zHh h).2.2,V0 p B⟩
def OW {s:Int}:∀{L:List Lv},(∀i,vx s L i)->cN s L/\∀l∈L,1<=l.dr/\1<=l.count
 |[],_=>⟨List.Pairwise.nil,λl h=>by cases h⟩
 |x::L,h=>by
  have hL:∀i,vx s L i:=λi a ha=>by
   obtain⟨h1,h2,h3⟩:=h (i+1) a (by simpa using ha);exact⟨h1,h2,λj b e hb=>h3 (j+1) b oM (by simpa using hb)⟩
  obtain⟨i1,i2⟩:=OW hL;obtain⟨h1,h2,_⟩:=h 0 x rfl;refine⟨yt.2 ⟨?_,i1⟩,λl hl=> ?_⟩
  ·cases L with
   |nil=>intro a ha;cases ha
   |cons y L=>
    have hy:je s x.dm y.dm=ao:=(h 1 y rfl).2.2 0 x rfl rfl;intro a ha;rcases jq.1 ha with rfl|ha
    ·exact hy
    ·exact tG hy ((yt.1 i1).1 a ha)
  ·rcases jq.1 hl with rfl|hl
   ·exact⟨h1,h2⟩
   ·exact i2 l hl
def Wk {v:Vw} (h:wF v):WR v:=λp hp=>by
 obtain⟨⟨a1,a2,a3,a4⟩,⟨b1,b2,b3,b4⟩⟩:=h.1 p hp;obtain⟨s1,p1⟩:=OW a1;obtain⟨s2,p2⟩:=OW b1;exact⟨⟨s1,λl hl=>(p1 l hl).1,λx=>(a3 x).1,a4⟩,⟨s2,λl hl=>(p2 l hl).1,λx=>(b3 x).1,b4⟩⟩
def P0:gr 0:=⟨Z8,Z8⟩
def J9 (x:Sd):Prop:=(∀l∈x.levels,(1<=l.dr/\1<=l.count)/\l.fit)/\(x.has=ao->1<=x.imp.dr/\1<=x.imp.count)/\x.imp.fit
def y3a {p:ff} {v:Vw} (h:AA p v):∀b∈v,J9 b.1/\J9 b.2:=λb hb=>by
 obtain⟨⟨a1,a2,a3,a4⟩,⟨b1,b2,b3,b4⟩⟩:=h.r.1 b hb;obtain⟨⟨f1,f2⟩,⟨g1,g2⟩⟩:=h.f b hb;exact⟨⟨λl hl=>⟨(OW a1).2 l hl,f1 l hl⟩,a3,f2⟩,⟨λl hl=>⟨(OW b1).2 l hl,g1 l hl⟩,b3,g2⟩⟩
def sF {s:Int}:∀(k:Nat) (X Y:List Lv),∀m∈x7 s k X Y,m∈Y\/∃x∈X,m=⟨x.dm,0,0⟩
 |0,_,_,m,h=>by rw[x7]at h;cases h
 |k+1,[],[],m,h=>by rw[x7]at h;cases h
 |k+1,x::X,[],m,h=>by
  rw[x7]at h;rcases jq.1 h with rfl|h
  ·exact .inr ⟨x,iS,rfl⟩
  ·rcases sF k X [] m h with h|⟨z,hz,e⟩
   ·cases h
   ·exact .inr ⟨z,jc _ hz,e⟩
 |k+1,[],y::Y,m,h=>by
  rw[x7]at h;rcases jq.1 h with rfl|h
  ·exact .inl iS
  ·rcases sF k [] Y m h with h|⟨z,hz,e⟩
   ·exact .inl (jc _ h)
   ·cases hz
 |k+1,x::X,y::Y,m,h=>by
  rw[x7]at h;split at h
  ·rcases jq.1 h with rfl|h
   ·exact .inr ⟨x,iS,rfl⟩
   ·rcases sF k X (y::Y) m h with h|⟨z,hz,e⟩
    ·exact .inl h
    ·exact .inr ⟨z,jc _ hz,e⟩
  ·split at h
   ·rcases jq.1 h with rfl|h
    ·exact .inl iS
    ·rcases sF k (x::X) Y m h with h|h
     ·exact .inl (jc _ h)
     ·exact .inr h
   ·rcases oK.1 h with h|h
    ·split at h
     ·cases h
     ·rw[uc]at h;subst h;exact .inl iS
    ·rcases sF k X Y m h with h|⟨z,hz,e⟩
     ·exact .inl (jc _ h)
     ·exact .inr ⟨z,jc _ hz,e⟩
structure Lq (n:Nat) (m:VM):Prop where
 inst:m.inst<n
 side:m.side=1\/m.side=2
 q:0<=m.l.dr/\0<=m.l.count
 e:m.l.dr=0↔m.l.count=0
 f:m.l.fit
def z4d {n N:Nat} {s:Int} {a b:Sd} (hn:n<N) (hs:s=1\/s=2) (ha:J9 a) (hb:J9 b):∀m∈xU n s a b,Lq N m:=by
 intro m hm;rw[xU,oK]at hm;rcases hm with hm|hm
 ·obtain⟨l,hl,rfl⟩:=oe.1 hm;rcases sF _ _ _ l hl with h|⟨x,hx,rfl⟩
  ·obtain⟨⟨h1,h2⟩,h3⟩:=hb.1 l h;exact⟨hn,hs,⟨Z9,Z9⟩,⟨λ_=>by dsimp only at*;omega,λ_=>by dsimp only at*;omega⟩,h3⟩
  ·exact⟨hn,hs,⟨xq _,xq _⟩,⟨λ_=>rfl,λ_=>rfl⟩,⟨(ha.1 x hx).2.1,P0,P0⟩⟩
 ·split at hm
  ·rw[uc]at hm;subst hm;have hI:(0<=(Cr b).dr/\0<=(Cr b).count)/\((Cr b).dr=0↔(Cr b).count=0)/\(Cr b).fit:=by
    rw[Cr];split
    ·rename_i h;have:=hb.2.1 h;exact⟨⟨oM,oM⟩,⟨λ_=>by omega,λ_=>by omega⟩,hb.2.2⟩
    ·exact⟨⟨xq _,xq _⟩,⟨λ_=>rfl,λ_=>rfl⟩,⟨P0,P0,P0⟩⟩
   exact⟨hn,hs,hI.1,hI.2.1,hI.2.2⟩
  ·cases hm
def yHi:∀(n:Nat) (A B:Vw),(∀p∈A,J9 p.1/\J9 p.2)->(∀p∈B,J9 p.1/\J9 p.2)->∀m∈xQ n A B,Lq (n+A.length) m
 |n,[],_,_,_,m,h=>by rw[xQ]at h<;>first|cases h|simp
 |n,a::A,[],_,_,m,h=>by rw[xQ]at h<;>first|cases h|simp
 |n,a::A,b::B,hA,hB,m,h=>by
  rw[xQ,oK,oK]at h;have ha:=hA a iS;have hb:=hB b iS;rw[iC];rcases h with(h|h)|h
  ·exact z4d oM (.inl rfl) ha.1 hb.1 m h
  ·exact z4d oM (.inr rfl) ha.2 hb.2 m h
  ·have:=yHi (n+1) A B (λp hp=>hA p (jc _ hp)) (λp hp=>hB p (jc _ hp)) m h;rwa [show n+1+A.length=n+(A.length+1)by omega]at this
def Wv {p:ff} {v:Vw} (h:AA p v):Vw.pw v<=510*v.length:=by
 have:∀{v:Vw},(∀b∈v,oa 1 b.1/\oa 2 b.2)->Vw.pw v<=510*v.length:=by
  intro v
  induction v with
  |nil=>intro _;exact lh _
  |cons a v ih=>
   intro h;have ha:=h a iS;have:=ih λb hb=>h b (jc _ hb)
   have h1:=ha.1.2.1;have h2:=ha.2.2.1;rw[Vw.pw]at this ⊢;rw[jj,rk,iC];omega
 exact this h.r.1
def yWs {p:ff} {v w:Vw} (hv:AA p v) (hw:AA p w):(xQ 0 v w).length<=300000:=by
 have h1:=Wv hv;have h2:=Wv hw;have h3:=hv.len;have h4:=hw.len;have h5:=hv.r.2;have h6:=hw.r.2;have:=W9 v w v.length (lh _) oM;rw[zr,show w.take v.length=w by rw[mo (by omega)]]at this;omega
def ofM (m:gh):VM:=⟨m.inst.toNat,m.side,m.lv,m.fx⟩
def Bv (seq:Int) (m:VM):gh:=⟨seq,m.inst,m.side,m.l.dm,m.l.dr,m.l.count,m.imp⟩
def xBe (seq:Int) (m:VM):ofM (Bv seq m)=m:=rfl
def yFj:∀{M:List VM} {seq:Int} {k:Nat} {x:VM},M[k]? =aw x->(jY seq M)[k]? =aw (Bv (seq+k+1) x)
 |[],seq,k,x,h=>by cases h
 |m::M,seq,0,x,h=>by
  cases h;rw[jY,CC,Int.natCast_zero,Int.add_zero];rfl
 |m::M,seq,k+1,x,h=>by
  rw[jY,Bd,yFj (M:=M) (by simpa using h)];congr 2;omega
def yFs:∀(M:List VM) (seq:Int),(jY seq M).length=M.length
 |[],_=>rfl
 |m::M,seq=>by rw[jY,iC,iC,yFs M]
def Lj (v:Vw):Prop:=∀p∈v,cN 1 p.1.levels/\cN 2 p.2.levels
def A6 (n:Nat) (v:Vw):Prop:=∀p∈v,p.1.levels.length<=n/\p.2.levels.length<=n
def yCp (s:Int) (m:Lv):∀L:List Lv,(mD s L m).length<=L.length+1
 |[]=>by rw[mD];split<;>simp
 |x::L=>by
  have:=yCp s m L;rw[mD];split
  ·split
   ·rw[iC];omega
   ·simp
  ·split
   ·split<;>simp
   ·rw[iC,iC];omega
def yFq {v:Vw} {m:VM} {q:Sd×Sd} (h:q∈bQ v m):q∈v\/∃p∈v,q=b9 p m:=by
 rw[bQ]at h;obtain⟨k,hk⟩:=Bt.1 h;rw[FA]at hk;cases e:v[k]? with
 |none=>rw[e]at hk;cases hk
 |some x=>
  rw[e]at hk;have hx:=ku e;have hk:(if m.inst=k then b9 x m else x)=q:=Option.some.inj hk;split at hk
  ·exact .inr ⟨x,hx,hk.symm⟩
  ·exact .inl (hk▸hx)
def yYx {v:Vw} {m:VM} (h:Lj v):Lj (bQ v m):=λq hq=>by
 rcases yFq hq with hq|⟨p,hp,rfl⟩
 ·exact h q hq
 ·obtain⟨h1,h2⟩:=h p hp;rw[b9];split
  ·refine⟨?_,h2⟩;rw[vC];split
   ·split<;>exact h1
   ·exact UL h1
  ·refine⟨h1,?_⟩;rw[vC];split
   ·split<;>exact h2
   ·exact UL h2
def yWj {v:Vw} {m:VM} {n:Nat} (h:A6 n v):A6 (n+1) (bQ v m):=λq hq=>by
 rcases yFq hq with hq|⟨p,hp,rfl⟩
 ·have:=h q hq;omega
 ·obtain⟨h1,h2⟩:=h p hp;have key:∀s (x:Sd),x.levels.length<=n->(vC s x m).levels.length<=n+1:=λs x hx=>by
   rw[vC];split
   ·split<;>exact Rc hx
   ·have:=yCp s m.l x.levels;show(mD s x.levels m.l).length<=n+1;omega
  rw[b9];split
  ·exact⟨key 1 p.1 h1,Rc h2⟩
  ·exact⟨Rc h1,key 2 p.2 h2⟩
def yCw {s:Int} {x:Sd} {m:gh} (hs:cN s x.levels) (hq:0<=m.dr):A1 s x m=vC s x (ofM m):=by
 rw[A1,vC];show(if m.fx=ao then _ else _)=(if m.fx=ao then _ else _);split
 ·rfl
 ·rw[zWh (m:=m.lv) hq hs];rfl
def y7e {v:Vw} {m:gh} (hs:Lj v) (hf:m.iL v.length=0):sm v m=bQ v (ofM m):=by
 obtain⟨_,f3,f4,_⟩:=Vi hf;rw[sm,bQ];apply Dd;intro k;rw[FA,FA];cases e:v[k]? with
 |none=>rfl
 |some x=>
  obtain⟨h1,h2⟩:=hs x (ku e);show aw (if m.inst.toNat=k then _ else x)=aw (if m.inst.toNat=k then b9 x (ofM m)else x);congr 1;split
  ·rw[b9,yCw h1 f4.1,yCw h2 f4.1];rfl
  ·rfl
def yEs {n:Nat} {m:VM} (h:Lq n m) (seq:Int):(Bv seq m).iL n=0:=by
 obtain⟨h1,h2,h3,h4,_⟩:=h;rw[gh.iL];show(if(m.inst:Int)<0\/(n:Int)<=(m.inst:Int)then _ else if m.side≠1/\m.side≠2 then _ else if(m.l.dr<0\/m.l.count<0)\/¬(m.l.dr=0↔m.l.count=0)then _ else _)=_;rw[eg (by omega),eg (by omega),eg];rintro(x|x)
 ·omega
 ·exact x h4
def tm (c:Vw) (L:List VM) (k:Nat):Vw:=(L.take k).foldl bQ c
def y0x (c:Vw) (L:List VM):tm c L 0=c:=by rw[tm,EN];rfl
def z4w {c:Vw} {L:List VM} {k:Nat} {m:VM} (h:L[k]? =aw m):tm c L (k+1)=bQ (tm c L k) m:=by
 rw[tm,qx,h,Cb,JK];rfl
def yWp (c:Vw) (L:List VM):tm c L L.length=L.foldl bQ c:=by rw[tm,zr]
def z8i {c:Vw} (hs:Lj c) {n:Nat} (hl:A6 n c) (L:List VM):∀k,k<=L.length->Lj (tm c L k)/\A6 (n+k) (tm c L k)/\(tm c L k).length=c.length
 |0,_=>by rw[y0x];exact⟨hs,hl,rfl⟩
 |k+1,h=>by
  obtain⟨m,hm⟩:=z6 (l:=L) (i:=k) oM;obtain⟨h1,h2,h3⟩:=z8i hs hl L k oM;rw[z4w hm];exact⟨yYx h1,yWj h2,by rw[yZy,h3]⟩
def yTp {v:Vw} (h:WR v):Lj v:=λp hp=>⟨(h p hp).1.1,(h p hp).2.1⟩
def Uq {p:ff} {v:Vw} (h:AA p v):A6 255 v:=λb hb=>⟨(h.r.1 b hb).1.2.1,(h.r.1 b hb).2.2.1⟩
def zYr {v:Vw} {n:Nat} (h:A6 n v) (hn:n<=1000000) (hl:v.length<=1000000):xX v:=⟨oM,λb hb=>by have:=h b hb;omega⟩
def xGa {p:ff} {c:Vw} (h:AA p c) {L:List VM} (hL:L.length<=600000) {k:Nat} (hk:k<=L.length):Lj (tm c L k)/\xX (tm c L k)/\(tm c L k).length=p.count:=by
 obtain⟨h1,h2,h3⟩:=z8i (yTp (Wk h.r)) (Uq h) L k hk;have:=h.r.2;exact⟨h1,zYr h2 oM oM,by rw[h3,h.len]⟩
def yYz {p:ff} {c:Vw} (h:AA p c) {L:List VM} (hL:L.length<=600000) (hm:∀m∈L,Lq p.count m) {k:Nat} {x:VM} (hx:L[k]? =aw x) (seq:Int):
 (Bv seq x).iL (tm c L k).length=0/\(tm c L k).length<=1000000/\xX (tm c L k)/\sm (tm c L k) (Bv seq x)=tm c L (k+1):=by
 have hk:=(jf.1 hx).1;obtain⟨h1,h2,h3⟩:=xGa h hL (k:=k) oM;have hf:=yEs (hm x (ku hx)) seq;have:=xF p;rw[<- h3]at hf;exact⟨hf,oM,h2,by rw[y7e h1 hf,xBe,z4w hx]⟩
@[reducible] def wo (l:List UInt8):Prop:=l.length<=140737488355328
def qk:fy:=fi (List (List D)) (λl=>[ot 1 l]) (λ_=>[]) (λl=>l.length<=140737488355328) (λl=>ot 1 l) (λ_=>[])
def MO:fy:=fi (List UInt8) (λl=>[ot 1 (bE l)]) (λ_=>[]) (λl=>wo l) (λ_=> .nm 0 0) (λl=>[Rd l ap])
def ME:fy:=fi RN (λi=>[.nm 0 0,zB i.n]) (λi=>[Rd i.l i.b]) (λi=>i.n<=255/\wo i.l) (λi=>ot 1 (bE i.iN)) (λi=>[Rd i.left i.bad])
def KN:fy:=fi RN (λi=>[.nm 0 0,zB i.n]) (λi=>[Rd i.l i.b]) (λi=>i.n<=8/\wo i.l) (λi=>A0 (yU i.iN)) (λi=>[Rd i.left i.bad])
def I4:fy:=fi RB (λi=>[.nm 0 0]) (λi=>[Rd i.l i.b]) (λi=>wo i.l) (λi=>zB (yU (i.n 1).iN)) (λi=>[Rd (i.n 1).left (i.n 1).bad])
def I0:fy:=fi RB (λi=>[.nm 0 0]) (λi=>[Rd i.l i.b]) (λi=>wo i.l) (λi=>zB (aj.wrap (yU (i.n 8).iN))) (λi=>[Rd (i.n 8).left (i.n 8).bad])
def ML:fy:=fi RB (λi=>[.nm 0 0]) (λi=>[Rd i.l i.b]) (λi=>wo i.l) (λi=>zB (if i.b then 10 else if 0<i.l.length then 15 else 0)) (λi=>[Rd i.l i.b])
def Gy:fy:=fi (List UInt8) (λb=>[ot 1 (bE b)]) (λ_=>[]) (λb=>wo b) (λb=> .iZ [Ic (xL b).1,zB (xL b).2]) (λ_=>[])
def zWw (i:List (List D)):Prop:=
 ∀(b:Bool),(b=ao->i=[])->dp b (∃(o:Unit),i=[]/\True) ((0+i.length)*(1:Nat)<=(140737488355328:Nat)/\∃(o:Unit),i=[]++i/\True)
def z8d (i:List (List D)):zWw i=walk Tryz.prog ([]) 0 ([]) ([]) [] Tryz.f70 (Tryz.f70.body.getD .skip) (qk.pat i) (qk.pre i) (qk.alts i):=by kernel_rfl
def yCd (hG:zd Tryz.prog ([])) (h:∀(i:List (List D)),qk.dp i->zWw i):qk.ok Tryz.prog 70:=qY mixed ([]) hG 0 (λ(i:List (List D))=>[]) (λ(i:List (List D))=>[]) [] Tryz.func70 (by kernel_rfl) (by kernel_rfl) (by kernel_rfl) (λ_=>by kernel_rfl) (λ(i:List (List D)) hc=>Eq.mp (z8d i) (h i hc))
def y7t (i:List UInt8):Prop:=
 ∃(gx:List (List D)),gx=bE i/\gx.length<=140737488355328/\∀(o:Unit),True->∃(o:Unit),bE i=gx/\ap=ap/\True
def y8w (i:RN):Prop:=
 dp i.b (∃(o:Unit),bE i.iN=[]/\bE i.left=bE i.l/\i.bad=ao/\True) (dp (decide ((↑i.n:Int)>(↑(bE i.l).length:Int))) (∃(o:Unit),bE i.iN=[]/\bE i.left=bE i.l/\i.bad=decide ((↑i.n:Int)>(↑(bE i.l).length:Int))/\True) ((0<=(↑i.n:Int)/\(↑i.n:Int)<=(↑(bE i.l).length:Int))/\(0<=(↑i.n:Int)/\(↑i.n:Int)<=(↑(bE i.l).length:Int))/\∃(o:Unit),bE i.iN=ae (↑i.n:Int).toNat (bE i.l)/\bE i.left=af (↑i.n:Int).toNat (bE i.l)/\i.bad=decide ((↑i.n:Int)>(↑(bE i.l).length:Int))/\True))
def y2t (i:RN):Prop:=
 ∃(a:RN),(↑a.n:Int)=(↑i.n:Int)/\aq (List UInt8×Bool) 1 iP (a.l,a.b)=Rd i.l i.b/\(a.n<=255/\wo a.l)/\UX i a
def yXe (i:RB):Prop:=
 ∃(gx:RN),(↑gx.n:Int)=1/\aq (List UInt8×Bool) 1 iP (gx.l,gx.b)=Rd i.l i.b/\(gx.n<=8/\wo gx.l)/\∀(o:Unit),True->∃(o:Unit),yU (i.n 1).iN=aj.wrap (yU gx.iN)/\aq (List UInt8×Bool) 1 iP ((i.n 1).left,(i.n 1).bad)=aq (List UInt8×Bool) 1 iP (gx.left,gx.bad)/\True
def yVq (i:RB):Prop:=
 ∃(gx:RN),(↑gx.n:Int)=8/\aq (List UInt8×Bool) 1 iP (gx.l,gx.b)=Rd i.l i.b/\(gx.n<=8/\wo gx.l)/\∀(o:Unit),True->∃(o:Unit),aj.wrap (yU (i.n 8).iN)=aj.wrap (yU gx.iN)/\aq (List UInt8×Bool) 1 iP ((i.n 8).left,(i.n 8).bad)=aq (List UInt8×Bool) 1 iP (gx.left,gx.bad)/\True
def xAd (i:RB):Prop:=
 dp i.b (∃(o:Unit),(if i.b=ao then(10:Int)else if 0<i.l.length then(15:Int)else(0:Int))=10/\dl (bE i.l)/\i.b=i.b/\True) (dp (decide ((↑(bE i.l).length:Int)>0)) (∃(o:Unit),(if i.b=ao then(10:Int)else if 0<i.l.length then(15:Int)else(0:Int))=15/\dl (bE i.l)/\i.b=i.b/\True) (∃(o:Unit),(if i.b=ao then(10:Int)else if 0<i.l.length then(15:Int)else(0:Int))=0/\dl (bE i.l)/\i.b=i.b/\True))
def vX (a:RB):=(dI (aj.wrap (xY a)))
def V1 (a:Bool->Prop) (b:Bool) (c:RB) (d:RB) (e:RB) (f:RB) (g:RB) (h:RB) (j:RB) (k:RB):Prop:=a b/\aq (List UInt8×Bool) 1 iP (c.l,c.b)=aq (List UInt8×Bool) 1 iP ((d.n 1).left,(d.n 1).bad)/\ar [V.d (vX e),V.d (dI (yU (f.n 1).iN)),V.d (dI (yU (g.n 1).iN)),V.d (vX h),V.d (vX j),V.d (vX k),V.d (D.v (.bool (yU (d.n 1).iN==1)))] 78=ar [V.d (vX e),V.d (dI (yU (f.n 1).iN)),V.d (dI (yU (g.n 1).iN)),V.d (vX h),V.d (vX j),V.d (vX k),V.d (D.v (.bool (yU (d.n 1).iN==1)))] 78/\dl (ar (Sx.V.agg [V.d (dI 0),V.d (dI 0),V.d (dI 0),V.d (dI 0),V.d (dI 0),V.d (dI 0),V.d (D.v (.bool ap))]).cl 78)
def ZP (a:Bool->Prop) (b:RB) (c:RB) (d:RB) (e:RB) (f:RB) (g:RB) (h:RB) (j:RB):Prop:=∃(k:Bool),k=ao/\V1 a k b c d e f g h j
def yUj (b:List UInt8):Prop:=
 ∃(a:List UInt8),bE a=bE b/\wo a/\fa (∃(d:RB),aq (List UInt8×Bool) 1 iP (d.l,d.b)=aq (List UInt8×Bool) 1 iP (a,ap)/\wo d.l/\fa (∃(f:RB),aq (List UInt8×Bool) 1 iP (f.l,f.b)=aq (List UInt8×Bool) 1 iP ((d.n 8).left,(d.n 8).bad)/\wo f.l/\fa (∃(h:RB),aq (List UInt8×Bool) 1 iP (h.l,h.b)=aq (List UInt8×Bool) 1 iP ((f.n 1).left,(f.n 1).bad)/\wo h.l/\fa (∃(k:RB),aq (List UInt8×Bool) 1 iP (k.l,k.b)=aq (List UInt8×Bool) 1 iP ((h.n 1).left,(h.n 1).bad)/\wo k.l/\fa (∃(m:RB),aq (List UInt8×Bool) 1 iP (m.l,m.b)=aq (List UInt8×Bool) 1 iP ((k.n 8).left,(k.n 8).bad)/\wo m.l/\fa (∃(p:RB),aq (List UInt8×Bool) 1 iP (p.l,p.b)=aq (List UInt8×Bool) 1 iP ((m.n 8).left,(m.n 8).bad)/\wo p.l/\fa (∃(r:RB),aq (List UInt8×Bool) 1 iP (r.l,r.b)=aq (List UInt8×Bool) 1 iP ((p.n 8).left,(p.n 8).bad)/\wo r.l/\fa (∃(t:Bool),∃(u:Bool->Prop),(∃(v:RB),aq (List UInt8×Bool) 1 iP (v.l,v.b)=aq (List UInt8×Bool) 1 iP ((r.n 1).left,(r.n 1).bad)/\wo v.l/\fa (dp ((if v.b=ao then(10:Int)else if 0<v.l.length then(15:Int)else(0:Int)) !=0) (ZP u v r d f h k m p) (dp (decide (yU (r.n 1).iN>1)) (ZP u v r d f h k m p) (dp (yU (h.n 1).iN !=1) (∃(x:Bool),x=(yU (h.n 1).iN !=2)/\V1 u x v r d f h k m p) (∃(x:Bool),x=ap/\V1 u x v r d f h k m p)))))/\∀(v:Bool),u v->dp v (dx ((xL b).fst.seq=0/\(xL b).fst.inst=0/\(xL b).fst.side=0/\(xL b).fst.dm=0/\(xL b).fst.dr=0/\(xL b).fst.count=0/\(xL b).fst.fx=ap/\(xL b).snd=12/\True)) (dx ((xL b).fst.seq=aj.wrap (xY d)/\(xL b).fst.inst=yU (f.n 1).iN/\(xL b).fst.side=yU (h.n 1).iN/\(xL b).fst.dm=aj.wrap (xY k)/\(xL b).fst.dr=aj.wrap (xY m)/\(xL b).fst.count=aj.wrap (xY p)/\(xL b).fst.fx=(yU (r.n 1).iN==1)/\(xL b).snd=0/\True))))))))))
def z5v:qk.ok Tryz.prog 70:=yCd fg λi h=>λb hb=>
 Cv.dp.mk (λe=>⟨(),hb e,trivial⟩) (λ_=>⟨by have h:i.length<=140737488355328:=h;rw[nh,Nat.mul_one];exact h,(),rfl,trivial⟩)
def ySf:MO.ok Tryz.prog 132:=gu (V:=y7t) mixed (dw z5v fg) 0 (λ_=>[]) (λ_=>[]) [] Tryz.func132 λ(i:List UInt8) h=>by
 have h:i.length<=140737488355328:=h;exact⟨_,rfl,by rw[yV];exact h,λ_ _=>⟨(),rfl,rfl,trivial⟩⟩
def yLh:ME.ok Tryz.prog 210:=gu (V:=y8w) mixed fg 0 (λ_=>[]) (λ_=>[]) [0] Tryz.func210 λ(i:RN) h=>by
 obtain⟨h1,h2⟩:=h;have h2:i.l.length<=140737488355328:=h2;refine Cv.dp.mk (λe=> ?_) (λe=>zH (λgn=> ?_) (λgn=> ?_))
 ·have:i.bad=ao:=by simp[RN.bad,e]
  exact⟨(),by simp[RN.iN,this],by simp[RN.left,this],this,trivial⟩
 ·rw[yV]at gn;have:i.bad=ao:=by simp[RN.bad];right;omega
  exact⟨(),by simp[RN.iN,this],by simp[RN.left,this],by rw[this,yV];simp;omega,trivial⟩
 ·rw[yV]at gn;have:i.bad=ap:=by simp[RN.bad,e];omega
  rw[yV];exact⟨⟨oM,oM⟩,⟨oM,oM⟩,(),by simp[RN.iN,this,lQ],by simp[RN.left,this,eF],by rw[this];simp;omega,trivial⟩
def xAs (i:RN) (h:KN.dp i):y2t i:=by
 unfold y2t UX QP fa dx;obtain⟨h1,h2⟩:=h;refine⟨i,rfl,rfl,⟨oM,h2⟩,λ_ _=>⟨0,rfl,rfl,λj=>j<=i.iN.length,λj=>i.iN.length-j,Z9,λj hj=>zH (λgn=> ?_) (λgn=> ?_)⟩⟩
 ·dsimp only at hj;have hl:=Lc i;rw[yV]at gn ⊢;obtain⟨b,hb⟩:∃b,i.iN[j]? =aw b:=⟨_,u' oM⟩
  have e8:aj.wrap (8*(j:Int))=8*j:=iq oM;refine⟨⟨oM,oM⟩,b.toNat,dB hb,by rw[e8];omega,j+1,?_,?_,Z9,Z9,rfl⟩
  ·rw[e8,y1y,qx,hb];simp only[Cb];rw[ZK];obtain⟨r1,r2⟩:=uX (i.iN.take j);rw[ng,Fy (by omega)]at r2 ⊢;obtain⟨x,hx⟩:∃x:Nat,yU (i.iN.take j)=x:=⟨(yU (i.iN.take j)).toNat,oM⟩
   rw[hx]at r2 ⊢;have:=z5g (x:=x) (b:=b.toNat) (j:=j) (by exact_mod_cast r2) b.toNat_lt oM;rw[show(8*(j:Int))=((8*j:Nat):Int)by simp,this];simp
  ·rw[iq (by omega)];rfl
 ·dsimp only at hj;rw[yV]at gn;exact⟨(),by rw[mo (by omega)],rfl,trivial⟩
def yFn:KN.ok Tryz.prog 179:=gu mixed (dw yLh fg) 0 (λ_=>[]) (λi=>xDl i) [] Tryz.func179 xAs
def yKo:I4.ok Tryz.prog 140:=gu (V:=yXe) mixed (dw yFn fg) 0 (λ_=>[]) (λ_=>[]) [] Tryz.func140 λ(i:RB) h=>by
 have hl:=Lc (i.n 1);have hr:=uX (i.n 1).iN;have h0:(256:Int) ^ (i.n 1).iN.length<=256 ^ 1:=by
  have:(256:Nat) ^ (i.n 1).iN.length<=256 ^ 1:=Nat.pow_le_pow_right oM hl
  exact_mod_cast this
 exact⟨i.n 1,rfl,rfl,⟨by show 1<=8;omega,h⟩,λ_ _=>⟨(),(iq oM).symm,rfl,trivial⟩⟩
def yJf:I0.ok Tryz.prog 133:=gu (V:=yVq) mixed (dw yFn fg) 0 (λ_=>[]) (λ_=>[]) [] Tryz.func133 λ(i:RB) h=>by
 exact⟨i.n 8,rfl,rfl,⟨by show 8<=8;omega,h⟩,λ_ _=>⟨(),rfl,rfl,trivial⟩⟩
def yRv:ML.ok Tryz.prog 141:=gu (V:=xAd) mixed fg 0 (λ_=>[]) (λ_=>[]) [0] Tryz.func141 λ(i:RB) h=>by
 refine Cv.dp.mk (λe=>⟨(),by rw[fc e],rfl,rfl,trivial⟩) (λe=>zH (λgn=>⟨(),?_,rfl,rfl,trivial⟩) (λgn=>⟨(),?_,rfl,rfl,trivial⟩))
 ·rw[yV]at gn;rw[eg (by simp[e]),fc (by omega)]
 ·rw[yV]at gn;rw[eg (by simp[e]),eg (by omega)]
def Yo {r:RB} (h:wo r.l):wo r.byte.2.l:=vz (nC _) h
def UE {r:RB} (h:wo r.l):wo r.fq.2.l:=vz (nC _) h
def y6n (b:List UInt8) (h:Gy.dp b):yUj b:=by
 have h:wo b:=h;obtain⟨r0,hr⟩:∃r0,r0=RB.mk b ap:=⟨_,rfl⟩
 have h0:wo r0.l:=by rw[hr];exact h
 have h1:=UE h0;have h2:=Yo h1;have h3:=Yo h2;have h4:=UE h3;have h5:=UE h4;have h6:=UE h5;have h7:=Yo h6;obtain⟨M,hm⟩:∃M:gh,M=⟨r0.fq.1,r0.fq.2.byte.1,r0.fq.2.byte.2.byte.1,r0.fq.2.byte.2.byte.2.fq.1,r0.fq.2.byte.2.byte.2.fq.2.fq.1,r0.fq.2.byte.2.byte.2.fq.2.fq.2.fq.1,decide (r0.fq.2.byte.2.byte.2.fq.2.fq.2.fq.2.byte.1=1)⟩:=⟨_,rfl⟩
 have ur:xL b=if r0.fq.2.byte.2.byte.2.fq.2.fq.2.fq.2.byte.2.kq≠0\/1<r0.fq.2.byte.2.byte.2.fq.2.fq.2.fq.2.byte.1\/(r0.fq.2.byte.2.byte.1≠1/\r0.fq.2.byte.2.byte.1≠2)then(D2,12)else(M,0):=by
  rw[hm,hr];rfl
 unfold yUj fa dx ZP V1 vX xY dI;generalize xL b=X at ur ⊢;refine⟨b,rfl,h,λ_ _=>⟨r0,by rw[hr],h0,λ_ _=>⟨r0.fq.2,rfl,h1,λ_ _=>⟨r0.fq.2.byte.2,rfl,h2,λ_ _=>⟨r0.fq.2.byte.2.byte.2,rfl,h3,λ_ _=>⟨r0.fq.2.byte.2.byte.2.fq.2,rfl,h4,λ_ _=>⟨r0.fq.2.byte.2.byte.2.fq.2.fq.2,rfl,h5,λ_ _=>⟨r0.fq.2.byte.2.byte.2.fq.2.fq.2.fq.2,rfl,h6,λ_ _=>⟨ap,λx=>x=decide (r0.fq.2.byte.2.byte.2.fq.2.fq.2.fq.2.byte.2.kq≠0\/1<r0.fq.2.byte.2.byte.2.fq.2.fq.2.fq.2.byte.1\/(r0.fq.2.byte.2.byte.1≠1/\r0.fq.2.byte.2.byte.1≠2)),⟨r0.fq.2.byte.2.byte.2.fq.2.fq.2.fq.2.byte.2,rfl,h7,λ_ _=> ?_⟩,?_⟩⟩⟩⟩⟩⟩⟩⟩⟩
 ·refine Cv.dp.mk (λe=>⟨ao,rfl,(jk (.inl ((bne_iff_ne (a:=r0.fq.2.byte.2.byte.2.fq.2.fq.2.fq.2.byte.2.kq) (b:=0)).1 e))).symm,rfl,gg⟩) (λe=>zH (λe2=>⟨ao,rfl,(jk (.inr (.inl e2))).symm,rfl,gg⟩) (λe2=>Cv.dp.mk (λe3=>⟨_,rfl,?_,rfl,gg⟩) (λe3=>⟨_,rfl,?_,rfl,gg⟩)))
  ·have e:¬r0.fq.2.byte.2.byte.2.fq.2.fq.2.fq.2.byte.2.kq≠0:=not_not_intro ((bne_eq_false_iff_eq (a:=r0.fq.2.byte.2.byte.2.fq.2.fq.2.fq.2.byte.2.kq) (b:=0)).1 e);have e3:r0.fq.2.byte.2.byte.1≠1:=(bne_iff_ne (a:=r0.fq.2.byte.2.byte.1) (b:=1)).1 e3;show(r0.fq.2.byte.2.byte.1 !=2)=decide _;rw[Dc,decide_eq_true_iff,bne_iff_ne];exact⟨λx=> .inr (.inr ⟨e3,x⟩),λx=>((x.resolve_left e).resolve_left e2).2⟩
  ·have e:¬r0.fq.2.byte.2.byte.2.fq.2.fq.2.fq.2.byte.2.kq≠0:=not_not_intro ((bne_eq_false_iff_eq (a:=r0.fq.2.byte.2.byte.2.fq.2.fq.2.fq.2.byte.2.kq) (b:=0)).1 e);have e3:r0.fq.2.byte.2.byte.1=1:=(bne_eq_false_iff_eq (a:=r0.fq.2.byte.2.byte.1) (b:=1)).1 e3;exact(jt λx=>((x.resolve_left e).resolve_left e2).1 e3).symm
 rintro _ rfl;refine zH (λe=> ?_) (λe=> ?_)
 ·rw[fc e]at ur;rw[ur];exact⟨(),iw trivial⟩
 ·rw[eg e]at ur;rw[ur,hm];exact⟨(),iw trivial⟩
def yNh:Gy.ok Tryz.prog 85:=gu mixed (dw ySf (dw yKo (dw yJf (dw yRv fg)))) 0 (λ_=>xEx) (λ_=>[]) [] Tryz.func85 y6n
@[reducible] def Xv:Nat:=43
def kf (l:List UInt8):List D:=[.ro 1 (bE l)]
def BW:fy:=fi Nat (λn=>[.d (.v (.slice ax 0 0)),zB n]) (λ_=>[]) (λn=>1<=n/\n<=1099511627776) (λ_=> .own 0) (λ_=>[.own FD 1 []])
def ye:fy:=fi (List (List UInt8)) (λls=>[ot 1 (ls.map kf)]) (λ_=>[]) (λls=>1<=ls.flatten.length/\ls.flatten.length<=1099511627776/\ls.length<=1000) (λ_=> .own 0) (λls=>[.own FD 1 (bE ls.flatten)])
def y2k (ls:List (List UInt8)):List gm:=[
 {ι:=Nat,du:=λk=>[(3,zB (ls.take k).flatten.length),(11,zB k)],rows:=λ_=>[]},
 {ι:=Nat,du:=λk=>[(6,.own 0),(27,zB k)],rows:=λk=>[.own FD 1 (bE (ls.take k).flatten)]}]
structure Dk where
 b:List UInt8
 safe:Nat
def Yk (d:Dk):Nat->fj
 |0=> .cells [.own 1,zB d.safe] 161
 |1=> .own FD 1 (bE d.b)
 |_=> .gone
def lq (d:Dk):fj:= .ra Dk 2 Yk d
@[reducible] def Dk.ok (d:Dk):Prop:=d.safe<=d.b.length/\d.b.length<=1048576
structure Kc where
 d:Dk
 l:List UInt8
def Ug:fy:=fi Unit (λ_=>[]) (λ_=>[]) (λ_=>True) (λ_=> .nm 0 0) (λ_=>[lq ⟨[],0⟩])
def Uk:fy:=fi Kc (λi=>[.nm 0 0,ot 1 (bE i.l)]) (λi=>[lq i.d]) (λi=>i.d.b.length+i.l.length<=1048576) (λ_=>zB 0) (λi=>[lq ⟨i.d.b++i.l,i.d.safe⟩])
def Uj:fy:=fi Dk (λ_=>[.nm 0 0]) (λd=>[lq d]) (λd=>d.ok) (λ_=> .own 1) (λd=>[lq d,.own FD 1 (bE d.b)])
def sx:fy:=fi (List (List D)) (λl=>[ot 1 l]) (λ_=>[]) (λl=>l.length<=140737488355328) (λ_=> .own 0) (λl=>[.own FD 1 l])
def Ud:fy:=fi Kc (λi=>[.nm 0 0,ot 1 (bE i.l)]) (λi=>[lq i.d]) (λi=>i.l.length<=1048576) (λ_=>zB 0) (λi=>[lq ⟨i.l,i.l.length⟩])
def jC (l:List UInt8):List UInt8:=iR l.length::UInt8.ofNat (255-l.length)::(l++le (dH l) 4)
def GF:fy:=fi (List UInt8) (λl=>[ot 1 (bE l)]) (λ_=>[]) (λl=>l.length<=255) (λ_=> .iZ [.own 0,zB 0]) (λl=>[.own FD 1 (bE (jC l))])
def xAg:List (Nat×gm):=[(20,{ι:=Unit,du:=λ_=>[],rows:=λ_=>[],Dl:=[4]})]
def Cu (l:List UInt8):List UInt8×Nat×Int:=
 if l.length<2 then([],0,10)else if(l.getD 1 0).toNat≠255-(l.getD 0 0).toNat then([],0,14)else
 if l.length<6+(l.getD 0 0).toNat then([],0,10)else
 if yU ((l.drop (2+(l.getD 0 0).toNat)).take 4)≠dH ((l.drop 2).take (l.getD 0 0).toNat)then([],0,14)else
 ((l.drop 2).take (l.getD 0 0).toNat,6+(l.getD 0 0).toNat,0)
structure F0 where
 b:List UInt8
 k:Nat
def F0.x (i:F0):List UInt8×Nat×Int:=Cu (i.b.drop i.k)
def Lx:V:= .d (.v (.slice ax 0 0))
def SD:fy where
 ι:=F0
 pat:=λi=>[ot 1 (bE i.b),zB i.k]
 pre:=λ_=>[]
 dp:=λi=>i.k<=i.b.length/\i.b.length<=1099511627776
 alts:=λi=>[{o:=Unit,res:=λ_=> .iZ [.own 0,zB (i.k+i.x.2.1),zB 0],post:=λ_=>[.own FD 1 (bE i.x.1)],rel:=λ_=>i.x.2.2=0},
  {o:=Unit,res:=λ_=> .iZ [Lx,zB 0,zB i.x.2.2],post:=λ_=>[],rel:=λ_=>i.x.2.2≠0}]
def oP (L:List (List UInt8)):List UInt8:=L.flatMap jC
structure Eg where
 L:List (List UInt8)
 t:List UInt8
@[reducible] def Eg.ok (i:Eg):Prop:=(∀l∈i.L,l.length<=255)/\(Cu i.t).2.2=10/\(oP i.L).length+i.t.length<=1048576
@[reducible] def Hz (L:List (List UInt8)):fj:= .own Xv 1 (L.map kf)
def Km:fy:=fi Eg (λi=>[ot 1 (bE (oP i.L++i.t))]) (λ_=>[]) (λi=>i.ok) (λi=> .iZ [.own 0,zB (oP i.L).length,zB 0]) (λi=>[Hz i.L])
def xFb (i:Eg):List gm:=[{ι:=Nat,du:=λk=>[(5,.own 0),(6,zB (oP (i.L.take k)).length)],rows:=λk=>[Hz (i.L.take k)]}]
def LO (d:Nat) (n:Int):fj:= .cells [.nm d 0,zB n] 201
structure Cp where
 s:Nat
 L:List (List UInt8)
 t:List UInt8
def Cp.d (i:Cp):Dk:=⟨oP i.L++i.t,i.s⟩
def Cp.d' (i:Cp):Dk:=if i.t=[]then i.d else⟨oP i.L,(oP i.L).length⟩
def aax:fy:=fi Cp (λ_=>[.nm 0 0]) (λi=>[lq i.d]) (λi=>(Eg.mk i.L i.t).ok/\i.d.ok) (λ_=> .iZ [.nm 1 0,.own 2,zB 0]) (λi=>[lq i.d',LO 0 i.L.length,Hz i.L])
structure Yi where
 d:Dk
 n:Int
 l:List UInt8
def TM:fy:=fi Yi (λi=>[.nm 0 0,ot 1 (bE i.l)]) (λi=>[LO 1 i.n,lq i.d]) (λi=>i.l.length<=255/\i.d.b.length+i.l.length+6<=1048576/\0<=i.n/\i.n<=1048576) (λ_=>zB 0) (λi=>[LO 1 (i.n+1),lq ⟨i.d.b++jC i.l,i.d.safe⟩])
def mF (a:Nat) (b:List (List UInt8)):=(↑(ae a b).flatten.length:Int)
def Xe (ls:List (List UInt8)):Prop:=
 ∃(a:Nat),(mF a ls)=0/\(↑a:Int)=0/\∃(b:Nat->Prop),∃(c:Nat->Nat),b a/\∀(d:Nat),b d->dp (decide ((↑d:Int)<(↑(ab kf ls).length:Int))) ((0<=(↑d:Int)/\(↑d:Int)<(↑(ab kf ls).length:Int))/\∃(e:List (List D)),zD (ab kf ls) (↑d:Int).toNat 0 1=aw [D.ro 1 e]/\dp (decide (aj.wrap ((mF d ls)+(↑e.length:Int))<0)) False (∃(f:Nat),(mF f ls)=aj.wrap ((mF d ls)+(↑e.length:Int))/\kI f d b c)) (∃(e:Nat),True/\(↑e:Int)=(mF d ls)/\(1<=e/\e<=1099511627776)/\fa (∃(g:Nat),(↑g:Int)=0/\bE (ae g ls).flatten=[]/\∃(h:Nat->Prop),∃(j:Nat->Nat),h g/\∀(k:Nat),h k->dp (decide ((↑k:Int)<(↑(ab kf ls).length:Int))) ((0<=(↑k:Int)/\(↑k:Int)<(↑(ab kf ls).length:Int))/\∃(l:List (List D)),zD (ab kf ls) (↑k:Int).toNat 0 1=aw [D.ro 1 l]/\((bE (ae k ls).flatten).length+l.length)*(1:Nat)<=(140737488355328:Nat)/\∃(m:Nat),(↑m:Int)=aj.wrap ((↑k:Int)+1)/\bE (ae m ls).flatten=bE (ae k ls).flatten++l/\h m/\j m<j k/\True) (dx (bE ls.flatten=bE (ae k ls).flatten/\True))))
def y9m (ls:List (List UInt8)):Xe ls=walk Tryz.prog ([(113,BW)]) 0 ([]) (y2k ls) [] Tryz.f50 (Tryz.f50.body.getD .skip) (ye.pat ls) (ye.pre ls) (ye.alts ls):=by kernel_rfl
def y5u (hG:zd Tryz.prog ([(113,BW)])) (h:∀(ls:List (List UInt8)),ye.dp ls->Xe ls):ye.ok Tryz.prog 50:=qY mixed ([(113,BW)]) hG 0 (λ(ls:List (List UInt8))=>[]) (λ(ls:List (List UInt8))=>y2k ls) [] Tryz.func50 (by kernel_rfl) (by kernel_rfl) (by kernel_rfl) (λ_=>by kernel_rfl) (λ(ls:List (List UInt8)) hc=>Eq.mp (y9m ls) (h ls hc))
def xBf (u:Unit):Prop:=
 ∃(o:Unit),(↑(0:Nat):Int)=0/\bE []=[]/\True
def y2z (i:Kc):Prop:=
 dp (decide ((↑(bE i.l).length:Int)>aj.wrap (1048576-(↑(bE i.d.b).length:Int)))) (dx ((0:Int)=(13:Int)/\dl ((↑i.d.safe:Int))/\bE (i.d.b++i.l)=bE i.d.b/\True)) (((bE i.d.b).length+(bE i.l).length)*(1:Nat)<=(140737488355328:Nat)/\dx (dl ((0:Int))/\dl ((↑i.d.safe:Int))/\bE (i.d.b++i.l)=bE i.d.b++bE i.l/\True))
def xDb (d:Dk):Prop:=
 ∃(i:List (List D)),i=bE d.b/\i.length*(1:Nat)<=(140737488355328:Nat)/\∀(o:Unit),True->∃(o:Unit),dl ((↑d.safe:Int))/\bE d.b=i/\bE d.b=i/\True
def z6t (i:List (List D)):Prop:=
 ∀(b:Bool),(b=ao->i=[])->dp b (∃(o:Unit),i=[]/\True) ((0+i.length)*(1:Nat)<=(140737488355328:Nat)/\∃(o:Unit),i=[]++i/\True)
def yIi (i:List (List D)):z6t i=walk Tryz.prog ([]) 0 ([]) ([]) [] Tryz.f70 (Tryz.f70.body.getD .skip) (sx.pat i) (sx.pre i) (sx.alts i):=by kernel_rfl
def yJm (hG:zd Tryz.prog ([])) (h:∀(i:List (List D)),sx.dp i->z6t i):sx.ok Tryz.prog 70:=qY mixed ([]) hG 0 (λ(i:List (List D))=>[]) (λ(i:List (List D))=>[]) [] Tryz.func70 (by kernel_rfl) (by kernel_rfl) (by kernel_rfl) (λ_=>by kernel_rfl) (λ(i:List (List D)) hc=>Eq.mp (yIi i) (h i hc))
def y2d (i:Kc):Prop:=
 dp (decide ((↑(bE i.l).length:Int)>1048576)) (dx ((0:Int)=(13:Int)/\(↑i.l.length:Int)=(↑i.d.safe:Int)/\bE i.l=bE i.d.b/\True)) (∃(a:List (List D)),a=bE i.l/\a.length<=140737488355328/\fa (dx (dl ((0:Int))/\(↑i.l.length:Int)=(↑a.length:Int)/\bE i.l=a/\True)))
def yNl (l:List UInt8):Prop:=
 dp (decide ((↑(bE l).length:Int)>255)) (dx ((0:Int)=(3:Int)/\bE (jC l)=[]/\True)) (dx (True/\fa (∃(c:WN),c.n=(↑(bE l).length:Int)/\aq (List UInt8) 2 ki c.l=aq (List UInt8) 2 ki []/\c.ok/\fa (∃(e:WN),e.n=aj.wrap (↑(az aj.bits (if aj.signed=ao then(-1:Int)else aj.max) ^^^ az aj.bits (↑(bE l).length:Int)).toNat:Int)/\aq (List UInt8) 2 ki e.l=aq (List UInt8) 2 ki (c.l++[iR c.n])/\e.ok/\fa (((bE (e.l++[iR e.n])).length+(bE l).length)*(1:Nat)<=(140737488355328:Nat)/\∃(g:List UInt8),bE g=bE l/\g.length<=1099511627776/\fa (∃(j:WN),j.n=dH g/\bE j.l=bE (e.l++[iR e.n])++bE l/\(j.l.length+(8:Nat)<=(1099511627776:Nat)/\0<=j.n/\j.n<4294967296)/\fa (∃(m:List UInt8),aq (List UInt8) 2 ki m=aq (List UInt8) 2 ki (j.l++le j.n 4)/\m.length<=1099511627776/\fa (dx (dl ((0:Int))/\bE (jC l)=bE m/\True)))))))))
def mX (a:F0):=(af (↑a.k:Int).toNat (bE a.b))
def aG (a:F0):=(↑(mX a).length:Int)
def cH (a:Int):=(2+aj.wrap a)
def YQ (a:Int) (b:F0):Prop:=(0:Int)<=(2:Int)/\2<=aj.wrap (cH a)/\aj.wrap (cH a)<=(aG b)
def Vr (a:Int) (b:F0):=(ae (aj.wrap (cH a)).toNat (mX b))
def Py (a:Int):=(aj.wrap (cH a)+4)
def xDw (i:F0):Prop:=
 dp (decide ((↑i.k:Int)>(↑(bE i.b).length:Int))) ((dx ((↑i.k:Int)+(↑i.x.snd.fst:Int)=(0:Int)/\(0:Int)=1/\bE i.x.fst=[]/\i.x.snd.snd=0))\/(dx (True/\dl ((0:Int))/\i.x.snd.snd=1/\(i.x.snd.snd=0->False)))) ((0<=(↑i.k:Int)/\(↑i.k:Int)<=(↑(bE i.b).length:Int))/\dp (decide ((aG i)<2)) ((dx ((↑i.k:Int)+(↑i.x.snd.fst:Int)=(0:Int)/\(0:Int)=10/\bE i.x.fst=[]/\i.x.snd.snd=0))\/(dx (True/\dl ((0:Int))/\i.x.snd.snd=10/\(i.x.snd.snd=0->False)))) (((0:Int)<=(1:Int)/\1<(aG i))/\∃(a:Int),zD (mX i) (ay 1) 0 1=aw [D.v (.int .u8 a)]/\((0:Int)<=(0:Int)/\0<(aG i))/\∃(b:Int),zD (mX i) (ay 0) 0 1=aw [D.v (.int .u8 b)]/\dp (a !=ak.wrap (↑(az ak.bits (if ak.signed=ao then(-1:Int)else ak.max) ^^^ az ak.bits b).toNat:Int)) ((dx ((↑i.k:Int)+(↑i.x.snd.fst:Int)=(0:Int)/\(0:Int)=14/\bE i.x.fst=[]/\i.x.snd.snd=0))\/(dx (True/\dl ((0:Int))/\i.x.snd.snd=14/\(i.x.snd.snd=0->False)))) (((0:Int)<=(0:Int)/\0<(aG i))/\∃(c:Int),zD (mX i) (ay 0) 0 1=aw [D.v (.int .u8 c)]/\dp (decide ((aG i)<aj.wrap (Py c))) ((dx ((↑i.k:Int)+(↑i.x.snd.fst:Int)=(0:Int)/\(0:Int)=10/\bE i.x.fst=[]/\i.x.snd.snd=0))\/(dx (True/\dl ((0:Int))/\i.x.snd.snd=10/\(i.x.snd.snd=0->False)))) ((0<=aj.wrap (cH c)/\aj.wrap (cH c)<=aj.wrap (Py c)/\aj.wrap (Py c)<=(aG i))/\∃(d:List UInt8),bE d=af (aj.wrap (cH c)).toNat (ae (aj.wrap (Py c)).toNat (mX i))/\d.length<=1099511627776/\fa ((YQ c i)/\∃(f:RN),(↑f.n:Int)=4/\aq (List UInt8×Bool) 1 iP (f.l,f.b)=aq (List UInt8×Bool) 1 iP (d,ap)/\(f.n<=8/\f.l.length<=1099511627776)/\fa (∃(h:List UInt8),bE h=af (ay 2) (Vr c i)/\h.length<=1099511627776/\fa (dp (am.wrap (yU f.iN) !=dH h) ((dx ((↑i.k:Int)+(↑i.x.snd.fst:Int)=(0:Int)/\(0:Int)=14/\bE i.x.fst=[]/\i.x.snd.snd=0))\/(dx (True/\dl ((0:Int))/\i.x.snd.snd=14/\(i.x.snd.snd=0->False)))) ((YQ c i)/\(0+(af (ay 2) (Vr c i)).length)*(1:Nat)<=(140737488355328:Nat)/\((dx ((↑i.k:Int)+(↑i.x.snd.fst:Int)=aj.wrap (aj.wrap ((↑i.k:Int)+aj.wrap (cH c))+4)/\dl ((0:Int))/\bE i.x.fst=[]++af (ay 2) (Vr c i)/\i.x.snd.snd=0))\/(dx (False)))))))))))
def dK (a:Nat) (b:Eg):=(↑(oP (ae a b.L)).length:Int)
def zLs (a:Eg) (b:Nat):Prop:=dx ((↑(oP a.L).length:Int)=(dK b a)/\dl ((0:Int))/\ab kf a.L=ab kf (ae b a.L)/\True)
def y2i (i:Eg):Prop:=
 ∃(a:Nat),(dK a i)=0/\ab kf (ae a i.L)=[]/\∃(b:Nat->Prop),∃(c:Nat->Nat),b a/\∀(d:Nat),b d->dp (decide ((dK d i)<(↑(bE (oP i.L++i.t)).length:Int))) (∃(e:F0),bE e.b=bE (oP i.L++i.t)/\(↑e.k:Int)=(dK d i)/\(e.k<=e.b.length/\e.b.length<=1099511627776)/\(∀(f:Unit),e.x.snd.snd=0->((ab kf (ae d i.L)).length+1)*(24:Nat)<=(140737488355328:Nat)/\∃(g:Nat),(dK g i)=(↑e.k:Int)+(↑e.x.snd.fst:Int)/\ab kf (ae g i.L)=ab kf (ae d i.L)++[[D.ro 1 (bE e.x.fst)]]/\b g/\c g<c d/\True)/\∀(f:Unit),e.x.snd.snd≠0->dp (e.x.snd.snd==0) (((ab kf (ae d i.L)).length+1)*(24:Nat)<=(140737488355328:Nat)/\∃(g:Nat),(dK g i)=0/\ab kf (ae g i.L)=ab kf (ae d i.L)++[[D.ro 1 []]]/\b g/\c g<c d/\True) (dp (e.x.snd.snd==10) (zLs i d) (dx ((↑(oP i.L).length:Int)=(dK d i)/\(0:Int)=(14:Int)/\ab kf i.L=ab kf (ae d i.L)/\True)))) (zLs i d)
def xAp (i:Cp):Prop:=
 ∃(a:Dk),lq a=lq i.d/\(a.safe<=a.b.length/\a.b.length<=1048576)/\fa (∃(c:Eg),bE (oP c.L++c.t)=bE a.b/\((∀(d:List UInt8),d∈c.L->d.length<=255)/\(Cu c.t).snd.snd=10/\(oP c.L).length+c.t.length<=1048576)/\fa (dp (decide ((↑(oP c.L).length:Int)<(↑(bE a.b).length:Int))) ((0<=(↑(oP c.L).length:Int)/\(↑(oP c.L).length:Int)<=(↑(bE a.b).length:Int))/\∃(e:Kc),bE e.l=ae (↑(oP c.L).length:Int).toNat (bE a.b)/\lq e.d=lq a/\e.l.length<=1048576/\fa (dx (dl ((0:Int))/\lq i.d'=lq (Dk.mk e.l e.l.length)/\(↑i.L.length:Int)=(↑(ab kf c.L).length:Int)/\ab kf i.L=ab kf c.L/\True))) (dx (dl ((0:Int))/\lq i.d'=lq a/\(↑i.L.length:Int)=(↑(ab kf c.L).length:Int)/\ab kf i.L=ab kf c.L/\True))))
def xEa (i:Yi):Prop:=
 ∃(gx:List UInt8),bE gx=bE i.l/\gx.length<=255/\∀(o:Unit),True->∃(ma:Kc),bE ma.l=bE (jC gx)/\aq Dk 2 Yk ma.d=lq i.d/\ma.d.b.length+ma.l.length<=1048576/\∀(o:Unit),True->∃(o:Unit),dl ((0:Int))/\i.n+1=aj.wrap (i.n+1)/\aq Dk 2 Yk (Dk.mk (i.d.b++jC i.l) i.d.safe)=aq Dk 2 Yk (Dk.mk (ma.d.b++ma.l) ma.d.safe)/\True
end Sx
