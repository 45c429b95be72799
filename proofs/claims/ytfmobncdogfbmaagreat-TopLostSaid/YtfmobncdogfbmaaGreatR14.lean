/- Texts of ours. No condition. -/
import Derived.Test.YtfmobncdogfbmaaGreatR13
set_option linter.all false
open List renaming map->aa,length->ab,replicate->ac,drop->ae
open Sx.fq renaming kr->af,cells->ag,own->aj,rk->ak
open Go.IntKind renaming i64->am,u64->ao
open Bool renaming false->ap,true->aq
open Go renaming TypeId->ar
open Option renaming some->au
open Go.Value renaming string->av
open Int renaming toNat->aw
open True renaming intro->Y_
open Cv.dp renaming mk->W_
namespace Sx
set_option maxRecDepth 100000
open Go Cv Go.Proofs
open Tryz renaming prog->Z_
open Tryz hiding prog
def lS (a:SX):=((sb a.s).extract 0 (min ((sb a.s).size:Int) 255).toNat)
def yNo (i:SX):Prop:=
 (0<=min ((sb i.s).size:Int) 255/\min ((sb i.s).size:Int) 255<=((sb i.s).size:Int))/\∃(a:WN),a.n=((lS i).size:Int)/\ak i4 2 ld a.l=Wr i.l/\a.ok/\ff (((bE (a.l++[iZ a.n])).length+(j6 (lS i)).length)*(1:Nat)<=(140737488355328:Nat)/\dx (bE (i.l++FE i.s)=bE (a.l++[iZ a.n])++j6 (lS i)/\True))
def zNd (a:WN) (b:ir):Prop:=∃(c:i4),ak i4 2 ld c=ak i4 2 ld (a.l++le a.n 8)/\c.length<=1099511627776/\ff (dx (bE b.enc=bE c/\dk ((0:Int))/\True))
def zNo (a:ir) (b:WN):Prop:=∃(c:WN),c.n=a.dr/\DL c b (ff (zNd c a))
def y3p (c:ir):Prop:=
 ∃(a:ir),Qd a c (a.label.length<=140737488355328/\ff (dp (a.right !=0) (dx (bE c.enc=[]/\0=a.right/\True)) (dx (True/\ff (∃(f:WN),f.n=c.kind/\Pf f (ff (∃(h:WN),h.n=c.id/\KB h f (ff (dp (c.kind==1) (∃(k:WN),k.n=c.inst/\DL k h (ff (∃(m:WN),m.n=c.side/\KB m k (ff (∃(p:WN),p.n=c.time/\KB p m (ff (∃(r:WN),r.n=c.dm/\KB r p (ff (∃(t:WN),t.n=c.dr/\DL t r (ff (∃(v:WN),v.n=c.least/\DL v t (ff (∃(x:SX),sb x.s=sb c.label/\ak i4 2 ld x.l=ak i4 2 ld (v.l++le v.n 8)/\(x.l.length+(300:Nat)<=(1099511627776:Nat)/\x.s.length<=255)/\ff (∃(z:i4),ak i4 2 ld z=ak i4 2 ld (x.l++FE x.s)/\z.length<=1099511627776/\ff (dx (bE c.enc=bE z/\dk ((0:Int))/\True)))))))))))))))) (dp (c.kind==3) (zNo c h) (dp (c.kind==4) (∃(k:WN),k.n=c.dm/\DL k h (ff (zNo c k))) (zNd h c))))))))))))
def V0 (a:zo):Prop:=(((-9223372036854775808)<=a.c.kind/\a.c.kind<=9223372036854775807)/\((-9223372036854775808)<=a.c.id/\a.c.id<=9223372036854775807)/\((-9223372036854775808)<=a.c.inst/\a.c.inst<=9223372036854775807)/\((-9223372036854775808)<=a.c.side/\a.c.side<=9223372036854775807)/\((-9223372036854775808)<=a.c.dm/\a.c.dm<=9223372036854775807)/\((-9223372036854775808)<=a.c.dr/\a.c.dr<=9223372036854775807)/\((-9223372036854775808)<=a.c.least/\a.c.least<=9223372036854775807)/\(-9223372036854775808)<=a.c.time/\a.c.time<=9223372036854775807)/\0<=a.i/\a.i<=1000000
def xDd (t:zo):Prop:=
 ∃(a:zo),Qb a.p t.p (Qd a.c t.c (a.i=t.i/\(a.p.check=0/\(ph a.p (a.p.settle.length<=1099511627776))/\V0 a)/\ff (∃(c:ir),c.kind=(xI a).kind/\c.id=(xI a).id/\c.inst=(xI a).inst/\c.side=(xI a).side/\c.dm=(xI a).dm/\c.dr=(xI a).dr/\c.least=(xI a).least/\c.time=(xI a).time/\sb c.label=sb (xI a).label/\(c.label=[]/\c.right=0)/\ff (dx (bE (xI t).enc=bE c.enc/\True)))))
def Vu (a:Bs):Prop:=(QZ a.p (a.p.settle.length<=1099511627776))/\(((∀(b:i4),b∈a.L->b.length<=255)/\(CE a.t).snd.snd=10/\(oV a.L).length+a.t.length<=1048576)/\a.s<=(oV a.L++a.t).length/\(oV a.L++a.t).length<=1048576)/\(∀(b:i4),b∈a.L->b≠[]/\(zT ((b.headD (0:UInt8)).toNat:Int) b.tail).snd=0)/\a.L.length<=100000
def sD (a:fj):=(aa zA (yH a (ac a.count [])))
def xFx (p:fj):Prop:=
 dx (True/\ff (∃(c:Bs),Qb c.p p (mc c.j.d=mc (Dk.mk [] 0)/\(Vu c)/\∀(d:iJ),d.ga c.p (vP c.p c.L).B (vP c.p c.L).U->∃(e:iJ),aq=((0:Int)==(0:Int))/\Qa p c.p (0=(vP c.p c.L).q/\((0:Nat):Int)=(c.L.length:Int)/\ma (Gt.mk e [])=ma (Gt.mk d (vP c.p c.L).W)/\mc (Dk.mk [] 0)=mc c.j.d'/\[]=aa kj (vP c.p c.L).R/\BM p c.p (af 10 (sD p)=af 10 (aP c)/\e.ga p (ac p.count []) [])))))
def jG (a:fj) (b:ry):=(aa zA (yH a b.x.B))
def yBu (a:Bs) (b:Int):Prop:=vt a.p (dk (af 10 (aP a))/\dk (af 1 (iE [(500:Int),(505:Int),(490:Int)]))/\dk (af 1 (iE [(320:Int),(321:Int),(323:Int)]))/\dk (ag [V.d (D.v (av (sb [(67:UInt8),(76:UInt8)]))),V.own 1,V.d (dI 5),V.d (dI 0),V.d (dI 1000),V.d (dI 200),V.d (dI b),V.d (dI 4),V.d (dI 2),V.d (dI 40),V.own 2] 25))
def yAj (a:fj) (b:ry) (c:Bs) (d:Int):Prop:=vt a (dk (af 10 (jG a b))/\dk (ag [V.own 20,V.own 21] yOu)/\dk (aj Rj 9 (aa jY b.O))/\dk (aj nA 7 (aa zU b.N))/\yBu c d)
def yAa (a:ry->Prop) (b:ry) (c:fj) (d:ry) (e:ry) (f:Bs) (g:Int):Prop:=a b/\vt c (dk (af 10 (jG c d))/\dk (ag [V.own 31,V.own 32] yOu)/\dk (aj Rj 9 (aa jY d.O))/\dk (aj nA 7 (aa zU d.N))/\yAj c e f g)
def yAv (a:ry->Prop) (b:ry) (c:fj) (d:ry) (e:Bs) (f:Int):Prop:=a b/\yAj c d e f
def yCn (a:ry->Prop) (b:ry) (c:Bs) (d:Int):Prop:=a b/\yBu c d
def V8 (a:wg):Prop:=(a.o.ga a.p a.x.B a.x.U/\jf a.p a.x.B)/\a.b.length<=254/\((-1)<=a.s/\a.s<8)/\(0<=a.x.q/\a.x.q<=1000000000000000000)/\a.x.R.length<=1000000/\a.d.b.length+a.b.length+(7:Nat)<=(1048576:Nat)
@[reducible] def Qh (a:ry)(b:wg)(c:iJ)(d:fj)(R:Prop):Prop:=a.x.q=b.x.q/\(a.x.R.length:Int)=(b.x.R.length:Int)/\ma (Gt.mk a.o a.x.W)=ma (Gt.mk c b.x.W)/\mc a.d=mc b.d/\aa kj a.x.R=aa kj b.x.R/\af 1 (iE d.dt)=af 1 (iE b.p.dt)/\af 1 (iE d.settle)=af 1 (iE b.p.settle)/\af 10 (jG d a)=af 10 (uD b)/\aa jY a.O=[jY (b.s,ga.mk 2 0 0 0 0 0 0 (zT b.s b.b).snd)]/\aa zU a.N=[]/\R
@[reducible] def Qj (a:ry)(b:wg)(c:iJ)(d:fj)(R:Prop):Prop:=a.x.q=b.x.q+(dX b)/\(a.x.R.length:Int)=(cE b)/\ma (Gt.mk a.o a.x.W)=ma (cS c b)/\mc a.d=mc b.D/\aa kj a.x.R=aa kj (fK b)/\af 1 (iE d.dt)=af 1 (iE b.p.dt)/\af 1 (iE d.settle)=af 1 (iE b.p.settle)/\af 10 (jG d a)=af 10 (cQ b)/\aa jY a.O=aa jY b.O/\aa zU a.N=aa zU b.N/\R
@[reducible] def Qp (a:wg)(b:ry)(c:fj)(R:Prop):Prop:=a.x.q=b.x.q/\(a.x.R.length:Int)=(b.x.R.length:Int)/\ma (Gt.mk a.o a.x.W)=ma (Gt.mk b.o b.x.W)/\mc a.d=mc b.d/\aa kj a.x.R=aa kj b.x.R/\af 1 (iE a.p.dt)=af 1 (iE c.dt)/\af 1 (iE a.p.settle)=af 1 (iE c.settle)/\af 10 (uD a)=af 10 (jG c b)/\(V8 a)/\R
@[reducible] def Qx (a b:ry)(c:fj)(R:Prop):Prop:=a.x.q=b.x.q/\(a.x.R.length:Int)=(b.x.R.length:Int)/\ma (Gt.mk a.o a.x.W)=ma (Gt.mk b.o b.x.W)/\mc a.d=mc b.d/\aa kj a.x.R=aa kj b.x.R/\af 1 (iE c.dt)=af 1 (iE c.dt)/\af 1 (iE c.settle)=af 1 (iE c.settle)/\af 10 (jG c a)=af 10 (jG c b)/\R
@[reducible] def YA (a:ir)(R:Prop):Prop:=a.least=0/\a.time=1/\sb a.label=ByteArray.mk #[]/\(a.label=[]/\a.right=0)/\R
def Vaw (p:fj):Prop:=
 ∃(a:Int),a=2/\True/\ff (dx (True/\ff ((dk (sb [(67:UInt8),(76:UInt8)])/\True/\YC a (True/\True))/\∃(e:Bs),sb e.p.code=sb [(67:UInt8),(76:UInt8)]/\iE e.p.dt=iE [(320:Int),(321:Int),(323:Int)]/\e.p.tick=5/\e.p.low=0/\e.p.high=1000/\e.p.wide=200/\e.p.gn=a/\e.p.top=4/\e.p.least=2/\e.p.part=40/\iE e.p.settle=iE [(500:Int),(505:Int),(490:Int)]/\mc e.j.d=mc (Dk.mk [] 0)/\(Vu e)/\∀(f:iJ),f.ga e.p (vP e.p e.L).B (vP e.p e.L).U->∃(g:ry),Qa p e.p (g.x.q=(vP e.p e.L).q/\(g.x.R.length:Int)=(e.L.length:Int)/\ma (Gt.mk g.o g.x.W)=ma (Gt.mk f (vP e.p e.L).W)/\mc g.d=mc e.j.d'/\aa kj g.x.R=aa kj (vP e.p e.L).R/\BM p e.p (af 10 (jG p g)=af 10 (aP e)/\∃(h:ry->Prop),(∃(j:ir),j.kind=1/\j.id=1/\j.inst=3/\j.side=2/\j.dm=5/\j.dr=4/\YA j (ff (∃(l:wg),l.s=0/\bE l.b=bE j.enc/\Qa l.p p (Qp l g p ((∀(m:iJ),(zT l.s l.b).snd≠0/\m.ga l.p l.x.B l.x.U->∃(n:ry),Qa p l.p (Qh n l m p (yCn h n e a)))/\∀(m:iJ),(zT l.s l.b).snd=0/\m.ga l.p (l.x.X l.p l.s l.b).B (l.x.X l.p l.s l.b).U->∃(n:ry),Qa p l.p (Qj n l m p (yCn h n e a)))))))/\∀(j:ry),h j->∃(k:ry),Qc p (Qx k j p (∃(l:ry->Prop),(∃(m:ir),m.kind=1/\m.id=2/\m.inst=1/\m.side=2/\m.dm=500/\m.dr=6/\YA m (ff (∃(q:wg),q.s=1/\bE q.b=bE m.enc/\Qa q.p p (Qp q k p ((∀(r:iJ),(zT q.s q.b).snd≠0/\r.ga q.p q.x.B q.x.U->∃(s:ry),Qa p q.p (Qh s q r p (yAv l s p j e a)))/\∀(r:iJ),(zT q.s q.b).snd=0/\r.ga q.p (q.x.X q.p q.s q.b).B (q.x.X q.p q.s q.b).U->∃(s:ry),Qa p q.p (Qj s q r p (yAv l s p j e a)))))))/\∀(m:ry),l m->∃(n:ry),Qc p (Qx n m p (∃(q:ry->Prop),(∃(r:ir),r.kind=1/\r.id=3/\r.inst=0/\r.side=1/\r.dm=505/\r.dr=9/\YA r (ff (∃(t:wg),t.s=2/\bE t.b=bE r.enc/\Qa t.p p (Qp t n p ((∀(u:iJ),(zT t.s t.b).snd≠0/\u.ga t.p t.x.B t.x.U->∃(v:ry),Qa p t.p (Qh v t u p (yAa q v p m j e a)))/\∀(u:iJ),(zT t.s t.b).snd=0/\u.ga t.p (t.x.X t.p t.s t.b).B (t.x.X t.p t.s t.b).U->∃(v:ry),Qa p t.p (Qj v t u p (yAa q v p m j e a)))))))/\∀(r:ry),q r->dp (((aa jY j.O).length:Int)==1) (dp (((aa jY m.O).length:Int)==1) (dp (((aa jY r.O).length:Int)==6) (((0:Int)<=(5:Int)/\5<((aa jY r.O).length:Int))/\∃(s:Int),∃(t:Int),∃(u:Int),∃(v:Int),∃(w:Int),∃(x:Int),∃(y:Int),∃(z:Int),zC (aa jY r.O) (aw 5) 1 8=au [dI s,dI t,dI u,dI v,dI w,dI x,dI y,dI z]/\dp (s==3 && (t==3 && (u==0 && (v==1 && (w==505 && (x==4 && (y==5 && (z==0 && aq)))))))) (dx (aq=decide (((aa zU r.N).length:Int)>0)/\True)) (dx (aq=ap/\True))) (dx (aq=ap/\True))) (dx (aq=ap/\True))) (dx (aq=ap/\True)))))))))))
def yAq {s:Int} (h0:0<=s/\s<8) {c:ir} (h:c.right=0):(zT s c.enc).2=0:=by
 rw[zT,eg X_,y0k h]
def OT:ir:=⟨1,1,3,2,5,4,0,1,[]⟩
def OS:ir:=⟨1,2,1,2,500,6,0,1,[]⟩
def Ml:ir:=⟨1,3,0,1,505,9,0,1,[]⟩
def y2u:OT.right=0:=by decide+kernel
def y5b:OS.right=0:=by decide+kernel
def y3z:Ml.right=0:=by decide+kernel
def aw1:Es:=(uf (cU 2)).ed (cU 2) 0 OT.enc
def aw2:Es:=aw1.ed (cU 2) 1 OS.enc
def xIv:((uf (cU 2)).X (cU 2) 0 OT.enc).O.length=1:=by decide+kernel
def xKr:(aw1.X (cU 2) 1 OS.enc).O.length=1:=by decide+kernel
def xKb:(aw2.X (cU 2) 2 Ml.enc).O.length=6/\((aw2.X (cU 2) 2 Ml.enc).O.getD 5 (0,⟨0,0,0,0,0,0,0,0⟩)).2=⟨3,3,0,1,505,4,5,0⟩/\(aw2.M (cU 2) 2 Ml.enc).length≠0:=by decide+kernel
def yZu (a:i4) (i j:Nat):(sb a).extract i j=sb ((a.take j).drop i):=by
 apply ByteArray.ext;simp only[sb,ByteArray.data_extract,List.extract_toArray];rw[List.extract_eq_drop_take',List.drop_take]
def ySw:M5.ok Z_ 136:=gy (V:=yNo) mixed (dw PR fk) 0 (λ_=>y6h) i6 [] func136 λ(i:SX) h=>by
 obtain⟨l,s⟩:=i;obtain⟨h,hl⟩:l.length+300<=1099511627776/\s.length<=255:=h;have hs:(sb s).size=s.length:=U0 s;have hm:min ((sb s).size:Int) 255=(s.length:Int):=by rw[hs];omega
 have he:(sb s).extract 0 ((s.length:Int)).toNat=sb s:=by
  rw[yZu,ov,zf];rfl
 have et:s.take 255=s:=ng oM;unfold yNo ff dx lS;dsimp only;rw[hm,he,hs];refine⟨⟨oM,oM⟩,⟨l,s.length⟩,rfl,rfl,by dsimp only[WN.ok];omega,λ_ _=>⟨?_,(),?_,Y_⟩⟩
 ·dsimp only;rw[zYq,yV,yV,ix];simp[sb];omega
 ·dsimp only;rw[zYq,<- W3,FE,et];simp[sb]
def xGx (c:ir) (h:KR.dp c):y3p c:=by
 obtain⟨hl,hr⟩:c.label=[]/\c.right=0:=h;have he:c.enc=iZ c.kind::(le c.id 8++c.tail):=by rw[ir.enc,eg (by simp[hr])]
 unfold y3p DL KB Qd Pf ff dx zNo DL ff zNd ff dx;refine⟨c,iB ⟨rfl,by rw[hl];exact ml _,λ_ _=>W_ (λe=>absurd e (by rw[hr];simp)) (λ_=>⟨(),Y_,λ_ _=>⟨⟨[],c.kind⟩,rfl,rfl,by simp[WN.ok],λ_ _=>⟨⟨[iZ c.kind],c.id⟩,rfl,rfl,by simp[WN.ok],λ_ _=> ?_⟩⟩⟩)⟩⟩;dsimp only;refine W_ (λe=> ?_) (λe=>W_ (λe3=> ?_) (λe3=>W_ (λe4=> ?_) (λe4=> ?_)))
 ·have e:c.kind=1:=i9 e
  have ht:c.tail=iZ c.inst::iZ c.side::iZ c.time::(le c.dm 8++(le c.dr 8++(le c.least 8++FE c.label))):=by rw[ir.tail,fh e]
  refine⟨⟨[iZ c.kind]++le c.id 8,c.inst⟩,rfl,rfl,by simp[WN.ok,xA],λ_ _=>⟨⟨_,c.side⟩,rfl,rfl,by simp[WN.ok,xA],λ_ _=>⟨⟨_,c.time⟩,rfl,rfl,by simp[WN.ok,xA],λ_ _=>⟨⟨_,c.dm⟩,rfl,rfl,by simp[WN.ok,xA],λ_ _=>⟨⟨_,c.dr⟩,rfl,rfl,by simp[WN.ok,xA],λ_ _=>⟨⟨_,c.least⟩,rfl,rfl,by simp[WN.ok,xA],λ_ _=>⟨⟨_,c.label⟩,rfl,rfl,⟨by simp[xA],by rw[hl];exact ml _⟩,λ_ _=>⟨_,rfl,by dsimp only;rw[hl];simp[xA,FE],λ_ _=>⟨(),?_,rfl,Y_⟩⟩⟩⟩⟩⟩⟩⟩⟩;dsimp only;rw[he,ht];simp
 ·have e3:c.kind=3:=i9 e3
  have ht:c.tail=le c.dr 8:=by rw[ir.tail,eg X_,fh e3]
  refine⟨⟨[iZ c.kind]++le c.id 8,c.dr⟩,rfl,rfl,by simp[WN.ok,xA],λ_ _=>⟨_,rfl,by simp[xA],λ_ _=>⟨(),?_,rfl,Y_⟩⟩⟩;dsimp only;rw[he,ht];simp
 ·have e4:c.kind=4:=i9 e4
  have ht:c.tail=le c.dm 8++le c.dr 8:=by rw[ir.tail,eg X_,eg X_,fh e4]
  refine⟨⟨[iZ c.kind]++le c.id 8,c.dm⟩,rfl,rfl,by simp[WN.ok,xA],λ_ _=>⟨⟨_,c.dr⟩,rfl,rfl,by simp[WN.ok,xA],λ_ _=>⟨_,rfl,by simp[xA],λ_ _=>⟨(),?_,rfl,Y_⟩⟩⟩⟩;dsimp only;rw[he,ht];simp
 ·have e:¬c.kind=1:=i9 e
  have e3:¬c.kind=3:=i9 e3
  have e4:¬c.kind=4:=i9 e4
  have ht:c.tail=[]:=by rw[ir.tail,eg e,eg e3,eg e4]
  refine⟨_,rfl,by simp[xA],λ_ _=>⟨(),?_,rfl,Y_⟩⟩;rw[he,ht];simp
def yId:KR.ok Z_ 60:=gy mixed (dw Y8 (dw PZ (dw PR (dw U8 (dw ySw (dw PS fk)))))) 0 i6 i6 [] func60 xGx
def M7:S7.ok Z_ 16:=gy (V:=xDd) mixed (dw y0p (dw yId fk)) 0 i6 i6 [] func16 λ(t:zo) h=>by
 obtain⟨p,c,k⟩:=t;obtain⟨⟨x,hp⟩,hc,h1,h2⟩:(∃x,p=im x)/\c.raw/\0<=k/\k<=1000000:=h;subst hp;have hr:(xI ⟨im x,c,k⟩).right=0:=by
  obtain⟨n,rfl⟩:∃n:Nat,k=n:=⟨k.toNat,oM⟩
  exact yNg oM
 unfold xDd Qb ph Qd ff dx V0;dsimp only;exact⟨⟨im x,c,k⟩,iB (iB (nh ⟨rfl,⟨rI x,zPa x,hc,h1,h2⟩,λ_ _=>⟨xI ⟨im x,c,k⟩,iB ⟨rfl,⟨zIb _,hr⟩,λ_ _=>⟨(),rfl,Y_⟩⟩⟩⟩))⟩
def Nw:TL.ok Z_ 12:=gy (V:=xFx) mixed (dw yFt (dw yQn fk)) 0 i6 i6 [] func12 λ(p:fj) h=>by
 obtain⟨hc,hs⟩:p.check=0/\p.small:=h;unfold xFx Qa Qb BM ff dx sD Vu QZ aP;exact⟨(),Y_,λ_ _=>⟨⟨p,0,[],[]⟩,iB (iP ⟨rfl,⟨⟨hc,hs⟩,⟨⟨λl hl=>(by cases hl),rfl,su rfl⟩,jx _,su rfl⟩,λr hr=>(by cases hr),su rfl⟩,λo ho=>⟨o,iB (oO (iP ho))⟩⟩)⟩⟩
def yAt (c:ir) (h:c.right=0) (hl:c.label=[]):c.enc.length<=100:=yEj h hl
def xBx:(zT 0 OT.enc).2=0:=by decide+kernel
def y9b:(zT 1 OS.enc).2=0:=by decide+kernel
def y7n:(zT 2 Ml.enc).2=0:=by decide+kernel
def xGb {O:List (Int×ga)} {k:Nat} {o:Int×ga} (h:O[k]? =au o):zC (O.map jY) k 1 8=au [D.v (.int .i64 o.2.kind),.v (.int .i64 o.2.id),.v (.int .i64 o.2.inst),.v (.int .i64 o.2.side),.v (.int .i64 o.2.dm),.v (.int .i64 o.2.dr),.v (.int .i64 o.2.left),.v (.int .i64 o.2.pk)]:=jz h (by simp[jY,x9]) rfl
def BQ.Ja {p:fj} {x:Es} {d:Dk} {s:Int} {b:i4} {j:ry} (h:BQ p x d s b j) (hr:(zT s b).2=0):j.x=x.ed p s b/\j.d=⟨d.b++jC (A7 s b),d.safe⟩/\j.O=(x.X p s b).O/\j.N=jX x.q (x.M p s b):=by
 rcases h.c with⟨a0,_⟩|⟨_,a1,a2,a3,a4⟩
 ·exact absurd hr a0
 ·exact⟨a1,a2,a3,a4⟩
def vaw (p:fj) (h:awC.dp p):Vaw p:=by
 have h:p=cU 2:=h;obtain⟨b1,qk⟩:∃b,OT.enc=b:=⟨_,rfl⟩
 obtain⟨b2,np⟩:∃b,OS.enc=b:=⟨_,rfl⟩
 obtain⟨b3,DC⟩:∃b,Ml.enc=b:=⟨_,rfl⟩
 have l1:b1.length<=100:=by rw[<- qk];exact yAt _ y2u rfl
 have l2:b2.length<=100:=by rw[<- np];exact yAt _ y5b rfl
 have l3:b3.length<=100:=by rw[<- DC];exact yAt _ y3z rfl
 have r1:(zT 0 b1).2=0:=by rw[<- qk];exact xBx
 have r2:(zT 1 b2).2=0:=by rw[<- np];exact y9b
 have r3:(zT 2 b3).2=0:=by rw[<- DC];exact y7n
 have q1:((uf p).X p 0 b1).O.length=1:=by rw[<- qk,h];exact xIv
 have q2:(((uf p).ed p 0 b1).X p 1 b2).O.length=1:=by rw[<- qk,<- np,h];exact xKr
 have q3:((((uf p).ed p 0 b1).ed p 1 b2).X p 2 b3).O.length=6/\(((((uf p).ed p 0 b1).ed p 1 b2).X p 2 b3).O.getD 5 (0,⟨0,0,0,0,0,0,0,0⟩)).2=⟨3,3,0,1,505,4,5,0⟩/\((((uf p).ed p 0 b1).ed p 1 b2).M p 2 b3).length≠0:=by rw[<- qk,<- np,<- DC,h];exact xKb
 have hc:p.check=0:=by rw[h];decide+kernel
 have hs:p.small:=by rw[h];exact z6s 2
 obtain⟨p1,p2,p3,p4,p5,p6,p7,p8,p9,R8,R7⟩:sb p.code=sb [67,76]/\iE p.dt=iE [320,321,323]/\p.tick=5/\p.low=0/\p.high=1000/\p.wide=200/\p.gn=2/\p.top=4/\p.least=2/\p.part=40/\iE p.settle=iE [500,505,490]:=by
  rw[h];exact(oO (iP rfl))
 clear h;have Pd:jf p (uf p).B:=jf.new hc hs;unfold Vaw Qa BM Qc YC YA ff dx Qh Qj Qp Qx Vu QZ cS uD dX cE fK cQ yCn yAv yAa vt yAj vt yBu vt aP jG V8 dI;refine⟨2,rfl,Y_,λ_ _=>⟨(),Y_,λ_ _=>⟨gj,⟨⟨p,0,[],[]⟩,p1,p2,p3,p4,p5,p6,p7,p8,p9,R8,R7,rfl,⟨⟨hc,hs⟩,⟨⟨λl hl=>(by cases hl),rfl,su rfl⟩,jx _,su rfl⟩,λr hr=>(by cases hr),su rfl⟩,λo Yt=> ?_⟩⟩⟩⟩;have Yt:o.ga p (uf p).B (uf p).U:=Yt;have z0:(uf p).q=0:=rfl;have z1:(uf p).R.length=0:=rfl;have z2:([]:i4).length=0:=rfl;refine⟨⟨uf p,o,⟨[],0⟩,[],[]⟩,iB (iB ⟨rfl,λj=>BQ p (uf p) ⟨[],0⟩ 0 b1 j,⟨OT,iB ⟨rfl,⟨rfl,y2u⟩,λ_ _=>⟨⟨o,uf p,p,⟨[],0⟩,0,b1⟩,rfl,by rw[qk],iB (iB ⟨rfl,⟨⟨Yt,Pd⟩,Z9,⟨su rfl,su rfl⟩,⟨Z9,Z9⟩,Z9,Z9⟩,λo9 hb=>⟨⟨uf p,o9,⟨[],0⟩,_,[]⟩,rfl,rfl,rfl,rfl,rfl,rfl,rfl,rfl,rfl,rfl,rfl,rfl,rfl,rfl,rfl,rfl,rfl,rfl,rfl,BQ.bad hb.2 Pd hb.1,gj⟩,λo9 hg=>⟨⟨_,o9,_,_,_⟩,rfl,rfl,rfl,rfl,rfl,rfl,rfl,rfl,rfl,rfl,rfl,rfl,rfl,rfl,rfl,rfl,rfl,rfl,rfl,BQ.wm Yt Pd oM hg.1 hg.2,gj⟩⟩)⟩⟩⟩,?_⟩)⟩;rintro⟨x1,o1,d1,O1,N1⟩ MC;obtain⟨⟨Mz,Cr,u1,u2,u3,u4,_,_⟩,_⟩:=id MC;obtain⟨e1,_,e3,_⟩:=MC.Ja r1;dsimp only at Mz Cr u1 u2 u3 u4 e1 e3 ⊢;refine⟨⟨x1,o1,d1,[],[]⟩,iB (iB ⟨rfl,λj=>BQ p (x1) d1 1 b2 j,⟨OS,iB ⟨rfl,⟨rfl,y5b⟩,λ_ _=>⟨⟨o1,x1,p,d1,1,b2⟩,rfl,by rw[np],iB (iB ⟨rfl,⟨⟨Mz,Cr⟩,Z9,⟨su rfl,su rfl⟩,⟨Z9,Z9⟩,Z9,Z9⟩,λo9 hb=>⟨⟨x1,o9,d1,_,[]⟩,rfl,rfl,rfl,rfl,rfl,rfl,rfl,rfl,rfl,rfl,rfl,rfl,rfl,rfl,rfl,rfl,rfl,rfl,rfl,BQ.bad hb.2 Cr hb.1,gj⟩,λo9 hg=>⟨⟨_,o9,_,_,_⟩,rfl,rfl,rfl,rfl,rfl,rfl,rfl,rfl,rfl,rfl,rfl,rfl,rfl,rfl,rfl,rfl,rfl,rfl,rfl,BQ.wm Mz Cr oM hg.1 hg.2,gj⟩⟩)⟩⟩⟩,?_⟩)⟩;rintro⟨x2,o2,d2,O2,N2⟩ Ig;obtain⟨⟨hM3,I0,v1,v2,v3,v4,_,_⟩,_⟩:=id Ig;obtain⟨f1,_,f3,_⟩:=Ig.Ja r2;dsimp only at hM3 I0 v1 v2 v3 v4 f1 f3 ⊢;refine⟨⟨x2,o2,d2,[],[]⟩,iB (iB ⟨rfl,λj=>BQ p (x2) d2 2 b3 j,⟨Ml,iB ⟨rfl,⟨rfl,y3z⟩,λ_ _=>⟨⟨o2,x2,p,d2,2,b3⟩,rfl,by rw[DC],iB (iB ⟨rfl,⟨⟨hM3,I0⟩,Z9,⟨su rfl,su rfl⟩,⟨Z9,Z9⟩,Z9,Z9⟩,λo9 hb=>⟨⟨x2,o9,d2,_,[]⟩,rfl,rfl,rfl,rfl,rfl,rfl,rfl,rfl,rfl,rfl,rfl,rfl,rfl,rfl,rfl,rfl,rfl,rfl,rfl,BQ.bad hb.2 I0 hb.1,gj⟩,λo9 hg=>⟨⟨_,o9,_,_,_⟩,rfl,rfl,rfl,rfl,rfl,rfl,rfl,rfl,rfl,rfl,rfl,rfl,rfl,rfl,rfl,rfl,rfl,rfl,rfl,BQ.wm hM3 I0 oM hg.1 hg.2,gj⟩⟩)⟩⟩⟩,?_⟩)⟩;rintro⟨x3,o3,d3,O3,N3⟩ hA3;obtain⟨g1,_,g3,g4⟩:=hA3.Ja r3;dsimp only at g1 g3 g4 ⊢;rw[e1]at f1 f3;rw[f1]at g3 g4;rw[e3,f3,g3,g4];obtain⟨q31,q32,q33⟩:=q3;have ux:∀(l:List (Int×ga)),(l.map jY).length=l.length:=λl=>ib _
 have Sr:((jX ((uf p).ed p 0 b1|>.ed p 1 b2).q ((((uf p).ed p 0 b1).ed p 1 b2).M p 2 b3)).map zU).length=((((uf p).ed p 0 b1).ed p 1 b2).M p 2 b3).length:=by rw[ib,sK]
 rw[ux,ux,ux,q1,q2,q31,Sr];obtain⟨y,hy⟩:=zZ (l:=((((uf p).ed p 0 b1).ed p 1 b2).X p 2 b3).O) (i:=5) oM;have hy2:y.2=⟨3,3,0,1,505,4,5,0⟩:=by rw[mz,hy]at q32;exact q32
 have h8:=xGb hy;rw[hy2]at h8;exact W_ (λ_=>W_ (λ_=>W_ (λ_=>⟨⟨su rfl,su rfl⟩,_,_,_,_,_,_,_,_,h8,W_ (λ_=>⟨(),(jt oM).symm,Y_⟩) (λe=>absurd e Z8)⟩) (λe=>absurd e Z8)) (λe=>absurd e Z8)) (λe=>absurd e Z8)
def UO:awC.ok Z_ 30:=gy mixed (dw yUh (dw yFt (dw yQn (dw yId (dw GY fk))))) 1 (λp=>awJ p) i6 [] func30 vaw
def Fo (b:Bool):List D:=[.v (.bool b)]
structure Fq where
 x:Es
 o:iJ
 d:Dk
 N:List gi
def tmJ (p:fj) (t:Nat):gu:={ι:=Fq,o8:=λ_=>[(10,.nm 0 0)],mf:=λj=>JY p j.x j.o j.d,du:=λ_=>[(10,.nm 0 0),(t,.own 8)],rows:=λj=>JY p j.x j.o j.d++[tF j.N]}
structure qq where
 x:fj
 p:fj
 l:List ir
 lo:List Bool
 r:List Int
@[reducible] def qq.ok (i:qq):Prop:=(i.p=im i.x/\i.x.raw/\(∀c∈i.l,c.raw)/\i.l.length<=9223372036854775807/\i.lo.length<=9223372036854775807)/\(∀n∈i.r,gx n)/\i.r.length<=9223372036854775807
def toC:gh:=fp qq (λi=>[nv i.x,ox 9 (i.l.map zy),ox 1 (i.lo.map Fo),ox 1 (iE i.r)]) i6 (λi=>i.ok) (λ_=>yM aq) i6
def ln:Option i4->List D
 |none=>[.v (.slice none 0 0)]
 |some b=>[.ro 1 (bE b)]
@[reducible] def OP (L:List (Option i4)):fq:= .own FP 1 (L.map ln)
structure ta where
 x:Es
 o:iJ
 d:Dk
 h:List (Option i4)
 k:Nat
structure Fp where
 h:List (Option i4)
 N:List gi
 k:Nat
structure Al where
 h:List (Option i4)
 k:Nat
structure vz where
 v:Vs
 h:List (Option i4)
 g:Bool
 k:Nat
def toA (i:qq):List gu:=[
 {ι:=ta,du:=λj=>[(9,.nm 8 0),(10,.nm 0 0),(15,.own 11),(16,zB j.k)],rows:=λj=>JY i.p j.x j.o j.d++xKa i.p++[OP j.h]},
 {ι:=Fp,du:=λj=>[(15,.own 0),(17,.own 1),(18,zB j.k)],rows:=λj=>[OP j.h,tF j.N]},
 {ι:=Al,du:=λj=>[(15,.own 0),(21,zB j.k)],rows:=λj=>[OP j.h]},
 {ι:=vz,du:=λj=>[(13,.nm 0 0),(15,.own 3),(23,yM j.g),(24,zB j.k)],rows:=λj=>vwK 0 i.p.count j.v++[OP j.h]}]
def swJ:gu:={ι:=List (Option i4),o8:=λ_=>[(15,.own 0)],mf:=λh=>[OP h],du:=λ_=>[(15,.own 0)],rows:=λh=>[OP h]}
def wnJ (t:Nat):gu:={ι:=Vw,du:=λ_=>[(t,.nm 0 0)],rows:=λv=>[.cells [.own 1] 59,dW v]}
def toJ (i:qq):List (Nat×gu):=[(32,bj 57),(40,tmJ i.p 17),(60,bj 99),(76,bj 116),(88,swJ),(128,wnJ 26),(132,bj 190)]
def cA (a:mo):Prop:=((ab a.s.v=a.n/\a.n<=1000)/\(∀(b:Sd×Sd),b∈a.s.v->b.fst.levels.length<=a.e/\b.snd.levels.length<=a.e)/\a.e+a.s.H.length<=1000000)/\∀(b:gi),b∈a.s.H->gi.iO (a.n:Int) b=0
def cL (a:qq) (b:ta):=(aa zA (yH a.p b.x.B))
def wO (a:qq):=(D.v (av (sb a.p.code)))
def V4 (a:fj):=(aa zA (HO a.count))
def z9b (a:fj) (b:fj) (c:qq):Prop:=vt a (dk (af 10 (sD a))/\dk (af 1 (iE (u7 b)))/\dk (af 1 (iE (qU (kN b).toNat)))/\Bp c.x (dk (af 1 (iE c.x.dt))))
@[reducible] def Qq (a:fj)(b:qq)(c:ta)(R:Prop):Prop:=af 1 (iE a.dt)=af 1 (iE a.dt)/\af 1 (iE a.settle)=af 1 (iE a.settle)/\af 10 (cL b c)=af 10 (cL b c)/\ag [V.d (wO b),V.own 27,V.d (dI a.tick),V.d (dI a.low),V.d (dI a.high),V.d (dI a.wide),V.d (dI a.gn),V.d (dI a.top),V.d (dI a.least),V.d (dI a.part),V.own 28] (25:ar)=ag [V.d (wO b),V.own 27,V.d (dI a.tick),V.d (dI a.low),V.d (dI a.high),V.d (dI a.wide),V.d (dI a.gn),V.d (dI a.top),V.d (dI a.least),V.d (dI a.part),V.own 28] (25:ar)/\af 1 (iE a.dt)=af 1 (iE a.dt)/\af 1 (iE a.settle)=af 1 (iE a.settle)/\R
@[reducible] def Pg (a:ta)(R:Prop):Prop:=mc a.d=mc a.d/\aj FP 1 (aa kj a.x.R)=aj FP 1 (aa kj a.x.R)/\R
def yBi (a:ta) (b:qq) (c:fj) (d:fj) (e:fj):Prop:=Pg a (Qq b.p b a (dk (af 10 (V4 c))/\z9b d e b))
def mH (a:ta):=(dI (a.x.R.length:Int))
@[reducible] def QF (a:qq)(b:ta)(R:Prop):Prop:=ag [V.d (wO a),V.own 23,V.d (dI a.p.tick),V.d (dI a.p.low),V.d (dI a.p.high),V.d (dI a.p.wide),V.d (dI a.p.gn),V.d (dI a.p.top),V.d (dI a.p.least),V.d (dI a.p.part),V.own 24,V.nm 7 0,V.nm 8 0,V.own 25,V.d (dI b.x.q),V.own 22] Ly=ag [V.d (wO a),V.own 23,V.d (dI a.p.tick),V.d (dI a.p.low),V.d (dI a.p.high),V.d (dI a.p.wide),V.d (dI a.p.gn),V.d (dI a.p.top),V.d (dI a.p.least),V.d (dI a.p.part),V.own 24,V.nm 7 0,V.nm 8 0,V.own 25,V.d (dI b.x.q),V.own 22] Ly/\ag [V.nm 9 0,V.d (mH b)] (235:ar)=ag [V.nm 9 0,V.d (mH b)] (235:ar)/\ma (Gt.mk b.o b.x.W)=ma (Gt.mk b.o b.x.W)/\R
def yCs (a:qq) (b:ta) (c:fj) (d:fj) (e:fj):Prop:=QF a b (yBi b a c d e)
def yAn (a:vz) (b:vz) (c:vz->Prop) (d:vz->Nat) (e:qq) (f:ta) (g:fj) (h:fj) (j:fj):Prop:=aa ln a.h=aa ln b.h/\c a/\d a<d b/\yCs e f g h j
def z9x (a:vz) (b:qq) (c:mo) (d:vz->Prop) (e:vz->Nat) (f:ta) (g:fj) (h:fj) (j:fj):Prop:=∃(k:vz),k.g=a.g/\(k.k:Int)=am.wrap ((a.k:Int)+1)/\(b.p.count:Int)=(c.n:Int)/\k.v.q=c.T.q/\af 10 (aa zA k.v.v)=af 10 (aa zA c.T.v)/\aa zU k.v.H=aa zU c.T.H/\yAn k a d e b f g h j
@[reducible] def QO (a b:Vs)(R:Prop):Prop:=a.q=b.q/\af 10 (aa zA a.v)=af 10 (aa zA b.v)/\aa zU a.H=aa zU b.H/\R
def yUw (a:mo) (b:qq) (c:vz) (d:vz->Prop) (e:vz->Nat) (f:ta) (g:fj) (h:fj) (j:fj):Prop:=(a.n:Int)=(b.p.count:Int)/\QO a.s c.v (((cA a)/\HD a.s.H/\a.b.length<=1000000/\a.e+a.s.H.length<=900000)/\ff (dp (a.W !=0) (dp (a.W !=32) (dx (aq=ap/\True)) (z9x c b a d e f g h j)) (z9x c b a d e f g h j)))
def rC (a:qq):Prop:=Ql a.p (True)
def z2m (a:iJ):Prop:=a.s.ez.length<=1000000/\∀(b:dq),b∈a.s.ez->N' b
@[reducible] def QY (a:fj)(b:Vs)(R:Prop):Prop:=ag [V.d (dI (a.count:Int)),V.own 32,V.d (dI b.q),V.own 33] (107:ar)=ag [V.d (dI (a.count:Int)),V.own 32,V.d (dI b.q),V.own 33] (107:ar)/\af 10 (aa zA b.v)=af 10 (aa zA b.v)/\aj nA 7 (aa zU b.H)=aj nA 7 (aa zU b.H)/\R
def ySm (a:qq) (b:iJ) (c:Vw->Prop) (d:vz) (e:ta) (f:I8) (g:fj) (h:fj) (j:fj):Prop:=∃(k:Fu),Qb k.p a.p (zE k.s=zE b.s/\(k.s.ga k.p k.B/\jf k.p k.B)/\ff (∃(m:Vw),af 10 (aa zA m)=af 10 (aa zA (yH k.p k.B))/\c m/\QY a.p d.v (dk (aj FP 1 (aa ln d.h))/\dk (ag [V.d (wO a),V.own 23,V.d (dI a.p.tick),V.d (dI a.p.low),V.d (dI a.p.high),V.d (dI a.p.wide),V.d (dI a.p.gn),V.d (dI a.p.top),V.d (dI a.p.least),V.d (dI a.p.part),V.own 24,V.nm 7 0,V.nm 8 0,V.own 25,V.d (dI e.x.q),V.own 22] Ly)/\dk (ag [V.nm 9 0,V.d (mH e)] (235:ar))/\ma f.g=ma (Gt.mk e.o e.x.W)/\yBi e a g h j)))
def yNi (a:qq) (b:iJ) (c:Vw->Prop) (d:vz) (e:ta) (f:I8) (g:fj) (h:fj) (j:fj):Prop:=(rC a)/\ySm a b c d e f g h j
def yVi (a:qq) (b:Cy) (c:Vw->Prop) (d:vz) (e:ta) (f:I8) (g:fj) (h:fj) (j:fj):Prop:=(rC a)/\∃(k:iJ),qX k=qX b.g.m/\(z2m k)/\ff (yNi a k c d e f g h j)
def yQv (a:qq) (b:I8) (c:Vw->Prop) (d:vz) (e:ta) (f:fj) (g:fj) (h:fj):Prop:=(rC a)/\∃(j:Cy),ma j.g=ma b.g/\(j.g.m.ga j.p j.B j.U/\jf j.p j.B)/\ff (yVi a j c d e b f g h)
def W4 (a:fj) (b:fj) (c:fj) (d:qq):Prop:=ag [V.d (dI (a.count:Int)),V.own 15,V.d (dI 0),V.own 16] (107:ar)=ag [V.d (dI (a.count:Int)),V.own 15,V.d (dI 0),V.own 16] (107:ar)/\dk (af 10 (V4 a))/\dk (aj nA 7 [])/\z9b b c d
def z8w (a:qq) (b:ta) (c:fj) (d:fj) (e:fj):Prop:=Qq a.p a b (W4 c d e a)
def rO (a:qq) (b:Fq):=(aa zA (yH a.p b.x.B))
def yDl (a:qq) (b:Fq) (c:ta) (d:fj) (e:fj) (f:fj):Prop:=ag [V.d (wO a),V.own 35,V.d (dI a.p.tick),V.d (dI a.p.low),V.d (dI a.p.high),V.d (dI a.p.wide),V.d (dI a.p.gn),V.d (dI a.p.top),V.d (dI a.p.least),V.d (dI a.p.part),V.own 36,V.nm 7 0,V.nm 8 0,V.own 37,V.d (dI b.x.q),V.own 34] Ly=ag [V.d (wO a),V.own 35,V.d (dI a.p.tick),V.d (dI a.p.low),V.d (dI a.p.high),V.d (dI a.p.wide),V.d (dI a.p.gn),V.d (dI a.p.top),V.d (dI a.p.least),V.d (dI a.p.part),V.own 36,V.nm 7 0,V.nm 8 0,V.own 37,V.d (dI b.x.q),V.own 34] Ly/\dk (ag [V.nm 9 0,V.d (dI (b.x.R.length:Int))] (235:ar))/\dk (ma (Gt.mk b.o b.x.W))/\dk (mc b.d)/\dk (aj FP 1 (aa kj b.x.R))/\vt a.p (dk (af 10 (rO a b))/\z8w a c d e f)
def yAu (a:Bool->Prop) (b:Bool) (c:Fp) (d:qq) (e:Fq) (f:ta) (g:fj) (h:fj) (j:fj):Prop:=a b/\dk (aj FP 1 (aa ln c.h))/\dk (aj nA 7 (aa zU c.N))/\yDl d e f g h j
def yDj (a:vz) (b:qq) (c:ta) (d:fj) (e:fj) (f:fj):Prop:=aj FP 1 (aa ln a.h)=aj FP 1 (aa ln a.h)/\yCs b c d e f
@[reducible] def Yz (a:Vw)(R:Prop):Prop:=ag [V.own 36] (59:ar)=ag [V.own 36] (59:ar)/\af 10 (aa zA a)=af 10 (aa zA a)/\R
def yDo (a:Bool->Prop) (b:Bool) (c:Vw) (d:qq) (e:vz) (f:ta) (g:fj) (h:fj) (j:fj):Prop:=a b/\Yz c (QY d.p e.v (yDj e d f g h j))
def yCy (a:Bool->Prop) (b:Vw) (c:qq) (d:vz) (e:ta) (f:fj) (g:fj) (h:fj):Prop:=∃(j:Bool),j=aq/\yDo a j b c d e f g h
def z9r (a:Fp) (b:Fp) (c:Fp->Prop) (d:Fp->Nat) (e:qq) (f:Fq) (g:ta) (h:fj) (j:fj) (k:fj):Prop:=aa zU a.N=aa zU b.N/\c a/\d a<d b/\yDl e f g h j k
def yAl (a:qq) (b:ta) (c:fj) (d:fj) (e:fj):Prop:=Qq a.p a b (dk (aj FP 1 (aa ln b.h))/\W4 c d e a)
def yBt (a:Bool->Prop) (b:Bool) (c:qq) (d:ta) (e:fj) (f:fj) (g:fj):Prop:=a b/\QF c d (Pg d (yAl c d e f g))
def yAi (a:qq) (b:ta) (c:fj) (d:fj) (e:fj):Prop:=QF a b (Pg b (z8w a b c d e))
def z9g (a:Bool->Prop) (b:Bool) (c:Al) (d:qq) (e:ta) (f:fj) (g:fj) (h:fj):Prop:=a b/\dk (aj FP 1 (aa ln c.h))/\yAi d e f g h
def yCi (a:vz) (b:qq) (c:vz->Prop) (d:vz->Nat) (e:ta) (f:fj) (g:fj) (h:fj):Prop:=∃(j:vz),j.g=aq/\(j.k:Int)=am.wrap ((a.k:Int)+1)/\dk ((b.p.count:Int))/\QO j.v a.v (yAn j a c d b e f g h)
def Pw (a:Al->Prop) (b:Al) (c:Al->Nat) (d:Al) (e:qq) (f:ta) (g:fj) (h:fj) (j:fj):Prop:=a b/\c b<c d/\yAi e f g h j
def yCo (a:Fq->Prop) (b:Fq) (c:qq) (d:ta) (e:fj) (f:fj) (g:fj):Prop:=a b/\yAl c d e f g
def N8 (a:Al):=(zJ (aa ln a.h) (a.k:Int).toNat 0 [D.v y7])
def z1r (a:qy) (b:Al):Prop:=0<=zG a.n a.lo a.hi/\zG a.n a.lo a.hi<((N8 b).length:Int)
def NX (a:Al) (b:Q_ D):=(zJ (aa ln a.h) (a.k:Int).toNat 0 [D.ro 1 b])
def z1v (a:qy) (b:Al) (c:Q_ D):Prop:=0<=zG a.n a.lo a.hi/\zG a.n a.lo a.hi<((NX b c).length:Int)
def YQ (a:fj):Prop:=a.check=0/\zV a
def eG (a:Al):Prop:=0<=(a.k:Int)/\(a.k:Int)<((aa ln a.h).length:Int)
def LJ (a:qq):=((aa Fo a.lo).length:Int)
@[reducible] def Qv (a b:fj)(R:Prop):Prop:=a.tick=zW b/\a.low=(-20)*zW b/\a.high=100*zW b/\a.wide=zW b*(wW b)/\a.gn=1+zG b.gn 0 2/\a.top=zG b.top 0 9/\a.least=1+zG b.least 0 4/\a.part=zG b.part 0 100/\R
@[reducible] def SZ (a:Al)(R:Prop):Prop:=(eG a)/\(a.k:Int).toNat<(aa ln a.h).length/\R
@[reducible] def SY (a b:Es)(R:Prop):Prop:=a.q=b.q/\(a.R.length:Int)=(b.R.length:Int)/\R
def Vto (i:qq):Prop:=
 ∃(a:fj),Qb a i.x ((((-9223372036854775808)<=a.tick/\a.tick<=9223372036854775807)/\((-9223372036854775808)<=a.wide/\a.wide<=9223372036854775807)/\((-9223372036854775808)<=a.gn/\a.gn<=9223372036854775807)/\((-9223372036854775808)<=a.top/\a.top<=9223372036854775807)/\((-9223372036854775808)<=a.least/\a.least<=9223372036854775807)/\((-9223372036854775808)<=a.part/\a.part<=9223372036854775807)/\a.dt.length<=9223372036854775807)/\ff (∃(c:fj),sb c.code=sb [(206:UInt8),(169:UInt8)]/\iE c.dt=iE (qU (kN a).toNat)/\Qv c a (iE c.settle=iE (u7 a)/\(YQ c)/\∀(d:iJ),d.ga c (ac c.count []) []->∃(e:fj),sb e.code=sb [(206:UInt8),(169:UInt8)]/\iE e.dt=iE (qU (kN a).toNat)/\Qv e a (iE e.settle=iE (u7 a)/\(YQ e)/\ff (∃(g:ta),(g.k:Int)=0/\Qa i.p c (g.x.q=0/\(g.x.R.length:Int)=((0:Nat):Int)/\ma (Gt.mk g.o g.x.W)=ma (Gt.mk d [])/\mc g.d=mc (Dk.mk [] 0)/\aa kj g.x.R=[]/\BM i.p c (af 10 (cL i g)=af 10 (sD c)/\sb i.p.code=sb [(206:UInt8),(169:UInt8)]/\Qv i.p a (af 1 (iE i.p.dt)=af 1 (iE (qU (kN a).toNat))/\af 1 (iE i.p.settle)=af 1 (iE (u7 a))/\aa ln g.h=[]/\∃(h:ta->Prop),∃(j:ta->Nat),h g/\∀(k:ta),h k->∃(l:Bool),∃(m:Bool->Prop),dp (decide ((k.k:Int)<((aa zy i.l).length:Int))) (∃(n:Bool),n=decide ((k.k:Int)<30)/\yBt m n i k e c a) (∃(n:Bool),n=ap/\yBt m n i k e c a)/\∀(n:Bool),m n->dp n (∃(p:Fq),Qc i.p (SY p.x k.x (ma (Gt.mk p.o p.x.W)=ma (Gt.mk k.o k.x.W)/\mc p.d=mc k.d/\aa kj p.x.R=aa kj k.x.R/\vt i.p (af 10 (rO i p)=af 10 (cL i k)/\∃(q:Fq->Prop),((0<=(k.k:Int)/\(k.k:Int)<((aa zy i.l).length:Int))/\∃(r:Int),∃(s:Int),∃(t:Int),∃(u:Int),∃(v:Int),∃(w:Int),∃(x:Int),∃(y:Int),∃(z:ByteArray),zC (aa zy i.l) (k.k:Int).toNat 0 9=au [dI r,dI s,dI t,dI u,dI v,dI w,dI x,dI y,D.v (av z)]/\∃(lk:zo),Qb lk.p i.p (lk.c.kind=r/\lk.c.id=s/\lk.c.inst=t/\lk.c.side=u/\lk.c.dm=v/\lk.c.dr=w/\lk.c.least=x/\lk.c.time=y/\sb lk.c.label=z/\lk.i=(k.k:Int)/\((∃(my:fj),lk.p=im my)/\V0 lk)/\ff (∃(iH:wg),iH.s=0/\bE iH.b=bE (xI lk).enc/\Qa iH.p i.p (SY iH.x p.x (ma (Gt.mk iH.o iH.x.W)=ma (Gt.mk p.o p.x.W)/\mc iH.d=mc p.d/\QS iH.x p.x iH.p i.p (af 10 (uD iH)=af 10 (rO i p)/\(V8 iH)/\(∀(oR:iJ),(zT iH.s iH.b).snd≠0/\oR.ga iH.p iH.x.B iH.x.U->∃(jl:Fq),Qa i.p iH.p (SY jl.x iH.x (ma (Gt.mk jl.o jl.x.W)=ma (Gt.mk oR iH.x.W)/\mc jl.d=mc iH.d/\QS jl.x iH.x i.p iH.p (af 10 (rO i jl)=af 10 (uD iH)/\aa zU jl.N=[]/\yCo q jl i k e c a))))/\∀(oR:iJ),(zT iH.s iH.b).snd=0/\oR.ga iH.p (iH.x.X iH.p iH.s iH.b).B (iH.x.X iH.p iH.s iH.b).U->∃(jl:Fq),Qa i.p iH.p (jl.x.q=iH.x.q+(dX iH)/\(jl.x.R.length:Int)=(cE iH)/\ma (Gt.mk jl.o jl.x.W)=ma (cS oR iH)/\mc jl.d=mc iH.D/\aa kj jl.x.R=aa kj (fK iH)/\BM i.p iH.p (af 10 (rO i jl)=af 10 (cQ iH)/\aa zU jl.N=aa zU iH.N/\yCo q jl i k e c a))))))))/\∀(r:Fq),q r->∃(s:Fp),(s.k:Int)=0/\aa ln s.h=aa ln k.h/\aa zU s.N=aa zU r.N/\∃(t:Fp->Prop),∃(u:Fp->Nat),t s/\∀(v:Fp),t v->dp (decide ((v.k:Int)<((aa zU v.N).length:Int))) ((0<=(v.k:Int)/\(v.k:Int)<((aa zU v.N).length:Int))/\∃(w:Int),∃(x:Int),∃(y:Int),∃(z:Int),∃(lk:Int),∃(my:Int),∃(iH:Bool),zC (aa zU v.N) (v.k:Int).toNat 0 7=au [dI w,dI x,dI y,dI z,dI lk,dI my,D.v (.bool iH)]/\∃(oR:gi),oR.seq=w/\oR.inst=x/\oR.side=y/\oR.dm=z/\oR.dr=lk/\oR.count=my/\oR.gg=iH/\True/\ff (∃(sy:Bool),∃(qp:Bool->Prop),dp (decide (((aa ln v.h).length:Int)>=(LJ i))) (∃(xo:Bool),xo=aq/\yAu qp xo v i r k e c a) (am=am/\(LJ i)≠0/\(0<=((aa ln v.h).length:Int).tmod (LJ i)/\((aa ln v.h).length:Int).tmod (LJ i)<(LJ i))/\∃(xo:Bool),zC (aa Fo i.lo) (((aa ln v.h).length:Int).tmod (LJ i)).toNat 0 1=au [D.v (.bool xo)]/\∃(ur:Bool),ur=!xo/\yAu qp ur v i r k e c a)/\∀(xo:Bool),qp xo->dp xo (((aa ln v.h).length+1)*(24:Nat)<=(140737488355328:Nat)/\∃(ur:Fp),(ur.k:Int)=am.wrap ((v.k:Int)+1)/\aa ln ur.h=aa ln v.h++[[D.ro 1 (bE oR.enc)]]/\z9r ur v t u i r k e c a) (((aa ln v.h).length+1)*(24:Nat)<=(140737488355328:Nat)/\∃(ur:Fp),(ur.k:Int)=am.wrap ((v.k:Int)+1)/\aa ln ur.h=aa ln v.h++[[D.v y7]]/\z9r ur v t u i r k e c a))) (∃(w:ta),(w.k:Int)=am.wrap ((k.k:Int)+1)/\Qc i.p (SY w.x r.x (ma (Gt.mk w.o w.x.W)=ma (Gt.mk r.o r.x.W)/\mc w.d=mc r.d/\aa kj w.x.R=aa kj r.x.R/\vt i.p (af 10 (cL i w)=af 10 (rO i r)/\Qc i.p (vt i.p (aa ln w.h=aa ln v.h/\h w/\j w<j k/\W4 e c a i)))))))))) (∃(p:Al),(p.k:Int)=0/\aa ln p.h=aa ln k.h/\∃(q:Al->Prop),∃(r:Al->Nat),q p/\∀(s:Al),q s->∃(t:Bool),∃(u:Bool->Prop),dp (decide ((s.k:Int)<((iE i.r).length:Int))) (∃(v:Bool),v=decide ((s.k:Int)<((aa ln s.h).length:Int))/\z9g u v s i k e c a) (∃(v:Bool),v=ap/\z9g u v s i k e c a)/\∀(v:Bool),u v->dp v ((0<=(s.k:Int)/\(s.k:Int)<((iE i.r).length:Int))/\∃(w:Int),zC (iE i.r) (s.k:Int).toNat 0 1=au [dI w]/\∃(x:qy),x.n=w/\x.lo=0/\x.hi=am.wrap (((aa ln s.h).length:Int)-1)/\(xB x)/\ff ((0<=zG x.n x.lo x.hi/\zG x.n x.lo x.hi<((aa ln s.h).length:Int))/\(zC (aa ln s.h) (zG x.n x.lo x.hi).toNat 0 1=au [D.v y7]/\(eG s)/\((zC (aa ln s.h) (s.k:Int).toNat 0 1=au [D.v y7]/\SZ s ((z1r x s)/\(zG x.n x.lo x.hi).toNat<(N8 s).length/\∃(z:Al),(z.k:Int)=am.wrap ((s.k:Int)+1)/\aa ln z.h=zJ (N8 s) (zG x.n x.lo x.hi).toNat 0 [D.v y7]/\Pw q z r s i k e c a))\/(∃(z:Q_ D),zC (aa ln s.h) (s.k:Int).toNat 0 1=au [D.ro 1 z]/\SZ s ((z1r x s)/\(zG x.n x.lo x.hi).toNat<(N8 s).length/\∃(lk:Al),(lk.k:Int)=am.wrap ((s.k:Int)+1)/\aa ln lk.h=zJ (N8 s) (zG x.n x.lo x.hi).toNat 0 [D.ro 1 z]/\Pw q lk r s i k e c a)))\/(∃(z:Q_ D),zC (aa ln s.h) (zG x.n x.lo x.hi).toNat 0 1=au [D.ro 1 z]/\(eG s)/\((zC (aa ln s.h) (s.k:Int).toNat 0 1=au [D.v y7]/\SZ s ((z1v x s z)/\(zG x.n x.lo x.hi).toNat<(NX s z).length/\∃(lk:Al),(lk.k:Int)=am.wrap ((s.k:Int)+1)/\aa ln lk.h=zJ (NX s z) (zG x.n x.lo x.hi).toNat 0 [D.v y7]/\Pw q lk r s i k e c a))\/(∃(lk:Q_ D),zC (aa ln s.h) (s.k:Int).toNat 0 1=au [D.ro 1 lk]/\SZ s ((z1v x s z)/\(zG x.n x.lo x.hi).toNat<(NX s z).length/\∃(my:Al),(my.k:Int)=am.wrap ((s.k:Int)+1)/\aa ln my.h=zJ (NX s z) (zG x.n x.lo x.hi).toNat 0 [D.ro 1 lk]/\Pw q my r s i k e c a))))))) (∃(w:vz),w.g=ap/\(w.k:Int)=0/\(i.p.count:Int)=(e.count:Int)/\w.v.q=0/\af 10 (aa zA w.v.v)=af 10 (V4 e)/\aa zU w.v.H=[]/\aa ln w.h=aa ln s.h/\∃(x:vz->Prop),∃(y:vz->Nat),x w/\∀(z:vz),x z->dp (decide ((z.k:Int)<((aa ln z.h).length:Int))) ((0<=(z.k:Int)/\(z.k:Int)<((aa ln z.h).length:Int))/\((zC (aa ln z.h) (z.k:Int).toNat 0 1=au [D.v y7]/\yCi z i x y k e c a)\/(∃(lk:Q_ D),zC (aa ln z.h) (z.k:Int).toNat 0 1=au [D.ro 1 lk]/\∀(my:Bool),(my=aq->lk=[])->dp my (yCi z i x y k e c a) ((0<=(z.k:Int)/\(z.k:Int)<((aa ln z.h).length:Int))/\((zC (aa ln z.h) (z.k:Int).toNat 0 1=au [D.v y7]/\∃(iH:mo),bE iH.b=[]/\yUw iH i z x y k e c a)\/(∃(iH:Q_ D),zC (aa ln z.h) (z.k:Int).toNat 0 1=au [D.ro 1 iH]/\∃(oR:mo),bE oR.b=iH/\yUw oR i z x y k e c a)))))) (∃(lk:Vw),∃(my:Vw->Prop),((∃(iH:I8),ma iH.g=ma (Gt.mk k.o k.x.W)/\(iH.g.m.ga iH.p iH.B iH.U/\jf iH.p iH.B)/\ff ((rC i)/\(∃(jl:Cy),ma jl.g=ma iH.g/\(jl.g.m.ga jl.p jl.B jl.U/\jf jl.p jl.B)/\ff ((rC i)/\(∃(qp:iJ),qX qp=qX jl.g.m/\(z2m qp)/\ff ((rC i)/\(ySm i qp my z k iH e c a)/\yNi i qp my z k iH e c a))/\yVi i jl my z k iH e c a))/\yQv i iH my z k e c a))/\(rC i)/\∃(iH:I8),ma iH.g=ma (Gt.mk k.o k.x.W)/\(iH.g.m.ga iH.p iH.B iH.U/\jf iH.p iH.B)/\ff (yQv i iH my z k e c a))/\∀(iH:Vw),my iH->∃(oR:Bool),∃(jl:Bool->Prop),dp (!z.g) (dp (!((aa zU z.v.H).length:Int)==0) (yCy jl iH i z k e c a) (dp (z.v.q !=k.x.q) (yCy jl iH i z k e c a) (∃(sy:mo),(sy.n:Int)=(i.p.count:Int)/\QO sy.s z.v ((cA sy)/\ff ((True/\True)/\∃(xo:Hz),aa zA xo.v=aa zA sy.s.v/\aa zA xo.w=aa zA iH/\(pF xo)/\ff (∃(ym:Bool),ym=!Fw xo.v xo.w/\jl ym/\Yz iH (ag [V.d (dI (sy.n:Int)),V.own 32,V.d (dI sy.s.q),V.own 33] (107:ar)=ag [V.d (dI (i.p.count:Int)),V.own 32,V.d (dI z.v.q),V.own 33] (107:ar)/\af 10 (aa zA sy.s.v)=af 10 (aa zA z.v.v)/\aj nA 7 (aa zU sy.s.H)=aj nA 7 (aa zU z.v.H)/\yDj z i k e c a))))))) (∃(sy:Bool),sy=ap/\yDo jl sy iH i z k e c a)/\∀(sy:Bool),jl sy->dp sy (dx (aq=ap/\True)) (∃(qp:En),Qa qp.p i.p (qp.q=k.x.q/\af 10 (aa zA qp.v)=af 10 (cL i k)/\(ab qp.v<=1099511627776/\∀(xo:Sd×Sd),xo∈qp.v->qN xo)/\ff (∃(ur:mo),bE ur.b=bE (xY qp.v qp.q)/\(ur.n:Int)=(i.p.count:Int)/\QO ur.s z.v (((cA ur)/\(∀(ym:Sd×Sd),ym∈bZ ur.b->ym.fst.levels.length<=ur.e/\ym.snd.levels.length<=ur.e)/\ur.b.length<=1099511627776)/\ff (dp (ur.Z==0) (dp (((aa zU ur.S.H).length:Int)==0) (dp (ur.S.q==qp.q) (∃(EI:mo),(EI.n:Int)=(ur.n:Int)/\EI.s.q=ur.S.q/\af 10 (aa zA EI.s.v)=af 10 (aa zA ur.S.v)/\aa zU EI.s.H=aa zU ur.S.H/\(cA EI)/\ff ((True/\True)/\∃(Gg:Hz),aa zA Gg.v=aa zA EI.s.v/\aa zA Gg.w=aa zA iH/\(pF Gg)/\ff (dp (Fw Gg.v Gg.w) (∃(aa3:fj),aa3=cU 2/\ff (dx (aq=aq/\True))) (dx (aq=ap/\True))))) (dx (aq=ap/\True))) (dx (aq=ap/\True))) (dx (aq=ap/\True))))))))))))))))))
def aaX (i:qq):Vto i=walk Z_ ([(11,Db),(12,TL),(13,KG),(14,A2),(16,S7),(15,M1),(17,Gi),(18,Da),(20,TO),(19,Gv),(83,TJ),(28,Le),(29,GA),(26,Gj),(25,Gu),(24,Dd),(30,awC)]) 1 (toJ i) (toA i) [] Tryz.f4 (Tryz.f4.body.getD .skip) (toC.pat i) (toC.pre i) (toC.alts i):=by kernel_rfl
def Rc (a:Vw) (b:Nat) (c:Q_ D):=(zJ (aa zA a) (b:Int).toNat 0 [D.ro 3 c])
def Vr (a:Nat) (b:Vw) (c:Q_ D):Prop:=0<=(a:Int)/\(a:Int)<((Rc b a c).length:Int)
def xGg (v:Vw):Prop:=
 ∃(a:Q_ D),a=aa zA v/\a.length*(112:Nat)<=(140737488355328:Nat)/\ff (∃(c:Nat),(c:Int)=0/\aa zA v=a/\∃(d:Nat->Prop),∃(e:Nat->Nat),d c/\∀(f:Nat),d f->dp (decide ((f:Int)<(a.length:Int))) ((dS f v)/\∃(g:Q_ D),zC (aa zA v) (f:Int).toNat 0 1=au [D.ro 3 g]/\(dS f v)/\∃(h:Q_ D),h=g/\h.length*(24:Nat)<=(140737488355328:Nat)/\ff (((dS f v)/\dk ((f:Int).toNat))/\True/\(f:Int).toNat<(aa zA v).length/\(Vr f v h)/\∃(k:Q_ D),zC (Rc v f h) (f:Int).toNat 5 1=au [D.ro 3 k]/\(Vr f v h)/\∃(l:Q_ D),l=k/\l.length*(24:Nat)<=(140737488355328:Nat)/\ff (((Vr f v h)/\dk ((f:Int).toNat))/\True/\(f:Int).toNat<(Rc v f h).length/\∃(n:Nat),(n:Int)=am.wrap ((f:Int)+1)/\aa zA v=zJ (Rc v f h) (f:Int).toNat 5 [D.ro 3 l]/\d n/\e n<e f/\dk (ag ot.cl 59)/\dk (af 10 (aa zA v))))) (dx (dk (aa zA v)/\True)))
def y4r (p:fj):Prop:=
 ∃(a:fj),Qb a p ((zV a)/\ff (dp (a.check !=0) (dx (False)) (∃(c:fj),Qb c p ((zV c)/\ff ((0<=(c.count:Int)/\(c.count:Int)<=(c.count:Int)/\(c.count:Int)<=9223372036854775807/\((112:Nat):Int)*(c.count:Int)<=2 ^ (48:Nat))/\dx (dk ((0:Int))/\(p.count:Int)=(c.count:Int)/\dk ((0:Int))/\aa zA (HO p.count)=ac (c.count:Int).toNat [D.ro 3 [],dI 0,dI 0,dI 0,D.v (.bool ap),D.ro 3 [],dI 0,dI 0,dI 0,D.v (.bool ap)]/\([]:Q_ D)=[]/\True))))))
def xEn (i:mo):Prop:=
 ∃(a:Ey),aa zA a.v=aa zA i.s.v/\a.m.seq=i.m.seq/\a.m.inst=i.m.inst/\a.m.side=i.m.side/\Q2 a.m i.m ((gi.iO ((ab a.v):Int) a.m=0/\ab a.v<=1000000/\ab a.v<=1099511627776/\∀(b:Sd×Sd),b∈a.v->qN b)/\ff (dx (dk ((i.n:Int))/\dk i.m.seq/\dk (aa zU i.s.H)/\af 10 (aa zA (ru i.s.v i.m))=af 10 (aa zA (ru a.v a.m))/\True)))
def y2m (l:Q_ D):Prop:=
 ∀(b:Bool),(b=aq->l=[])->dp b (∃(o:Unit),l=[]/\True) ((0+l.length)*(56:Nat)<=(140737488355328:Nat)/\∃(o:Unit),l=[]++l/\True)
def y9f (l:Q_ D):y2m l=walk Z_ ([]) 0 ([]) ([]) [] Tryz.f144 (Tryz.f144.body.getD .skip) (Au.pat l) (Au.pre l) (Au.alts l):=by kernel_rfl
def y6d (hG:zq Z_ ([])) (h:∀(l:Q_ D),Au.dp l->y2m l):Au.ok Z_ 144:=qY mixed ([]) hG 0 (λ(l:Q_ D)=>[]) (λ(l:Q_ D)=>[]) [] func144 (by kernel_rfl) (by kernel_rfl) (by kernel_rfl) (λ_=>by kernel_rfl) (λ(l:Q_ D) hc=>Eq.mp (y9f l) (h l hc))
def Wx (a:mo):Prop:=(cA a)/\gi.iO (a.n:Int) a.m=0
def zNf (a:mo) (b:Vs):Prop:=dx (dk ((a.n:Int))/\a.F.q=b.q/\af 10 (aa zA a.F.v)=af 10 (aa zA b.v)/\aa zU a.F.H=aa zU b.H/\True)
def y2l (i:mo):Prop:=
 ∃(a:Vs),dk ((i.n:Int))/\a.q=i.s.q/\af 10 (aa zA a.v)=dW i.s.v/\aa zU a.H=aa zU i.s.H/\∃(b:Vs->Prop),∃(c:Vs->Nat),b a/\∀(d:Vs),b d->dp (decide (((aa zU d.H).length:Int)>0)) (((0:Int)<=(0:Int)/\0<((aa zU d.H).length:Int))/\∃(e:Int),zC (aa zU d.H) (aw 0) 0 1=au [dI e]/\dp (decide (am.wrap (e-1)<=d.q)) (((0:Int)<=(0:Int)/\0<((aa zU d.H).length:Int))/\∃(f:Int),∃(g:Int),∃(h:Int),∃(j:Int),∃(k:Int),∃(l:Int),∃(m:Bool),zC (aa zU d.H) (aw 0) 0 7=au [dI f,dI g,dI h,dI j,dI k,dI l,D.v (.bool m)]/\dp (am.wrap (f-1)==d.q) (∃(n:mo),n.m.seq=f/\n.m.inst=g/\n.m.side=h/\n.m.dm=j/\n.m.dr=k/\n.m.count=l/\n.m.gg=m/\(n.n:Int)=(i.n:Int)/\QO n.s d ((Wx n)/\ff (((0:Int)<=(1:Int)/\1<=((aa zU n.s.H).length:Int))/\∃(q:Q_ D),q=ae (aw 1) (aa zU n.s.H)/\q.length<=1000000/\ff (∃(s:Vs),(i.n:Int)=(n.n:Int)/\s.q=n.m.seq/\af 10 (aa zA s.v)=af 10 (aa zA (ru n.s.v n.m))/\aa zU s.H=q/\b s/\c s<c d/\dk (dW i.s.v))))) (((0:Int)<=(1:Int)/\1<=((aa zU d.H).length:Int))/\∃(n:Q_ D),n=ae (aw 1) (aa zU d.H)/\n.length<=1000000/\ff (∃(q:Vs),dk ((i.n:Int))/\q.q=d.q/\af 10 (aa zA q.v)=af 10 (aa zA d.v)/\aa zU q.H=n/\b q/\c q<c d/\dk (dW i.s.v)))) (zNf i d)) (zNf i d)
def sJ (a:F'):=(aO ao (ao.wrap (am.wrap ((a.a:Int)+(a.b:Int)))) 1)
def Zb (a:F') (b:F'->Prop) (c:F'->Nat) (d:KF):Prop:=∃(e:F'),(e.a:Int)=(a.a:Int)/\(e.b:Int)=am.wrap (sJ a)/\b e/\c e<c a/\dk (tF d.H)
def nY (a:KF):=((aa zU a.H).length:Int)
def xDw (i:KF):Prop:=
 ∃(a:F'),(a.a:Int)=0/\(a.b:Int)=(nY i)/\∃(b:F'->Prop),∃(c:F'->Nat),b a/\∀(d:F'),b d->dp (decide ((d.a:Int)<(d.b:Int))) ((0:Int)<=(1:Int)/\(0<=am.wrap (sJ d)/\am.wrap (sJ d)<(nY i))/\∃(e:Int),∃(f:Int),∃(g:Int),∃(h:Int),∃(j:Int),∃(k:Int),∃(l:Bool),zC (aa zU i.H) (am.wrap (sJ d)).toNat 0 7=au [dI e,dI f,dI g,dI h,dI j,dI k,D.v (.bool l)]/\dp (decide (e<i.n)) (∃(m:F'),(m.a:Int)=am.wrap (am.wrap (sJ d)+1)/\(m.b:Int)=(d.b:Int)/\b m/\c m<c d/\dk (tF i.H)) (dp (decide (e>i.n)) (Zb d b c i) (Zb d b c i))) (dp (decide ((d.a:Int)<(nY i))) ((0<=(d.a:Int)/\(d.a:Int)<(nY i))/\∃(e:Int),∃(f:Int),∃(g:Int),∃(h:Int),∃(j:Int),∃(k:Int),∃(l:Bool),zC (aa zU i.H) (d.a:Int).toNat 0 7=au [dI e,dI f,dI g,dI h,dI j,dI k,D.v (.bool l)]/\dp (decide (e<i.n)) (dx (((cK i.H i.n):Int)=(d.a:Int)/\pP i.H i.n=((-1:Int)==(0:Int))/\dk (aa zU i.H)/\True)) (dp (decide (e>i.n)) (dx (((cK i.H i.n):Int)=(d.a:Int)/\pP i.H i.n=((1:Int)==(0:Int))/\dk (aa zU i.H)/\True)) (dx (((cK i.H i.n):Int)=(d.a:Int)/\pP i.H i.n=((0:Int)==(0:Int))/\dk (aa zU i.H)/\True)))) (dx (((cK i.H i.n):Int)=(d.a:Int)/\pP i.H i.n=ap/\dk (aa zU i.H)/\True)))
def zHi (a:Bool->Prop) (b:Bool) (c:i4) (d:mo):Prop:=a b/\dk (ag [V.d (dI ((xP c).fst.seq)),V.d (dI ((xP c).fst.inst)),V.d (dI ((xP c).fst.side)),V.d (dI ((xP c).fst.dm)),V.d (dI ((xP c).fst.dr)),V.d (dI ((xP c).fst.count)),V.d (D.v (.bool (xP c).fst.gg))] 51)/\dk (RX (d.n:Int) d.s.q 0 1 2)/\dk (dW d.s.v)/\dk (tF d.s.H)
@[reducible] def Pk (a:mo)(R:Prop):Prop:=(a.n:Int)=(a.n:Int)/\a.T.q=a.s.q/\af 10 (aa zA a.T.v)=dW a.s.v/\R
def zGw (a:mo) (b:KF):Prop:=Pk a (aa zU a.T.H=aa zU b.H/\True)
def zGb (a:mo) (b:KF):Prop:=dx (a.W=33/\zGw a b)
def zHr (a:mo):Prop:=Pk a (aa zU a.T.H=aa zU a.s.H/\True)
@[reducible] def Qa6 (a:gi)(b:i4)(R:Prop):Prop:=a.seq=(xP b).fst.seq/\a.inst=(xP b).fst.inst/\a.side=(xP b).fst.side/\a.dm=(xP b).fst.dm/\a.dr=(xP b).fst.dr/\a.count=(xP b).fst.count/\a.gg=(xP b).fst.gg/\R
def yRl (i:mo):Prop:=
 ∃(a:i4),bE a=bE i.b/\xf a/\ff (dp ((xP a).snd !=0) (dx (i.W=(xP a).snd/\zHr i)) (∃(c:Bool),∃(d:Bool->Prop),dp (decide ((xP a).fst.seq<1)) (∃(e:Bool),e=aq/\zHi d e a i) (∃(e:MJ),e.k=(i.n:Int)/\Qa6 e.m a (True/\ff (∃(g:Bool),g=(gi.iO e.k e.m !=0)/\zHi d g a i)))/\∀(e:Bool),d e->dp e (dx (i.W=12/\zHr i)) (∃(f:KF),f.n=(xP a).fst.seq/\aa zU f.H=aa zU i.s.H/\(HD f.H/\f.H.length<=1000000)/\ff (dp (decide ((xP a).fst.seq<=i.s.q)) (zGb i f) (dp (pP f.H f.n) (zGb i f) (dp (am.wrap ((xP a).fst.seq-1)==i.s.q) (∃(h:mo),Qa6 h.m a ((h.n:Int)=(i.n:Int)/\h.s.q=i.s.q/\af 10 (aa zA h.s.v)=dW i.s.v/\aa zU h.s.H=aa zU f.H/\(Wx h)/\ff (∃(k:mo),(k.n:Int)=(h.n:Int)/\k.s.q=h.m.seq/\af 10 (aa zA k.s.v)=af 10 (aa zA (ru h.s.v h.m))/\aa zU k.s.H=aa zU h.s.H/\(cA k)/\ff (dx (i.W=0/\(i.n:Int)=(k.n:Int)/\i.T.q=k.F.q/\af 10 (aa zA i.T.v)=af 10 (aa zA k.F.v)/\aa zU i.T.H=aa zU k.F.H/\True))))) (dp (decide ((nY f)>=4096)) (dx (i.W=13/\zGw i f)) (True/\∃(h:Bv),(h.i:Int)=((cK f.H f.n):Int)/\h.fa=aa zU f.H/\[h.el]=[[dI ((xP a).fst.seq),dI ((xP a).fst.inst),dI ((xP a).fst.side),dI ((xP a).fst.dm),dI ((xP a).fst.dr),dI ((xP a).fst.count),D.v (.bool (xP a).fst.gg)]]/\(h.i<=h.fa.length/\(h.fa.length+1)*(56:Nat)<=(140737488355328:Nat))/\ff (dx (i.W=32/\Pk i (aa zU i.T.H=List.take h.i h.fa++h.el::ae h.i h.fa/\True)))))))))))
def eX (a:mo):Prop:=(a.n:Int)=(a.n:Int)/\a.S.q=a.s.q/\af 10 (aa zA a.S.v)=dW a.s.v/\aa zU a.S.H=aa zU a.s.H/\True
def zHo (a:mo):Prop:=dx (a.Z=12/\eX a)
def yOd (i:mo):Prop:=
 ∃(a:i4),bE a=bE i.b/\a.length<=1099511627776/\ff (dp (tY a !=0) (dx (i.Z=tY a/\eX i)) (dp (((aa zA (bZ a)).length:Int) !=(i.n:Int)) (zHo i) (dp (decide (pR a<0)) (zHo i) (dp (decide (pR a<i.s.q)) (dx (i.Z=33/\eX i)) (∃(c:mo),(c.n:Int)=(i.n:Int)/\c.s.q=pR a/\af 10 (aa zA c.s.v)=af 10 (aa zA (bZ a))/\aa zU c.s.H=aa zU i.s.H/\(cA c)/\ff (dx (i.Z=0/\(i.n:Int)=(c.n:Int)/\i.S.q=c.F.q/\af 10 (aa zA i.S.v)=af 10 (aa zA c.F.v)/\aa zU i.S.H=aa zU c.F.H/\True)))))))
def yQe (i:mo):Prop:=
 ∃(a:Vw),aa zA a=aa zA i.s.v/\(ab a<=1000000/\rV a)/\ff (dx (aa zA i.s.v=aa zA a/\dk ((i.n:Int))/\dk i.s.q/\af 10 (aa zA i.s.v)=dW i.s.v/\dk (aa zU i.s.H)/\True))
def ZK:∀{H:List gi} {n:Int} {a:Nat},a<=H.length->(∀k l,H[k]? =au l->k<a->l.seq<n)->(∀k l,H[k]? =au l->a<=k->n<=l.seq)->cK H n=a
 |[],n,a,h,_,_=>by
  have:a=0:=i9 h
  subst this;rfl
 |l::H,n,0,_,_,h2=>by
  have:=h2 0 l rfl (jx _);rw[cK,List.takeWhile_cons_of_neg (by simp;omega)];rfl
 |l::H,n,a+1,h,h1,h2=>by
  have h3:=h1 0 l rfl oM;have:=ZK (H:=H) (n:=n) (a:=a) (i9 h) (λk l' hk gr=>h1 (k+1) l' hk oM) (λk l' hk hle=>h2 (k+1) l' hk oM);rw[cK]at this;rw[cK,List.takeWhile_cons_of_pos (i9 h3),iG,this]
def xCz (H:List gi) (n:Int):cK H n<=H.length:=by
 rw[cK];exact(List.takeWhile_sublist _).length_le
def z8v {H:List gi} (h:HD H) {i j:Nat} {a b:gi} (ha:H[i]? =au a) (hb:H[j]? =au b) (Ks:i<j):a.seq<b.seq:=by
 obtain⟨hi,rfl⟩:=jk.1 ha;obtain⟨hj,rfl⟩:=jk.1 hb;exact List.pairwise_iff_getElem.1 h i j hi hj Ks
def yVb {H:List gi} (h:HD H) {n:Int} {a:Nat} {l:gi} (hl:H[a]? =au l) (h1:∀k l,H[k]? =au l->k<a->l.seq<n) (h2:∀k l,H[k]? =au l->a<=k->n<=l.seq):pP H n=decide (l.seq=n):=by
 rw[pP,CK,Oy];constructor
 ·rintro⟨y,hy,hyn⟩;obtain⟨k,hk⟩:=Mi hy;have hyn:y.seq=n:=su hyn;refine jt ?_;rcases Nat.lt_trichotomy k a with c|c|c
  ·have:=h1 k y hk c;omega
  ·subst c;rw[hl]at hk;cases hk;exact hyn
  ·have:=z8v h hl hk c;have:=h2 a l hl (jx _);omega
 ·intro e;exact⟨l,kx hl,e⟩
def yPc {H:List gi} {n:Int} (h1:∀l∈H,l.seq<n):pP H n=ap:=by
 rw[pP,Mf];intro y hy;have:=h1 y hy;simp;omega
def yCc (s:Int) (L:List Lv) (m:Lv):(jR s L m).length<=L.length+1:=by
 rw[jR];split
 ·split
  ·rw[List.length_eraseIdx];split<;>omega
  ·rw[qj];omega
 ·split
  ·rw[ix,iG,nr,pj];omega
  ·omega
def z4u (s:Int) (x:Sd) (m:gi):(Ba s x m).levels.length<=x.levels.length+1:=by
 rw[Ba];split
 ·split
  ·exact By _
  ·exact By _
 ·exact yCc s x.levels m.lv
def yWx {v:Vw} {m:gi} {q:Sd×Sd} (h:q∈ru v m):q∈v\/∃p∈v,q=if m.side=1 then(Ba 1 p.1 m,p.2)else(p.1,Ba 2 p.2 m):=by
 rw[ru]at h;obtain⟨k,hk⟩:=BB.1 h;rw[FN]at hk;cases e:v[k]? with
 |none=>rw[e]at hk;cases hk
 |some x=>
  rw[e]at hk;have hx:=kx e;have hk:(if m.inst.toNat=k then(if m.side=1 then(Ba 1 x.1 m,x.2)else(x.1,Ba 2 x.2 m))else x)=q:=Option.some.inj hk;split at hk
  ·exact .inr ⟨x,hx,hk.symm⟩
  ·exact .inl (hk▸hx)
def yEv {n:Nat} {v:Vw} (m:gi) (h:lR n v):lR (n+1) (ru v m):=λq hq=>by
 rcases yWx hq with hq|⟨p,hp,rfl⟩
 ·have:=h q hq;omega
 ·obtain⟨h1,h2⟩:=h p hp;split
  ·exact⟨tz (z4u 1 p.1 m) oM,HI h2⟩
  ·exact⟨HI h1,tz (z4u 2 p.2 m) oM⟩
def yEq (v:Vw) (m:gi):(ru v m).length=v.length:=by rw[ru,List.length_modify]
def z9t {n k:Nat} {v:Vw} (h:lR n v) (hn:n<=1000000) (hl:v.length=k) (hk:k<=1000):xZ v:=zYy h hn oM
end Sx
