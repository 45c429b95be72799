/- Texts of ours. No condition. -/
import Derived.Test.YtfmobncdogfbmaaGreatQ13
set_option linter.all false
open List renaming map->ab,replicate->ac,range'->ae,length->af,drop->ag,range->aj
open Sx.fq renaming kq->ak,cells->am,own->ao,rh->ap
open Go.IntKind renaming i64->aq,u64->ar
open Bool renaming false->au,true->av
open Option renaming some->aw
open Go.Value renaming string->ax
open Go renaming TypeId->ay
open Int renaming toNat->az
namespace Sx
set_option maxRecDepth 100000
open Go Cv Go.Proofs
def lK (a:SL):=((sb a.s).extract 0 (min ((sb a.s).size:Int) 255).toNat)
def yRa (i:SL):Prop:=
 (0<=min ((sb i.s).size:Int) 255/\min ((sb i.s).size:Int) 255<=((sb i.s).size:Int))/\∃(a:WN),a.n=((lK i).size:Int)/\ap i4 2 ku a.l=Wr i.l/\a.ok/\ff (((bE (a.l++[iY a.n])).length+(j6 (lK i)).length)*(1:Nat)<=(140737488355328:Nat)/\dx (bE (i.l++FB i.s)=bE (a.l++[iY a.n])++j6 (lK i)/\True))
def zMj (a:WN) (b:iq):Prop:=∃(c:i4),ap i4 2 ku c=ap i4 2 ku (a.l++le a.n 8)/\c.length<=1099511627776/\ff (dx (bE b.enc=bE c/\dl ((0:Int))/\True))
def zLy (a:iq) (b:WN):Prop:=∃(c:WN),c.n=a.dr/\DG c b (ff (zMj c a))
def y2j (c:iq):Prop:=
 ∃(a:iq),Qd a c (a.label.length<=140737488355328/\ff (dp (a.right !=0) (dx (bE c.enc=[]/\0=a.right/\True)) (dx (True/\ff (∃(f:WN),f.n=c.kind/\OZ f (ff (∃(h:WN),h.n=c.id/\Kt h f (ff (dp (c.kind==1) (∃(k:WN),k.n=c.inst/\DG k h (ff (∃(m:WN),m.n=c.side/\Kt m k (ff (∃(p:WN),p.n=c.time/\Kt p m (ff (∃(r:WN),r.n=c.dm/\Kt r p (ff (∃(t:WN),t.n=c.dr/\DG t r (ff (∃(v:WN),v.n=c.least/\DG v t (ff (∃(x:SL),sb x.s=sb c.label/\ap i4 2 ku x.l=ap i4 2 ku (v.l++le v.n 8)/\(x.l.length+(300:Nat)<=(1099511627776:Nat)/\x.s.length<=255)/\ff (∃(z:i4),ap i4 2 ku z=ap i4 2 ku (x.l++FB x.s)/\z.length<=1099511627776/\ff (dx (bE c.enc=bE z/\dl ((0:Int))/\True)))))))))))))))) (dp (c.kind==3) (zLy c h) (dp (c.kind==4) (∃(k:WN),k.n=c.dm/\DG k h (ff (zLy c k))) (zMj h c))))))))))))
def U8 (a:zd):Prop:=(((-9223372036854775808)<=a.c.kind/\a.c.kind<=9223372036854775807)/\((-9223372036854775808)<=a.c.id/\a.c.id<=9223372036854775807)/\((-9223372036854775808)<=a.c.inst/\a.c.inst<=9223372036854775807)/\((-9223372036854775808)<=a.c.side/\a.c.side<=9223372036854775807)/\((-9223372036854775808)<=a.c.dm/\a.c.dm<=9223372036854775807)/\((-9223372036854775808)<=a.c.dr/\a.c.dr<=9223372036854775807)/\((-9223372036854775808)<=a.c.least/\a.c.least<=9223372036854775807)/\(-9223372036854775808)<=a.c.time/\a.c.time<=9223372036854775807)/\0<=a.i/\a.i<=1000000
def xEr (t:zd):Prop:=
 ∃(a:zd),Qb a.p t.p (Qd a.c t.c (a.i=t.i/\(a.p.check=0/\(o8 a.p (a.p.settle.length<=1099511627776))/\U8 a)/\ff (∃(c:iq),c.kind=(xI a).kind/\c.id=(xI a).id/\c.inst=(xI a).inst/\c.side=(xI a).side/\c.dm=(xI a).dm/\c.dr=(xI a).dr/\c.least=(xI a).least/\c.time=(xI a).time/\sb c.label=sb (xI a).label/\(c.label=[]/\c.right=0)/\ff (dx (bE (xI t).enc=bE c.enc/\True)))))
def Vm (a:Bl):Prop:=(QZ a.p (a.p.settle.length<=1099511627776))/\(((∀(b:i4),b∈a.L->b.length<=255)/\(Cx a.t).snd.snd=10/\(oU a.L).length+a.t.length<=1048576)/\a.s<=(oU a.L++a.t).length/\(oU a.L++a.t).length<=1048576)/\(∀(b:i4),b∈a.L->b≠[]/\(zU ((b.headD (0:UInt8)).toNat:Int) b.tail).snd=0)/\a.L.length<=100000
def rO (a:fj):=(ab zA (yK a (ac a.count [])))
def xGr (p:fj):Prop:=
 dx (True/\ff (∃(c:Bl),Qb c.p p (lz c.j.d=lz (Dk.mk [] 0)/\(Vm c)/\∀(d:iI),d.ga c.p (vO c.p c.L).B (vO c.p c.L).U->∃(e:iI),av=((0:Int)==(0:Int))/\Qa p c.p (0=(vO c.p c.L).q/\((0:Nat):Int)=(c.L.length:Int)/\mr (Gt.mk e [])=mr (Gt.mk d (vO c.p c.L).W)/\lz (Dk.mk [] 0)=lz c.j.d'/\[]=ab iZ (vO c.p c.L).R/\BG p c.p (ak 10 (rO p)=ak 10 (aL c)/\e.ga p (ac p.count []) [])))))
def jC (a:fj) (b:rq):=(ab zA (yK a b.x.B))
def z9m (a:Bl) (b:Int):Prop:=wy a.p (dl (ak 10 (aL a))/\dl (ak 1 (iE [(500:Int),(505:Int),(490:Int)]))/\dl (ak 1 (iE [(320:Int),(321:Int),(323:Int)]))/\dl (am [V.d (D.v (ax (sb [(67:UInt8),(76:UInt8)]))),V.own 1,V.d (dI 5),V.d (dI 0),V.d (dI 1000),V.d (dI 200),V.d (dI b),V.d (dI 4),V.d (dI 2),V.d (dI 40),V.own 2] 25))
def z9p (a:fj) (b:rq) (c:Bl) (d:Int):Prop:=wy a (dl (ak 10 (jC a b))/\dl (am [V.own 20,V.own 21] yUt)/\dl (ao P5 9 (ab jX b.O))/\dl (ao rM 7 (ab zS b.N))/\z9m c d)
def yBw (a:rq->Prop) (b:rq) (c:fj) (d:rq) (e:rq) (f:Bl) (g:Int):Prop:=a b/\wy c (dl (ak 10 (jC c d))/\dl (am [V.own 31,V.own 32] yUt)/\dl (ao P5 9 (ab jX d.O))/\dl (ao rM 7 (ab zS d.N))/\z9p c e f g)
def yCq (a:rq->Prop) (b:rq) (c:fj) (d:rq) (e:Bl) (f:Int):Prop:=a b/\z9p c d e f
def z9q (a:rq->Prop) (b:rq) (c:Bl) (d:Int):Prop:=a b/\z9m c d
def Wk (a:vt):Prop:=(a.o.ga a.p a.x.B a.x.U/\jh a.p a.x.B)/\a.b.length<=254/\((-1)<=a.s/\a.s<8)/\(0<=a.x.q/\a.x.q<=1000000000000000000)/\a.x.R.length<=1000000/\a.d.b.length+a.b.length+(7:Nat)<=(1048576:Nat)
@[reducible] def Qh (a:rq)(b:vt)(c:iI)(d:fj)(R:Prop):Prop:=a.x.q=b.x.q/\(a.x.R.length:Int)=(b.x.R.length:Int)/\mr (Gt.mk a.o a.x.W)=mr (Gt.mk c b.x.W)/\lz a.d=lz b.d/\ab iZ a.x.R=ab iZ b.x.R/\ak 1 (iE d.dt)=ak 1 (iE b.p.dt)/\ak 1 (iE d.settle)=ak 1 (iE b.p.settle)/\ak 10 (jC d a)=ak 10 (uD b)/\ab jX a.O=[jX (b.s,ga.mk 2 0 0 0 0 0 0 (zU b.s b.b).snd)]/\ab zS a.N=[]/\R
@[reducible] def Qj (a:rq)(b:vt)(c:iI)(d:fj)(R:Prop):Prop:=a.x.q=b.x.q+(cM b)/\(a.x.R.length:Int)=(cF b)/\mr (Gt.mk a.o a.x.W)=mr (dX c b)/\lz a.d=lz b.D/\ab iZ a.x.R=ab iZ (fC b)/\ak 1 (iE d.dt)=ak 1 (iE b.p.dt)/\ak 1 (iE d.settle)=ak 1 (iE b.p.settle)/\ak 10 (jC d a)=ak 10 (cD b)/\ab jX a.O=ab jX b.O/\ab zS a.N=ab zS b.N/\R
@[reducible] def Qp (a:vt)(b:rq)(c:fj)(R:Prop):Prop:=a.x.q=b.x.q/\(a.x.R.length:Int)=(b.x.R.length:Int)/\mr (Gt.mk a.o a.x.W)=mr (Gt.mk b.o b.x.W)/\lz a.d=lz b.d/\ab iZ a.x.R=ab iZ b.x.R/\ak 1 (iE a.p.dt)=ak 1 (iE c.dt)/\ak 1 (iE a.p.settle)=ak 1 (iE c.settle)/\ak 10 (uD a)=ak 10 (jC c b)/\(Wk a)/\R
@[reducible] def Qy (a b:rq)(c:fj)(R:Prop):Prop:=a.x.q=b.x.q/\(a.x.R.length:Int)=(b.x.R.length:Int)/\mr (Gt.mk a.o a.x.W)=mr (Gt.mk b.o b.x.W)/\lz a.d=lz b.d/\ab iZ a.x.R=ab iZ b.x.R/\ak 1 (iE c.dt)=ak 1 (iE c.dt)/\ak 1 (iE c.settle)=ak 1 (iE c.settle)/\ak 10 (jC c a)=ak 10 (jC c b)/\R
@[reducible] def Yl (a:iq)(R:Prop):Prop:=a.least=0/\a.time=1/\sb a.label=ByteArray.mk #[]/\(a.label=[]/\a.right=0)/\R
def Vaw (p:fj):Prop:=
 ∃(a:Int),a=2/\True/\ff (dx (True/\ff ((dl (sb [(67:UInt8),(76:UInt8)])/\True/\Ym a (True/\True))/\∃(e:Bl),sb e.p.code=sb [(67:UInt8),(76:UInt8)]/\iE e.p.dt=iE [(320:Int),(321:Int),(323:Int)]/\e.p.tick=5/\e.p.low=0/\e.p.high=1000/\e.p.wide=200/\e.p.gm=a/\e.p.top=4/\e.p.least=2/\e.p.part=40/\iE e.p.settle=iE [(500:Int),(505:Int),(490:Int)]/\lz e.j.d=lz (Dk.mk [] 0)/\(Vm e)/\∀(f:iI),f.ga e.p (vO e.p e.L).B (vO e.p e.L).U->∃(g:rq),Qa p e.p (g.x.q=(vO e.p e.L).q/\(g.x.R.length:Int)=(e.L.length:Int)/\mr (Gt.mk g.o g.x.W)=mr (Gt.mk f (vO e.p e.L).W)/\lz g.d=lz e.j.d'/\ab iZ g.x.R=ab iZ (vO e.p e.L).R/\BG p e.p (ak 10 (jC p g)=ak 10 (aL e)/\∃(h:rq->Prop),(∃(j:iq),j.kind=1/\j.id=1/\j.inst=3/\j.side=2/\j.dm=5/\j.dr=4/\Yl j (ff (∃(l:vt),l.s=0/\bE l.b=bE j.enc/\Qa l.p p (Qp l g p ((∀(m:iI),(zU l.s l.b).snd≠0/\m.ga l.p l.x.B l.x.U->∃(n:rq),Qa p l.p (Qh n l m p (z9q h n e a)))/\∀(m:iI),(zU l.s l.b).snd=0/\m.ga l.p (l.x.X l.p l.s l.b).B (l.x.X l.p l.s l.b).U->∃(n:rq),Qa p l.p (Qj n l m p (z9q h n e a)))))))/\∀(j:rq),h j->∃(k:rq),Qc p (Qy k j p (∃(l:rq->Prop),(∃(m:iq),m.kind=1/\m.id=2/\m.inst=1/\m.side=2/\m.dm=500/\m.dr=6/\Yl m (ff (∃(q:vt),q.s=1/\bE q.b=bE m.enc/\Qa q.p p (Qp q k p ((∀(r:iI),(zU q.s q.b).snd≠0/\r.ga q.p q.x.B q.x.U->∃(s:rq),Qa p q.p (Qh s q r p (yCq l s p j e a)))/\∀(r:iI),(zU q.s q.b).snd=0/\r.ga q.p (q.x.X q.p q.s q.b).B (q.x.X q.p q.s q.b).U->∃(s:rq),Qa p q.p (Qj s q r p (yCq l s p j e a)))))))/\∀(m:rq),l m->∃(n:rq),Qc p (Qy n m p (∃(q:rq->Prop),(∃(r:iq),r.kind=1/\r.id=3/\r.inst=0/\r.side=1/\r.dm=505/\r.dr=9/\Yl r (ff (∃(t:vt),t.s=2/\bE t.b=bE r.enc/\Qa t.p p (Qp t n p ((∀(u:iI),(zU t.s t.b).snd≠0/\u.ga t.p t.x.B t.x.U->∃(v:rq),Qa p t.p (Qh v t u p (yBw q v p m j e a)))/\∀(u:iI),(zU t.s t.b).snd=0/\u.ga t.p (t.x.X t.p t.s t.b).B (t.x.X t.p t.s t.b).U->∃(v:rq),Qa p t.p (Qj v t u p (yBw q v p m j e a)))))))/\∀(r:rq),q r->dp (((ab jX j.O).length:Int)==1) (dp (((ab jX m.O).length:Int)==1) (dp (((ab jX r.O).length:Int)==6) (((0:Int)<=(5:Int)/\5<((ab jX r.O).length:Int))/\∃(s:Int),∃(t:Int),∃(u:Int),∃(v:Int),∃(w:Int),∃(x:Int),∃(y:Int),∃(z:Int),zD (ab jX r.O) (az 5) 1 8=aw [dI s,dI t,dI u,dI v,dI w,dI x,dI y,dI z]/\dp (s==3 && (t==3 && (u==0 && (v==1 && (w==505 && (x==4 && (y==5 && (z==0 && av)))))))) (dx (av=decide (((ab zS r.N).length:Int)>0)/\True)) (dx (av=au/\True))) (dx (av=au/\True))) (dx (av=au/\True))) (dx (av=au/\True)))))))))))
def z9z {s:Int} (h0:0<=s/\s<8) {c:iq} (h:c.right=0):(zU s c.enc).2=0:=by
 rw[zU,ez (by omega),y0l h]
def OF:iq:=⟨1,1,3,2,5,4,0,1,[]⟩
def OE:iq:=⟨1,2,1,2,500,6,0,1,[]⟩
def L6:iq:=⟨1,3,0,1,505,9,0,1,[]⟩
def y1z:OF.right=0:=by decide+kernel
def y1n:OE.right=0:=by decide+kernel
def y3e:L6.right=0:=by decide+kernel
def aw1:Es:=(tu (cW 2)).ed (cW 2) 0 OF.enc
def aw2:Es:=aw1.ed (cW 2) 1 OE.enc
def xIo:((tu (cW 2)).X (cW 2) 0 OF.enc).O.length=1:=by decide+kernel
def xHh:(aw1.X (cW 2) 1 OE.enc).O.length=1:=by decide+kernel
def xIc:(aw2.X (cW 2) 2 L6.enc).O.length=6/\((aw2.X (cW 2) 2 L6.enc).O.getD 5 (0,⟨0,0,0,0,0,0,0,0⟩)).2=⟨3,3,0,1,505,4,5,0⟩/\(aw2.M (cW 2) 2 L6.enc).length≠0:=by decide+kernel
def yXt (a:i4) (i j:Nat):(sb a).extract i j=sb ((a.take j).drop i):=by
 apply ByteArray.ext;simp only[sb,ByteArray.data_extract,List.extract_toArray];rw[List.extract_eq_drop_take',List.drop_take]
def yPa:MS.ok Tryz.prog 136:=gx (V:=yRa) mixed (dw Pt fk) 0 (λ_=>y4r) i6 [] Tryz.func136 λ(i:SL) h=>by
 obtain⟨l,s⟩:=i;obtain⟨h,hl⟩:l.length+300<=1099511627776/\s.length<=255:=h;have hs:(sb s).size=s.length:=U7 s;have hm:min ((sb s).size:Int) 255=(s.length:Int):=by rw[hs];omega
 have he:(sb s).extract 0 ((s.length:Int)).toNat=sb s:=by
  rw[yXt,ot,At];rfl
 have et:s.take 255=s:=mz oM;unfold yRa ff dx lK;dsimp only;rw[hm,he,hs];refine⟨⟨oM,oM⟩,⟨l,s.length⟩,rfl,rfl,by dsimp only[WN.ok];omega,λ_ _=>⟨?_,(),?_,trivial⟩⟩
 ·dsimp only;rw[zYw,yW,yW,iv];simp[sb];omega
 ·dsimp only;rw[zYw,<- UD,FB,et];simp[sb]
def xFo (c:iq) (h:KJ.dp c):y2j c:=by
 obtain⟨hl,hr⟩:c.label=[]/\c.right=0:=h;have he:c.enc=iY c.kind::(le c.id 8++c.tail):=by rw[iq.enc,ez (by simp[hr])]
 unfold y2j DG Kt Qd OZ ff dx zLy DG ff zMj ff dx;refine⟨c,iA ⟨rfl,by rw[hl];exact mn _,λ_ _=>Cv.dp.mk (λe=>absurd e (by rw[hr];simp)) (λ_=>⟨(),trivial,λ_ _=>⟨⟨[],c.kind⟩,rfl,rfl,by simp[WN.ok],λ_ _=>⟨⟨[iY c.kind],c.id⟩,rfl,rfl,by simp[WN.ok],λ_ _=> ?_⟩⟩⟩)⟩⟩;dsimp only;refine Cv.dp.mk (λe=> ?_) (λe=>Cv.dp.mk (λe3=> ?_) (λe3=>Cv.dp.mk (λe4=> ?_) (λe4=> ?_)))
 ·have e:c.kind=1:=i9 e
  have ht:c.tail=iY c.inst::iY c.side::iY c.time::(le c.dm 8++(le c.dr 8++(le c.least 8++FB c.label))):=by rw[iq.tail,fh e]
  refine⟨⟨[iY c.kind]++le c.id 8,c.inst⟩,rfl,rfl,by simp[WN.ok,y8],λ_ _=>⟨⟨_,c.side⟩,rfl,rfl,by simp[WN.ok,y8],λ_ _=>⟨⟨_,c.time⟩,rfl,rfl,by simp[WN.ok,y8],λ_ _=>⟨⟨_,c.dm⟩,rfl,rfl,by simp[WN.ok,y8],λ_ _=>⟨⟨_,c.dr⟩,rfl,rfl,by simp[WN.ok,y8],λ_ _=>⟨⟨_,c.least⟩,rfl,rfl,by simp[WN.ok,y8],λ_ _=>⟨⟨_,c.label⟩,rfl,rfl,⟨by simp[y8],by rw[hl];exact mn _⟩,λ_ _=>⟨_,rfl,by dsimp only;rw[hl];simp[y8,FB],λ_ _=>⟨(),?_,rfl,trivial⟩⟩⟩⟩⟩⟩⟩⟩⟩;dsimp only;rw[he,ht];simp
 ·have e3:c.kind=3:=i9 e3
  have ht:c.tail=le c.dr 8:=by rw[iq.tail,ez (by omega),fh e3]
  refine⟨⟨[iY c.kind]++le c.id 8,c.dr⟩,rfl,rfl,by simp[WN.ok,y8],λ_ _=>⟨_,rfl,by simp[y8],λ_ _=>⟨(),?_,rfl,trivial⟩⟩⟩;dsimp only;rw[he,ht];simp
 ·have e4:c.kind=4:=i9 e4
  have ht:c.tail=le c.dm 8++le c.dr 8:=by rw[iq.tail,ez (by omega),ez (by omega),fh e4]
  refine⟨⟨[iY c.kind]++le c.id 8,c.dm⟩,rfl,rfl,by simp[WN.ok,y8],λ_ _=>⟨⟨_,c.dr⟩,rfl,rfl,by simp[WN.ok,y8],λ_ _=>⟨_,rfl,by simp[y8],λ_ _=>⟨(),?_,rfl,trivial⟩⟩⟩⟩;dsimp only;rw[he,ht];simp
 ·have e:¬c.kind=1:=i9 e
  have e3:¬c.kind=3:=i9 e3
  have e4:¬c.kind=4:=i9 e4
  have ht:c.tail=[]:=by rw[iq.tail,ez e,ez e3,ez e4]
  refine⟨_,rfl,by simp[y8],λ_ _=>⟨(),?_,rfl,trivial⟩⟩;rw[he,ht];simp
def yFe:KJ.ok Tryz.prog 60:=gx mixed (dw Ze (dw PC (dw Pt (dw UZ (dw yPa (dw Pw fk)))))) 0 i6 i6 [] Tryz.func60 xFo
def MU:SU.ok Tryz.prog 16:=gx (V:=xEr) mixed (dw yXo (dw yFe fk)) 0 i6 i6 [] Tryz.func16 λ(t:zd) h=>by
 obtain⟨p,c,k⟩:=t;obtain⟨⟨x,hp⟩,hc,h1,h2⟩:(∃x,p=ig x)/\c.raw/\0<=k/\k<=1000000:=h;subst hp;have hr:(xI ⟨ig x,c,k⟩).right=0:=by
  obtain⟨n,rfl⟩:∃n:Nat,k=n:=⟨k.toNat,oM⟩
  exact yQi oM
 unfold xEr Qb o8 Qd ff dx U8;dsimp only;exact⟨⟨ig x,c,k⟩,iA (iA (nf ⟨rfl,⟨pU x,zOe x,hc,h1,h2⟩,λ_ _=>⟨xI ⟨ig x,c,k⟩,iA ⟨rfl,⟨zHo _,hr⟩,λ_ _=>⟨(),rfl,trivial⟩⟩⟩⟩))⟩
def Nj:Tz.ok Tryz.prog 12:=gx (V:=xGr) mixed (dw yFv (dw yTq fk)) 0 i6 i6 [] Tryz.func12 λ(p:fj) h=>by
 obtain⟨hc,hs⟩:p.check=0/\p.small:=h;unfold xGr Qa Qb BG ff dx rO Vm QZ aL;exact⟨(),trivial,λ_ _=>⟨⟨p,0,[],[]⟩,iA (iM ⟨rfl,⟨⟨hc,hs⟩,⟨⟨λl hl=>(by cases hl),rfl,rf rfl⟩,ju _,rf rfl⟩,λr hr=>(by cases hr),rf rfl⟩,λo ho=>⟨o,iA (oL (iM ho))⟩⟩)⟩⟩
def yAc (c:iq) (h:c.right=0) (hl:c.label=[]):c.enc.length<=100:=yGi h hl
def y7k:(zU 0 OF.enc).2=0:=by decide+kernel
def y8h:(zU 1 OE.enc).2=0:=by decide+kernel
def y9g:(zU 2 L6.enc).2=0:=by decide+kernel
def xCw {O:List (Int×ga)} {k:Nat} {o:Int×ga} (h:O[k]? =aw o):zD (O.map jX) k 1 8=aw [D.v (.int .i64 o.2.kind),.v (.int .i64 o.2.id),.v (.int .i64 o.2.inst),.v (.int .i64 o.2.side),.v (.int .i64 o.2.dm),.v (.int .i64 o.2.dr),.v (.int .i64 o.2.left),.v (.int .i64 o.2.pf)]:=jz h (by simp[jX,x7]) rfl
def BK.IZ {p:fj} {x:Es} {d:Dk} {s:Int} {b:i4} {j:rq} (h:BK p x d s b j) (hr:(zU s b).2=0):j.x=x.ed p s b/\j.d=⟨d.b++jH (A3 s b),d.safe⟩/\j.O=(x.X p s b).O/\j.N=jY x.q (x.M p s b):=by
 rcases h.c with⟨a0,_⟩|⟨_,a1,a2,a3,a4⟩
 ·exact absurd hr a0
 ·exact⟨a1,a2,a3,a4⟩
def vaw (p:fj) (h:awC.dp p):Vaw p:=by
 have h:p=cW 2:=h;obtain⟨b1,qd⟩:∃b,OF.enc=b:=⟨_,rfl⟩
 obtain⟨b2,ni⟩:∃b,OE.enc=b:=⟨_,rfl⟩
 obtain⟨b3,Dw⟩:∃b,L6.enc=b:=⟨_,rfl⟩
 have l1:b1.length<=100:=by rw[<- qd];exact yAc _ y1z rfl
 have l2:b2.length<=100:=by rw[<- ni];exact yAc _ y1n rfl
 have l3:b3.length<=100:=by rw[<- Dw];exact yAc _ y3e rfl
 have r1:(zU 0 b1).2=0:=by rw[<- qd];exact y7k
 have r2:(zU 1 b2).2=0:=by rw[<- ni];exact y8h
 have r3:(zU 2 b3).2=0:=by rw[<- Dw];exact y9g
 have q1:((tu p).X p 0 b1).O.length=1:=by rw[<- qd,h];exact xIo
 have q2:(((tu p).ed p 0 b1).X p 1 b2).O.length=1:=by rw[<- qd,<- ni,h];exact xHh
 have q3:((((tu p).ed p 0 b1).ed p 1 b2).X p 2 b3).O.length=6/\(((((tu p).ed p 0 b1).ed p 1 b2).X p 2 b3).O.getD 5 (0,⟨0,0,0,0,0,0,0,0⟩)).2=⟨3,3,0,1,505,4,5,0⟩/\((((tu p).ed p 0 b1).ed p 1 b2).M p 2 b3).length≠0:=by rw[<- qd,<- ni,<- Dw,h];exact xIc
 have hc:p.check=0:=by rw[h];decide+kernel
 have hs:p.small:=by rw[h];exact z4g 2
 obtain⟨p1,p2,p3,p4,p5,p6,p7,p8,p9,RQ,RP⟩:sb p.code=sb [67,76]/\iE p.dt=iE [320,321,323]/\p.tick=5/\p.low=0/\p.high=1000/\p.wide=200/\p.gm=2/\p.top=4/\p.least=2/\p.part=40/\iE p.settle=iE [500,505,490]:=by
  rw[h];exact(oL (iM rfl))
 clear h;have OW:jh p (tu p).B:=jh.new hc hs;unfold Vaw Qa BG Qc Ym Yl ff dx Qh Qj Qp Qy Vm QZ dX uD cM cF fC cD z9q yCq yBw wy z9p wy z9m wy aL jC Wk dI;refine⟨2,rfl,trivial,λ_ _=>⟨(),trivial,λ_ _=>⟨gn,⟨⟨p,0,[],[]⟩,p1,p2,p3,p4,p5,p6,p7,p8,p9,RQ,RP,rfl,⟨⟨hc,hs⟩,⟨⟨λl hl=>(by cases hl),rfl,rf rfl⟩,ju _,rf rfl⟩,λr hr=>(by cases hr),rf rfl⟩,λo Yg=> ?_⟩⟩⟩⟩;have Yg:o.ga p (tu p).B (tu p).U:=Yg;have z0:(tu p).q=0:=rfl;have z1:(tu p).R.length=0:=rfl;have z2:([]:i4).length=0:=rfl;refine⟨⟨tu p,o,⟨[],0⟩,[],[]⟩,iA (iA ⟨rfl,λj=>BK p (tu p) ⟨[],0⟩ 0 b1 j,⟨OF,iA ⟨rfl,⟨rfl,y1z⟩,λ_ _=>⟨⟨o,tu p,p,⟨[],0⟩,0,b1⟩,rfl,by rw[qd],iA (iA ⟨rfl,⟨⟨Yg,OW⟩,Z9,⟨rf rfl,rf rfl⟩,⟨Z9,Z9⟩,Z9,Z9⟩,λo9 hb=>⟨⟨tu p,o9,⟨[],0⟩,_,[]⟩,rfl,rfl,rfl,rfl,rfl,rfl,rfl,rfl,rfl,rfl,rfl,rfl,rfl,rfl,rfl,rfl,rfl,rfl,rfl,BK.bad hb.2 OW hb.1,gn⟩,λo9 hg=>⟨⟨_,o9,_,_,_⟩,rfl,rfl,rfl,rfl,rfl,rfl,rfl,rfl,rfl,rfl,rfl,rfl,rfl,rfl,rfl,rfl,rfl,rfl,rfl,BK.vw Yg OW oM hg.1 hg.2,gn⟩⟩)⟩⟩⟩,?_⟩)⟩;rintro⟨x1,o1,d1,O1,N1⟩ Mn;obtain⟨⟨Mk,Co,u1,u2,u3,u4,_,_⟩,_⟩:=id Mn;obtain⟨e1,_,e3,_⟩:=Mn.IZ r1;dsimp only at Mk Co u1 u2 u3 u4 e1 e3 ⊢;refine⟨⟨x1,o1,d1,[],[]⟩,iA (iA ⟨rfl,λj=>BK p (x1) d1 1 b2 j,⟨OE,iA ⟨rfl,⟨rfl,y1n⟩,λ_ _=>⟨⟨o1,x1,p,d1,1,b2⟩,rfl,by rw[ni],iA (iA ⟨rfl,⟨⟨Mk,Co⟩,Z9,⟨rf rfl,rf rfl⟩,⟨Z9,Z9⟩,Z9,Z9⟩,λo9 hb=>⟨⟨x1,o9,d1,_,[]⟩,rfl,rfl,rfl,rfl,rfl,rfl,rfl,rfl,rfl,rfl,rfl,rfl,rfl,rfl,rfl,rfl,rfl,rfl,rfl,BK.bad hb.2 Co hb.1,gn⟩,λo9 hg=>⟨⟨_,o9,_,_,_⟩,rfl,rfl,rfl,rfl,rfl,rfl,rfl,rfl,rfl,rfl,rfl,rfl,rfl,rfl,rfl,rfl,rfl,rfl,rfl,BK.vw Mk Co oM hg.1 hg.2,gn⟩⟩)⟩⟩⟩,?_⟩)⟩;rintro⟨x2,o2,d2,O2,N2⟩ OX;obtain⟨⟨hM3,Yi,v1,v2,v3,v4,_,_⟩,_⟩:=id OX;obtain⟨f1,_,f3,_⟩:=OX.IZ r2;dsimp only at hM3 Yi v1 v2 v3 v4 f1 f3 ⊢;refine⟨⟨x2,o2,d2,[],[]⟩,iA (iA ⟨rfl,λj=>BK p (x2) d2 2 b3 j,⟨L6,iA ⟨rfl,⟨rfl,y3e⟩,λ_ _=>⟨⟨o2,x2,p,d2,2,b3⟩,rfl,by rw[Dw],iA (iA ⟨rfl,⟨⟨hM3,Yi⟩,Z9,⟨rf rfl,rf rfl⟩,⟨Z9,Z9⟩,Z9,Z9⟩,λo9 hb=>⟨⟨x2,o9,d2,_,[]⟩,rfl,rfl,rfl,rfl,rfl,rfl,rfl,rfl,rfl,rfl,rfl,rfl,rfl,rfl,rfl,rfl,rfl,rfl,rfl,BK.bad hb.2 Yi hb.1,gn⟩,λo9 hg=>⟨⟨_,o9,_,_,_⟩,rfl,rfl,rfl,rfl,rfl,rfl,rfl,rfl,rfl,rfl,rfl,rfl,rfl,rfl,rfl,rfl,rfl,rfl,rfl,BK.vw hM3 Yi oM hg.1 hg.2,gn⟩⟩)⟩⟩⟩,?_⟩)⟩;rintro⟨x3,o3,d3,O3,N3⟩ hA3;obtain⟨g1,_,g3,g4⟩:=hA3.IZ r3;dsimp only at g1 g3 g4 ⊢;rw[e1]at f1 f3;rw[f1]at g3 g4;rw[e3,f3,g3,g4];obtain⟨q31,q32,q33⟩:=q3;have uk:∀(l:List (Int×ga)),(l.map jX).length=l.length:=λl=>ia _
 have Sf:((jY ((tu p).ed p 0 b1|>.ed p 1 b2).q ((((tu p).ed p 0 b1).ed p 1 b2).M p 2 b3)).map zS).length=((((tu p).ed p 0 b1).ed p 1 b2).M p 2 b3).length:=by rw[ia,sZ]
 rw[uk,uk,uk,q1,q2,q31,Sf];obtain⟨y,hy⟩:=zZ (l:=((((tu p).ed p 0 b1).ed p 1 b2).X p 2 b3).O) (i:=5) oM;have hy2:y.2=⟨3,3,0,1,505,4,5,0⟩:=by rw[mu,hy]at q32;exact q32
 have h8:=xCw hy;rw[hy2]at h8;exact Cv.dp.mk (λ_=>Cv.dp.mk (λ_=>Cv.dp.mk (λ_=>⟨⟨rf rfl,rf rfl⟩,_,_,_,_,_,_,_,_,h8,Cv.dp.mk (λ_=>⟨(),(jo oM).symm,trivial⟩) (λe=>absurd e Z8)⟩) (λe=>absurd e Z8)) (λe=>absurd e Z8)) (λe=>absurd e Z8)
def UC:awC.ok Tryz.prog 30:=gx mixed (dw yTl (dw yFv (dw yTq (dw yFe (dw GQ fk))))) 1 (λp=>awJ p) i6 [] Tryz.func30 vaw
def IQ (b:Bool):List D:=[.v (.bool b)]
structure vm where
 x:fj
 p:fj
 l:List iq
 a:Int
 lo:List Bool
@[reducible] def vm.ok (i:vm):Prop:=(i.p=ig i.x/\i.x.raw/\(∀c∈i.l,c.raw)/\i.l.length<=9223372036854775807/\i.lo.length<=9223372036854775807)/\yP i.a
def tlC:gh:=fp vm (λi=>[nt i.x,ow 9 (i.l.map zm),zB i.a,ow 1 (i.lo.map IQ)]) i6 (λi=>i.ok) (λ_=>yL av) i6
structure Aq where
 x:Es
 o:iI
 d:Dk
 v:Vs
 h:Q_ UInt8
 k:Nat
structure CP where
 x:Es
 o:iI
 d:Dk
 N:List gi
structure Fs where
 v:Vs
 h:Q_ UInt8
 N:List gi
 k:Nat
structure IS where
 v:Vs
 h:Q_ UInt8
 k:Nat
def tlA (i:vm):List gr:=[
 {ι:=Aq,du:=λj=>[(9,.nm 8 0),(10,.nm 0 0),(13,.nm 11 0),(15,.own 14),(16,zB j.k)],rows:=λj=>JO i.p j.x j.o j.d++xIt i.p++vwK 11 i.p.count j.v++[Eh j.h]},
 {ι:=Fs,du:=λj=>[(13,.nm 0 0),(15,.own 3),(17,.own 4),(18,zB j.k)],rows:=λj=>vwK 0 i.p.count j.v++[Eh j.h,tJ j.N]},
 {ι:=IS,du:=λj=>[(13,.nm 0 0),(15,.own 3),(21,zB j.k)],rows:=λj=>vwK 0 i.p.count j.v++[Eh j.h]}]
def tmJ (p:fj) (t:Nat):gr:={ι:=CP,oP:=λ_=>[(10,.nm 0 0)],lq:=λj=>JO p j.x j.o j.d,du:=λ_=>[(10,.nm 0 0),(t,.own 8)],rows:=λj=>JO p j.x j.o j.d++[tJ j.N]}
def vtJ (p:fj) (t:Nat):gr:={ι:=Vs,oP:=λ_=>[(t,.nm 0 0)],lq:=λs=>EV p.count s,du:=λ_=>[(t,.nm 0 0)],rows:=λs=>EV p.count s}
def vuJ (p:fj) (t u:Nat):gr:={ι:=Vs,oP:=λ_=>[(t,.nm 0 0)],lq:=λs=>EV p.count s,du:=λ_=>[(t,.nm 0 0),(u,yL au)],rows:=λs=>EV p.count s}
def tlJ (i:vm):List (Nat×gr):=[(36,bj 54),(44,tmJ i.p 17),(64,bj 98),(66,vtJ i.p 13),(76,vuJ i.p 13 115)]
def pR (a:vm) (b:Aq):=(ab zA (yK a.p b.x.B))
def fL (a:vm):=(D.v (ax (sb a.p.code)))
def WI (a:fj) (b:fj) (c:fj) (d:vm):Prop:=ak 10 (ab zA (Ci a.count))=ak 10 (ab zA (Ci a.count))/\wy b (dl (ak 10 (rO b))/\dl (ak 1 (iE (hP c)))/\dl (ak 1 (iE (qU (kN c).toNat)))/\Bi d.x (dl (ak 1 (iE d.x.dt))))
@[reducible] def Qq (a:fj)(b:vm)(c:Aq)(R:Prop):Prop:=ak 1 (iE a.dt)=ak 1 (iE a.dt)/\ak 1 (iE a.settle)=ak 1 (iE a.settle)/\ak 10 (pR b c)=ak 10 (pR b c)/\am [V.d (fL b),V.own 27,V.d (dI a.tick),V.d (dI a.low),V.d (dI a.high),V.d (dI a.wide),V.d (dI a.gm),V.d (dI a.top),V.d (dI a.least),V.d (dI a.part),V.own 28] (25:ay)=am [V.d (fL b),V.own 27,V.d (dI a.tick),V.d (dI a.low),V.d (dI a.high),V.d (dI a.wide),V.d (dI a.gm),V.d (dI a.top),V.d (dI a.least),V.d (dI a.part),V.own 28] (25:ay)/\ak 1 (iE a.dt)=ak 1 (iE a.dt)/\ak 1 (iE a.settle)=ak 1 (iE a.settle)/\R
def WC (a:vm) (b:Aq) (c:fj) (d:fj) (e:fj):Prop:=Qq a.p a b (dl (ak 10 (ab zA b.v.v))/\WI c d e a)
def aG (a:vm) (b:CP):=(ab zA (yK a.p b.x.B))
@[reducible] def Qu (a:Es)(b:CP)(c:vm)(R:Prop):Prop:=am [V.nm 9 0,V.d (dI (a.R.length:Int))] (235:ay)=am [V.nm 9 0,V.d (dI (a.R.length:Int))] (235:ay)/\mr (Gt.mk b.o a.W)=mr (Gt.mk b.o a.W)/\lz b.d=lz b.d/\ao J' 1 (ab iZ a.R)=ao J' 1 (ab iZ a.R)/\ak 1 (iE c.p.dt)=ak 1 (iE c.p.dt)/\ak 1 (iE c.p.settle)=ak 1 (iE c.p.settle)/\R
def z8z (a:vm) (b:CP) (c:Aq) (d:fj) (e:fj) (f:fj):Prop:=am [V.d (fL a),V.own 38,V.d (dI a.p.tick),V.d (dI a.p.low),V.d (dI a.p.high),V.d (dI a.p.wide),V.d (dI a.p.gm),V.d (dI a.p.top),V.d (dI a.p.least),V.d (dI a.p.part),V.own 39,V.nm 7 0,V.nm 8 0,V.own 40,V.d (dI b.x.q),V.own 37] Jy=am [V.d (fL a),V.own 38,V.d (dI a.p.tick),V.d (dI a.p.low),V.d (dI a.p.high),V.d (dI a.p.wide),V.d (dI a.p.gm),V.d (dI a.p.top),V.d (dI a.p.least),V.d (dI a.p.part),V.own 39,V.nm 7 0,V.nm 8 0,V.own 40,V.d (dI b.x.q),V.own 37] Jy/\Qu b.x b a (dl (ak 10 (aG a b))/\WC a c d e f)
@[reducible] def Yu (a:Fs)(R:Prop):Prop:=ak 10 (ab zA a.v.v)=ak 10 (ab zA a.v.v)/\ao J' 1 (ab iZ a.h)=ao J' 1 (ab iZ a.h)/\ao rM 7 (ab zS a.N)=ao rM 7 (ab zS a.N)/\R
def yBn (a:Fs) (b:vm) (c:CP) (d:Aq) (e:fj) (f:fj) (g:fj):Prop:=Yu a (z8z b c d e f g)
def Xe (a:Bool->Prop) (b:Bool) (c:vm) (d:Vs) (e:Fs) (f:CP) (g:Aq) (h:fj) (j:fj) (k:fj):Prop:=a b/\dl (am [V.d (dI (c.p.count:Int)),V.own 48,V.d (dI d.q),V.own 49] (107:ay))/\dl (ak 10 (ab zA d.v))/\dl (ao rM 7 (ab zS d.H))/\yBn e c f g h j k
def aE (a:mq):Prop:=((af a.s.v=a.n/\a.n<=1000)/\(∀(b:Sd×Sd),b∈a.s.v->b.fst.levels.length<=a.e/\b.snd.levels.length<=a.e)/\a.e+a.s.H.length<=1000000)/\∀(b:gi),b∈a.s.H->gi.iN (a.n:Int) b=0
def z2d (a:mq):Prop:=(aE a)/\Hv a.s.H/\a.b.length<=1000000/\a.e+a.s.H.length<=900000
@[reducible] def QG (a b:Vs)(R:Prop):Prop:=a.q=b.q/\ak 10 (ab zA a.v)=ak 10 (ab zA b.v)/\ab zS a.H=ab zS b.H/\R
@[reducible] def QL (a:vm)(b:Es)(c:Aq)(R:Prop):Prop:=am [V.d (fL a),V.own 23,V.d (dI a.p.tick),V.d (dI a.p.low),V.d (dI a.p.high),V.d (dI a.p.wide),V.d (dI a.p.gm),V.d (dI a.p.top),V.d (dI a.p.least),V.d (dI a.p.part),V.own 24,V.nm 7 0,V.nm 8 0,V.own 25,V.d (dI b.q),V.own 22] Jy=am [V.d (fL a),V.own 23,V.d (dI a.p.tick),V.d (dI a.p.low),V.d (dI a.p.high),V.d (dI a.p.wide),V.d (dI a.p.gm),V.d (dI a.p.top),V.d (dI a.p.least),V.d (dI a.p.part),V.own 24,V.nm 7 0,V.nm 8 0,V.own 25,V.d (dI b.q),V.own 22] Jy/\am [V.nm 9 0,V.d (dI (b.R.length:Int))] (235:ay)=am [V.nm 9 0,V.d (dI (b.R.length:Int))] (235:ay)/\mr (Gt.mk c.o b.W)=mr (Gt.mk c.o b.W)/\lz c.d=lz c.d/\ao J' 1 (ab iZ b.R)=ao J' 1 (ab iZ b.R)/\R
def yOe (a:mq) (b:vm) (c:IS) (d:IS->Prop) (e:IS->Nat) (f:Aq) (g:fj) (h:fj) (j:fj):Prop:=(a.n:Int)=(b.p.count:Int)/\QG a.s c.v ((z2d a)/\ff (∃(l:IS),(l.k:Int)=aq.wrap ((c.k:Int)+1)/\(b.p.count:Int)=(a.n:Int)/\l.v.q=a.T.q/\ak 10 (ab zA l.v.v)=ak 10 (ab zA a.T.v)/\ab zS l.v.H=ab zS a.T.H/\ab iZ l.h=ab iZ c.h/\d l/\e l<e c/\QL b f.x f (WC b f g h j)))
def yNv (a:Vs->Prop) (b:Vs) (c:Fs) (d:vm) (e:CP) (f:Aq) (g:fj) (h:fj) (j:fj):Prop:=a b/\yBn c d e f g h j
def yRq (a:vm) (b:Vs) (c:Vs) (d:Vs->Prop) (e:Fs) (f:CP) (g:Aq) (h:fj) (j:fj) (k:fj):Prop:=(a.p.count:Int)=(a.p.count:Int)/\QG b c (yNv d b e a f g h j k)
def z8q (a:vm) (b:Aq) (c:fj) (d:fj) (e:fj):Prop:=Qq a.p a b (dl (am [V.d (dI (a.p.count:Int)),V.own 30,V.d (dI b.v.q),V.own 31] (107:ay))/\dl (ak 10 (ab zA b.v.v))/\dl (ao rM 7 (ab zS b.v.H))/\dl (ao J' 1 (ab iZ b.h))/\WI c d e a)
def yCy (a:Bool->Prop) (b:Bool) (c:vm) (d:Aq) (e:fj) (f:fj) (g:fj):Prop:=a b/\QL c d.x d (z8q c d e f g)
def yAy (a:CP->Prop) (b:CP) (c:vm) (d:Aq) (e:fj) (f:fj) (g:fj):Prop:=a b/\z8q c d e f g
def PB (a:vm):Prop:=Ql a.p (True)
def z2l (a:fj):Prop:=a.check=0/\zV a
@[reducible] def Qw (a b:fj)(R:Prop):Prop:=a.tick=zW b/\a.low=(-20)*zW b/\a.high=100*zW b/\a.wide=zW b*(wS b)/\a.gm=1+zI b.gm 0 2/\a.top=zI b.top 0 9/\a.least=1+zI b.least 0 4/\a.part=zI b.part 0 100/\R
@[reducible] def SM (a b:Es)(R:Prop):Prop:=a.q=b.q/\(a.R.length:Int)=(b.R.length:Int)/\R
def Vtl (i:vm):Prop:=
 ∃(a:fj),Qb a i.x ((((-9223372036854775808)<=a.tick/\a.tick<=9223372036854775807)/\((-9223372036854775808)<=a.wide/\a.wide<=9223372036854775807)/\((-9223372036854775808)<=a.gm/\a.gm<=9223372036854775807)/\((-9223372036854775808)<=a.top/\a.top<=9223372036854775807)/\((-9223372036854775808)<=a.least/\a.least<=9223372036854775807)/\((-9223372036854775808)<=a.part/\a.part<=9223372036854775807)/\a.dt.length<=9223372036854775807)/\ff (∃(c:fj),sb c.code=sb [(206:UInt8),(169:UInt8)]/\iE c.dt=iE (qU (kN a).toNat)/\Qw c a (iE c.settle=iE (hP a)/\(z2l c)/\∀(d:iI),d.ga c (ac c.count []) []->∃(e:fj),sb e.code=sb [(206:UInt8),(169:UInt8)]/\iE e.dt=iE (qU (kN a).toNat)/\Qw e a (iE e.settle=iE (hP a)/\(z2l e)/\ff (∃(g:ra),g.n=i.a/\g.lo=0/\g.hi=25/\(xA g)/\ff (∃(j:Aq),(j.k:Int)=0/\Qa i.p c (j.x.q=0/\(j.x.R.length:Int)=((0:Nat):Int)/\mr (Gt.mk j.o j.x.W)=mr (Gt.mk d [])/\lz j.d=lz (Dk.mk [] 0)/\ab iZ j.x.R=[]/\BG i.p c (ak 10 (pR i j)=ak 10 (rO c)/\sb i.p.code=sb [(206:UInt8),(169:UInt8)]/\Qw i.p a (ak 1 (iE i.p.dt)=ak 1 (iE (qU (kN a).toNat))/\ak 1 (iE i.p.settle)=ak 1 (iE (hP a))/\(i.p.count:Int)=(e.count:Int)/\j.v.q=0/\ak 10 (ab zA j.v.v)=ak 10 (ab zA (Ci e.count))/\ab zS j.v.H=[]/\ab iZ j.h=[]/\∃(k:Aq->Prop),∃(l:Aq->Nat),k j/\∀(m:Aq),k m->∃(n:Bool),∃(p:Bool->Prop),dp (decide ((m.k:Int)<((ab zm i.l).length:Int))) (∃(q:Bool),q=decide ((m.k:Int)<30)/\yCy p q i m e c a) (∃(q:Bool),q=au/\yCy p q i m e c a)/\∀(q:Bool),p q->dp q (∃(r:CP),Qc i.p (SM r.x m.x (mr (Gt.mk r.o r.x.W)=mr (Gt.mk m.o m.x.W)/\lz r.d=lz m.d/\ab iZ r.x.R=ab iZ m.x.R/\wy i.p (ak 10 (aG i r)=ak 10 (pR i m)/\∃(s:CP->Prop),((0<=(m.k:Int)/\(m.k:Int)<((ab zm i.l).length:Int))/\∃(t:Int),∃(u:Int),∃(v:Int),∃(w:Int),∃(x:Int),∃(y:Int),∃(z:Int),∃(lk:Int),∃(lu:ByteArray),zD (ab zm i.l) (m.k:Int).toNat 0 9=aw [dI t,dI u,dI v,dI w,dI x,dI y,dI z,dI lk,D.v (ax lu)]/\∃(jq:zd),Qb jq.p i.p (jq.c.kind=t/\jq.c.id=u/\jq.c.inst=v/\jq.c.side=w/\jq.c.dm=x/\jq.c.dr=y/\jq.c.least=z/\jq.c.time=lk/\sb jq.c.label=lu/\jq.i=(m.k:Int)/\((∃(oQ:fj),jq.p=ig oQ)/\U8 jq)/\ff (∃(iR:vt),iR.s=0/\bE iR.b=bE (xI jq).enc/\Qa iR.p i.p (SM iR.x r.x (mr (Gt.mk iR.o iR.x.W)=mr (Gt.mk r.o r.x.W)/\lz iR.d=lz r.d/\QT iR.x r.x iR.p i.p (ak 10 (uD iR)=ak 10 (aG i r)/\(Wk iR)/\(∀(qo:iI),(zU iR.s iR.b).snd≠0/\qo.ga iR.p iR.x.B iR.x.U->∃(qe:CP),Qa i.p iR.p (SM qe.x iR.x (mr (Gt.mk qe.o qe.x.W)=mr (Gt.mk qo iR.x.W)/\lz qe.d=lz iR.d/\QT qe.x iR.x i.p iR.p (ak 10 (aG i qe)=ak 10 (uD iR)/\ab zS qe.N=[]/\yAy s qe i m e c a))))/\∀(qo:iI),(zU iR.s iR.b).snd=0/\qo.ga iR.p (iR.x.X iR.p iR.s iR.b).B (iR.x.X iR.p iR.s iR.b).U->∃(qe:CP),Qa i.p iR.p (qe.x.q=iR.x.q+(cM iR)/\(qe.x.R.length:Int)=(cF iR)/\mr (Gt.mk qe.o qe.x.W)=mr (dX qo iR)/\lz qe.d=lz iR.D/\ab iZ qe.x.R=ab iZ (fC iR)/\BG i.p iR.p (ak 10 (aG i qe)=ak 10 (cD iR)/\ab zS qe.N=ab zS iR.N/\yAy s qe i m e c a))))))))/\∀(t:CP),s t->∃(u:Fs),(u.k:Int)=0/\dl ((i.p.count:Int))/\QG u.v m.v (ab iZ u.h=ab iZ m.h/\ab zS u.N=ab zS t.N/\∃(v:Fs->Prop),∃(w:Fs->Nat),v u/\∀(x:Fs),v x->dp (decide ((x.k:Int)<((ab zS x.N).length:Int))) ((0<=(x.k:Int)/\(x.k:Int)<((ab zS x.N).length:Int))/\∃(y:Int),∃(z:Int),∃(lk:Int),∃(lu:Int),∃(jq:Int),∃(oQ:Int),∃(iR:Bool),zD (ab zS x.N) (x.k:Int).toNat 0 7=aw [dI y,dI z,dI lk,dI lu,dI jq,dI oQ,D.v (.bool iR)]/\∃(qo:gi),qo.seq=y/\qo.inst=z/\qo.side=lk/\qo.dm=lu/\qo.dr=jq/\qo.count=oQ/\qo.gg=iR/\True/\ff (∃(Cp:Vs),dl ((i.p.count:Int))/\QG Cp x.v (∃(Mq:Vs->Prop),(∃(BR:Bool),∃(ye:Bool->Prop),dp (decide ((m.k:Int)>=zI g.n g.lo g.hi)) (dp (decide (((ab iZ x.h).length:Int)>=((ab IQ i.lo).length:Int))) (∃(yd:Bool),yd=av/\Xe ye yd i Cp x t m e c a) ((0<=((ab iZ x.h).length:Int)/\((ab iZ x.h).length:Int)<((ab IQ i.lo).length:Int))/\∃(yd:Bool),zD (ab IQ i.lo) ((ab iZ x.h).length:Int).toNat 0 1=aw [D.v (.bool yd)]/\∃(vx:Bool),vx=!yd/\Xe ye vx i Cp x t m e c a)) (∃(yd:Bool),yd=au/\Xe ye yd i Cp x t m e c a)/\∀(yd:Bool),ye yd->dp yd (∃(vx:mq),bE vx.b=bE qo.enc/\(vx.n:Int)=(i.p.count:Int)/\QG vx.s Cp ((z2d vx)/\ff (∃(Jb:Vs),(i.p.count:Int)=(vx.n:Int)/\Jb.q=vx.T.q/\ak 10 (ab zA Jb.v)=ak 10 (ab zA vx.T.v)/\ab zS Jb.H=ab zS vx.T.H/\yNv Mq Jb x i t m e c a))) (∃(vx:Vs),yRq i vx Cp Mq x t m e c a))/\∀(BR:Vs),Mq BR->((ab iZ x.h).length+1)*(24:Nat)<=(140737488355328:Nat)/\∃(ye:Fs),(ye.k:Int)=aq.wrap ((x.k:Int)+1)/\dl ((i.p.count:Int))/\QG ye.v BR (ab iZ ye.h=ab iZ x.h++[[D.ro 1 (bE qo.enc)]]/\ab zS ye.N=ab zS x.N/\v ye/\w ye<w x/\z8z i t m e c a)))) (∃(y:Vs),dl ((i.p.count:Int))/\QG y x.v (∃(z:Vs->Prop),dp ((m.k:Int)==zI g.n g.lo g.hi) (∃(lk:En),Qa lk.p i.p (lk.q=t.x.q/\ak 10 (ab zA lk.v)=ak 10 (aG i t)/\(af lk.v<=1099511627776/\∀(lu:Sd×Sd),lu∈lk.v->qL lu)/\ff (∃(jq:mq),bE jq.b=bE (xU lk.v lk.q)/\(jq.n:Int)=(i.p.count:Int)/\QG jq.s y (((aE jq)/\(∀(oQ:Sd×Sd),oQ∈bX jq.b->oQ.fst.levels.length<=jq.e/\oQ.snd.levels.length<=jq.e)/\jq.b.length<=1099511627776)/\ff (∃(iR:Vs),au=(jq.Z !=0)/\(i.p.count:Int)=(jq.n:Int)/\iR.q=jq.S.q/\ak 10 (ab zA iR.v)=ak 10 (ab zA jq.S.v)/\ab zS iR.H=ab zS jq.S.H/\z iR/\Yu x (am [V.d (D.v (ax (sb lk.p.code))),V.own 38,V.d (dI lk.p.tick),V.d (dI lk.p.low),V.d (dI lk.p.high),V.d (dI lk.p.wide),V.d (dI lk.p.gm),V.d (dI lk.p.top),V.d (dI lk.p.least),V.d (dI lk.p.part),V.own 39,V.nm 7 0,V.nm 8 0,V.own 40,V.d (dI lk.q),V.own 37] Jy=am [V.d (fL i),V.own 38,V.d (dI i.p.tick),V.d (dI i.p.low),V.d (dI i.p.high),V.d (dI i.p.wide),V.d (dI i.p.gm),V.d (dI i.p.top),V.d (dI i.p.least),V.d (dI i.p.part),V.own 39,V.nm 7 0,V.nm 8 0,V.own 40,V.d (dI t.x.q),V.own 37] Jy/\Qu t.x t i (ak 10 (ab zA lk.v)=ak 10 (aG i t)/\WC i m e c a))))))) (∃(lk:Vs),au=au/\yRq i lk y z x t m e c a)/\∀(lk:Vs),z lk->∃(lu:Aq),(lu.k:Int)=aq.wrap ((m.k:Int)+1)/\Qc i.p (SM lu.x t.x (mr (Gt.mk lu.o lu.x.W)=mr (Gt.mk t.o t.x.W)/\lz lu.d=lz t.d/\ab iZ lu.x.R=ab iZ t.x.R/\wy i.p (ak 10 (pR i lu)=ak 10 (aG i t)/\Qc i.p (wy i.p (dl ((i.p.count:Int))/\QG lu.v lk (ab iZ lu.h=ab iZ x.h/\k lu/\l lu<l m/\WI e c a i))))))))))))) (∃(r:IS),(r.k:Int)=0/\dl ((i.p.count:Int))/\QG r.v m.v (ab iZ r.h=ab iZ m.h/\∃(s:IS->Prop),∃(t:IS->Nat),s r/\∀(u:IS),s u->dp (decide ((u.k:Int)<((ab iZ u.h).length:Int))) ((0<=(u.k:Int)/\(u.k:Int)<((ab iZ u.h).length:Int))/\((zD (ab iZ u.h) (u.k:Int).toNat 0 1=aw [D.v (Value.slice none 0 0)]/\∃(v:mq),bE v.b=[]/\yOe v i u s t m e c a)\/(∃(v:Q_ D),zD (ab iZ u.h) (u.k:Int).toNat 0 1=aw [D.ro 1 v]/\∃(w:mq),bE w.b=v/\yOe w i u s t m e c a))) (dp (((ab zS u.v.H).length:Int)==0) (dp (u.v.q==m.x.q) (∃(v:mq),(v.n:Int)=(i.p.count:Int)/\QG v.s u.v ((aE v)/\ff ((PB i)/\∃(x:Yz),mr x.g=mr (Gt.mk m.o m.x.W)/\(x.g.m.ga x.p x.B x.U/\jh x.p x.B)/\ff ((PB i)/\∃(z:DI),mr z.g=mr x.g/\(z.g.m.ga z.p z.B z.U/\jh z.p z.B)/\ff ((PB i)/\∃(lu:iI),kF lu=kF z.g.m/\(lu.s.eg.length<=1000000/\∀(jq:dq),jq∈lu.s.eg->NU jq)/\ff ((PB i)/\∃(oQ:Fp),Qb oQ.p i.p (zE oQ.s=zE lu.s/\(oQ.s.ga oQ.p oQ.B/\jh oQ.p oQ.B)/\ff (∃(qo:Ig),ab zA qo.v=ab zA v.s.v/\ab zA qo.w=ab zA (yK oQ.p oQ.B)/\(tZ qo)/\ff (dp (Iv qo.v qo.w) (∃(Cp:fj),Cp=cW 2/\ff (dx (av=av/\True))) (dx (av=au/\True))))))))))) (dx (av=au/\True))) (dx (av=au/\True))))))))))))))
def aaW (i:vm):Vtl i=walk Tryz.prog ([(11,C5),(12,Tz),(13,Ky),(14,AV),(16,SU),(15,MO),(17,Gb),(18,C4),(20,TC),(19,Gm),(83,Tx),(28,K4),(29,Gs),(26,Gc),(25,Gl),(24,C7),(30,awC)]) 1 (tlJ i) (tlA i) [] Tryz.f3 (Tryz.f3.body.getD .skip) (tlC.pat i) (tlC.pre i) (tlC.alts i):=by kernel_rfl
def PZ (a:Vw) (b:Nat) (c:Q_ D):=(zK (ab zA a) (b:Int).toNat 0 [D.ro 3 c])
def VT (a:Nat) (b:Vw) (c:Q_ D):Prop:=0<=(a:Int)/\(a:Int)<((PZ b a c).length:Int)
def xFc (v:Vw):Prop:=
 ∃(a:Q_ D),a=ab zA v/\a.length*(112:Nat)<=(140737488355328:Nat)/\ff (∃(c:Nat),(c:Int)=0/\ab zA v=a/\∃(d:Nat->Prop),∃(e:Nat->Nat),d c/\∀(f:Nat),d f->dp (decide ((f:Int)<(a.length:Int))) ((dA f v)/\∃(g:Q_ D),zD (ab zA v) (f:Int).toNat 0 1=aw [D.ro 3 g]/\(dA f v)/\∃(h:Q_ D),h=g/\h.length*(24:Nat)<=(140737488355328:Nat)/\ff (((dA f v)/\dl ((f:Int).toNat))/\True/\(f:Int).toNat<(ab zA v).length/\(VT f v h)/\∃(k:Q_ D),zD (PZ v f h) (f:Int).toNat 5 1=aw [D.ro 3 k]/\(VT f v h)/\∃(l:Q_ D),l=k/\l.length*(24:Nat)<=(140737488355328:Nat)/\ff (((VT f v h)/\dl ((f:Int).toNat))/\True/\(f:Int).toNat<(PZ v f h).length/\∃(n:Nat),(n:Int)=aq.wrap ((f:Int)+1)/\ab zA v=zK (PZ v f h) (f:Int).toNat 5 [D.ro 3 l]/\d n/\e n<e f/\dl (am om.cl 59)/\dl (ak 10 (ab zA v))))) (dx (dl (ab zA v)/\True)))
def y2d (p:fj):Prop:=
 ∃(a:fj),Qb a p ((zV a)/\ff (dp (a.check !=0) (dx (False)) (∃(c:fj),Qb c p ((zV c)/\ff ((0<=(c.count:Int)/\(c.count:Int)<=(c.count:Int)/\(c.count:Int)<=9223372036854775807/\((112:Nat):Int)*(c.count:Int)<=2 ^ (48:Nat))/\dx (dl ((0:Int))/\(p.count:Int)=(c.count:Int)/\dl ((0:Int))/\ab zA (Ci p.count)=ac (c.count:Int).toNat [D.ro 3 [],dI 0,dI 0,dI 0,D.v (.bool au),D.ro 3 [],dI 0,dI 0,dI 0,D.v (.bool au)]/\([]:Q_ D)=[]/\True))))))
def xEy (i:mq):Prop:=
 ∃(a:Ew),ab zA a.v=ab zA i.s.v/\a.m.seq=i.m.seq/\a.m.inst=i.m.inst/\a.m.side=i.m.side/\Q2 a.m i.m ((gi.iN ((af a.v):Int) a.m=0/\af a.v<=1000000/\af a.v<=1099511627776/\∀(b:Sd×Sd),b∈a.v->qL b)/\ff (dx (dl ((i.n:Int))/\dl i.m.seq/\dl (ab zS i.s.H)/\ak 10 (ab zA (rn i.s.v i.m))=ak 10 (ab zA (rn a.v a.m))/\True)))
def y4a (l:Q_ D):Prop:=
 ∀(b:Bool),(b=av->l=[])->dp b (∃(o:Unit),l=[]/\True) ((0+l.length)*(56:Nat)<=(140737488355328:Nat)/\∃(o:Unit),l=[]++l/\True)
def y6w (l:Q_ D):y4a l=walk Tryz.prog ([]) 0 ([]) ([]) [] Tryz.f144 (Tryz.f144.body.getD .skip) (Aj.pat l) (Aj.pre l) (Aj.alts l):=by kernel_rfl
def y6s (hG:zf Tryz.prog ([])) (h:∀(l:Q_ D),Aj.dp l->y4a l):Aj.ok Tryz.prog 144:=qY mixed ([]) hG 0 (λ(l:Q_ D)=>[]) (λ(l:Q_ D)=>[]) [] Tryz.func144 (by kernel_rfl) (by kernel_rfl) (by kernel_rfl) (λ_=>by kernel_rfl) (λ(l:Q_ D) hc=>Eq.mp (y6w l) (h l hc))
def Wt (a:mq):Prop:=(aE a)/\gi.iN (a.n:Int) a.m=0
def zLl (a:mq) (b:Vs):Prop:=dx (dl ((a.n:Int))/\a.F.q=b.q/\ak 10 (ab zA a.F.v)=ak 10 (ab zA b.v)/\ab zS a.F.H=ab zS b.H/\True)
def y3p (i:mq):Prop:=
 ∃(a:Vs),dl ((i.n:Int))/\a.q=i.s.q/\ak 10 (ab zA a.v)=dW i.s.v/\ab zS a.H=ab zS i.s.H/\∃(b:Vs->Prop),∃(c:Vs->Nat),b a/\∀(d:Vs),b d->dp (decide (((ab zS d.H).length:Int)>0)) (((0:Int)<=(0:Int)/\0<((ab zS d.H).length:Int))/\∃(e:Int),zD (ab zS d.H) (az 0) 0 1=aw [dI e]/\dp (decide (aq.wrap (e-1)<=d.q)) (((0:Int)<=(0:Int)/\0<((ab zS d.H).length:Int))/\∃(f:Int),∃(g:Int),∃(h:Int),∃(j:Int),∃(k:Int),∃(l:Int),∃(m:Bool),zD (ab zS d.H) (az 0) 0 7=aw [dI f,dI g,dI h,dI j,dI k,dI l,D.v (.bool m)]/\dp (aq.wrap (f-1)==d.q) (∃(n:mq),n.m.seq=f/\n.m.inst=g/\n.m.side=h/\n.m.dm=j/\n.m.dr=k/\n.m.count=l/\n.m.gg=m/\(n.n:Int)=(i.n:Int)/\QG n.s d ((Wt n)/\ff (((0:Int)<=(1:Int)/\1<=((ab zS n.s.H).length:Int))/\∃(q:Q_ D),q=ag (az 1) (ab zS n.s.H)/\q.length<=1000000/\ff (∃(s:Vs),(i.n:Int)=(n.n:Int)/\s.q=n.m.seq/\ak 10 (ab zA s.v)=ak 10 (ab zA (rn n.s.v n.m))/\ab zS s.H=q/\b s/\c s<c d/\dl (dW i.s.v))))) (((0:Int)<=(1:Int)/\1<=((ab zS d.H).length:Int))/\∃(n:Q_ D),n=ag (az 1) (ab zS d.H)/\n.length<=1000000/\ff (∃(q:Vs),dl ((i.n:Int))/\q.q=d.q/\ak 10 (ab zA q.v)=ak 10 (ab zA d.v)/\ab zS q.H=n/\b q/\c q<c d/\dl (dW i.s.v)))) (zLl i d)) (zLl i d)
def sE (a:F5):=(aJ ar (ar.wrap (aq.wrap ((a.a:Int)+(a.b:Int)))) 1)
def Zl (a:F5) (b:F5->Prop) (c:F5->Nat) (d:Kx):Prop:=∃(e:F5),(e.a:Int)=(a.a:Int)/\(e.b:Int)=aq.wrap (sE a)/\b e/\c e<c a/\dl (tJ d.H)
def m8 (a:Kx):=((ab zS a.H).length:Int)
def xEa (i:Kx):Prop:=
 ∃(a:F5),(a.a:Int)=0/\(a.b:Int)=(m8 i)/\∃(b:F5->Prop),∃(c:F5->Nat),b a/\∀(d:F5),b d->dp (decide ((d.a:Int)<(d.b:Int))) ((0:Int)<=(1:Int)/\(0<=aq.wrap (sE d)/\aq.wrap (sE d)<(m8 i))/\∃(e:Int),∃(f:Int),∃(g:Int),∃(h:Int),∃(j:Int),∃(k:Int),∃(l:Bool),zD (ab zS i.H) (aq.wrap (sE d)).toNat 0 7=aw [dI e,dI f,dI g,dI h,dI j,dI k,D.v (.bool l)]/\dp (decide (e<i.n)) (∃(m:F5),(m.a:Int)=aq.wrap (aq.wrap (sE d)+1)/\(m.b:Int)=(d.b:Int)/\b m/\c m<c d/\dl (tJ i.H)) (dp (decide (e>i.n)) (Zl d b c i) (Zl d b c i))) (dp (decide ((d.a:Int)<(m8 i))) ((0<=(d.a:Int)/\(d.a:Int)<(m8 i))/\∃(e:Int),∃(f:Int),∃(g:Int),∃(h:Int),∃(j:Int),∃(k:Int),∃(l:Bool),zD (ab zS i.H) (d.a:Int).toNat 0 7=aw [dI e,dI f,dI g,dI h,dI j,dI k,D.v (.bool l)]/\dp (decide (e<i.n)) (dx (((cP i.H i.n):Int)=(d.a:Int)/\nW i.H i.n=((-1:Int)==(0:Int))/\dl (ab zS i.H)/\True)) (dp (decide (e>i.n)) (dx (((cP i.H i.n):Int)=(d.a:Int)/\nW i.H i.n=((1:Int)==(0:Int))/\dl (ab zS i.H)/\True)) (dx (((cP i.H i.n):Int)=(d.a:Int)/\nW i.H i.n=((0:Int)==(0:Int))/\dl (ab zS i.H)/\True)))) (dx (((cP i.H i.n):Int)=(d.a:Int)/\nW i.H i.n=au/\dl (ab zS i.H)/\True)))
def zFk (a:Bool->Prop) (b:Bool) (c:i4) (d:mq):Prop:=a b/\dl (am [V.d (dI ((xO c).fst.seq)),V.d (dI ((xO c).fst.inst)),V.d (dI ((xO c).fst.side)),V.d (dI ((xO c).fst.dm)),V.d (dI ((xO c).fst.dr)),V.d (dI ((xO c).fst.count)),V.d (D.v (.bool (xO c).fst.gg))] 51)/\dl (RK (d.n:Int) d.s.q 0 1 2)/\dl (dW d.s.v)/\dl (tJ d.s.H)
@[reducible] def O5 (a:mq)(R:Prop):Prop:=(a.n:Int)=(a.n:Int)/\a.T.q=a.s.q/\ak 10 (ab zA a.T.v)=dW a.s.v/\R
def zFg (a:mq) (b:Kx):Prop:=O5 a (ab zS a.T.H=ab zS b.H/\True)
def zHt (a:mq) (b:Kx):Prop:=dx (a.W=33/\zFg a b)
def zHw (a:mq):Prop:=O5 a (ab zS a.T.H=ab zS a.s.H/\True)
@[reducible] def Qa7 (a:gi)(b:i4)(R:Prop):Prop:=a.seq=(xO b).fst.seq/\a.inst=(xO b).fst.inst/\a.side=(xO b).fst.side/\a.dm=(xO b).fst.dm/\a.dr=(xO b).fst.dr/\a.count=(xO b).fst.count/\a.gg=(xO b).fst.gg/\R
def yRu (i:mq):Prop:=
 ∃(a:i4),bE a=bE i.b/\wx a/\ff (dp ((xO a).snd !=0) (dx (i.W=(xO a).snd/\zHw i)) (∃(c:Bool),∃(d:Bool->Prop),dp (decide ((xO a).fst.seq<1)) (∃(e:Bool),e=av/\zFk d e a i) (∃(e:Mv),e.k=(i.n:Int)/\Qa7 e.m a (True/\ff (∃(g:Bool),g=(gi.iN e.k e.m !=0)/\zFk d g a i)))/\∀(e:Bool),d e->dp e (dx (i.W=12/\zHw i)) (∃(f:Kx),f.n=(xO a).fst.seq/\ab zS f.H=ab zS i.s.H/\(Hv f.H/\f.H.length<=1000000)/\ff (dp (decide ((xO a).fst.seq<=i.s.q)) (zHt i f) (dp (nW f.H f.n) (zHt i f) (dp (aq.wrap ((xO a).fst.seq-1)==i.s.q) (∃(h:mq),Qa7 h.m a ((h.n:Int)=(i.n:Int)/\h.s.q=i.s.q/\ak 10 (ab zA h.s.v)=dW i.s.v/\ab zS h.s.H=ab zS f.H/\(Wt h)/\ff (∃(k:mq),(k.n:Int)=(h.n:Int)/\k.s.q=h.m.seq/\ak 10 (ab zA k.s.v)=ak 10 (ab zA (rn h.s.v h.m))/\ab zS k.s.H=ab zS h.s.H/\(aE k)/\ff (dx (i.W=0/\(i.n:Int)=(k.n:Int)/\i.T.q=k.F.q/\ak 10 (ab zA i.T.v)=ak 10 (ab zA k.F.v)/\ab zS i.T.H=ab zS k.F.H/\True))))) (dp (decide ((m8 f)>=4096)) (dx (i.W=13/\zFg i f)) (True/\∃(h:Bo),(h.i:Int)=((cP f.H f.n):Int)/\h.fa=ab zS f.H/\[h.el]=[[dI ((xO a).fst.seq),dI ((xO a).fst.inst),dI ((xO a).fst.side),dI ((xO a).fst.dm),dI ((xO a).fst.dr),dI ((xO a).fst.count),D.v (.bool (xO a).fst.gg)]]/\(h.i<=h.fa.length/\(h.fa.length+1)*(56:Nat)<=(140737488355328:Nat))/\ff (dx (i.W=32/\O5 i (ab zS i.T.H=List.take h.i h.fa++h.el::ag h.i h.fa/\True)))))))))))
def eV (a:mq):Prop:=(a.n:Int)=(a.n:Int)/\a.S.q=a.s.q/\ak 10 (ab zA a.S.v)=dW a.s.v/\ab zS a.S.H=ab zS a.s.H/\True
def zGl (a:mq):Prop:=dx (a.Z=12/\eV a)
def yVn (i:mq):Prop:=
 ∃(a:i4),bE a=bE i.b/\a.length<=1099511627776/\ff (dp (Ar a !=0) (dx (i.Z=Ar a/\eV i)) (dp (((ab zA (bX a)).length:Int) !=(i.n:Int)) (zGl i) (dp (decide (pK a<0)) (zGl i) (dp (decide (pK a<i.s.q)) (dx (i.Z=33/\eV i)) (∃(c:mq),(c.n:Int)=(i.n:Int)/\c.s.q=pK a/\ak 10 (ab zA c.s.v)=ak 10 (ab zA (bX a))/\ab zS c.s.H=ab zS i.s.H/\(aE c)/\ff (dx (i.Z=0/\(i.n:Int)=(c.n:Int)/\i.S.q=c.F.q/\ak 10 (ab zA i.S.v)=ak 10 (ab zA c.F.v)/\ab zS i.S.H=ab zS c.F.H/\True)))))))
def yTi (i:mq):Prop:=
 ∃(a:Vw),ab zA a=ab zA i.s.v/\(af a<=1000000/\sI a)/\ff (dx (ab zA i.s.v=ab zA a/\dl ((i.n:Int))/\dl i.s.q/\ak 10 (ab zA i.s.v)=dW i.s.v/\dl (ab zS i.s.H)/\True))
def Zp:∀{H:List gi} {n:Int} {a:Nat},a<=H.length->(∀k l,H[k]? =aw l->k<a->l.seq<n)->(∀k l,H[k]? =aw l->a<=k->n<=l.seq)->cP H n=a
 |[],n,a,h,_,_=>by
  have:a=0:=i9 h
  subst this;rfl
 |l::H,n,0,_,_,h2=>by
  have:=h2 0 l rfl (ju _);rw[cP,List.takeWhile_cons_of_neg (by simp;omega)];rfl
 |l::H,n,a+1,h,h1,h2=>by
  have h3:=h1 0 l rfl oM;have:=Zp (H:=H) (n:=n) (a:=a) (i9 h) (λk l' hk gu=>h1 (k+1) l' hk oM) (λk l' hk hle=>h2 (k+1) l' hk oM);rw[cP]at this;rw[cP,List.takeWhile_cons_of_pos (i9 h3),iF,this]
def xDy (H:List gi) (n:Int):cP H n<=H.length:=by
 rw[cP];exact(List.takeWhile_sublist _).length_le
def yBs {H:List gi} (h:Hv H) {i j:Nat} {a b:gi} (ha:H[i]? =aw a) (hb:H[j]? =aw b) (Kj:i<j):a.seq<b.seq:=by
 obtain⟨hi,rfl⟩:=jm.1 ha;obtain⟨hj,rfl⟩:=jm.1 hb;exact List.pairwise_iff_getElem.1 h i j hi hj Kj
def yUz {H:List gi} (h:Hv H) {n:Int} {a:Nat} {l:gi} (hl:H[a]? =aw l) (h1:∀k l,H[k]? =aw l->k<a->l.seq<n) (h2:∀k l,H[k]? =aw l->a<=k->n<=l.seq):nW H n=decide (l.seq=n):=by
 rw[nW,CF,Oh];constructor
 ·rintro⟨y,hy,hyn⟩;obtain⟨k,hk⟩:=Oq hy;have hyn:y.seq=n:=rf hyn;refine jo ?_;rcases Nat.lt_trichotomy k a with c|c|c
  ·have:=h1 k y hk c;omega
  ·subst c;rw[hl]at hk;cases hk;exact hyn
  ·have:=yBs h hl hk c;have:=h2 a l hl (ju _);omega
 ·intro e;exact⟨l,lh hl,e⟩
def yOo {H:List gi} {n:Int} (h1:∀l∈H,l.seq<n):nW H n=au:=by
 rw[nW,L0];intro y hy;have:=h1 y hy;simp;omega
def yCv (s:Int) (L:List Lv) (m:Lv):(jS s L m).length<=L.length+1:=by
 rw[jS];split
 ·split
  ·rw[List.length_eraseIdx];split<;>omega
  ·rw[qm];omega
 ·split
  ·rw[iv,iF,nn,pd];omega
  ·omega
def z3t (s:Int) (x:Sd) (m:gi):(A0 s x m).levels.length<=x.levels.length+1:=by
 rw[A0];split
 ·split
  ·exact Br _
  ·exact Br _
 ·exact yCv s x.levels m.lv
def yXp {v:Vw} {m:gi} {q:Sd×Sd} (h:q∈rn v m):q∈v\/∃p∈v,q=if m.side=1 then(A0 1 p.1 m,p.2)else(p.1,A0 2 p.2 m):=by
 rw[rn]at h;obtain⟨k,hk⟩:=Bv.1 h;rw[FI]at hk;cases e:v[k]? with
 |none=>rw[e]at hk;cases hk
 |some x=>
  rw[e]at hk;have hx:=lh e;have hk:(if m.inst.toNat=k then(if m.side=1 then(A0 1 x.1 m,x.2)else(x.1,A0 2 x.2 m))else x)=q:=Option.some.inj hk;split at hk
  ·exact .inr ⟨x,hx,hk.symm⟩
  ·exact .inl (hk▸hx)
def yEm {n:Nat} {v:Vw} (m:gi) (h:tX n v):tX (n+1) (rn v m):=λq hq=>by
 rcases yXp hq with hq|⟨p,hp,rfl⟩
 ·have:=h q hq;omega
 ·obtain⟨h1,h2⟩:=h p hp;split
  ·exact⟨tm (z3t 1 p.1 m) oM,HC h2⟩
  ·exact⟨HC h1,tm (z3t 2 p.2 m) oM⟩
def yDv (v:Vw) (m:gi):(rn v m).length=v.length:=by rw[rn,List.length_modify]
def z8m {n k:Nat} {v:Vw} (h:tX n v) (hn:n<=1000000) (hl:v.length=k) (hk:k<=1000):xZ v:=zWh h hn oM
def y5l {v:Vw} {k:Nat} {b:Sd×Sd} (h:v[k]? =aw b):zD (v.map zA) k 0 1=aw [D.ro 3 (b.1.levels.map im)]:=jz h (by simp[zA]) rfl
def y5s {v:Vw} {k:Nat} {b:Sd×Sd} (h:v[k]? =aw b):zD (v.map zA) k 5 1=aw [D.ro 3 (b.2.levels.map im)]:=jz h (by simp[zA]) rfl
def zRa {α:Type} {f:α->List D} {l:List α} {i g:Nat} {x:α} {ds:List D} (hi:l[i]? =aw x) (hh:(f x).take g++(ds++(f x).drop (g+ds.length))=f x):zK (l.map f) i g ds=l.map f:=by
 rw[yM hi hh];obtain⟨h,rfl⟩:=jm.1 hi;rw[List.set_getElem_self h]
def xHj (v:Vw) (h:TA.dp v):xFc v:=by
 obtain⟨hl,hs⟩:v.length<=1000000/\xZ v:=h;have uk:(v.map zA).length=v.length:=ia _;unfold xFc ff dx dA VT PZ om qN;refine⟨v.map zA,rfl,by rw[uk];omega,λ_ _=>⟨0,rfl,rfl,λk=>k<=v.length,λk=>v.length-k,mn _,λk hk=>zG (λc=> ?_) (λ_=>⟨(),rfl,trivial⟩)⟩⟩;obtain⟨b,hb⟩:=zZ (l:=v) (i:=k) oM;obtain⟨qd,ni⟩:=hs.2 b (lh hb);have Ay:(b.1.levels.map im).length=b.1.levels.length:=ia _;have oY:(b.2.levels.map im).length=b.2.levels.length:=ia _;have e1:zK (v.map zA) (k:Int).toNat 0 [D.ro 3 (b.1.levels.map im)]=v.map zA:=zRa hb rfl;have e2:zK (v.map zA) (k:Int).toNat 5 [D.ro 3 (b.2.levels.map im)]=v.map zA:=zRa hb rfl;refine⟨⟨oM,oM⟩,_,y5l hb,⟨oM,oM⟩,_,rfl,by rw[Ay];omega,λ_ _=>⟨⟨⟨oM,oM⟩,rfl⟩,trivial,oM,?_⟩⟩;rw[e1];refine⟨⟨oM,oM⟩,_,y5s hb,⟨oM,oM⟩,_,rfl,by rw[oY];omega,λ_ _=>⟨⟨⟨oM,oM⟩,rfl⟩,trivial,oM,?_⟩⟩;rw[e2];exact⟨k+1,qu oM,rfl,oM,Z9,rfl,rfl⟩
def y6u:TA.ok Tryz.prog 77:=gx mixed (dw yFq (dw yFc fk)) 0 i6 (λv=>xJh v) [] Tryz.func77 xHj
def Jc:Ky.ok Tryz.prog 13:=gx (V:=y2d) mixed (dw pG (dw dU fk)) 0 i6 i6 [] Tryz.func13 λ(p:fj) h=>by
 obtain⟨hc,hs⟩:p.check=0/\p.small:=h;have hcb:=y7 p;unfold y2d Qb ff dx zV o8 dI;exact⟨p,oL (iM ⟨rfl,hs,λ_ _=>Cv.dp.mk (λe=>absurd e (by rw[hc];simp)) (λ_=>⟨p,oL (iM ⟨rfl,hs,λ_ _=>⟨⟨oM,oM,oM,oM⟩,(),rfl,rfl,rfl,by rw[Ci,Oi];rfl,rfl,trivial⟩⟩)⟩)⟩)⟩
def yVc {i:mq} (h:i.ok):i.s.v.length<=1000000/\xZ i.s.v:=⟨by have:=h.1.1;omega,z8m h.1.2.1 (by have:=h.1.2.2;omega) h.1.1.1 h.1.1.2⟩
def yVm:aaa.ok Tryz.prog 69:=gx (V:=xEy) mixed (dw yVl fk) 0 i6 i6 [] Tryz.func69 λ(i:mq) h=>by
 obtain⟨h,hf⟩:i.ok/\i.m.iN i.n=0:=h;have hs:=yVc h;have hn:=h.1.1.1;unfold xEy Q2 ff dx qL;exact⟨⟨i.s.v,i.m⟩,oL ⟨rfl,⟨by dsimp only;rw[hn];exact hf,hs⟩,λ_ _=>⟨(),nf trivial⟩⟩⟩
def yXc:Aj.ok Tryz.prog 144:=y6s fk λl h=>λb hb=>by
 have h:l.length<=1000000:=h;cases b with
 |true=>exact⟨(),hb rfl,trivial⟩
 |false=>exact⟨oM,(),(we _).symm,trivial⟩
def xFz {M:List gi} {k:Nat} {m:gi} (h:M[k]? =aw m):zD (M.map zS) k 0 1=aw [D.v (.int .i64 m.seq)]:=jz h (by simp[zS]) rfl
def yKb (v:Vw) (q:Int) (m:gi) (H:List gi):pJ v q (m::H)=if aq.wrap (m.seq-1)<=q then(if aq.wrap (m.seq-1)=q then pJ (rn v m) m.seq H else pJ v q H)else⟨v,q,m::H⟩:=by rw[pJ]
def xDt (i:mq) (h:Kz.dp i):y3p i:=by
 obtain⟨n,⟨v,q,H⟩,m0,b0,e⟩:=i;obtain⟨⟨⟨hv,hn⟩,hL,he⟩,hf⟩:((v.length=n/\n<=1000)/\tX e v/\e+H.length<=1000000)/\∀m∈H,m.iN n=0:=h;unfold y3p QG ff zLl dx Wt aE dI;dsimp only;refine⟨⟨v,q,H⟩,iM ⟨rfl,λj=>pJ j.v j.q j.H=pJ v q H/\j.v.length=n/\(∃a,tX a j.v/\a+j.H.length<=1000000)/\(∀m∈j.H,m.iN n=0),λj=>j.H.length,⟨rfl,hv,⟨e,hL,he⟩,hf⟩,?_⟩⟩;rintro⟨w,p,K⟩ ⟨h1,h2,⟨a,h3,h4⟩,h5⟩;dsimp only at h1 h2 h3 h4 h5 ⊢;have uk:(K.map zS).length=K.length:=ia _;have out:∀s:Vs,pJ v q H=s->(mq.mk n ⟨v,q,H⟩ m0 b0 e).F=s:=λs e=>e
 refine zG (λc=> ?_) (λc=> ?_)
 ·cases K with
  |nil=>exact absurd c (by simp)
  |cons m K=>
   rw[yKb]at h1;rw[iF]at h4 uk;have hmf:=h5 m iX;have h5':∀y∈K,y.iN n=0:=λy hy=>h5 y (ji _ hy)
   have hk:(K.map zS).length=K.length:=ia _;refine⟨⟨Z8,oM⟩,m.seq,xFz rfl,zG (λc1=> ?_) (λc1=> ?_)⟩
   ·rw[fh c1]at h1;refine⟨⟨Z8,oM⟩,_,_,_,_,_,_,_,Xk rfl,Cv.dp.mk (λc2=> ?_) (λc2=> ?_)⟩
    ·rw[fh (Ix.1 c2)]at h1;exact⟨⟨n,⟨w,p,m::K⟩,m,[],a⟩,oL (iM ⟨rfl,⟨⟨⟨⟨h2,hn⟩,h3,by dsimp only;rw[iF];omega⟩,h5⟩,hmf⟩,λ_ _=>⟨⟨Z8,Z9⟩,K.map zS,rfl,oM,λ_ _=>⟨⟨rn w m,m.seq,K⟩,iM ⟨rfl,⟨h1,by dsimp only;rw[yDv];exact h2,⟨a+1,yEm m h3,Z9⟩,h5'⟩,by dsimp only;rw[iF];omega,rfl⟩⟩⟩⟩)⟩
    ·rw[ez (i9 c2)]at h1;exact⟨⟨Z8,oM⟩,K.map zS,rfl,oM,λ_ _=>⟨⟨w,p,K⟩,iM ⟨rfl,⟨h1,h2,⟨a,h3,Z9⟩,h5'⟩,by dsimp only;rw[iF];omega,rfl⟩⟩⟩
   ·rw[ez c1]at h1;rw[out _ h1.symm];exact⟨(),nf trivial⟩
 ·obtain rfl:K=[]:=List.length_eq_zero_iff.1 oM;have h1:(⟨w,p,[]⟩:Vs)=pJ v q H:=h1;rw[out _ h1.symm];exact⟨(),nf trivial⟩
def yHn:Kz.ok Tryz.prog 70:=gx mixed (dw yVm (dw yXc fk)) 0 i6 (λi=>xFw i) [] Tryz.func70 xDt
def y6q {a b:Nat} (h:a+b<=4000000):aq.wrap (aJ ar (ar.wrap (aq.wrap ((a:Int)+(b:Int)))) 1)=(((a+b) / 2:Nat):Int):=by
 have w1:aq.wrap ((a:Int)+(b:Int))=(a:Int)+(b:Int):=iw oM;have e:aJ .u64 ((a:Int)+(b:Int)) 1=((a:Int)+(b:Int)).fdiv 2:=rfl;rw[w1,Cc (by omega),e,Int.fdiv_eq_ediv_of_nonneg _ (by decide),iw (by omega)];omega
def xJr (i:Kx) (h:TJ.dp i):xEa i:=by
 obtain⟨H,n⟩:=i;obtain⟨hs,hl⟩:Hv H/\H.length<=1000000:=h;have uk:(H.map zS).length=H.length:=ia _;unfold xEa dx m8 Zl sE dI;dsimp only;refine⟨⟨0,H.length⟩,rfl,by rw[uk],λj=>(j.a<=j.b/\j.b<=H.length)/\(∀k l,H[k]? =aw l->k<j.a->l.seq<n)/\(∀k l,H[k]? =aw l->j.b<=k->n<=l.seq),λj=>j.b-j.a,⟨⟨mn _,ju _⟩,λk l _ hk=>absurd hk (Nat.not_lt_zero _),λk l hk hle=>by rw[ui hle]at hk;cases hk⟩,?_⟩;rintro⟨a,b⟩ ⟨⟨Dx,hb⟩,h1,h2⟩;dsimp only at Dx hb h1 h2 ⊢;rw[y6q (by omega)];refine zG (λc=> ?_) (λc=> ?_)
 ·obtain⟨l,hk⟩:=zZ (l:=H) (i:=(a+b) / 2) oM;have up:¬l.seq<n->∀k y,H[k]? =aw y->(a+b) / 2<=k->n<=y.seq:=λc1 k y hy hle=>by
   by_cases ck:k=(a+b) / 2
   ·subst ck;rw[hk]at hy;cases hy;omega
   ·have:=yBs hs hk hy oM;omega
  refine⟨Z8,⟨oM,oM⟩,_,_,_,_,_,_,_,Xk hk,zG (λc1=>⟨⟨(a+b) / 2+1,b⟩,qu oM,rfl,⟨⟨Z9,hb⟩,λk y hy gu=> ?_,h2⟩,Z9,rfl⟩) (λc1=>zG (λc2=>⟨⟨a,(a+b) / 2⟩,rfl,rfl,⟨⟨Z9,Z9⟩,h1,up c1⟩,Z9,rfl⟩) (λc2=>⟨⟨a,(a+b) / 2⟩,rfl,rfl,⟨⟨Z9,Z9⟩,h1,up c1⟩,Z9,rfl⟩))⟩;dsimp only at gu;by_cases ck:k=(a+b) / 2
  ·subst ck;rw[hk]at hy;cases hy;omega
  ·have:=yBs hs hy hk oM;omega
 ·obtain rfl:a=b:=by omega
  have hp:cP H n=a:=Zp hb h1 h2;refine zG (λc1=> ?_) (λc1=>⟨(),by rw[hp],yOo λl hl=> ?_,rfl,trivial⟩)
  ·obtain⟨l,hk⟩:=zZ (l:=H) (i:=a) oM;have hh:=yUz hs hk h1 h2;exact⟨⟨oM,oM⟩,_,_,_,_,_,_,_,Xk hk,zG (λc2=>⟨(),by rw[hp],by rw[hh,jv (by omega)];rfl,rfl,trivial⟩) (λc2=>zG (λc3=>⟨(),by rw[hp],by rw[hh,jv (by omega)];rfl,rfl,trivial⟩) (λc3=>⟨(),by rw[hp],by rw[hh,jo (by omega)];rfl,rfl,trivial⟩))⟩
  ·obtain⟨k,hk⟩:=Bv.1 hl;have:=(jm.1 hk).1;exact h1 k l hk oM
def y6b:TJ.ok Tryz.prog 67:=gx mixed fk 1 i6 (λ_=>xHl) [] Tryz.func67 xJr
def zXh:vW Tryz.prog 40=aw (rM,7,56,#[.int .i64 0,.int .i64 0,.int .i64 0,.int .i64 0,.int .i64 0,.int .i64 0,.bool au]):=by kernel_rfl
def y0i:T5.ok Tryz.prog 71:=
 AX (tS:=40) (tI:=3) (fO:=145) (fR:=146) (z:= #[.int .i64 0,.int .i64 0,.int .i64 0,.int .i64 0,.int .i64 0,.int .i64 0,.bool au]) mixed Tryz.func71 rfl (by kernel_rfl) (by kernel_rfl) (by kernel_rfl) (by kernel_rfl) zXh rfl Z8 Z8 (by kernel_rfl) (by kernel_rfl)
  (z0s (tS:=40) (tB:=4) Tryz.func145 (by kernel_rfl) (by kernel_rfl) (by kernel_rfl) (by kernel_rfl) zXh) (λs sn sk i v vn vk w R=>by kernel_rfl)
def xAr (i:mq) (h:C4.dp i):yRu i:=by
 obtain⟨n,⟨v,q,H⟩,m0,b,e⟩:=i;obtain⟨h0,hs,zz,OS⟩:mq.ok ⟨n,⟨v,q,H⟩,m0,b,e⟩/\Hv H/\b.length<=1000000/\e+H.length<=900000:=h;obtain⟨⟨⟨hv,hn⟩,hL,he⟩,hf⟩:((v.length=n/\n<=1000)/\tX e v/\e+H.length<=1000000)/\∀m∈H,m.iN n=0:=id h0;have uk:(H.map zS).length=H.length:=ia _;have SA:= @yRz b;unfold yRu Qa7 O5 ff dx zHw O5 zHt dx zFg O5 zFk Wt aE m8 dI;dsimp only;refine⟨b,rfl,by show b.length<=_;omega,λ_ _=> ?_⟩;have eB:HJ n ⟨v,q,H⟩ b=if(xO b).2≠0 then(⟨v,q,H⟩,(xO b).2)else Bx n ⟨v,q,H⟩ (xO b).1:=rfl;generalize xO b=X at SA eB ⊢;obtain⟨m,y⟩:=X;dsimp only at SA eB ⊢;have out:∀(s:Vs) (w:Int),HJ n ⟨v,q,H⟩ b=(s,w)->(mq.mk n ⟨v,q,H⟩ m0 b e).T=s/\(mq.mk n ⟨v,q,H⟩ m0 b e).W=w:=λs w z=>by rw[mq.T,mq.W];dsimp only;rw[z];exact⟨rfl,rfl⟩
 refine Cv.dp.mk (λc=> ?_) (λc=> ?_)
 ·obtain⟨z1,z2⟩:=out ⟨v,q,H⟩ y (by rw[eB,fh (i9 c)]);rw[z1,z2];exact⟨(),sy trivial⟩
 have c:y=0:=i9 c
 rw[ez (by omega)]at eB;obtain⟨_,MC,_⟩:=SA c;obtain⟨⟨r1,r2⟩,_⟩:=MC;refine⟨av,λb=>b=decide (m.seq<1\/m.iN n≠0),zG (λc1=>⟨av,rfl,(jo (.inl c1)).symm,gn⟩) (λc1=>⟨⟨n,m⟩,oL ⟨rfl,trivial,λ_ _=>⟨_,rfl,?_,gn⟩⟩⟩),?_⟩
 ·dsimp only;rw[CF,tn,bne_iff_ne];exact⟨.inr,λz=>z.resolve_left c1⟩
 rintro _ rfl;refine zG (λc1=> ?_) (λc1=> ?_)
 ·obtain⟨z1,z2⟩:=out ⟨v,q,H⟩ 12 (by rw[eB,Bx,fh c1]);rw[z1,z2];exact⟨(),sy trivial⟩
 rw[Bx,ez c1]at eB;have c2:1<=m.seq/\m.iN n=0:=by
  by_cases a:m.seq<1
  ·exact absurd (.inl a) c1
  ·by_cases b:m.iN n=0
   ·exact⟨oM,b⟩
   ·exact absurd (.inr b) c1
 refine⟨⟨H,m.seq⟩,rfl,rfl,⟨hs,Z9⟩,λ_ _=>zG (λc3=> ?_) (λc3=>Cv.dp.mk (λc4=> ?_) (λc4=> ?_))⟩
 ·obtain⟨z1,z2⟩:=out ⟨v,q,H⟩ 33 (by rw[eB,fh (.inl c3)]);rw[z1,z2];exact⟨(),sy trivial⟩
 ·obtain⟨z1,z2⟩:=out ⟨v,q,H⟩ 33 (by rw[eB,fh (.inr c4)]);rw[z1,z2];exact⟨(),sy trivial⟩
 rw[ez (by rintro(z|z);exact c3 z;rw[c4]at z;cases z)]at eB;have hwr:aq.wrap (m.seq-1)=m.seq-1:=iw oM;rw[hwr];dsimp only;refine Cv.dp.mk (λc5=> ?_) (λc5=>zG (λc6=> ?_) (λc6=> ?_))
 ·have c5:m.seq-1=q:=Ix.1 c5;rw[fh c5]at eB;obtain⟨z1,z2⟩:=out _ _ eB;rw[z1,z2];exact⟨⟨n,⟨v,q,H⟩,m,b,e⟩,oL (iM ⟨rfl,⟨h0,c2.2⟩,λ_ _=>⟨⟨n,⟨rn v m,m.seq,H⟩,m,b,e+1⟩,iM ⟨rfl,⟨⟨⟨by dsimp only;rw[yDv];exact hv,hn⟩,yEm m hL,Z9⟩,hf⟩,λ_ _=>⟨(),sy trivial⟩⟩⟩⟩)⟩
 ·have c5:¬m.seq-1=q:=λz=>by rw[z]at c5;simp at c5
  rw[ez c5,fh (by dsimp only;omega)]at eB;obtain⟨z1,z2⟩:=out _ _ eB;rw[z1,z2];exact⟨(),sy trivial⟩
 ·have c5:¬m.seq-1=q:=λz=>by rw[z]at c5;simp at c5
  rw[ez c5,ez (by dsimp only;omega)]at eB;obtain⟨z1,z2⟩:=out _ _ eB;have xf:=xDy H m.seq;rw[z1,z2];exact⟨trivial,⟨H.map zS,zS m,cP H m.seq⟩,rfl,rfl,rfl,⟨Z9,Z9⟩,λ_ _=>⟨(),iM ⟨rfl,by rw[jk,jf,Ed,FF],trivial⟩⟩⟩
def G':C4.ok Tryz.prog 18:=gx mixed (dw yNc (dw YJ (dw y6b (dw yVm (dw yHn (dw y0i fk)))))) 0 (λ_=>[(16,bj 28)]) i6 [] Tryz.func18 xAr
def Ha:Gm.ok Tryz.prog 19:=gx (V:=yVn) mixed (dw xAk (dw yHn fk)) 0 i6 i6 [] Tryz.func19 λ(i:mq) h=>by
 obtain⟨n,⟨v,q,H⟩,m0,b,e⟩:=i;obtain⟨h0,F2,zz⟩:mq.ok ⟨n,⟨v,q,H⟩,m0,b,e⟩/\tX e (bX b)/\b.length<=1099511627776:=h;obtain⟨⟨⟨hv,hn⟩,hL,he⟩,hf⟩:((v.length=n/\n<=1000)/\tX e v/\e+H.length<=1000000)/\∀m∈H,m.iN n=0:=h0;have uk:((bX b).map zA).length=(bX b).length:=ia _;unfold yVn ff dx zGl dx eV aE;dsimp only;have out:∀(s:Vs) (w:Int),HK n ⟨v,q,H⟩ b=(s,w)->(mq.mk n ⟨v,q,H⟩ m0 b e).S=s/\(mq.mk n ⟨v,q,H⟩ m0 b e).Z=w:=λs w z=>by rw[mq.S,mq.Z];dsimp only;rw[z];exact⟨rfl,rfl⟩
 refine⟨b,rfl,zz,λ_ _=> ?_⟩;rw[uk];refine Cv.dp.mk (λc=> ?_) (λc=>Cv.dp.mk (λc2=> ?_) (λc2=>zG (λc3=> ?_) (λc3=>zG (λc4=> ?_) (λc4=> ?_))))
 ·obtain⟨z1,z2⟩:=out ⟨v,q,H⟩ _ (by rw[HK,fh (i9 c)]);rw[z1,z2];exact⟨(),sy trivial⟩
 all_goals have c:¬Ar b≠0:=i9 c
 ·obtain⟨z1,z2⟩:=out ⟨v,q,H⟩ _ (by rw[HK,ez c,fh (.inl (i9 c2))]);rw[z1,z2];exact⟨(),sy trivial⟩
 ·obtain⟨z1,z2⟩:=out ⟨v,q,H⟩ _ (by rw[HK,ez c,fh (.inr c3)]);rw[z1,z2];exact⟨(),sy trivial⟩
 all_goals have c2:((bX b).length:Int)=(n:Int):=i9 c2
 all_goals have c5:¬(((bX b).length:Int)≠(n:Int)\/pK b<0):=λz=>z.elim (λz=>z c2) c3
 ·obtain⟨z1,z2⟩:=out ⟨v,q,H⟩ _ (by rw[HK,ez c,ez c5,fh c4]);rw[z1,z2];exact⟨(),sy trivial⟩
 ·obtain⟨z1,z2⟩:=out _ _ (by rw[HK,ez c,ez c5,ez c4]);rw[z1,z2];exact⟨⟨n,⟨bX b,pK b,H⟩,m0,b,e⟩,iM ⟨rfl,⟨⟨⟨Z9,hn⟩,F2,he⟩,hf⟩,λ_ _=>⟨(),sy trivial⟩⟩⟩
def G9:Gl.ok Tryz.prog 25:=gx (V:=yTi) mixed (dw y6u fk) 0 i6 i6 [] Tryz.func25 λ(i:mq) h=>by
 have hs:=yVc h;unfold yTi ff dx sI qL;exact⟨i.s.v,rfl,hs,λ_ _=>⟨(),sy trivial⟩⟩
def yZc (p:fj) (n:Nat) (s:Int):(((ac p.count ([]:List zJ)).map qC).getD n kf).has s=au:=by
 have e:((ac p.count ([]:List zJ)).map qC).getD n kf=kf\/((ac p.count ([]:List zJ)).map qC).getD n kf=qC []:=by
  rw[Oi,mu,RD];split
  ·exact .inr rfl
  ·exact .inl rfl
 rcases e with h|h<;>rw[h,j'.has]<;>split<;>rfl
def z1b (p:fj) (a b:Ct) (less:Bool):xm ((ac p.count ([]:List zJ)).map qC) a b less=[]:=by
 rw[xm];rw[yZc];rfl
def yCw (p:fj) (n s:Int):xR ⟨p,(ac p.count ([]:List zJ)).map qC,n⟩ s=[]:=by
 have h:kZ ⟨p,(ac p.count ([]:List zJ)).map qC,n⟩ s=[]:=by
  rw[kZ];split
  ·rfl
  ·split
   ·rw[yY,z1b];rfl
   ·rw[jQ,wL,List.flatMap_eq_nil_iff.2 λk _=>z1b p _ _ _,List.flatMap_eq_nil_iff.2 λk _=>z1b p _ _ _];rfl
 rw[xR,h];rfl
def z4u (p:fj):yK p (ac p.count [])=Ci p.count:=by
 have h:∀(n:Nat) (s:Int),cX p (ac p.count []) n s=⟨[],BA,au⟩:=λn s=>by
  have e:(ac p.count ([]:List zJ)).getD n []=[]:=by
   rw[mu,RD];split<;>rfl
  rw[cX,e,yCw];rfl
 rw[yK,Ci];have:(λn:Nat=>(cX p (ac p.count []) n 1,cX p (ac p.count []) n 2))=λ_=>(⟨[],BA,au⟩,⟨[],BA,au⟩):=by
  funext n;rw[h,h]
 rw[this,List.map_const',Rv]
def ySm {n:Nat} {m:VM} (h:Dc n m) (hn:n<=256) (q:Int):(EW q m).form=0:=by
 have h1:=h.inst;have h2:=h.side;rw[gi.form];refine ez ?_;show ¬((m.inst:Int)<0\/255<(m.inst:Int)\/(m.side≠1/\m.side≠2));omega
def xAc {p:fj} {A B:Vw} (hA:xe p A) (hB:xe p B):rm A (xN 0 A B) (xN 0 A B).length=B:=by
 rw[U6];exact yCm (hA.len.trans hB.len.symm) (tU hA.r) (tU hB.r) (List.Perm.refl _)
def yXz {p:fj} {A B:Vw} (hA:xe p A) (hB:xe p B):∀m∈xN 0 A B,Dc p.count m:=λm hm=>by
 have:=yGt 0 A B (y3g hA) (y3g hB) m hm;rwa [nq,hA.len]at this
def yVt (v:Vw) (n:Int):(xU v n).length<=4000000:=by
 by_cases h:wO v
 ·have h1:=zOw h v.length;rw[mz (ju _)]at h1;rw[xU,fh h,kR];simp only[iv,y8,iF,tz];omega
 ·rw[xU,ez h];simp
def yHh (m:gi):m.enc.length<=35:=by
 rw[gi.enc];split
 ·exact mn _
 ·rw[yRp];decide
def y4z {p:fj} {c:Vw} (h:xe p c) {L:List VM} {k:Nat} (hk:k<=L.length):tX (255+k) (rm c L k)/\(rm c L k).length=p.count:=by
 obtain⟨_,h2,h3⟩:=yBh (ySi (tU h.r)) (yAr h) L k hk;exact⟨h2,h3.trans h.len⟩
def vm0:VM:=⟨0,0,BA,au⟩
def xG (L:List VM) (j:Nat):gi:=EW j (L.getD (j-1) vm0)
def wo (L:List VM) (S:Nat->Bool) (k m:Nat):List gi:=((ae k m).filter S).map λ(j:Nat)=>xG L j
def Lu {L:List VM} {S:Nat->Bool} {k m:Nat} {l:gi} (h:l∈wo L S k m):∃j:Nat,S j=av/\(k<=j/\j<k+m)/\l=xG L j:=by
 obtain⟨j,hj,rfl⟩:=np.1 h;obtain⟨h1,h2⟩:=ug.1 hj;exact⟨j,h2,Ru.1 h1,rfl⟩
def xAs (L:List VM) (S:Nat->Bool) (k m:Nat):Hv (wo L S k m):=by
 refine List.pairwise_map.2 ?_;refine((List.pairwise_lt_range' (s:=k) (n:=m)).filter S).imp ?_;intro a b h;show(a:Int)<(b:Int);omega
def yTp (L:List VM) (S:Nat->Bool) (k m:Nat):(wo L S k m).length<=m:=by
 rw[wo,ia];have:=HE S (ae k m);rwa [List.length_range']at this
def y0u (L:List VM) (S:Nat->Bool) (k m:Nat):wo L S k (m+1)=(if S k=av then[xG L k]else[])++wo L S (k+1) m:=by
 rw[wo,List.range'_succ,Dm];split<;>rfl
def z7q (L:List VM) (S:Nat->Bool) (k a b:Nat):wo L S k (a+1+b)=wo L S k a++((if S (k+a)=av then[xG L (k+a)]else[])++wo L S (k+a+1) b):=by
 have e:ae k (a+1+b)=ae k a++((k+a)::ae (k+a+1) b):=by
  rw[Dh,<- List.range'_append_1,HA 1 b,List.range'_succ]
 rw[wo,e,Cf,jk,Dm];split<;>rfl
def Xp {L:List VM} {S T:Nat->Bool} {k m:Nat} (h:∀j,k<=j->j<k+m->S j=T j):wo L S k m=wo L T k m:=by
 rw[wo,wo];congr 1;refine List.filter_congr λj hj=> ?_
 have:=Ru.1 hj;exact h j this.1 this.2
structure uo (c:Vw) (L:List VM) (s:Vs) (S:Nat->Bool) (n:Nat):Prop where
 len:n<=L.length
 v:s.v=rm c L n
 q:s.q=n
 hi:S (n+1)=au
 out:∀j,L.length<j->S j=au
 H:s.H=wo L S (n+2) (L.length-(n+1))
def zVj (v:Vw) (q:Int) (m:gi) (H:List gi):pJ v q (m::H)=if aq.wrap (m.seq-1)<=q then(if aq.wrap (m.seq-1)=q then pJ (rn v m) m.seq H else pJ v q H)else⟨v,q,m::H⟩:=by rw[pJ]
def z7t {v:Vw} {n:Nat} {H:List gi} (h:∀m∈H,(n:Int)+2<=m.seq/\m.seq<=1000000):pJ v n H=⟨v,n,H⟩:=by
 cases H with
 |nil=>rfl
 |cons m H=>
  have:=h m iX;rw[zVj,ez];rw[iw (by omega)];omega
def Pk {p:fj} {c:Vw} (h:xe p c) {L:List VM} (hL:L.length<=600000) (hm:∀m∈L,Dc p.count m) {S:Nat->Bool} (hS:∀j,L.length<j->S j=au):∀m k n:Nat,1<=k->k+m=L.length+1->k<=n+1->n<=L.length->
 ∃a,(n<=a/\a<=L.length)/\(∀j,n<j->j<=a->S j=av)/\S (a+1)=au/\pJ (rm c L n) n (wo L S k m)=⟨rm c L a,a,wo L S (a+2) (L.length-(a+1))⟩
 |0,k,n,h1,h2,h3,h4=>by
  have e:n=L.length:=by omega
  have e0:L.length-(n+1)=0:=by omega
  refine⟨n,⟨ju _,h4⟩,λj j1 j2=>by omega,hS _ oM,?_⟩;rw[e0];rfl
 |m+1,k,n,h1,h2,h3,h4=>by
  rw[y0u];by_cases ck:S k=av
  ·rw[fh ck,RC,zVj];have hs:(xG L k).seq=k:=rfl;rw[hs,iw (by omega),fh (by omega)];by_cases cn:(k:Int)-1=n
   ·rw[fh cn];have Md:k=n+1:=by omega
    subst Md;obtain⟨x,hx⟩:=zZ (l:=L) (i:=n) oM;have Fe:xG L (n+1)=EW ((n+1:Nat):Int) x:=by rw[xG,Nat.add_sub_cancel,mu,hx];rfl
    obtain⟨_,_,_,n4⟩:=yHd h hL hm hx ((n+1:Nat):Int);rw[Fe,n4];obtain⟨a,⟨a1,a2⟩,a3,a4,a5⟩:=Pk h hL hm hS m (n+1+1) (n+1) oM oM oM oM;refine⟨a,⟨oM,a2⟩,λj j1 j2=> ?_,a4,a5⟩;by_cases cj:j=n+1
    ·rw[cj];exact ck
    ·exact a3 j oM j2
   ·rw[ez cn];exact Pk h hL hm hS m (k+1) n oM oM oM h4
  ·rw[ez ck,we];by_cases ckn:k=n+1
   ·subst ckn;have e1:L.length-(n+1)=m:=by omega
    refine⟨n,⟨ju _,h4⟩,λj j1 j2=>by omega,i9 ck,?_⟩;rw[e1];refine z7t λy hy=> ?_
    obtain⟨j,_,⟨j1,j2⟩,rfl⟩:=Lu hy;show(n:Int)+2<=(j:Int)/\(j:Int)<=1000000;omega
   ·exact Pk h hL hm hS m (k+1) n oM oM oM h4
def uo.new (c:Vw) (L:List VM):uo c L ⟨c,0,[]⟩ (λ_=>au) 0:=⟨mn _,(y3q c L).symm,rfl,rfl,λ_ _=>rfl,by
 rw[wo,HG.2 λa _=>by simp];rfl⟩
def uo.had {c:Vw} {L:List VM} {s:Vs} {S:Nat->Bool} {n:Nat} (h:uo c L s S n) {j:Nat} (h1:n+1<j) (h2:j<=L.length):nW s.H j=S j:=by
 rw[h.H,nW,CF,Oh];constructor
 ·rintro⟨l,hl,e⟩;obtain⟨i,i1,_,rfl⟩:=Lu hl;have e:(i:Int)=(j:Int):=rf e;have:i=j:=by omega
  rw[<- this];exact i1
 ·intro e;refine⟨xG L j,np.2 ⟨j,ug.2 ⟨Ru.2 ⟨oM,oM⟩,e⟩,rfl⟩,jo rfl⟩
def uo.take {p:fj} {c:Vw} (hg:xe p c) {L:List VM} (hL:L.length<=4096) (hm:∀m∈L,Dc p.count m) {s:Vs} {S:Nat->Bool} {n:Nat} (h:uo c L s S n) {j:Nat} (h1:1<=j) (h2:j<=L.length):
 ∃a,(n<=a/\∀i,n<i->i<=a->(S i||decide (i=j))=av)/\uo c L (Bx p.count s (xG L j)).1 (λi=>S i||decide (i=j)) a/\((Bx p.count s (xG L j)).2=0\/(Bx p.count s (xG L j)).2=32\/((Bx p.count s (xG L j)).2=33/\(j<=n\/S j=av))):=by
 obtain⟨x,hx⟩:=zZ (l:=L) (i:=j-1) oM;have Fe:xG L j=EW (j:Int) x:=by rw[xG,mu,hx];rfl
 have FX:(xG L j).iN p.count=0:=by rw[Fe];exact z1x (hm x (lh hx)) _
 have hs:(xG L j).seq=j:=rfl;have xy:∀i,L.length<i->(S i||decide (i=j))=au:=λi hi=>by rw[h.out i hi,jv (by omega)];rfl
 have h0:¬((xG L j).seq<1\/(xG L j).iN p.count≠0):=by rw[hs,FX];rintro(z|z);omega;exact z rfl
 have hT:∀i,i≠j->(S i||decide (i=j))=S i:=λi hi=>by rw[jv hi,Bool.or_false]
 have same:S j=av->(λi=>S i||decide (i=j))=S:=λc=>by
  funext i;by_cases ci:i=j
  ·rw[ci,c];rfl
  ·exact hT i ci
 by_cases c1:j<=n
 ·have e:Bx p.count s (xG L j)=(s,33):=by rw[Bx,ez h0,fh (.inl (by rw[hs,h.q];omega))]
  rw[e];refine⟨n,⟨ju _,λi i1 i2=>by omega⟩,⟨h.len,h.v,h.q,?_,xy,?_⟩,.inr (.inr ⟨rfl,.inl c1⟩)⟩
  ·rw[hT _ (by omega)];exact h.hi
  ·rw[h.H];exact Xp λi i1 i2=>(hT i oM).symm
 by_cases c2:j=n+1
 ·have Ek:nW s.H j=au:=by
   rw[h.H,nW,L0];intro l hl;obtain⟨i,_,i2,rfl⟩:=Lu hl;have:(xG L i).seq=i:=rfl;rw[this];simp;omega
  have e:Bx p.count s (xG L j)=(pJ (rn s.v (xG L j)) j s.H,0):=by
   rw[Bx,ez h0,ez (by rw[hs,Ek,h.q];rintro(z|z);omega;cases z),fh (by rw[hs,h.q];omega),hs]
  have HQ:L[n]? =aw x:=by rw[<- hx];congr 1;omega
  obtain⟨_,_,_,n4⟩:=yHd hg oM hm HQ (j:Int);rw[e,h.v,Fe,n4,h.H];have ej:(j:Int)=((n+1:Nat):Int):=by omega
  obtain⟨a,⟨a1,a2⟩,a3,a4,a5⟩:=Pk hg oM hm h.out (L.length-(n+1)) (n+2) (n+1) oM oM oM oM;rw[ej];dsimp only;rw[a5];refine⟨a,⟨oM,λi i1 i2=> ?_⟩,⟨a2,rfl,rfl,?_,λi hi=>by rw[<- ej]at*;exact xy i hi,?_⟩,.inl rfl⟩
  ·by_cases ci:i=j
   ·rw[jo ci,Bool.or_true]
   ·rw[a3 i (by omega) i2,Bool.true_or]
  ·rw[jv (by omega),Bool.or_false];exact a4
  ·exact Xp λi i1 i2=>by rw[jv (by omega),Bool.or_false]
 have gu:n+1<j:=by omega
 have hh:=h.had gu h2;by_cases c3:S j=av
 ·have e:Bx p.count s (xG L j)=(s,33):=by rw[Bx,ez h0,fh (.inr (by rw[hs,hh,c3]))]
  rw[e,same c3];exact⟨n,⟨ju _,λi i1 i2=>by omega⟩,h,.inr (.inr ⟨rfl,.inr c3⟩)⟩
 ·have c3:S j=au:=i9 c3
  have hlen:s.H.length<4096:=by rw[h.H];have:=yTp L S (n+2) (L.length-(n+1));omega
  have e:Bx p.count s (xG L j)=(⟨s.v,s.q,s.H.take (cP s.H j)++xG L j::s.H.drop (cP s.H j)⟩,32):=by
   rw[Bx,ez h0,ez (by rw[hs,hh,c3,h.q];rintro(z|z);omega;cases z),ez (by rw[hs,h.q];omega),ez (by omega),hs]
  rw[e];refine⟨n,⟨ju _,λi i1 i2=>by omega⟩,⟨h.len,h.v,h.q,by rw[hT _ (by omega)];exact h.hi,xy,?_⟩,.inr (.inl rfl)⟩;have em:L.length-(n+1)=(j-(n+2))+1+(L.length-j):=by omega
  have ei:n+2+(j-(n+2))=j:=by omega
  have e1:=z7q L S (n+2) (j-(n+2)) (L.length-j);have e2:=z7q L (λi=>S i||decide (i=j)) (n+2) (j-(n+2)) (L.length-j);rw[ei]at e1 e2;rw[ez (by rw[c3];exact Bool.false_ne_true),we]at e1;rw[fh (by rw[jo rfl,Bool.or_true])]at e2;have hA:wo L (λi=>S i||decide (i=j)) (n+2) (j-(n+2))=wo L S (n+2) (j-(n+2)):=Xp λi _ i2=>hT i oM
  have hB:wo L (λi=>S i||decide (i=j)) (j+1) (L.length-j)=wo L S (j+1) (L.length-j):=Xp λi i1 _=>hT i oM
  rw[hA,hB]at e2;have xf:cP s.H j=(wo L S (n+2) (j-(n+2))).length:=by
   rw[h.H,em,e1];refine Zp (by rw[iv];omega) (λk l hk gu=> ?_) (λk l hk hle=> ?_)
   ·rw[Eg gu]at hk;obtain⟨i,_,i2,rfl⟩:=Lu (lh hk);show(i:Int)<(j:Int);omega
   ·rw[Ch hle]at hk;obtain⟨i,_,i2,rfl⟩:=Lu (lh hk);show(j:Int)<=(i:Int);omega
  dsimp only;rw[xf,em,e2,h.H,em,e1,JY,Oe];rfl
def uo.snap {p:fj} {c:Vw} (hg:xe p c) {L:List VM} (hL:L.length<=4096) (hm:∀m∈L,Dc p.count m) {s:Vs} {S:Nat->Bool} {n:Nat} (h:uo c L s S n) {k:Nat} (h1:n<=k) (h2:k<=L.length):
 ∃a,k<=a/\uo c L (pJ (rm c L k) k s.H) S a:=by
 by_cases ck:k=n
 ·subst ck;have e:pJ (rm c L k) k s.H=s:=by
   rw[z7t]
   ·obtain⟨v,q,H⟩:=s;have:=h.v;have:=h.q;dsimp only at*
    subst_vars;rfl
   ·intro y hy;rw[h.H]at hy;obtain⟨j,_,⟨j1,j2⟩,rfl⟩:=Lu hy;show(k:Int)+2<=(j:Int)/\(j:Int)<=1000000;omega
  rw[e];exact⟨k,ju _,h⟩
 ·rw[h.H];obtain⟨a,⟨a1,a2⟩,a3,a4,a5⟩:=Pk hg oM hm h.out (L.length-(n+1)) (n+2) k oM oM oM h2;rw[a5];exact⟨a,a1,a2,rfl,rfl,a4,h.out,rfl⟩
def uo.all {c:Vw} {L:List VM} {s:Vs} {S:Nat->Bool} {n:Nat} (h:uo c L s S n) (ha:∀j,n<j->j<=L.length->S j=av):s=⟨rm c L L.length,L.length,[]⟩:=by
 have hn:n=L.length:=by
  have h1:=h.len;rcases uz n L.length with z|z
  ·have:=ha (n+1) oM oM;rw[h.hi]at this;cases this
  ·omega
 obtain⟨v,q,H⟩:=s;have e1:=h.v;have e2:=h.q;have e3:=h.H;dsimp only at e1 e2 e3;have e:L.length-(n+1)=0:=by omega
 rw[e]at e3;rw[e1,e2,e3,hn];rfl
def zYr:∀L:List zJ,(L.filter λo=>decide (o.side=1)).length+(L.filter λo=>decide (o.side=2)).length<=L.length
 |[]=>ju _
 |o::L=>by
  have ih:=zYr L;rw[Dm,Dm,iF];by_cases a:o.side=1
  ·rw[fh (i9 a),ez (by simp;omega),iF];omega
  ·rw[ez (i9 a)];split
   ·rw[iF];omega
   ·omega
def yZd (L:List zJ):(uE L 1).length+(uE L 2).length<=L.length:=by
 have h1:=U2 (L.filter λo=>decide (o.side=1));have h2:=U2 (L.filter λo=>decide (o.side=2));have h3:=zYr L;rw[uE,uE];omega
def z5d (p:fj) {B:Q_ zJ} (h:B.length=p.count):Vw.oO (yK p B)<=vM B:=by
 have h1:∀k,k<=B.length->Vw.oO ((aj k).map λn=>(cX p B n 1,cX p B n 2))<=vM (B.take k):=by
  intro k
  induction k with
  |zero=>intro _;exact mn _
  |succ k ih=>
   intro hk;have ih:=ih oM;obtain⟨L,hL⟩:=zZ (l:=B) (i:=k) oM;have hd:B.getD k []=L:=by rw[mu,hL];rfl
   have hl:=yZd L;rw[vM]at ih ⊢;rw[HB,jk,Vw.oO,jk,J0,qq,hL,Bt,jk,J0];rw[Vw.oO]at ih;have e:((([k].map λn=>(cX p B n 1,cX p B n 2)).map λb=>b.1.levels.length+b.2.levels.length).sum)=(uE (B.getD k []) 1).length+(uE (B.getD k []) 2).length:=by simp[cX]
   rw[e,hd];simp only[jf,Bs,qc,List.sum_nil];omega
 have:=h1 p.count oM;rw[mz (by omega)]at this;exact this
def yMu {p:fj} {A B:Q_ zJ} (hA:A.length=p.count) (hB:B.length=p.count):(xN 0 (yK p A) (yK p B)).length<=vM A+vM B+42:=by
 have h:=Xu (yK p A) (yK p B) p.count (by rw[dN];exact ju _) (by rw[dN];exact ju _);rw[mz (by rw[dN];exact ju _),mz (by rw[dN];exact ju _)]at h;have:=z5d p hA;have:=z5d p hB;have:=y7 p;omega
def VS:∀(fs:List cS) (B:Q_ zJ),vM (jG B fs)<=vM B
 |[],B=>ju _
 |f::fs,B=>tm (VS fs (iO B f.id f.dr).1) (yFs B f.id f.dr).1
def yIa (p:fj) (inst:Int) (sd:Bool) (dm:Int):∀(m:Nat) (B:Q_ zJ) (q:Int),vM (Dd p inst sd dm m B q).B<=vM B
 |0,B,q=>ju _
 |m+1,B,q=>by
  rw[Dd];split
  ·exact ju _
  cases hs:aI p B inst sd dm q with
  |none=>exact ju _
  |some r=>
   obtain⟨t,B'⟩:=r;refine tm (yIa p inst sd dm m B' (q-t.dr)) ?_;rw[aI]at hs;split at hs
   ·split at hs
    ·cases hs;exact tm (VS _ _) (VS _ _)
    ·cases hs;exact VS _ _
   ·cases hs
def z7l (p:fj) (B:Q_ zJ) (U:List Int) (c:iq):vM (bI p B U c).B<=vM B+1:=by
 have AB:=yIa p c.inst (decide (c.side=2)) c.dm c.dr.toNat B c.dr;rw[sS];dsimp only;split
 ·exact tm (yVw ..) (Nat.succ_le_succ AB)
 ·exact HC AB
def xAm {p:fj} {B:Q_ zJ} (h:rr p B) (U:List Int) (c:iq):vM (Aa p B U c).B<=vM B+1:=by
 have ht:∀id q,vM (iO B id q).1<=vM B:=λid q=>(yFs B id q).1
 rw[Aa];split
 ·exact Br _
 split
 ·rename_i hk;rw[nY];split
  ·exact Br _
  split
  ·exact Br _
  split
  ·exact Br _
  split
  ·exact Br _
  split
  ·exact Br _
  exact z7l p B U c
 rename_i hk;split
 ·exact Br _
 rename_i hf;generalize z8 B c.id=F at*;obtain⟨fi,o,fb⟩:=F;dsimp only;split
 ·rw[fK];split
  ·exact Br _
  split
  ·exact HC (ht _ _)
  split
  ·exact Br _
  have AB:=z7l p (iO B c.id o.dr).1 U ⟨1,c.id,fi,o.side,c.dm,c.dr,0,1,[]⟩;have:=ht c.id o.dr;dsimp only;exact tm AB oM
 split
 ·exact HC (ht _ _)
 ·exact HC (ht _ _)
def yTm {p:fj} {B:Q_ zJ} (h:rr p B) (U:List Int) (W:List (Int×Int)) (s:Int) (c:iq):vM (Lm p B U W s c).B<=vM B+1:=by
 rw[Lm];split
 ·exact Br _
 ·split
  ·exact Br _
  ·exact xAm h U c
def yQm {p:fj} {B:Q_ zJ} (h:rr p B) (U:List Int) (W:List (Int×Int)) (s:Int) (b:i4):vM (tA p B U W s b).B<=vM B+1:=by
 rw[tA];split
 ·exact Br _
 ·split
  ·exact Br _
  ·exact yTm h U W s _
def zXx {L M:List VM} {j:Nat} (h1:1<=j) (h:j<=L.length):xG (L++M) j=xG L j:=by
 rw[xG,xG,mu,mu,Eg (by omega)]
def yXe {c:Vw} {L M:List VM} {k:Nat} (h:k<=L.length):rm c (L++M) k=rm c L k:=by
 rw[rm,rm,yp h]
def yZi (c:Vw) (L M:List VM):rm c (L++M) (L++M).length=rm (rm c L L.length) M M.length:=by
 rw[U6,U6,U6,Iz]
def uo.ext {c:Vw} {L:List VM} {s:Vs} {S:Nat->Bool} {n:Nat} (h:uo c L s S n) (M:List VM):uo c (L++M) s S n:=by
 have hl:=h.len;refine⟨by rw[iv];omega,by rw[yXe hl];exact h.v,h.q,h.hi,λj hj=>h.out j (by rw[iv]at hj;omega),?_⟩;have e:L.length+M.length-(n+1)=(L.length-(n+1))+(L.length+M.length-(n+1)-(L.length-(n+1))):=by omega
 have h0:(ae (n+2+(L.length-(n+1))) (L.length+M.length-(n+1)-(L.length-(n+1)))).filter S=[]:=
  HG.2 λj hj=>by
   have:=Ru.1 hj;rw[h.out j (by omega)];exact Bool.false_ne_true
 rw[h.H,wo,wo,iv,e,<- List.range'_append_1,Cf,h0,oJ];refine uc λj hj=> ?_
 have:=Ru.1 (ug.1 hj).1;exact(zXx oM oM).symm
def rJ (L:List VM) (m:Nat):Q_ UInt8:=(aj m).map λj=>(xG L (j+1)).enc
def z7k (L:List VM) (m:Nat):(rJ L m).length=m:=by rw[rJ,ia,Rv]
def yPh (L:List VM) {m i:Nat} (h:i<m):(rJ L m)[i]? =aw (xG L (i+1)).enc:=by
 rw[rJ,qt,J6 h];rfl
def yIs (L:List VM) (m:Nat):rJ L (m+1)=rJ L m++[(xG L (m+1)).enc]:=by
 rw[rJ,HB,jk];rfl
def yQo {L M:List VM} {m:Nat} (h:m<=L.length):rJ (L++M) m=rJ L m:=by
 refine uc λj hj=> ?_
 have:=Cd.1 hj;rw[zXx (by omega) (by omega)]
def z0g {p:fj} {L:List VM} (hL:L.length<=600000) (hm:∀m∈L,Dc p.count m) {j:Nat} (h1:1<=j) (h2:j<=L.length) (s:Vs):HJ p.count s (xG L j).enc=Bx p.count s (xG L j)/\(xG L j).form=0/\(xG L j).iN p.count=0:=by
 obtain⟨x,hx⟩:=zZ (l:=L) (i:=j-1) oM;have Fe:xG L j=EW (j:Int) x:=by rw[xG,mu,hx];rfl
 have hv:=hm x (lh hx);have hc:=y7 p;have hf:=ySm hv oM (j:Int);obtain⟨f1,f2,f3⟩:=hv.f;have hr:(EW (j:Int) x).raw:=⟨⟨by show(_:Int)<=(j:Int);omega,by show(j:Int)<=(_:Int);omega⟩,f1,f2,f3⟩
 rw[Fe];refine⟨?_,hf,z1x hv _⟩;rw[HJ,yQp hf hr,ez (λz=>z rfl)]
def yXj {a b:Nat} (h:a<=b) {v:Vw} (hv:tX a v):tX b v:=λq hq=>by have:=hv q hq;omega
def uo.dp {p:fj} {c:Vw} (hg:xe p c) {L:List VM} (hL:L.length<=4096) (hm:∀m∈L,Dc p.count m) {s:Vs} {S:Nat->Bool} {n:Nat} (h:uo c L s S n) (m:gi) (b:i4):(mq.mk p.count s m b 5000).ok/\Hv s.H/\5000+s.H.length<=900000:=by
 obtain⟨h1,h2⟩:=y4z hg (L:=L) (k:=n) h.len;have hc:=y7 p;have hl:=h.len;have hH:s.H.length<=L.length-(n+1):=by rw[h.H];exact yTp _ _ _ _
 refine⟨⟨⟨⟨by rw[h.v];exact h2,Z9⟩,λq hq=> ?_,Z9⟩,λy hy=> ?_⟩,by rw[h.H];exact xAs _ _ _ _,oM⟩
 ·have:=h1 q (by rw[<- h.v];exact hq);dsimp only at*;omega
 ·dsimp only at hy ⊢;rw[h.H]at hy;obtain⟨j,_,⟨j1,j2⟩,rfl⟩:=Lu hy;exact(z0g (p:=p) oM hm oM oM s).2.2
def uo.iO {p:fj} {c:Vw} (hg:xe p c) {L:List VM} (hL:L.length<=4096) (hm:∀m∈L,Dc p.count m) {s:Vs} {S:Nat->Bool} {n:Nat} (h:uo c L s S n) {j:Nat} (h1:1<=j) (h2:j<=L.length):
 ∃a,(n<=a/\∀i,n<i->i<=a->(S i||decide (i=j))=av)/\uo c L (HJ p.count s (xG L j).enc).1 (λi=>S i||decide (i=j)) a/\((HJ p.count s (xG L j).enc).2=0\/(HJ p.count s (xG L j).enc).2=32\/((HJ p.count s (xG L j).enc).2=33/\(j<=n\/S j=av))):=by
 rw[(z0g (by omega) hm h1 h2 s).1];exact h.take hg hL hm h1 h2
def uo.TR {p:fj} {c:Vw} (hg:xe p c) {L:List VM} (hL:L.length<=4096) (hm:∀m∈L,Dc p.count m) {s:Vs} {S:Nat->Bool} {n:Nat} (h:uo c L s S n) {w:Vw} (hw:xe p w) (e:rm c L L.length=w):
 ∃s',HK p.count s (xU w L.length)=(s',0)/\bX (xU w L.length)=w/\uo c L s' S L.length:=by
 obtain⟨h1,h2,h3⟩:=yJm hw.f hw.r (seq:=(L.length:Int)) ⟨oM,oM⟩;have hl:=h.len;obtain⟨a,a1,a2⟩:=h.snap hg hL hm (k:=L.length) hl (ju _);have a3:=a2.len;have ea:a=L.length:=by omega
 subst ea;refine⟨_,?_,h1,a2⟩;rw[HK,h1,h2,h3,ez (λz=>z rfl),ez (by rw[hw.len];rintro(z|z);exact z rfl;omega),ez (by rw[h.q];omega),e]
def y4u {L M:List VM} {i:Nat} (h:i<M.length):(jY (L.length:Int) M)[i]? =aw (xG (L++M) (L.length+i+1)):=by
 obtain⟨v,hv⟩:=zZ h;rw[yHp hv,xG,mu,Nat.add_sub_cancel,Ch (Nat.le_add_right _ _),Nat.add_sub_cancel_left,hv];exact congrArg aw (congrArg (λn:Int=>EW n v) oM)
def xHv (p:fj):vM (tu p).B=0:=by
 rw[show(tu p).B=ac p.count []from rfl,vM,Oi];generalize p.count=n
 induction n with
 |zero=>rfl
 |succ n ih=>rw[J7,qc,ih];rfl
def IV.len {p:fj} {x x2:Es} {s:Int} {b:i4} {k:Nat} (hB:rr p x.B) (Co:rr p x2.B) (e:x2=x.ed p s b) (hc:vM x.B<=k) (hk:k<30):vM x2.B<=k+1/\(xN 0 (yK p x.B) (yK p x2.B)).length<=102:=by
 have h1:vM x2.B<=vM x.B+1:=by rw[e];exact yQm hB x.U x.W s b
 have h2:=yMu (p:=p) hB.ok.bl Co.ok.bl;omega
structure IV (p:fj) (x:Es) (L:List VM):Prop where
 q:x.q=L.length
 v:rm (Ci p.count) L L.length=yK p x.B
 m:∀m∈L,Dc p.count m
def IV.new (p:fj):IV p (tu p) []:=⟨rfl,by rw[show(tu p).B=ac p.count []from rfl,z4u];rfl,λ_ h=>by cases h⟩
def IV.next {p:fj} {x x2:Es} {L:List VM} (h:IV p x L) (gA:xe p (yK p x.B)) (gB:xe p (yK p x2.B)) (hq:x2.q=x.q+((xN 0 (yK p x.B) (yK p x2.B)).length:Int)):IV p x2 (L++xN 0 (yK p x.B) (yK p x2.B)):=by
 refine⟨by rw[hq,h.q,iv];omega,?_,λm hm=> ?_⟩
 ·rw[yZi,h.v];exact xAc gA gB
 ·rcases oK.1 hm with z|z
  ·exact h.m m z
  ·exact yXz gA gB m z
def xGe {lo:List Bool} {k:Nat} {b:Bool} (h:lo[k]? =aw b):zD (lo.map IQ) k 0 1=aw [D.v (.bool b)]:=jz h (by simp[IQ]) rfl
set_option maxHeartbeats 1600000 in
def vtl (i:vm) (h:tlC.dp i):Vtl i:=by
 obtain⟨x0,p,l,aa,lo⟩:=i;obtain⟨⟨hp,MC,oX,hlen,aa3⟩,haa⟩:(p=ig x0/\x0.raw/\(∀c∈l,c.raw)/\l.length<=9223372036854775807/\lo.length<=9223372036854775807)/\yP aa:=h;have uk:(l.map zm).length=l.length:=ia _;have hc:p.check=0:=by rw[hp];exact pU _
 have hs:p.small:=by rw[hp];exact zOe _
 obtain⟨p1,p2,p3,p4,p5,p6,p7,p8,p9,RQ,RP⟩:sb p.code=sb [206,169]/\iE p.dt=iE (qU (kN x0).toNat)/\p.tick=zW x0/\p.low= -20*zW x0/\p.high=100*zW x0/\p.wide=zW x0*(5+zI x0.wide 0 60)/\p.gm=1+zI x0.gm 0 2/\p.top=zI x0.top 0 9/\p.least=1+zI x0.least 0 4/\p.part=zI x0.part 0 100/\iE p.settle=iE (jA (zW x0) (kN x0).toNat):=by
  rw[hp];exact(oL (iM rfl))
 have hpx:∃x,p=ig x:=⟨x0,hp⟩
 have R8:∀(c:iq) (k:Nat),k<=1000000->(xI ⟨p,c,k⟩).right=0:=by rw[hp];exactλc k hk=>yQi hk
 clear hp;have SG:jh p (tu p).B:=jh.new hc hs;unfold Vtl QG QT Qa Yu Qb wy BG Qc SM ff dx Qu Qw yRq QG yNv yOe QG QL ff Xe yBn Yu z2l zV o8 yAy NU Q0 PB Ql z2d aE z8z Qu aG WC Qq yCy QL z8q Qq WI Bi wy fL pR U8 hP wS xA tZ qL rO dX uD cM cF fC cD Wk dI;dsimp only;have AB:p.count<=1000:=by have:=y7 p;omega
 have aaz:0<=zI aa 0 25/\zI aa 0 25<=25:=yXi Z8;have abb:(lo.map IQ).length=lo.length:=ia _;refine⟨x0,oL (iM ⟨rfl,MC,λ_ _=>⟨p,p1,p2,p3,p4,p5,p6,p7,p8,p9,RQ,RP,⟨hc,hs⟩,λo ho=>⟨p,p1,p2,p3,p4,p5,p6,p7,p8,p9,RQ,RP,⟨hc,hs⟩,λ_ _=>⟨⟨aa,0,25⟩,rfl,rfl,rfl,⟨haa,rf rfl,rf rfl,rf rfl⟩,λ_ _=> ?_⟩⟩⟩⟩)⟩;dsimp only;have g0:xe p (Ci p.count):=by
  have:=JH (ho.s.wf SG);rwa [z4u]at this
 generalize zI aa 0 25=at' at aaz ⊢;refine⟨⟨tu p,o,⟨[],0⟩,⟨Ci p.count,0,[]⟩,[],0⟩,iA (nr (iM ⟨rfl,p1,p3,p4,p5,p6,p7,p8,p9,RQ,by rw[p2],by rw[RP],nf ⟨rfl,λj=>(j.k<=l.length/\j.k<=30)/\(j.o.ga p j.x.B j.x.U/\jh p j.x.B)/\(0<=j.x.q/\j.x.q<=202000000*(j.k:Int))/\(j.x.R.length<=j.k/\j.d.b.length<=107*j.k)/\vM j.x.B<=j.k/\∃L,IV p j.x L/\L.length<=102*j.k/\j.h=rJ L L.length/\∃(S:Nat->Bool) (n:Nat),uo (Ci p.count) L j.v S n,λj=>30-j.k,⟨⟨mn _,mn _⟩,⟨ho,SG⟩,⟨yl _,yl _⟩,⟨ju _,ju _⟩,Nat.le_of_eq (xHv p),[],IV.new p,ju _,rfl,_,0,uo.new _ _⟩,?_⟩⟩))⟩;clear ho;rintro⟨x,o,d,va,hh,k⟩ ⟨⟨hk,aaJ⟩,⟨hM,hB⟩,⟨wm,ue⟩,⟨hR,hd⟩,hct,L,hL,hLl,OR,S,n,hT⟩;dsimp only at hk aaJ hM hB wm ue hR hd hct hL hLl OR hT ⊢;subst OR;have MM:L.length<=4096:=by omega
 refine⟨av,λb=>b=decide (k<l.length/\k<30),zG (λc=>⟨_,rfl,decide_eq_decide.2 ⟨λx=>⟨oM,oM⟩,λx=>by omega⟩,gn⟩) (λc=>⟨_,rfl,(jv oM).symm,gn⟩),?_⟩;rintro _ rfl;refine zG (λc=> ?_) (λc=> ?_)
 ·obtain⟨c1,c2⟩:=c;obtain⟨c,hcm⟩:=zZ c1;have hcr:=oX c (lh hcm);have hr:=R8 c k oM;have zz:(xI ⟨p,c,k⟩).enc.length<=100:=yGi hr (zHo _);have h0:=z9z (s:=0) (c:=xI ⟨p,c,k⟩) oM hr;refine⟨⟨x,o,d,[]⟩,iA (iA ⟨rfl,λj=>BK p x d 0 (xI ⟨p,c,k⟩).enc ⟨j.x,j.o,j.d,(x.X p 0 (xI ⟨p,c,k⟩).enc).O,j.N⟩,⟨⟨oM,oM⟩,_,_,_,_,_,_,_,_,_,xJo hcm,⟨p,c,k⟩,rfl,rfl,rfl,rfl,rfl,rfl,rfl,rfl,rfl,rfl,rfl,rfl,rfl,rfl,rfl,rfl,rfl,rfl,rfl,rfl,rfl,⟨hpx,hcr,Z9,Z9⟩,λ_ _=>⟨⟨o,x,p,d,0,(xI ⟨p,c,k⟩).enc⟩,iA (oL (iM ⟨rfl,⟨⟨hM,hB⟩,Z9,⟨Z9,Z9⟩,⟨wm,Z9⟩,Z9,Z9⟩,λo9 hb=>absurd h0 hb.1,λo9 hg=>⟨⟨_,o9,_,_⟩,rfl,rfl,rfl,rfl,rfl,rfl,rfl,rfl,rfl,rfl,rfl,rfl,rfl,rfl,rfl,rfl,rfl,rfl,BK.vw hM hB zz h0 hg.2,gn⟩⟩))⟩⟩,?_⟩)⟩;rintro⟨x2,o2,d2,N⟩ hA;obtain⟨⟨Mk,Co,hq3,hq4,OV,AA,_,_⟩,_⟩:=id hA;obtain⟨ex,_,_,eN⟩:=hA.IZ h0;dsimp only at Mk Co hq3 hq4 OV AA ex eN ⊢;clear hA;have wA:=hM.s.wf hB;have wB:=Mk.s.wf Co;have gA:=JH wA;have gB:=JH wB;obtain⟨abc,hMl⟩:=IV.len wA wB ex hct c2;have eM:x.M p 0 (xI ⟨p,c,k⟩).enc=xN 0 (yK p x.B) (yK p x2.B):=by rw[ex];rfl
  have F2:=hL.next gA gB (by rw[<- eM,ex];rfl);rw[eM,hL.q]at eN;generalize xN 0 (yK p x.B) (yK p x2.B)=M at eN F2 hMl;have hNl:N.length=M.length:=by rw[eN,yFf]
  have aba:(N.map zS).length=N.length:=ia _;clear eM ex;have Tu:(L++M).length=L.length+M.length:=iv;have Kn:(L++M).length<=4096:=by omega
  refine⟨⟨va,rJ L L.length,N,0⟩,nr ⟨rfl,λj=>j.N=N/\j.k<=N.length/\j.h=rJ (L++M) (L.length+j.k)/\∃(S:Nat->Bool) (n:Nat),uo (Ci p.count) (L++M) j.v S n,λj=>N.length-j.k,⟨rfl,mn _,(yQo (ju _)).symm,S,n,hT.ext M⟩,?_⟩⟩;clear hT n S;rintro⟨vb,hh,N2,i⟩ ⟨hN2,hi,OR,S,n,hT⟩;dsimp only at hN2 hi OR hT ⊢;subst N2 hh;have oS:(rJ (L++M) (L.length+i)).length=L.length+i:=z7k _ _;have MK:((rJ (L++M) (L.length+i)).map iZ).length=L.length+i:=by rw[ia,oS]
  refine zG (λci=> ?_) (λci=> ?_)
  ·have hy:N[i]? =aw (xG (L++M) (L.length+i+1)):=by rw[eN];exact y4u oM
   obtain⟨BD,hfo,_⟩:=z0g (p:=p) (L:=L++M) oM F2.m (j:=L.length+i+1) oM oM vb;obtain⟨a,_,a2,_⟩:=hT.iO g0 Kn F2.m (j:=L.length+i+1) oM oM;obtain⟨Be,E9,X0⟩:=hT.dp g0 Kn F2.m EP (xG (L++M) (L.length+i+1)).enc;have To:=yHh (xG (L++M) (L.length+i+1));refine⟨⟨oM,oM⟩,_,_,_,_,_,_,_,Xk hy,xG (L++M) (L.length+i+1),rfl,rfl,rfl,rfl,rfl,rfl,rfl,trivial,λ_ _=> ?_⟩;refine⟨vb,iM ⟨rfl,λs=>∃(S:Nat->Bool) (n:Nat),uo (Ci p.count) (L++M) s S n,?_,?_⟩⟩
   ·refine⟨av,λ_=>True,?_,?_⟩
    ·refine zG (λca=>zG (λcb=>⟨_,rfl,trivial,gn⟩) (λcb=> ?_)) (λca=>⟨_,rfl,trivial,gn⟩);obtain⟨b,hb⟩:=zZ (l:=lo) (i:=L.length+i) oM;exact⟨⟨oM,oM⟩,b,by rw[MK];exact xGe hb,_,rfl,trivial,gn⟩
    rintro b _;exact Cv.dp.mk (λ_=>⟨⟨p.count,vb,EP,(xG (L++M) (L.length+i+1)).enc,5000⟩,nf ⟨rfl,⟨Be,E9,Z9,X0⟩,λ_ _=>⟨_,rfl,rfl,rfl,rfl,⟨_,a,a2⟩,gn⟩⟩⟩) (λ_=>⟨vb,iM ⟨rfl,⟨S,n,hT⟩,gn⟩⟩)
   rintro vc ⟨S2,n2,hT2⟩;refine⟨oM,⟨vc,rJ (L++M) (L.length+i+1),N,i+1⟩,qu oM,iM ⟨rfl,by rw[yIs,jk];rfl,rfl,⟨rfl,Z9,by dsimp only;congr 1,S2,n2,hT2⟩,Z9,gn⟩⟩
  obtain rfl:i=N.length:=by omega
  rw[hNl,<- Tu]at oS MK ⊢;have hq5:=F2.q;refine⟨vb,iM ⟨rfl,λs=>∃(S:Nat->Bool) (n:Nat),uo (Ci p.count) (L++M) s S n,?_,?_⟩⟩
  ·refine Cv.dp.mk (λ_=> ?_) (λ_=>⟨vb,nf ⟨rfl,⟨S,n,hT⟩,gn⟩⟩);obtain⟨s',s1,s2,s3⟩:=hT.TR g0 Kn F2.m gB F2.v;obtain⟨Be,E9,X0⟩:=hT.dp g0 Kn F2.m EP (xU (yK p x2.B) x2.q);have To:=yVt (yK p x2.B) x2.q;rw[<- hq5]at s1 s2;have out:∀e:Nat,(mq.mk p.count vb EP (xU (yK p x2.B) x2.q) e).S=s'/\(mq.mk p.count vb EP (xU (yK p x2.B) x2.q) e).Z=0:=λe=>by
    rw[mq.S,mq.Z];dsimp only;rw[s1];exact⟨rfl,rfl⟩
   obtain⟨e1,e2⟩:=out 5000;refine⟨⟨p,yK p x2.B,x2.q,[]⟩,oL (iM ⟨rfl,gB.s,λ_ _=>⟨⟨p.count,vb,EP,xU (yK p x2.B) x2.q,5000⟩,nf ⟨rfl,⟨Be,by dsimp only;rw[s2];exact yXj Z8 (yAr gB),Z9⟩,λ_ _=> ?_⟩⟩⟩)⟩;rw[e1,e2];exact⟨s',nf ⟨rfl,⟨S,L.length+M.length,by rw[<- Tu];exact s3⟩,gn⟩⟩
  rintro vc ⟨S2,n2,hT2⟩;exact⟨⟨x2,o2,d2,vc,rJ (L++M) (L++M).length,k+1⟩,qu oM,iA (iA (iA (iA ⟨rfl,⟨⟨Z9,Z9⟩,⟨Mk,Co⟩,⟨Z9,Z9⟩,⟨Z9,Z9⟩,Z9,L++M,F2,Z9,rfl,S2,n2,hT2⟩,Z9,gn⟩)))⟩
 have gB:=JH (hM.s.wf hB);refine⟨⟨va,rJ L L.length,0⟩,sy ⟨rfl,λj=>j.h=rJ L L.length/\j.k<=L.length/\∃(S:Nat->Bool) (n:Nat),uo (Ci p.count) L j.v S n/\∀i,1<=i->i<=j.k->S i=av,λj=>L.length-j.k,⟨rfl,mn _,S,n,hT,λi i1 i2=>by dsimp only at i2;omega⟩,?_⟩⟩;clear hT n S;rintro⟨vb,hh,i⟩ ⟨OR,hi,S,n,hT,hS⟩;dsimp only at OR hi hT hS ⊢;subst hh;have oS:(rJ L L.length).length=L.length:=z7k _ _;have MK:((rJ L L.length).map iZ).length=L.length:=by rw[ia,oS]
 refine zG (λci=> ?_) (λci=> ?_)
 ·obtain⟨a,_,a2,_⟩:=hT.iO g0 MM hL.m (j:=i+1) oM oM;obtain⟨Be,E9,X0⟩:=hT.dp g0 MM hL.m EP (xG L (i+1)).enc;have To:=yHh (xG L (i+1));refine⟨⟨oM,oM⟩,.inr ⟨bE (xG L (i+1)).enc,WV (yPh L oM),⟨⟨p.count,vb,EP,(xG L (i+1)).enc,5000⟩,nf ⟨rfl,⟨Be,E9,Z9,X0⟩,λ_ _=>⟨⟨_,rJ L L.length,i+1⟩,qu oM,rfl,rfl,rfl,rfl,rfl,⟨rfl,Z9,_,a,a2,λj j1 j2=> ?_⟩,Z9,gn⟩⟩⟩⟩⟩;dsimp only at j2 ⊢;by_cases cj:j=i+1
  ·rw[jo cj,Bool.or_true]
  ·rw[hS j j1 (by omega),Bool.true_or]
 obtain rfl:vb=⟨yK p x.B,x.q,[]⟩:=by
  rw[hT.all λj j1 j2=>hS j (by omega) (by omega),hL.v,hL.q]
 have qy:=gB.s;obtain⟨Be,-,-⟩:=hT.dp g0 MM hL.m EP [];refine Cv.dp.mk (λ_=>Cv.dp.mk (λ_=>⟨⟨p.count,⟨yK p x.B,x.q,[]⟩,EP,[],5000⟩,iM ⟨rfl,Be,λ_ _=>⟨gn,⟨⟨o,x.W⟩,p,x.B,x.U⟩,rfl,⟨hM,hB⟩,λ_ _=>⟨gn,⟨⟨o,x.W⟩,p,x.B,x.U,0⟩,rfl,⟨hM,hB⟩,λ_ _=>⟨gn,o,rfl,hM.s.small hB,λ_ _=>⟨gn,⟨o.s,p,x.B⟩,iA (iM ⟨rfl,⟨hM.s,hB⟩,λ_ _=>⟨⟨yK p x.B,yK p x.B⟩,rfl,rfl,⟨qy,qy⟩,λ_ _=> ?_⟩⟩)⟩⟩⟩⟩⟩⟩) (λc=>absurd c (by simp))) (λc=>absurd c (by simp));exact Cv.dp.mk (λ_=>⟨cW 2,rfl,λ_ _=>⟨(),rfl,trivial⟩⟩) (λc=>by dsimp only at c;rw[Iv,decide_eq_false_iff_not]at c;exact absurd rfl c)
end Sx
