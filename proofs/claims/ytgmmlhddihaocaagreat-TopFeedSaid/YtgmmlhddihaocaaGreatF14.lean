/- Texts of ours. No condition. -/
import Derived.Test.YtgmmlhddihaocaaGreatF13
set_option linter.all false
open Sx.fj renaming kg->ab,cells->ac,own->ae,ra->af
open List renaming map->ag,replicate->aj,length->ak,drop->am
open Go.IntKind renaming i64->ao,u64->ap
open Go renaming TypeId->aq
open Bool renaming false->ar,true->au
open Option renaming some->av
open Go.Value renaming string->aw
open Int renaming toNat->ax
namespace Sx
set_option maxRecDepth 100000
open Go Cv Go.Proofs
def tP (a:Sv):=((sb a.s).extract 0 (min (↑(sb a.s).size:Int) 255).toNat)
def yNb (i:Sv):Prop:=
 (0<=min (↑(sb i.s).size:Int) 255/\min (↑(sb i.s).size:Int) 255<=(↑(sb i.s).size:Int))/\∃(a:WN),a.n=(↑(tP i).size:Int)/\af (List UInt8) 2 ki a.l=Wr i.l/\a.ok/\fa (((bE (a.l++[iR a.n])).length+(jZ (tP i)).length)*(1:Nat)<=(140737488355328:Nat)/\dx (bE (i.l++Fs i.s)=bE (a.l++[iR a.n])++jZ (tP i)/\True))
def zKk (a:WN) (b:ie):Prop:=∃(c:List UInt8),af (List UInt8) 2 ki c=af (List UInt8) 2 ki (a.l++le a.n 8)/\c.length<=1099511627776/\fa (dx (bE b.enc=bE c/\dl ((0:Int))/\True))
def Z' (a:ie) (b:WN):Prop:=∃(c:WN),c.n=a.dr/\DA c b (fa (zKk c a))
def y1l (c:ie):Prop:=
 ∃(a:ie),Qd a c (a.label.length<=140737488355328/\fa (dp (a.right !=0) (dx (bE c.enc=[]/\0=a.right/\True)) (dx (True/\fa (∃(f:WN),f.n=c.kind/\OI f (fa (∃(h:WN),h.n=c.id/\J' h f (fa (dp (c.kind==1) (∃(k:WN),k.n=c.inst/\DA k h (fa (∃(m:WN),m.n=c.side/\J' m k (fa (∃(p:WN),p.n=c.time/\J' p m (fa (∃(r:WN),r.n=c.dm/\J' r p (fa (∃(t:WN),t.n=c.dr/\DA t r (fa (∃(v:WN),v.n=c.least/\DA v t (fa (∃(x:Sv),sb x.s=sb c.label/\af (List UInt8) 2 ki x.l=af (List UInt8) 2 ki (v.l++le v.n 8)/\(x.l.length+(300:Nat)<=(1099511627776:Nat)/\x.s.length<=255)/\fa (∃(z:List UInt8),af (List UInt8) 2 ki z=af (List UInt8) 2 ki (x.l++Fs x.s)/\z.length<=1099511627776/\fa (dx (bE c.enc=bE z/\dl ((0:Int))/\True)))))))))))))))) (dp (c.kind==3) (Z' c h) (dp (c.kind==4) (∃(k:WN),k.n=c.dm/\DA k h (fa (Z' c k))) (zKk h c))))))))))))
def xDf (i:X4):Prop:=
 dp (decide ((↑i.k:Int)<(↑(iE i.l).length:Int))) ((0<=(↑i.k:Int)/\(↑i.k:Int)<(↑(iE i.l).length:Int))/\∃(a:Int),zD (iE i.l) (↑i.k:Int).toNat 0 1=av [dI a]/\∃(b:qu),b.n=a/\b.lo=0/\b.hi=3/\(yX b)/\fa (dx (Ct i.l i.k=zG b.n b.lo b.hi/\True))) (dx (Ct i.l i.k=0/\True))
def Vv (a:zc):Prop:=(((-9223372036854775808)<=a.c.kind/\a.c.kind<=9223372036854775807)/\((-9223372036854775808)<=a.c.id/\a.c.id<=9223372036854775807)/\((-9223372036854775808)<=a.c.inst/\a.c.inst<=9223372036854775807)/\((-9223372036854775808)<=a.c.side/\a.c.side<=9223372036854775807)/\((-9223372036854775808)<=a.c.dm/\a.c.dm<=9223372036854775807)/\((-9223372036854775808)<=a.c.dr/\a.c.dr<=9223372036854775807)/\((-9223372036854775808)<=a.c.least/\a.c.least<=9223372036854775807)/\(-9223372036854775808)<=a.c.time/\a.c.time<=9223372036854775807)/\0<=a.i/\a.i<=1000000
def xFk (t:zc):Prop:=
 ∃(a:zc),Qb a.p t.p (Qd a.c t.c (a.i=t.i/\(a.p.check=0/\(o7 a.p (a.p.settle.length<=1099511627776))/\Vv a)/\fa (∃(c:ie),c.kind=(xE a).kind/\c.id=(xE a).id/\c.inst=(xE a).inst/\c.side=(xE a).side/\c.dm=(xE a).dm/\c.dr=(xE a).dr/\c.least=(xE a).least/\c.time=(xE a).time/\sb c.label=sb (xE a).label/\(c.label=[]/\c.right=0)/\fa (dx (bE (xE t).enc=bE c.enc/\True)))))
def U6 (a:Bm):Prop:=(Q0 a.p (a.p.settle.length<=1099511627776))/\(((∀(b:List UInt8),b∈a.L->b.length<=255)/\(Cu a.t).snd.snd=10/\(oP a.L).length+a.t.length<=1048576)/\a.s<=(oP a.L++a.t).length/\(oP a.L++a.t).length<=1048576)/\(∀(b:List UInt8),b∈a.L->b≠[]/\(zU (↑(b.headD (0:UInt8)).toNat:Int) b.tail).snd=0)/\a.L.length<=100000
def rW (a:ff):=(ag zA (yD a (aj a.count [])))
def xFc (p:ff):Prop:=
 dx (True/\fa (∃(c:Bm),Qb c.p p (lq c.j.d=lq (Dk.mk [] 0)/\(U6 c)/\∀(d:iD),d.fv c.p (vJ c.p c.L).B (vJ c.p c.L).U->∃(e:iD),au=((0:Int)==(0:Int))/\Qa p c.p (0=(vJ c.p c.L).q/\(↑(0:Nat):Int)=(↑c.L.length:Int)/\lp (Gt.mk e [])=lp (Gt.mk d (vJ c.p c.L).W)/\lq (Dk.mk [] 0)=lq c.j.d'/\[]=ag kf (vJ c.p c.L).R/\BD p c.p (ab 10 (rW p)=ab 10 (aF c)/\e.fv p (aj p.count []) [])))))
def jD (a:ff) (b:rp):=(ag zA (yD a b.x.B))
def yAq (a:Bm) (b:Int):Prop:=wv a.p (dl (ab 10 (aF a))/\dl (ab 1 (iE [(500:Int),(505:Int),(490:Int)]))/\dl (ab 1 (iE [(320:Int),(321:Int),(323:Int)]))/\dl (ac [V.d (D.v (aw (sb [(67:UInt8),(76:UInt8)]))),V.own 1,V.d (dI 5),V.d (dI 0),V.d (dI 1000),V.d (dI 200),V.d (dI b),V.d (dI 4),V.d (dI 2),V.d (dI 40),V.own 2] 25))
def z7n (a:ff) (b:rp) (c:Bm) (d:Int):Prop:=wv a (dl (ab 10 (jD a b))/\dl (ac [V.own 20,V.own 21] yQu)/\dl (ae Rb 9 (ag jW b.O))/\dl (ae wY 7 (ag zO b.N))/\yAq c d)
def yAs (a:rp->Prop) (b:rp) (c:ff) (d:rp) (e:rp) (f:Bm) (g:Int):Prop:=a b/\wv c (dl (ab 10 (jD c d))/\dl (ac [V.own 31,V.own 32] yQu)/\dl (ae Rb 9 (ag jW d.O))/\dl (ae wY 7 (ag zO d.N))/\z7n c e f g)
def z9a (a:rp->Prop) (b:rp) (c:ff) (d:rp) (e:Bm) (f:Int):Prop:=a b/\z7n c d e f
def z9v (a:rp->Prop) (b:rp) (c:Bm) (d:Int):Prop:=a b/\yAq c d
def VY (a:vt):Prop:=(a.o.fv a.p a.x.B a.x.U/\jb a.p a.x.B)/\a.b.length<=254/\((-1)<=a.s/\a.s<8)/\(0<=a.x.q/\a.x.q<=1000000000000000000)/\a.x.R.length<=1000000/\a.d.b.length+a.b.length+(7:Nat)<=(1048576:Nat)
@[reducible] def Qh (a:rp)(b:vt)(c:iD)(d:ff)(R:Prop):Prop:=a.x.q=b.x.q/\(↑a.x.R.length:Int)=(↑b.x.R.length:Int)/\lp (Gt.mk a.o a.x.W)=lp (Gt.mk c b.x.W)/\lq a.d=lq b.d/\ag kf a.x.R=ag kf b.x.R/\ab 1 (iE d.dt)=ab 1 (iE b.p.dt)/\ab 1 (iE d.settle)=ab 1 (iE b.p.settle)/\ab 10 (jD d a)=ab 10 (v7 b)/\ag jW a.O=[jW (b.s,fv.mk 2 0 0 0 0 0 0 (zU b.s b.b).snd)]/\ag zO a.N=[]/\R
@[reducible] def Qj (a:rp)(b:vt)(c:iD)(d:ff)(R:Prop):Prop:=a.x.q=b.x.q+(dS b)/\(↑a.x.R.length:Int)=(cE b)/\lp (Gt.mk a.o a.x.W)=lp (cK c b)/\lq a.d=lq b.D/\ag kf a.x.R=ag kf (fB b)/\ab 1 (iE d.dt)=ab 1 (iE b.p.dt)/\ab 1 (iE d.settle)=ab 1 (iE b.p.settle)/\ab 10 (jD d a)=ab 10 (dV b)/\ag jW a.O=ag jW b.O/\ag zO a.N=ag zO b.N/\R
@[reducible] def Qp (a:vt)(b:rp)(c:ff)(R:Prop):Prop:=a.x.q=b.x.q/\(↑a.x.R.length:Int)=(↑b.x.R.length:Int)/\lp (Gt.mk a.o a.x.W)=lp (Gt.mk b.o b.x.W)/\lq a.d=lq b.d/\ag kf a.x.R=ag kf b.x.R/\ab 1 (iE a.p.dt)=ab 1 (iE c.dt)/\ab 1 (iE a.p.settle)=ab 1 (iE c.settle)/\ab 10 (v7 a)=ab 10 (jD c b)/\(VY a)/\R
@[reducible] def Qz (a b:rp)(c:ff)(R:Prop):Prop:=a.x.q=b.x.q/\(↑a.x.R.length:Int)=(↑b.x.R.length:Int)/\lp (Gt.mk a.o a.x.W)=lp (Gt.mk b.o b.x.W)/\lq a.d=lq b.d/\ag kf a.x.R=ag kf b.x.R/\ab 1 (iE c.dt)=ab 1 (iE c.dt)/\ab 1 (iE c.settle)=ab 1 (iE c.settle)/\ab 10 (jD c a)=ab 10 (jD c b)/\R
@[reducible] def X6 (a:ie)(R:Prop):Prop:=a.least=0/\a.time=1/\sb a.label=ByteArray.mk #[]/\(a.label=[]/\a.right=0)/\R
def Vaw (p:ff):Prop:=
 ∃(a:Int),a=2/\True/\fa (dx (True/\fa ((dl (sb [(67:UInt8),(76:UInt8)])/\True/\X7 a (True/\True))/\∃(e:Bm),sb e.p.code=sb [(67:UInt8),(76:UInt8)]/\iE e.p.dt=iE [(320:Int),(321:Int),(323:Int)]/\e.p.tick=5/\e.p.low=0/\e.p.high=1000/\e.p.wide=200/\e.p.gi=a/\e.p.top=4/\e.p.least=2/\e.p.part=40/\iE e.p.settle=iE [(500:Int),(505:Int),(490:Int)]/\lq e.j.d=lq (Dk.mk [] 0)/\(U6 e)/\∀(f:iD),f.fv e.p (vJ e.p e.L).B (vJ e.p e.L).U->∃(g:rp),Qa p e.p (g.x.q=(vJ e.p e.L).q/\(↑g.x.R.length:Int)=(↑e.L.length:Int)/\lp (Gt.mk g.o g.x.W)=lp (Gt.mk f (vJ e.p e.L).W)/\lq g.d=lq e.j.d'/\ag kf g.x.R=ag kf (vJ e.p e.L).R/\BD p e.p (ab 10 (jD p g)=ab 10 (aF e)/\∃(h:rp->Prop),(∃(j:ie),j.kind=1/\j.id=1/\j.inst=3/\j.side=2/\j.dm=5/\j.dr=4/\X6 j (fa (∃(l:vt),l.s=0/\bE l.b=bE j.enc/\Qa l.p p (Qp l g p ((∀(m:iD),(zU l.s l.b).snd≠0/\m.fv l.p l.x.B l.x.U->∃(n:rp),Qa p l.p (Qh n l m p (z9v h n e a)))/\∀(m:iD),(zU l.s l.b).snd=0/\m.fv l.p (l.x.X l.p l.s l.b).B (l.x.X l.p l.s l.b).U->∃(n:rp),Qa p l.p (Qj n l m p (z9v h n e a)))))))/\∀(j:rp),h j->∃(k:rp),Qc p (Qz k j p (∃(l:rp->Prop),(∃(m:ie),m.kind=1/\m.id=2/\m.inst=1/\m.side=2/\m.dm=500/\m.dr=6/\X6 m (fa (∃(q:vt),q.s=1/\bE q.b=bE m.enc/\Qa q.p p (Qp q k p ((∀(r:iD),(zU q.s q.b).snd≠0/\r.fv q.p q.x.B q.x.U->∃(s:rp),Qa p q.p (Qh s q r p (z9a l s p j e a)))/\∀(r:iD),(zU q.s q.b).snd=0/\r.fv q.p (q.x.X q.p q.s q.b).B (q.x.X q.p q.s q.b).U->∃(s:rp),Qa p q.p (Qj s q r p (z9a l s p j e a)))))))/\∀(m:rp),l m->∃(n:rp),Qc p (Qz n m p (∃(q:rp->Prop),(∃(r:ie),r.kind=1/\r.id=3/\r.inst=0/\r.side=1/\r.dm=505/\r.dr=9/\X6 r (fa (∃(t:vt),t.s=2/\bE t.b=bE r.enc/\Qa t.p p (Qp t n p ((∀(u:iD),(zU t.s t.b).snd≠0/\u.fv t.p t.x.B t.x.U->∃(v:rp),Qa p t.p (Qh v t u p (yAs q v p m j e a)))/\∀(u:iD),(zU t.s t.b).snd=0/\u.fv t.p (t.x.X t.p t.s t.b).B (t.x.X t.p t.s t.b).U->∃(v:rp),Qa p t.p (Qj v t u p (yAs q v p m j e a)))))))/\∀(r:rp),q r->dp ((↑(ag jW j.O).length:Int)==1) (dp ((↑(ag jW m.O).length:Int)==1) (dp ((↑(ag jW r.O).length:Int)==6) (((0:Int)<=(5:Int)/\5<(↑(ag jW r.O).length:Int))/\∃(s:Int),∃(t:Int),∃(u:Int),∃(v:Int),∃(w:Int),∃(x:Int),∃(y:Int),∃(z:Int),zD (ag jW r.O) (ax 5) 1 8=av [dI s,dI t,dI u,dI v,dI w,dI x,dI y,dI z]/\dp (s==3 && (t==3 && (u==0 && (v==1 && (w==505 && (x==4 && (y==5 && (z==0 && au)))))))) (dx (au=decide ((↑(ag zO r.N).length:Int)>0)/\True)) (dx (au=ar/\True))) (dx (au=ar/\True))) (dx (au=ar/\True))) (dx (au=ar/\True)))))))))))
def yBq {s:Int} (h0:0<=s/\s<8) {c:ie} (h:c.right=0):(zU s c.enc).2=0:=by
 rw[zU,eg (by omega),yXz h]
def On:ie:=⟨1,1,3,2,5,4,0,1,[]⟩
def Om:ie:=⟨1,2,1,2,500,6,0,1,[]⟩
def LN:ie:=⟨1,3,0,1,505,9,0,1,[]⟩
def y2q:On.right=0:=by decide+kernel
def y1k:Om.right=0:=by decide+kernel
def y1p:LN.right=0:=by decide+kernel
def aw1:Es:=(ve (cQ 2)).ed (cQ 2) 0 On.enc
def aw2:Es:=aw1.ed (cQ 2) 1 Om.enc
def xGv:((ve (cQ 2)).X (cQ 2) 0 On.enc).O.length=1:=by decide+kernel
def xHp:(aw1.X (cQ 2) 1 Om.enc).O.length=1:=by decide+kernel
def xHr:(aw2.X (cQ 2) 2 LN.enc).O.length=6/\((aw2.X (cQ 2) 2 LN.enc).O.getD 5 (0,⟨0,0,0,0,0,0,0,0⟩)).2=⟨3,3,0,1,505,4,5,0⟩/\(aw2.M (cQ 2) 2 LN.enc).length≠0:=by decide+kernel
def yYh (a:List UInt8) (i j:Nat):(sb a).extract i j=sb ((a.take j).drop i):=by
 apply ByteArray.ext;simp only[sb,ByteArray.data_extract,List.extract_toArray];rw[List.extract_eq_drop_take',List.drop_take]
def yLw:MA.ok Tryz.prog 116:=gu (V:=yNb) mixed (dw Pq fg) 0 (λ_=>y9t) (λ_=>[]) [] Tryz.func116 λ(i:Sv) h=>by
 obtain⟨l,s⟩:=i;obtain⟨h,hl⟩:l.length+300<=1099511627776/\s.length<=255:=h;have hs:(sb s).size=s.length:=UO s;have hm:min ((sb s).size:Int) 255=(s.length:Int):=by rw[hs];omega
 have he:(sb s).extract 0 ((s.length:Int)).toNat=sb s:=by
  rw[yYh,om,zr];rfl
 have et:s.take 255=s:=mo oM;unfold yNb fa dx tP;dsimp only;rw[hm,he,hs];refine⟨⟨oM,oM⟩,⟨l,s.length⟩,rfl,rfl,by dsimp only[WN.ok];omega,λ_ _=>⟨?_,(),?_,trivial⟩⟩
 ·dsimp only;rw[zVu,yV,yV,iv];simp[sb];omega
 ·dsimp only;rw[zVu,<- Us,Fs,et];simp[sb]
def xEt (c:ie) (h:Kq.dp c):y1l c:=by
 obtain⟨hl,hr⟩:c.label=[]/\c.right=0:=h;have he:c.enc=iR c.kind::(le c.id 8++c.tail):=by rw[ie.enc,eg (by simp[hr])]
 unfold y1l DA J' Qd OI fa dx Z' DA fa zKk fa dx;refine⟨c,iw ⟨rfl,by rw[hl];exact mi _,λ_ _=>Cv.dp.mk (λe=>absurd e (by rw[hr];simp)) (λ_=>⟨(),trivial,λ_ _=>⟨⟨[],c.kind⟩,rfl,rfl,by simp[WN.ok],λ_ _=>⟨⟨[iR c.kind],c.id⟩,rfl,rfl,by simp[WN.ok],λ_ _=> ?_⟩⟩⟩)⟩⟩;dsimp only;refine Cv.dp.mk (λe=> ?_) (λe=>Cv.dp.mk (λe3=> ?_) (λe3=>Cv.dp.mk (λe4=> ?_) (λe4=> ?_)))
 ·have e:c.kind=1:=by simpa using e
  have ht:c.tail=iR c.inst::iR c.side::iR c.time::(le c.dm 8++(le c.dr 8++(le c.least 8++Fs c.label))):=by rw[ie.tail,fc e]
  refine⟨⟨[iR c.kind]++le c.id 8,c.inst⟩,rfl,rfl,by simp[WN.ok,y7],λ_ _=>⟨⟨_,c.side⟩,rfl,rfl,by simp[WN.ok,y7],λ_ _=>⟨⟨_,c.time⟩,rfl,rfl,by simp[WN.ok,y7],λ_ _=>⟨⟨_,c.dm⟩,rfl,rfl,by simp[WN.ok,y7],λ_ _=>⟨⟨_,c.dr⟩,rfl,rfl,by simp[WN.ok,y7],λ_ _=>⟨⟨_,c.least⟩,rfl,rfl,by simp[WN.ok,y7],λ_ _=>⟨⟨_,c.label⟩,rfl,rfl,⟨by simp[y7],by rw[hl];exact mi _⟩,λ_ _=>⟨_,rfl,by dsimp only;rw[hl];simp[y7,Fs],λ_ _=>⟨(),?_,rfl,trivial⟩⟩⟩⟩⟩⟩⟩⟩⟩;dsimp only;rw[he,ht];simp
 ·have e3:c.kind=3:=by simpa using e3
  have ht:c.tail=le c.dr 8:=by rw[ie.tail,eg (by omega),fc e3]
  refine⟨⟨[iR c.kind]++le c.id 8,c.dr⟩,rfl,rfl,by simp[WN.ok,y7],λ_ _=>⟨_,rfl,by simp[y7],λ_ _=>⟨(),?_,rfl,trivial⟩⟩⟩;dsimp only;rw[he,ht];simp
 ·have e4:c.kind=4:=by simpa using e4
  have ht:c.tail=le c.dm 8++le c.dr 8:=by rw[ie.tail,eg (by omega),eg (by omega),fc e4]
  refine⟨⟨[iR c.kind]++le c.id 8,c.dm⟩,rfl,rfl,by simp[WN.ok,y7],λ_ _=>⟨⟨_,c.dr⟩,rfl,rfl,by simp[WN.ok,y7],λ_ _=>⟨_,rfl,by simp[y7],λ_ _=>⟨(),?_,rfl,trivial⟩⟩⟩⟩;dsimp only;rw[he,ht];simp
 ·have e:¬c.kind=1:=by simpa using e
  have e3:¬c.kind=3:=by simpa using e3
  have e4:¬c.kind=4:=by simpa using e4
  have ht:c.tail=[]:=by rw[ie.tail,eg e,eg e3,eg e4]
  refine⟨_,rfl,by simp[y7],λ_ _=>⟨(),?_,rfl,trivial⟩⟩;rw[he,ht];simp
def yGa:Kq.ok Tryz.prog 52:=gu mixed (dw Zu (dw Pd (dw Pq (dw UD (dw yLw (dw Ph fg)))))) 0 (λ_=>[]) (λ_=>[]) [] Tryz.func52 xEt
def MB:SE.ok Tryz.prog 11:=gu (V:=xDf) mixed (dw sy fg) 0 (λ_=>[]) (λ_=>[]) [] Tryz.func11 λ(i:X4) h=>by
 obtain⟨l,k⟩:=i;obtain⟨h1,h2⟩:(∀s∈l,gr s)/\k<=1000000:=h;have hl:(iE l).length=l.length:=gy _;unfold xDf fa dx yX dI;dsimp only;refine zH (λc=> ?_) (λc=>⟨(),?_,trivial⟩)
 ·obtain⟨s,hs⟩:=z6 (l:=l) (i:=k) oM;refine⟨⟨oM,oM⟩,s,rm hs,⟨s,0,3⟩,rfl,rfl,rfl,⟨h1 s (ku hs),qp rfl,qp rfl,qp rfl⟩,λ_ _=>⟨(),?_,trivial⟩⟩;rw[Ct,hs]
 ·rw[Ct,ud (by omega)]
def y3n (l:List Int) (k:Nat):0<=Ct l k/\Ct l k<=3:=by
 rw[Ct];split
 ·exact yHa Z8
 ·exact⟨xq _,Z8⟩
def MD:SG.ok Tryz.prog 12:=gu (V:=xFk) mixed (dw yXk (dw yGa fg)) 0 (λ_=>[]) (λ_=>[]) [] Tryz.func12 λ(t:zc) h=>by
 obtain⟨p,c,k⟩:=t;obtain⟨⟨x,hp⟩,hc,h1,h2⟩:(∃x,p=ib x)/\c.raw/\0<=k/\k<=1000000:=h;subst hp;have hr:(xE ⟨ib x,c,k⟩).right=0:=by
  obtain⟨n,rfl⟩:∃n:Nat,k=n:=⟨k.toNat,oM⟩
  exact yNu oM
 unfold xFk Qb o7 Qd fa dx Vv;dsimp only;exact⟨⟨ib x,c,k⟩,iw (iw (mn ⟨rfl,⟨rC x,zNs x,hc,h1,h2⟩,λ_ _=>⟨xE ⟨ib x,c,k⟩,iw ⟨rfl,⟨zHj _,hr⟩,λ_ _=>⟨(),rfl,trivial⟩⟩⟩⟩))⟩
def M1:Ti.ok Tryz.prog 8:=gu (V:=xFc) mixed (dw yEv (dw yMa fg)) 0 (λ_=>[]) (λ_=>[]) [] Tryz.func8 λ(p:ff) h=>by
 obtain⟨hc,hs⟩:p.check=0/\p.small:=h;unfold xFc Qa Qb BD fa dx rW U6 Q0 aF;exact⟨(),trivial,λ_ _=>⟨⟨p,0,[],[]⟩,iw (iJ ⟨rfl,⟨⟨hc,hs⟩,⟨⟨λl hl=>(by cases hl),rfl,qp rfl⟩,lh _,qp rfl⟩,λr hr=>(by cases hr),qp rfl⟩,λo ho=>⟨o,iw (oF (iJ ho))⟩⟩)⟩⟩
def z9d (c:ie) (h:c.right=0) (hl:c.label=[]):c.enc.length<=100:=yFo h hl
def y7v:(zU 0 On.enc).2=0:=by decide+kernel
def y4a:(zU 1 Om.enc).2=0:=by decide+kernel
def y5t:(zU 2 LN.enc).2=0:=by decide+kernel
def xBd {O:List (Int×fv)} {k:Nat} {o:Int×fv} (h:O[k]? =av o):zD (O.map jW) k 1 8=av [D.v (.int .i64 o.2.kind),.v (.int .i64 o.2.id),.v (.int .i64 o.2.inst),.v (.int .i64 o.2.side),.v (.int .i64 o.2.dm),.v (.int .i64 o.2.dr),.v (.int .i64 o.2.left),.v (.int .i64 o.2.pd)]:=ju h (by simp[jW,x9]) rfl
def BH.IJ {p:ff} {x:Es} {d:Dk} {s:Int} {b:List UInt8} {j:rp} (h:BH p x d s b j) (hr:(zU s b).2=0):j.x=x.ed p s b/\j.d=⟨d.b++jC (A5 s b),d.safe⟩/\j.O=(x.X p s b).O/\j.N=jY x.q (x.M p s b):=by
 rcases h.c with⟨a0,_⟩|⟨_,a1,a2,a3,a4⟩
 ·exact absurd hr a0
 ·exact⟨a1,a2,a3,a4⟩
def vaw (p:ff) (h:awC.dp p):Vaw p:=by
 have h:p=cQ 2:=h;obtain⟨b1,qc⟩:∃b,On.enc=b:=⟨_,rfl⟩
 obtain⟨b2,my⟩:∃b,Om.enc=b:=⟨_,rfl⟩
 obtain⟨b3,Dr⟩:∃b,LN.enc=b:=⟨_,rfl⟩
 have l1:b1.length<=100:=by rw[<- qc];exact z9d _ y2q rfl
 have l2:b2.length<=100:=by rw[<- my];exact z9d _ y1k rfl
 have l3:b3.length<=100:=by rw[<- Dr];exact z9d _ y1p rfl
 have r1:(zU 0 b1).2=0:=by rw[<- qc];exact y7v
 have r2:(zU 1 b2).2=0:=by rw[<- my];exact y4a
 have r3:(zU 2 b3).2=0:=by rw[<- Dr];exact y5t
 have q1:((ve p).X p 0 b1).O.length=1:=by rw[<- qc,h];exact xGv
 have q2:(((ve p).ed p 0 b1).X p 1 b2).O.length=1:=by rw[<- qc,<- my,h];exact xHp
 have q3:((((ve p).ed p 0 b1).ed p 1 b2).X p 2 b3).O.length=6/\(((((ve p).ed p 0 b1).ed p 1 b2).X p 2 b3).O.getD 5 (0,⟨0,0,0,0,0,0,0,0⟩)).2=⟨3,3,0,1,505,4,5,0⟩/\((((ve p).ed p 0 b1).ed p 1 b2).M p 2 b3).length≠0:=by rw[<- qc,<- my,<- Dr,h];exact xHr
 have hc:p.check=0:=by rw[h];decide+kernel
 have hs:p.small:=by rw[h];exact z4z 2
 obtain⟨p1,p2,p3,p4,p5,p6,p7,p8,p9,Oi,Oh⟩:sb p.code=sb [67,76]/\iE p.dt=iE [320,321,323]/\p.tick=5/\p.low=0/\p.high=1000/\p.wide=200/\p.gi=2/\p.top=4/\p.least=2/\p.part=40/\iE p.settle=iE [500,505,490]:=by
  rw[h];exact(oF (iJ rfl))
 clear h;have OF:jb p (ve p).B:=jb.new hc hs;unfold Vaw Qa BD Qc X7 X6 fa dx Qh Qj Qp Qz U6 Q0 cK v7 dS cE fB dV z9v z9a yAs wv z7n wv yAq wv aF jD VY dI;refine⟨2,rfl,trivial,λ_ _=>⟨(),trivial,λ_ _=>⟨gg,⟨⟨p,0,[],[]⟩,p1,p2,p3,p4,p5,p6,p7,p8,p9,Oi,Oh,rfl,⟨⟨hc,hs⟩,⟨⟨λl hl=>(by cases hl),rfl,qp rfl⟩,lh _,qp rfl⟩,λr hr=>(by cases hr),qp rfl⟩,λo XZ=> ?_⟩⟩⟩⟩;have XZ:o.fv p (ve p).B (ve p).U:=XZ;have z0:(ve p).q=0:=rfl;have z1:(ve p).R.length=0:=rfl;have z2:([]:List UInt8).length=0:=rfl;refine⟨⟨ve p,o,⟨[],0⟩,[],[]⟩,iw (iw ⟨rfl,λj=>BH p (ve p) ⟨[],0⟩ 0 b1 j,⟨On,iw ⟨rfl,⟨rfl,y2q⟩,λ_ _=>⟨⟨o,ve p,p,⟨[],0⟩,0,b1⟩,rfl,by rw[qc],iw (iw ⟨rfl,⟨⟨XZ,OF⟩,Z9,⟨qp rfl,qp rfl⟩,⟨Z9,Z9⟩,Z9,Z9⟩,λo9 hb=>⟨⟨ve p,o9,⟨[],0⟩,_,[]⟩,rfl,rfl,rfl,rfl,rfl,rfl,rfl,rfl,rfl,rfl,rfl,rfl,rfl,rfl,rfl,rfl,rfl,rfl,rfl,BH.bad hb.2 OF hb.1,gg⟩,λo9 hg=>⟨⟨_,o9,_,_,_⟩,rfl,rfl,rfl,rfl,rfl,rfl,rfl,rfl,rfl,rfl,rfl,rfl,rfl,rfl,rfl,rfl,rfl,rfl,rfl,BH.vw XZ OF oM hg.1 hg.2,gg⟩⟩)⟩⟩⟩,?_⟩)⟩;rintro⟨x1,o1,d1,O1,N1⟩ L6;obtain⟨⟨zb,vd,u1,u2,u3,u4,_,_⟩,_⟩:=id L6;obtain⟨e1,_,e3,_⟩:=L6.IJ r1;dsimp only at zb vd u1 u2 u3 u4 e1 e3 ⊢;refine⟨⟨x1,o1,d1,[],[]⟩,iw (iw ⟨rfl,λj=>BH p (x1) d1 1 b2 j,⟨Om,iw ⟨rfl,⟨rfl,y1k⟩,λ_ _=>⟨⟨o1,x1,p,d1,1,b2⟩,rfl,by rw[my],iw (iw ⟨rfl,⟨⟨zb,vd⟩,Z9,⟨qp rfl,qp rfl⟩,⟨Z9,Z9⟩,Z9,Z9⟩,λo9 hb=>⟨⟨x1,o9,d1,_,[]⟩,rfl,rfl,rfl,rfl,rfl,rfl,rfl,rfl,rfl,rfl,rfl,rfl,rfl,rfl,rfl,rfl,rfl,rfl,rfl,BH.bad hb.2 vd hb.1,gg⟩,λo9 hg=>⟨⟨_,o9,_,_,_⟩,rfl,rfl,rfl,rfl,rfl,rfl,rfl,rfl,rfl,rfl,rfl,rfl,rfl,rfl,rfl,rfl,rfl,rfl,rfl,BH.vw zb vd oM hg.1 hg.2,gg⟩⟩)⟩⟩⟩,?_⟩)⟩;rintro⟨x2,o2,d2,O2,N2⟩ OG;obtain⟨⟨hM3,X1,v1,v2,v3,v4,_,_⟩,_⟩:=id OG;obtain⟨f1,_,f3,_⟩:=OG.IJ r2;dsimp only at hM3 X1 v1 v2 v3 v4 f1 f3 ⊢;refine⟨⟨x2,o2,d2,[],[]⟩,iw (iw ⟨rfl,λj=>BH p (x2) d2 2 b3 j,⟨LN,iw ⟨rfl,⟨rfl,y1p⟩,λ_ _=>⟨⟨o2,x2,p,d2,2,b3⟩,rfl,by rw[Dr],iw (iw ⟨rfl,⟨⟨hM3,X1⟩,Z9,⟨qp rfl,qp rfl⟩,⟨Z9,Z9⟩,Z9,Z9⟩,λo9 hb=>⟨⟨x2,o9,d2,_,[]⟩,rfl,rfl,rfl,rfl,rfl,rfl,rfl,rfl,rfl,rfl,rfl,rfl,rfl,rfl,rfl,rfl,rfl,rfl,rfl,BH.bad hb.2 X1 hb.1,gg⟩,λo9 hg=>⟨⟨_,o9,_,_,_⟩,rfl,rfl,rfl,rfl,rfl,rfl,rfl,rfl,rfl,rfl,rfl,rfl,rfl,rfl,rfl,rfl,rfl,rfl,rfl,BH.vw hM3 X1 oM hg.1 hg.2,gg⟩⟩)⟩⟩⟩,?_⟩)⟩;rintro⟨x3,o3,d3,O3,N3⟩ hA3;obtain⟨g1,_,g3,g4⟩:=hA3.IJ r3;dsimp only at g1 g3 g4 ⊢;rw[e1]at f1 f3;rw[f1]at g3 g4;rw[e3,f3,g3,g4];obtain⟨q31,q32,q33⟩:=q3;have uk:∀(l:List (Int×fv)),(l.map jW).length=l.length:=λl=>gy _
 have RS:((jY ((ve p).ed p 0 b1|>.ed p 1 b2).q ((((ve p).ed p 0 b1).ed p 1 b2).M p 2 b3)).map zO).length=((((ve p).ed p 0 b1).ed p 1 b2).M p 2 b3).length:=by rw[gy,sJ]
 rw[uk,uk,uk,q1,q2,q31,RS];obtain⟨y,hy⟩:=z6 (l:=((((ve p).ed p 0 b1).ed p 1 b2).X p 2 b3).O) (i:=5) oM;have hy2:y.2=⟨3,3,0,1,505,4,5,0⟩:=by rw[oc,hy]at q32;exact q32
 have h8:=xBd hy;rw[hy2]at h8;exact Cv.dp.mk (λ_=>Cv.dp.mk (λ_=>Cv.dp.mk (λ_=>⟨⟨qp rfl,qp rfl⟩,_,_,_,_,_,_,_,_,h8,Cv.dp.mk (λ_=>⟨(),(jk oM).symm,trivial⟩) (λe=>absurd e Z8)⟩) (λe=>absurd e Z8)) (λe=>absurd e Z8)) (λe=>absurd e Z8)
def Un:awC.ok Tryz.prog 19:=gu mixed (dw ySj (dw yEv (dw yMa (dw yGa (dw GK fg))))) 1 (λp=>awJ p) (λ_=>[]) [] Tryz.func19 vaw
structure TpI where
 x:ff
 p:ff
 l:List ie
 ss:List Int
@[reducible] def TpI.ok (i:TpI):Prop:=i.p=ib i.x/\i.x.raw/\(∀c∈i.l,c.raw)/\(∀s∈i.ss,gr s)/\i.l.length<=9223372036854775807/\i.ss.length<=9223372036854775807
structure tb where
 x:ff
 p:ff
 l:List ie
 a:Int
 ss:List Int
@[reducible] def tb.ok (i:tb):Prop:=(TpI.mk i.x i.p i.l i.ss).ok/\gr i.a
def fdC:fy:=fi tb (λi=>[nk i.x,ot 9 (i.l.map zk),zB i.a,ot 1 (iE i.ss)]) (λ_=>[]) (λi=>i.ok) (λ_=>yL au) (λ_=>[])
structure xb where
 x:Es
 o:iD
 d:Dk
 a:Vs
 b:Vs
 k:Nat
structure xy where
 x:Es
 o:iD
 d:Dk
 N:List gh
structure Bl where
 a:Vs
 b:Vs
 N:List gh
 k:Nat
def fdA (i:tb):List gm:=[
 {ι:=xb,du:=λj=>[(9,.nm 8 0),(10,.nm 0 0),(13,.nm 11 0),(15,.nm 14 0),(17,zB j.k)],rows:=λj=>JD i.p j.x j.o j.d++xHa i.p++Xu 11 i.p.count j.a++Xu 14 i.p.count j.b},
 {ι:=Bl,du:=λj=>[(13,.nm 0 0),(15,.nm 3 0),(18,.own 6),(19,zB j.k)],rows:=λj=>Xu 0 i.p.count j.a++Xu 3 i.p.count j.b++[rP j.N]}]
def fmJ (p:ff):gm:={ι:=xy,oZ:=λ_=>[(10,.nm 0 0)],lu:=λj=>JD p j.x j.o j.d,du:=λ_=>[(10,.nm 0 0),(18,.own 8)],rows:=λj=>JD p j.x j.o j.d++[rP j.N]}
def vsJ (p:ff) (t:Nat):gm:={ι:=Vs,oZ:=λ_=>[(15,.nm 0 0)],lu:=λs=>Hx p.count s,du:=λ_=>[(15,.nm 0 0),(t,yL ar)],rows:=λs=>Hx p.count s}
def lkJ:gm:={ι:=Vw,du:=λ_=>[(22,.nm 0 0)],rows:=λv=>[.cells [.own 1] 89,dQ v]}
def fdJ (i:tb):List (Nat×gm):=[(36,bj 68),(44,fmJ i.p),(72,vsJ i.p 114),(80,vsJ i.p 124),(88,lkJ),(92,bj 171)]
def aZ (a:tb):Prop:=Ql a.p (True)
def z0o (a:iD):Prop:=a.s.ei.length<=1000000/\∀(b:dq),b∈a.s.ei->Nv b
def pM (a:tb) (b:xb):=(ag zA (yD a.p b.x.B))
def fF (a:tb):=(D.v (aw (sb a.p.code)))
def lT (a:ff):=(ag zA (Aq a.count))
def Ur (a:ff) (b:ff) (c:ff) (d:ff) (e:tb):Prop:=ab 10 (lT a)=ab 10 (lT a)/\dl (ab 10 (lT b))/\wv c (dl (ab 10 (rW c))/\dl (ab 1 (iE (vR d)))/\dl (ab 1 (iE (qO (kN d).toNat)))/\Bi e.x (dl (ab 1 (iE e.x.dt))))
@[reducible] def Qr (a:ff)(b:tb)(c:xb)(R:Prop):Prop:=ab 1 (iE a.dt)=ab 1 (iE a.dt)/\ab 1 (iE a.settle)=ab 1 (iE a.settle)/\ab 10 (pM b c)=ab 10 (pM b c)/\ac [V.d (fF b),V.own 29,V.d (dI a.tick),V.d (dI a.low),V.d (dI a.high),V.d (dI a.wide),V.d (dI a.gi),V.d (dI a.top),V.d (dI a.least),V.d (dI a.part),V.own 30] (25:aq)=ac [V.d (fF b),V.own 29,V.d (dI a.tick),V.d (dI a.low),V.d (dI a.high),V.d (dI a.wide),V.d (dI a.gi),V.d (dI a.top),V.d (dI a.least),V.d (dI a.part),V.own 30] (25:aq)/\ab 1 (iE a.dt)=ab 1 (iE a.dt)/\ab 1 (iE a.settle)=ab 1 (iE a.settle)/\R
def z8n (a:tb) (b:xb) (c:ff) (d:ff) (e:ff) (f:ff):Prop:=Qr a.p a b (dl (ab 10 (ag zA b.a.v))/\dl (ab 10 (ag zA b.b.v))/\Ur c d e f a)
def bY (a:tb) (b:xy):=(ag zA (yD a.p b.x.B))
@[reducible] def Ye (a:xy)(b:ff)(R:Prop):Prop:=lq a.d=lq a.d/\ae Xv 1 (ag kf a.x.R)=ae Xv 1 (ag kf a.x.R)/\ab 1 (iE b.dt)=ab 1 (iE b.dt)/\ab 1 (iE b.settle)=ab 1 (iE b.settle)/\R
def z7t (a:xy) (b:tb) (c:xb) (d:ff) (e:ff) (f:ff) (g:ff):Prop:=Ye a b.p (dl (ab 10 (bY b a))/\z8n b c d e f g)
@[reducible] def QN (a:ff)(b:Vs)(R:Prop):Prop:=ac [V.d (dI (↑a.count:Int)),V.own 47,V.d (dI b.q),V.own 48] (164:aq)=ac [V.d (dI (↑a.count:Int)),V.own 47,V.d (dI b.q),V.own 48] (164:aq)/\ab 10 (ag zA b.v)=ab 10 (ag zA b.v)/\ae wY 7 (ag zO b.H)=ae wY 7 (ag zO b.H)/\R
@[reducible] def X' (a:tb)(b:Es)(R:Prop):Prop:=ac [V.d (fF a),V.own 42,V.d (dI a.p.tick),V.d (dI a.p.low),V.d (dI a.p.high),V.d (dI a.p.wide),V.d (dI a.p.gi),V.d (dI a.p.top),V.d (dI a.p.least),V.d (dI a.p.part),V.own 43,V.nm 7 0,V.nm 8 0,V.own 44,V.d (dI b.q),V.own 41] KZ=ac [V.d (fF a),V.own 42,V.d (dI a.p.tick),V.d (dI a.p.low),V.d (dI a.p.high),V.d (dI a.p.wide),V.d (dI a.p.gi),V.d (dI a.p.top),V.d (dI a.p.least),V.d (dI a.p.part),V.own 43,V.nm 7 0,V.nm 8 0,V.own 44,V.d (dI b.q),V.own 41] KZ/\ac [V.nm 9 0,V.d (dI (↑b.R.length:Int))] (201:aq)=ac [V.nm 9 0,V.d (dI (↑b.R.length:Int))] (201:aq)/\R
@[reducible] def Sz (a:Vs)(R:Prop):Prop:=ab 10 (ag zA a.v)=ab 10 (ag zA a.v)/\ae wY 7 (ag zO a.H)=ae wY 7 (ag zO a.H)/\R
@[reducible] def OL (a:Bl)(R:Prop):Prop:=ab 10 (ag zA a.b.v)=ab 10 (ag zA a.b.v)/\ae wY 7 (ag zO a.N)=ae wY 7 (ag zO a.N)/\R
def yRl (a:tb) (b:iD) (c:Vw->Prop) (d:Vs) (e:Bl) (f:xy) (g:IF) (h:xb) (j:ff) (k:ff) (l:ff) (m:ff):Prop:=∃(n:Fe),Qb n.p a.p (zF n.s=zF b.s/\(n.s.fv n.p n.B/\jb n.p n.B)/\fa (∃(q:Vw),ab 10 (ag zA q)=ab 10 (ag zA (yD n.p n.B))/\c q/\dl (ac [V.d (dI (↑a.p.count:Int)),V.own 54,V.d (dI d.q),V.own 55] (164:aq))/\Sz d (QN a.p e.a (OL e (X' a f.x (lp g.g=lp (Gt.mk f.o f.x.W)/\z7t f a h j k l m))))))
def yNs (a:tb) (b:iD) (c:Vw->Prop) (d:Vs) (e:Bl) (f:xy) (g:IF) (h:xb) (j:ff) (k:ff) (l:ff) (m:ff):Prop:=(aZ a)/\yRl a b c d e f g h j k l m
def yPr (a:tb) (b:Cq) (c:Vw->Prop) (d:Vs) (e:Bl) (f:xy) (g:IF) (h:xb) (j:ff) (k:ff) (l:ff) (m:ff):Prop:=(aZ a)/\∃(n:iD),kG n=kG b.g.m/\(z0o n)/\fa (yNs a n c d e f g h j k l m)
def yQt (a:tb) (b:IF) (c:Vw->Prop) (d:Vs) (e:Bl) (f:xy) (g:xb) (h:ff) (j:ff) (k:ff) (l:ff):Prop:=(aZ a)/\∃(m:Cq),lp m.g=lp b.g/\(m.g.m.fv m.p m.B m.U/\jb m.p m.B)/\fa (yPr a m c d e f b g h j k l)
def z9s (a:tb) (b:xy) (c:xb) (d:ff) (e:ff) (f:ff) (g:ff):Prop:=X' a b.x (dl (lp (Gt.mk b.o b.x.W))/\z7t b a c d e f g)
def Wx (a:Bl) (b:tb) (c:xy) (d:xb) (e:ff) (f:ff) (g:ff) (h:ff):Prop:=OL a (z9s b c d e f g h)
def z9g (a:ld) (b:tb) (c:Bl) (d:xy) (e:xb) (f:ff) (g:ff) (h:ff) (j:ff):Prop:=ac [V.d (dI (↑a.n:Int)),V.own 47,V.d (dI a.s.q),V.own 48] (164:aq)=ac [V.d (dI (↑b.p.count:Int)),V.own 47,V.d (dI c.a.q),V.own 48] (164:aq)/\ab 10 (ag zA a.s.v)=ab 10 (ag zA c.a.v)/\ae wY 7 (ag zO a.s.H)=ae wY 7 (ag zO c.a.H)/\Wx c b d e f g h j
@[reducible] def Qt (a:Bool->Prop)(b:Bool)(c:Vw)(d:ff)(e:Vs)(R:Prop):Prop:=a b/\ac [V.own 57] (89:aq)=ac [V.own 57] (89:aq)/\ab 10 (ag zA c)=ab 10 (ag zA c)/\ac [V.d (dI (↑d.count:Int)),V.own 54,V.d (dI e.q),V.own 55] (164:aq)=ac [V.d (dI (↑d.count:Int)),V.own 54,V.d (dI e.q),V.own 55] (164:aq)/\ab 10 (ag zA e.v)=ab 10 (ag zA e.v)/\ae wY 7 (ag zO e.H)=ae wY 7 (ag zO e.H)/\R
def z9n (a:Bool->Prop) (b:Bool) (c:Vw) (d:tb) (e:Vs) (f:ld) (g:Bl) (h:xy) (j:xb) (k:ff) (l:ff) (m:ff) (n:ff):Prop:=Qt a b c d.p e (z9g f d g h j k l m n)
def Xd (a:Bool->Prop) (b:Vw) (c:tb) (d:Vs) (e:ld) (f:Bl) (g:xy) (h:xb) (j:ff) (k:ff) (l:ff) (m:ff):Prop:=∃(n:Bool),n=au/\z9n a n b c d e f g h j k l m
def yBb (a:tb) (b:Bl) (c:xy) (d:xb) (e:ff) (f:ff) (g:ff) (h:ff):Prop:=QN a.p b.a (Wx b a c d e f g h)
def yQf (a:Bool->Prop) (b:Vw) (c:tb) (d:Vs) (e:Bl) (f:xy) (g:xb) (h:ff) (j:ff) (k:ff) (l:ff):Prop:=∃(m:Bool),m=au/\Qt a m b c.p d (yBb c e f g h j k l)
def yBz (a:Vs->Prop) (b:Vs) (c:ld) (d:Bl) (e:tb) (f:xy) (g:xb) (h:ff) (j:ff) (k:ff) (l:ff):Prop:=a b/\dl (ac [V.d (dI (↑c.n:Int)),V.own 53,V.d (dI c.T.q),V.own 54] (164:aq))/\dl (ab 10 (ag zA c.T.v))/\dl (ae wY 7 (ag zO c.T.H))/\dl (ab 10 (ag zA d.a.v))/\Wx d e f g h j k l
def yBl (a:tb) (b:xb) (c:ff) (d:ff) (e:ff) (f:ff):Prop:=Qr a.p a b (dl (ac [V.d (dI (↑a.p.count:Int)),V.own 32,V.d (dI b.a.q),V.own 33] (164:aq))/\Sz b.a (dl (ac [V.d (dI (↑a.p.count:Int)),V.own 35,V.d (dI b.b.q),V.own 36] (164:aq))/\Sz b.b (Ur c d e f a)))
def z8r (a:Bool->Prop) (b:Bool) (c:tb) (d:xb) (e:ff) (f:ff) (g:ff) (h:ff):Prop:=a b/\dl (ac [V.d (fF c),V.own 25,V.d (dI c.p.tick),V.d (dI c.p.low),V.d (dI c.p.high),V.d (dI c.p.wide),V.d (dI c.p.gi),V.d (dI c.p.top),V.d (dI c.p.least),V.d (dI c.p.part),V.own 26,V.nm 7 0,V.nm 8 0,V.own 27,V.d (dI d.x.q),V.own 24] KZ)/\dl (ac [V.nm 9 0,V.d (dI (↑d.x.R.length:Int))] (201:aq))/\dl (lp (Gt.mk d.o d.x.W))/\dl (lq d.d)/\dl (ae Xv 1 (ag kf d.x.R))/\yBl c d e f g h
def yAl (a:xy->Prop) (b:xy) (c:tb) (d:xb) (e:ff) (f:ff) (g:ff) (h:ff):Prop:=a b/\yBl c d e f g h
def cB (a:ld):Prop:=((ak a.s.v=a.n/\a.n<=1000)/\(∀(b:Sd×Sd),b∈a.s.v->b.fst.levels.length<=a.e/\b.snd.levels.length<=a.e)/\a.e+a.s.H.length<=1000000)/\∀(b:gh),b∈a.s.H->gh.iL (↑a.n:Int) b=0
def z1x (a:ld):Prop:=(cB a)/\Jj a.s.H/\a.b.length<=1000000/\a.e+a.s.H.length<=900000
def zPu (a:ff):Prop:=a.check=0/\zW a
def tY (a:Vs):=(↑(ag zO a.H).length:Int)
@[reducible] def Qq (a b:ff)(R:Prop):Prop:=sb a.code=sb [(206:UInt8),(169:UInt8)]/\iE a.dt=iE (qO (kN b).toNat)/\a.tick=zV b/\a.low=(-20)*zV b/\a.high=100*zV b/\a.wide=zV b*(jU b)/\a.gi=1+zG b.gi 0 2/\a.top=zG b.top 0 9/\a.least=1+zG b.least 0 4/\a.part=zG b.part 0 100/\iE a.settle=iE (vR b)/\(zPu a)/\R
@[reducible] def Qx (a:ff)(b c d e:Vs)(R:Prop):Prop:=(↑a.count:Int)=(↑a.count:Int)/\b.q=c.q/\ab 10 (ag zA b.v)=ab 10 (ag zA c.v)/\ag zO b.H=ag zO c.H/\(↑a.count:Int)=(↑a.count:Int)/\d.q=e.q/\ab 10 (ag zA d.v)=ab 10 (ag zA e.v)/\ag zO d.H=ag zO e.H/\R
@[reducible] def QH (a b:Vs)(R:Prop):Prop:=a.q=b.q/\ab 10 (ag zA a.v)=ab 10 (ag zA b.v)/\ag zO a.H=ag zO b.H/\R
@[reducible] def Sw (a b:Es)(R:Prop):Prop:=a.q=b.q/\(↑a.R.length:Int)=(↑b.R.length:Int)/\R
@[reducible] def Qd3 (a:ff)(b:ld)(c:Vs)(R:Prop):Prop:=(↑a.count:Int)=(↑b.n:Int)/\c.q=b.T.q/\ab 10 (ag zA c.v)=ab 10 (ag zA b.T.v)/\ag zO c.H=ag zO b.T.H/\R
def Vfd (i:tb):Prop:=
 ∃(a:ff),Qb a i.x ((((-9223372036854775808)<=a.tick/\a.tick<=9223372036854775807)/\((-9223372036854775808)<=a.wide/\a.wide<=9223372036854775807)/\((-9223372036854775808)<=a.gi/\a.gi<=9223372036854775807)/\((-9223372036854775808)<=a.top/\a.top<=9223372036854775807)/\((-9223372036854775808)<=a.least/\a.least<=9223372036854775807)/\((-9223372036854775808)<=a.part/\a.part<=9223372036854775807)/\a.dt.length<=9223372036854775807)/\fa (∃(c:ff),Qq c a (∀(d:iD),d.fv c (aj c.count []) []->∃(e:ff),Qq e a (fa (∃(g:ff),Qq g a (fa (∃(j:qu),j.n=i.a/\j.lo=0/\j.hi=40/\(yX j)/\fa (∃(l:xb),(↑l.k:Int)=0/\Qa i.p c (l.x.q=0/\(↑l.x.R.length:Int)=(↑(0:Nat):Int)/\lp (Gt.mk l.o l.x.W)=lp (Gt.mk d [])/\lq l.d=lq (Dk.mk [] 0)/\ag kf l.x.R=[]/\BD i.p c (ab 10 (pM i l)=ab 10 (rW c)/\sb i.p.code=sb [(206:UInt8),(169:UInt8)]/\i.p.tick=zV a/\i.p.low=(-20)*zV a/\i.p.high=100*zV a/\i.p.wide=zV a*(jU a)/\i.p.gi=1+zG a.gi 0 2/\i.p.top=zG a.top 0 9/\i.p.least=1+zG a.least 0 4/\i.p.part=zG a.part 0 100/\ab 1 (iE i.p.dt)=ab 1 (iE (qO (kN a).toNat))/\ab 1 (iE i.p.settle)=ab 1 (iE (vR a))/\(↑i.p.count:Int)=(↑e.count:Int)/\l.a.q=0/\ab 10 (ag zA l.a.v)=ab 10 (lT e)/\ag zO l.a.H=[]/\(↑i.p.count:Int)=(↑g.count:Int)/\l.b.q=0/\ab 10 (ag zA l.b.v)=ab 10 (lT g)/\ag zO l.b.H=[]/\∃(m:xb->Prop),∃(n:xb->Nat),m l/\∀(p:xb),m p->∃(q:Bool),∃(r:Bool->Prop),dp (decide ((↑p.k:Int)<(↑(ag zk i.l).length:Int))) (∃(s:Bool),s=decide ((↑p.k:Int)<40)/\z8r r s i p g e c a) (∃(s:Bool),s=ar/\z8r r s i p g e c a)/\∀(s:Bool),r s->dp s (∃(t:xy),Qc i.p (Sw t.x p.x (lp (Gt.mk t.o t.x.W)=lp (Gt.mk p.o p.x.W)/\lq t.d=lq p.d/\ag kf t.x.R=ag kf p.x.R/\wv i.p (ab 10 (bY i t)=ab 10 (pM i p)/\∃(u:xy->Prop),((0<=(↑p.k:Int)/\(↑p.k:Int)<(↑(ag zk i.l).length:Int))/\∃(v:Int),∃(w:Int),∃(x:Int),∃(y:Int),∃(z:Int),∃(ow:Int),∃(og:Int),∃(iW:Int),∃(qh:ByteArray),zD (ag zk i.l) (↑p.k:Int).toNat 0 9=av [dI v,dI w,dI x,dI y,dI z,dI ow,dI og,dI iW,D.v (aw qh)]/\∃(jg:X4),iE jg.l=iE i.ss/\(↑jg.k:Int)=(↑p.k:Int)/\((∀(mq:Int),mq∈jg.l->(-9223372036854775808)<=mq/\mq<=9223372036854775807)/\jg.k<=1000000)/\fa (True/\(aZ i)/\∃(oW:zc),Qb oW.p i.p (oW.c.kind=v/\oW.c.id=w/\oW.c.inst=x/\oW.c.side=y/\oW.c.dm=z/\oW.c.dr=ow/\oW.c.least=og/\oW.c.time=iW/\sb oW.c.label=qh/\oW.i=(↑p.k:Int)/\((∃(qt:ff),oW.p=ib qt)/\Vv oW)/\fa (∃(mz:vt),mz.s=Ct jg.l jg.k/\bE mz.b=bE (xE oW).enc/\Qa mz.p i.p (Sw mz.x t.x (lp (Gt.mk mz.o mz.x.W)=lp (Gt.mk t.o t.x.W)/\lq mz.d=lq t.d/\QU mz.x t.x mz.p i.p (ab 10 (v7 mz)=ab 10 (bY i t)/\(VY mz)/\(∀(lk:iD),(zU mz.s mz.b).snd≠0/\lk.fv mz.p mz.x.B mz.x.U->∃(oR:xy),Qa i.p mz.p (Sw oR.x mz.x (lp (Gt.mk oR.o oR.x.W)=lp (Gt.mk lk mz.x.W)/\lq oR.d=lq mz.d/\QU oR.x mz.x i.p mz.p (ab 10 (bY i oR)=ab 10 (v7 mz)/\ag zO oR.N=[]/\yAl u oR i p g e c a))))/\∀(lk:iD),(zU mz.s mz.b).snd=0/\lk.fv mz.p (mz.x.X mz.p mz.s mz.b).B (mz.x.X mz.p mz.s mz.b).U->∃(oR:xy),Qa i.p mz.p (oR.x.q=mz.x.q+(dS mz)/\(↑oR.x.R.length:Int)=(cE mz)/\lp (Gt.mk oR.o oR.x.W)=lp (cK lk mz)/\lq oR.d=lq mz.D/\ag kf oR.x.R=ag kf (fB mz)/\BD i.p mz.p (ab 10 (bY i oR)=ab 10 (dV mz)/\ag zO oR.N=ag zO mz.N/\yAl u oR i p g e c a)))))))))/\∀(v:xy),u v->∃(w:Bl),(↑w.k:Int)=0/\Qx i.p w.a p.a w.b p.b (ag zO w.N=ag zO v.N/\∃(x:Bl->Prop),∃(y:Bl->Nat),x w/\∀(z:Bl),x z->dp (decide ((↑z.k:Int)<(↑(ag zO z.N).length:Int))) ((0<=(↑z.k:Int)/\(↑z.k:Int)<(↑(ag zO z.N).length:Int))/\∃(ow:Int),∃(og:Int),∃(iW:Int),∃(qh:Int),∃(jg:Int),∃(mq:Int),∃(oW:Bool),zD (ag zO z.N) (↑z.k:Int).toNat 0 7=av [dI ow,dI og,dI iW,dI qh,dI jg,dI mq,D.v (.bool oW)]/\∃(qt:gh),qt.seq=ow/\qt.inst=og/\qt.side=iW/\qt.dm=qh/\qt.dr=jg/\qt.count=mq/\qt.fx=oW/\True/\fa (dp (qt.form !=0) (dx (au=ar/\True)) (∃(lk:ld),bE lk.b=bE qt.enc/\(↑lk.n:Int)=(↑i.p.count:Int)/\QH lk.s z.a ((z1x lk)/\fa (dp (lk.W !=0) (dx (au=ar/\True)) (∃(Mz:Vs),dl ((↑i.p.count:Int))/\QH Mz z.b (∃(tz:Vs->Prop),dp (decide ((↑p.k:Int)>zG j.n j.lo j.hi)) (∃(xf:ld),bE xf.b=bE qt.enc/\(↑xf.n:Int)=(↑i.p.count:Int)/\QH xf.s Mz ((z1x xf)/\fa (∃(Ty:Vs),ar=(xf.W !=0)/\Qd3 i.p xf Ty (yBz tz Ty lk z i v p g e c a)))) (∃(xf:Vs),ar=ar/\dl ((↑i.p.count:Int))/\QH xf Mz (yBz tz xf lk z i v p g e c a))/\∀(xf:Vs),tz xf->∃(xe:Bl),(↑xe.k:Int)=ao.wrap ((↑z.k:Int)+1)/\Qd3 i.p lk xe.a (dl ((↑i.p.count:Int))/\QH xe.b xf (ag zO xe.N=ag zO z.N/\x xe/\y xe<y z/\z9s i v p g e c a))))))))) (∃(ow:Vs),dl ((↑i.p.count:Int))/\QH ow z.b (∃(og:Vs->Prop),dp ((↑p.k:Int)==zG j.n j.lo j.hi) (∃(iW:En),Qa iW.p i.p (iW.q=v.x.q/\ab 10 (ag zA iW.v)=ab 10 (bY i v)/\(ak iW.v<=1099511627776/\∀(qh:Sd×Sd),qh∈iW.v->qK qh)/\fa (∃(jg:ld),bE jg.b=bE (xW iW.v iW.q)/\(↑jg.n:Int)=(↑i.p.count:Int)/\QH jg.s ow (((cB jg)/\(∀(mq:Sd×Sd),mq∈bG jg.b->mq.fst.levels.length<=jg.e/\mq.snd.levels.length<=jg.e)/\jg.b.length<=1099511627776)/\fa (∃(oW:Vs),ar=(jg.Z !=0)/\(↑i.p.count:Int)=(↑jg.n:Int)/\oW.q=jg.S.q/\ab 10 (ag zA oW.v)=ab 10 (ag zA jg.S.v)/\ag zO oW.H=ag zO jg.S.H/\og oW/\QN i.p z.a (OL z (ac [V.d (D.v (aw (sb iW.p.code))),V.own 42,V.d (dI iW.p.tick),V.d (dI iW.p.low),V.d (dI iW.p.high),V.d (dI iW.p.wide),V.d (dI iW.p.gi),V.d (dI iW.p.top),V.d (dI iW.p.least),V.d (dI iW.p.part),V.own 43,V.nm 7 0,V.nm 8 0,V.own 44,V.d (dI iW.q),V.own 41] KZ=ac [V.d (fF i),V.own 42,V.d (dI i.p.tick),V.d (dI i.p.low),V.d (dI i.p.high),V.d (dI i.p.wide),V.d (dI i.p.gi),V.d (dI i.p.top),V.d (dI i.p.least),V.d (dI i.p.part),V.own 43,V.nm 7 0,V.nm 8 0,V.own 44,V.d (dI v.x.q),V.own 41] KZ/\dl (ac [V.nm 9 0,V.d (dI (↑v.x.R.length:Int))] (201:aq))/\dl (lp (Gt.mk v.o v.x.W))/\Ye v i.p (ab 10 (ag zA iW.v)=ab 10 (bY i v)/\z8n i p g e c a)))))))) (∃(iW:Vs),ar=ar/\dl ((↑i.p.count:Int))/\QH iW ow (og iW/\yBb i z v p g e c a))/\∀(iW:Vs),og iW->∃(qh:Vw),∃(jg:Vw->Prop),((∃(mq:IF),lp mq.g=lp (Gt.mk v.o v.x.W)/\(mq.g.m.fv mq.p mq.B mq.U/\jb mq.p mq.B)/\fa ((aZ i)/\(∃(qt:Cq),lp qt.g=lp mq.g/\(qt.g.m.fv qt.p qt.B qt.U/\jb qt.p qt.B)/\fa ((aZ i)/\(∃(lk:iD),kG lk=kG qt.g.m/\(z0o lk)/\fa ((aZ i)/\(yRl i lk jg iW z v mq p g e c a)/\yNs i lk jg iW z v mq p g e c a))/\yPr i qt jg iW z v mq p g e c a))/\yQt i mq jg iW z v p g e c a))/\(aZ i)/\∃(mq:IF),lp mq.g=lp (Gt.mk v.o v.x.W)/\(mq.g.m.fv mq.p mq.B mq.U/\jb mq.p mq.B)/\fa (yQt i mq jg iW z v p g e c a))/\∀(mq:Vw),jg mq->∃(oW:Bool),∃(qt:Bool->Prop),dp (!(↑(ag zO z.a.H).length:Int)==0) (yQf qt mq i iW z v p g e c a) (dp (z.a.q !=v.x.q) (yQf qt mq i iW z v p g e c a) (∃(mz:ld),(↑mz.n:Int)=(↑i.p.count:Int)/\QH mz.s z.a ((cB mz)/\fa ((True/\True)/\∃(oR:Hh),ag zA oR.v=ag zA mz.s.v/\ag zA oR.w=ag zA mq/\(pA oR)/\fa (dp (!Fk oR.v oR.w) (Xd qt mq i iW mz z v p g e c a) (dp (decide ((↑p.k:Int)>=zG j.n j.lo j.hi)) (dp (!(tY iW)==0) (Xd qt mq i iW mz z v p g e c a) (dp (iW.q !=v.x.q) (Xd qt mq i iW mz z v p g e c a) (∃(tz:ld),(↑tz.n:Int)=(↑i.p.count:Int)/\QH tz.s iW ((cB tz)/\fa ((True/\True)/\∃(xe:Hh),ag zA xe.v=ag zA tz.s.v/\ag zA xe.w=ag zA mq/\(pA xe)/\fa (∃(Tx:Bool),Tx=!Fk xe.v xe.w/\qt Tx/\dl (ac [V.own 57] (89:aq))/\dl (ab 10 (ag zA mq))/\ac [V.d (dI (↑tz.n:Int)),V.own 54,V.d (dI tz.s.q),V.own 55] (164:aq)=ac [V.d (dI (↑i.p.count:Int)),V.own 54,V.d (dI iW.q),V.own 55] (164:aq)/\ab 10 (ag zA tz.s.v)=ab 10 (ag zA iW.v)/\ae wY 7 (ag zO tz.s.H)=ae wY 7 (ag zO iW.H)/\z9g mz i z v p g e c a)))))) (∃(tz:Bool),tz=ar/\z9n qt tz mq i iW mz z v p g e c a)))))))/\∀(mz:Bool),qt mz->dp mz (dx (au=ar/\True)) (∃(lk:xb),(↑lk.k:Int)=ao.wrap ((↑p.k:Int)+1)/\Qc i.p (Sw lk.x v.x (lp (Gt.mk lk.o lk.x.W)=lp (Gt.mk v.o v.x.W)/\lq lk.d=lq v.d/\ag kf lk.x.R=ag kf v.x.R/\wv i.p (ab 10 (pM i lk)=ab 10 (bY i v)/\Qc i.p (wv i.p (Qx i.p lk.a z.a lk.b iW (m lk/\n lk<n p/\Ur g e c a i)))))))))))))) (∃(t:ff),t=cQ 2/\fa (dx (au=au/\True)))))))))))))
def aaW (i:tb):Vfd i=walk Tryz.prog ([(7,C0),(8,Ti),(32,Ke),(33,AT),(11,SE),(12,SG),(10,Mw),(34,F5),(35,CZ),(27,Tl),(36,Gf),(63,Tg),(16,KM),(17,Gk),(37,F6),(41,Ge),(40,C2),(19,awC)]) 1 (fdJ i) (fdA i) [] Tryz.f6 (Tryz.f6.body.getD .skip) (fdC.pat i) (fdC.pre i) (fdC.alts i):=by kernel_rfl
def Pw (a:Vw) (b:Nat) (c:List (List D)):=(zJ (ag zA a) (↑b:Int).toNat 0 [D.ro 3 c])
def VA (a:Nat) (b:Vw) (c:List (List D)):Prop:=0<=(↑a:Int)/\(↑a:Int)<(↑(Pw b a c).length:Int)
def xBq (v:Vw):Prop:=
 ∃(a:List (List D)),a=ag zA v/\a.length*(112:Nat)<=(140737488355328:Nat)/\fa (∃(c:Nat),(↑c:Int)=0/\ag zA v=a/\∃(d:Nat->Prop),∃(e:Nat->Nat),d c/\∀(f:Nat),d f->dp (decide ((↑f:Int)<(↑a.length:Int))) ((dM f v)/\∃(g:List (List D)),zD (ag zA v) (↑f:Int).toNat 0 1=av [D.ro 3 g]/\(dM f v)/\∃(h:List (List D)),h=g/\h.length*(24:Nat)<=(140737488355328:Nat)/\fa (((dM f v)/\dl ((↑f:Int).toNat))/\True/\(↑f:Int).toNat<(ag zA v).length/\(VA f v h)/\∃(k:List (List D)),zD (Pw v f h) (↑f:Int).toNat 5 1=av [D.ro 3 k]/\(VA f v h)/\∃(l:List (List D)),l=k/\l.length*(24:Nat)<=(140737488355328:Nat)/\fa (((VA f v h)/\dl ((↑f:Int).toNat))/\True/\(↑f:Int).toNat<(Pw v f h).length/\∃(n:Nat),(↑n:Int)=ao.wrap ((↑f:Int)+1)/\ag zA v=zJ (Pw v f h) (↑f:Int).toNat 5 [D.ro 3 l]/\d n/\e n<e f/\dl (ac ob.cl 89)/\dl (ab 10 (ag zA v))))) (dx (dl (ag zA v)/\True)))
def y3e (p:ff):Prop:=
 ∃(a:ff),Qb a p ((zW a)/\fa (dp (a.check !=0) (dx (False)) (∃(c:ff),Qb c p ((zW c)/\fa ((0<=(↑c.count:Int)/\(↑c.count:Int)<=(↑c.count:Int)/\(↑c.count:Int)<=9223372036854775807/\(↑(112:Nat):Int)*(↑c.count:Int)<=2 ^ (48:Nat))/\dx (dl ((0:Int))/\(↑p.count:Int)=(↑c.count:Int)/\dl ((0:Int))/\ag zA (Aq p.count)=aj (↑c.count:Int).toNat [D.ro 3 [],dI 0,dI 0,dI 0,D.v (.bool ar),D.ro 3 [],dI 0,dI 0,dI 0,D.v (.bool ar)]/\([]:List (List D))=[]/\True))))))
def xEr (i:ld):Prop:=
 ∃(a:El),ag zA a.v=ag zA i.s.v/\a.m.seq=i.m.seq/\a.m.inst=i.m.inst/\a.m.side=i.m.side/\Q4 a.m i.m ((gh.iL (↑(ak a.v):Int) a.m=0/\ak a.v<=1000000/\ak a.v<=1099511627776/\∀(b:Sd×Sd),b∈a.v->qK b)/\fa (dx (dl ((↑i.n:Int))/\dl i.m.seq/\dl (ag zO i.s.H)/\ab 10 (ag zA (sm i.s.v i.m))=ab 10 (ag zA (sm a.v a.m))/\True)))
def y0j (l:List (List D)):Prop:=
 ∀(b:Bool),(b=au->l=[])->dp b (∃(o:Unit),l=[]/\True) ((0+l.length)*(56:Nat)<=(140737488355328:Nat)/\∃(o:Unit),l=[]++l/\True)
def y6p (l:List (List D)):y0j l=walk Tryz.prog ([]) 0 ([]) ([]) [] Tryz.f143 (Tryz.f143.body.getD .skip) (Ah.pat l) (Ah.pre l) (Ah.alts l):=by kernel_rfl
def y7x (hG:zd Tryz.prog ([])) (h:∀(l:List (List D)),Ah.dp l->y0j l):Ah.ok Tryz.prog 143:=qY mixed ([]) hG 0 (λ(l:List (List D))=>[]) (λ(l:List (List D))=>[]) [] Tryz.func143 (by kernel_rfl) (by kernel_rfl) (by kernel_rfl) (λ_=>by kernel_rfl) (λ(l:List (List D)) hc=>Eq.mp (y6p l) (h l hc))
def V7 (a:ld):Prop:=(cB a)/\gh.iL (↑a.n:Int) a.m=0
def ZO (a:ld) (b:Vs):Prop:=dx (dl ((↑a.n:Int))/\a.F.q=b.q/\ab 10 (ag zA a.F.v)=ab 10 (ag zA b.v)/\ag zO a.F.H=ag zO b.H/\True)
def y1n (i:ld):Prop:=
 ∃(a:Vs),dl ((↑i.n:Int))/\a.q=i.s.q/\ab 10 (ag zA a.v)=dQ i.s.v/\ag zO a.H=ag zO i.s.H/\∃(b:Vs->Prop),∃(c:Vs->Nat),b a/\∀(d:Vs),b d->dp (decide ((tY d)>0)) (((0:Int)<=(0:Int)/\0<(tY d))/\∃(e:Int),zD (ag zO d.H) (ax 0) 0 1=av [dI e]/\dp (decide (ao.wrap (e-1)<=d.q)) (((0:Int)<=(0:Int)/\0<(tY d))/\∃(f:Int),∃(g:Int),∃(h:Int),∃(j:Int),∃(k:Int),∃(l:Int),∃(m:Bool),zD (ag zO d.H) (ax 0) 0 7=av [dI f,dI g,dI h,dI j,dI k,dI l,D.v (.bool m)]/\dp (ao.wrap (f-1)==d.q) (∃(n:ld),n.m.seq=f/\n.m.inst=g/\n.m.side=h/\n.m.dm=j/\n.m.dr=k/\n.m.count=l/\n.m.fx=m/\(↑n.n:Int)=(↑i.n:Int)/\QH n.s d ((V7 n)/\fa (((0:Int)<=(1:Int)/\1<=(↑(ag zO n.s.H).length:Int))/\∃(q:List (List D)),q=am (ax 1) (ag zO n.s.H)/\q.length<=1000000/\fa (∃(s:Vs),(↑i.n:Int)=(↑n.n:Int)/\s.q=n.m.seq/\ab 10 (ag zA s.v)=ab 10 (ag zA (sm n.s.v n.m))/\ag zO s.H=q/\b s/\c s<c d/\dl (dQ i.s.v))))) (((0:Int)<=(1:Int)/\1<=(tY d))/\∃(n:List (List D)),n=am (ax 1) (ag zO d.H)/\n.length<=1000000/\fa (∃(q:Vs),dl ((↑i.n:Int))/\q.q=d.q/\ab 10 (ag zA q.v)=ab 10 (ag zA d.v)/\ag zO q.H=n/\b q/\c q<c d/\dl (dQ i.s.v)))) (ZO i d)) (ZO i d)
def sG (a:FZ):=(aM ap (ap.wrap (ao.wrap ((↑a.a:Int)+(↑a.b:Int)))) 1)
def Zr (a:FZ) (b:FZ->Prop) (c:FZ->Nat) (d:Kd):Prop:=∃(e:FZ),(↑e.a:Int)=(↑a.a:Int)/\(↑e.b:Int)=ao.wrap (sG a)/\b e/\c e<c a/\dl (rP d.H)
def nA (a:Kd):=(↑(ag zO a.H).length:Int)
def xBh (i:Kd):Prop:=
 ∃(a:FZ),(↑a.a:Int)=0/\(↑a.b:Int)=(nA i)/\∃(b:FZ->Prop),∃(c:FZ->Nat),b a/\∀(d:FZ),b d->dp (decide ((↑d.a:Int)<(↑d.b:Int))) ((0:Int)<=(1:Int)/\(0<=ao.wrap (sG d)/\ao.wrap (sG d)<(nA i))/\∃(e:Int),∃(f:Int),∃(g:Int),∃(h:Int),∃(j:Int),∃(k:Int),∃(l:Bool),zD (ag zO i.H) (ao.wrap (sG d)).toNat 0 7=av [dI e,dI f,dI g,dI h,dI j,dI k,D.v (.bool l)]/\dp (decide (e<i.n)) (∃(m:FZ),(↑m.a:Int)=ao.wrap (ao.wrap (sG d)+1)/\(↑m.b:Int)=(↑d.b:Int)/\b m/\c m<c d/\dl (rP i.H)) (dp (decide (e>i.n)) (Zr d b c i) (Zr d b c i))) (dp (decide ((↑d.a:Int)<(nA i))) ((0<=(↑d.a:Int)/\(↑d.a:Int)<(nA i))/\∃(e:Int),∃(f:Int),∃(g:Int),∃(h:Int),∃(j:Int),∃(k:Int),∃(l:Bool),zD (ag zO i.H) (↑d.a:Int).toNat 0 7=av [dI e,dI f,dI g,dI h,dI j,dI k,D.v (.bool l)]/\dp (decide (e<i.n)) (dx ((↑(aS i.H i.n):Int)=(↑d.a:Int)/\Ft i.H i.n=((-1:Int)==(0:Int))/\dl (ag zO i.H)/\True)) (dp (decide (e>i.n)) (dx ((↑(aS i.H i.n):Int)=(↑d.a:Int)/\Ft i.H i.n=((1:Int)==(0:Int))/\dl (ag zO i.H)/\True)) (dx ((↑(aS i.H i.n):Int)=(↑d.a:Int)/\Ft i.H i.n=((0:Int)==(0:Int))/\dl (ag zO i.H)/\True)))) (dx ((↑(aS i.H i.n):Int)=(↑d.a:Int)/\Ft i.H i.n=ar/\dl (ag zO i.H)/\True)))
def zFi (a:Bool->Prop) (b:Bool) (c:List UInt8) (d:ld):Prop:=a b/\dl (ac [V.d (dI ((xL c).fst.seq)),V.d (dI ((xL c).fst.inst)),V.d (dI ((xL c).fst.side)),V.d (dI ((xL c).fst.dm)),V.d (dI ((xL c).fst.dr)),V.d (dI ((xL c).fst.count)),V.d (D.v (.bool (xL c).fst.fx))] 78)/\dl (Ru (↑d.n:Int) d.s.q 0 1 2)/\dl (dQ d.s.v)/\dl (rP d.s.H)
@[reducible] def OM (a:ld)(R:Prop):Prop:=(↑a.n:Int)=(↑a.n:Int)/\a.T.q=a.s.q/\ab 10 (ag zA a.T.v)=dQ a.s.v/\R
def zGx (a:ld) (b:Kd):Prop:=OM a (ag zO a.T.H=ag zO b.H/\True)
def zHa (a:ld) (b:Kd):Prop:=dx (a.W=33/\zGx a b)
def zGg (a:ld):Prop:=OM a (ag zO a.T.H=ag zO a.s.H/\True)
@[reducible] def Qa8 (a:gh)(b:List UInt8)(R:Prop):Prop:=a.seq=(xL b).fst.seq/\a.inst=(xL b).fst.inst/\a.side=(xL b).fst.side/\a.dm=(xL b).fst.dm/\a.dr=(xL b).fst.dr/\a.count=(xL b).fst.count/\a.fx=(xL b).fst.fx/\R
def yPa (i:ld):Prop:=
 ∃(a:List UInt8),bE a=bE i.b/\wo a/\fa (dp ((xL a).snd !=0) (dx (i.W=(xL a).snd/\zGg i)) (∃(c:Bool),∃(d:Bool->Prop),dp (decide ((xL a).fst.seq<1)) (∃(e:Bool),e=au/\zFi d e a i) (∃(e:Me),e.k=(↑i.n:Int)/\Qa8 e.m a (True/\fa (∃(g:Bool),g=(gh.iL e.k e.m !=0)/\zFi d g a i)))/\∀(e:Bool),d e->dp e (dx (i.W=12/\zGg i)) (∃(f:Kd),f.n=(xL a).fst.seq/\ag zO f.H=ag zO i.s.H/\(Jj f.H/\f.H.length<=1000000)/\fa (dp (decide ((xL a).fst.seq<=i.s.q)) (zHa i f) (dp (Ft f.H f.n) (zHa i f) (dp (ao.wrap ((xL a).fst.seq-1)==i.s.q) (∃(h:ld),Qa8 h.m a ((↑h.n:Int)=(↑i.n:Int)/\h.s.q=i.s.q/\ab 10 (ag zA h.s.v)=dQ i.s.v/\ag zO h.s.H=ag zO f.H/\(V7 h)/\fa (∃(k:ld),(↑k.n:Int)=(↑h.n:Int)/\k.s.q=h.m.seq/\ab 10 (ag zA k.s.v)=ab 10 (ag zA (sm h.s.v h.m))/\ag zO k.s.H=ag zO h.s.H/\(cB k)/\fa (dx (i.W=0/\(↑i.n:Int)=(↑k.n:Int)/\i.T.q=k.F.q/\ab 10 (ag zA i.T.v)=ab 10 (ag zA k.F.v)/\ag zO i.T.H=ag zO k.F.H/\True))))) (dp (decide ((nA f)>=4096)) (dx (i.W=13/\zGx i f)) (True/\∃(h:Bp),(↑h.i:Int)=(↑(aS f.H f.n):Int)/\h.ez=ag zO f.H/\[h.el]=[[dI ((xL a).fst.seq),dI ((xL a).fst.inst),dI ((xL a).fst.side),dI ((xL a).fst.dm),dI ((xL a).fst.dr),dI ((xL a).fst.count),D.v (.bool (xL a).fst.fx)]]/\(h.i<=h.ez.length/\(h.ez.length+1)*(56:Nat)<=(140737488355328:Nat))/\fa (dx (i.W=32/\OM i (ag zO i.T.H=List.take h.i h.ez++h.el::am h.i h.ez/\True)))))))))))
def eU (a:ld):Prop:=(↑a.n:Int)=(↑a.n:Int)/\a.S.q=a.s.q/\ab 10 (ag zA a.S.v)=dQ a.s.v/\ag zO a.S.H=ag zO a.s.H/\True
def zGy (a:ld):Prop:=dx (a.Z=12/\eU a)
def yLq (i:ld):Prop:=
 ∃(a:List UInt8),bE a=bE i.b/\a.length<=1099511627776/\fa (dp (lU a !=0) (dx (i.Z=lU a/\eU i)) (dp ((↑(ag zA (bG a)).length:Int) !=(↑i.n:Int)) (zGy i) (dp (decide (pI a<0)) (zGy i) (dp (decide (pI a<i.s.q)) (dx (i.Z=33/\eU i)) (∃(c:ld),(↑c.n:Int)=(↑i.n:Int)/\c.s.q=pI a/\ab 10 (ag zA c.s.v)=ab 10 (ag zA (bG a))/\ag zO c.s.H=ag zO i.s.H/\(cB c)/\fa (dx (i.Z=0/\(↑i.n:Int)=(↑c.n:Int)/\i.S.q=c.F.q/\ab 10 (ag zA i.S.v)=ab 10 (ag zA c.F.v)/\ag zO i.S.H=ag zO c.F.H/\True)))))))
def yOp (i:ld):Prop:=
 ∃(a:Vw),ag zA a=ag zA i.s.v/\(ak a<=1000000/\rK a)/\fa (dx (ag zA i.s.v=ag zA a/\dl ((↑i.n:Int))/\dl i.s.q/\ab 10 (ag zA i.s.v)=dQ i.s.v/\dl (ag zO i.s.H)/\True))
def z4q:∀{H:List gh} {n:Int} {a:Nat},a<=H.length->(∀k l,H[k]? =av l->k<a->l.seq<n)->(∀k l,H[k]? =av l->a<=k->n<=l.seq)->aS H n=a
 |[],n,a,h,_,_=>by
  have:a=0:=by simpa using h
  subst this;rfl
 |l::H,n,0,_,_,h2=>by
  have:=h2 0 l rfl (lh _);rw[aS,List.takeWhile_cons_of_neg (by simp;omega)];rfl
 |l::H,n,a+1,h,h1,h2=>by
  have h3:=h1 0 l rfl oM;have:=z4q (H:=H) (n:=n) (a:=a) (by simpa using h) (λk l' hk gn=>h1 (k+1) l' hk oM) (λk l' hk hle=>h2 (k+1) l' hk oM);rw[aS]at this;rw[aS,List.takeWhile_cons_of_pos (by simpa using h3),iC,this]
def xEi (H:List gh) (n:Int):aS H n<=H.length:=by
 rw[aS];exact(List.takeWhile_sublist _).length_le
def yBe {H:List gh} (h:Jj H) {i j:Nat} {a b:gh} (ha:H[i]? =av a) (hb:H[j]? =av b) (J2:i<j):a.seq<b.seq:=by
 obtain⟨hi,rfl⟩:=jf.1 ha;obtain⟨hj,rfl⟩:=jf.1 hb;exact List.pairwise_iff_getElem.1 h i j hi hj J2
def yRb {H:List gh} (h:Jj H) {n:Int} {a:Nat} {l:gh} (hl:H[a]? =av l) (h1:∀k l,H[k]? =av l->k<a->l.seq<n) (h2:∀k l,H[k]? =av l->a<=k->n<=l.seq):Ft H n=decide (l.seq=n):=by
 rw[Ft,Dc,List.any_eq_true];constructor
 ·rintro⟨y,hy,hyn⟩;obtain⟨k,hk⟩:=N7 hy;have hyn:y.seq=n:=qp hyn;refine jk ?_;rcases Nat.lt_trichotomy k a with c|c|c
  ·have:=h1 k y hk c;omega
  ·subst c;rw[hl]at hk;cases hk;exact hyn
  ·have:=yBe h hl hk c;have:=h2 a l hl (lh _);omega
 ·intro e;exact⟨l,ku hl,e⟩
def yTq {H:List gh} {n:Int} (h1:∀l∈H,l.seq<n):Ft H n=ar:=by
 rw[Ft,N0];intro y hy;have:=h1 y hy;simp;omega
def z7y (s:Int) (L:List Lv) (m:Lv):(jQ s L m).length<=L.length+1:=by
 rw[jQ];split
 ·split
  ·rw[List.length_eraseIdx];split<;>omega
  ·rw[qm];omega
 ·split
  ·rw[iv,iC,ng,o8];omega
  ·omega
def z6p (s:Int) (x:Sd) (m:gh):(A1 s x m).levels.length<=x.levels.length+1:=by
 rw[A1];split
 ·split
  ·exact Nat.le_succ _
  ·exact Nat.le_succ _
 ·exact z7y s x.levels m.lv
def yZd {v:Vw} {m:gh} {q:Sd×Sd} (h:q∈sm v m):q∈v\/∃p∈v,q=if m.side=1 then(A1 1 p.1 m,p.2)else(p.1,A1 2 p.2 m):=by
 rw[sm]at h;obtain⟨k,hk⟩:=Bt.1 h;rw[FA]at hk;cases e:v[k]? with
 |none=>rw[e]at hk;cases hk
 |some x=>
  rw[e]at hk;have hx:=ku e;have hk:(if m.inst.toNat=k then(if m.side=1 then(A1 1 x.1 m,x.2)else(x.1,A1 2 x.2 m))else x)=q:=Option.some.inj hk;split at hk
  ·exact .inr ⟨x,hx,hk.symm⟩
  ·exact .inl (hk▸hx)
def yGt {n:Nat} {v:Vw} (m:gh) (h:A6 n v):A6 (n+1) (sm v m):=λq hq=>by
 rcases yZd hq with hq|⟨p,hp,rfl⟩
 ·have:=h q hq;omega
 ·obtain⟨h1,h2⟩:=h p hp;split
  ·exact⟨vz (z6p 1 p.1 m) oM,Rc h2⟩
  ·exact⟨Rc h1,vz (z6p 2 p.2 m) oM⟩
def yFx (v:Vw) (m:gh):(sm v m).length=v.length:=by rw[sm,List.length_modify]
def z8q {n k:Nat} {v:Vw} (h:A6 n v) (hn:n<=1000000) (hl:v.length=k) (hk:k<=1000):xX v:=zYr h hn oM
def y3l {v:Vw} {k:Nat} {b:Sd×Sd} (h:v[k]? =av b):zD (v.map zA) k 0 1=av [D.ro 3 (b.1.levels.map ic)]:=ju h (by simp[zA]) rfl
def y7o {v:Vw} {k:Nat} {b:Sd×Sd} (h:v[k]? =av b):zD (v.map zA) k 5 1=av [D.ro 3 (b.2.levels.map ic)]:=ju h (by simp[zA]) rfl
def zSc {α:Type} {f:α->List D} {l:List α} {i g:Nat} {x:α} {ds:List D} (hi:l[i]? =av x) (hh:(f x).take g++(ds++(f x).drop (g+ds.length))=f x):zJ (l.map f) i g ds=l.map f:=by
 rw[yM hi hh];obtain⟨h,rfl⟩:=jf.1 hi;rw[List.set_getElem_self h]
def xIq (v:Vw) (h:Tj.dp v):xBq v:=by
 obtain⟨hl,hs⟩:v.length<=1000000/\xX v:=h;have uk:(v.map zA).length=v.length:=gy _;unfold xBq fa dx dM VA Pw ob qN;refine⟨v.map zA,rfl,by rw[uk];omega,λ_ _=>⟨0,rfl,rfl,λk=>k<=v.length,λk=>v.length-k,mi _,λk hk=>zH (λc=> ?_) (λ_=>⟨(),rfl,trivial⟩)⟩⟩;obtain⟨b,hb⟩:=z6 (l:=v) (i:=k) oM;obtain⟨qc,my⟩:=hs.2 b (ku hb);have Au:(b.1.levels.map ic).length=b.1.levels.length:=gy _;have oU:(b.2.levels.map ic).length=b.2.levels.length:=gy _;have e1:zJ (v.map zA) (k:Int).toNat 0 [D.ro 3 (b.1.levels.map ic)]=v.map zA:=zSc hb rfl;have e2:zJ (v.map zA) (k:Int).toNat 5 [D.ro 3 (b.2.levels.map ic)]=v.map zA:=zSc hb rfl;refine⟨⟨oM,oM⟩,_,y3l hb,⟨oM,oM⟩,_,rfl,by rw[Au];omega,λ_ _=>⟨⟨⟨oM,oM⟩,rfl⟩,trivial,oM,?_⟩⟩;rw[e1];refine⟨⟨oM,oM⟩,_,y7o hb,⟨oM,oM⟩,_,rfl,by rw[oU];omega,λ_ _=>⟨⟨⟨oM,oM⟩,rfl⟩,trivial,oM,?_⟩⟩;rw[e2];exact⟨k+1,qy oM,rfl,oM,Z9,rfl,rfl⟩
def y9n:Tj.ok Tryz.prog 99:=gu mixed (dw yFb (dw yDh fg)) 0 (λ_=>[]) (λv=>xGf v) [] Tryz.func99 xIq
def IW:Ke.ok Tryz.prog 32:=gu (V:=y3e) mixed (dw mV (dw fW fg)) 0 (λ_=>[]) (λ_=>[]) [] Tryz.func32 λ(p:ff) h=>by
 obtain⟨hc,hs⟩:p.check=0/\p.small:=h;have hcb:=xF p;unfold y3e Qb fa dx zW o7 dI;exact⟨p,oF (iJ ⟨rfl,hs,λ_ _=>Cv.dp.mk (λe=>absurd e (by rw[hc];simp)) (λ_=>⟨p,oF (iJ ⟨rfl,hs,λ_ _=>⟨⟨oM,oM,oM,oM⟩,(),rfl,rfl,rfl,by rw[Aq,Rf];rfl,rfl,trivial⟩⟩)⟩)⟩)⟩
def ySz {i:ld} (h:i.ok):i.s.v.length<=1000000/\xX i.s.v:=⟨by have:=h.1.1;omega,z8q h.1.2.1 (by have:=h.1.2.2;omega) h.1.1.1 h.1.1.2⟩
def yTm:aaa.ok Tryz.prog 89:=gu (V:=xEr) mixed (dw yRg fg) 0 (λ_=>[]) (λ_=>[]) [] Tryz.func89 λ(i:ld) h=>by
 obtain⟨h,hf⟩:i.ok/\i.m.iL i.n=0:=h;have hs:=ySz h;have hn:=h.1.1.1;unfold xEr Q4 fa dx qK;exact⟨⟨i.s.v,i.m⟩,oF ⟨rfl,⟨by dsimp only;rw[hn];exact hf,hs⟩,λ_ _=>⟨(),mn trivial⟩⟩⟩
def yYq:Ah.ok Tryz.prog 143:=y7x fg λl h=>λb hb=>by
 have h:l.length<=1000000:=h;cases b with
 |true=>exact⟨(),hb rfl,trivial⟩
 |false=>exact⟨oM,(),(xi _).symm,trivial⟩
def xAx {M:List gh} {k:Nat} {m:gh} (h:M[k]? =av m):zD (M.map zO) k 0 1=av [D.v (.int .i64 m.seq)]:=ju h (by simp[zO]) rfl
def yKx (v:Vw) (q:Int) (m:gh) (H:List gh):D5 v q (m::H)=if ao.wrap (m.seq-1)<=q then(if ao.wrap (m.seq-1)=q then D5 (sm v m) m.seq H else D5 v q H)else⟨v,q,m::H⟩:=by rw[D5]
def xBi (i:ld) (h:Kf.dp i):y1n i:=by
 obtain⟨n,⟨v,q,H⟩,m0,b0,e⟩:=i;obtain⟨⟨⟨hv,hn⟩,hL,he⟩,hf⟩:((v.length=n/\n<=1000)/\A6 e v/\e+H.length<=1000000)/\∀m∈H,m.iL n=0:=h;unfold y1n QH fa ZO dx V7 cB tY dI;dsimp only;refine⟨⟨v,q,H⟩,iJ ⟨rfl,λj=>D5 j.v j.q j.H=D5 v q H/\j.v.length=n/\(∃a,A6 a j.v/\a+j.H.length<=1000000)/\(∀m∈j.H,m.iL n=0),λj=>j.H.length,⟨rfl,hv,⟨e,hL,he⟩,hf⟩,?_⟩⟩;rintro⟨w,p,K⟩ ⟨h1,h2,⟨a,h3,h4⟩,h5⟩;dsimp only at h1 h2 h3 h4 h5 ⊢;have uk:(K.map zO).length=K.length:=gy _;have out:∀s:Vs,D5 v q H=s->(ld.mk n ⟨v,q,H⟩ m0 b0 e).F=s:=λs e=>e
 refine zH (λc=> ?_) (λc=> ?_)
 ·cases K with
  |nil=>exact absurd c (by simp)
  |cons m K=>
   rw[yKx]at h1;rw[iC]at h4 uk;have hmf:=h5 m iS;have h5':∀y∈K,y.iL n=0:=λy hy=>h5 y (jc _ hy)
   have hk:(K.map zO).length=K.length:=gy _;refine⟨⟨Z8,oM⟩,m.seq,xAx rfl,zH (λc1=> ?_) (λc1=> ?_)⟩
   ·rw[fc c1]at h1;refine⟨⟨Z8,oM⟩,_,_,_,_,_,_,_,Xh rfl,Cv.dp.mk (λc2=> ?_) (λc2=> ?_)⟩
    ·rw[fc (Hr.1 c2)]at h1;exact⟨⟨n,⟨w,p,m::K⟩,m,[],a⟩,oF (iJ ⟨rfl,⟨⟨⟨⟨h2,hn⟩,h3,by dsimp only;rw[iC];omega⟩,h5⟩,hmf⟩,λ_ _=>⟨⟨Z8,Z9⟩,K.map zO,rfl,oM,λ_ _=>⟨⟨sm w m,m.seq,K⟩,iJ ⟨rfl,⟨h1,by dsimp only;rw[yFx];exact h2,⟨a+1,yGt m h3,Z9⟩,h5'⟩,by dsimp only;rw[iC];omega,rfl⟩⟩⟩⟩)⟩
    ·rw[eg (by simpa using c2)]at h1;exact⟨⟨Z8,oM⟩,K.map zO,rfl,oM,λ_ _=>⟨⟨w,p,K⟩,iJ ⟨rfl,⟨h1,h2,⟨a,h3,Z9⟩,h5'⟩,by dsimp only;rw[iC];omega,rfl⟩⟩⟩
   ·rw[eg c1]at h1;rw[out _ h1.symm];exact⟨(),mn trivial⟩
 ·obtain rfl:K=[]:=List.length_eq_zero_iff.1 oM;have h1:(⟨w,p,[]⟩:Vs)=D5 v q H:=h1;rw[out _ h1.symm];exact⟨(),mn trivial⟩
def yGh:Kf.ok Tryz.prog 90:=gu mixed (dw yTm (dw yYq fg)) 0 (λ_=>[]) (λi=>xCa i) [] Tryz.func90 xBi
def y3z {a b:Nat} (h:a+b<=4000000):ao.wrap (aM ap (ap.wrap (ao.wrap ((a:Int)+(b:Int)))) 1)=(((a+b) / 2:Nat):Int):=by
 have w1:ao.wrap ((a:Int)+(b:Int))=(a:Int)+(b:Int):=iq oM;have e:aM .u64 ((a:Int)+(b:Int)) 1=((a:Int)+(b:Int)).fdiv 2:=rfl;rw[w1,B7 (by omega),e,Int.fdiv_eq_ediv_of_nonneg _ (by decide),iq (by omega)];omega
def xHt (i:Kd) (h:Tt.dp i):xBh i:=by
 obtain⟨H,n⟩:=i;obtain⟨hs,hl⟩:Jj H/\H.length<=1000000:=h;have uk:(H.map zO).length=H.length:=gy _;unfold xBh dx nA Zr sG dI;dsimp only;refine⟨⟨0,H.length⟩,rfl,by rw[uk],λj=>(j.a<=j.b/\j.b<=H.length)/\(∀k l,H[k]? =av l->k<j.a->l.seq<n)/\(∀k l,H[k]? =av l->j.b<=k->n<=l.seq),λj=>j.b-j.a,⟨⟨mi _,lh _⟩,λk l _ hk=>absurd hk (Nat.not_lt_zero _),λk l hk hle=>by rw[ud hle]at hk;cases hk⟩,?_⟩;rintro⟨a,b⟩ ⟨⟨Ds,hb⟩,h1,h2⟩;dsimp only at Ds hb h1 h2 ⊢;rw[y3z (by omega)];refine zH (λc=> ?_) (λc=> ?_)
 ·obtain⟨l,hk⟩:=z6 (l:=H) (i:=(a+b) / 2) oM;have up:¬l.seq<n->∀k y,H[k]? =av y->(a+b) / 2<=k->n<=y.seq:=λc1 k y hy hle=>by
   by_cases ck:k=(a+b) / 2
   ·subst ck;rw[hk]at hy;cases hy;omega
   ·have:=yBe hs hk hy oM;omega
  refine⟨Z8,⟨oM,oM⟩,_,_,_,_,_,_,_,Xh hk,zH (λc1=>⟨⟨(a+b) / 2+1,b⟩,qy oM,rfl,⟨⟨Z9,hb⟩,λk y hy gn=> ?_,h2⟩,Z9,rfl⟩) (λc1=>zH (λc2=>⟨⟨a,(a+b) / 2⟩,rfl,rfl,⟨⟨Z9,Z9⟩,h1,up c1⟩,Z9,rfl⟩) (λc2=>⟨⟨a,(a+b) / 2⟩,rfl,rfl,⟨⟨Z9,Z9⟩,h1,up c1⟩,Z9,rfl⟩))⟩;dsimp only at gn;by_cases ck:k=(a+b) / 2
  ·subst ck;rw[hk]at hy;cases hy;omega
  ·have:=yBe hs hy hk oM;omega
 ·obtain rfl:a=b:=by omega
  have hp:aS H n=a:=z4q hb h1 h2;refine zH (λc1=> ?_) (λc1=>⟨(),by rw[hp],yTq λl hl=> ?_,rfl,trivial⟩)
  ·obtain⟨l,hk⟩:=z6 (l:=H) (i:=a) oM;have hh:=yRb hs hk h1 h2;exact⟨⟨oM,oM⟩,_,_,_,_,_,_,_,Xh hk,zH (λc2=>⟨(),by rw[hp],by rw[hh,jt (by omega)];rfl,rfl,trivial⟩) (λc2=>zH (λc3=>⟨(),by rw[hp],by rw[hh,jt (by omega)];rfl,rfl,trivial⟩) (λc3=>⟨(),by rw[hp],by rw[hh,jk (by omega)];rfl,rfl,trivial⟩))⟩
  ·obtain⟨k,hk⟩:=Bt.1 hl;have:=(jf.1 hk).1;exact h1 k l hk oM
def y8a:Tt.ok Tryz.prog 87:=gu mixed fg 1 (λ_=>[]) (λ_=>xHf) [] Tryz.func87 xHt
def zWd:vS Tryz.prog 38=av (wY,7,56,#[.int .i64 0,.int .i64 0,.int .i64 0,.int .i64 0,.int .i64 0,.int .i64 0,.bool ar]):=by kernel_rfl
def yWo:TO.ok Tryz.prog 91:=
 AV (tS:=38) (tI:=3) (fO:=144) (fR:=145) (z:= #[.int .i64 0,.int .i64 0,.int .i64 0,.int .i64 0,.int .i64 0,.int .i64 0,.bool ar]) mixed Tryz.func91 rfl (by kernel_rfl) (by kernel_rfl) (by kernel_rfl) (by kernel_rfl) zWd rfl Z8 Z8 (by kernel_rfl) (by kernel_rfl)
  (z2j (tS:=38) (tB:=4) Tryz.func144 (by kernel_rfl) (by kernel_rfl) (by kernel_rfl) (by kernel_rfl) zWd) (λs sn sk i v vn vk w R=>by kernel_rfl)
def y7u (i:ld) (h:CZ.dp i):yPa i:=by
 obtain⟨n,⟨v,q,H⟩,m0,b,e⟩:=i;obtain⟨h0,hs,Ax,OC⟩:ld.ok ⟨n,⟨v,q,H⟩,m0,b,e⟩/\Jj H/\b.length<=1000000/\e+H.length<=900000:=h;obtain⟨⟨⟨hv,hn⟩,hL,he⟩,hf⟩:((v.length=n/\n<=1000)/\A6 e v/\e+H.length<=1000000)/\∀m∈H,m.iL n=0:=id h0;have uk:(H.map zO).length=H.length:=gy _;have Sk:= @yPk b;unfold yPa Qa8 OM fa dx zGg OM zHa dx zGx OM zFi V7 cB nA dI;dsimp only;refine⟨b,rfl,by show b.length<=_;omega,λ_ _=> ?_⟩;have eB:Oa n ⟨v,q,H⟩ b=if(xL b).2≠0 then(⟨v,q,H⟩,(xL b).2)else Rv n ⟨v,q,H⟩ (xL b).1:=rfl;generalize xL b=X at Sk eB ⊢;obtain⟨m,y⟩:=X;dsimp only at Sk eB ⊢;have out:∀(s:Vs) (w:Int),Oa n ⟨v,q,H⟩ b=(s,w)->(ld.mk n ⟨v,q,H⟩ m0 b e).T=s/\(ld.mk n ⟨v,q,H⟩ m0 b e).W=w:=λs w z=>by rw[ld.T,ld.W];dsimp only;rw[z];exact⟨rfl,rfl⟩
 refine Cv.dp.mk (λc=> ?_) (λc=> ?_)
 ·obtain⟨z1,z2⟩:=out ⟨v,q,H⟩ y (by rw[eB,fc (by simpa using c)]);rw[z1,z2];exact⟨(),tg trivial⟩
 have c:y=0:=by simpa using c
 rw[eg (by omega)]at eB;obtain⟨_,Ml,_⟩:=Sk c;obtain⟨⟨r1,r2⟩,_⟩:=Ml;refine⟨au,λb=>b=decide (m.seq<1\/m.iL n≠0),zH (λc1=>⟨au,rfl,(jk (.inl c1)).symm,gg⟩) (λc1=>⟨⟨n,m⟩,oF ⟨rfl,trivial,λ_ _=>⟨_,rfl,?_,gg⟩⟩⟩),?_⟩
 ·dsimp only;rw[Dc,tq,bne_iff_ne];exact⟨.inr,λz=>z.resolve_left c1⟩
 rintro _ rfl;refine zH (λc1=> ?_) (λc1=> ?_)
 ·obtain⟨z1,z2⟩:=out ⟨v,q,H⟩ 12 (by rw[eB,Rv,fc c1]);rw[z1,z2];exact⟨(),tg trivial⟩
 rw[Rv,eg c1]at eB;have c2:1<=m.seq/\m.iL n=0:=by
  by_cases a:m.seq<1
  ·exact absurd (.inl a) c1
  ·by_cases b:m.iL n=0
   ·exact⟨oM,b⟩
   ·exact absurd (.inr b) c1
 refine⟨⟨H,m.seq⟩,rfl,rfl,⟨hs,Z9⟩,λ_ _=>zH (λc3=> ?_) (λc3=>Cv.dp.mk (λc4=> ?_) (λc4=> ?_))⟩
 ·obtain⟨z1,z2⟩:=out ⟨v,q,H⟩ 33 (by rw[eB,fc (.inl c3)]);rw[z1,z2];exact⟨(),tg trivial⟩
 ·obtain⟨z1,z2⟩:=out ⟨v,q,H⟩ 33 (by rw[eB,fc (.inr c4)]);rw[z1,z2];exact⟨(),tg trivial⟩
 rw[eg (by rintro(z|z);exact c3 z;rw[c4]at z;cases z)]at eB;have hwr:ao.wrap (m.seq-1)=m.seq-1:=iq oM;rw[hwr];dsimp only;refine Cv.dp.mk (λc5=> ?_) (λc5=>zH (λc6=> ?_) (λc6=> ?_))
 ·have c5:m.seq-1=q:=Hr.1 c5;rw[fc c5]at eB;obtain⟨z1,z2⟩:=out _ _ eB;rw[z1,z2];exact⟨⟨n,⟨v,q,H⟩,m,b,e⟩,oF (iJ ⟨rfl,⟨h0,c2.2⟩,λ_ _=>⟨⟨n,⟨sm v m,m.seq,H⟩,m,b,e+1⟩,iJ ⟨rfl,⟨⟨⟨by dsimp only;rw[yFx];exact hv,hn⟩,yGt m hL,Z9⟩,hf⟩,λ_ _=>⟨(),tg trivial⟩⟩⟩⟩)⟩
 ·have c5:¬m.seq-1=q:=λz=>by rw[z]at c5;simp at c5
  rw[eg c5,fc (by dsimp only;omega)]at eB;obtain⟨z1,z2⟩:=out _ _ eB;rw[z1,z2];exact⟨(),tg trivial⟩
 ·have c5:¬m.seq-1=q:=λz=>by rw[z]at c5;simp at c5
  rw[eg c5,eg (by dsimp only;omega)]at eB;obtain⟨z1,z2⟩:=out _ _ eB;have zi:=xEi H m.seq;rw[z1,z2];exact⟨trivial,⟨H.map zO,zO m,aS H m.seq⟩,rfl,rfl,rfl,⟨Z9,Z9⟩,λ_ _=>⟨(),iJ ⟨rfl,by rw[jl,jj,D9,Fx],trivial⟩⟩⟩
def G4:CZ.ok Tryz.prog 35:=gu mixed (dw yNh (dw Y9 (dw y8a (dw yTm (dw yGh (dw yWo fg)))))) 0 (λ_=>[(16,bj 28)]) (λ_=>[]) [] Tryz.func35 y7u
def G5:Gf.ok Tryz.prog 36:=gu (V:=yLq) mixed (dw y6k (dw yGh fg)) 0 (λ_=>[]) (λ_=>[]) [] Tryz.func36 λ(i:ld) h=>by
 obtain⟨n,⟨v,q,H⟩,m0,b,e⟩:=i;obtain⟨h0,hL2,Ax⟩:ld.ok ⟨n,⟨v,q,H⟩,m0,b,e⟩/\A6 e (bG b)/\b.length<=1099511627776:=h;obtain⟨⟨⟨hv,hn⟩,hL,he⟩,hf⟩:((v.length=n/\n<=1000)/\A6 e v/\e+H.length<=1000000)/\∀m∈H,m.iL n=0:=h0;have uk:((bG b).map zA).length=(bG b).length:=gy _;unfold yLq fa dx zGy dx eU cB;dsimp only;have out:∀(s:Vs) (w:Int),Hy n ⟨v,q,H⟩ b=(s,w)->(ld.mk n ⟨v,q,H⟩ m0 b e).S=s/\(ld.mk n ⟨v,q,H⟩ m0 b e).Z=w:=λs w z=>by rw[ld.S,ld.Z];dsimp only;rw[z];exact⟨rfl,rfl⟩
 refine⟨b,rfl,Ax,λ_ _=> ?_⟩;rw[uk];refine Cv.dp.mk (λc=> ?_) (λc=>Cv.dp.mk (λc2=> ?_) (λc2=>zH (λc3=> ?_) (λc3=>zH (λc4=> ?_) (λc4=> ?_))))
 ·obtain⟨z1,z2⟩:=out ⟨v,q,H⟩ _ (by rw[Hy,fc (by simpa using c)]);rw[z1,z2];exact⟨(),tg trivial⟩
 all_goals have c:¬lU b≠0:=by simpa using c
 ·obtain⟨z1,z2⟩:=out ⟨v,q,H⟩ _ (by rw[Hy,eg c,fc (.inl (by simpa using c2))]);rw[z1,z2];exact⟨(),tg trivial⟩
 ·obtain⟨z1,z2⟩:=out ⟨v,q,H⟩ _ (by rw[Hy,eg c,fc (.inr c3)]);rw[z1,z2];exact⟨(),tg trivial⟩
 all_goals have c2:((bG b).length:Int)=(n:Int):=by simpa using c2
 all_goals have c5:¬(((bG b).length:Int)≠(n:Int)\/pI b<0):=λz=>z.elim (λz=>z c2) c3
 ·obtain⟨z1,z2⟩:=out ⟨v,q,H⟩ _ (by rw[Hy,eg c,eg c5,fc c4]);rw[z1,z2];exact⟨(),tg trivial⟩
 ·obtain⟨z1,z2⟩:=out _ _ (by rw[Hy,eg c,eg c5,eg c4]);rw[z1,z2];exact⟨⟨n,⟨bG b,pI b,H⟩,m0,b,e⟩,iJ ⟨rfl,⟨⟨⟨Z9,hn⟩,hL2,he⟩,hf⟩,λ_ _=>⟨(),tg trivial⟩⟩⟩
def G3:Ge.ok Tryz.prog 41:=gu (V:=yOp) mixed (dw y9n fg) 0 (λ_=>[]) (λ_=>[]) [] Tryz.func41 λ(i:ld) h=>by
 have hs:=ySz h;unfold yOp fa dx rK qK;exact⟨i.s.v,rfl,hs,λ_ _=>⟨(),tg trivial⟩⟩
def yVm (p:ff) (n:Nat) (s:Int):(((aj p.count ([]:List zK)).map qA).getD n jw).has s=ar:=by
 have e:((aj p.count ([]:List zK)).map qA).getD n jw=jw\/((aj p.count ([]:List zK)).map qA).getD n jw=qA []:=by
  rw[Rf,oc,Rm];split
  ·exact .inr rfl
  ·exact .inl rfl
 rcases e with h|h<;>rw[h,jv.has]<;>split<;>rfl
def z0k (p:ff) (a b:Co) (less:Bool):xm ((aj p.count ([]:List zK)).map qA) a b less=[]:=by
 rw[xm];rw[yVm];rfl
def z8y (p:ff) (n s:Int):xN ⟨p,(aj p.count ([]:List zK)).map qA,n⟩ s=[]:=by
 have h:kX ⟨p,(aj p.count ([]:List zK)).map qA,n⟩ s=[]:=by
  rw[kX];split
  ·rfl
  ·split
   ·rw[yW,z0k];rfl
   ·rw[jK,wH,List.flatMap_eq_nil_iff.2 λk _=>z0k p _ _ _,List.flatMap_eq_nil_iff.2 λk _=>z0k p _ _ _];rfl
 rw[xN,h];rfl
def yPh (p:ff):yD p (aj p.count [])=Aq p.count:=by
 have h:∀(n:Nat) (s:Int),tD p (aj p.count []) n s=⟨[],Ce,ar⟩:=λn s=>by
  have e:(aj p.count ([]:List zK)).getD n []=[]:=by
   rw[oc,Rm];split<;>rfl
  rw[tD,e,z8y];rfl
 rw[yD,Aq];have:(λn:Nat=>(tD p (aj p.count []) n 1,tD p (aj p.count []) n 2))=λ_=>(⟨[],Ce,ar⟩,⟨[],Ce,ar⟩):=by
  funext n;rw[h,h]
 rw[this,List.map_const',List.length_range]
def yNc {n:Nat} {m:VM} (h:Lq n m) (hn:n<=256) (q:Int):(Bv q m).form=0:=by
 have h1:=h.inst;have h2:=h.side;rw[gh.form];refine eg ?_;show ¬((m.inst:Int)<0\/255<(m.inst:Int)\/(m.side≠1/\m.side≠2));omega
def yVo {p:ff} {c:Vw} (h:AA p c) {L:List VM} (hL:L.length<=600000) (hm:∀m∈L,Lq p.count m) {k:Nat} {x:VM} (hx:L[k]? =av x) {q:Int} (hq:0<=q/\q<=1000000000000000000):
 Oa p.count ⟨tm c L k,q+k,[]⟩ (Bv (q+k+1) x).enc=(⟨tm c L (k+1),q+k+1,[]⟩,0)/\(Bv (q+k+1) x).form=0:=by
 have hk:=(jf.1 hx).1;have hv:=hm x (ku hx);have hc:=xF p;have hf:=yNc hv oM (q+k+1);obtain⟨f1,f2,f3⟩:=hv.f;have hr:(Bv (q+k+1) x).raw:=⟨⟨by show(_:Int)<=q+k+1;omega,by show q+k+1<=(_:Int);omega⟩,f1,f2,f3⟩
 have FQ:=yEs hv (q+k+1);obtain⟨_,_,_,n4⟩:=yYz h hL hm hx (q+k+1);have hs:(Bv (q+k+1) x).seq=q+k+1:=rfl;refine⟨?_,hf⟩;rw[Oa,yOm hf hr,eg (λz=>z rfl),Rv,eg (by rintro(z|z);rw[hs]at z;omega;exact z FQ),eg (by rw[hs];rintro(z|z);exact absurd z (by dsimp only;omega);cases z),fc (by rw[hs];dsimp only;omega),n4];rfl
def xAb {p:ff} {A B:Vw} (hA:AA p A) (hB:AA p B):tm A (xQ 0 A B) (xQ 0 A B).length=B:=by
 rw[yWp];exact z9b (hA.len.trans hB.len.symm) (Wk hA.r) (Wk hB.r) (List.Perm.refl _)
def yXa {p:ff} {A B:Vw} (hA:AA p A) (hB:AA p B):∀m∈xQ 0 A B,Lq p.count m:=λm hm=>by
 have:=yHi 0 A B (y3a hA) (y3a hB) m hm;rwa [nh,hA.len]at this
def yXt {p:ff} {v:Vw} (h:AA p v) {q:Int} (hq:0<=q/\q<=1000000000000000000) (w:Vw):Hy p.count ⟨w,0,[]⟩ (xW v q)=(⟨v,q,[]⟩,0)/\bG (xW v q)=v:=by
 obtain⟨h1,h2,h3⟩:=yKt h.f h.r (seq:=q) ⟨oM,oM⟩;refine⟨?_,h1⟩;rw[Hy,h1,h2,h3,eg (λz=>z rfl),eg (by rw[h.len];rintro(z|z);exact z rfl;omega),eg (by dsimp only;omega)];rfl
def y0d (v:Vw) (n:Int):(xW v n).length<=4000000:=by
 by_cases h:wF v
 ·have h1:=zOl h v.length;rw[mo (lh _)]at h1;rw[xW,fc h,kR];simp only[iv,y7,iC,rn];omega
 ·rw[xW,eg h];simp
def yWc (m:gh):m.enc.length<=35:=by
 rw[gh.enc];split
 ·exact mi _
 ·rw[yNo];decide
def yWy (n:Nat):A6 255 (Aq n):=λb hb=>by
 rw[Rp hb];exact⟨mi _,mi _⟩
def yWk (n:Nat):(Aq n).length=n:=FB
def y3q {p:ff} {c:Vw} (h:AA p c) {L:List VM} {k:Nat} (hk:k<=L.length):A6 (255+k) (tm c L k)/\(tm c L k).length=p.count:=by
 obtain⟨_,h2,h3⟩:=z8i (yTp (Wk h.r)) (Uq h) L k hk;exact⟨h2,h3.trans h.len⟩
end Sx
