/- Texts of ours. No condition. -/
import Derived.Test.YtfmobncdogfbmaaGreatQ8
set_option linter.all false
open Sx.fq renaming kq->ab,cells->ac,kj->ae,map->af,own->ag
open List renaming map->aj
open Go.IntKind renaming i64->ak
open Go.Value renaming int->am,string->ao
open Bool renaming false->ap,true->aq
open Option renaming some->ar,none->au
namespace Sx
set_option maxRecDepth 100000
open Go Cv Go.Proofs
def NU (a:dq):Prop:=Q0 a.a a (a.spare.length<=1000000)
def dV (a:gy):Prop:=a.eg.length<=1000000/\∀(b:dq),b∈a.eg->NU b
def kM (a:nv):Prop:=a.s.ga a.p a.B/\jh a.p a.B/\(0<=a.inst/\a.inst<(a.B.length:Int))/\1<=a.q/\a.q<=1000000
def zFt (a:nv):Prop:=∃(b:gy),Qa b.p a.s.p (QH b a.s ((dV b)/\ff (∃(d:nv),d.inst=a.inst/\zF d.sd=zF a.sd/\d.dm=a.dm/\d.q=a.q/\zE d.s=zE b/\(kM d)/\∀(e:gy),e.ga d.p d.r.B->dx (a.q-a.r.left=ak.wrap (a.q-d.r.left)/\zE a.s=zE b/\True))))
def vU (a:nv):Prop:=dx (a.q-a.r.left=0/\Qc a.s.p (dl (ae 160 dq 6 zR a.s.eg au)/\QJ a.s (True)))
def yGg (i:nv):Prop:=
 dp (decide (i.inst>=0)) (dp (decide (i.inst<(i.s.eg.length:Int))) (dp (zF i.sd==1) (dp (decide (i.q>=1)) (dp (!decide (i.q<=1000000)) (vU i) (zFt i)) (vU i)) (dp (zF i.sd==2) (dp (decide (i.q>=1)) (dp (!decide (i.q<=1000000)) (vU i) (zFt i)) (vU i)) (vU i))) (vU i)) (vU i)
def z5h (i:ze):Prop:=
 dx (((EJ i.B):Int)=((yV i.s.wh).length:Int)/\Qc i.s.p (dl (ae 160 dq 6 zR i.s.eg au)/\QJ i.s (True)))
def cH (a:Int×Int->Prop) (b:Int×Int) (c:Pa):Prop:=a b/\Bi c.p (dl (ab 1 (iE c.p.dt)))
def xC (a:Pa):=(dY a.p a.inst a.dm)
def z8b (i:Pa):Prop:=
 ∃(a:fj),Qb a i.p ((zV a)/\ff (dp (a.check !=0) (dx ((xC i).fst=0/\(xC i).snd.fst=0/\(xC i).snd.snd=1/\True)) (∃(c:aP),Qb c.p i.p (c.n=i.inst/\(j9 c)/\ff (dp (!(c.p.gp c.n).snd.snd) (dx ((xC i).fst=0/\(xC i).snd.fst=0/\(xC i).snd.snd=20/\True)) (∃(e:A2),Qb e.p i.p (e.a=i.inst/\e.b=i.dm/\(qQ e)/\ff (dp (e.p.dm e.a e.b !=0) (dx ((xC i).fst=0/\(xC i).snd.fst=0/\(xC i).snd.snd=e.p.dm e.a e.b/\True)) ((0<=(c.p.gp c.n).snd.fst/\(c.p.gp c.n).snd.fst<((iE i.p.settle).length:Int))/\∃(g:Int),zD (iE i.p.settle) (c.p.gp c.n).snd.fst.toNat 0 1=ar [dI g]/\∃(h:Int×Int),∃(j:Int×Int->Prop),dp (decide (ak.wrap (g+i.dm)>i.p.high)) (∃(k:Int×Int),k.fst=i.p.high/\k.snd=ak.wrap (i.p.high-i.dm)/\cH j k i) (∃(k:Int×Int),k.fst=ak.wrap (g+i.dm)/\k.snd=g/\cH j k i)/\∀(k:Int×Int),j k->∃(l:Int×Int),∃(m:Int×Int->Prop),dp (decide (k.fst<i.p.low)) (∃(n:Int×Int),n.fst=i.p.low/\n.snd=ak.wrap (i.p.low-i.dm)/\cH m n i) (∃(n:Int×Int),n.fst=k.fst/\n.snd=k.snd/\cH m n i)/\∀(n:Int×Int),m n->dx ((xC i).fst=n.fst/\(xC i).snd.fst=n.snd/\(xC i).snd.snd=0/\True))))))))))
def zGp (a:gy) (b:gy):Prop:=sb a.p.code=sb b.p.code/\True/\Qr a.p b.p (True/\True)
def yMv (i:nv):Prop:=
 ∃(a:gy),zE a=zE i.s/\(dV a)/\ff (∃(c:nv),c.inst=i.inst/\zF c.sd=zF i.sd/\c.dm=i.dm/\c.q=i.q/\zE c.s=zE a/\(kM c)/\∀(d:gy),d.ga c.p c.r.B->dp (c.r.left==0) (dx (nI i.p i.B i.inst i.sd i.dm i.q=ap/\zE i.s=zE a/\True)) (∃(e:gy),Qa e.p d.p (QH e d ((gS e)/\ff ((zGp e d)/\∃(g:Bool),zF g=zF i.sd/\True/\ff ((zGp e d)/\∃(j:Bq),Qo j.i d e (j.i.inst=i.inst/\zF j.s=zF !g/\(kK j)/\ff (∃(l:Nat),(l:Int)=0/\∃(m:Nat->Prop),∃(n:Nat->Nat),m l/\∀(p:Nat),m p->dp (decide ((p:Int)<(dD j))) ((0<=(p:Int)/\(p:Int)<(dD j))/\∃(q:Int),∃(r:Int),∃(s:Int),∃(t:Int),∃(u:Int),∃(v:Int),zD (wH j) (p:Int).toNat 0 6=ar [dI q,dI r,dI s,dI t,dI u,dI v]/\∃(w:SP),zF w.s=zF i.sd/\w.p=i.dm/\w.x=q/\True/\ff (dp (aZ w.s w.p w.x) (dx (nI i.p i.B i.inst i.sd i.dm i.q=aq/\zE i.s=zE a/\True)) (∃(y:Nat),QO y p m n (dl (ag 271 6 (wH j))/\dl (ac [V.d (f7 e),V.own 5,V.d (dI e.p.tick),V.d (dI e.p.low),V.d (dI e.p.high),V.d (dI e.p.wide),V.d (dI e.p.gm),V.d (dI e.p.top),V.d (dI e.p.least),V.d (dI e.p.part),V.own 6,V.own 3,V.mp 4] (159:TypeId))/\dl (ae 160 dq 6 zR e.eg au)/\dl (af (yV e.wh))/\wy e.p (dl (ab 6 (aj yC e.fm))/\wy d.p (dl (ag 205 4 (aj vB c.r.steps))/\zE a=zE a)))))) (dx (nI i.p i.B i.inst i.sd i.dm i.q=ap/\zE i.s=zE a/\True))))))))))
def gy.ga.small {s:gy} {p:fj} {B:Q_ zJ} (h:s.ga p B) (hb:jh p B):s.small:=by
 have:=y7 p;refine⟨by rw[h.bl,hb.bl];omega,λb hm=> ?_⟩;obtain⟨k,hk⟩:=Bv.1 hm;have gu:=(jm.1 hk).1;rw[h.bl]at gu;obtain⟨L,hL⟩:=zZ gu;obtain⟨Q,c,_⟩:=h.bk k b L hk hL;exact c.small
def yXb (i:nv) (h:DS.dp i):yGg i:=by
 have h':i.ok:=h;obtain⟨hR,hB,⟨h0,h1⟩,wm,ue⟩:=h';have zz:=hR.bl;have hl:=(sB (inst:=i.inst) (sd:=i.sd) (dm:=i.dm) _ i.q i.B (ju _) (hR.wf hB)).2.2 oM;have er:i.r=vN i.p i.B i.inst i.sd i.dm i.q:=rfl;unfold yGg zFt QH Qa ff dx kM dV NU Q0 vU QJ Qc dx;refine(λhT=>zG (λc=>zG (λc2=>Cv.dp.mk (λ_=>zG (λ_=>Cv.dp.mk (λe=>absurd ue (i9 e)) (λ_=>hT)) (λe=>absurd wm e)) (λe1=>Cv.dp.mk (λ_=>zG (λ_=>Cv.dp.mk (λe=>absurd ue (i9 e)) (λ_=>hT)) (λe=>absurd wm e)) (λe2=>by
  rcases Py i.sd with e|e
  ·rw[e]at e1;cases e1
  ·rw[e]at e2;cases e2))) (λc2=>absurd oM c2)) (λc=>absurd h0 c)) ?_
 refine⟨i.s,iA (nf ⟨rfl,hR.small hB,λ_ _=>⟨i,nf ⟨rfl,h,λo ho=>⟨(),?_,rfl,trivial⟩⟩⟩⟩)⟩;rw[iw (by rw[er];omega)]
def yLd:DS.ok Tryz.prog 100:=gx mixed (dw P4 (dw yBy fk)) 2 i6 i6 [0] Tryz.func100 yXb
def yTz (i:ze) (h:Ca.dp i):z5h i:=by
 obtain⟨hR,hB⟩:i.s.ga i.p i.B/\i.B.length<=1000:=h;unfold z5h QJ Qc dx;have e:(yV i.s.wh).length=EJ i.B:=by rw[yV,ia,hR.wh.length_eq,EJ]
 exact⟨(),by rw[e],gn⟩
def zTm:Ca.ok Tryz.prog 103:=gx mixed fk 0 i6 i6 [0] Tryz.func103 yTz
def Zq {p:fj} {i n:Int} (h:p.dm i n=0):0<=i/\i<p.count:=by
 rw[fj.dm]at h;split at h
 ·cases h
 split at h
 ·cases h
 omega
def yOt (i:Pa) (h:B7.dp i):z8b i:=by
 obtain⟨hc,hp,Sb⟩:i.p.check=0/\i.p.small/\yP i.dm:=h;unfold z8b Qb ff dx xC cH Bi zV o8 j9 o8 qQ o8 dI;refine⟨i.p,oL (iM ⟨rfl,hp,λ_ _=>Cv.dp.mk (λe=>by rw[hc]at e;cases e) (λ_=> ?_)⟩)⟩;refine⟨⟨i.p,i.inst⟩,iA (iM ⟨rfl,hp,λ_ _=>Cv.dp.mk (λe=> ?_) (λe=> ?_)⟩)⟩
 ·have e:(i.p.gp i.inst).2.2=ap:=i9 e
  have h0:dY i.p i.inst i.dm=(0,0,20):=by rw[dY,fh e]
  rw[h0];exact⟨(),iM trivial⟩
 have e:(i.p.gp i.inst).2.2=aq:=i9 e
 refine⟨⟨i.p,i.inst,i.dm⟩,iA (nf ⟨rfl,hp,λ_ _=>Cv.dp.mk (λe2=> ?_) (λe2=> ?_)⟩)⟩
 ·have e2:¬i.p.dm i.inst i.dm=0:=i9 e2
  have h0:dY i.p i.inst i.dm=(0,0,i.p.dm i.inst i.dm):=by rw[dY,ez (by rw[e];decide),fh e2]
  rw[h0];exact⟨(),iM trivial⟩
 have e2:i.p.dm i.inst i.dm=0:=i9 e2
 have wu:=Zq e2;have BD:=PX hc e2;have ok:=jB hc;have b1:=ok.b1;have b2:=ok.b2;have b3:=ok.b3;have s1:=ok.s1;have s2:=ok.s2;have s3:=ok.s3;obtain⟨k,hk⟩:∃k:Nat,i.inst=k:=⟨i.inst.toNat,oM⟩
 have hl:=dM hc (k:=k) oM;rw[<- hk]at hl;rcases hl with⟨_,_,_,l3,l4⟩|⟨x,_⟩
 rotate_left
 ·rw[e]at x;cases x
 have yt:(iE i.p.settle).length=i.p.settle.length:=y9 _;obtain⟨n,hn⟩:=zZ (l:=i.p.settle) (i:=(i.p.gp i.inst).2.1.toNat) oM;have hm:=lh hn;have m1:=yDs hm;have m2:=yDo hm;have hg:i.p.settle.getD (i.p.gp i.inst).2.1.toNat 0=n:=zX hn;have h0:dY i.p i.inst i.dm=(if(if i.p.high<n+i.dm then(i.p.high,i.p.high-i.dm)else(n+i.dm,n)).1<i.p.low then(i.p.low,i.p.low-i.dm,0)else((if i.p.high<n+i.dm then(i.p.high,i.p.high-i.dm)else(n+i.dm,n)).1,(if i.p.high<n+i.dm then(i.p.high,i.p.high-i.dm)else(n+i.dm,n)).2,0)):=by
  rw[dY,ez (by rw[e];decide),ez (by rw[e2];decide)];dsimp only;rw[hg]
 dsimp only;refine⟨⟨l3,oM⟩,n,rp hn,(0,0),λa=>a=if i.p.high<n+i.dm then(i.p.high,i.p.high-i.dm)else(n+i.dm,n),zG (λc=>⟨(i.p.high,i.p.high-i.dm),rfl,(iw oM).symm,?_,gn⟩) (λc=>⟨(n+i.dm,n),(iw oM).symm,rfl,?_,gn⟩),?_⟩
 ·rw[iw (by omega)]at c;rw[fh c]
 ·rw[iw (by omega)]at c;rw[ez c]
 rintro _ rfl;generalize (if i.p.high<n+i.dm then(i.p.high,i.p.high-i.dm)else(n+i.dm,n))=a at h0 ⊢;refine⟨(0,0),λb=>b=if a.1<i.p.low then(i.p.low,i.p.low-i.dm)else a,zG (λc=>⟨(i.p.low,i.p.low-i.dm),rfl,(iw oM).symm,by rw[fh c],gn⟩) (λc=>⟨a,rfl,rfl,by rw[ez c],gn⟩),?_⟩;rintro _ rfl;rw[h0];by_cases c:a.1<i.p.low
 ·rw[fh c,fh c];exact⟨(),iM trivial⟩
 ·rw[ez c,ez c];exact⟨(),iM trivial⟩
def yBq:B7.ok Tryz.prog 303:=gx mixed (dw pG (dw NX (dw PS fk))) 0 (λ_=>lpJ) i6 [] Tryz.func303 yOt
def yWq {l:List Quote} {k:Nat} {q:Quote} (h:l[k]? =ar q):zD (l.map zL) k 0 6=ar [D.v (.int .i64 q.dm),D.v (.int .i64 q.dr),D.v (.int .i64 q.a.inst),D.v (.int .i64 q.a.side),D.v (.int .i64 q.b.inst),D.v (.int .i64 q.b.side)]:=jz h (by simp[zL]) rfl
def y6l (i:nv) (h:Gr.dp i):yMv i:=by
 have h':i.ok:=h;obtain⟨hR,hB,⟨h0,h1⟩,wm,ue⟩:=h';have BB:=hR.wf hB;obtain⟨k1,k2,k3⟩:=sB (inst:=i.inst) (sd:=i.sd) (dm:=i.dm) _ i.q i.B (ju _) BB;have wv:=y7 i.p;unfold yMv QH QO Qa wy ff dx Qo f7 zGp Qr kM dV NU Q0 dD wH kK o8 gI gS dI;refine⟨i.s,rfl,hR.small hB,λ_ _=>⟨i,nf ⟨rfl,h,λo ho=> ?_⟩⟩⟩;have er:i.r=vN i.p i.B i.inst i.sd i.dm i.q:=rfl;have es:nI i.p i.B i.inst i.sd i.dm i.q=(decide ((vN i.p i.B i.inst i.sd i.dm i.q).left≠0) && (kZ ⟨i.p,(vN i.p i.B i.inst i.sd i.dm i.q).B.map qC,i.inst⟩ (zF (!i.sd))).any λx=>aZ i.sd i.dm x.dm):=rfl;rw[er]at ho ⊢;rw[es];generalize vN i.p i.B i.inst i.sd i.dm i.q=R at*;obtain⟨ts,lf,RB⟩:=R;dsimp only at*;refine Cv.dp.mk (λe=>⟨(),?_,rfl,trivial⟩) (λe=> ?_)
 ·have e:lf=0:=i9 e
  rw[e];rfl
 have e:lf≠0:=i9 e
 rw[jo e,As];have ep:=ho.ep;have hB':=k1.ok;have zz:=hB'.bl;have BQ:o.ob:=ho.Fl oM;have Ck:o.p.small:=by rw[ep];exact hB'.ps
 have ss:uB (RB.map qC):=hB'.fm;have hle:=VG ⟨o.p,RB.map qC,i.inst⟩ (zF (!i.sd));refine⟨o,iA (nf ⟨rfl,BQ,λ_ _=>⟨⟨rfl,trivial,oL ⟨rfl,trivial,trivial⟩⟩,i.sd,rfl,trivial,λ_ _=>⟨⟨rfl,trivial,oL ⟨rfl,trivial,trivial⟩⟩,⟨⟨o.p,RB.map qC,i.inst⟩,!i.sd⟩,oL (iM ⟨rfl,by rw[ho.fm],rfl,rfl,⟨Ck,ss⟩,λ_ _=> ?_⟩)⟩⟩⟩)⟩;dsimp only;rw[<- ep];generalize kZ ⟨o.p,RB.map qC,i.inst⟩ (zF (!i.sd))=Q at*;have e4:(Q.map zL).length=Q.length:=ia ..;refine⟨0,rfl,λj=>j<=Q.length/\(Q.take j).any (λx=>aZ i.sd i.dm x.dm)=ap,λj=>Q.length-j,⟨mn _,rfl⟩,?_⟩;rintro j ⟨j1,j2⟩;refine zG (λc=> ?_) (λc=>⟨(),?_,rfl,trivial⟩)
 ·obtain⟨q,hq⟩:=zZ (l:=Q) (i:=j) oM;refine⟨⟨oM,oM⟩,_,_,_,_,_,_,yWq hq,⟨i.sd,i.dm,q.dm⟩,rfl,rfl,rfl,trivial,λ_ _=>Cv.dp.mk (λg=>⟨(),?_,rfl,trivial⟩) (λg=>⟨j+1,qu oM,⟨oM,?_⟩,Z9,gn⟩)⟩
  ·rw[Oh];exact⟨q,lh hq,g⟩
  ·rw[qq,hq,List.any_append,j2];show(ap||([q].any λx=>aZ i.sd i.dm x.dm))=ap;simp only[List.any_cons,List.any_nil,Bool.or_false,LU];exact g
 ·have:j=Q.length:=by omega
  rw[this,mz (ju _)]at j2;exact j2
def z4s:Gr.ok Tryz.prog 195:=gx mixed (dw P4 (dw yBy (dw z5w (dw yVd (dw zXe (dw z3i fk)))))) 0 (λ_=>y6z) (λ_=>y8d) [] Tryz.func195 y6l
def rG (c:iq) (pf:Int):List ga:=[⟨2,c.id,0,0,0,0,0,pf⟩]
def FN (x:wY) (k:Int):Int:=match x.ir.find? λf=>decide (f.inst=k)with
 |some f=>f.dm
 |none=>x.dm
def vX (p:fj) (inst:Int) (x:wY):Int×Int:=if x.gg=ap then((dY p inst x.dm).1,(dY p inst x.dm).2.1)else(FN x (p.gp inst).1,FN x (p.gp inst).2.1)
def PK (p:fj) (r:ga) (BM Fi:Int):List ga:=[{r with inst:=(p.gp r.inst).1,dm:=BM},{r with inst:=(p.gp r.inst).2.1,side:=3-r.side,dm:=Fi}]
def pN (p:fj) (x:wY) (r:ga):List ga:=r::if(p.gp r.inst).2.2=aq then PK p r (vX p r.inst x).1 (vX p r.inst x).2 else[]
def Ii (f:cS):ga:=⟨3,f.id,f.inst,f.side,f.dm,f.dr,f.left,0⟩
def rA (p:fj) (c:iq) (x:wY) (left:Int):List ga:=x.ir.flatMap (λf=>pN p x (Ii f))++pN p x ⟨3,c.id,c.inst,c.side,x.dm,x.dr,left,0⟩
def nX (p:fj) (c:iq):List wY->Int->List ga
 |[],_=>[]
 |x::l,left=>rA p c x (left-x.dr)++nX p c l (left-x.dr)
structure Ib where
 B:Q_ zJ
 U:List Int
 R:List ga
def Hn (U:List Int) (id:Int):List Int:=if id∈U then U else U++[id]
def bI (p:fj) (B:Q_ zJ) (U:List Int) (c:iq):Ib:=match vN p B c.inst (decide (c.side=2)) c.dm c.dr with
 |⟨ts,left,B'⟩=>⟨if left≠0/\c.time=1 then(Io p B' c.inst c.id c.side c.dm left).1 else B',Hn U c.id,
  (⟨1,c.id,c.inst,c.side,c.dm,c.dr,c.dr,0⟩::nX p c ts c.dr)++if left≠0/\c.time≠1 then[⟨4,c.id,c.inst,c.side,c.dm,left,0,0⟩]else[]⟩
def iq.L5 (c:iq):Int:=if c.time=3 then c.dr else c.least
def nY (p:fj) (B:Q_ zJ) (U:List Int) (c:iq):Ib:=
 if p.dm c.inst c.dm≠0 then⟨B,U,rG c (p.dm c.inst c.dm)⟩
 else if c.id∈U then⟨B,U,rG c 25⟩
 else if 250<=EJ B then⟨B,U,rG c 13⟩
 else if 0<c.L5/\c.dr-(vN p B c.inst (decide (c.side=2)) c.dm c.dr).left<c.L5 then⟨B,U,rG c 28⟩
 else if c.time=1/\nI p B c.inst (decide (c.side=2)) c.dm c.dr=aq then⟨B,U,rG c 23⟩
 else bI p B U c
def gL (B:Q_ zJ) (U:List Int) (id inst:Int) (o:zJ):Ib:=⟨(iO B id o.dr).1,U,[⟨4,id,inst,o.side,o.dm,o.dr,0,0⟩]⟩
def mA (B:Q_ zJ) (U:List Int) (id q inst:Int) (o:zJ):Ib:=⟨(iO B id q).1,U,[⟨5,id,inst,o.side,o.dm,q,o.dr-q,0⟩]⟩
def fK (p:fj) (B:Q_ zJ) (U:List Int) (c:iq) (inst:Int) (o:zJ):Ib:=
 if p.dm inst c.dm≠0 then⟨B,U,rG c (p.dm inst c.dm)⟩
 else if c.dm=o.dm/\c.dr<=o.dr then mA B U c.id (o.dr-c.dr) inst o
 else if nI p (iO B c.id o.dr).1 inst (decide (o.side=2)) c.dm c.dr=aq then⟨B,U,rG c 23⟩
 else
  let x:=gL B U c.id inst o
  let y:=bI p x.B U ⟨1,c.id,inst,o.side,c.dm,c.dr,0,1,[]⟩
  ⟨y.B,y.U,x.R++y.R⟩
def Aa (p:fj) (B:Q_ zJ) (U:List Int) (c:iq):Ib:=
 if c.right≠0 then⟨B,U,rG c c.right⟩
 else if c.kind=1 then nY p B U c
 else if(z8 B c.id).2.2=ap then⟨B,U,rG c 26⟩
 else if c.kind=4 then fK p B U c (z8 B c.id).1 (z8 B c.id).2.1
 else if c.kind=2\/(z8 B c.id).2.1.dr<=c.dr then gL B U c.id (z8 B c.id).1 (z8 B c.id).2.1
 else mA B U c.id c.dr (z8 B c.id).1 (z8 B c.id).2.1
structure iI.ga (m:iI) (p:fj) (B:Q_ zJ) (U:List Int):Prop where
 ep:m.p=p
 s:m.s.ga p B
 u:m.used=U
@[reducible] def Cb (m:iI):List fq:=[yO m 0,yO m 1,yO m 2,yO m 3,yO m 4]
@[reducible] def y2x (x:wY):V:= .agg [zB x.dm,zB x.dr,yL x.gg,ow 6 (x.ir.map y5)]
@[reducible] def tRp:Nat:=99
@[reducible] def LM (l:List ga):fq:= .own tRp 8 (l.map x7)
structure BF where
 c:iq
 pf:Int
def aac:gh:=fp BF (λi=>[De i.c,zB i.pf]) i6 (λ_=>True) (λ_=> .own 0) (λi=>[LM (rG i.c i.pf)])
structure Ia where
 m:iI
 r:ga
 BM:Int
 Fi:Int
@[reducible] def iI.iN (m:iI):Prop:=m.p.check=0/\m.p.small
def B5:gh:=fp Ia (λi=>[.nm 0 0,xIx i.r,zB i.BM,zB i.Fi]) (λi=>Cb i.m) (λi=>i.m.iN/\(i.r.side=1\/i.r.side=2)) (λ_=> .own 5) (λi=>Cb i.m++[LM (PK i.m.p i.r i.BM i.Fi)])
structure O9 where
 m:iI
 inst:Int
def aal:gh:=fp O9 (λi=>[.nm 0 0,zB i.inst]) (λi=>Cb i.m) (λi=>i.m.iN) (λi=>yL (i.m.p.gp i.inst).2.2) (λi=>Cb i.m)
structure O8 where
 x:wY
 k:Int
@[reducible] def z7y (x:wY) (n:Nat):List fq:=[.cells [zB x.dm,zB x.dr,yL x.gg,.own n] 205,.kq 6 (x.ir.map y5)]
def ofC:gh:=fp O8 (λi=>[zB i.k,.nm 0 0]) (λi=>z7y i.x 1) (λi=>i.x.ir.length<=1000000) (λi=>zB (FN i.x i.k)) (λi=>z7y i.x 1)
def ofA:List gr:=[{ι:=Nat,du:=λj=>[(9,zB j)],rows:=λ_=>[]}]
structure Ku where
 m:iI
 inst:Int
 x:wY
def B6:gh:=fp Ku (λi=>[.nm 0 0,zB i.inst,y2x i.x]) (λi=>Cb i.m) (λi=>i.m.iN/\yP i.x.dm/\i.x.ir.length<=1000000) (λi=> .je [zB (vX i.m.p i.inst i.x).1,zB (vX i.m.p i.inst i.x).2]) (λi=>Cb i.m)
structure rk where
 m:iI
 c:iq
 x:wY
 left:Int
def rk.out (i:rk) (j:Nat):List ga:=(i.x.ir.take j).flatMap λf=>pN i.m.p i.x (Ii f)
def GF:gh:=fp rk (λi=>[.nm 0 0,De i.c,y2x i.x,zB i.left]) (λi=>Cb i.m) (λi=>i.m.iN/\yP i.x.dm/\i.x.ir.length<=1000000/\(i.c.side=1\/i.c.side=2)/\∀f∈i.x.ir,f.side=1\/f.side=2) (λ_=> .own 5) (λi=>Cb i.m++[LM (rA i.m.p i.c i.x i.left)])
def y5g (i:rk):List gr:=[{ι:=Nat,du:=λj=>[(9,.nm 0 0),(17,zB j)],rows:=λj=>[.cells [.own 1] 96,LM (i.out j)]}]
def xIk (i:BF):Prop:=
 ∃(o:Unit),[x7 (ga.mk 2 i.c.id 0 0 0 0 0 i.pf)]=[[D.v (.int .i64 2),D.v (.int .i64 i.c.id),D.v (.int .i64 0),D.v (.int .i64 0),D.v (.int .i64 0),D.v (.int .i64 0),D.v (.int .i64 0),D.v (.int .i64 i.pf)]]/\True
def gX (a:Ia):Prop:=a.r.kind=a.r.kind/\dl a.r.id/\dl a.r.inst/\dl a.r.side/\dl a.r.dm/\dl a.r.dr/\dl a.r.left/\dl a.r.pf/\True
def cE (a:Ia):=(ga.mk a.r.kind a.r.id (a.m.p.gp a.r.inst).snd.fst (3-a.r.side) a.Fi a.r.dr a.r.left a.r.pf)
def cG (a:Ia):=(ga.mk a.r.kind a.r.id (a.m.p.gp a.r.inst).fst a.r.side a.BM a.r.dr a.r.left a.r.pf)
def zBp (a:Ia) (b:aP):Prop:=(gX a)/\(gX a)/\(gX a)/\(gX a)/\(gX a)/\dl a.r.side/\dx (Qc a.m.p (zE a.m.s=yO a.m 1/\dl (zY a.m.used)/\ab 1 (iE a.m.p.dt)=yO a.m 3/\ab 1 (iE a.m.p.settle)=yO a.m 4/\[x7 (cG a),x7 (cE a)]=[[dI a.r.kind,dI a.r.id,dI ((b.p.gp b.n).fst),dI a.r.side,dI a.BM,dI a.r.dr,dI a.r.left,dI a.r.pf],[dI a.r.kind,dI a.r.id,dI (uJ b),dI (ak.wrap (3-a.r.side)),dI a.Fi,dI a.r.dr,dI a.r.left,dI a.r.pf]]/\True))
def z7d (i:Ia):Prop:=
 ∃(a:aP),Qb a.p i.m.p (a.n=i.r.inst/\(j9 a)/\ff ((zBp i a)/\zBp i a))
def xGz (i:O9):Prop:=
 ∃(gz:aP),sb gz.p.code=sb i.m.p.code/\iE gz.p.dt=iE i.m.p.dt/\gz.p.tick=i.m.p.tick/\gz.p.low=i.m.p.low/\gz.p.high=i.m.p.high/\gz.p.wide=i.m.p.wide/\gz.p.gm=i.m.p.gm/\gz.p.top=i.m.p.top/\gz.p.least=i.m.p.least/\gz.p.part=i.m.p.part/\iE gz.p.settle=iE i.m.p.settle/\gz.n=i.inst/\(gz.p.code.length<=1099511627776/\gz.p.dt.length<=1099511627776/\gz.p.settle.length<=1099511627776)/\∀(o:Unit),True->∃(o:Unit),(i.m.p.gp i.inst).snd.snd=(gz.p.gp gz.n).snd.snd/\dl (sb i.m.p.code)/\dl i.m.p.tick/\dl i.m.p.low/\dl i.m.p.high/\dl i.m.p.wide/\dl i.m.p.gm/\dl i.m.p.top/\dl i.m.p.least/\dl i.m.p.part/\zE i.m.s=yO i.m 1/\dl (zY i.m.used)/\ab 1 (iE i.m.p.dt)=yO i.m 3/\ab 1 (iE i.m.p.settle)=yO i.m 4/\True
def z0t (a:O8):Prop:=a.x.dm=a.x.dm/\dl a.x.dr/\dl a.x.gg/\dl (ab 6 (aj y5 a.x.ir))/\True
def Vof (i:O8):Prop:=
 ∃(a:Nat),(a:Int)=0/\∃(b:Nat->Prop),∃(c:Nat->Nat),b a/\∀(d:Nat),b d->dp (decide ((d:Int)<((aj y5 i.x.ir).length:Int))) ((0<=(d:Int)/\(d:Int)<((aj y5 i.x.ir).length:Int))/\∃(e:Int),∃(f:Int),∃(g:Int),∃(h:Int),∃(j:Int),∃(k:Int),zD (aj y5 i.x.ir) (d:Int).toNat 0 6=ar [dI e,dI f,dI g,dI h,dI j,dI k]/\dp (f==i.k) (dx (FN i.x i.k=h/\z0t i)) (∃(l:Nat),QO l d b c (dl (ac [zB i.x.dm,zB i.x.dr,yL i.x.gg,V.own 1] (205:TypeId))/\dl (ab 6 (aj y5 i.x.ir))))) (dx (FN i.x i.k=i.x.dm/\z0t i))
def zAd (a:Ku):Prop:=Qc a.m.p (zE a.m.s=yO a.m 1/\dl (zY a.m.used)/\ab 1 (iE a.m.p.dt)=yO a.m 3/\ab 1 (iE a.m.p.settle)=yO a.m 4/\True)
def kH (a:Ku):=(vX a.m.p a.inst a.x)
@[reducible] def Qa9 (a b:wY)(R:Prop):Prop:=a.dm=b.dm/\a.dr=b.dr/\a.gg=b.gg/\ab 6 (aj y5 a.ir)=ab 6 (aj y5 b.ir)/\a.ir.length<=1000000/\R
def z7e (i:Ku):Prop:=
 dp (!i.x.gg) (∃(a:Pa),Qb a.p i.m.p (a.inst=i.inst/\a.dm=i.x.dm/\(a.p.check=0/\(o8 a.p (a.p.settle.length<=1099511627776))/\(-9223372036854775808)<=a.dm/\a.dm<=9223372036854775807)/\ff (dx ((kH i).fst=(xC a).fst/\(kH i).snd=(xC a).snd.fst/\zAd i)))) (∃(a:aP),Qb a.p i.m.p (a.n=i.inst/\(j9 a)/\ff (∃(c:O8),c.k=(a.p.gp a.n).fst/\Qa9 c.x i.x (ff (∃(e:O8),e.k=(a.p.gp a.n).snd.fst/\Qa9 e.x c.x (ff (dx ((kH i).fst=FN c.x c.k/\(kH i).snd=FN e.x e.k/\zAd i))))))))
@[reducible] def QZ (a:fj)(R:Prop):Prop:=a.check=0/\a.code.length<=1099511627776/\a.dt.length<=1099511627776/\R
def zHi (a:Ku):Prop:=(QZ a.m.p (a.m.p.settle.length<=1099511627776))/\((-9223372036854775808)<=a.x.dm/\a.x.dm<=9223372036854775807)/\a.x.ir.length<=1000000
def zGc (a:Ia):Prop:=(QZ a.m.p (a.m.p.settle.length<=1099511627776))/\(a.r.side=1\/a.r.side=2)
def zGr (a:O9):Prop:=QZ a.m.p (a.m.p.settle.length<=1099511627776)
def pE (a:rk):=(D.v (ao (sb a.c.label)))
@[reducible] def Qg (a:Nat->Nat)(b c:Nat)(d:rk)(e:iI)(R:Prop):Prop:=a b<a c/\ac [V.d (dI d.x.dm),V.d (dI d.x.dr),V.d (D.v (.bool d.x.gg)),V.own 7] 205=ac [V.d (dI d.x.dm),V.d (dI d.x.dr),V.d (D.v (.bool d.x.gg)),V.own 7] 205/\ab 6 (aj y5 d.x.ir)=ab 6 (aj y5 d.x.ir)/\ac [V.d (dI d.c.kind),V.d (dI d.c.id),V.d (dI d.c.inst),V.d (dI d.c.side),V.d (dI d.c.dm),V.d (dI d.c.dr),V.d (dI d.c.least),V.d (dI d.c.time),V.d (pE d)] 47=ac [V.d (dI d.c.kind),V.d (dI d.c.id),V.d (dI d.c.inst),V.d (dI d.c.side),V.d (dI d.c.dm),V.d (dI d.c.dr),V.d (dI d.c.least),V.d (dI d.c.time),V.d (pE d)] 47/\ac [V.nm 0 0] 63=ac [V.nm 0 0] 63/\ac [V.d (D.v (ao (sb e.p.code))),V.own 3,V.d (dI e.p.tick),V.d (dI e.p.low),V.d (dI e.p.high),V.d (dI e.p.wide),V.d (dI e.p.gm),V.d (dI e.p.top),V.d (dI e.p.least),V.d (dI e.p.part),V.own 4,V.nm 1 0,V.mp 2] (155:TypeId)=yO d.m 0/\zE e.s=yO d.m 1/\af (zY e.used)=yO d.m 2/\ab 1 (iE e.p.dt)=yO d.m 3/\R
@[reducible] def QE (a b:iI)(R:Prop):Prop:=zY a.used=zY b.used/\ab 1 (iE a.p.dt)=ab 1 (iE b.p.dt)/\ab 1 (iE a.p.settle)=ab 1 (iE b.p.settle)/\R
@[reducible] def QM (a b:iI)(R:Prop):Prop:=zY a.used=zY b.used/\ab 1 (iE a.p.dt)=yO b 3/\ab 1 (iE a.p.settle)=yO b 4/\R
def yMt (i:rk):Prop:=
 ∃(a:Nat),(a:Int)=0/\aj x7 (i.out a)=[]/\∃(b:Nat->Prop),∃(c:Nat->Nat),b a/\∀(d:Nat),b d->dp (decide ((d:Int)<((aj y5 i.x.ir).length:Int))) ((0<=(d:Int)/\(d:Int)<((aj y5 i.x.ir).length:Int))/\∃(e:Int),∃(f:Int),∃(g:Int),∃(h:Int),∃(j:Int),∃(k:Int),zD (aj y5 i.x.ir) (d:Int).toNat 0 6=ar [dI e,dI f,dI g,dI h,dI j,dI k]/\((aj x7 (i.out d)).length+1)*(64:Nat)<=(140737488355328:Nat)/\∃(l:O9),l.inst=f/\Qa l.m.p i.m.p (zE l.m.s=yO i.m 1/\QM l.m i.m ((zGr l)/\ff (dp (l.m.p.gp l.inst).snd.snd (∃(n:Ku),n.inst=f/\n.x.dm=i.x.dm/\n.x.dr=i.x.dr/\n.x.gg=i.x.gg/\aj y5 n.x.ir=aj y5 i.x.ir/\Qa n.m.p l.m.p (zE n.m.s=zE l.m.s/\QE n.m l.m ((zHi n)/\ff (∃(q:Ia),q.r.kind=3/\q.r.id=e/\q.r.inst=f/\q.r.side=g/\q.r.dm=h/\q.r.dr=j/\q.r.left=k/\q.r.pf=0/\q.BM=(kH n).fst/\q.Fi=(kH n).snd/\Qa q.m.p n.m.p (zE q.m.s=zE n.m.s/\QE q.m n.m ((zGc q)/\ff (True/\((aj x7 (i.out d)++[[dI 3,dI e,dI f,dI g,dI h,dI j,dI k,dI 0]]).length+2)*(64:Nat)<=(140737488355328:Nat)/\∃(s:Nat),(s:Int)=ak.wrap ((d:Int)+1)/\aj x7 (i.out s)=aj x7 (i.out d)++[[dI 3,dI e,dI f,dI g,dI h,dI j,dI k,dI 0]]++[x7 (cG q),x7 (cE q)]/\b s/\Qg c s d i q.m (ab 1 (iE q.m.p.settle)=yO i.m 4)))))))) (∃(n:Nat),(n:Int)=ak.wrap ((d:Int)+1)/\aj x7 (i.out n)=aj x7 (i.out d)++[[dI 3,dI e,dI f,dI g,dI h,dI j,dI k,dI 0]]/\b n/\Qg c n d i l.m (ab 1 (iE l.m.p.settle)=yO i.m 4)))))) (((aj x7 (i.out d)).length+1)*(64:Nat)<=(140737488355328:Nat)/\∃(e:O9),e.inst=i.c.inst/\Qa e.m.p i.m.p (zE e.m.s=yO i.m 1/\QM e.m i.m ((zGr e)/\ff (dp (e.m.p.gp e.inst).snd.snd (∃(g:Ku),g.inst=i.c.inst/\g.x.dm=i.x.dm/\g.x.dr=i.x.dr/\g.x.gg=i.x.gg/\aj y5 g.x.ir=aj y5 i.x.ir/\Qa g.m.p e.m.p (zE g.m.s=zE e.m.s/\QE g.m e.m ((zHi g)/\ff (∃(j:Ia),j.r.kind=3/\j.r.id=i.c.id/\j.r.inst=i.c.inst/\j.r.side=i.c.side/\j.r.dm=i.x.dm/\j.r.dr=i.x.dr/\j.r.left=i.left/\j.r.pf=0/\j.BM=(kH g).fst/\j.Fi=(kH g).snd/\Qa j.m.p g.m.p (zE j.m.s=zE g.m.s/\QE j.m g.m ((zGc j)/\ff (True/\((aj x7 (i.out d)++[[dI 3,dI i.c.id,dI i.c.inst,dI i.c.side,dI i.x.dm,dI i.x.dr,dI i.left,dI 0]]).length+2)*(64:Nat)<=(140737488355328:Nat)/\dx (Qa i.m.p j.m.p (zE i.m.s=zE j.m.s/\QE i.m j.m (aj x7 (rA i.m.p i.c i.x i.left)=aj x7 (i.out d)++[[dI 3,dI i.c.id,dI i.c.inst,dI i.c.side,dI i.x.dm,dI i.x.dr,dI i.left,dI 0]]++[x7 (cG j),x7 (cE j)]/\True)))))))))) (dx (Qa i.m.p e.m.p (zE i.m.s=zE e.m.s/\QE i.m e.m (aj x7 (rA i.m.p i.c i.x i.left)=aj x7 (i.out d)++[[dI 3,dI i.c.id,dI i.c.inst,dI i.c.side,dI i.x.dm,dI i.x.dr,dI i.left,dI 0]]/\True))))))))
def yBf:aac.ok Tryz.prog 113:=gx (V:=xIk) mixed fk 0 i6 i6 [] Tryz.func113 λ(i:BF) _=>⟨(),rfl,trivial⟩
def yOl (i:Ia) (h:B5.dp i):z7d i:=by
 obtain⟨⟨hc,hp⟩,hs⟩:i.m.iN/\(i.r.side=1\/i.r.side=2):=h;have hw:ak.wrap (3-i.r.side)=3-i.r.side:=iw oM;unfold z7d Qb ff zBp Qc dx cG cE gX uJ j9 o8 dI;rw[hw];refine⟨⟨i.m.p,i.r.inst⟩,iA (iM ⟨rfl,hp,λ_ _=> ?_⟩)⟩;exact kp
def yCn:B5.ok Tryz.prog 288:=gx mixed (dw NX fk) 0 i6 i6 [] Tryz.func288 yOl
def y9p:aal.ok Tryz.prog 286:=gx (V:=xGz) mixed (dw NX fk) 0 i6 i6 [] Tryz.func286 λ(i:O9) h=>by
 obtain⟨hc,hp⟩:i.m.iN:=h;exact⟨⟨i.m.p,i.inst⟩,iA (iM ⟨rfl,hp,λ_ _=>kp⟩)⟩
def xDk {l:List cS} {k:Nat} {f:cS} (h:l[k]? =ar f):zD (l.map y5) k 0 6=ar [D.v (.int .i64 f.id),D.v (.int .i64 f.inst),D.v (.int .i64 f.side),D.v (.int .i64 f.dm),D.v (.int .i64 f.dr),D.v (.int .i64 f.left)]:=jz h (by simp[y5]) rfl
def vof (i:O8) (h:ofC.dp i):Vof i:=by
 have hl:i.x.ir.length<=1000000:=h;have e4:(i.x.ir.map y5).length=i.x.ir.length:=ia ..;unfold Vof QO dx z0t dI;refine⟨0,rfl,λj=>j<=i.x.ir.length/\(i.x.ir.take j).find? (λf=>decide (f.inst=i.k))=au,λj=>i.x.ir.length-j,⟨mn _,rfl⟩,?_⟩;rintro j ⟨j1,j2⟩;refine zG (λc=> ?_) (λc=> ?_)
 ·obtain⟨f,hf⟩:=zZ (l:=i.x.ir) (i:=j) oM;refine⟨⟨oM,oM⟩,_,_,_,_,_,_,xDk hf,Cv.dp.mk (λg=>⟨(),?_,gn⟩) (λg=>⟨j+1,qu oM,⟨oM,?_⟩,Z9,gn⟩)⟩
  ·have g:f.inst=i.k:=i9 g
   have e:i.x.ir.find? (λf=>decide (f.inst=i.k))=ar f:=by
    rw[<- Bb j i.x.ir,List.find?_append,j2,CH (by omega),(jm.1 hf).2,List.find?_cons_of_pos (i9 g)];rfl
   rw[FN,e]
  ·have g:¬f.inst=i.k:=i9 g
   rw[qq,hf,List.find?_append,j2];simp[g]
 ·have:j=i.x.ir.length:=by omega
  rw[this,mz (ju _)]at j2;exact⟨(),by rw[FN,j2],gn⟩
def xFb:ofC.ok Tryz.prog 304:=gx mixed fk 0 i6 (λ_=>ofA) [] Tryz.func304 vof
def yQr (i:Ku) (h:B6.dp i):z7e i:=by
 obtain⟨⟨hc,hp⟩,Sb,hl⟩:i.m.iN/\yP i.x.dm/\i.x.ir.length<=1000000:=h;unfold z7e Qa9 Qb o8 ff dx kH zAd Qc xC j9 o8;refine Cv.dp.mk (λe=> ?_) (λe=> ?_)
 ·have e:i.x.gg=ap:=i9 e
  have h0:vX i.m.p i.inst i.x=((dY i.m.p i.inst i.x.dm).1,(dY i.m.p i.inst i.x.dm).2.1):=by rw[vX,fh e]
  rw[h0];exact⟨⟨i.m.p,i.inst,i.x.dm⟩,iA (nf ⟨rfl,⟨hc,hp,Sb⟩,λ_ _=>kp⟩)⟩
 ·have e:¬i.x.gg=ap:=i9 e
  have h0:vX i.m.p i.inst i.x=(FN i.x (i.m.p.gp i.inst).1,FN i.x (i.m.p.gp i.inst).2.1):=by rw[vX,ez e]
  rw[h0];exact⟨⟨i.m.p,i.inst⟩,iA (iM ⟨rfl,hp,λ_ _=>⟨⟨i.x,(i.m.p.gp i.inst).1⟩,nf ⟨rfl,hl,λ_ _=>⟨⟨i.x,(i.m.p.gp i.inst).2.1⟩,nf ⟨rfl,hl,λ_ _=>kp⟩⟩⟩⟩⟩)⟩
def yAt:B6.ok Tryz.prog 287:=gx mixed (dw NX (dw yBq (dw xFb fk))) 0 i6 i6 [] Tryz.func287 yQr
def YM (p:fj) (x:wY) (r:ga):(pN p x r).length<=3:=by
 rw[pN,iF];split
 ·rw[PK];simp
 ·simp
def yEy {p:fj} {x:wY} {r:ga} (h:(p.gp r.inst).2.2=ap):pN p x r=[r]:=by
 rw[pN,ez (by rw[h];decide)]
def z3y {p:fj} {x:wY} {r:ga} (h:(p.gp r.inst).2.2=aq):pN p x r=r::PK p r (vX p r.inst x).1 (vX p r.inst x).2:=by
 rw[pN,fh h]
def rk.D0 (i:rk):∀j,(i.out j).length<=3*j
 |0=>ju _
 |j+1=>by
  have ih:=rk.D0 i j;rw[rk.out]at ih ⊢;rw[qq,yy,iv];cases e:i.x.ir[j]? with
  |none=>simp only[Option.toList_none,LY,tz];omega
  |some f=>
   have:=YM i.m.p i.x (Ii f);simp only[Bt,vi,LY,oJ];omega
def rk.Hf (i:rk) {j:Nat} {f:cS} (h:i.x.ir[j]? =ar f):i.out (j+1)=i.out j++pN i.m.p i.x (Ii f):=by
 rw[rk.out,rk.out,qq,yy,h];simp
def y9r (i:rk) (h:GF.dp i):yMt i:=by
 obtain⟨hf,Sb,hl,HX,xv⟩:i.m.iN/\yP i.x.dm/\i.x.ir.length<=1000000/\(i.c.side=1\/i.c.side=2)/\∀f∈i.x.ir,f.side=1\/f.side=2:=h;have e4:(i.x.ir.map y5).length=i.x.ir.length:=ia ..;unfold yMt QE QM Qa ff dx Qg pE zGr QZ zGc QZ zHi QZ cG cE kH dI;refine⟨0,rfl,rfl,λj=>j<=i.x.ir.length,λj=>i.x.ir.length-j,mn _,?_⟩;intro j hj;have ho:=i.D0 j;have e5:((i.out j).map x7).length=(i.out j).length:=ia ..;refine zG (λc=> ?_) (λc=> ?_)
 ·obtain⟨f,hfj⟩:=zZ (l:=i.x.ir) (i:=j) oM;have CL:=i.Hf hfj;have aaP:=xv f (lh hfj);refine⟨⟨oM,oM⟩,_,_,_,_,_,_,xDk hfj,oM,⟨i.m,f.inst⟩,rfl,rfl,rfl,rfl,rfl,rfl,rfl,rfl,rfl,rfl,rfl,rfl,rfl,rfl,hf,λ_ _=>Cv.dp.mk (λe=> ?_) (λe=> ?_)⟩
  ·have e:(i.m.p.gp (Ii f).inst).2.2=aq:=e;rw[z3y e]at CL;refine⟨⟨i.m,f.inst,i.x⟩,iA (nr (iM ⟨rfl,⟨hf,Sb,hl⟩,λ_ _=>⟨⟨i.m,Ii f,(vX i.m.p f.inst i.x).1,(vX i.m.p f.inst i.x).2⟩,iA (iA (nr ⟨rfl,⟨hf,aaP⟩,λ_ _=>⟨trivial,by rw[iv,e5];simp only[iF,tz];omega,j+1,qu oM,?_,oM,Z9,gn⟩⟩))⟩⟩))⟩;rw[CL,jk,jd];rfl
  ·have e:(i.m.p.gp (Ii f).inst).2.2=ap:=e;rw[yEy e]at CL;refine⟨j+1,qu oM,?_,oM,Z9,gn⟩;rw[CL,jk];rfl
 ·have hj:j=i.x.ir.length:=by omega
  have OO:i.x.ir.flatMap (λf=>pN i.m.p i.x (Ii f))=i.out j:=by rw[rk.out,hj,mz (ju _)]
  have hR:rA i.m.p i.c i.x i.left=i.out j++pN i.m.p i.x ⟨3,i.c.id,i.c.inst,i.c.side,i.x.dm,i.x.dr,i.left,0⟩:=by rw[rA,OO]
  refine⟨oM,⟨i.m,i.c.inst⟩,iA (sy ⟨rfl,hf,λ_ _=>Cv.dp.mk (λe=> ?_) (λe=> ?_)⟩)⟩
  ·have e:(i.m.p.gp (⟨3,i.c.id,i.c.inst,i.c.side,i.x.dm,i.x.dr,i.left,0⟩:ga).inst).2.2=aq:=e;rw[z3y e]at hR;refine⟨⟨i.m,i.c.inst,i.x⟩,iA (nr (iM ⟨rfl,⟨hf,Sb,hl⟩,λ_ _=>⟨⟨i.m,⟨3,i.c.id,i.c.inst,i.c.side,i.x.dm,i.x.dr,i.left,0⟩,(vX i.m.p i.c.inst i.x).1,(vX i.m.p i.c.inst i.x).2⟩,iA (iA (nr ⟨rfl,⟨hf,HX⟩,λ_ _=>⟨trivial,by rw[iv,e5];simp only[iF,tz];omega,?_⟩⟩))⟩⟩))⟩;rw[hR,jk,jd];exact kp
  ·have e:(i.m.p.gp (⟨3,i.c.id,i.c.inst,i.c.side,i.x.dm,i.x.dr,i.left,0⟩:ga).inst).2.2=ap:=e;rw[yEy e]at hR;rw[hR,jk];exact kp
def yOb:GF.ok Tryz.prog 245:=gx mixed (dw y9p (dw yAt (dw yCn fk))) 1 i6 (λi=>y5g i) [] Tryz.func245 y9r
structure qp where
 m:iI
 p:fj
 B:Q_ zJ
 U:List Int
 c:iq
 X:Ib
@[reducible] def qp.Oz (i:qp):Prop:=i.m.ga i.p i.B i.U/\jh i.p i.B
@[reducible] def qp.vw (i:qp):Prop:=(0<=i.c.inst/\i.c.inst<i.B.length)/\(1<=i.c.dr/\i.c.dr<=1000000)/\(i.c.side=1\/i.c.side=2)
@[reducible] def Rg (X:Ib) (p:fj):Alt:={o:=iI,res:=λ_=> .own 5,post:=λo=>Cb o++[LM X.R],rel:=λo=>o.ga p X.B X.U}
def GP:gh where
 ι:=qp
 pat:=λi=>[.nm 0 0,De i.c]
 pre:=λi=>Cb i.m
 dp:=λi=>i.Oz/\i.vw/\i.p.dm i.c.inst i.c.dm=0/\i.X=bI i.p i.B i.U i.c
 alts:=λi=>[Rg i.X i.p]
structure Mw where
 left:Int
 k:Nat
 out:List ga
def y6d (i:qp):List gr:=[{ι:=Mw,du:=λj=>[(5,.own 0),(8,zB j.left),(51,zB j.k)],rows:=λj=>[LM j.out]}]
def GB:gh where
 ι:=qp
 pat:=λi=>[.nm 0 0,De i.c]
 pre:=λi=>Cb i.m
 dp:=λi=>i.Oz/\i.c.right=0/\i.c.kind=1/\i.X=nY i.p i.B i.U i.c
 alts:=λi=>[Rg i.X i.p]
def xAw:List (Nat×gr):=[(22,ij 6),(44,bj 47),(52,bj 69)]
structure DK where
 m:iI
 p:fj
 B:Q_ zJ
 U:List Int
 id:Int
 q:Int
 inst:Int
 o:zJ
 X:Ib
@[reducible] def DK.Oz (i:DK):Prop:=i.m.ga i.p i.B i.U/\jh i.p i.B
def Ju:gh where
 ι:=DK
 pat:=λi=>[.nm 0 0,zB i.id,zB i.inst,N' i.o]
 pre:=λi=>Cb i.m
 dp:=λi=>i.Oz/\i.X=gL i.B i.U i.id i.inst i.o
 alts:=λi=>[Rg i.X i.p]
def Jh:gh where
 ι:=DK
 pat:=λi=>[.nm 0 0,zB i.id,zB i.q,zB i.inst,N' i.o]
 pre:=λi=>Cb i.m
 dp:=λi=>i.Oz/\yP (i.o.dr-i.q)/\i.X=mA i.B i.U i.id i.q i.inst i.o
 alts:=λi=>[Rg i.X i.p]
structure NZ where
 m:iI
 p:fj
 B:Q_ zJ
 U:List Int
 c:iq
 inst:Int
 o:zJ
 X:Ib
def B1:gh where
 ι:=NZ
 pat:=λi=>[.nm 0 0,De i.c,zB i.inst,N' i.o]
 pre:=λi=>Cb i.m
 dp:=λi=>i.m.ga i.p i.B i.U/\jh i.p i.B/\z8 i.B i.c.id=(i.inst,i.o,aq)/\(1<=i.c.dr/\i.c.dr<=1000000)/\i.X=fK i.p i.B i.U i.c i.inst i.o
 alts:=λi=>[Rg i.X i.p]
def doC:gh where
 ι:=qp
 pat:=λi=>[.nm 0 0,De i.c]
 pre:=λi=>[kF i.m]
 dp:=λi=>i.Oz/\i.c.label.length<=140737488355328/\yP i.c.dr/\i.X=Aa i.p i.B i.U i.c
 alts:=λi=>[{o:=iI,res:=λ_=> .own 1,post:=λo=>[kF o,LM i.X.R],rel:=λo=>o.ga i.p i.X.B i.X.U}]
structure MfI where
 m:iI
 p:fj
 B:Q_ zJ
 U:List Int
 id:Int
def Jn:gh:=fp MfI (λi=>[.nm 0 0]) (λi=>[kF i.m]) (λi=>i.m.ga i.p i.B i.U/\jh i.p i.B) (λi=>zB (EJ i.B)) (λi=>[kF i.m])
@[reducible] def Q5 (a:iI)(b:iq)(c:iI)(R:Prop):Prop:=zY a.used=gW (am ak b.id) [D.v (.bool aq)] (zY c.used)/\ab 1 (iE a.p.dt)=yO c 3/\ab 1 (iE a.p.settle)=yO c 4/\R
def zFx (a:iI) (b:qp) (c:Mw):Prop:=Q5 a b.c b.m (aj x7 b.X.R=aj x7 c.out/\a.ga b.p b.X.B b.X.U)
def uX (a:qp):=(D.v (ao (sb a.c.label)))
def yVk (i:qp):Prop:=
 (∀(a:Value×List D),a∈zY i.m.used->mc (am ak i.c.id) a.fst=aq)/\∃(a:nv),a.inst=i.c.inst/\zF a.sd=i.c.side/\a.dm=i.c.dm/\a.q=i.c.dr/\zE a.s=yO i.m 1/\(kM a)/\∀(b:gy),b.ga a.p a.r.B->∃(c:Mw),c.left=i.c.dr/\(c.k:Int)=0/\aj x7 c.out=[[dI 1,dI i.c.id,dI i.c.inst,dI i.c.side,dI i.c.dm,dI i.c.dr,dI i.c.dr,dI 0]]/\∃(d:Mw->Prop),∃(e:Mw->Nat),d c/\∀(f:Mw),d f->dp (decide ((f.k:Int)<((aj vB a.r.steps).length:Int))) ((0<=(f.k:Int)/\(f.k:Int)<((aj vB a.r.steps).length:Int))/\∃(g:Int),∃(h:Int),∃(j:Bool),∃(k:Q_ D),zD (aj vB a.r.steps) (f.k:Int).toNat 0 4=ar [dI g,dI h,D.v (.bool j),D.ro 6 k]/\∃(l:rk),Qd l.c i.c (l.x.dm=g/\l.x.dr=h/\l.x.gg=j/\aj y5 l.x.ir=k/\l.left=ak.wrap (f.left-h)/\Qa l.m.p i.m.p (zE l.m.s=zE b/\Q5 l.m i.c i.m (((QZ l.m.p (l.m.p.settle.length<=1099511627776))/\((-9223372036854775808)<=l.x.dm/\l.x.dm<=9223372036854775807)/\l.x.ir.length<=1000000/\(l.c.side=1\/l.c.side=2)/\∀(m:cS),m∈l.x.ir->m.side=1\/m.side=2)/\ff (((aj x7 f.out).length+(aj x7 (rA l.m.p l.c l.x l.left)).length)*(64:Nat)<=(140737488355328:Nat)/\∃(n:Mw),n.left=ak.wrap (f.left-h)/\(n.k:Int)=ak.wrap ((f.k:Int)+1)/\aj x7 n.out=aj x7 f.out++aj x7 (rA l.m.p l.c l.x l.left)/\d n/\e n<e f/\zE l.m.s=zE b/\dl (ag 205 4 (aj vB a.r.steps))/\dl (ac [V.d (dI i.c.kind),V.d (dI i.c.id),V.d (dI i.c.inst),V.d (dI i.c.side),V.d (dI i.c.dm),V.d (dI i.c.dr),V.d (dI i.c.least),V.d (dI i.c.time),V.d (uX i)] 47)/\ac [V.d (D.v (ao (sb l.m.p.code))),V.own 3,V.d (dI l.m.p.tick),V.d (dI l.m.p.low),V.d (dI l.m.p.high),V.d (dI l.m.p.wide),V.d (dI l.m.p.gm),V.d (dI l.m.p.top),V.d (dI l.m.p.least),V.d (dI l.m.p.part),V.own 4,V.nm 1 0,V.mp 2] (155:TypeId)=yO i.m 0/\af (zY l.m.used)=af (gW (am ak i.c.id) [D.v (.bool aq)] (zY i.m.used))/\ab 1 (iE l.m.p.dt)=yO i.m 3/\ab 1 (iE l.m.p.settle)=yO i.m 4))))) (dp (a.r.left==0) (∃(g:iI),Qa g.p i.m.p (zE g.s=zE b/\zFx g i f)) (dp (i.c.time==1) (∃(g:HZ),g.inst=i.c.inst/\g.id=i.c.id/\zF g.sd=i.c.side/\g.dm=i.c.dm/\g.dr=a.r.left/\zE g.s=zE b/\((o8 g.s.p (g.s.p.settle.length<=1099511627776))/\g.s.eg.length<=1000000/\∀(h:dq),h∈g.s.eg->(h.a.du.length<=1000000/\(h.a.free≠0->∃(j:Slot),j∈h.a.du/\j.used=ap)/\∀(j:aV),j∈h.a.dy->j.last=(-1)\/0<=j.last/\j.last<(h.a.du.length:Int))/\h.a.dy.length<=100000/\h.fv.length<=100000/\h.fc.length<=100000/\h.spare.length<=100000)/\ff (∃(j:iI),Qa j.p i.m.p (zE j.s=zE (gy.iC g).fst/\zFx j i f))) (((aj x7 f.out).length+1)*(64:Nat)<=(140737488355328:Nat)/\∃(g:iI),Qa g.p i.m.p (zE g.s=zE b/\Q5 g i.c i.m (aj x7 i.X.R=aj x7 f.out++[[dI 4,dI i.c.id,dI i.c.inst,dI i.c.side,dI i.c.dm,dI a.r.left,dI 0,dI 0]]/\g.ga i.p i.X.B i.X.U)))))
@[reducible] def Yo (a:iq)(b:qp)(R:Prop):Prop:=ac [V.d (dI a.kind),V.d (dI a.id),V.d (dI a.inst),V.d (dI a.side),V.d (dI a.dm),V.d (dI a.dr),V.d (dI a.least),V.d (dI a.time),V.d (uX b)] 47=ac [V.d (dI a.kind),V.d (dI a.id),V.d (dI a.inst),V.d (dI a.side),V.d (dI a.dm),V.d (dI a.dr),V.d (dI a.least),V.d (dI a.time),V.d (uX b)] 47/\yO b.m 0=yO b.m 0/\R
def zFh (a:qp):Prop:=Yo a.c a (dl (yO a.m 2)/\dl (yO a.m 3)/\dl (yO a.m 4))
def zHv (a:Bool->Prop) (b:ze) (c:qp):Prop:=∃(d:Bool),d=ap/\a d/\dl (zE b.s)/\zFh c
def zHj (a:Int->Prop) (b:Int) (c:qp):Prop:=a b/\Yo c.c c (dl (yO c.m 1)/\dl (yO c.m 2)/\dl (yO c.m 3)/\dl (yO c.m 4))
def zGs (a:Bool->Prop) (b:Bool) (c:nv) (d:ze) (e:qp):Prop:=a b/\zE c.s=zE d.s/\zFh e
def zFu (a:iI) (b:qp) (c:BF):Prop:=QM a b.m (aj x7 b.X.R=[x7 (ga.mk 2 c.c.id 0 0 0 0 0 c.pf)]/\a.ga b.p b.X.B b.X.U)
def zGj (a:qp) (b:BF):Prop:=True/\ff (∃(d:iI),Qa d.p a.m.p (zE d.s=yO a.m 1/\zFu d a b))
def eK (a:qp) (b:ze) (c:BF):Prop:=True/\ff (∃(e:iI),Qa e.p a.m.p (zE e.s=zE b.s/\zFu e a c))
def lT (a:qp) (b:qp):Prop:=∀(c:iI),c.ga a.p a.X.B a.X.U->∃(d:iI),Qa d.p c.p (zE d.s=zE c.s/\QE d c (aj x7 b.X.R=aj x7 a.X.R/\d.ga b.p b.X.B b.X.U))
def WB (a:qp):Prop:=(a.m.ga a.p a.B a.U/\jh a.p a.B)/\((0<=a.c.inst/\a.c.inst<(a.B.length:Int))/\(1<=a.c.dr/\a.c.dr<=1000000)/\(a.c.side=1\/a.c.side=2))/\a.p.dm a.c.inst a.c.dm=0/\a.X=bI a.p a.B a.U a.c
def yQv (i:qp):Prop:=
 ∃(a:A2),Qb a.p i.m.p (a.a=i.c.inst/\a.b=i.c.dm/\(qQ a)/\ff (dp (a.p.dm a.a a.b !=0) (∃(c:BF),Qd c.c i.c (c.pf=a.p.dm a.a a.b/\zGj i c)) (∃(c:Int),∃(d:Int->Prop),dp (i.c.time==3) (∃(e:Int),e=i.c.dr/\zHj d e i) (∃(e:Int),e=i.c.least/\zHj d e i)/\∀(e:Int),d e->(∀(f:Value×List D),f∈zY i.m.used->mc (am ak i.c.id) f.fst=aq)/\∃(f:Bool),∃(g:Bool),(jK (am ak i.c.id) (zY i.m.used)=ar [D.v (.bool g)]/\f=aq\/jK (am ak i.c.id) (zY i.m.used)=au/\[D.v (.bool g)]=[D.v (.bool ap)]/\f=ap)/\dp g (∃(h:BF),Qd h.c i.c (h.pf=25/\zGj i h)) (∃(h:ze),zE h.s=yO i.m 1/\(h.s.ga h.p h.B/\h.B.length<=1000)/\ff (dp (decide (((EJ h.B):Int)>=250)) (∃(k:BF),Qd k.c i.c (k.pf=13/\eK i h k)) (∃(k:Bool),∃(l:Bool->Prop),dp (decide (e>0)) (∃(m:nv),m.inst=i.c.inst/\zF m.sd=i.c.side/\m.dm=i.c.dm/\m.q=i.c.dr/\zE m.s=zE h.s/\(kM m)/\ff (∃(p:Bool),p=decide (m.q-m.r.left<e)/\zGs l p m h i)) (zHv l h i)/\∀(m:Bool),l m->dp m (∃(n:BF),Qd n.c i.c (n.pf=28/\eK i h n)) (∃(n:Bool),∃(p:Bool->Prop),dp (i.c.time==1) (∃(q:nv),q.inst=i.c.inst/\zF q.sd=i.c.side/\q.dm=i.c.dm/\q.q=i.c.dr/\zE q.s=zE h.s/\(kM q)/\ff (∃(s:Bool),s=nI q.p q.B q.inst q.sd q.dm q.q/\zGs p s q h i)) (zHv p h i)/\∀(q:Bool),p q->dp q (∃(r:BF),Qd r.c i.c (r.pf=23/\eK i h r)) (∃(r:qp),Qd r.c i.c (Qa r.m.p i.m.p (zE r.m.s=zE h.s/\QM r.m i.m ((WB r)/\lT r i)))))))))))
def y0q (i:DK):Prop:=
 ∃(gz:Bh),gz.id=i.id/\gz.q=i.o.dr/\zE gz.s=yO i.m 1/\(gz.s.ga gz.p gz.B/\gz.B.length<=1000)/\∀(o:gy),o.ga gz.p (iO gz.B gz.id gz.q).fst->∃(By:iI),sb By.p.code=sb i.m.p.code/\By.p.tick=i.m.p.tick/\By.p.low=i.m.p.low/\By.p.high=i.m.p.high/\By.p.wide=i.m.p.wide/\By.p.gm=i.m.p.gm/\By.p.top=i.m.p.top/\By.p.least=i.m.p.least/\By.p.part=i.m.p.part/\zE By.s=zE o/\zY By.used=zY i.m.used/\ab 1 (iE By.p.dt)=yO i.m 3/\ab 1 (iE By.p.settle)=yO i.m 4/\aj x7 i.X.R=[[D.v (.int .i64 4),D.v (.int .i64 i.id),D.v (.int .i64 i.inst),D.v (.int .i64 i.o.side),D.v (.int .i64 i.o.dm),D.v (.int .i64 i.o.dr),D.v (.int .i64 0),D.v (.int .i64 0)]]/\By.ga i.p i.X.B i.X.U
def yHg (i:DK):Prop:=
 ∃(a:Bh),a.id=i.id/\a.q=i.q/\zE a.s=yO i.m 1/\(a.s.ga a.p a.B/\a.B.length<=1000)/\∀(b:gy),b.ga a.p (iO a.B a.id a.q).fst->∃(c:iI),Qa c.p i.m.p (zE c.s=zE b/\QM c i.m (aj x7 i.X.R=[[dI 5,dI i.id,dI i.inst,dI i.o.side,dI i.o.dm,dI i.q,dI (ak.wrap (i.o.dr-i.q)),dI 0]]/\c.ga i.p i.X.B i.X.U))
def eI (a:iI) (b:NZ) (c:BF):Prop:=QM a b.m (aj x7 b.X.R=[x7 (ga.mk 2 c.c.id 0 0 0 0 0 c.pf)]/\a.ga b.p b.X.B b.X.U)
def zGo (a:NZ):Prop:=∃(b:gy),zE b=yO a.m 1/\(dV b)/\ff (∃(d:Bh),d.id=a.c.id/\d.q=a.o.dr/\zE d.s=zE b/\(d.s.ga d.p d.B/\d.B.length<=1000)/\∀(e:gy),e.ga d.p (iO d.B d.id d.q).fst->∃(f:nv),f.inst=a.inst/\zF f.sd=a.o.side/\f.dm=a.c.dm/\f.q=a.c.dr/\zE f.s=zE e/\(kM f)/\ff (dp (nI f.p f.B f.inst f.sd f.dm f.q) (∃(h:BF),Qd h.c a.c (h.pf=23/\True/\ff (∃(k:iI),Qa k.p a.m.p (zE k.s=zE b/\eI k a h)))) (∃(h:DK),h.id=a.c.id/\h.inst=a.inst/\h.o.id=a.o.id/\h.o.side=a.o.side/\h.o.dm=a.o.dm/\h.o.dr=a.o.dr/\h.o.top=a.o.top/\Qa h.m.p a.m.p (zE h.m.s=zE b/\QM h.m a.m (((h.m.ga h.p h.B h.U/\jh h.p h.B)/\h.X=gL h.B h.U h.id h.inst h.o)/\∀(j:iI),j.ga h.p h.X.B h.X.U->∃(k:qp),k.c.kind=1/\k.c.id=a.c.id/\k.c.inst=a.inst/\k.c.side=a.o.side/\k.c.dm=a.c.dm/\k.c.dr=a.c.dr/\k.c.least=0/\k.c.time=1/\sb k.c.label=ByteArray.mk #[]/\Qa k.m.p j.p (zE k.m.s=zE j.s/\QE k.m j ((WB k)/\∀(l:iI),l.ga k.p k.X.B k.X.U->((aj x7 h.X.R).length+(aj x7 k.X.R).length)*(64:Nat)<=(140737488355328:Nat)/\∃(m:iI),Qa m.p l.p (zE m.s=zE l.s/\QE m l (aj x7 a.X.R=aj x7 h.X.R++aj x7 k.X.R/\m.ga a.p a.X.B a.X.U)))))))))
def mG (a:DK):Prop:=(a.m.ga a.p a.B a.U/\jh a.p a.B)/\((-9223372036854775808)<=a.o.dr-a.q/\a.o.dr-a.q<=9223372036854775807)/\a.X=mA a.B a.U a.id a.q a.inst a.o
def z6f (i:NZ):Prop:=
 ∃(a:A2),Qb a.p i.m.p (a.a=i.inst/\a.b=i.c.dm/\(qQ a)/\ff (dp (a.p.dm a.a a.b !=0) (∃(c:BF),Qd c.c i.c (c.pf=a.p.dm a.a a.b/\True/\ff (∃(e:iI),Qa e.p i.m.p (zE e.s=yO i.m 1/\eI e i c)))) (dp (i.c.dm==i.o.dm) (dp (decide (i.c.dr<=i.o.dr)) (∃(c:DK),c.id=i.c.id/\c.q=ak.wrap (i.o.dr-i.c.dr)/\c.inst=i.inst/\c.o.id=i.o.id/\c.o.side=i.o.side/\c.o.dm=i.o.dm/\c.o.dr=i.o.dr/\c.o.top=i.o.top/\Qa c.m.p i.m.p (zE c.m.s=yO i.m 1/\QM c.m i.m ((mG c)/\∀(d:iI),d.ga c.p c.X.B c.X.U->∃(e:iI),Qa e.p d.p (zE e.s=zE d.s/\QE e d (aj x7 i.X.R=aj x7 c.X.R/\e.ga i.p i.X.B i.X.U))))) (zGo i)) (zGo i))))
def YG (a:DK) (b:qp):Prop:=∀(c:iI),c.ga a.p a.X.B a.X.U->∃(d:iI),Qa d.p c.p (zE d.s=zE c.s/\QE d c (aj x7 b.X.R=aj x7 a.X.R/\d.ga b.p b.X.B b.X.U))
def z1n (a:iI) (b:qp) (c:BF):Prop:=QE a b.m (aj x7 b.X.R=[x7 (ga.mk 2 c.c.id 0 0 0 0 0 c.pf)]/\a.ga b.p b.X.B b.X.U)
@[reducible] def QW (a:zJ)(b:Bh)(R:Prop):Prop:=a.id=(z8 b.B b.id).snd.fst.id/\a.side=(z8 b.B b.id).snd.fst.side/\a.dm=(z8 b.B b.id).snd.fst.dm/\a.dr=(z8 b.B b.id).snd.fst.dr/\a.top=(z8 b.B b.id).snd.fst.top/\R
def yAx (a:qp) (b:Bh):Prop:=∃(c:DK),c.id=a.c.id/\c.inst=(z8 b.B b.id).fst/\QW c.o b (Qa c.m.p a.m.p (zE c.m.s=zE b.s/\QE c.m a.m (((c.m.ga c.p c.B c.U/\jh c.p c.B)/\c.X=gL c.B c.U c.id c.inst c.o)/\YG c a)))
def yPd (a:qp):Prop:=∃(b:Bh),b.id=a.c.id/\zE b.s=zE a.m.s/\(b.s.ga b.p b.B/\b.B.length<=1000)/\ff (dp (!(z8 b.B b.id).snd.snd) (∃(d:BF),Qd d.c a.c (d.pf=26/\True/\ff (∃(f:iI),Qa f.p a.m.p (zE f.s=zE b.s/\z1n f a d)))) (dp (a.c.kind==4) (∃(d:NZ),Qd d.c a.c (d.inst=(z8 b.B b.id).fst/\QW d.o b (Qa d.m.p a.m.p (zE d.m.s=zE b.s/\QE d.m a.m ((d.m.ga d.p d.B d.U/\jh d.p d.B/\z8 d.B d.c.id=(d.inst,d.o,aq)/\(1<=d.c.dr/\d.c.dr<=1000000)/\d.X=fK d.p d.B d.U d.c d.inst d.o)/\∀(e:iI),e.ga d.p d.X.B d.X.U->∃(f:iI),Qa f.p e.p (zE f.s=zE e.s/\QE f e (aj x7 a.X.R=aj x7 d.X.R/\f.ga a.p a.X.B a.X.U))))))) (dp (a.c.kind==2) (yAx a b) (dp (decide (a.c.dr>=(z8 b.B b.id).snd.fst.dr)) (yAx a b) (∃(d:DK),d.id=a.c.id/\d.q=a.c.dr/\d.inst=(z8 b.B b.id).fst/\QW d.o b (Qa d.m.p a.m.p (zE d.m.s=zE b.s/\QE d.m a.m ((mG d)/\YG d a))))))))
def Vdo (i:qp):Prop:=
 ∃(a:iq),Qd a i.c (a.label.length<=140737488355328/\ff (dp (a.right !=0) (∃(c:BF),Qd c.c i.c (c.pf=a.right/\True/\ff (∃(e:iI),Qa e.p i.m.p (zE e.s=zE i.m.s/\z1n e i c)))) (dp (i.c.kind==1) (∃(c:qp),Qd c.c i.c (Qa c.m.p i.m.p (zE c.m.s=zE i.m.s/\QE c.m i.m (((c.m.ga c.p c.B c.U/\jh c.p c.B)/\c.c.right=0/\c.c.kind=1/\c.X=nY c.p c.B c.U c.c)/\lT c i)))) ((yPd i)/\dl i.c.id/\True/\yPd i))))
def y0k (i:MfI):Prop:=
 ∃(gz:ze),zE gz.s=zE i.m.s/\(gz.s.ga gz.p gz.B/\gz.B.length<=1000)/\∀(o:Unit),True->∃(o:Unit),((EJ i.B):Int)=((EJ gz.B):Int)/\dl (sb i.m.p.code)/\dl i.m.p.tick/\dl i.m.p.low/\dl i.m.p.high/\dl i.m.p.wide/\dl i.m.p.gm/\dl i.m.p.top/\dl i.m.p.least/\dl i.m.p.part/\zE i.m.s=zE gz.s/\dl (zY i.m.used)/\dl (ab 1 (iE i.m.p.dt))/\dl (ab 1 (iE i.m.p.settle))/\True
def sS (p:fj) (B:Q_ zJ) (U:List Int) (c:iq):bI p B U c=⟨if(vN p B c.inst (decide (c.side=2)) c.dm c.dr).left≠0/\c.time=1 then(Io p (vN p B c.inst (decide (c.side=2)) c.dm c.dr).B c.inst c.id c.side c.dm (vN p B c.inst (decide (c.side=2)) c.dm c.dr).left).1 else(vN p B c.inst (decide (c.side=2)) c.dm c.dr).B,Hn U c.id,
 (⟨1,c.id,c.inst,c.side,c.dm,c.dr,c.dr,0⟩::nX p c (vN p B c.inst (decide (c.side=2)) c.dm c.dr).steps c.dr)++if(vN p B c.inst (decide (c.side=2)) c.dm c.dr).left≠0/\c.time≠1 then[⟨4,c.id,c.inst,c.side,c.dm,(vN p B c.inst (decide (c.side=2)) c.dm c.dr).left,0,0⟩]else[]⟩:=by
 rw[bI]
def zYq {p:fj} {B:Q_ zJ} (h:rr p B) (U:List Int) (c:iq):jh p (bI p B U c).B:=by
 have:=(sB (inst:=c.inst) (sd:=decide (c.side=2)) (dm:=c.dm) _ c.dr B (ju _) h).1.ok;rw[sS];dsimp only;split
 ·exact this.add _ _ _ _ _
 ·exact this
def yLe {p:fj} {B:Q_ zJ} (h:rr p B) (U:List Int) (c:iq):jh p (nY p B U c).B:=by
 rw[nY];split
 ·exact h.ok
 split
 ·exact h.ok
 split
 ·exact h.ok
 split
 ·exact h.ok
 split
 ·exact h.ok
 exact zYq h U c
def y8w {p:fj} {B:Q_ zJ} (h:rr p B) (U:List Int) (c:iq):jh p (Aa p B U c).B:=by
 rw[Aa];split
 ·exact h.ok
 split
 ·exact yLe h U c
 split
 ·exact h.ok
 split
 ·rw[fK];split
  ·exact h.ok
  split
  ·exact h.ok.take _ _
  split
  ·exact h.ok
  exact zYq (h.take _ _) U _
 split
 ·exact h.ok.take _ _
 ·exact h.ok.take _ _
def Two (L:List zJ):Prop:=L=Fz L 1++Fz L 2
def zBx {inst s:Int} {f:cS}:∀{os:List zJ} {sh:List Int},f∈qI inst s os sh->f.side=s/\f.inst=inst/\∃o∈os,f.dm=o.dm
 |[],sh,h=>by cases h
 |o::os,[],h=>by cases h
 |o::os,k::sh,h=>by
  rw[qI]at h;split at h
  ·rcases jx.1 h with rfl|h
   ·exact⟨rfl,rfl,o,iX,rfl⟩
   ·obtain⟨a,b,o',c,d⟩:=zBx h;exact⟨a,b,o',ji _ c,d⟩
  ·obtain⟨a,b,o',c,d⟩:=zBx h;exact⟨a,b,o',ji _ c,d⟩
def FOk (f:cS):Prop:=(f.side=1\/f.side=2)/\-2000000<=f.dm/\f.dm<=2000000
def zMv {p:fj} {B:Q_ zJ} (h:jh p B) (inst:Int) {s:Int} (hs:s=1\/s=2) (q:Int):∀f∈kV p B inst s q,FOk f:=by
 intro f hf;obtain⟨a,_,o,ho,e⟩:=zBx hf;refine⟨by rw[a];exact hs,?_⟩;rw[e];have ho:=(ug.1 ho).1;by_cases hk:inst.toNat<B.length
 ·obtain⟨L,hL⟩:=zZ hk;rw[zX hL]at ho;exact h.yh hL o ho
 ·rw[mu,ui (by omega)]at ho;cases ho
def Yk (t:wY):Prop:=(-2000000<=t.dm/\t.dm<=2000000)/\(∀f∈t.ir,FOk f)/\t.ir.length<=500
def yZs {p:fj} {B:Q_ zJ} (h:rr p B) {inst:Int} (hi:0<=inst/\inst<B.length) {s:Int} (hs:s=1\/s=2) (hn:(y3 p B inst s).2.2=aq): -2000000<=(y3 p B inst s).1.dm/\(y3 p B inst s).1.dm<=2000000:=by
 rw[y3]at hn ⊢;obtain⟨L,hL⟩:=zZ (l:=B) (i:=inst.toNat) oM;rw[zX hL]at hn ⊢;split
 ·exact YD (h.ok.yh hL)
 ·rename_i c;rw[ez c]at hn;have hm:=zMp hn;have:=(ug.1 hm).2;exact PX h.ok.pc (rf this)
def yZt {p:fj} {B:Q_ zJ} (h:rr p B) {inst:Int} (hi:0<=inst/\inst<B.length) {sd:Bool} {dm q:Int} {t:wY} {B':Q_ zJ} (e:aI p B inst sd dm q=ar (t,B')):Yk t:=by
 have hs:zF (!sd)=1\/zF (!sd)=2:=Py _;have hb:=yZs h hi hs;have wu:=yDi h.ok h.od hi hs;rw[aI]at e;dsimp only at e;split at e
 ·rename_i c;have c1:(y3 p B inst (zF (!sd))).2.2=aq:=by
   cases hx:(y3 p B inst (zF (!sd))).2.2 with
   |false=>rw[hx]at c;cases c
   |true=>rfl
  have hb:=hb c1;obtain⟨_,wu,_⟩:=wu c1;split at e
  ·rename_i c2;obtain⟨_,ok⟩:=wu c2;cases e;refine⟨hb,λf hf=> ?_,?_⟩
   ·rcases oK.1 hf with hf|hf
    ·exact zMv h.ok _ ok.sa _ f hf
    ·exact zMv h.ok.takes _ ok.sb _ f hf
   ·dsimp only;rw[iv];have:=r9 (p:=p) h.od (y3 p B inst (zF (!sd))).1.a.inst (y3 p B inst (zF (!sd))).1.a.side (min q (y3 p B inst (zF (!sd))).1.dr);have:=r9 (p:=p) (h.takes (fs:=kV p B (y3 p B inst (zF (!sd))).1.a.inst (y3 p B inst (zF (!sd))).1.a.side (min q (y3 p B inst (zF (!sd))).1.dr))).od (y3 p B inst (zF (!sd))).1.b.inst (y3 p B inst (zF (!sd))).1.b.side (min q (y3 p B inst (zF (!sd))).1.dr);omega
  ·cases e;refine⟨hb,λf hf=>zMv h.ok _ hs _ f hf,?_⟩;have:=r9 (p:=p) h.od inst (zF (!sd)) (min q (y3 p B inst (zF (!sd))).1.dr);dsimp only;omega
 ·cases e
def zGb (a:Bh):Prop:=QJ a.s (True)
def yUh (i:Bh):Prop:=
 (pF i)/\∃(a:Bool),∃(b:Int),(tV i b a)/\dp (!a) (dx ((z8 i.B i.id).fst=0/\(z8 i.B i.id).snd.fst.id=0/\(z8 i.B i.id).snd.fst.side=0/\(z8 i.B i.id).snd.fst.dm=0/\(z8 i.B i.id).snd.fst.dr=0/\(z8 i.B i.id).snd.fst.top=ap/\(z8 i.B i.id).snd.snd=ap/\Qc i.s.p (dl (ae 160 dq 6 zR i.s.eg au)/\zGb i))) ((0<=b/\b<(i.s.eg.length:Int))/\b.toNat<i.s.eg.length/\∃(c:dq),i.s.eg[b.toNat]?=ar c/\∃(d:CR),d.id=i.id/\yA d.b=yA c/\d.b.ga d.L/\ff (∃(f:dq),yA d.b=yA f/\DF b i.s.eg (dx ((z8 i.B i.id).fst=b/\(z8 i.B i.id).snd.fst.id=(c8 d.L d.id).id/\(z8 i.B i.id).snd.fst.side=(c8 d.L d.id).side/\(z8 i.B i.id).snd.fst.dm=(c8 d.L d.id).dm/\(z8 i.B i.id).snd.fst.dr=(c8 d.L d.id).dr/\(z8 i.B i.id).snd.fst.top=(c8 d.L d.id).top/\(z8 i.B i.id).snd.snd=aq/\Qc i.s.p (ae 160 dq 6 zR i.s.eg au=ae 160 dq 6 zR (i.s.eg.set b.toNat f) au/\zGb i)))))
def y8l (i:Bh) (h:Gv.dp i):yUh i:=by
 obtain⟨hR,hB⟩:i.s.ga i.p i.B/\i.B.length<=1000:=h;have ta:=hR.at_ i.id;unfold yUh Qc DF ff dx pF tV zGb QJ dI;rw[z8];cases hi:nT i.B i.id with
 |none=>
  rw[hi]at ta;exact⟨bV _ _,ap,0,.inr ⟨by rw[sW,ta];rfl,rfl,rfl⟩,Cv.dp.mk (λ_=>⟨(),gn⟩) (λe=>absurd e Z8)⟩
 |some k=>
  rw[hi]at ta;obtain⟨L,hL,hh⟩:=u6 hi;have hk:=(jm.1 hL).1;obtain⟨b,hb⟩:=zZ (l:=i.s.eg) (i:=k) (by rw[hR.bl];exact hk);have Em:=hR.bk k b L hb hL;have zz:=hR.bl;refine⟨bV _ _,aq,k,.inl ⟨by rw[sW,ta];rfl,rfl⟩,Cv.dp.mk (λe=>absurd e Z8) (λ_=> ?_)⟩;dsimp only;rw[ot,zX hL];have hs:=jL hb;refine⟨⟨oM,oM⟩,oM,b,hb,⟨b,L,i.id,0⟩,rfl,rfl,Em,λ_ _=>⟨b,rfl,rfl,oM,(),?_⟩⟩;rw[hs]
  (repeat'(first|exact trivial|exact rfl|apply And.intro))
def yNt:Gv.ok Tryz.prog 92:=gx mixed (dw z4v fk) 0 i6 i6 [0] Tryz.func92 y8l
def zYk (id:Int) (U:List Int):∀p∈zY U,mc (am ak id) p.1=aq:=by
 intro p hp;obtain⟨k,_,rfl⟩:=np.1 hp;rfl
def zXn (id:Int):∀U:List Int,gW (am ak id) [D.v (.bool aq)] (zY U)=zY (Hn U id)
 |[]=>rfl
 |k::U=>by
  have ih:=zXn id U;have e:a8 (am ak id) (am ak k)=decide (id=k):=by simp[a8,xd]
  show(bif a8 (am ak id) (am ak k)then(am ak k,[D.v (.bool aq)])::zY U else(am ak k,[D.v (.bool aq)])::gW (am ak id) [D.v (.bool aq)] (zY U))=_;rw[e,ih];by_cases c:id=k
  ·rw[jo c,cond_true,Hn,fh (by rw[c];exact iX)];rfl
  ·rw[jv c,cond_false,Hn,Hn];have hm:id∈k::U↔id∈U:=by simp[c]
   by_cases d:id∈U
   ·rw[fh d,fh (hm.2 d)];rfl
   ·rw[ez d,ez (λx=>d (hm.1 x))];rfl
def zZe (id:Int):∀U:List Int,jK (am ak id) (zY U)=if id∈U then ar [D.v (.bool aq)]else au
 |[]=>rfl
 |k::U=>by
  have ih:=zZe id U;have e:a8 (am ak id) (am ak k)=decide (id=k):=by simp[a8,xd]
  show(bif a8 (am ak id) (am ak k)then ar [D.v (.bool aq)]else jK (am ak id) (zY U))=_;rw[e,ih];by_cases c:id=k
  ·rw[jo c,cond_true,fh (by rw[c];exact iX)]
  ·rw[jv c,cond_false];have hm:id∈k::U↔id∈U:=by simp[c]
   by_cases d:id∈U
   ·rw[fh d,fh (hm.2 d)]
   ·rw[ez d,ez (λx=>d (hm.1 x))]
def yMg (id:Int) (U:List Int):jK (am ak id) (zY U)=ar [D.v (.bool (decide (id∈U)))]/\decide (id∈U)=aq\/jK (am ak id) (zY U)=au/\[D.v (.bool (decide (id∈U)))]=[D.v (.bool ap)]/\decide (id∈U)=ap:=by
 rw[zZe];by_cases c:id∈U
 ·rw[fh c,jo c];exact .inl ⟨rfl,rfl⟩
 ·rw[ez c,jv c];exact .inr ⟨rfl,rfl,rfl⟩
def z1s {p:fj} {inst:Int} {sd:Bool} {dm:Int}:∀(m:Nat) (q:Int) (B:Q_ zJ),q.toNat<=m->rr p B->0<=inst/\inst<B.length->
 (∀t∈(vN p B inst sd dm q).steps,Yk t/\1<=t.dr)/\((vN p B inst sd dm q).steps.map (·.dr)).sum=q-(vN p B inst sd dm q).left
 |m,q,B,hm,h,hi=>by
  by_cases hq:q<=0
  ·rw[PU (.inl hq)];exact⟨λt ht=>(by cases ht),by simp⟩
  cases hs:aI p B inst sd dm q with
  |none=>rw[PU (.inr hs)];exact⟨λt ht=>(by cases ht),by simp⟩
  |some x=>
   obtain⟨t,C⟩:=x;obtain⟨k1,k2⟩:=zXz h hs;have ue:=Pd oM hs;cases m with
   |zero=>omega
   |succ m=>
   obtain⟨i1,i2⟩:=z1s (p:=p) (inst:=inst) (sd:=sd) (dm:=dm) m (q-t.dr) C oM k1 (by rw[k2];exact hi);rw[YN (by omega) hs];refine⟨λu hu=> ?_,?_⟩
   ·rcases jx.1 hu with rfl|hu
    ·exact⟨yZt h hi hs,ue.1⟩
    ·exact i1 u hu
   ·dsimp only;rw[jf,qc,i2];omega
def y2m {α:Type} {f:α->List ga} (hf:∀x,(f x).length<=3):∀l:List α,(l.flatMap f).length<=3*l.length
 |[]=>ju _
 |x::l=>by
  have:=y2m hf l;have:=hf x;rw[vi,iv,iF];omega
def zXi (p:fj) (c:iq) (x:wY) (left:Int):(rA p c x left).length<=3*x.ir.length+3:=by
 rw[rA,iv];have:=y2m (λf=>YM p x (Ii f)) x.ir;have:=YM p x ⟨3,c.id,c.inst,c.side,x.dm,x.dr,left,0⟩;omega
def WU {l:List wY} (h:∀t∈l,Yk t/\1<=t.dr):(l.length:Int)<=(l.map (·.dr)).sum:=by
 induction l with
 |nil=>exact yl _
 |cons t l ih=>
  have:=ih λu hu=>h u (ji _ hu)
  have:=(h t iX).2;rw[jf,qc,iF];omega
def y5r (i:qp) (h:GP.dp i):yVk i:=by
 obtain⟨m,p,B,U,c,X⟩:=i;have h':(m.ga p B U/\jh p B)/\((0<=c.inst/\c.inst<B.length)/\(1<=c.dr/\c.dr<=1000000)/\(c.side=1\/c.side=2))/\p.dm c.inst c.dm=0/\X=bI p B U c:=h;clear h;obtain⟨⟨⟨ep,hR,eu⟩,hB⟩,⟨⟨h0,h1⟩,hq,hs⟩,Ke,hX⟩:=h';subst ep eu hX;have BB:=hR.wf hB;obtain⟨k1,k2,k3⟩:=sB (inst:=c.inst) (sd:=decide (c.side=2)) (dm:=c.dm) _ c.dr B (ju _) BB;have k3:=k3 oM;obtain⟨s1,s2⟩:=z1s (inst:=c.inst) (sd:=decide (c.side=2)) (dm:=c.dm) _ c.dr B (ju _) BB ⟨h0,h1⟩;have hX:=sS m.p B m.used c;have BD:=PX hB.pc Ke;unfold yVk Q5 QZ Qa o8 Qd ff kM uX zFx Q5 dI;dsimp only;rw[zXn,hX];refine⟨zYk _ _,⟨m.s,m.p,B,c.inst,decide (c.side=2),c.dm,c.dr⟩,rfl,dL hs,rfl,rfl,rfl,⟨hR,hB,⟨h0,h1⟩,hq.1,hq.2⟩,λo ho=> ?_⟩;have er:nv.r ⟨m.s,m.p,B,c.inst,decide (c.side=2),c.dm,c.dr⟩=vN m.p B c.inst (decide (c.side=2)) c.dm c.dr:=rfl;rw[er]at ho ⊢;clear hX er;generalize vN m.p B c.inst (decide (c.side=2)) c.dm c.dr=R at*;obtain⟨ts,lf,RB⟩:=R;dsimp only at*;have hlen:=WU s1;have e4:(ts.map vB).length=ts.length:=ia ..;refine⟨⟨c.dr,0,[⟨1,c.id,c.inst,c.side,c.dm,c.dr,c.dr,0⟩]⟩,rfl,rfl,rfl,λj=>j.k<=ts.length/\j.left=lf+((ts.drop j.k).map (·.dr)).sum/\(⟨1,c.id,c.inst,c.side,c.dm,c.dr,c.dr,0⟩::nX m.p c ts c.dr)=j.out++nX m.p c (ts.drop j.k) j.left/\j.out.length<=1+1503*j.k,λj=>ts.length-j.k,⟨mn _,by dsimp only;rw[Ee,s2];omega,rfl,ju _⟩,?_⟩
 rintro⟨left,k,out⟩ ⟨j1,j2,j3,j4⟩;dsimp only at j1 j2 j3 j4 ⊢;have e5:(out.map x7).length=out.length:=ia ..;refine zG (λc1=> ?_) (λc1=> ?_)
 ·obtain⟨t,ht⟩:=zZ (l:=ts) (i:=k) oM;have hd:ts.drop k=t::ts.drop (k+1):=by rw[CH (by omega),(jm.1 ht).2]
  obtain⟨⟨t1,t2,t3⟩,t4⟩:=s1 t (lh ht);have Fa:=WU (l:=ts.drop (k+1)) λu hu=>s1 u (J9 hu)
  have hsk:((ts.drop k).map (·.dr)).sum<=(ts.map (·.dr)).sum:=by
   have:=WU (l:=ts.take k) λu hu=>s1 u (Ot hu)
   have e:(ts.map (·.dr)).sum=((ts.take k).map (·.dr)).sum+((ts.drop k).map (·.dr)).sum:=by
    rw[<- J0,<- jk,Bb]
   omega
  rw[hd,jf,qc]at j2 hsk;rw[hd,nX]at j3;have R9:=zXi m.p c t (left-t.dr);have e6:((rA m.p c t (left-t.dr)).map x7).length=(rA m.p c t (left-t.dr)).length:=ia ..;have hw:ak.wrap (left-t.dr)=left-t.dr:=iw oM;refine⟨⟨oM,oM⟩,t.dm,t.dr,t.gg,t.ir.map y5,jz ht (by simp[vB]) rfl,?_⟩;rw[hw];refine⟨⟨⟨m.p,o,Hn m.used c.id⟩,c,t,left-t.dr⟩,iA (iA (oL (iM ⟨rfl,⟨⟨hB.pc,hB.ps⟩,⟨Z9,Z9⟩,Z9,hs,λf hf=>(t2 f hf).1⟩,λ_ _=>⟨by dsimp only;rw[e5,e6];omega,⟨left-t.dr,k+1,out++rA m.p c t (left-t.dr)⟩,rfl,qu oM,by dsimp only;rw[jk],⟨Z9,Z9,by dsimp only;rw[j3,jd],by dsimp only;rw[iv];omega⟩,Z9,gn⟩⟩)))⟩
 have hk:k=ts.length:=by omega
 subst hk;rw[List.drop_of_length_le (ju _)]at j2 j3;rw[nX,oJ]at j3;rw[<- j3];rw[<- j3]at e5 j4;have hRB:=k1.ok;refine Cv.dp.mk (λe=> ?_) (λe=>Cv.dp.mk (λe2=> ?_) (λe2=> ?_))
 ·have e:lf=0:=i9 e
  rw[ez (by omega),ez (by omega),oJ];exact⟨⟨m.p,o,Hn m.used c.id⟩,iA (nr ⟨rfl,ho,rfl⟩)⟩
 ·have e:¬lf=0:=i9 e
  have e2:c.time=1:=i9 e2
  rw[ez (show ¬(lf≠0/\c.time≠1)by omega),fh (show lf≠0/\c.time=1 from⟨e,e2⟩),oJ];have ha:=(ho.add c.inst c.id (decide (c.side=2)) c.dm lf).1;rw[dL hs]at ha;exact⟨⟨o,c.inst,c.id,decide (c.side=2),c.dm,lf⟩,rfl,rfl,dL hs,rfl,rfl,rfl,ho.fit hRB,λ_ _=>⟨⟨m.p,(gy.iC ⟨o,c.inst,c.id,decide (c.side=2),c.dm,lf⟩).1,Hn m.used c.id⟩,iA (nr ⟨rfl,ha,rfl⟩)⟩⟩
 ·have e:¬lf=0:=i9 e
  have e2:¬c.time=1:=i9 e2
  rw[fh (show lf≠0/\c.time≠1 from⟨e,e2⟩),ez (show ¬(lf≠0/\c.time=1)by omega)];exact⟨by rw[e5];omega,⟨m.p,o,Hn m.used c.id⟩,iA (nf ⟨rfl,by rw[jk];rfl,rfl,ho,rfl⟩)⟩
def z7b:GP.ok Tryz.prog 196:=gx mixed (dw yBy (dw yOb (dw y1g fk))) 0 i6 (λi=>y6d i) [] Tryz.func196 y5r
def xBl:Jn.ok Tryz.prog 50:=gx (V:=y0k) mixed (dw zTm fk) 0 i6 i6 [0] Tryz.func50 λ(i:MfI) h=>by
 obtain⟨m,p,B,U,id⟩:=i;have h':m.ga p B U/\jh p B:=h;clear h;obtain⟨⟨ep,hR,eu⟩,hB⟩:=h';subst ep eu;have:=y7 m.p;have:=hB.bl;exact⟨⟨m.s,m.p,B,0,ap⟩,rfl,⟨hR,Z9⟩,λ_ _=>⟨(),gn⟩⟩
def zXt:Ju.ok Tryz.prog 116:=gx (V:=y0q) mixed (dw Vo fk) 0 i6 i6 [] Tryz.func116 λ(i:DK) h=>by
 obtain⟨m,p,B,U,id,q,inst,o,X⟩:=i;have h':(m.ga p B U/\jh p B)/\X=gL B U id inst o:=h;clear h;obtain⟨⟨⟨ep,hR,eu⟩,hB⟩,hX⟩:=h';subst ep eu hX;have:=y7 m.p;have:=hB.bl;exact⟨⟨m.s,m.p,B,id,o.dr⟩,rfl,rfl,rfl,⟨hR,Z9⟩,λo' ho=>⟨⟨m.p,o',m.used⟩,iA (nr ⟨rfl,ho,rfl⟩)⟩⟩
def zYp:Jh.ok Tryz.prog 117:=gx (V:=yHg) mixed (dw Vo fk) 0 i6 i6 [] Tryz.func117 λ(i:DK) h=>by
 obtain⟨m,p,B,U,id,q,inst,o,X⟩:=i;have h':(m.ga p B U/\jh p B)/\yP (o.dr-q)/\X=mA B U id q inst o:=h;clear h;obtain⟨⟨⟨ep,hR,eu⟩,hB⟩,hw,hX⟩:=h';subst ep eu hX;have:=y7 m.p;have:=hB.bl;have hw:=iw hw;unfold yHg QM Qa dI;dsimp only;rw[hw];exact⟨⟨m.s,m.p,B,id,q⟩,rfl,rfl,rfl,⟨hR,Z9⟩,λo' ho=>⟨⟨m.p,o',m.used⟩,iA (nr ⟨rfl,ho,rfl⟩)⟩⟩
def zYg {c:iq} (h:c.right=0):(if c.kind=1 then c.gl else if c.kind≠2/\jE c.dr=ap then 24 else if c.kind=4/\uN c.dm=ap then 23 else 0)=0:=by
 rw[iq.right]at h;by_cases c1:c.kind<1\/4<c.kind
 ·rw[fh c1]at h;cases h
 rw[ez c1]at h;by_cases c2:c.id<1\/1099511627776<c.id
 ·rw[fh c2]at h;cases h
 rw[ez c2]at h;exact h
def zWp {c:iq} (h:c.right=0) (hk:c.kind=1):(c.side=1\/c.side=2)/\(1<=c.dr/\c.dr<=1000000)/\(0<=c.least/\c.least<=c.dr):=by
 have h:=zYg h;rw[fh hk,iq.gl]at h;by_cases c1:c.side≠1/\c.side≠2
 ·rw[fh c1]at h;cases h
 rw[ez c1]at h;by_cases c2:c.time<1\/3<c.time
 ·rw[fh c2]at h;cases h
 rw[ez c2]at h;cases c3:jE c.dr with
 |false=>rw[fh c3]at h;cases h
 |true=>
  rw[ez (by rw[c3];decide)]at h;by_cases c4:c.least<0\/c.dr<c.least
  ·rw[fh c4]at h;cases h
  simp only[jE,lr,tn]at c3;exact⟨oM,c3,oM⟩
def zLm {c:iq} (h:c.right=0) (hk:¬c.kind=1) (oY:¬c.kind=2):1<=c.dr/\c.dr<=1000000:=by
 have h:=zYg h;rw[ez hk]at h;cases c3:jE c.dr with
 |false=>rw[fh ⟨oY,c3⟩]at h;cases h
 |true=>
  simp only[jE,lr,tn]at c3;exact c3
def y7r (i:qp) (h:GB.dp i):yQv i:=by
 obtain⟨m,p,B,U,c,X⟩:=i;have h':(m.ga p B U/\jh p B)/\c.right=0/\c.kind=1/\X=nY p B U c:=h;clear h;obtain⟨⟨hM,hB⟩,hr,hkd,hX⟩:=h';obtain⟨ep,hR,eu⟩:=hM;subst ep eu;have hM:m.ga m.p B m.used:=⟨rfl,hR,rfl⟩
 obtain⟨hs,hq,hl⟩:=zWp hr hkd;have zz:=hB.bl;have wv:=y7 m.p;unfold yQv QM Qa Qb Qd ff kM WB lT QE Qa eK Qa ff zGj Qa ff zFu QM zGs zHj Yo zHv zFh Yo uX qQ o8 dI;dsimp only;refine⟨⟨m.p,c.inst,c.dm⟩,iA (nf ⟨rfl,hB.ps,λ_ _=>Cv.dp.mk (λe=> ?_) (λe=> ?_)⟩)⟩
 ·have e:m.p.dm c.inst c.dm≠0:=i9 e
  have hx:X=⟨B,m.used,rG c (m.p.dm c.inst c.dm)⟩:=by rw[hX,nY,fh e]
  exact⟨⟨c,m.p.dm c.inst c.dm⟩,nr (iM ⟨rfl,trivial,λ_ _=>⟨m,iA (nf ⟨rfl,by rw[hx];rfl,by rw[hx];exact hM⟩)⟩⟩)⟩
 have Ke:m.p.dm c.inst c.dm=0:=i9 e
 have wu:=Zq Ke;have hib:0<=c.inst/\c.inst<B.length:=by omega
 rw[nY,ez (by rw[Ke];decide)]at hX;refine⟨0,λl=>l=c.L5,Cv.dp.mk (λe=>⟨c.dr,rfl,by rw[iq.L5,fh (i9 e)],gn⟩) (λe=>⟨c.least,rfl,by rw[iq.L5,ez (i9 e)],gn⟩),?_⟩;rintro _ rfl;refine⟨zYk _ _,_,_,yMg _ _,zG (λe=> ?_) (λe=> ?_)⟩
 ·have hx:X=⟨B,m.used,rG c 25⟩:=by rw[hX,fh e]
  exact⟨⟨c,25⟩,nr (iM ⟨rfl,trivial,λ_ _=>⟨m,iA (nf ⟨rfl,by rw[hx];rfl,by rw[hx];exact hM⟩)⟩⟩)⟩
 rw[ez e]at hX;refine⟨⟨m.s,m.p,B,0,ap⟩,rfl,⟨hR,Z9⟩,λ_ _=>zG (λe=> ?_) (λe=> ?_)⟩
 ·have hx:X=⟨B,m.used,rG c 13⟩:=by rw[hX,fh (by dsimp only at e;omega)]
  exact⟨⟨c,13⟩,nr (iM ⟨rfl,trivial,λ_ _=>⟨m,iA (nf ⟨rfl,by rw[hx];rfl,by rw[hx];exact hM⟩)⟩⟩)⟩
 rw[ez (by dsimp only at e;omega)]at hX;have oX:nv.ok ⟨m.s,m.p,B,c.inst,decide (c.side=2),c.dm,c.dr⟩:=⟨hR,hB,hib,hq.1,hq.2⟩
 refine⟨aq,λb=>b=decide (0<c.L5/\c.dr-(vN m.p B c.inst (decide (c.side=2)) c.dm c.dr).left<c.L5),zG (λe=>⟨⟨m.s,m.p,B,c.inst,decide (c.side=2),c.dm,c.dr⟩,rfl,dL hs,rfl,rfl,rfl,oX,λ_ _=>⟨_,rfl,decide_eq_decide.2 ⟨λx=>⟨e,x⟩,λx=>x.2⟩,gn⟩⟩) (λe=>⟨ap,rfl,(jv λx=>e x.1).symm,gn⟩),?_⟩;rintro _ rfl;refine zG (λe=> ?_) (λe=> ?_)
 ·have hx:X=⟨B,m.used,rG c 28⟩:=by rw[hX,fh e]
  exact⟨⟨c,28⟩,nr (iM ⟨rfl,trivial,λ_ _=>⟨m,iA (nf ⟨rfl,by rw[hx];rfl,by rw[hx];exact hM⟩)⟩⟩)⟩
 rw[ez e]at hX;refine⟨aq,λb=>b=decide (c.time=1/\nI m.p B c.inst (decide (c.side=2)) c.dm c.dr=aq),Cv.dp.mk (λe=>⟨⟨m.s,m.p,B,c.inst,decide (c.side=2),c.dm,c.dr⟩,rfl,dL hs,rfl,rfl,rfl,oX,λ_ _=>⟨_,rfl,?_,gn⟩⟩) (λe=>⟨ap,rfl,(jv λx=> ?_).symm,gn⟩),?_⟩
 ·have e:c.time=1:=i9 e
  dsimp only;cases hb:nI m.p B c.inst (decide (c.side=2)) c.dm c.dr with
  |true=>exact(jo ⟨e,rfl⟩).symm
  |false=>exact(jv λx=>by cases x.2).symm
 ·rw[x.1]at e;cases e
 rintro _ rfl;refine zG (λe=> ?_) (λe=> ?_)
 ·have hx:X=⟨B,m.used,rG c 23⟩:=by rw[hX,fh e]
  exact⟨⟨c,23⟩,nr (iM ⟨rfl,trivial,λ_ _=>⟨m,iA (nf ⟨rfl,by rw[hx];rfl,by rw[hx];exact hM⟩)⟩⟩)⟩
 rw[ez e]at hX;exact⟨⟨m,m.p,B,m.used,c,X⟩,iA (iA (sy ⟨rfl,⟨⟨hM,hB⟩,⟨hib,hq,hs⟩,Ke,hX⟩,λo ho=>⟨o,iA (nr ho)⟩⟩))⟩
def yQg:GB.ok Tryz.prog 114:=gx mixed (dw PS (dw yBf (dw zTm (dw yLd (dw z4s (dw z7b fk)))))) 0 (λ_=>xAw) i6 [] Tryz.func114 y7r
def z0b {p:fj} {B:Q_ zJ} (h:rr p B) {id inst:Int} {o:zJ} (hf:z8 B id=(inst,o,aq)):(0<=inst/\inst<B.length)/\Ln o:=by
 rw[z8]at hf;split at hf
 ·cases hf
 ·rename_i k hk;obtain⟨L,hL,hh⟩:=u6 hk;rw[zX hL]at hf;cases hf;have gu:=(jm.1 hL).1;obtain⟨o,ho,e⟩:=np.1 (kr.1 hh);have hg:=lM (h.od k L hL).2.1 ho;rw[e]at hg;rw[hg];exact⟨oM,(h.od k L hL).1 o ho⟩
def zSj (p:fj) (c:iq):∀(l:List wY) (left:Int),(∀t∈l,Yk t/\1<=t.dr)->(nX p c l left).length<=1503*l.length
 |[],_,_=>ju _
 |t::l,left,h=>by
  have a:=zSj p c l (left-t.dr) λu hu=>h u (ji _ hu)
  have b:=zXi p c t (left-t.dr);have d:=(h t iX).1.2.2;rw[nX,iv,iF];omega
def zFp {p:fj} {B:Q_ zJ} (h:rr p B) (U:List Int) {c:iq} (hi:0<=c.inst/\c.inst<B.length) (hq:1<=c.dr/\c.dr<=1000000):(bI p B U c).R.length<=1503000002:=by
 obtain⟨s1,s2⟩:=z1s (inst:=c.inst) (sd:=decide (c.side=2)) (dm:=c.dm) _ c.dr B (ju _) h hi;have k3:=(sB (inst:=c.inst) (sd:=decide (c.side=2)) (dm:=c.dm) _ c.dr B (ju _) h).2.2 oM;have:=WU s1;have:=zSj p c _ c.dr s1;rw[sS];dsimp only;rw[iv,iF];split
 ·rw[iF,tz];omega
 ·rw[tz];omega
def yUy (i:NZ) (h:B1.dp i):z6f i:=by
 obtain⟨m,p,B,U,c,inst,o,X⟩:=i;have h':m.ga p B U/\jh p B/\z8 B c.id=(inst,o,aq)/\(1<=c.dr/\c.dr<=1000000)/\X=fK p B U c inst o:=h;clear h;obtain⟨hM,hB,hf,hq,hX⟩:=h';obtain⟨ep,hR,eu⟩:=hM;subst ep eu;have hM:m.ga m.p B m.used:=⟨rfl,hR,rfl⟩
 have BB:=hR.wf hB;obtain⟨wu,HS⟩:=z0b BB hf;have CL:=HS.s;have hoq:=HS.q;have zz:=hB.bl;have wv:=y7 m.p;unfold z6f QE QM Qa Qb Qd ff zGo QE QM Qa Qd ff kM dV NU Q0 WB mG eI QM qQ o8;dsimp only;refine⟨⟨m.p,inst,c.dm⟩,iA (nf ⟨rfl,hB.ps,λ_ _=>Cv.dp.mk (λe=> ?_) (λe=> ?_)⟩)⟩
 ·have e:m.p.dm inst c.dm≠0:=i9 e
  have hx:X=⟨B,m.used,rG c (m.p.dm inst c.dm)⟩:=by rw[hX,fK,fh e]
  exact⟨⟨c,m.p.dm inst c.dm⟩,nr (iM ⟨rfl,trivial,λ_ _=>⟨m,iA (nf ⟨rfl,by rw[hx];rfl,by rw[hx];exact hM⟩)⟩⟩)⟩
 have Ke:m.p.dm inst c.dm=0:=i9 e
 rw[fK,ez (by rw[Ke];decide)]at hX;have hw:ak.wrap (o.dr-c.dr)=o.dr-c.dr:=iw oM;rw[hw];refine(λhT=>Cv.dp.mk (λe1=>zG (λe2=> ?_) (λe2=>hT λx=>e2 x.2)) (λe1=>hT λx=>by rw[x.1]at e1;simp at e1)) (λ(hn:¬(c.dm=o.dm/\c.dr<=o.dr))=> ?_)
 ·have e1:c.dm=o.dm:=i9 e1
  rw[fh ⟨e1,e2⟩]at hX;exact⟨⟨m,m.p,B,m.used,c.id,o.dr-c.dr,inst,o,X⟩,iA (iA (nf ⟨rfl,⟨⟨hM,hB⟩,⟨Z9,Z9⟩,hX⟩,λo' ho=>⟨o',iA (nr ho)⟩⟩))⟩
 rw[ez hn]at hX;have hBt:=hB.take c.id o.dr;refine⟨m.s,rfl,hR.small hB,λ_ _=>⟨⟨m.s,m.p,B,c.id,o.dr⟩,rfl,rfl,rfl,⟨hR,Z9⟩,λo' oG=>⟨⟨o',m.p,(iO B c.id o.dr).1,inst,decide (o.side=2),c.dm,c.dr⟩,rfl,dL CL,rfl,rfl,rfl,⟨oG,hBt,by dsimp only;rw[sQ];exact wu,hq.1,hq.2⟩,λ_ _=>Cv.dp.mk (λe=> ?_) (λe=> ?_)⟩⟩⟩
 ·have hx:X=⟨B,m.used,rG c 23⟩:=by rw[hX,fh e]
  exact⟨⟨c,23⟩,nr (iM ⟨rfl,trivial,λ_ _=>⟨m,iA (nf ⟨rfl,by rw[hx];rfl,by rw[hx];exact hM⟩)⟩⟩)⟩
 rw[ez (by rw[e];decide)]at hX;refine⟨⟨m,m.p,B,m.used,c.id,0,inst,o,gL B m.used c.id inst o⟩,iA (iA (iM ⟨rfl,⟨⟨hM,hB⟩,rfl⟩,λo1 ho1=>⟨⟨o1,m.p,(iO B c.id o.dr).1,m.used,⟨1,c.id,inst,o.side,c.dm,c.dr,0,1,[]⟩,bI m.p (iO B c.id o.dr).1 m.used ⟨1,c.id,inst,o.side,c.dm,c.dr,0,1,[]⟩⟩,iA (iA (sy ⟨rfl,⟨⟨ho1,hBt⟩,⟨by dsimp only;rw[sQ];exact wu,hq,CL⟩,Ke,rfl⟩,λo2 OO=>⟨?_,o2,rfl,rfl,rfl,rfl,rfl,rfl,rfl,rfl,rfl,rfl,rfl,rfl,rfl,?_,?_⟩⟩))⟩⟩))⟩
 ·have:=zFp (BB.take c.id o.dr) m.used (c:=⟨1,c.id,inst,o.side,c.dm,c.dr,0,1,[]⟩) (by dsimp only;rw[sQ];exact wu) hq;dsimp only;rw[ia,ia];have e1:(gL B m.used c.id inst o).R.length=1:=rfl;omega
 ·rw[hX,<- jk];rfl
 ·rw[hX];exact OO
def z8r:B1.ok Tryz.prog 115:=gx mixed (dw PS (dw yBf (dw P4 (dw Vo (dw z4s (dw zXt (dw zYp (dw z7b fk)))))))) 0 i6 i6 [] Tryz.func115 yUy
def vdo (i:qp) (h:doC.dp i):Vdo i:=by
 obtain⟨m,p,B,U,c,X⟩:=i;have h':(m.ga p B U/\jh p B)/\c.label.length<=140737488355328/\yP c.dr/\X=Aa p B U c:=h;clear h;obtain⟨⟨hM,hB⟩,hlb,hqr,hX⟩:=h';obtain⟨ep,hR,eu⟩:=hM;subst ep eu;have hM:m.ga m.p B m.used:=⟨rfl,hR,rfl⟩
 have BB:=hR.wf hB;have zz:=hB.bl;have wv:=y7 m.p;unfold Vdo QE Qa Qd ff lT QE Qa yPd QE QW Qa Qd ff mG yAx QE QW Qa z1n QE YG QE Qa;dsimp only;refine⟨c,iA ⟨rfl,hlb,λ_ _=>Cv.dp.mk (λe=> ?_) (λe=> ?_)⟩⟩
 ·have e:c.right≠0:=i9 e
  have hx:X=⟨B,m.used,rG c c.right⟩:=by rw[hX,Aa,fh e]
  exact⟨⟨c,c.right⟩,nr (iM ⟨rfl,trivial,λ_ _=>⟨m,iA (nf ⟨rfl,by rw[hx];rfl,by rw[hx];exact hM⟩)⟩⟩)⟩
 have hr:c.right=0:=i9 e
 rw[Aa,ez (by rw[hr];decide)]at hX;refine Cv.dp.mk (λe=> ?_) (λe=> ?_)
 ·have e:c.kind=1:=i9 e
  rw[fh e]at hX;exact⟨⟨m,m.p,B,m.used,c,X⟩,iA (iA (sy ⟨rfl,⟨⟨hM,hB⟩,hr,e,hX⟩,λo ho=>⟨o,iA (nr ho)⟩⟩))⟩
 have hk:¬c.kind=1:=i9 e
 rw[ez hk]at hX;refine(λhT=>⟨hT,rfl,trivial,hT⟩) ?_;refine⟨⟨m.s,m.p,B,c.id,0⟩,rfl,rfl,⟨hR,Z9⟩,λ_ _=>Cv.dp.mk (λe=> ?_) (λe=> ?_)⟩
 ·have e:(z8 B c.id).2.2=ap:=i9 e
  have hx:X=⟨B,m.used,rG c 26⟩:=by rw[hX,fh e]
  exact⟨⟨c,26⟩,nr (iM ⟨rfl,trivial,λ_ _=>⟨m,iA (nf ⟨rfl,by rw[hx];rfl,by rw[hx];exact hM⟩)⟩⟩)⟩
 have e:(z8 B c.id).2.2=aq:=i9 e
 rw[ez (by rw[e];decide)]at hX;dsimp only;have hf:z8 B c.id=((z8 B c.id).1,(z8 B c.id).2.1,aq):=by rw[<- e]
 generalize (z8 B c.id).1=inst at*;generalize (z8 B c.id).2.1=o at*;obtain⟨wu,HS⟩:=z0b BB hf;have hoq:=HS.q;refine Cv.dp.mk (λe4=> ?_) (λe4=>Cv.dp.mk (λe2=> ?_) (λe2=>zG (λe3=> ?_) (λe3=> ?_)))
 ·have e4:c.kind=4:=i9 e4
  rw[fh e4]at hX;exact⟨⟨m,m.p,B,m.used,c,inst,o,X⟩,iA (iA (iA (iM ⟨rfl,⟨hM,hB,hf,zLm hr hk (by rw[e4];decide),hX⟩,λo' ho=>⟨o',iA (nr ho)⟩⟩)))⟩
 all_goals
  have e4:¬c.kind=4:=i9 e4
  rw[ez e4]at hX
 ·have e2:c.kind=2:=i9 e2
  rw[fh (.inl e2)]at hX;exact⟨⟨m,m.p,B,m.used,c.id,0,inst,o,X⟩,iA (iA (iM ⟨rfl,⟨⟨hM,hB⟩,hX⟩,λo' ho=>⟨o',iA (nr ho)⟩⟩))⟩
 ·rw[fh (.inr (by omega))]at hX;exact⟨⟨m,m.p,B,m.used,c.id,0,inst,o,X⟩,iA (iA (iM ⟨rfl,⟨⟨hM,hB⟩,hX⟩,λo' ho=>⟨o',iA (nr ho)⟩⟩))⟩
 ·have e2:¬c.kind=2:=i9 e2
  have hq:=zLm hr hk e2;rw[ez (by omega)]at hX;exact⟨⟨m,m.p,B,m.used,c.id,c.dr,inst,o,X⟩,iA (iA (nf ⟨rfl,⟨⟨hM,hB⟩,⟨Z9,Z9⟩,hX⟩,λo' ho=>⟨o',iA (nr ho)⟩⟩))⟩
def xDr:doC.ok Tryz.prog 49:=gx mixed (dw Ze (dw yBf (dw yNt (dw yQg (dw z8r (dw zXt (dw zYp fk))))))) 0 i6 i6 [0] Tryz.func49 vdo
def zYt {p:fj} (hc:p.check=0):1<=p.count/\p.count<=21:=by
 have h1:=VA hc;have h2:=(jB hc).m2;have h3:=y7 p;omega
def yXk (c:iq):1<=uY c/\uY c<=4:=by
 have:=yZ (n:=c.kind) (lo:=0) (hi:=8) oM;rw[uY];split<;>omega
def yLl (t:zd):(xI t).kind=uY t.c:=by
 rw[xI];split<;>rfl
def yRc (t:zd):1<=(xI t).dr/\(xI t).dr<=12:=by
 have:=yZ (n:=t.c.dr) (lo:=0) (hi:=11) oM;have e:(xI t).dr=1+zI t.c.dr 0 11:=by rw[xI];split<;>rfl
 omega
def zHo (t:zd):(xI t).label=[]:=by
 rw[xI];split<;>rfl
def z5q (x:fj) (c:iq) (i:Int) (hk:uY c=1):let y:=xI ⟨ig x,c,i⟩
 (0<=y.inst/\y.inst<(ig x).count)/\(y.side=1\/y.side=2)/\(1<=y.time/\y.time<=3)/\(0<=y.least/\y.least<=y.dr)/\(-2000000<=y.dm/\y.dm<=2000000)/\(ig x).dm y.inst y.dm=0:=by
 have hc:=pU x;have hcb:=zYt hc;have ht:=Vv x;have wi:=yZ (n:=c.inst) (lo:=0) (hi:=((ig x).count:Int)-1) oM;have ws:=yZ (n:=c.side) (lo:=0) (hi:=1) oM;have wq:=yZ (n:=c.dr) (lo:=0) (hi:=11) oM;have wp:=yZ (n:=c.dm) (lo:=0) (hi:=9) oM;have ww:=yZ (n:=x.wide) (lo:=0) (hi:=60) oM;have wl:=yZ (n:=c.least) (lo:=0) (hi:=1+zI c.dr 0 11) oM;have hm:=JE (a:=zW x) (b:=zI c.dm 0 9) (m:=zW x) (n:=9) oM wp;have hw:=JE (a:=zW x) (b:=zI x.wide 0 60) (m:=zW x) (n:=60) oM ww;have hh:(xB ⟨ig x,c,i⟩).kind=1:=hk;have e:xI ⟨ig x,c,i⟩={xB ⟨ig x,c,i⟩with id:=i+1,time:=cA c,least:=aH c (1+zI c.dr 0 11),dm:=if((ig x).gp (zI c.inst 0 ((ig x).count-1))).2.2=aq then zW x*zI c.dm 0 9-4*zW x else zW x*zI c.dm 0 9+8*zW x}:=by
  rw[xI,fh hh];rfl
 intro y;have ey:y=_:=e;rw[ey];have htm:1<=cA c/\cA c<=3:=by rw[cA];split;omega;split<;>omega
 have hle:0<=aH c (1+zI c.dr 0 11)/\aH c (1+zI c.dr 0 11)<=1+zI c.dr 0 11:=by rw[aH];split<;>omega
 refine⟨⟨wi.1,by show zI c.inst 0 ((ig x).count-1)<_;omega⟩,by show 1+zI c.side 0 1=1\/1+zI c.side 0 1=2;omega,htm,hle,?_,?_⟩
 ·dsimp only;split<;>omega
 ·dsimp only;show(ig x).dm (zI c.inst 0 ((ig x).count-1)) _=0;obtain⟨k,oY⟩:∃k:Nat,zI c.inst 0 (((ig x).count:Int)-1)=k:=⟨(zI c.inst 0 (((ig x).count:Int)-1)).toNat,oM⟩
  rw[oY]at wi ⊢;have hkc:k<(ig x).count:=by omega
  have et:(ig x).tick=zW x:=rfl;have el:(ig x).low= -20*zW x:=rfl;have eh:(ig x).high=100*zW x:=rfl;have ew:(ig x).wide=zW x*(5+zI x.wide 0 60):=rfl;rw[Int.mul_add]at ew;rw[fj.dm,ez (by omega),ez (by omega),et,el,eh,ew];rcases dM hc hkc with⟨h1,_⟩|⟨h1,h2⟩
  ·have Me:((ig x).dt.length:Int)<=k:=by
    rcases uz k (ig x).dt.length with y|y
    ·rw[fj.gp,ez (by omega),fh (by omega)]at h1;cases h1
    ·omega
   rw[fh h1,fh Me,fh Me,ez,ez (by omega)];have:zW x*zI c.dm 0 9-4*zW x=zW x*(zI c.dm 0 9-4):=by rw[Int.mul_sub,Eb 4]
   rw[this,NT];decide
  ·have gu:¬((ig x).dt.length:Int)<=k:=by omega
   rw[ez (show ¬((ig x).gp k).2.2=aq by rw[h1];decide),ez gu,ez gu,ez,ez (by omega)];have:zW x*zI c.dm 0 9+8*zW x=zW x*(zI c.dm 0 9+8):=by rw[Int.mul_add,Eb 8]
   rw[this,NT];decide
def zVf (x:fj) (c:iq) (i:Int): -2000000<=(xI ⟨ig x,c,i⟩).dm/\(xI ⟨ig x,c,i⟩).dm<=2000000:=by
 have ht:=Vv x;have wp:=yZ (n:=c.dm) (lo:=0) (hi:=9) oM;have hm:=JE (a:=zW x) (b:=zI c.dm 0 9) (m:=zW x) (n:=9) oM wp;have et:(ig x).tick=zW x:=rfl;by_cases h1:uY c=1
 ·obtain⟨_,_,_,_,h,_⟩:=z5q x c i h1;exact h
 ·have hh:¬(xB ⟨ig x,c,i⟩).kind=1:=h1;have e:(xI ⟨ig x,c,i⟩).dm=if(xB ⟨ig x,c,i⟩).kind=4 then zW x*zI c.dm 0 9+5*zW x else zW x*zI c.dm 0 9:=by rw[xI,ez hh];rfl
  rw[e];split<;>omega
def z8l (x:fj) (c:iq) (i id:Int) (Bg:1<=id/\id<=1099511627776):iq.right {xI ⟨ig x,c,i⟩with id:=id}=0:=by
 have hk:=yXk c;have hq:=yRc ⟨ig x,c,i⟩;have hp:=zVf x c i;have hcb:=zYt (pU x);rw[iq.right];dsimp only;rw[yLl];dsimp only;rw[ez (by omega),ez (by omega)];have q1:jE (xI ⟨ig x,c,i⟩).dr=aq:=by rw[jE,jo (by omega),jo (by omega)];rfl
 have q2:uN (xI ⟨ig x,c,i⟩).dm=aq:=by rw[uN,jo (by omega),jo (by omega)];rfl
 by_cases h1:uY c=1
 ·obtain⟨a1,a2,a3,a4,a5,a6⟩:=z5q x c i h1;rw[fh h1,iq.gl];dsimp only;rw[ez (by omega),ez (by omega),ez (by rw[q1];decide),ez (by omega),ez (by rw[zHo];simp),ez (by rw[q2];decide),ez (by omega)]
 ·rw[ez h1,ez (by rw[q1];simp),ez (by rw[q2];simp)]
end Sx
