/- Texts of ours. No condition. -/
import Derived.Test.YtfmobncdogfbmaaGreatR8
set_option linter.all false
open Sx.fq renaming kr->aa,cells->ab,km->ac,map->ae,own->af
open List renaming map->ag
open Go.IntKind renaming i64->aj
open Go.Value renaming int->ak,string->am
open Bool renaming false->ao,true->ap
open Option renaming some->aq,none->ar
open True renaming intro->Y_
open Cv.dp renaming mk->W_
namespace Sx
set_option maxRecDepth 100000
open Go Cv Go.Proofs
open Tryz renaming prog->Z_
open Tryz hiding prog
def N' (a:dq):Prop:=Q0 a.a a (a.spare.length<=1000000)
def dV (a:gz):Prop:=a.ez.length<=1000000/\∀(b:dq),b∈a.ez->N' b
def kK (a:oa):Prop:=a.s.ga a.p a.B/\jf a.p a.B/\(0<=a.inst/\a.inst<(a.B.length:Int))/\1<=a.q/\a.q<=1000000
def zHf (a:oa):Prop:=∃(b:gz),Qa b.p a.s.p (QG b a.s ((dV b)/\ff (∃(d:oa),d.inst=a.inst/\zF d.sd=zF a.sd/\d.dm=a.dm/\d.q=a.q/\zE d.s=zE b/\(kK d)/\∀(e:gz),e.ga d.p d.r.B->dx (a.q-a.r.left=aj.wrap (a.q-d.r.left)/\zE a.s=zE b/\True))))
def vT (a:oa):Prop:=dx (a.q-a.r.left=0/\Qc a.s.p (dk (ac 160 dq 6 zR a.s.ez ar)/\QI a.s (True)))
def yIq (i:oa):Prop:=
 dp (decide (i.inst>=0)) (dp (decide (i.inst<(i.s.ez.length:Int))) (dp (zF i.sd==1) (dp (decide (i.q>=1)) (dp (!decide (i.q<=1000000)) (vT i) (zHf i)) (vT i)) (dp (zF i.sd==2) (dp (decide (i.q>=1)) (dp (!decide (i.q<=1000000)) (vT i) (zHf i)) (vT i)) (vT i))) (vT i)) (vT i)
def z3x (i:zp):Prop:=
 dx (((ET i.B):Int)=((yT i.s.wh).length:Int)/\Qc i.s.p (dk (ac 160 dq 6 zR i.s.ez ar)/\QI i.s (True)))
def cH (a:Int×Int->Prop) (b:Int×Int) (c:Pp):Prop:=a b/\Bp c.p (dk (aa 1 (iE c.p.dt)))
def xD (a:Pp):=(cF a.p a.inst a.dm)
def z6m (i:Pp):Prop:=
 ∃(a:fj),Qb a i.p ((zV a)/\ff (dp (a.check !=0) (dx ((xD i).fst=0/\(xD i).snd.fst=0/\(xD i).snd.snd=1/\True)) (∃(c:aK),Qb c.p i.p (c.n=i.inst/\(j8 c)/\ff (dp (!(c.p.gp c.n).snd.snd) (dx ((xD i).fst=0/\(xD i).snd.fst=0/\(xD i).snd.snd=20/\True)) (∃(e:A9),Qb e.p i.p (e.a=i.inst/\e.b=i.dm/\(qQ e)/\ff (dp (e.p.dm e.a e.b !=0) (dx ((xD i).fst=0/\(xD i).snd.fst=0/\(xD i).snd.snd=e.p.dm e.a e.b/\True)) ((0<=(c.p.gp c.n).snd.fst/\(c.p.gp c.n).snd.fst<((iE i.p.settle).length:Int))/\∃(g:Int),zC (iE i.p.settle) (c.p.gp c.n).snd.fst.toNat 0 1=aq [dI g]/\∃(h:Int×Int),∃(j:Int×Int->Prop),dp (decide (aj.wrap (g+i.dm)>i.p.high)) (∃(k:Int×Int),k.fst=i.p.high/\k.snd=aj.wrap (i.p.high-i.dm)/\cH j k i) (∃(k:Int×Int),k.fst=aj.wrap (g+i.dm)/\k.snd=g/\cH j k i)/\∀(k:Int×Int),j k->∃(l:Int×Int),∃(m:Int×Int->Prop),dp (decide (k.fst<i.p.low)) (∃(n:Int×Int),n.fst=i.p.low/\n.snd=aj.wrap (i.p.low-i.dm)/\cH m n i) (∃(n:Int×Int),n.fst=k.fst/\n.snd=k.snd/\cH m n i)/\∀(n:Int×Int),m n->dx ((xD i).fst=n.fst/\(xD i).snd.fst=n.snd/\(xD i).snd.snd=0/\True))))))))))
def zFn (a:gz) (b:gz):Prop:=sb a.p.code=sb b.p.code/\True/\Qr a.p b.p (True/\True)
def yTu (i:oa):Prop:=
 ∃(a:gz),zE a=zE i.s/\(dV a)/\ff (∃(c:oa),c.inst=i.inst/\zF c.sd=zF i.sd/\c.dm=i.dm/\c.q=i.q/\zE c.s=zE a/\(kK c)/\∀(d:gz),d.ga c.p c.r.B->dp (c.r.left==0) (dx (nB i.p i.B i.inst i.sd i.dm i.q=ao/\zE i.s=zE a/\True)) (∃(e:gz),Qa e.p d.p (QG e d ((gY e)/\ff ((zFn e d)/\∃(g:Bool),zF g=zF i.sd/\True/\ff ((zFn e d)/\∃(j:Bw),Qo j.i d e (j.i.inst=i.inst/\zF j.s=zF !g/\(kJ j)/\ff (∃(l:Nat),(l:Int)=0/\∃(m:Nat->Prop),∃(n:Nat->Nat),m l/\∀(p:Nat),m p->dp (decide ((p:Int)<(dR j))) ((0<=(p:Int)/\(p:Int)<(dR j))/\∃(q:Int),∃(r:Int),∃(s:Int),∃(t:Int),∃(u:Int),∃(v:Int),zC (wN j) (p:Int).toNat 0 6=aq [dI q,dI r,dI s,dI t,dI u,dI v]/\∃(w:S3),zF w.s=zF i.sd/\w.p=i.dm/\w.x=q/\True/\ff (dp (aZ w.s w.p w.x) (dx (nB i.p i.B i.inst i.sd i.dm i.q=ap/\zE i.s=zE a/\True)) (∃(y:Nat),QM y p m n (dk (af 271 6 (wN j))/\dk (ab [V.d (dU e),V.own 5,V.d (dI e.p.tick),V.d (dI e.p.low),V.d (dI e.p.high),V.d (dI e.p.wide),V.d (dI e.p.gn),V.d (dI e.p.top),V.d (dI e.p.least),V.d (dI e.p.part),V.own 6,V.own 3,V.mp 4] (159:TypeId))/\dk (ac 160 dq 6 zR e.ez ar)/\dk (ae (yT e.wh))/\vt e.p (dk (aa 6 (ag yC e.fm))/\vt d.p (dk (af 205 4 (ag vG c.r.steps))/\zE a=zE a)))))) (dx (nB i.p i.B i.inst i.sd i.dm i.q=ao/\zE i.s=zE a/\True))))))))))
def gz.ga.small {s:gz} {p:fj} {B:Q_ zK} (h:s.ga p B) (hb:jf p B):s.small:=by
 have:=y8 p;refine⟨by rw[h.bl,hb.bl];omega,λb hm=> ?_⟩;obtain⟨k,hk⟩:=BB.1 hm;have gr:=(jk.1 hk).1;rw[h.bl]at gr;obtain⟨L,hL⟩:=zZ gr;obtain⟨Q,c,_⟩:=h.bk k b L hk hL;exact c.small
def y0w (i:oa) (h:DW.dp i):yIq i:=by
 have h':i.ok:=h;obtain⟨hR,hB,⟨h0,h1⟩,xb,uo⟩:=h';have Aj:=hR.bl;have hl:=(rU (inst:=i.inst) (sd:=i.sd) (dm:=i.dm) _ i.q i.B (jx _) (hR.wf hB)).2.2 oM;have er:i.r=vO i.p i.B i.inst i.sd i.dm i.q:=rfl;unfold yIq zHf QG Qa ff dx kK dV N' Q0 vT QI Qc dx;refine(λhT=>zH (λc=>zH (λc2=>W_ (λ_=>zH (λ_=>W_ (λe=>absurd uo (i9 e)) (λ_=>hT)) (λe=>absurd xb e)) (λe1=>W_ (λ_=>zH (λ_=>W_ (λe=>absurd uo (i9 e)) (λ_=>hT)) (λe=>absurd xb e)) (λe2=>by
  rcases PO i.sd with e|e
  ·rw[e]at e1;cases e1
  ·rw[e]at e2;cases e2))) (λc2=>absurd oM c2)) (λc=>absurd h0 c)) ?_
 refine⟨i.s,iB (nh ⟨rfl,hR.small hB,λ_ _=>⟨i,nh ⟨rfl,h,λo ho=>⟨(),?_,rfl,Y_⟩⟩⟩⟩)⟩;rw[iw (by rw[er];omega)]
def yLg:DW.ok Z_ 100:=gy mixed (dw P5 (dw yCe fk)) 2 i6 i6 [0] func100 y0w
def yWi (i:zp) (h:Cf.dp i):z3x i:=by
 obtain⟨hR,hB⟩:i.s.ga i.p i.B/\i.B.length<=1000:=h;unfold z3x QI Qc dx;have e:(yT i.s.wh).length=ET i.B:=by rw[yT,ib,hR.wh.length_eq,ET]
 exact⟨(),by rw[e],gj⟩
def zSd:Cf.ok Z_ 103:=gy mixed fk 0 i6 i6 [0] func103 yWi
def Zt {p:fj} {i n:Int} (h:p.dm i n=0):0<=i/\i<p.count:=by
 rw[fj.dm]at h;split at h
 ·cases h
 split at h
 ·cases h
 omega
def yWb (i:Pp) (h:Cc.dp i):z6m i:=by
 obtain⟨hc,hp,So⟩:i.p.check=0/\i.p.small/\gx i.dm:=h;unfold z6m Qb ff dx xD cH Bp zV ph j8 ph qQ ph dI;refine⟨i.p,oO (iP ⟨rfl,hp,λ_ _=>W_ (λe=>by rw[hc]at e;cases e) (λ_=> ?_)⟩)⟩;refine⟨⟨i.p,i.inst⟩,iB (iP ⟨rfl,hp,λ_ _=>W_ (λe=> ?_) (λe=> ?_)⟩)⟩
 ·have e:(i.p.gp i.inst).2.2=ao:=i9 e
  have h0:cF i.p i.inst i.dm=(0,0,20):=by rw[cF,fh e]
  rw[h0];exact⟨(),iP Y_⟩
 have e:(i.p.gp i.inst).2.2=ap:=i9 e
 refine⟨⟨i.p,i.inst,i.dm⟩,iB (nh ⟨rfl,hp,λ_ _=>W_ (λe2=> ?_) (λe2=> ?_)⟩)⟩
 ·have e2:¬i.p.dm i.inst i.dm=0:=i9 e2
  have h0:cF i.p i.inst i.dm=(0,0,i.p.dm i.inst i.dm):=by rw[cF,eg (by rw[e];decide),fh e2]
  rw[h0];exact⟨(),iP Y_⟩
 have e2:i.p.dm i.inst i.dm=0:=i9 e2
 have xd:=Zt e2;have BJ:=Re hc e2;have ok:=jH hc;have b1:=ok.b1;have b2:=ok.b2;have b3:=ok.b3;have s1:=ok.s1;have s2:=ok.s2;have s3:=ok.s3;obtain⟨k,hk⟩:∃k:Nat,i.inst=k:=⟨i.inst.toNat,oM⟩
 have hl:=dC hc (k:=k) oM;rw[<- hk]at hl;rcases hl with⟨_,_,_,l3,l4⟩|⟨x,_⟩
 rotate_left
 ·rw[e]at x;cases x
 have zc:(iE i.p.settle).length=i.p.settle.length:=y9 _;obtain⟨n,hn⟩:=zZ (l:=i.p.settle) (i:=(i.p.gp i.inst).2.1.toNat) oM;have hm:=kx hn;have m1:=yGk hm;have m2:=yIy hm;have hg:i.p.settle.getD (i.p.gp i.inst).2.1.toNat 0=n:=zX hn;have h0:cF i.p i.inst i.dm=(if(if i.p.high<n+i.dm then(i.p.high,i.p.high-i.dm)else(n+i.dm,n)).1<i.p.low then(i.p.low,i.p.low-i.dm,0)else((if i.p.high<n+i.dm then(i.p.high,i.p.high-i.dm)else(n+i.dm,n)).1,(if i.p.high<n+i.dm then(i.p.high,i.p.high-i.dm)else(n+i.dm,n)).2,0)):=by
  rw[cF,eg (by rw[e];decide),eg (by rw[e2];decide)];dsimp only;rw[hg]
 dsimp only;refine⟨⟨l3,oM⟩,n,rq hn,(0,0),λa=>a=if i.p.high<n+i.dm then(i.p.high,i.p.high-i.dm)else(n+i.dm,n),zH (λc=>⟨(i.p.high,i.p.high-i.dm),rfl,(iw oM).symm,?_,gj⟩) (λc=>⟨(n+i.dm,n),(iw oM).symm,rfl,?_,gj⟩),?_⟩
 ·rw[iw X_]at c;rw[fh c]
 ·rw[iw X_]at c;rw[eg c]
 rintro _ rfl;generalize (if i.p.high<n+i.dm then(i.p.high,i.p.high-i.dm)else(n+i.dm,n))=a at h0 ⊢;refine⟨(0,0),λb=>b=if a.1<i.p.low then(i.p.low,i.p.low-i.dm)else a,zH (λc=>⟨(i.p.low,i.p.low-i.dm),rfl,(iw oM).symm,by rw[fh c],gj⟩) (λc=>⟨a,rfl,rfl,by rw[eg c],gj⟩),?_⟩;rintro _ rfl;rw[h0];by_cases c:a.1<i.p.low
 ·rw[fh c,fh c];exact⟨(),iP Y_⟩
 ·rw[eg c,eg c];exact⟨(),iP Y_⟩
def yBx:Cc.ok Z_ 303:=gy mixed (dw pC (dw NY (dw Rf fk))) 0 (λ_=>lpJ) i6 [] func303 yWb
def yZe {l:List Quote} {k:Nat} {q:Quote} (h:l[k]? =aq q):zC (l.map zL) k 0 6=aq [D.v (.int .i64 q.dm),D.v (.int .i64 q.dr),D.v (.int .i64 q.a.inst),D.v (.int .i64 q.a.side),D.v (.int .i64 q.b.inst),D.v (.int .i64 q.b.side)]:=jz h (by simp[zL]) rfl
def y8x (i:oa) (h:Gz.dp i):yTu i:=by
 have h':i.ok:=h;obtain⟨hR,hB,⟨h0,h1⟩,xb,uo⟩:=h';have BH:=hR.wf hB;obtain⟨k1,k2,k3⟩:=rU (inst:=i.inst) (sd:=i.sd) (dm:=i.dm) _ i.q i.B (jx _) BH;have xe:=y8 i.p;unfold yTu QG QM Qa vt ff dx Qo dU zFn Qr kK dV N' Q0 dR wN kJ ph gK gY dI;refine⟨i.s,rfl,hR.small hB,λ_ _=>⟨i,nh ⟨rfl,h,λo ho=> ?_⟩⟩⟩;have er:i.r=vO i.p i.B i.inst i.sd i.dm i.q:=rfl;have es:nB i.p i.B i.inst i.sd i.dm i.q=(decide ((vO i.p i.B i.inst i.sd i.dm i.q).left≠0) && (kY ⟨i.p,(vO i.p i.B i.inst i.sd i.dm i.q).B.map qC,i.inst⟩ (zF (!i.sd))).any λx=>aZ i.sd i.dm x.dm):=rfl;rw[er]at ho ⊢;rw[es];generalize vO i.p i.B i.inst i.sd i.dm i.q=R at*;obtain⟨ts,lf,RB⟩:=R;dsimp only at*;refine W_ (λe=>⟨(),?_,rfl,Y_⟩) (λe=> ?_)
 ·have e:lf=0:=i9 e
  rw[e];rfl
 have e:lf≠0:=i9 e
 rw[jt e,AA];have ep:=ho.ep;have hB':=k1.ok;have Aj:=hB'.bl;have BW:o.oe:=ho.Fm oM;have Cn:o.p.small:=by rw[ep];exact hB'.ps
 have sx:vW (RB.map qC):=hB'.fm;have hle:=V2 ⟨o.p,RB.map qC,i.inst⟩ (zF (!i.sd));refine⟨o,iB (nh ⟨rfl,BW,λ_ _=>⟨⟨rfl,Y_,oO ⟨rfl,Y_,Y_⟩⟩,i.sd,rfl,Y_,λ_ _=>⟨⟨rfl,Y_,oO ⟨rfl,Y_,Y_⟩⟩,⟨⟨o.p,RB.map qC,i.inst⟩,!i.sd⟩,oO (iP ⟨rfl,by rw[ho.fm],rfl,rfl,⟨Cn,sx⟩,λ_ _=> ?_⟩)⟩⟩⟩)⟩;dsimp only;rw[<- ep];generalize kY ⟨o.p,RB.map qC,i.inst⟩ (zF (!i.sd))=Q at*;have e4:(Q.map zL).length=Q.length:=ib ..;refine⟨0,rfl,λj=>j<=Q.length/\(Q.take j).any (λx=>aZ i.sd i.dm x.dm)=ao,λj=>Q.length-j,⟨ml _,rfl⟩,?_⟩;rintro j ⟨j1,j2⟩;refine zH (λc=> ?_) (λc=>⟨(),?_,rfl,Y_⟩)
 ·obtain⟨q,hq⟩:=zZ (l:=Q) (i:=j) oM;refine⟨⟨oM,oM⟩,_,_,_,_,_,_,yZe hq,⟨i.sd,i.dm,q.dm⟩,rfl,rfl,rfl,Y_,λ_ _=>W_ (λg=>⟨(),?_,rfl,Y_⟩) (λg=>⟨j+1,pf oM,⟨oM,?_⟩,Z9,gj⟩)⟩
  ·rw[Oy];exact⟨q,kx hq,g⟩
  ·rw[qf,hq,List.any_append,j2];show(ao||([q].any λx=>aZ i.sd i.dm x.dm))=ao;simp only[List.any_cons,List.any_nil,Bool.or_false,L8];exact g
 ·have:j=Q.length:=X_
  rw[this,ng (jx _)]at j2;exact j2
def z8l:Gz.ok Z_ 195:=gy mixed (dw P5 (dw yCe (dw z7z (dw yWe (dw zWp (dw z4x fk)))))) 0 (λ_=>xAm) (λ_=>y8a) [] func195 y8x
def rT (c:ir) (pk:Int):List ga:=[⟨2,c.id,0,0,0,0,0,pk⟩]
def FU (x:wY) (k:Int):Int:=match x.iu.find? λf=>decide (f.inst=k)with
 |some f=>f.dm
 |none=>x.dm
def uC (p:fj) (inst:Int) (x:wY):Int×Int:=if x.gg=ao then((cF p inst x.dm).1,(cF p inst x.dm).2.1)else(FU x (p.gp inst).1,FU x (p.gp inst).2.1)
def P0 (p:fj) (r:ga) (BS Fj:Int):List ga:=[{r with inst:=(p.gp r.inst).1,dm:=BS},{r with inst:=(p.gp r.inst).2.1,side:=3-r.side,dm:=Fj}]
def rN (p:fj) (x:wY) (r:ga):List ga:=r::if(p.gp r.inst).2.2=ap then P0 p r (uC p r.inst x).1 (uC p r.inst x).2 else[]
def Ip (f:cX):ga:=⟨3,f.id,f.inst,f.side,f.dm,f.dr,f.left,0⟩
def rM (p:fj) (c:ir) (x:wY) (left:Int):List ga:=x.iu.flatMap (λf=>rN p x (Ip f))++rN p x ⟨3,c.id,c.inst,c.side,x.dm,x.dr,left,0⟩
def pN (p:fj) (c:ir):List wY->Int->List ga
 |[],_=>[]
 |x::l,left=>rM p c x (left-x.dr)++pN p c l (left-x.dr)
structure Il where
 B:Q_ zK
 U:List Int
 R:List ga
def HB (U:List Int) (id:Int):List Int:=if id∈U then U else U++[id]
def b8 (p:fj) (B:Q_ zK) (U:List Int) (c:ir):Il:=match vO p B c.inst (decide (c.side=2)) c.dm c.dr with
 |⟨ts,left,B'⟩=>⟨if left≠0/\c.time=1 then(Iz p B' c.inst c.id c.side c.dm left).1 else B',HB U c.id,
  (⟨1,c.id,c.inst,c.side,c.dm,c.dr,c.dr,0⟩::pN p c ts c.dr)++if left≠0/\c.time≠1 then[⟨4,c.id,c.inst,c.side,c.dm,left,0,0⟩]else[]⟩
def ir.Mk (c:ir):Int:=if c.time=3 then c.dr else c.least
def nC (p:fj) (B:Q_ zK) (U:List Int) (c:ir):Il:=
 if p.dm c.inst c.dm≠0 then⟨B,U,rT c (p.dm c.inst c.dm)⟩
 else if c.id∈U then⟨B,U,rT c 25⟩
 else if 250<=ET B then⟨B,U,rT c 13⟩
 else if 0<c.Mk/\c.dr-(vO p B c.inst (decide (c.side=2)) c.dm c.dr).left<c.Mk then⟨B,U,rT c 28⟩
 else if c.time=1/\nB p B c.inst (decide (c.side=2)) c.dm c.dr=ap then⟨B,U,rT c 23⟩
 else b8 p B U c
def gR (B:Q_ zK) (U:List Int) (id inst:Int) (o:zK):Il:=⟨(iR B id o.dr).1,U,[⟨4,id,inst,o.side,o.dm,o.dr,0,0⟩]⟩
def mA (B:Q_ zK) (U:List Int) (id q inst:Int) (o:zK):Il:=⟨(iR B id q).1,U,[⟨5,id,inst,o.side,o.dm,q,o.dr-q,0⟩]⟩
def fJ (p:fj) (B:Q_ zK) (U:List Int) (c:ir) (inst:Int) (o:zK):Il:=
 if p.dm inst c.dm≠0 then⟨B,U,rT c (p.dm inst c.dm)⟩
 else if c.dm=o.dm/\c.dr<=o.dr then mA B U c.id (o.dr-c.dr) inst o
 else if nB p (iR B c.id o.dr).1 inst (decide (o.side=2)) c.dm c.dr=ap then⟨B,U,rT c 23⟩
 else
  let x:=gR B U c.id inst o
  let y:=b8 p x.B U ⟨1,c.id,inst,o.side,c.dm,c.dr,0,1,[]⟩
  ⟨y.B,y.U,x.R++y.R⟩
def Ak (p:fj) (B:Q_ zK) (U:List Int) (c:ir):Il:=
 if c.right≠0 then⟨B,U,rT c c.right⟩
 else if c.kind=1 then nC p B U c
 else if(z8 B c.id).2.2=ao then⟨B,U,rT c 26⟩
 else if c.kind=4 then fJ p B U c (z8 B c.id).1 (z8 B c.id).2.1
 else if c.kind=2\/(z8 B c.id).2.1.dr<=c.dr then gR B U c.id (z8 B c.id).1 (z8 B c.id).2.1
 else mA B U c.id c.dr (z8 B c.id).1 (z8 B c.id).2.1
structure iJ.ga (m:iJ) (p:fj) (B:Q_ zK) (U:List Int):Prop where
 ep:m.p=p
 s:m.s.ga p B
 u:m.used=U
@[reducible] def Cg (m:iJ):List fq:=[yO m 0,yO m 1,yO m 2,yO m 3,yO m 4]
@[reducible] def y2p (x:wY):V:= .agg [zB x.dm,zB x.dr,yM x.gg,ox 6 (x.iu.map y4)]
@[reducible] def tRp:Nat:=99
@[reducible] def LO (l:List ga):fq:= .own tRp 8 (l.map x9)
structure BL where
 c:ir
 pk:Int
def aac:gh:=fp BL (λi=>[Dp i.c,zB i.pk]) i6 (λ_=>True) (λ_=> .own 0) (λi=>[LO (rT i.c i.pk)])
structure Ik where
 m:iJ
 r:ga
 BS:Int
 Fj:Int
@[reducible] def iJ.iO (m:iJ):Prop:=m.p.check=0/\m.p.small
def Ca:gh:=fp Ik (λi=>[.nm 0 0,xIi i.r,zB i.BS,zB i.Fj]) (λi=>Cg i.m) (λi=>i.m.iO/\(i.r.side=1\/i.r.side=2)) (λ_=> .own 5) (λi=>Cg i.m++[LO (P0 i.m.p i.r i.BS i.Fj)])
structure Po where
 m:iJ
 inst:Int
def aal:gh:=fp Po (λi=>[.nm 0 0,zB i.inst]) (λi=>Cg i.m) (λi=>i.m.iO) (λi=>yM (i.m.p.gp i.inst).2.2) (λi=>Cg i.m)
structure Pn where
 x:wY
 k:Int
@[reducible] def z7i (x:wY) (n:Nat):List fq:=[.cells [zB x.dm,zB x.dr,yM x.gg,.own n] 205,.kr 6 (x.iu.map y4)]
def ofC:gh:=fp Pn (λi=>[zB i.k,.nm 0 0]) (λi=>z7i i.x 1) (λi=>i.x.iu.length<=1000000) (λi=>zB (FU i.x i.k)) (λi=>z7i i.x 1)
def ofA:List gu:=[{ι:=Nat,du:=λj=>[(9,zB j)],rows:=λ_=>[]}]
structure KC where
 m:iJ
 inst:Int
 x:wY
def Cb:gh:=fp KC (λi=>[.nm 0 0,zB i.inst,y2p i.x]) (λi=>Cg i.m) (λi=>i.m.iO/\gx i.x.dm/\i.x.iu.length<=1000000) (λi=> .je [zB (uC i.m.p i.inst i.x).1,zB (uC i.m.p i.inst i.x).2]) (λi=>Cg i.m)
structure rn where
 m:iJ
 c:ir
 x:wY
 left:Int
def rn.out (i:rn) (j:Nat):List ga:=(i.x.iu.take j).flatMap λf=>rN i.m.p i.x (Ip f)
def GM:gh:=fp rn (λi=>[.nm 0 0,Dp i.c,y2p i.x,zB i.left]) (λi=>Cg i.m) (λi=>i.m.iO/\gx i.x.dm/\i.x.iu.length<=1000000/\(i.c.side=1\/i.c.side=2)/\∀f∈i.x.iu,f.side=1\/f.side=2) (λ_=> .own 5) (λi=>Cg i.m++[LO (rM i.m.p i.c i.x i.left)])
def xBe (i:rn):List gu:=[{ι:=Nat,du:=λj=>[(9,.nm 0 0),(17,zB j)],rows:=λj=>[.cells [.own 1] 96,LO (i.out j)]}]
def xIn (i:BL):Prop:=
 ∃(o:Unit),[x9 (ga.mk 2 i.c.id 0 0 0 0 0 i.pk)]=[[D.v (.int .i64 2),D.v (.int .i64 i.c.id),D.v (.int .i64 0),D.v (.int .i64 0),D.v (.int .i64 0),D.v (.int .i64 0),D.v (.int .i64 0),D.v (.int .i64 i.pk)]]/\True
def gL (a:Ik):Prop:=a.r.kind=a.r.kind/\dk a.r.id/\dk a.r.inst/\dk a.r.side/\dk a.r.dm/\dk a.r.dr/\dk a.r.left/\dk a.r.pk/\True
def cP (a:Ik):=(ga.mk a.r.kind a.r.id (a.m.p.gp a.r.inst).snd.fst (3-a.r.side) a.Fj a.r.dr a.r.left a.r.pk)
def cR (a:Ik):=(ga.mk a.r.kind a.r.id (a.m.p.gp a.r.inst).fst a.r.side a.BS a.r.dr a.r.left a.r.pk)
def zBi (a:Ik) (b:aK):Prop:=(gL a)/\(gL a)/\(gL a)/\(gL a)/\(gL a)/\dk a.r.side/\dx (Qc a.m.p (zE a.m.s=yO a.m 1/\dk (zY a.m.used)/\aa 1 (iE a.m.p.dt)=yO a.m 3/\aa 1 (iE a.m.p.settle)=yO a.m 4/\[x9 (cR a),x9 (cP a)]=[[dI a.r.kind,dI a.r.id,dI ((b.p.gp b.n).fst),dI a.r.side,dI a.BS,dI a.r.dr,dI a.r.left,dI a.r.pk],[dI a.r.kind,dI a.r.id,dI (uL b),dI (aj.wrap (3-a.r.side)),dI a.Fj,dI a.r.dr,dI a.r.left,dI a.r.pk]]/\True))
def z3t (i:Ik):Prop:=
 ∃(a:aK),Qb a.p i.m.p (a.n=i.r.inst/\(j8 a)/\ff ((zBi i a)/\zBi i a))
def xJo (i:Po):Prop:=
 ∃(ia:aK),sb ia.p.code=sb i.m.p.code/\iE ia.p.dt=iE i.m.p.dt/\ia.p.tick=i.m.p.tick/\ia.p.low=i.m.p.low/\ia.p.high=i.m.p.high/\ia.p.wide=i.m.p.wide/\ia.p.gn=i.m.p.gn/\ia.p.top=i.m.p.top/\ia.p.least=i.m.p.least/\ia.p.part=i.m.p.part/\iE ia.p.settle=iE i.m.p.settle/\ia.n=i.inst/\(ia.p.code.length<=1099511627776/\ia.p.dt.length<=1099511627776/\ia.p.settle.length<=1099511627776)/\∀(o:Unit),True->∃(o:Unit),(i.m.p.gp i.inst).snd.snd=(ia.p.gp ia.n).snd.snd/\dk (sb i.m.p.code)/\dk i.m.p.tick/\dk i.m.p.low/\dk i.m.p.high/\dk i.m.p.wide/\dk i.m.p.gn/\dk i.m.p.top/\dk i.m.p.least/\dk i.m.p.part/\zE i.m.s=yO i.m 1/\dk (zY i.m.used)/\aa 1 (iE i.m.p.dt)=yO i.m 3/\aa 1 (iE i.m.p.settle)=yO i.m 4/\True
def z3e (a:Pn):Prop:=a.x.dm=a.x.dm/\dk a.x.dr/\dk a.x.gg/\dk (aa 6 (ag y4 a.x.iu))/\True
def Vof (i:Pn):Prop:=
 ∃(a:Nat),(a:Int)=0/\∃(b:Nat->Prop),∃(c:Nat->Nat),b a/\∀(d:Nat),b d->dp (decide ((d:Int)<((ag y4 i.x.iu).length:Int))) ((0<=(d:Int)/\(d:Int)<((ag y4 i.x.iu).length:Int))/\∃(e:Int),∃(f:Int),∃(g:Int),∃(h:Int),∃(j:Int),∃(k:Int),zC (ag y4 i.x.iu) (d:Int).toNat 0 6=aq [dI e,dI f,dI g,dI h,dI j,dI k]/\dp (f==i.k) (dx (FU i.x i.k=h/\z3e i)) (∃(l:Nat),QM l d b c (dk (ab [zB i.x.dm,zB i.x.dr,yM i.x.gg,V.own 1] (205:TypeId))/\dk (aa 6 (ag y4 i.x.iu))))) (dx (FU i.x i.k=i.x.dm/\z3e i))
def lM (a:KC):Prop:=Qc a.m.p (zE a.m.s=yO a.m 1/\dk (zY a.m.used)/\aa 1 (iE a.m.p.dt)=yO a.m 3/\aa 1 (iE a.m.p.settle)=yO a.m 4/\True)
def kF (a:KC):=(uC a.m.p a.inst a.x)
@[reducible] def Qa8 (a b:wY)(R:Prop):Prop:=a.dm=b.dm/\a.dr=b.dr/\a.gg=b.gg/\aa 6 (ag y4 a.iu)=aa 6 (ag y4 b.iu)/\a.iu.length<=1000000/\R
def z4p (i:KC):Prop:=
 dp (!i.x.gg) (∃(a:Pp),Qb a.p i.m.p (a.inst=i.inst/\a.dm=i.x.dm/\(a.p.check=0/\(ph a.p (a.p.settle.length<=1099511627776))/\(-9223372036854775808)<=a.dm/\a.dm<=9223372036854775807)/\ff (dx ((kF i).fst=(xD a).fst/\(kF i).snd=(xD a).snd.fst/\lM i)))) (∃(a:aK),Qb a.p i.m.p (a.n=i.inst/\(j8 a)/\ff (∃(c:Pn),c.k=(a.p.gp a.n).fst/\Qa8 c.x i.x (ff (∃(e:Pn),e.k=(a.p.gp a.n).snd.fst/\Qa8 e.x c.x (ff (dx ((kF i).fst=FU c.x c.k/\(kF i).snd=FU e.x e.k/\lM i))))))))
@[reducible] def QZ (a:fj)(R:Prop):Prop:=a.check=0/\a.code.length<=1099511627776/\a.dt.length<=1099511627776/\R
def zHv (a:KC):Prop:=(QZ a.m.p (a.m.p.settle.length<=1099511627776))/\((-9223372036854775808)<=a.x.dm/\a.x.dm<=9223372036854775807)/\a.x.iu.length<=1000000
def zGz (a:Ik):Prop:=(QZ a.m.p (a.m.p.settle.length<=1099511627776))/\(a.r.side=1\/a.r.side=2)
def zHz (a:Po):Prop:=QZ a.m.p (a.m.p.settle.length<=1099511627776)
def m4 (a:rn):=(D.v (am (sb a.c.label)))
@[reducible] def Qg (a:Nat->Nat)(b c:Nat)(d:rn)(e:iJ)(R:Prop):Prop:=a b<a c/\ab [V.d (dI d.x.dm),V.d (dI d.x.dr),V.d (D.v (.bool d.x.gg)),V.own 7] 205=ab [V.d (dI d.x.dm),V.d (dI d.x.dr),V.d (D.v (.bool d.x.gg)),V.own 7] 205/\aa 6 (ag y4 d.x.iu)=aa 6 (ag y4 d.x.iu)/\ab [V.d (dI d.c.kind),V.d (dI d.c.id),V.d (dI d.c.inst),V.d (dI d.c.side),V.d (dI d.c.dm),V.d (dI d.c.dr),V.d (dI d.c.least),V.d (dI d.c.time),V.d (m4 d)] 47=ab [V.d (dI d.c.kind),V.d (dI d.c.id),V.d (dI d.c.inst),V.d (dI d.c.side),V.d (dI d.c.dm),V.d (dI d.c.dr),V.d (dI d.c.least),V.d (dI d.c.time),V.d (m4 d)] 47/\ab [V.nm 0 0] 63=ab [V.nm 0 0] 63/\ab [V.d (D.v (am (sb e.p.code))),V.own 3,V.d (dI e.p.tick),V.d (dI e.p.low),V.d (dI e.p.high),V.d (dI e.p.wide),V.d (dI e.p.gn),V.d (dI e.p.top),V.d (dI e.p.least),V.d (dI e.p.part),V.own 4,V.nm 1 0,V.mp 2] (155:TypeId)=yO d.m 0/\zE e.s=yO d.m 1/\ae (zY e.used)=yO d.m 2/\aa 1 (iE e.p.dt)=yO d.m 3/\R
@[reducible] def QD (a b:iJ)(R:Prop):Prop:=zY a.used=zY b.used/\aa 1 (iE a.p.dt)=aa 1 (iE b.p.dt)/\aa 1 (iE a.p.settle)=aa 1 (iE b.p.settle)/\R
@[reducible] def QK (a b:iJ)(R:Prop):Prop:=zY a.used=zY b.used/\aa 1 (iE a.p.dt)=yO b 3/\aa 1 (iE a.p.settle)=yO b 4/\R
def yNs (i:rn):Prop:=
 ∃(a:Nat),(a:Int)=0/\ag x9 (i.out a)=[]/\∃(b:Nat->Prop),∃(c:Nat->Nat),b a/\∀(d:Nat),b d->dp (decide ((d:Int)<((ag y4 i.x.iu).length:Int))) ((0<=(d:Int)/\(d:Int)<((ag y4 i.x.iu).length:Int))/\∃(e:Int),∃(f:Int),∃(g:Int),∃(h:Int),∃(j:Int),∃(k:Int),zC (ag y4 i.x.iu) (d:Int).toNat 0 6=aq [dI e,dI f,dI g,dI h,dI j,dI k]/\((ag x9 (i.out d)).length+1)*(64:Nat)<=(140737488355328:Nat)/\∃(l:Po),l.inst=f/\Qa l.m.p i.m.p (zE l.m.s=yO i.m 1/\QK l.m i.m ((zHz l)/\ff (dp (l.m.p.gp l.inst).snd.snd (∃(n:KC),n.inst=f/\n.x.dm=i.x.dm/\n.x.dr=i.x.dr/\n.x.gg=i.x.gg/\ag y4 n.x.iu=ag y4 i.x.iu/\Qa n.m.p l.m.p (zE n.m.s=zE l.m.s/\QD n.m l.m ((zHv n)/\ff (∃(q:Ik),q.r.kind=3/\q.r.id=e/\q.r.inst=f/\q.r.side=g/\q.r.dm=h/\q.r.dr=j/\q.r.left=k/\q.r.pk=0/\q.BS=(kF n).fst/\q.Fj=(kF n).snd/\Qa q.m.p n.m.p (zE q.m.s=zE n.m.s/\QD q.m n.m ((zGz q)/\ff (True/\((ag x9 (i.out d)++[[dI 3,dI e,dI f,dI g,dI h,dI j,dI k,dI 0]]).length+2)*(64:Nat)<=(140737488355328:Nat)/\∃(s:Nat),(s:Int)=aj.wrap ((d:Int)+1)/\ag x9 (i.out s)=ag x9 (i.out d)++[[dI 3,dI e,dI f,dI g,dI h,dI j,dI k,dI 0]]++[x9 (cR q),x9 (cP q)]/\b s/\Qg c s d i q.m (aa 1 (iE q.m.p.settle)=yO i.m 4)))))))) (∃(n:Nat),(n:Int)=aj.wrap ((d:Int)+1)/\ag x9 (i.out n)=ag x9 (i.out d)++[[dI 3,dI e,dI f,dI g,dI h,dI j,dI k,dI 0]]/\b n/\Qg c n d i l.m (aa 1 (iE l.m.p.settle)=yO i.m 4)))))) (((ag x9 (i.out d)).length+1)*(64:Nat)<=(140737488355328:Nat)/\∃(e:Po),e.inst=i.c.inst/\Qa e.m.p i.m.p (zE e.m.s=yO i.m 1/\QK e.m i.m ((zHz e)/\ff (dp (e.m.p.gp e.inst).snd.snd (∃(g:KC),g.inst=i.c.inst/\g.x.dm=i.x.dm/\g.x.dr=i.x.dr/\g.x.gg=i.x.gg/\ag y4 g.x.iu=ag y4 i.x.iu/\Qa g.m.p e.m.p (zE g.m.s=zE e.m.s/\QD g.m e.m ((zHv g)/\ff (∃(j:Ik),j.r.kind=3/\j.r.id=i.c.id/\j.r.inst=i.c.inst/\j.r.side=i.c.side/\j.r.dm=i.x.dm/\j.r.dr=i.x.dr/\j.r.left=i.left/\j.r.pk=0/\j.BS=(kF g).fst/\j.Fj=(kF g).snd/\Qa j.m.p g.m.p (zE j.m.s=zE g.m.s/\QD j.m g.m ((zGz j)/\ff (True/\((ag x9 (i.out d)++[[dI 3,dI i.c.id,dI i.c.inst,dI i.c.side,dI i.x.dm,dI i.x.dr,dI i.left,dI 0]]).length+2)*(64:Nat)<=(140737488355328:Nat)/\dx (Qa i.m.p j.m.p (zE i.m.s=zE j.m.s/\QD i.m j.m (ag x9 (rM i.m.p i.c i.x i.left)=ag x9 (i.out d)++[[dI 3,dI i.c.id,dI i.c.inst,dI i.c.side,dI i.x.dm,dI i.x.dr,dI i.left,dI 0]]++[x9 (cR j),x9 (cP j)]/\True)))))))))) (dx (Qa i.m.p e.m.p (zE i.m.s=zE e.m.s/\QD i.m e.m (ag x9 (rM i.m.p i.c i.x i.left)=ag x9 (i.out d)++[[dI 3,dI i.c.id,dI i.c.inst,dI i.c.side,dI i.x.dm,dI i.x.dr,dI i.left,dI 0]]/\True))))))))
def yAy:aac.ok Z_ 113:=gy (V:=xIn) mixed fk 0 i6 i6 [] func113 λ(i:BL) _=>⟨(),rfl,Y_⟩
def yRg (i:Ik) (h:Ca.dp i):z3t i:=by
 obtain⟨⟨hc,hp⟩,hs⟩:i.m.iO/\(i.r.side=1\/i.r.side=2):=h;have hw:aj.wrap (3-i.r.side)=3-i.r.side:=iw oM;unfold z3t Qb ff zBi Qc dx cR cP gL uL j8 ph dI;rw[hw];refine⟨⟨i.m.p,i.r.inst⟩,iB (iP ⟨rfl,hp,λ_ _=> ?_⟩)⟩;exact kp
def yBw:Ca.ok Z_ 288:=gy mixed (dw NY fk) 0 i6 i6 [] func288 yRg
def xBm:aal.ok Z_ 286:=gy (V:=xJo) mixed (dw NY fk) 0 i6 i6 [] func286 λ(i:Po) h=>by
 obtain⟨hc,hp⟩:i.m.iO:=h;exact⟨⟨i.m.p,i.inst⟩,iB (iP ⟨rfl,hp,λ_ _=>kp⟩)⟩
def xHj {l:List cX} {k:Nat} {f:cX} (h:l[k]? =aq f):zC (l.map y4) k 0 6=aq [D.v (.int .i64 f.id),D.v (.int .i64 f.inst),D.v (.int .i64 f.side),D.v (.int .i64 f.dm),D.v (.int .i64 f.dr),D.v (.int .i64 f.left)]:=jz h (by simp[y4]) rfl
def vof (i:Pn) (h:ofC.dp i):Vof i:=by
 have hl:i.x.iu.length<=1000000:=h;have e4:(i.x.iu.map y4).length=i.x.iu.length:=ib ..;unfold Vof QM dx z3e dI;refine⟨0,rfl,λj=>j<=i.x.iu.length/\(i.x.iu.take j).find? (λf=>decide (f.inst=i.k))=ar,λj=>i.x.iu.length-j,⟨ml _,rfl⟩,?_⟩;rintro j ⟨j1,j2⟩;refine zH (λc=> ?_) (λc=> ?_)
 ·obtain⟨f,hf⟩:=zZ (l:=i.x.iu) (i:=j) oM;refine⟨⟨oM,oM⟩,_,_,_,_,_,_,xHj hf,W_ (λg=>⟨(),?_,gj⟩) (λg=>⟨j+1,pf oM,⟨oM,?_⟩,Z9,gj⟩)⟩
  ·have g:f.inst=i.k:=i9 g
   have e:i.x.iu.find? (λf=>decide (f.inst=i.k))=aq f:=by
    rw[<- Bi j i.x.iu,List.find?_append,j2,CN X_,(jk.1 hf).2,List.find?_cons_of_pos (i9 g)];rfl
   rw[FU,e]
  ·have g:¬f.inst=i.k:=i9 g
   rw[qf,hf,List.find?_append,j2];simp[g]
 ·have:j=i.x.iu.length:=X_
  rw[this,ng (jx _)]at j2;exact⟨(),by rw[FU,j2],gj⟩
def xDe:ofC.ok Z_ 304:=gy mixed fk 0 i6 (λ_=>ofA) [] func304 vof
def yTv (i:KC) (h:Cb.dp i):z4p i:=by
 obtain⟨⟨hc,hp⟩,So,hl⟩:i.m.iO/\gx i.x.dm/\i.x.iu.length<=1000000:=h;unfold z4p Qa8 Qb ph ff dx kF lM Qc xD j8 ph;refine W_ (λe=> ?_) (λe=> ?_)
 ·have e:i.x.gg=ao:=i9 e
  have h0:uC i.m.p i.inst i.x=((cF i.m.p i.inst i.x.dm).1,(cF i.m.p i.inst i.x.dm).2.1):=by rw[uC,fh e]
  rw[h0];exact⟨⟨i.m.p,i.inst,i.x.dm⟩,iB (nh ⟨rfl,⟨hc,hp,So⟩,λ_ _=>kp⟩)⟩
 ·have e:¬i.x.gg=ao:=i9 e
  have h0:uC i.m.p i.inst i.x=(FU i.x (i.m.p.gp i.inst).1,FU i.x (i.m.p.gp i.inst).2.1):=by rw[uC,eg e]
  rw[h0];exact⟨⟨i.m.p,i.inst⟩,iB (iP ⟨rfl,hp,λ_ _=>⟨⟨i.x,(i.m.p.gp i.inst).1⟩,nh ⟨rfl,hl,λ_ _=>⟨⟨i.x,(i.m.p.gp i.inst).2.1⟩,nh ⟨rfl,hl,λ_ _=>kp⟩⟩⟩⟩⟩)⟩
def yDr:Cb.ok Z_ 287:=gy mixed (dw NY (dw yBx (dw xDe fk))) 0 i6 i6 [] func287 yTv
def ZV (p:fj) (x:wY) (r:ga):(rN p x r).length<=3:=by
 rw[rN,iG];split
 ·rw[P0];simp
 ·simp
def yEs {p:fj} {x:wY} {r:ga} (h:(p.gp r.inst).2.2=ao):rN p x r=[r]:=by
 rw[rN,eg (by rw[h];decide)]
def z6g {p:fj} {x:wY} {r:ga} (h:(p.gp r.inst).2.2=ap):rN p x r=r::P0 p r (uC p r.inst x).1 (uC p r.inst x).2:=by
 rw[rN,fh h]
def rn.D4 (i:rn):∀j,(i.out j).length<=3*j
 |0=>jx _
 |j+1=>by
  have ih:=rn.D4 i j;rw[rn.out]at ih ⊢;rw[qf,zh,ix];cases e:i.x.iu[j]? with
  |none=>simp only[Option.toList_none,Md,uj];omega
  |some f=>
   have:=ZV i.m.p i.x (Ip f);simp only[AD,vw,Md,oQ];omega
def rn.Hm (i:rn) {j:Nat} {f:cX} (h:i.x.iu[j]? =aq f):i.out (j+1)=i.out j++rN i.m.p i.x (Ip f):=by
 rw[rn.out,rn.out,qf,zh,h];simp
def y6j (i:rn) (h:GM.dp i):yNs i:=by
 obtain⟨hf,So,hl,Ie,yg⟩:i.m.iO/\gx i.x.dm/\i.x.iu.length<=1000000/\(i.c.side=1\/i.c.side=2)/\∀f∈i.x.iu,f.side=1\/f.side=2:=h;have e4:(i.x.iu.map y4).length=i.x.iu.length:=ib ..;unfold yNs QD QK Qa ff dx Qg m4 zHz QZ zGz QZ zHv QZ cR cP kF dI;refine⟨0,rfl,rfl,λj=>j<=i.x.iu.length,λj=>i.x.iu.length-j,ml _,?_⟩;intro j hj;have ho:=i.D4 j;have e5:((i.out j).map x9).length=(i.out j).length:=ib ..;refine zH (λc=> ?_) (λc=> ?_)
 ·obtain⟨f,hfj⟩:=zZ (l:=i.x.iu) (i:=j) oM;have CS:=i.Hm hfj;have aaP:=yg f (kx hfj);refine⟨⟨oM,oM⟩,_,_,_,_,_,_,xHj hfj,oM,⟨i.m,f.inst⟩,rfl,rfl,rfl,rfl,rfl,rfl,rfl,rfl,rfl,rfl,rfl,rfl,rfl,rfl,hf,λ_ _=>W_ (λe=> ?_) (λe=> ?_)⟩
  ·have e:(i.m.p.gp (Ip f).inst).2.2=ap:=e;rw[z6g e]at CS;refine⟨⟨i.m,f.inst,i.x⟩,iB (nu (iP ⟨rfl,⟨hf,So,hl⟩,λ_ _=>⟨⟨i.m,Ip f,(uC i.m.p f.inst i.x).1,(uC i.m.p f.inst i.x).2⟩,iB (iB (nu ⟨rfl,⟨hf,aaP⟩,λ_ _=>⟨Y_,by rw[ix,e5];simp only[iG,uj];omega,j+1,pf oM,?_,oM,Z9,gj⟩⟩))⟩⟩))⟩;rw[CS,jh,jd];rfl
  ·have e:(i.m.p.gp (Ip f).inst).2.2=ao:=e;rw[yEs e]at CS;refine⟨j+1,pf oM,?_,oM,Z9,gj⟩;rw[CS,jh];rfl
 ·have hj:j=i.x.iu.length:=X_
  have O6:i.x.iu.flatMap (λf=>rN i.m.p i.x (Ip f))=i.out j:=by rw[rn.out,hj,ng (jx _)]
  have hR:rM i.m.p i.c i.x i.left=i.out j++rN i.m.p i.x ⟨3,i.c.id,i.c.inst,i.c.side,i.x.dm,i.x.dr,i.left,0⟩:=by rw[rM,O6]
  refine⟨oM,⟨i.m,i.c.inst⟩,iB (tr ⟨rfl,hf,λ_ _=>W_ (λe=> ?_) (λe=> ?_)⟩)⟩
  ·have e:(i.m.p.gp (⟨3,i.c.id,i.c.inst,i.c.side,i.x.dm,i.x.dr,i.left,0⟩:ga).inst).2.2=ap:=e;rw[z6g e]at hR;refine⟨⟨i.m,i.c.inst,i.x⟩,iB (nu (iP ⟨rfl,⟨hf,So,hl⟩,λ_ _=>⟨⟨i.m,⟨3,i.c.id,i.c.inst,i.c.side,i.x.dm,i.x.dr,i.left,0⟩,(uC i.m.p i.c.inst i.x).1,(uC i.m.p i.c.inst i.x).2⟩,iB (iB (nu ⟨rfl,⟨hf,Ie⟩,λ_ _=>⟨Y_,by rw[ix,e5];simp only[iG,uj];omega,?_⟩⟩))⟩⟩))⟩;rw[hR,jh,jd];exact kp
  ·have e:(i.m.p.gp (⟨3,i.c.id,i.c.inst,i.c.side,i.x.dm,i.x.dr,i.left,0⟩:ga).inst).2.2=ao:=e;rw[yEs e]at hR;rw[hR,jh];exact kp
def yOn:GM.ok Z_ 245:=gy mixed (dw xBm (dw yDr (dw yBw fk))) 1 i6 (λi=>xBe i) [] func245 y6j
structure qz where
 m:iJ
 p:fj
 B:Q_ zK
 U:List Int
 c:ir
 X:Il
@[reducible] def qz.OM (i:qz):Prop:=i.m.ga i.p i.B i.U/\jf i.p i.B
@[reducible] def qz.wm (i:qz):Prop:=(0<=i.c.inst/\i.c.inst<i.B.length)/\(1<=i.c.dr/\i.c.dr<=1000000)/\(i.c.side=1\/i.c.side=2)
@[reducible] def Rq (X:Il) (p:fj):Alt:={o:=iJ,res:=λ_=> .own 5,post:=λo=>Cg o++[LO X.R],rel:=λo=>o.ga p X.B X.U}
def GX:gh where
 ι:=qz
 pat:=λi=>[.nm 0 0,Dp i.c]
 pre:=λi=>Cg i.m
 dp:=λi=>i.OM/\i.wm/\i.p.dm i.c.inst i.c.dm=0/\i.X=b8 i.p i.B i.U i.c
 alts:=λi=>[Rq i.X i.p]
structure MK where
 left:Int
 k:Nat
 out:List ga
def y6n (i:qz):List gu:=[{ι:=MK,du:=λj=>[(5,.own 0),(8,zB j.left),(51,zB j.k)],rows:=λj=>[LO j.out]}]
def GJ:gh where
 ι:=qz
 pat:=λi=>[.nm 0 0,Dp i.c]
 pre:=λi=>Cg i.m
 dp:=λi=>i.OM/\i.c.right=0/\i.c.kind=1/\i.X=nC i.p i.B i.U i.c
 alts:=λi=>[Rq i.X i.p]
def xBv:List (Nat×gu):=[(22,ij 6),(44,bj 47),(52,bj 69)]
structure DO where
 m:iJ
 p:fj
 B:Q_ zK
 U:List Int
 id:Int
 q:Int
 inst:Int
 o:zK
 X:Il
@[reducible] def DO.OM (i:DO):Prop:=i.m.ga i.p i.B i.U/\jf i.p i.B
def JD:gh where
 ι:=DO
 pat:=λi=>[.nm 0 0,zB i.id,zB i.inst,Of i.o]
 pre:=λi=>Cg i.m
 dp:=λi=>i.OM/\i.X=gR i.B i.U i.id i.inst i.o
 alts:=λi=>[Rq i.X i.p]
def Jq:gh where
 ι:=DO
 pat:=λi=>[.nm 0 0,zB i.id,zB i.q,zB i.inst,Of i.o]
 pre:=λi=>Cg i.m
 dp:=λi=>i.OM/\gx (i.o.dr-i.q)/\i.X=mA i.B i.U i.id i.q i.inst i.o
 alts:=λi=>[Rq i.X i.p]
structure On where
 m:iJ
 p:fj
 B:Q_ zK
 U:List Int
 c:ir
 inst:Int
 o:zK
 X:Il
def B7:gh where
 ι:=On
 pat:=λi=>[.nm 0 0,Dp i.c,zB i.inst,Of i.o]
 pre:=λi=>Cg i.m
 dp:=λi=>i.m.ga i.p i.B i.U/\jf i.p i.B/\z8 i.B i.c.id=(i.inst,i.o,ap)/\(1<=i.c.dr/\i.c.dr<=1000000)/\i.X=fJ i.p i.B i.U i.c i.inst i.o
 alts:=λi=>[Rq i.X i.p]
def doC:gh where
 ι:=qz
 pat:=λi=>[.nm 0 0,Dp i.c]
 pre:=λi=>[qX i.m]
 dp:=λi=>i.OM/\i.c.label.length<=140737488355328/\gx i.c.dr/\i.X=Ak i.p i.B i.U i.c
 alts:=λi=>[{o:=iJ,res:=λ_=> .own 1,post:=λo=>[qX o,LO i.X.R],rel:=λo=>o.ga i.p i.X.B i.X.U}]
structure MfI where
 m:iJ
 p:fj
 B:Q_ zK
 U:List Int
 id:Int
def Jw:gh:=fp MfI (λi=>[.nm 0 0]) (λi=>[qX i.m]) (λi=>i.m.ga i.p i.B i.U/\jf i.p i.B) (λi=>zB (ET i.B)) (λi=>[qX i.m])
@[reducible] def Q5 (a:iJ)(b:ir)(c:iJ)(R:Prop):Prop:=zY a.used=gU (ak aj b.id) [D.v (.bool ap)] (zY c.used)/\aa 1 (iE a.p.dt)=yO c 3/\aa 1 (iE a.p.settle)=yO c 4/\R
def zFq (a:iJ) (b:qz) (c:MK):Prop:=Q5 a b.c b.m (ag x9 b.X.R=ag x9 c.out/\a.ga b.p b.X.B b.X.U)
def hP (a:qz):=(D.v (am (sb a.c.label)))
def yVj (i:qz):Prop:=
 (∀(a:Value×List D),a∈zY i.m.used->me (ak aj i.c.id) a.fst=ap)/\∃(a:oa),a.inst=i.c.inst/\zF a.sd=i.c.side/\a.dm=i.c.dm/\a.q=i.c.dr/\zE a.s=yO i.m 1/\(kK a)/\∀(b:gz),b.ga a.p a.r.B->∃(c:MK),c.left=i.c.dr/\(c.k:Int)=0/\ag x9 c.out=[[dI 1,dI i.c.id,dI i.c.inst,dI i.c.side,dI i.c.dm,dI i.c.dr,dI i.c.dr,dI 0]]/\∃(d:MK->Prop),∃(e:MK->Nat),d c/\∀(f:MK),d f->dp (decide ((f.k:Int)<((ag vG a.r.steps).length:Int))) ((0<=(f.k:Int)/\(f.k:Int)<((ag vG a.r.steps).length:Int))/\∃(g:Int),∃(h:Int),∃(j:Bool),∃(k:Q_ D),zC (ag vG a.r.steps) (f.k:Int).toNat 0 4=aq [dI g,dI h,D.v (.bool j),D.ro 6 k]/\∃(l:rn),Qd l.c i.c (l.x.dm=g/\l.x.dr=h/\l.x.gg=j/\ag y4 l.x.iu=k/\l.left=aj.wrap (f.left-h)/\Qa l.m.p i.m.p (zE l.m.s=zE b/\Q5 l.m i.c i.m (((QZ l.m.p (l.m.p.settle.length<=1099511627776))/\((-9223372036854775808)<=l.x.dm/\l.x.dm<=9223372036854775807)/\l.x.iu.length<=1000000/\(l.c.side=1\/l.c.side=2)/\∀(m:cX),m∈l.x.iu->m.side=1\/m.side=2)/\ff (((ag x9 f.out).length+(ag x9 (rM l.m.p l.c l.x l.left)).length)*(64:Nat)<=(140737488355328:Nat)/\∃(n:MK),n.left=aj.wrap (f.left-h)/\(n.k:Int)=aj.wrap ((f.k:Int)+1)/\ag x9 n.out=ag x9 f.out++ag x9 (rM l.m.p l.c l.x l.left)/\d n/\e n<e f/\zE l.m.s=zE b/\dk (af 205 4 (ag vG a.r.steps))/\dk (ab [V.d (dI i.c.kind),V.d (dI i.c.id),V.d (dI i.c.inst),V.d (dI i.c.side),V.d (dI i.c.dm),V.d (dI i.c.dr),V.d (dI i.c.least),V.d (dI i.c.time),V.d (hP i)] 47)/\ab [V.d (D.v (am (sb l.m.p.code))),V.own 3,V.d (dI l.m.p.tick),V.d (dI l.m.p.low),V.d (dI l.m.p.high),V.d (dI l.m.p.wide),V.d (dI l.m.p.gn),V.d (dI l.m.p.top),V.d (dI l.m.p.least),V.d (dI l.m.p.part),V.own 4,V.nm 1 0,V.mp 2] (155:TypeId)=yO i.m 0/\ae (zY l.m.used)=ae (gU (ak aj i.c.id) [D.v (.bool ap)] (zY i.m.used))/\aa 1 (iE l.m.p.dt)=yO i.m 3/\aa 1 (iE l.m.p.settle)=yO i.m 4))))) (dp (a.r.left==0) (∃(g:iJ),Qa g.p i.m.p (zE g.s=zE b/\zFq g i f)) (dp (i.c.time==1) (∃(g:Ii),g.inst=i.c.inst/\g.id=i.c.id/\zF g.sd=i.c.side/\g.dm=i.c.dm/\g.dr=a.r.left/\zE g.s=zE b/\((ph g.s.p (g.s.p.settle.length<=1099511627776))/\g.s.ez.length<=1000000/\∀(h:dq),h∈g.s.ez->(h.a.du.length<=1000000/\(h.a.free≠0->∃(j:Slot),j∈h.a.du/\j.used=ao)/\∀(j:aV),j∈h.a.dy->j.last=(-1)\/0<=j.last/\j.last<(h.a.du.length:Int))/\h.a.dy.length<=100000/\h.fv.length<=100000/\h.fc.length<=100000/\h.spare.length<=100000)/\ff (∃(j:iJ),Qa j.p i.m.p (zE j.s=zE (gz.iD g).fst/\zFq j i f))) (((ag x9 f.out).length+1)*(64:Nat)<=(140737488355328:Nat)/\∃(g:iJ),Qa g.p i.m.p (zE g.s=zE b/\Q5 g i.c i.m (ag x9 i.X.R=ag x9 f.out++[[dI 4,dI i.c.id,dI i.c.inst,dI i.c.side,dI i.c.dm,dI a.r.left,dI 0,dI 0]]/\g.ga i.p i.X.B i.X.U)))))
@[reducible] def YE (a:ir)(b:qz)(R:Prop):Prop:=ab [V.d (dI a.kind),V.d (dI a.id),V.d (dI a.inst),V.d (dI a.side),V.d (dI a.dm),V.d (dI a.dr),V.d (dI a.least),V.d (dI a.time),V.d (hP b)] 47=ab [V.d (dI a.kind),V.d (dI a.id),V.d (dI a.inst),V.d (dI a.side),V.d (dI a.dm),V.d (dI a.dr),V.d (dI a.least),V.d (dI a.time),V.d (hP b)] 47/\yO b.m 0=yO b.m 0/\R
def zGg (a:qz):Prop:=YE a.c a (dk (yO a.m 2)/\dk (yO a.m 3)/\dk (yO a.m 4))
def zHy (a:Bool->Prop) (b:zp) (c:qz):Prop:=∃(d:Bool),d=ao/\a d/\dk (zE b.s)/\zGg c
def zGn (a:Int->Prop) (b:Int) (c:qz):Prop:=a b/\YE c.c c (dk (yO c.m 1)/\dk (yO c.m 2)/\dk (yO c.m 3)/\dk (yO c.m 4))
def zGa (a:Bool->Prop) (b:Bool) (c:oa) (d:zp) (e:qz):Prop:=a b/\zE c.s=zE d.s/\zGg e
def zGj (a:iJ) (b:qz) (c:BL):Prop:=QK a b.m (ag x9 b.X.R=[x9 (ga.mk 2 c.c.id 0 0 0 0 0 c.pk)]/\a.ga b.p b.X.B b.X.U)
def zGe (a:qz) (b:BL):Prop:=True/\ff (∃(d:iJ),Qa d.p a.m.p (zE d.s=yO a.m 1/\zGj d a b))
def lU (a:qz) (b:zp) (c:BL):Prop:=True/\ff (∃(e:iJ),Qa e.p a.m.p (zE e.s=zE b.s/\zGj e a c))
def WQ (a:qz) (b:qz):Prop:=∀(c:iJ),c.ga a.p a.X.B a.X.U->∃(d:iJ),Qa d.p c.p (zE d.s=zE c.s/\QD d c (ag x9 b.X.R=ag x9 a.X.R/\d.ga b.p b.X.B b.X.U))
def eJ (a:qz):Prop:=(a.m.ga a.p a.B a.U/\jf a.p a.B)/\((0<=a.c.inst/\a.c.inst<(a.B.length:Int))/\(1<=a.c.dr/\a.c.dr<=1000000)/\(a.c.side=1\/a.c.side=2))/\a.p.dm a.c.inst a.c.dm=0/\a.X=b8 a.p a.B a.U a.c
def yPe (i:qz):Prop:=
 ∃(a:A9),Qb a.p i.m.p (a.a=i.c.inst/\a.b=i.c.dm/\(qQ a)/\ff (dp (a.p.dm a.a a.b !=0) (∃(c:BL),Qd c.c i.c (c.pk=a.p.dm a.a a.b/\zGe i c)) (∃(c:Int),∃(d:Int->Prop),dp (i.c.time==3) (∃(e:Int),e=i.c.dr/\zGn d e i) (∃(e:Int),e=i.c.least/\zGn d e i)/\∀(e:Int),d e->(∀(f:Value×List D),f∈zY i.m.used->me (ak aj i.c.id) f.fst=ap)/\∃(f:Bool),∃(g:Bool),(jL (ak aj i.c.id) (zY i.m.used)=aq [D.v (.bool g)]/\f=ap\/jL (ak aj i.c.id) (zY i.m.used)=ar/\[D.v (.bool g)]=[D.v (.bool ao)]/\f=ao)/\dp g (∃(h:BL),Qd h.c i.c (h.pk=25/\zGe i h)) (∃(h:zp),zE h.s=yO i.m 1/\(h.s.ga h.p h.B/\h.B.length<=1000)/\ff (dp (decide (((ET h.B):Int)>=250)) (∃(k:BL),Qd k.c i.c (k.pk=13/\lU i h k)) (∃(k:Bool),∃(l:Bool->Prop),dp (decide (e>0)) (∃(m:oa),m.inst=i.c.inst/\zF m.sd=i.c.side/\m.dm=i.c.dm/\m.q=i.c.dr/\zE m.s=zE h.s/\(kK m)/\ff (∃(p:Bool),p=decide (m.q-m.r.left<e)/\zGa l p m h i)) (zHy l h i)/\∀(m:Bool),l m->dp m (∃(n:BL),Qd n.c i.c (n.pk=28/\lU i h n)) (∃(n:Bool),∃(p:Bool->Prop),dp (i.c.time==1) (∃(q:oa),q.inst=i.c.inst/\zF q.sd=i.c.side/\q.dm=i.c.dm/\q.q=i.c.dr/\zE q.s=zE h.s/\(kK q)/\ff (∃(s:Bool),s=nB q.p q.B q.inst q.sd q.dm q.q/\zGa p s q h i)) (zHy p h i)/\∀(q:Bool),p q->dp q (∃(r:BL),Qd r.c i.c (r.pk=23/\lU i h r)) (∃(r:qz),Qd r.c i.c (Qa r.m.p i.m.p (zE r.m.s=zE h.s/\QK r.m i.m ((eJ r)/\WQ r i)))))))))))
def yYr (i:DO):Prop:=
 ∃(ia:Bo),ia.id=i.id/\ia.q=i.o.dr/\zE ia.s=yO i.m 1/\(ia.s.ga ia.p ia.B/\ia.B.length<=1000)/\∀(o:gz),o.ga ia.p (iR ia.B ia.id ia.q).fst->∃(BE:iJ),sb BE.p.code=sb i.m.p.code/\BE.p.tick=i.m.p.tick/\BE.p.low=i.m.p.low/\BE.p.high=i.m.p.high/\BE.p.wide=i.m.p.wide/\BE.p.gn=i.m.p.gn/\BE.p.top=i.m.p.top/\BE.p.least=i.m.p.least/\BE.p.part=i.m.p.part/\zE BE.s=zE o/\zY BE.used=zY i.m.used/\aa 1 (iE BE.p.dt)=yO i.m 3/\aa 1 (iE BE.p.settle)=yO i.m 4/\ag x9 i.X.R=[[D.v (.int .i64 4),D.v (.int .i64 i.id),D.v (.int .i64 i.inst),D.v (.int .i64 i.o.side),D.v (.int .i64 i.o.dm),D.v (.int .i64 i.o.dr),D.v (.int .i64 0),D.v (.int .i64 0)]]/\BE.ga i.p i.X.B i.X.U
def yFu (i:DO):Prop:=
 ∃(a:Bo),a.id=i.id/\a.q=i.q/\zE a.s=yO i.m 1/\(a.s.ga a.p a.B/\a.B.length<=1000)/\∀(b:gz),b.ga a.p (iR a.B a.id a.q).fst->∃(c:iJ),Qa c.p i.m.p (zE c.s=zE b/\QK c i.m (ag x9 i.X.R=[[dI 5,dI i.id,dI i.inst,dI i.o.side,dI i.o.dm,dI i.q,dI (aj.wrap (i.o.dr-i.q)),dI 0]]/\c.ga i.p i.X.B i.X.U))
def zAe (a:iJ) (b:On) (c:BL):Prop:=QK a b.m (ag x9 b.X.R=[x9 (ga.mk 2 c.c.id 0 0 0 0 0 c.pk)]/\a.ga b.p b.X.B b.X.U)
def zCb (a:On):Prop:=∃(b:gz),zE b=yO a.m 1/\(dV b)/\ff (∃(d:Bo),d.id=a.c.id/\d.q=a.o.dr/\zE d.s=zE b/\(d.s.ga d.p d.B/\d.B.length<=1000)/\∀(e:gz),e.ga d.p (iR d.B d.id d.q).fst->∃(f:oa),f.inst=a.inst/\zF f.sd=a.o.side/\f.dm=a.c.dm/\f.q=a.c.dr/\zE f.s=zE e/\(kK f)/\ff (dp (nB f.p f.B f.inst f.sd f.dm f.q) (∃(h:BL),Qd h.c a.c (h.pk=23/\True/\ff (∃(k:iJ),Qa k.p a.m.p (zE k.s=zE b/\zAe k a h)))) (∃(h:DO),h.id=a.c.id/\h.inst=a.inst/\h.o.id=a.o.id/\h.o.side=a.o.side/\h.o.dm=a.o.dm/\h.o.dr=a.o.dr/\h.o.top=a.o.top/\Qa h.m.p a.m.p (zE h.m.s=zE b/\QK h.m a.m (((h.m.ga h.p h.B h.U/\jf h.p h.B)/\h.X=gR h.B h.U h.id h.inst h.o)/\∀(j:iJ),j.ga h.p h.X.B h.X.U->∃(k:qz),k.c.kind=1/\k.c.id=a.c.id/\k.c.inst=a.inst/\k.c.side=a.o.side/\k.c.dm=a.c.dm/\k.c.dr=a.c.dr/\k.c.least=0/\k.c.time=1/\sb k.c.label=ByteArray.mk #[]/\Qa k.m.p j.p (zE k.m.s=zE j.s/\QD k.m j ((eJ k)/\∀(l:iJ),l.ga k.p k.X.B k.X.U->((ag x9 h.X.R).length+(ag x9 k.X.R).length)*(64:Nat)<=(140737488355328:Nat)/\∃(m:iJ),Qa m.p l.p (zE m.s=zE l.s/\QD m l (ag x9 a.X.R=ag x9 h.X.R++ag x9 k.X.R/\m.ga a.p a.X.B a.X.U)))))))))
def a8 (a:DO):Prop:=(a.m.ga a.p a.B a.U/\jf a.p a.B)/\((-9223372036854775808)<=a.o.dr-a.q/\a.o.dr-a.q<=9223372036854775807)/\a.X=mA a.B a.U a.id a.q a.inst a.o
def z5n (i:On):Prop:=
 ∃(a:A9),Qb a.p i.m.p (a.a=i.inst/\a.b=i.c.dm/\(qQ a)/\ff (dp (a.p.dm a.a a.b !=0) (∃(c:BL),Qd c.c i.c (c.pk=a.p.dm a.a a.b/\True/\ff (∃(e:iJ),Qa e.p i.m.p (zE e.s=yO i.m 1/\zAe e i c)))) (dp (i.c.dm==i.o.dm) (dp (decide (i.c.dr<=i.o.dr)) (∃(c:DO),c.id=i.c.id/\c.q=aj.wrap (i.o.dr-i.c.dr)/\c.inst=i.inst/\c.o.id=i.o.id/\c.o.side=i.o.side/\c.o.dm=i.o.dm/\c.o.dr=i.o.dr/\c.o.top=i.o.top/\Qa c.m.p i.m.p (zE c.m.s=yO i.m 1/\QK c.m i.m ((a8 c)/\∀(d:iJ),d.ga c.p c.X.B c.X.U->∃(e:iJ),Qa e.p d.p (zE e.s=zE d.s/\QD e d (ag x9 i.X.R=ag x9 c.X.R/\e.ga i.p i.X.B i.X.U))))) (zCb i)) (zCb i))))
def z0e (a:DO) (b:qz):Prop:=∀(c:iJ),c.ga a.p a.X.B a.X.U->∃(d:iJ),Qa d.p c.p (zE d.s=zE c.s/\QD d c (ag x9 b.X.R=ag x9 a.X.R/\d.ga b.p b.X.B b.X.U))
def z0a (a:iJ) (b:qz) (c:BL):Prop:=QD a b.m (ag x9 b.X.R=[x9 (ga.mk 2 c.c.id 0 0 0 0 0 c.pk)]/\a.ga b.p b.X.B b.X.U)
@[reducible] def QV (a:zK)(b:Bo)(R:Prop):Prop:=a.id=(z8 b.B b.id).snd.fst.id/\a.side=(z8 b.B b.id).snd.fst.side/\a.dm=(z8 b.B b.id).snd.fst.dm/\a.dr=(z8 b.B b.id).snd.fst.dr/\a.top=(z8 b.B b.id).snd.fst.top/\R
def yBn (a:qz) (b:Bo):Prop:=∃(c:DO),c.id=a.c.id/\c.inst=(z8 b.B b.id).fst/\QV c.o b (Qa c.m.p a.m.p (zE c.m.s=zE b.s/\QD c.m a.m (((c.m.ga c.p c.B c.U/\jf c.p c.B)/\c.X=gR c.B c.U c.id c.inst c.o)/\z0e c a)))
def yUb (a:qz):Prop:=∃(b:Bo),b.id=a.c.id/\zE b.s=zE a.m.s/\(b.s.ga b.p b.B/\b.B.length<=1000)/\ff (dp (!(z8 b.B b.id).snd.snd) (∃(d:BL),Qd d.c a.c (d.pk=26/\True/\ff (∃(f:iJ),Qa f.p a.m.p (zE f.s=zE b.s/\z0a f a d)))) (dp (a.c.kind==4) (∃(d:On),Qd d.c a.c (d.inst=(z8 b.B b.id).fst/\QV d.o b (Qa d.m.p a.m.p (zE d.m.s=zE b.s/\QD d.m a.m ((d.m.ga d.p d.B d.U/\jf d.p d.B/\z8 d.B d.c.id=(d.inst,d.o,ap)/\(1<=d.c.dr/\d.c.dr<=1000000)/\d.X=fJ d.p d.B d.U d.c d.inst d.o)/\∀(e:iJ),e.ga d.p d.X.B d.X.U->∃(f:iJ),Qa f.p e.p (zE f.s=zE e.s/\QD f e (ag x9 a.X.R=ag x9 d.X.R/\f.ga a.p a.X.B a.X.U))))))) (dp (a.c.kind==2) (yBn a b) (dp (decide (a.c.dr>=(z8 b.B b.id).snd.fst.dr)) (yBn a b) (∃(d:DO),d.id=a.c.id/\d.q=a.c.dr/\d.inst=(z8 b.B b.id).fst/\QV d.o b (Qa d.m.p a.m.p (zE d.m.s=zE b.s/\QD d.m a.m ((a8 d)/\z0e d a))))))))
def Vdo (i:qz):Prop:=
 ∃(a:ir),Qd a i.c (a.label.length<=140737488355328/\ff (dp (a.right !=0) (∃(c:BL),Qd c.c i.c (c.pk=a.right/\True/\ff (∃(e:iJ),Qa e.p i.m.p (zE e.s=zE i.m.s/\z0a e i c)))) (dp (i.c.kind==1) (∃(c:qz),Qd c.c i.c (Qa c.m.p i.m.p (zE c.m.s=zE i.m.s/\QD c.m i.m (((c.m.ga c.p c.B c.U/\jf c.p c.B)/\c.c.right=0/\c.c.kind=1/\c.X=nC c.p c.B c.U c.c)/\WQ c i)))) ((yUb i)/\dk i.c.id/\True/\yUb i))))
def yZf (i:MfI):Prop:=
 ∃(ia:zp),zE ia.s=zE i.m.s/\(ia.s.ga ia.p ia.B/\ia.B.length<=1000)/\∀(o:Unit),True->∃(o:Unit),((ET i.B):Int)=((ET ia.B):Int)/\dk (sb i.m.p.code)/\dk i.m.p.tick/\dk i.m.p.low/\dk i.m.p.high/\dk i.m.p.wide/\dk i.m.p.gn/\dk i.m.p.top/\dk i.m.p.least/\dk i.m.p.part/\zE i.m.s=zE ia.s/\dk (zY i.m.used)/\dk (aa 1 (iE i.m.p.dt))/\dk (aa 1 (iE i.m.p.settle))/\True
def tR (p:fj) (B:Q_ zK) (U:List Int) (c:ir):b8 p B U c=⟨if(vO p B c.inst (decide (c.side=2)) c.dm c.dr).left≠0/\c.time=1 then(Iz p (vO p B c.inst (decide (c.side=2)) c.dm c.dr).B c.inst c.id c.side c.dm (vO p B c.inst (decide (c.side=2)) c.dm c.dr).left).1 else(vO p B c.inst (decide (c.side=2)) c.dm c.dr).B,HB U c.id,
 (⟨1,c.id,c.inst,c.side,c.dm,c.dr,c.dr,0⟩::pN p c (vO p B c.inst (decide (c.side=2)) c.dm c.dr).steps c.dr)++if(vO p B c.inst (decide (c.side=2)) c.dm c.dr).left≠0/\c.time≠1 then[⟨4,c.id,c.inst,c.side,c.dm,(vO p B c.inst (decide (c.side=2)) c.dm c.dr).left,0,0⟩]else[]⟩:=by
 rw[b8]
def zXm {p:fj} {B:Q_ zK} (h:rz p B) (U:List Int) (c:ir):jf p (b8 p B U c).B:=by
 have:=(rU (inst:=c.inst) (sd:=decide (c.side=2)) (dm:=c.dm) _ c.dr B (jx _) h).1.ok;rw[tR];dsimp only;split
 ·exact this.add _ _ _ _ _
 ·exact this
def yKc {p:fj} {B:Q_ zK} (h:rz p B) (U:List Int) (c:ir):jf p (nC p B U c).B:=by
 rw[nC];split
 ·exact h.ok
 split
 ·exact h.ok
 split
 ·exact h.ok
 split
 ·exact h.ok
 split
 ·exact h.ok
 exact zXm h U c
def y7c {p:fj} {B:Q_ zK} (h:rz p B) (U:List Int) (c:ir):jf p (Ak p B U c).B:=by
 rw[Ak];split
 ·exact h.ok
 split
 ·exact yKc h U c
 split
 ·exact h.ok
 split
 ·rw[fJ];split
  ·exact h.ok
  split
  ·exact h.ok.take _ _
  split
  ·exact h.ok
  exact zXm (h.take _ _) U _
 split
 ·exact h.ok.take _ _
 ·exact h.ok.take _ _
def Two (L:List zK):Prop:=L=FD L 1++FD L 2
def zBg {inst s:Int} {f:cX}:∀{os:List zK} {sh:List Int},f∈qI inst s os sh->f.side=s/\f.inst=inst/\∃o∈os,f.dm=o.dm
 |[],sh,h=>by cases h
 |o::os,[],h=>by cases h
 |o::os,k::sh,h=>by
  rw[qI]at h;split at h
  ·rcases j'.1 h with rfl|h
   ·exact⟨rfl,rfl,o,iY,rfl⟩
   ·obtain⟨a,b,o',c,d⟩:=zBg h;exact⟨a,b,o',jj _ c,d⟩
  ·obtain⟨a,b,o',c,d⟩:=zBg h;exact⟨a,b,o',jj _ c,d⟩
def FOk (f:cX):Prop:=(f.side=1\/f.side=2)/\-2000000<=f.dm/\f.dm<=2000000
def zLd {p:fj} {B:Q_ zK} (h:jf p B) (inst:Int) {s:Int} (hs:s=1\/s=2) (q:Int):∀f∈kO p B inst s q,FOk f:=by
 intro f hf;obtain⟨a,_,o,ho,e⟩:=zBg hf;refine⟨by rw[a];exact hs,?_⟩;rw[e];have ho:=(vi.1 ho).1;by_cases hk:inst.toNat<B.length
 ·obtain⟨L,hL⟩:=zZ hk;rw[zX hL]at ho;exact h.yq hL o ho
 ·rw[mz,uv X_]at ho;cases ho
def Yy (t:wY):Prop:=(-2000000<=t.dm/\t.dm<=2000000)/\(∀f∈t.iu,FOk f)/\t.iu.length<=500
def y1g {p:fj} {B:Q_ zK} (h:rz p B) {inst:Int} (hi:0<=inst/\inst<B.length) {s:Int} (hs:s=1\/s=2) (hn:(yY p B inst s).2.2=ap): -2000000<=(yY p B inst s).1.dm/\(yY p B inst s).1.dm<=2000000:=by
 rw[yY]at hn ⊢;obtain⟨L,hL⟩:=zZ (l:=B) (i:=inst.toNat) oM;rw[zX hL]at hn ⊢;split
 ·exact z1y (h.ok.yq hL)
 ·rename_i c;rw[eg c]at hn;have hm:=ZZ hn;have:=(vi.1 hm).2;exact Re h.ok.pc (su this)
def yWq {p:fj} {B:Q_ zK} (h:rz p B) {inst:Int} (hi:0<=inst/\inst<B.length) {sd:Bool} {dm q:Int} {t:wY} {B':Q_ zK} (e:aI p B inst sd dm q=aq (t,B')):Yy t:=by
 have hs:zF (!sd)=1\/zF (!sd)=2:=PO _;have hb:=y1g h hi hs;have xd:=yGc h.ok h.od hi hs;rw[aI]at e;dsimp only at e;split at e
 ·rename_i c;have c1:(yY p B inst (zF (!sd))).2.2=ap:=by
   cases hx:(yY p B inst (zF (!sd))).2.2 with
   |false=>rw[hx]at c;cases c
   |true=>rfl
  have hb:=hb c1;obtain⟨_,xd,_⟩:=xd c1;split at e
  ·rename_i c2;obtain⟨_,ok⟩:=xd c2;cases e;refine⟨hb,λf hf=> ?_,?_⟩
   ·rcases oH.1 hf with hf|hf
    ·exact zLd h.ok _ ok.sa _ f hf
    ·exact zLd h.ok.takes _ ok.sb _ f hf
   ·dsimp only;rw[ix];have:=sC (p:=p) h.od (yY p B inst (zF (!sd))).1.a.inst (yY p B inst (zF (!sd))).1.a.side (min q (yY p B inst (zF (!sd))).1.dr);have:=sC (p:=p) (h.takes (fs:=kO p B (yY p B inst (zF (!sd))).1.a.inst (yY p B inst (zF (!sd))).1.a.side (min q (yY p B inst (zF (!sd))).1.dr))).od (yY p B inst (zF (!sd))).1.b.inst (yY p B inst (zF (!sd))).1.b.side (min q (yY p B inst (zF (!sd))).1.dr);omega
  ·cases e;refine⟨hb,λf hf=>zLd h.ok _ hs _ f hf,?_⟩;have:=sC (p:=p) h.od inst (zF (!sd)) (min q (yY p B inst (zF (!sd))).1.dr);dsimp only;omega
 ·cases e
def zHh (a:Bo):Prop:=QI a.s (True)
def yRb (i:Bo):Prop:=
 (nT i)/\∃(a:Bool),∃(b:Int),(eD i b a)/\dp (!a) (dx ((z8 i.B i.id).fst=0/\(z8 i.B i.id).snd.fst.id=0/\(z8 i.B i.id).snd.fst.side=0/\(z8 i.B i.id).snd.fst.dm=0/\(z8 i.B i.id).snd.fst.dr=0/\(z8 i.B i.id).snd.fst.top=ao/\(z8 i.B i.id).snd.snd=ao/\Qc i.s.p (dk (ac 160 dq 6 zR i.s.ez ar)/\zHh i))) ((0<=b/\b<(i.s.ez.length:Int))/\b.toNat<i.s.ez.length/\∃(c:dq),i.s.ez[b.toNat]?=aq c/\∃(d:CY),d.id=i.id/\yA d.b=yA c/\d.b.ga d.L/\ff (∃(f:dq),yA d.b=yA f/\DK b i.s.ez (dx ((z8 i.B i.id).fst=b/\(z8 i.B i.id).snd.fst.id=(bL d.L d.id).id/\(z8 i.B i.id).snd.fst.side=(bL d.L d.id).side/\(z8 i.B i.id).snd.fst.dm=(bL d.L d.id).dm/\(z8 i.B i.id).snd.fst.dr=(bL d.L d.id).dr/\(z8 i.B i.id).snd.fst.top=(bL d.L d.id).top/\(z8 i.B i.id).snd.snd=ap/\Qc i.s.p (ac 160 dq 6 zR i.s.ez ar=ac 160 dq 6 zR (i.s.ez.set b.toNat f) ar/\zHh i)))))
def xBz (i:Bo) (h:GC.dp i):yRb i:=by
 obtain⟨hR,hB⟩:i.s.ga i.p i.B/\i.B.length<=1000:=h;have tf:=hR.at_ i.id;unfold yRb Qc DK ff dx nT eD zHh QI dI;rw[z8];cases hi:pK i.B i.id with
 |none=>
  rw[hi]at tf;exact⟨bQ _ _,ao,0,.inr ⟨by rw[tN,tf];rfl,rfl,rfl⟩,W_ (λ_=>⟨(),gj⟩) (λe=>absurd e Z8)⟩
 |some k=>
  rw[hi]at tf;obtain⟨L,hL,hh⟩:=uW hi;have hk:=(jk.1 hL).1;obtain⟨b,hb⟩:=zZ (l:=i.s.ez) (i:=k) (by rw[hR.bl];exact hk);have Ep:=hR.bk k b L hb hL;have Aj:=hR.bl;refine⟨bQ _ _,ap,k,.inl ⟨by rw[tN,tf];rfl,rfl⟩,W_ (λe=>absurd e Z8) (λ_=> ?_)⟩;dsimp only;rw[ov,zX hL];have hs:=jK hb;refine⟨⟨oM,oM⟩,oM,b,hb,⟨b,L,i.id,0⟩,rfl,rfl,Ep,λ_ _=>⟨b,rfl,rfl,oM,(),?_⟩⟩;rw[hs]
  (repeat'(first|exact Y_|exact rfl|apply And.intro))
def yQx:GC.ok Z_ 92:=gy mixed (dw z6z fk) 0 i6 i6 [0] func92 xBz
def zXo (id:Int) (U:List Int):∀p∈zY U,me (ak aj id) p.1=ap:=by
 intro p hp;obtain⟨k,_,rfl⟩:=nn.1 hp;rfl
def zYi (id:Int):∀U:List Int,gU (ak aj id) [D.v (.bool ap)] (zY U)=zY (HB U id)
 |[]=>rfl
 |k::U=>by
  have ih:=zYi id U;have e:mF (ak aj id) (ak aj k)=decide (id=k):=by simp[mF,xm]
  show(bif mF (ak aj id) (ak aj k)then(ak aj k,[D.v (.bool ap)])::zY U else(ak aj k,[D.v (.bool ap)])::gU (ak aj id) [D.v (.bool ap)] (zY U))=_;rw[e,ih];by_cases c:id=k
  ·rw[jt c,cond_true,HB,fh (by rw[c];exact iY)];rfl
  ·rw[ju c,cond_false,HB,HB];have hm:id∈k::U↔id∈U:=by simp[c]
   by_cases d:id∈U
   ·rw[fh d,fh (hm.2 d)];rfl
   ·rw[eg d,eg (λx=>d (hm.1 x))];rfl
def zXg (id:Int):∀U:List Int,jL (ak aj id) (zY U)=if id∈U then aq [D.v (.bool ap)]else ar
 |[]=>rfl
 |k::U=>by
  have ih:=zXg id U;have e:mF (ak aj id) (ak aj k)=decide (id=k):=by simp[mF,xm]
  show(bif mF (ak aj id) (ak aj k)then aq [D.v (.bool ap)]else jL (ak aj id) (zY U))=_;rw[e,ih];by_cases c:id=k
  ·rw[jt c,cond_true,fh (by rw[c];exact iY)]
  ·rw[ju c,cond_false];have hm:id∈k::U↔id∈U:=by simp[c]
   by_cases d:id∈U
   ·rw[fh d,fh (hm.2 d)]
   ·rw[eg d,eg (λx=>d (hm.1 x))]
def yPk (id:Int) (U:List Int):jL (ak aj id) (zY U)=aq [D.v (.bool (decide (id∈U)))]/\decide (id∈U)=ap\/jL (ak aj id) (zY U)=ar/\[D.v (.bool (decide (id∈U)))]=[D.v (.bool ao)]/\decide (id∈U)=ao:=by
 rw[zXg];by_cases c:id∈U
 ·rw[fh c,jt c];exact .inl ⟨rfl,rfl⟩
 ·rw[eg c,ju c];exact .inr ⟨rfl,rfl,rfl⟩
def z0f {p:fj} {inst:Int} {sd:Bool} {dm:Int}:∀(m:Nat) (q:Int) (B:Q_ zK),q.toNat<=m->rz p B->0<=inst/\inst<B.length->
 (∀t∈(vO p B inst sd dm q).steps,Yy t/\1<=t.dr)/\((vO p B inst sd dm q).steps.map (·.dr)).sum=q-(vO p B inst sd dm q).left
 |m,q,B,hm,h,hi=>by
  by_cases hq:q<=0
  ·rw[Ri (.inl hq)];exact⟨λt ht=>(by cases ht),by simp⟩
  cases hs:aI p B inst sd dm q with
  |none=>rw[Ri (.inr hs)];exact⟨λt ht=>(by cases ht),by simp⟩
  |some x=>
   obtain⟨t,C⟩:=x;obtain⟨k1,k2⟩:=zXy h hs;have uo:=PC oM hs;cases m with
   |zero=>omega
   |succ m=>
   obtain⟨i1,i2⟩:=z0f (p:=p) (inst:=inst) (sd:=sd) (dm:=dm) m (q-t.dr) C oM k1 (by rw[k2];exact hi);rw[ZB X_ hs];refine⟨λu hu=> ?_,?_⟩
   ·rcases j'.1 hu with rfl|hu
    ·exact⟨yWq h hi hs,uo.1⟩
    ·exact i1 u hu
   ·dsimp only;rw[jg,qi,i2];omega
def y3c {α:Type} {f:α->List ga} (hf:∀x,(f x).length<=3):∀l:List α,(l.flatMap f).length<=3*l.length
 |[]=>jx _
 |x::l=>by
  have:=y3c hf l;have:=hf x;rw[vw,ix,iG];omega
def zYt (p:fj) (c:ir) (x:wY) (left:Int):(rM p c x left).length<=3*x.iu.length+3:=by
 rw[rM,ix];have:=y3c (λf=>ZV p x (Ip f)) x.iu;have:=ZV p x ⟨3,c.id,c.inst,c.side,x.dm,x.dr,left,0⟩;omega
def WV {l:List wY} (h:∀t∈l,Yy t/\1<=t.dr):(l.length:Int)<=(l.map (·.dr)).sum:=by
 induction l with
 |nil=>exact yy _
 |cons t l ih=>
  have:=ih λu hu=>h u (jj _ hu)
  have:=(h t iY).2;rw[jg,qi,iG];omega
def xAg (i:qz) (h:GX.dp i):yVj i:=by
 obtain⟨m,p,B,U,c,X⟩:=i;have h':(m.ga p B U/\jf p B)/\((0<=c.inst/\c.inst<B.length)/\(1<=c.dr/\c.dr<=1000000)/\(c.side=1\/c.side=2))/\p.dm c.inst c.dm=0/\X=b8 p B U c:=h;clear h;obtain⟨⟨⟨ep,hR,eu⟩,hB⟩,⟨⟨h0,h1⟩,hq,hs⟩,Km,hX⟩:=h';subst ep eu hX;have BH:=hR.wf hB;obtain⟨k1,k2,k3⟩:=rU (inst:=c.inst) (sd:=decide (c.side=2)) (dm:=c.dm) _ c.dr B (jx _) BH;have k3:=k3 oM;obtain⟨s1,s2⟩:=z0f (inst:=c.inst) (sd:=decide (c.side=2)) (dm:=c.dm) _ c.dr B (jx _) BH ⟨h0,h1⟩;have hX:=tR m.p B m.used c;have BJ:=Re hB.pc Km;unfold yVj Q5 QZ Qa ph Qd ff kK hP zFq Q5 dI;dsimp only;rw[zYi,hX];refine⟨zXo _ _,⟨m.s,m.p,B,c.inst,decide (c.side=2),c.dm,c.dr⟩,rfl,dP hs,rfl,rfl,rfl,⟨hR,hB,⟨h0,h1⟩,hq.1,hq.2⟩,λo ho=> ?_⟩;have er:oa.r ⟨m.s,m.p,B,c.inst,decide (c.side=2),c.dm,c.dr⟩=vO m.p B c.inst (decide (c.side=2)) c.dm c.dr:=rfl;rw[er]at ho ⊢;clear hX er;generalize vO m.p B c.inst (decide (c.side=2)) c.dm c.dr=R at*;obtain⟨ts,lf,RB⟩:=R;dsimp only at*;have hlen:=WV s1;have e4:(ts.map vG).length=ts.length:=ib ..;refine⟨⟨c.dr,0,[⟨1,c.id,c.inst,c.side,c.dm,c.dr,c.dr,0⟩]⟩,rfl,rfl,rfl,λj=>j.k<=ts.length/\j.left=lf+((ts.drop j.k).map (·.dr)).sum/\(⟨1,c.id,c.inst,c.side,c.dm,c.dr,c.dr,0⟩::pN m.p c ts c.dr)=j.out++pN m.p c (ts.drop j.k) j.left/\j.out.length<=1+1503*j.k,λj=>ts.length-j.k,⟨ml _,by dsimp only;rw[Ei,s2];omega,rfl,jx _⟩,?_⟩
 rintro⟨left,k,out⟩ ⟨j1,j2,j3,j4⟩;dsimp only at j1 j2 j3 j4 ⊢;have e5:(out.map x9).length=out.length:=ib ..;refine zH (λc1=> ?_) (λc1=> ?_)
 ·obtain⟨t,ht⟩:=zZ (l:=ts) (i:=k) oM;have hd:ts.drop k=t::ts.drop (k+1):=by rw[CN X_,(jk.1 ht).2]
  obtain⟨⟨t1,t2,t3⟩,t4⟩:=s1 t (kx ht);have Fb:=WV (l:=ts.drop (k+1)) λu hu=>s1 u (Kg hu)
  have hsk:((ts.drop k).map (·.dr)).sum<=(ts.map (·.dr)).sum:=by
   have:=WV (l:=ts.take k) λu hu=>s1 u (OG hu)
   have e:(ts.map (·.dr)).sum=((ts.take k).map (·.dr)).sum+((ts.drop k).map (·.dr)).sum:=by
    rw[<- J',<- jh,Bi]
   omega
  rw[hd,jg,qi]at j2 hsk;rw[hd,pN]at j3;have OY:=zYt m.p c t (left-t.dr);have e6:((rM m.p c t (left-t.dr)).map x9).length=(rM m.p c t (left-t.dr)).length:=ib ..;have hw:aj.wrap (left-t.dr)=left-t.dr:=iw oM;refine⟨⟨oM,oM⟩,t.dm,t.dr,t.gg,t.iu.map y4,jz ht (by simp[vG]) rfl,?_⟩;rw[hw];refine⟨⟨⟨m.p,o,HB m.used c.id⟩,c,t,left-t.dr⟩,iB (iB (oO (iP ⟨rfl,⟨⟨hB.pc,hB.ps⟩,⟨Z9,Z9⟩,Z9,hs,λf hf=>(t2 f hf).1⟩,λ_ _=>⟨by dsimp only;rw[e5,e6];omega,⟨left-t.dr,k+1,out++rM m.p c t (left-t.dr)⟩,rfl,pf oM,by dsimp only;rw[jh],⟨Z9,Z9,by dsimp only;rw[j3,jd],by dsimp only;rw[ix];omega⟩,Z9,gj⟩⟩)))⟩
 have hk:k=ts.length:=X_
 subst hk;rw[List.drop_of_length_le (jx _)]at j2 j3;rw[pN,oQ]at j3;rw[<- j3];rw[<- j3]at e5 j4;have hRB:=k1.ok;refine W_ (λe=> ?_) (λe=>W_ (λe2=> ?_) (λe2=> ?_))
 ·have e:lf=0:=i9 e
  rw[eg X_,eg X_,oQ];exact⟨⟨m.p,o,HB m.used c.id⟩,iB (nu ⟨rfl,ho,rfl⟩)⟩
 ·have e:¬lf=0:=i9 e
  have e2:c.time=1:=i9 e2
  rw[eg (show ¬(lf≠0/\c.time≠1)by omega),fh (show lf≠0/\c.time=1 from⟨e,e2⟩),oQ];have ha:=(ho.add c.inst c.id (decide (c.side=2)) c.dm lf).1;rw[dP hs]at ha;exact⟨⟨o,c.inst,c.id,decide (c.side=2),c.dm,lf⟩,rfl,rfl,dP hs,rfl,rfl,rfl,ho.fit hRB,λ_ _=>⟨⟨m.p,(gz.iD ⟨o,c.inst,c.id,decide (c.side=2),c.dm,lf⟩).1,HB m.used c.id⟩,iB (nu ⟨rfl,ha,rfl⟩)⟩⟩
 ·have e:¬lf=0:=i9 e
  have e2:¬c.time=1:=i9 e2
  rw[fh (show lf≠0/\c.time≠1 from⟨e,e2⟩),eg (show ¬(lf≠0/\c.time=1)by omega)];exact⟨by rw[e5];omega,⟨m.p,o,HB m.used c.id⟩,iB (nh ⟨rfl,by rw[jh];rfl,rfl,ho,rfl⟩)⟩
def z7m:GX.ok Z_ 196:=gy mixed (dw yCe (dw yOn (dw yZm fk))) 0 i6 (λi=>y6n i) [] func196 xAg
def xCj:Jw.ok Z_ 50:=gy (V:=yZf) mixed (dw zSd fk) 0 i6 i6 [0] func50 λ(i:MfI) h=>by
 obtain⟨m,p,B,U,id⟩:=i;have h':m.ga p B U/\jf p B:=h;clear h;obtain⟨⟨ep,hR,eu⟩,hB⟩:=h';subst ep eu;have:=y8 m.p;have:=hB.bl;exact⟨⟨m.s,m.p,B,0,ao⟩,rfl,⟨hR,Z9⟩,λ_ _=>⟨(),gj⟩⟩
def zXv:JD.ok Z_ 116:=gy (V:=yYr) mixed (dw VV fk) 0 i6 i6 [] func116 λ(i:DO) h=>by
 obtain⟨m,p,B,U,id,q,inst,o,X⟩:=i;have h':(m.ga p B U/\jf p B)/\X=gR B U id inst o:=h;clear h;obtain⟨⟨⟨ep,hR,eu⟩,hB⟩,hX⟩:=h';subst ep eu hX;have:=y8 m.p;have:=hB.bl;exact⟨⟨m.s,m.p,B,id,o.dr⟩,rfl,rfl,rfl,⟨hR,Z9⟩,λo' ho=>⟨⟨m.p,o',m.used⟩,iB (nu ⟨rfl,ho,rfl⟩)⟩⟩
def zXj:Jq.ok Z_ 117:=gy (V:=yFu) mixed (dw VV fk) 0 i6 i6 [] func117 λ(i:DO) h=>by
 obtain⟨m,p,B,U,id,q,inst,o,X⟩:=i;have h':(m.ga p B U/\jf p B)/\gx (o.dr-q)/\X=mA B U id q inst o:=h;clear h;obtain⟨⟨⟨ep,hR,eu⟩,hB⟩,hw,hX⟩:=h';subst ep eu hX;have:=y8 m.p;have:=hB.bl;have hw:=iw hw;unfold yFu QK Qa dI;dsimp only;rw[hw];exact⟨⟨m.s,m.p,B,id,q⟩,rfl,rfl,rfl,⟨hR,Z9⟩,λo' ho=>⟨⟨m.p,o',m.used⟩,iB (nu ⟨rfl,ho,rfl⟩)⟩⟩
def zWq {c:ir} (h:c.right=0):(if c.kind=1 then c.gm else if c.kind≠2/\jF c.dr=ao then 24 else if c.kind=4/\uP c.dm=ao then 23 else 0)=0:=by
 rw[ir.right]at h;by_cases c1:c.kind<1\/4<c.kind
 ·rw[fh c1]at h;cases h
 rw[eg c1]at h;by_cases c2:c.id<1\/1099511627776<c.id
 ·rw[fh c2]at h;cases h
 rw[eg c2]at h;exact h
def zZo {c:ir} (h:c.right=0) (hk:c.kind=1):(c.side=1\/c.side=2)/\(1<=c.dr/\c.dr<=1000000)/\(0<=c.least/\c.least<=c.dr):=by
 have h:=zWq h;rw[fh hk,ir.gm]at h;by_cases c1:c.side≠1/\c.side≠2
 ·rw[fh c1]at h;cases h
 rw[eg c1]at h;by_cases c2:c.time<1\/3<c.time
 ·rw[fh c2]at h;cases h
 rw[eg c2]at h;cases c3:jF c.dr with
 |false=>rw[fh c3]at h;cases h
 |true=>
  rw[eg (by rw[c3];decide)]at h;by_cases c4:c.least<0\/c.dr<c.least
  ·rw[fh c4]at h;cases h
  simp only[jF,lu,ua]at c3;exact⟨oM,c3,oM⟩
def zNq {c:ir} (h:c.right=0) (hk:¬c.kind=1) (o5:¬c.kind=2):1<=c.dr/\c.dr<=1000000:=by
 have h:=zWq h;rw[eg hk]at h;cases c3:jF c.dr with
 |false=>rw[fh ⟨o5,c3⟩]at h;cases h
 |true=>
  simp only[jF,lu,ua]at c3;exact c3
def y8u (i:qz) (h:GJ.dp i):yPe i:=by
 obtain⟨m,p,B,U,c,X⟩:=i;have h':(m.ga p B U/\jf p B)/\c.right=0/\c.kind=1/\X=nC p B U c:=h;clear h;obtain⟨⟨hM,hB⟩,hr,hkd,hX⟩:=h';obtain⟨ep,hR,eu⟩:=hM;subst ep eu;have hM:m.ga m.p B m.used:=⟨rfl,hR,rfl⟩
 obtain⟨hs,hq,hl⟩:=zZo hr hkd;have Aj:=hB.bl;have xe:=y8 m.p;unfold yPe QK Qa Qb Qd ff kK eJ WQ QD Qa lU Qa ff zGe Qa ff zGj QK zGa zGn YE zHy zGg YE hP qQ ph dI;dsimp only;refine⟨⟨m.p,c.inst,c.dm⟩,iB (nh ⟨rfl,hB.ps,λ_ _=>W_ (λe=> ?_) (λe=> ?_)⟩)⟩
 ·have e:m.p.dm c.inst c.dm≠0:=i9 e
  have hx:X=⟨B,m.used,rT c (m.p.dm c.inst c.dm)⟩:=by rw[hX,nC,fh e]
  exact⟨⟨c,m.p.dm c.inst c.dm⟩,nu (iP ⟨rfl,Y_,λ_ _=>⟨m,iB (nh ⟨rfl,by rw[hx];rfl,by rw[hx];exact hM⟩)⟩⟩)⟩
 have Km:m.p.dm c.inst c.dm=0:=i9 e
 have xd:=Zt Km;have hib:0<=c.inst/\c.inst<B.length:=X_
 rw[nC,eg (by rw[Km];decide)]at hX;refine⟨0,λl=>l=c.Mk,W_ (λe=>⟨c.dr,rfl,by rw[ir.Mk,fh (i9 e)],gj⟩) (λe=>⟨c.least,rfl,by rw[ir.Mk,eg (i9 e)],gj⟩),?_⟩;rintro _ rfl;refine⟨zXo _ _,_,_,yPk _ _,zH (λe=> ?_) (λe=> ?_)⟩
 ·have hx:X=⟨B,m.used,rT c 25⟩:=by rw[hX,fh e]
  exact⟨⟨c,25⟩,nu (iP ⟨rfl,Y_,λ_ _=>⟨m,iB (nh ⟨rfl,by rw[hx];rfl,by rw[hx];exact hM⟩)⟩⟩)⟩
 rw[eg e]at hX;refine⟨⟨m.s,m.p,B,0,ao⟩,rfl,⟨hR,Z9⟩,λ_ _=>zH (λe=> ?_) (λe=> ?_)⟩
 ·have hx:X=⟨B,m.used,rT c 13⟩:=by rw[hX,fh (by dsimp only at e;omega)]
  exact⟨⟨c,13⟩,nu (iP ⟨rfl,Y_,λ_ _=>⟨m,iB (nh ⟨rfl,by rw[hx];rfl,by rw[hx];exact hM⟩)⟩⟩)⟩
 rw[eg (by dsimp only at e;omega)]at hX;have oZ:oa.ok ⟨m.s,m.p,B,c.inst,decide (c.side=2),c.dm,c.dr⟩:=⟨hR,hB,hib,hq.1,hq.2⟩
 refine⟨ap,λb=>b=decide (0<c.Mk/\c.dr-(vO m.p B c.inst (decide (c.side=2)) c.dm c.dr).left<c.Mk),zH (λe=>⟨⟨m.s,m.p,B,c.inst,decide (c.side=2),c.dm,c.dr⟩,rfl,dP hs,rfl,rfl,rfl,oZ,λ_ _=>⟨_,rfl,decide_eq_decide.2 ⟨λx=>⟨e,x⟩,λx=>x.2⟩,gj⟩⟩) (λe=>⟨ao,rfl,(ju λx=>e x.1).symm,gj⟩),?_⟩;rintro _ rfl;refine zH (λe=> ?_) (λe=> ?_)
 ·have hx:X=⟨B,m.used,rT c 28⟩:=by rw[hX,fh e]
  exact⟨⟨c,28⟩,nu (iP ⟨rfl,Y_,λ_ _=>⟨m,iB (nh ⟨rfl,by rw[hx];rfl,by rw[hx];exact hM⟩)⟩⟩)⟩
 rw[eg e]at hX;refine⟨ap,λb=>b=decide (c.time=1/\nB m.p B c.inst (decide (c.side=2)) c.dm c.dr=ap),W_ (λe=>⟨⟨m.s,m.p,B,c.inst,decide (c.side=2),c.dm,c.dr⟩,rfl,dP hs,rfl,rfl,rfl,oZ,λ_ _=>⟨_,rfl,?_,gj⟩⟩) (λe=>⟨ao,rfl,(ju λx=> ?_).symm,gj⟩),?_⟩
 ·have e:c.time=1:=i9 e
  dsimp only;cases hb:nB m.p B c.inst (decide (c.side=2)) c.dm c.dr with
  |true=>exact(jt ⟨e,rfl⟩).symm
  |false=>exact(ju λx=>by cases x.2).symm
 ·rw[x.1]at e;cases e
 rintro _ rfl;refine zH (λe=> ?_) (λe=> ?_)
 ·have hx:X=⟨B,m.used,rT c 23⟩:=by rw[hX,fh e]
  exact⟨⟨c,23⟩,nu (iP ⟨rfl,Y_,λ_ _=>⟨m,iB (nh ⟨rfl,by rw[hx];rfl,by rw[hx];exact hM⟩)⟩⟩)⟩
 rw[eg e]at hX;exact⟨⟨m,m.p,B,m.used,c,X⟩,iB (iB (tr ⟨rfl,⟨⟨hM,hB⟩,⟨hib,hq,hs⟩,Km,hX⟩,λo ho=>⟨o,iB (nu ho)⟩⟩))⟩
def yQd:GJ.ok Z_ 114:=gy mixed (dw Rf (dw yAy (dw zSd (dw yLg (dw z8l (dw z7m fk)))))) 0 (λ_=>xBv) i6 [] func114 y8u
def z1u {p:fj} {B:Q_ zK} (h:rz p B) {id inst:Int} {o:zK} (hf:z8 B id=(inst,o,ap)):(0<=inst/\inst<B.length)/\Lx o:=by
 rw[z8]at hf;split at hf
 ·cases hf
 ·rename_i k hk;obtain⟨L,hL,hh⟩:=uW hk;rw[zX hL]at hf;cases hf;have gr:=(jk.1 hL).1;obtain⟨o,ho,e⟩:=nn.1 (ku.1 hh);have hg:=eO (h.od k L hL).2.1 ho;rw[e]at hg;rw[hg];exact⟨oM,(h.od k L hL).1 o ho⟩
def zTj (p:fj) (c:ir):∀(l:List wY) (left:Int),(∀t∈l,Yy t/\1<=t.dr)->(pN p c l left).length<=1503*l.length
 |[],_,_=>jx _
 |t::l,left,h=>by
  have a:=zTj p c l (left-t.dr) λu hu=>h u (jj _ hu)
  have b:=zYt p c t (left-t.dr);have d:=(h t iY).1.2.2;rw[pN,ix,iG];omega
def zGd {p:fj} {B:Q_ zK} (h:rz p B) (U:List Int) {c:ir} (hi:0<=c.inst/\c.inst<B.length) (hq:1<=c.dr/\c.dr<=1000000):(b8 p B U c).R.length<=1503000002:=by
 obtain⟨s1,s2⟩:=z0f (inst:=c.inst) (sd:=decide (c.side=2)) (dm:=c.dm) _ c.dr B (jx _) h hi;have k3:=(rU (inst:=c.inst) (sd:=decide (c.side=2)) (dm:=c.dm) _ c.dr B (jx _) h).2.2 oM;have:=WV s1;have:=zTj p c _ c.dr s1;rw[tR];dsimp only;rw[ix,iG];split
 ·rw[iG,uj];omega
 ·rw[uj];omega
def yVm (i:On) (h:B7.dp i):z5n i:=by
 obtain⟨m,p,B,U,c,inst,o,X⟩:=i;have h':m.ga p B U/\jf p B/\z8 B c.id=(inst,o,ap)/\(1<=c.dr/\c.dr<=1000000)/\X=fJ p B U c inst o:=h;clear h;obtain⟨hM,hB,hf,hq,hX⟩:=h';obtain⟨ep,hR,eu⟩:=hM;subst ep eu;have hM:m.ga m.p B m.used:=⟨rfl,hR,rfl⟩
 have BH:=hR.wf hB;obtain⟨xd,HZ⟩:=z1u BH hf;have CS:=HZ.s;have hoq:=HZ.q;have Aj:=hB.bl;have xe:=y8 m.p;unfold z5n QD QK Qa Qb Qd ff a8 zCb QD QK Qa Qd ff kK dV N' Q0 zAe QK eJ qQ ph;dsimp only;refine⟨⟨m.p,inst,c.dm⟩,iB (nh ⟨rfl,hB.ps,λ_ _=>W_ (λe=> ?_) (λe=> ?_)⟩)⟩
 ·have e:m.p.dm inst c.dm≠0:=i9 e
  have hx:X=⟨B,m.used,rT c (m.p.dm inst c.dm)⟩:=by rw[hX,fJ,fh e]
  exact⟨⟨c,m.p.dm inst c.dm⟩,nu (iP ⟨rfl,Y_,λ_ _=>⟨m,iB (nh ⟨rfl,by rw[hx];rfl,by rw[hx];exact hM⟩)⟩⟩)⟩
 have Km:m.p.dm inst c.dm=0:=i9 e
 rw[fJ,eg (by rw[Km];decide)]at hX;have hw:aj.wrap (o.dr-c.dr)=o.dr-c.dr:=iw oM;rw[hw];refine(λhT=>W_ (λe1=>zH (λe2=> ?_) (λe2=>hT λx=>e2 x.2)) (λe1=>hT λx=>by rw[x.1]at e1;simp at e1)) (λ(hn:¬(c.dm=o.dm/\c.dr<=o.dr))=> ?_)
 ·have e1:c.dm=o.dm:=i9 e1
  rw[fh ⟨e1,e2⟩]at hX;exact⟨⟨m,m.p,B,m.used,c.id,o.dr-c.dr,inst,o,X⟩,iB (iB (nh ⟨rfl,⟨⟨hM,hB⟩,⟨Z9,Z9⟩,hX⟩,λo' ho=>⟨o',iB (nu ho)⟩⟩))⟩
 rw[eg hn]at hX;have hBt:=hB.take c.id o.dr;refine⟨m.s,rfl,hR.small hB,λ_ _=>⟨⟨m.s,m.p,B,c.id,o.dr⟩,rfl,rfl,rfl,⟨hR,Z9⟩,λo' oK=>⟨⟨o',m.p,(iR B c.id o.dr).1,inst,decide (o.side=2),c.dm,c.dr⟩,rfl,dP CS,rfl,rfl,rfl,⟨oK,hBt,by dsimp only;rw[sL];exact xd,hq.1,hq.2⟩,λ_ _=>W_ (λe=> ?_) (λe=> ?_)⟩⟩⟩
 ·have hx:X=⟨B,m.used,rT c 23⟩:=by rw[hX,fh e]
  exact⟨⟨c,23⟩,nu (iP ⟨rfl,Y_,λ_ _=>⟨m,iB (nh ⟨rfl,by rw[hx];rfl,by rw[hx];exact hM⟩)⟩⟩)⟩
 rw[eg (by rw[e];decide)]at hX;refine⟨⟨m,m.p,B,m.used,c.id,0,inst,o,gR B m.used c.id inst o⟩,iB (iB (iP ⟨rfl,⟨⟨hM,hB⟩,rfl⟩,λo1 ho1=>⟨⟨o1,m.p,(iR B c.id o.dr).1,m.used,⟨1,c.id,inst,o.side,c.dm,c.dr,0,1,[]⟩,b8 m.p (iR B c.id o.dr).1 m.used ⟨1,c.id,inst,o.side,c.dm,c.dr,0,1,[]⟩⟩,iB (iB (tr ⟨rfl,⟨⟨ho1,hBt⟩,⟨by dsimp only;rw[sL];exact xd,hq,CS⟩,Km,rfl⟩,λo2 O6=>⟨?_,o2,rfl,rfl,rfl,rfl,rfl,rfl,rfl,rfl,rfl,rfl,rfl,rfl,rfl,?_,?_⟩⟩))⟩⟩))⟩
 ·have:=zGd (BH.take c.id o.dr) m.used (c:=⟨1,c.id,inst,o.side,c.dm,c.dr,0,1,[]⟩) (by dsimp only;rw[sL];exact xd) hq;dsimp only;rw[ib,ib];have e1:(gR B m.used c.id inst o).R.length=1:=rfl;omega
 ·rw[hX,<- jh];rfl
 ·rw[hX];exact O6
def z9i:B7.ok Z_ 115:=gy mixed (dw Rf (dw yAy (dw P5 (dw VV (dw z8l (dw zXv (dw zXj (dw z7m fk)))))))) 0 i6 i6 [] func115 yVm
def vdo (i:qz) (h:doC.dp i):Vdo i:=by
 obtain⟨m,p,B,U,c,X⟩:=i;have h':(m.ga p B U/\jf p B)/\c.label.length<=140737488355328/\gx c.dr/\X=Ak p B U c:=h;clear h;obtain⟨⟨hM,hB⟩,hlb,hqr,hX⟩:=h';obtain⟨ep,hR,eu⟩:=hM;subst ep eu;have hM:m.ga m.p B m.used:=⟨rfl,hR,rfl⟩
 have BH:=hR.wf hB;have Aj:=hB.bl;have xe:=y8 m.p;unfold Vdo QD Qa Qd ff WQ QD Qa yUb QD QV Qa Qd ff a8 yBn QD QV Qa z0a QD z0e QD Qa;dsimp only;refine⟨c,iB ⟨rfl,hlb,λ_ _=>W_ (λe=> ?_) (λe=> ?_)⟩⟩
 ·have e:c.right≠0:=i9 e
  have hx:X=⟨B,m.used,rT c c.right⟩:=by rw[hX,Ak,fh e]
  exact⟨⟨c,c.right⟩,nu (iP ⟨rfl,Y_,λ_ _=>⟨m,iB (nh ⟨rfl,by rw[hx];rfl,by rw[hx];exact hM⟩)⟩⟩)⟩
 have hr:c.right=0:=i9 e
 rw[Ak,eg (by rw[hr];decide)]at hX;refine W_ (λe=> ?_) (λe=> ?_)
 ·have e:c.kind=1:=i9 e
  rw[fh e]at hX;exact⟨⟨m,m.p,B,m.used,c,X⟩,iB (iB (tr ⟨rfl,⟨⟨hM,hB⟩,hr,e,hX⟩,λo ho=>⟨o,iB (nu ho)⟩⟩))⟩
 have hk:¬c.kind=1:=i9 e
 rw[eg hk]at hX;refine(λhT=>⟨hT,rfl,Y_,hT⟩) ?_;refine⟨⟨m.s,m.p,B,c.id,0⟩,rfl,rfl,⟨hR,Z9⟩,λ_ _=>W_ (λe=> ?_) (λe=> ?_)⟩
 ·have e:(z8 B c.id).2.2=ao:=i9 e
  have hx:X=⟨B,m.used,rT c 26⟩:=by rw[hX,fh e]
  exact⟨⟨c,26⟩,nu (iP ⟨rfl,Y_,λ_ _=>⟨m,iB (nh ⟨rfl,by rw[hx];rfl,by rw[hx];exact hM⟩)⟩⟩)⟩
 have e:(z8 B c.id).2.2=ap:=i9 e
 rw[eg (by rw[e];decide)]at hX;dsimp only;have hf:z8 B c.id=((z8 B c.id).1,(z8 B c.id).2.1,ap):=by rw[<- e]
 generalize (z8 B c.id).1=inst at*;generalize (z8 B c.id).2.1=o at*;obtain⟨xd,HZ⟩:=z1u BH hf;have hoq:=HZ.q;refine W_ (λe4=> ?_) (λe4=>W_ (λe2=> ?_) (λe2=>zH (λe3=> ?_) (λe3=> ?_)))
 ·have e4:c.kind=4:=i9 e4
  rw[fh e4]at hX;exact⟨⟨m,m.p,B,m.used,c,inst,o,X⟩,iB (iB (iB (iP ⟨rfl,⟨hM,hB,hf,zNq hr hk (by rw[e4];decide),hX⟩,λo' ho=>⟨o',iB (nu ho)⟩⟩)))⟩
 all_goals
  have e4:¬c.kind=4:=i9 e4
  rw[eg e4]at hX
 ·have e2:c.kind=2:=i9 e2
  rw[fh (.inl e2)]at hX;exact⟨⟨m,m.p,B,m.used,c.id,0,inst,o,X⟩,iB (iB (iP ⟨rfl,⟨⟨hM,hB⟩,hX⟩,λo' ho=>⟨o',iB (nu ho)⟩⟩))⟩
 ·rw[fh (.inr X_)]at hX;exact⟨⟨m,m.p,B,m.used,c.id,0,inst,o,X⟩,iB (iB (iP ⟨rfl,⟨⟨hM,hB⟩,hX⟩,λo' ho=>⟨o',iB (nu ho)⟩⟩))⟩
 ·have e2:¬c.kind=2:=i9 e2
  have hq:=zNq hr hk e2;rw[eg X_]at hX;exact⟨⟨m,m.p,B,m.used,c.id,c.dr,inst,o,X⟩,iB (iB (nh ⟨rfl,⟨⟨hM,hB⟩,⟨Z9,Z9⟩,hX⟩,λo' ho=>⟨o',iB (nu ho)⟩⟩))⟩
def xFs:doC.ok Z_ 49:=gy mixed (dw Y8 (dw yAy (dw yQx (dw yQd (dw z9i (dw zXv (dw zXj fk))))))) 0 i6 i6 [0] func49 vdo
def zXx {p:fj} (hc:p.check=0):1<=p.count/\p.count<=21:=by
 have h1:=V3 hc;have h2:=(jH hc).m2;have h3:=y8 p;omega
def yYy (c:ir):1<=h9 c/\h9 c<=4:=by
 have:=y3 (n:=c.kind) (lo:=0) (hi:=8) oM;rw[h9];split<;>omega
def yKg (t:zo):(xI t).kind=h9 t.c:=by
 rw[xI];split<;>rfl
def yPo (t:zo):1<=(xI t).dr/\(xI t).dr<=12:=by
 have:=y3 (n:=t.c.dr) (lo:=0) (hi:=11) oM;have e:(xI t).dr=1+zG t.c.dr 0 11:=by rw[xI];split<;>rfl
 omega
def zIb (t:zo):(xI t).label=[]:=by
 rw[xI];split<;>rfl
def z5c (x:fj) (c:ir) (i:Int) (hk:h9 c=1):let y:=xI ⟨im x,c,i⟩
 (0<=y.inst/\y.inst<(im x).count)/\(y.side=1\/y.side=2)/\(1<=y.time/\y.time<=3)/\(0<=y.least/\y.least<=y.dr)/\(-2000000<=y.dm/\y.dm<=2000000)/\(im x).dm y.inst y.dm=0:=by
 have hc:=rI x;have hcb:=zXx hc;have ht:=VU x;have wi:=y3 (n:=c.inst) (lo:=0) (hi:=((im x).count:Int)-1) oM;have ws:=y3 (n:=c.side) (lo:=0) (hi:=1) oM;have wq:=y3 (n:=c.dr) (lo:=0) (hi:=11) oM;have wp:=y3 (n:=c.dm) (lo:=0) (hi:=9) oM;have ww:=y3 (n:=x.wide) (lo:=0) (hi:=60) oM;have wl:=y3 (n:=c.least) (lo:=0) (hi:=1+zG c.dr 0 11) oM;have hm:=JN (a:=zW x) (b:=zG c.dm 0 9) (m:=zW x) (n:=9) oM wp;have hw:=JN (a:=zW x) (b:=zG x.wide 0 60) (m:=zW x) (n:=60) oM ww;have hh:(xC ⟨im x,c,i⟩).kind=1:=hk;have e:xI ⟨im x,c,i⟩={xC ⟨im x,c,i⟩with id:=i+1,time:=cB c,least:=aB c (1+zG c.dr 0 11),dm:=if((im x).gp (zG c.inst 0 ((im x).count-1))).2.2=ap then zW x*zG c.dm 0 9-4*zW x else zW x*zG c.dm 0 9+8*zW x}:=by
  rw[xI,fh hh];rfl
 intro y;have ey:y=_:=e;rw[ey];have htm:1<=cB c/\cB c<=3:=by rw[cB];split;omega;split<;>omega
 have hle:0<=aB c (1+zG c.dr 0 11)/\aB c (1+zG c.dr 0 11)<=1+zG c.dr 0 11:=by rw[aB];split<;>omega
 refine⟨⟨wi.1,by show zG c.inst 0 ((im x).count-1)<_;omega⟩,by show 1+zG c.side 0 1=1\/1+zG c.side 0 1=2;omega,htm,hle,?_,?_⟩
 ·dsimp only;split<;>omega
 ·dsimp only;show(im x).dm (zG c.inst 0 ((im x).count-1)) _=0;obtain⟨k,o5⟩:∃k:Nat,zG c.inst 0 (((im x).count:Int)-1)=k:=⟨(zG c.inst 0 (((im x).count:Int)-1)).toNat,oM⟩
  rw[o5]at wi ⊢;have hkc:k<(im x).count:=X_
  have et:(im x).tick=zW x:=rfl;have el:(im x).low= -20*zW x:=rfl;have eh:(im x).high=100*zW x:=rfl;have ew:(im x).wide=zW x*(5+zG x.wide 0 60):=rfl;rw[Int.mul_add]at ew;rw[fj.dm,eg X_,eg X_,et,el,eh,ew];rcases dC hc hkc with⟨h1,_⟩|⟨h1,h2⟩
  ·have Ms:((im x).dt.length:Int)<=k:=by
    rcases vh k (im x).dt.length with y|y
    ·rw[fj.gp,eg X_,fh X_]at h1;cases h1
    ·omega
   rw[fh h1,fh Ms,fh Ms,eg,eg X_];have:zW x*zG c.dm 0 9-4*zW x=zW x*(zG c.dm 0 9-4):=by rw[Int.mul_sub,Ef 4]
   rw[this,NV];decide
  ·have gr:¬((im x).dt.length:Int)<=k:=X_
   rw[eg (show ¬((im x).gp k).2.2=ap by rw[h1];decide),eg gr,eg gr,eg,eg X_];have:zW x*zG c.dm 0 9+8*zW x=zW x*(zG c.dm 0 9+8):=by rw[Int.mul_add,Ef 8]
   rw[this,NV];decide
def zTi (x:fj) (c:ir) (i:Int): -2000000<=(xI ⟨im x,c,i⟩).dm/\(xI ⟨im x,c,i⟩).dm<=2000000:=by
 have ht:=VU x;have wp:=y3 (n:=c.dm) (lo:=0) (hi:=9) oM;have hm:=JN (a:=zW x) (b:=zG c.dm 0 9) (m:=zW x) (n:=9) oM wp;have et:(im x).tick=zW x:=rfl;by_cases h1:h9 c=1
 ·obtain⟨_,_,_,_,h,_⟩:=z5c x c i h1;exact h
 ·have hh:¬(xC ⟨im x,c,i⟩).kind=1:=h1;have e:(xI ⟨im x,c,i⟩).dm=if(xC ⟨im x,c,i⟩).kind=4 then zW x*zG c.dm 0 9+5*zW x else zW x*zG c.dm 0 9:=by rw[xI,eg hh];rfl
  rw[e];split<;>omega
def yDe (x:fj) (c:ir) (i id:Int) (Bn:1<=id/\id<=1099511627776):ir.right {xI ⟨im x,c,i⟩with id:=id}=0:=by
 have hk:=yYy c;have hq:=yPo ⟨im x,c,i⟩;have hp:=zTi x c i;have hcb:=zXx (rI x);rw[ir.right];dsimp only;rw[yKg];dsimp only;rw[eg X_,eg X_];have q1:jF (xI ⟨im x,c,i⟩).dr=ap:=by rw[jF,jt X_,jt X_];rfl
 have q2:uP (xI ⟨im x,c,i⟩).dm=ap:=by rw[uP,jt X_,jt X_];rfl
 by_cases h1:h9 c=1
 ·obtain⟨a1,a2,a3,a4,a5,a6⟩:=z5c x c i h1;rw[fh h1,ir.gm];dsimp only;rw[eg X_,eg X_,eg (by rw[q1];decide),eg X_,eg (by rw[zIb];simp),eg (by rw[q2];decide),eg X_]
 ·rw[eg h1,eg (by rw[q1];simp),eg (by rw[q2];simp)]
end Sx
