/- Texts of ours. No condition. -/
import Derived.Laws.Externs
import Derived.Test.YtfmobncdogfbmaaGreatQ5
set_option linter.all false
open Go.IntKind renaming i64->ab,u64->ac
open List renaming map->ae,take->af,replicate->ag,headD_cons->aj,tail_cons->ak,drop->am,range->ao
open Bool renaming true->ap,false->aq
open Sx.fq renaming cells->ar,own->au,kq->av,iter->aw
open Exists renaming intro->ax
open Option renaming some->ay
open And renaming intro->az
open Go.Utf8 renaming decode->ba
namespace Sx
set_option maxRecDepth 100000
open Go Cv Go.Proofs
def pL (a:Bool->Prop) (b:Bool) (c:i4) (d:Nat×Nat):Prop:=a b/\dl (aw (sb c) (d.fst+(ba (sb c) d.fst).snd))
def qS (a:i4) (b:Nat×Nat):=((ba (sb a) b.fst).fst:Int)
def zBn (a:i4) (b:Nat×Nat) (c:Bool->Prop):Prop:=∃(d:Bool),d=!(qS a b) !=930/\pL c d a b
def aK (a:Bool->Prop) (b:i4) (c:Nat×Nat):Prop:=∃(d:Bool),d=!false/\pL a d b c
def yGe (s:i4):Prop:=
 ∃(a:Nat×Nat),(a.snd:Int)=0/\sb s=sb s/\a.fst=0/\∃(b:Nat×Nat->Prop),∃(c:Nat×Nat->Nat),b a/\∀(d:Nat×Nat),b d->dp (d.fst.blt (sb s).size) (∃(e:Bool),∃(f:Bool->Prop),dp (decide ((qS s d)>=65)) (dp (decide ((qS s d)<=90)) (∃(g:Bool),g=!true/\pL f g s d) (dp (decide ((qS s d)>=913)) (dp (decide ((qS s d)<=937)) (zBn s d f) (aK f s d)) (aK f s d))) (dp (decide ((qS s d)>=913)) (dp (decide ((qS s d)<=937)) (zBn s d f) (aK f s d)) (aK f s d))/\∀(g:Bool),f g->dp g (dx (vL s=aq/\True)) (bU d s b c)) (dp (decide ((d.snd:Int)>=1)) (dx (vL s=decide ((d.snd:Int)<=4)/\True)) (dx (vL s=aq/\True)))
def mX (a:fj):Prop:=ar [V.d (gE a),V.own 0,V.d (dI a.tick),V.d (dI a.low),V.d (dI a.high),V.d (dI a.wide),V.d (dI a.gm),V.d (dI a.top),V.d (dI a.least),V.d (dI a.part),V.own 1] 25=ar [V.d (gE a),V.own 0,V.d (dI a.tick),V.d (dI a.low),V.d (dI a.high),V.d (dI a.wide),V.d (dI a.gm),V.d (dI a.top),V.d (dI a.least),V.d (dI a.part),V.own 1] 25/\mT a
def zCc (a:Nat) (b:Nat->Prop) (c:Nat->Nat) (d:fj):Prop:=∃(e:Nat),QO e a b c (mX d)
def zCj (a:Bool->Prop) (b:fj) (c:Nat) (d:Nat->Prop) (e:Nat->Nat):Prop:=∀(f:Bool),a f->dp f (dx (b.check=1/\True)) (zCc c d e b)
def kC (a:Bool->Prop) (b:Bool) (c:fj):Prop:=a b/\mX c
def yT (a:Bool->Prop) (b:fj):Prop:=∃(c:Bool),c=ap/\kC a c b
def z7m (p:fj):Prop:=
 ∃(a:i4),sb a=sb p.code/\a.length<=1099511627776/\ff (dp (!vL a) (dx (p.check=12/\True)) (∃(c:Bool),∃(d:Bool->Prop),dp (decide ((xP p)<2)) (yT d p) (∃(e:Bool),e=decide ((xP p)>6)/\kC d e p)/\∀(e:Bool),d e->dp e (dx (p.check=1/\True)) (∃(f:Nat),(f:Int)=0/\∃(g:Nat->Prop),∃(h:Nat->Nat),g f/\∀(j:Nat),g j->dp (decide ((j:Int)<(xP p))) (∃(k:Bool),∃(l:Bool->Prop),((0<=(j:Int)/\(j:Int)<(xP p))/\∃(m:Int),zD (iE p.dt) (j:Int).toNat 0 1=ay [dI m]/\dp (decide (m<0)) (yT l p) ((0<=(j:Int)/\(j:Int)<(xP p))/\∃(n:Int),zD (iE p.dt) (j:Int).toNat 0 1=ay [dI n]/\dp (decide (n>1199)) (yT l p) (dp (decide ((j:Int)>0)) ((0<=ab.wrap ((j:Int)-1)/\ab.wrap ((j:Int)-1)<(xP p))/\∃(q:Int),zD (iE p.dt) (ab.wrap ((j:Int)-1)).toNat 0 1=ay [dI q]/\(0<=(j:Int)/\(j:Int)<(xP p))/\∃(r:Int),zD (iE p.dt) (j:Int).toNat 0 1=ay [dI r]/\∃(s:Bool),s=decide (q>=r)/\kC l s p) (∃(q:Bool),q=aq/\kC l q p))))/\zCj l p j g h) (∃(k:Bool),∃(l:Bool->Prop),dp (decide (p.tick<1)) (yT l p) (dp (decide (p.tick>1000)) (yT l p) (IT p (dp (p.low.tmod p.tick !=0) (yT l p) (IT p (dp (p.high.tmod p.tick !=0) (yT l p) (IT p (∃(m:Bool),m=(p.wide.tmod p.tick !=0)/\kC l m p)))))))/\∀(m:Bool),l m->dp m (dx (p.check=22/\True)) (∃(n:Nat),(n:Int)=0/\∃(q:Nat->Prop),∃(r:Nat->Nat),q n/\∀(s:Nat),q s->dp (decide ((s:Int)<(v8 p))) ((0<=(s:Int)/\(s:Int)<(v8 p))/\∃(t:Int),zD (iE p.settle) (s:Int).toNat 0 1=ay [dI t]/\IT p (dp (t.tmod p.tick !=0) (dx (p.check=22/\True)) (zCc s q r p))) (∃(t:Bool),∃(u:Bool->Prop),dp (decide (p.low<(-1000000))) (yT u p) (dp (decide (p.low>=p.high)) (yT u p) (dp (decide (p.high>1000000)) (yT u p) (dp (decide (p.wide<0)) (yT u p) (∃(v:Bool),v=decide (p.wide>ab.wrap (p.high-p.low))/\kC u v p))))/\∀(v:Bool),u v->dp v (dx (p.check=23/\True)) (dp ((v8 p) !=(xP p)) (dx (p.check=1/\True)) (∃(w:Nat),(w:Int)=0/\∃(x:Nat->Prop),∃(y:Nat->Nat),x w/\∀(z:Nat),x z->dp (decide ((z:Int)<(v8 p))) (∃(lk:Bool),∃(lu:Bool->Prop),((0<=(z:Int)/\(z:Int)<(v8 p))/\∃(jq:Int),zD (iE p.settle) (z:Int).toNat 0 1=ay [dI jq]/\dp (decide (jq<p.low)) (yT lu p) ((0<=(z:Int)/\(z:Int)<(v8 p))/\∃(oQ:Int),zD (iE p.settle) (z:Int).toNat 0 1=ay [dI oQ]/\∃(iR:Bool),iR=decide (oQ>p.high)/\kC lu iR p))/\zCj lu p z x y) (∃(lk:Bool),∃(lu:Bool->Prop),dp (decide (p.gm<1)) (yT lu p) (∃(jq:Bool),jq=decide (p.gm>3)/\kC lu jq p)/\∀(jq:Bool),lu jq->dp jq (dx (p.check=31/\True)) (∃(oQ:Bool),∃(iR:Bool->Prop),dp (decide (p.top<0)) (yT iR p) (dp (decide (p.top>1000000)) (yT iR p) (dp (decide (p.least<1)) (yT iR p) (dp (decide (p.least>1000)) (yT iR p) (dp (decide (p.part<0)) (yT iR p) (∃(qo:Bool),qo=decide (p.part>100)/\kC iR qo p)))))/\∀(qo:Bool),iR qo->dp qo (dx (p.check=24/\True)) (dx (p.check=0/\True))))))))))))
def z6t (p:fj):Prop:=
 ∃(a:fj),eD a p
def dS (a:aP) (b:Nat×Nat):=((yQ a.p.dt.length b.fst+b.snd):Int)
def yEi (i:aP):Prop:=
 ∃(a:fj),Qb a i.p ((zV a)/\ff (dp (a.check !=0) (dF i) (dp (decide (i.n<0)) (dF i) (dp (decide (i.n<(uM i))) (Wu i) (∃(c:Nat),(gM i c)=(uM i)/\(c:Int)=0/\∃(d:Nat->Prop),∃(e:Nat->Nat),d c/\∀(f:Nat),d f->dp (decide ((f:Int)<(uM i))) (∃(g:Nat×Nat),(dS i g)=(gM i f)/\(g.fst:Int)=(f:Int)/\((g.fst+1+g.snd):Int)=ab.wrap ((f:Int)+1)/\∃(h:Nat×Nat->Prop),∃(j:Nat×Nat->Nat),h g/\∀(k:Nat×Nat),h k->dp (decide (((k.fst+1+k.snd):Int)<(uM i))) (dp ((dS i k)==i.n) (dx ((i.p.gp i.n).fst=(k.fst:Int)/\(i.p.gp i.n).snd.fst=((k.fst+1+k.snd):Int)/\(i.p.gp i.n).snd.snd=ap/\True)) (∃(l:Nat×Nat),(dS i l)=ab.wrap ((dS i k)+1)/\(l.fst:Int)=(k.fst:Int)/\((l.fst+1+l.snd):Int)=ab.wrap (((k.fst+1+k.snd):Int)+1)/\h l/\j l<j k/\pX i)) (∃(l:Nat),(gM i l)=(dS i k)/\(l:Int)=ab.wrap ((k.fst:Int)+1)/\Wv d l e f i)) (dF i))))))
def xA (a:ra):Prop:=((-9223372036854775808)<=a.n/\a.n<=9223372036854775807)/\(-1000000)<=a.lo/\a.lo<=a.hi/\a.hi<=1000000
def qM (a:ra):=(1+zI a.n a.lo a.hi)
def qN:=(D.v (Value.slice none 0 0))
def jV:=(D.v (Value.string (ByteArray.mk #[])))
def ZU (a:fj):Prop:=ar (Sx.V.agg [V.d jV,V.d qN,V.d (dI 0),V.d (dI 0),V.d (dI 0),V.d (dI 0),V.d (dI 0),V.d (dI 0),V.d (dI 0),V.d (dI 0),V.d qN]).cl 25=ar (Sx.V.agg [V.d jV,V.d qN,V.d (dI 0),V.d (dI 0),V.d (dI 0),V.d (dI 0),V.d (dI 0),V.d (dI 0),V.d (dI 0),V.d (dI 0),V.d qN]).cl 25/\mX a
def zMn (a:fj) (b:ra) (c:ra) (d:ra) (e:ra) (f:Unit->Prop):Prop:=∃(g:ra),g.n=a.part/\g.lo=0/\g.hi=100/\(xA g)/\ff (∃(j:Unit),sb [(206:UInt8),(169:UInt8)]=ByteArray.mk #[(206:UInt8),(169:UInt8)]/\True/\zW a=ab.wrap (qM b)/\(-20)*zW a=ab.wrap ((-20)*ab.wrap (qM b))/\100*zW a=ab.wrap (100*ab.wrap (qM b))/\dl ((0:Int))/\1+zI a.gm 0 2=ab.wrap (qM c)/\zI a.top 0 9=zI d.n d.lo d.hi/\1+zI a.least 0 4=ab.wrap (qM e)/\zI a.part 0 100=zI g.n g.lo g.hi/\True/\f j/\ZU a)
def zLu (a:fj) (b:ra) (c:ra) (d:ra) (e:ra) (f:Unit->Prop):Prop:=a.part=a.part/\zMn a b c d e f
def zMo (a:fj) (b:ra) (c:ra) (d:ra) (e:Unit->Prop):Prop:=a.part=a.part/\dl a.least/\∃(f:ra),f.n=a.least/\f.lo=0/\f.hi=4/\(xA f)/\ff (zLu a b c d f e)
def zLg (a:fj) (b:ra) (c:ra) (d:Unit->Prop):Prop:=a.part=a.part/\dl a.least/\dl a.top/\∃(e:ra),e.n=a.top/\e.lo=0/\e.hi=9/\(xA e)/\ff (zMo a b c e d)
def wS (a:fj):=(5+zI a.wide 0 60)
def hP (a:fj):=(jA (zW a) (kN a).toNat)
@[reducible] def QD (a:fj)(R:Prop):Prop:=zW a=zW a/\(-20)*zW a=(-20)*zW a/\100*zW a=100*zW a/\zW a*(wS a)=zW a*(wS a)/\1+zI a.gm 0 (2:Int)=(1:Int)+zI a.gm 0 2/\zI a.top 0 9=zI a.top 0 (9:Int)/\(1:Int)+zI a.least 0 (4:Int)=(1:Int)+zI a.least 0 4/\zI a.part 0 100=zI a.part 0 100/\R
def yQh (x:fj):Prop:=
 ∃(a:ra),a.n=(xP x)/\a.lo=0/\a.hi=3/\(xA a)/\ff (∃(c:ra),c.n=x.tick/\c.lo=0/\c.hi=9/\(xA c)/\ff (dx (∃(f:Unit->Prop),((∃(g:ra),g.n=x.gm/\g.lo=0/\g.hi=2/\(xA g)/\ff (dl x.part/\dl x.least/\dl x.top/\(∃(j:ra),j.n=x.top/\j.lo=0/\j.hi=9/\(xA j)/\ff (dl x.part/\dl x.least/\(∃(l:ra),l.n=x.least/\l.lo=0/\l.hi=4/\(xA l)/\ff (dl x.part/\(zMn x c g j l f)/\zLu x c g j l f))/\zMo x c g j f))/\zLg x c g f))/\dl x.part/\dl x.least/\dl x.top/\dl x.gm/\∃(g:ra),g.n=x.gm/\g.lo=0/\g.hi=2/\(xA g)/\ff (zLg x c g f))/\∀(g:Unit),f g->∃(h:ra),h.n=x.wide/\h.lo=0/\h.hi=60/\(xA h)/\ff (∃(k:Nat),(k:Int)=0/\dl (sb [(206:UInt8),(169:UInt8)])/\zW x=zW x/\dl ((-20)*zW x)/\dl (100*zW x)/\zW x*(wS x)=ab.wrap (ab.wrap (qM c)*ab.wrap (5+zI h.n h.lo h.hi))/\1+zI x.gm 0 (2:Int)=(1:Int)+zI x.gm 0 2/\zI x.top 0 9=zI x.top 0 (9:Int)/\(1:Int)+zI x.least 0 (4:Int)=(1:Int)+zI x.least 0 4/\dl (zI x.part 0 100)/\iE (qU k)=[]/\iE (jA (zW x) k)=[]/\∃(l:Nat->Prop),∃(m:Nat->Nat),l k/\∀(n:Nat),l n->dp (decide ((n:Int)<ab.wrap (2+zI a.n a.lo a.hi))) (((iE (qU n)).length+1)*(8:Nat)<=(140737488355328:Nat)/\((iE (jA (zW x) n)).length+1)*(8:Nat)<=(140737488355328:Nat)/\∃(p:Nat),(p:Int)=ab.wrap ((n:Int)+1)/\dl (sb [(206:UInt8),(169:UInt8)])/\QD x (iE (qU p)=iE (qU n)++[[dI (ab.wrap (ab.wrap (10*(n:Int))+3))]]/\iE (jA (zW x) p)=iE (jA (zW x) n)++[[dI (ab.wrap (ab.wrap (qM c)*ab.wrap (10+(n:Int))))]]/\l p/\m p<m n/\ZU x)) (dx (dl (sb [(206:UInt8),(169:UInt8)])/\iE (qU (kN x).toNat)=iE (qU n)/\QD x (iE (hP x)=iE (jA (zW x) n)/\True)))))))
def yWh (s:i4) (h:DV.dp s):yGe s:=by
 have h:s.length<=1099511627776:=h;have hr:=zMs s;unfold yGe dx aK zBn qS pL bU;refine⟨(0,0),rfl,rfl,rfl,λx=>x.1<=s.length/\x.2+(g7 s x.1).length=(jM s).length/\(jM s).all fA=((g7 s x.1).all λy=>fA y.2),λx=>s.length-x.1,⟨oM,by rw[jM,ia];simp,by rw[jM,List.all_map];rfl⟩,?_⟩;rintro⟨p,n⟩ ⟨h1,h2,h3⟩;dsimp only at h1 h2 h3 ⊢;refine Cv.dp.mk (λhp=> ?_) (λhp=> ?_)
 ·have hp:p<s.length:=by simpa[yk]using hp
  have hw:=aU s hp;rw[wM hp,iF]at h2;rw[wM hp,List.all_cons]at h3;generalize hc:(ba (sb s) p).1=c at h2 h3 ⊢;generalize hww:(ba (sb s) p).2=w at h2 h3 hw ⊢;dsimp only at h3;have g0:∀b:Bool,(b=ap->fA c=ap)->(b=aq->fA c=aq)->b=fA c:=λb e1 e2=>by cases b<;>simp_all
  refine⟨ap,λb=>b= !fA c,?_,λb hb=> ?_⟩
  ·refine zG (λc1=>zG (λc2=>⟨_,rfl,?_,gn⟩) (λc2=>zG (λc3=>zG (λc4=>⟨_,rfl,?_,gn⟩) (λc4=>⟨_,rfl,?_,gn⟩)) (λc3=>⟨_,rfl,?_,gn⟩))) (λc1=>zG (λc3=>zG (λc4=>⟨_,rfl,?_,gn⟩) (λc4=>⟨_,rfl,?_,gn⟩)) (λc3=>⟨_,rfl,?_,gn⟩))
   all_goals congr 1
   all_goals refine g0 _ (λe=> ?_) (λe=> ?_)
   all_goals first|(simp[fA]at*;done)|(simp[fA]at*;omega)
  ·subst hb;refine Cv.dp.mk (λe=>⟨(),?_,trivial⟩) (λe=>⟨(p+w,n+1),?_,rfl,rfl,⟨hw.2,by(first|omega|(dsimp only;omega)),?_⟩,by(first|omega|(dsimp only;omega)),trivial⟩)
   ·have e:fA c=aq:=i9 e
    rw[vL,h3,e];rfl
   ·rw[iw (by omega)];rfl
   ·have e:fA c=ap:=i9 e
    rw[h3,e];rfl
 ·have hp:s.length<=p:=by have:=Xt hp;simpa using this
  rw[hU hp]at h2 h3;have h3:(jM s).all fA=ap:=h3;have hn:n=(jM s).length:=i9 h2
  have jy:(s=[])↔(jM s).length=0:=by
   constructor
   ·intro e;subst e;rfl
   ·intro e;cases s with
    |nil=>rfl
    |cons b l=>
     rw[jM,ia,wM (by simp)]at e;simp at e
  refine zG (λc=>⟨(),?_,trivial⟩) (λc=>⟨(),?_,trivial⟩)
  ·have:¬s=[]:=by rw[jy];omega
   rw[vL,h3,jo this,hn];simp only[As];congr 1;simp only[eq_iff_iff];omega
  ·have:s=[]:=by rw[jy];omega
   rw[vL,this];rfl
def yKg:DV.ok Tryz.prog 227:=gx mixed fk 0 (λ_=>yZb) (λs=>yYr s) [] Tryz.func227 yWh
def lZ:∀(l:List Int) (a:Int),l.foldl min a<=a/\∀x∈l,l.foldl min a<=x
 |[],a=>⟨yl _,by simp⟩
 |b::l,a=>by
  obtain⟨h1,h2⟩:=lZ l (min a b);rw[A7];refine⟨oM,λx hx=> ?_⟩;rcases jx.1 hx with rfl|hx
  ·omega
  ·exact h2 x hx
def lL:∀(l:List Int) (a:Int),a<=l.foldl max a/\∀x∈l,x<=l.foldl max a
 |[],a=>⟨yl _,by simp⟩
 |b::l,a=>by
  obtain⟨h1,h2⟩:=lL l (max a b);rw[A7];refine⟨oM,λx hx=> ?_⟩;rcases jx.1 hx with rfl|hx
  ·omega
  ·exact h2 x hx
def zEv:∀(l:List Int) (a:Int),l.foldl min a=a\/l.foldl min a∈l
 |[],a=> .inl rfl
 |b::l,a=>by
  rw[A7];rcases zEv l (min a b)with h|h
  ·rcases Int.le_total a b with e|e
   ·left;rw[h];omega
   ·right;rw[h,show min a b=b by omega];exact iX
  ·exact .inr (ji _ h)
def zFa:∀(l:List Int) (a:Int),l.foldl max a=a\/l.foldl max a∈l
 |[],a=> .inl rfl
 |b::l,a=>by
  rw[A7];rcases zFa l (max a b)with h|h
  ·rcases Int.le_total a b with e|e
   ·right;rw[h,show max a b=b by omega];exact iX
   ·left;rw[h];omega
  ·exact .inr (ji _ h)
def yDs {l:List Int} {x:Int} (h:x∈l):lH l<=x:=by
 cases l with
 |nil=>cases h
 |cons a l=>
  rw[lH,ak,aj];rcases jx.1 h with rfl|h
  ·exact(lZ l x).1
  ·exact(lZ l a).2 x h
def yDo {l:List Int} {x:Int} (h:x∈l):x<=A1 l:=by
 cases l with
 |nil=>cases h
 |cons a l=>
  rw[A1,ak,aj];rcases jx.1 h with rfl|h
  ·exact(lL l x).1
  ·exact(lL l a).2 x h
def z6a {l:List Int} (h:l≠[]):lH l∈l:=by
 cases l with
 |nil=>exact absurd rfl h
 |cons a l=>
  rw[lH,ak,aj];rcases zEv l a with h|h
  ·rw[h];exact iX
  ·exact ji _ h
def z8a {l:List Int} (h:l≠[]):A1 l∈l:=by
 cases l with
 |nil=>exact absurd rfl h
 |cons a l=>
  rw[A1,ak,aj];rcases zFa l a with h|h
  ·rw[h];exact iX
  ·exact ji _ h
def yMq (p:fj) (h:B4.dp p):z7m p:=by
 obtain⟨h1,h2,h3⟩:p.small:=h;unfold z7m IT ff dx zCj dx zCc QO yT kC mX gE mT xP v8 dI;simp only[y9];refine⟨p.code,rfl,h1,λ_ _=>Cv.dp.mk (λc1=>⟨(),by rw[fj.check,fh c1],trivial⟩) λc1=> ?_⟩;have c1:vL p.code=ap:=i9 c1
 have e1:p.check=if !xS p.dt then 1 else if !kI p then 22 else if kG p then 23 else if xW p then 1 else if jD p then 31 else if qO p then 24 else 0:=by
  rw[fj.check,ez (by simp[c1])]
 refine⟨ap,λb=>b=(decide (p.dt.length<2)||decide (p.dt.length>6)),zG (λc=>⟨ap,rfl,?_,gn⟩) (λc=>⟨_,rfl,?_,gn⟩),λb hb=> ?_⟩
 ·rw[jo (show p.dt.length<2 by omega)];rfl
 ·rw[jv (show ¬p.dt.length<2 by omega),LU];congr 1;simp only[eq_iff_iff];omega
 subst hb;refine Cv.dp.mk (λc2=> ?_) (λc2=> ?_)
 ·have:xS p.dt=aq:=by
   simp only[Og,tn]at c2;rw[xS];rcases c2 with c2|c2
   ·rw[jv (show ¬2<=p.dt.length by omega)];simp
   ·rw[jv (show ¬p.dt.length<=6 by omega)];simp
  exact⟨(),by rw[e1,fh (by rw[this];rfl)],trivial⟩
 have c2:2<=p.dt.length/\p.dt.length<=6:=by
  simp only[HD,decide_eq_false_iff_not]at c2;omega
 have em:xS p.dt=(ao p.dt.length).all (kU p.dt):=by
  rw[xS,jo c2.1,jo c2.2];simp
 refine⟨0,rfl,λj=>j<=p.dt.length/\∀k<j,kU p.dt k=ap,λj=>p.dt.length-j,⟨oM,λk hk=>by omega⟩,?_⟩;rintro j ⟨g1,g2⟩;refine zG (λhj=> ?_) (λhj=> ?_)
 ·obtain⟨m,hm⟩:=zZ (l:=p.dt) (i:=j) oM;have Ya:p.dt.getD j 0=m:=zX hm;refine⟨ap,λb=>b= !kU p.dt j,⟨⟨oM,oM⟩,m,rp hm,zG (λc=>⟨ap,rfl,?_,gn⟩) (λc=>⟨⟨oM,oM⟩,m,rp hm,zG (λd=>⟨ap,rfl,?_,gn⟩) (λd=>zG (λe=> ?_) (λe=>⟨aq,rfl,?_,gn⟩))⟩)⟩,λb hb=> ?_⟩
  ·rw[kU,Ya,jv (show ¬0<=m by omega)];rfl
  ·rw[kU,Ya,jv (show ¬m<=1199 by omega)];simp
  ·obtain⟨m',Ax⟩:=zZ (l:=p.dt) (i:=j-1) oM;rw[iw (by omega),show((j:Int)-1).toNat=j-1 by omega];refine⟨⟨oM,oM⟩,m',rp Ax,⟨oM,oM⟩,m,rp hm,_,rfl,?_,gn⟩;rw[kU,Ya,zX Ax,jo (show 0<=m by omega),jo (show m<=1199 by omega),jv (show ¬j=0 by omega)];simp only[As,LU];by_cases gu:m'<m
   ·rw[jo gu,jv (by omega)];rfl
   ·rw[jv gu,jo (by omega)];rfl
  ·rw[kU,Ya,jo (show 0<=m by omega),jo (show m<=1199 by omega),jo (show j=0 by omega)];rfl
  ·subst hb;refine Cv.dp.mk (λc=>⟨(),?_,trivial⟩) (λc=>⟨j+1,by rw[iw (by omega)];rfl,⟨oM,λk hk=> ?_⟩,by(first|omega|(dsimp only;omega)),gn⟩)
   ·have c:kU p.dt j=aq:=i9 c
    rw[e1,fh (by rw[em,zZj (k:=j) (by omega) c];rfl)]
   ·have c:kU p.dt j=ap:=i9 c
    rcases uz k j with h|h
    ·exact g2 k h
    ·obtain rfl:k=j:=by omega
     exact c
 have em:xS p.dt=ap:=by rw[em];exact z6l λk hk=>g2 k oM
 have e2:p.check=if !kI p then 22 else if kG p then 23 else if xW p then 1 else if jD p then 31 else if qO p then 24 else 0:=by
  rw[e1,ez (by simp[em])]
 have et:kI p=((decide (1<=p.tick) && decide (p.tick<=1000) && !kJ p.tick p.low && !kJ p.tick p.high && !kJ p.tick p.wide) && !p.settle.any (kJ p.tick)):=rfl;refine⟨ap,λb=>b= !(decide (1<=p.tick) && decide (p.tick<=1000) && !kJ p.tick p.low && !kJ p.tick p.high && !kJ p.tick p.wide),zG (λd1=>⟨ap,rfl,?_,gn⟩) (λd1=>zG (λd2=>⟨ap,rfl,?_,gn⟩) (λd2=>⟨trivial,oM,Cv.dp.mk (λd3=>⟨ap,rfl,?_,gn⟩) (λd3=>⟨trivial,oM,Cv.dp.mk (λd4=>⟨ap,rfl,?_,gn⟩) (λd4=>⟨trivial,oM,_,rfl,?_,gn⟩)⟩)⟩)),λb hb=> ?_⟩
 ·rw[jv (show ¬1<=p.tick by omega)];rfl
 ·rw[jv (show ¬p.tick<=1000 by omega)];simp
 ·have d3:kJ p.tick p.low=ap:=d3;rw[d3];simp
 ·have d4:kJ p.tick p.high=ap:=d4;rw[d4];simp
 ·have d3:kJ p.tick p.low=aq:=d3;have d4:kJ p.tick p.high=aq:=d4;rw[d3,d4,jo (show 1<=p.tick by omega),jo (show p.tick<=1000 by omega)];show kJ p.tick p.wide=_;simp
 subst hb;refine Cv.dp.mk (λc3=> ?_) (λc3=> ?_)
 ·have c3:(decide (1<=p.tick) && decide (p.tick<=1000) && !kJ p.tick p.low && !kJ p.tick p.high && !kJ p.tick p.wide)=aq:=by
   rw[Dp]at c3;exact c3
  exact⟨(),by rw[e2,fh (by rw[et,c3];rfl)],trivial⟩
 have c3:(decide (1<=p.tick) && decide (p.tick<=1000) && !kJ p.tick p.low && !kJ p.tick p.high && !kJ p.tick p.wide)=ap:=i9 c3
 have ht1:1<=p.tick:=by
  simp only[lr,tn]at c3;exact c3.1.1.1.1
 rw[c3,As]at et;refine⟨0,rfl,λj=>j<=p.settle.length/\∀k<j,∀x,p.settle[k]? =ay x->kJ p.tick x=aq,λj=>p.settle.length-j,⟨oM,λk hk=>by omega⟩,?_⟩;rintro j ⟨g1,g2⟩;refine zG (λhj=> ?_) (λhj=> ?_)
 ·obtain⟨m,hm⟩:=zZ (l:=p.settle) (i:=j) oM;refine⟨⟨oM,oM⟩,m,rp hm,trivial,oM,Cv.dp.mk (λc=>⟨(),?_,trivial⟩) (λc=>⟨j+1,by rw[iw (by omega)];rfl,⟨oM,λk hk x hx=> ?_⟩,by(first|omega|(dsimp only;omega)),gn⟩)⟩
  ·have c:kJ p.tick m=ap:=c;have:p.settle.any (kJ p.tick)=ap:=by rw[Oh];exact⟨m,lh hm,c⟩
   rw[e2,fh (by rw[et,this];rfl)]
  ·rcases uz k j with h|h
   ·exact g2 k h x hx
   ·obtain rfl:k=j:=by omega
    rw[hm]at hx;cases hx;exact c
 have et:kI p=ap:=by
  rw[et];have:p.settle.any (kJ p.tick)=aq:=by
   rw[L0];intro x hx;obtain⟨k,hk⟩:=Oq hx;rw[g2 k (by have:=(jm.1 hk).1;omega) x hk];simp
  rw[this];rfl
 have e3:p.check=if kG p then 23 else if xW p then 1 else if jD p then 31 else if qO p then 24 else 0:=by
  rw[e2,ez (by simp[et])]
 refine⟨ap,λb=>b=kG p,zG (λd1=>⟨ap,rfl,?_,gn⟩) (λd1=>zG (λd2=>⟨ap,rfl,?_,gn⟩) (λd2=>zG (λd3=>⟨ap,rfl,?_,gn⟩) (λd3=>zG (λd4=>⟨ap,rfl,?_,gn⟩) (λd4=>⟨_,rfl,?_,gn⟩)))),λb hb=> ?_⟩
 ·simp[kG,d1]
 ·simp[kG,d2]
 ·simp[kG,d3]
 ·simp[kG,d4]
 ·rw[iw (by omega)];simp[kG,d1,d2,d3,d4]
 subst hb;refine Cv.dp.mk (λc4=>⟨(),by rw[e3,fh c4],trivial⟩) (λc4=> ?_);have e4:p.check=if xW p then 1 else if jD p then 31 else if qO p then 24 else 0:=by
  rw[e3,ez (by simp[c4])]
 refine Cv.dp.mk (λd6=>⟨(),?_,trivial⟩) (λd6=> ?_)
 ·have d6:¬(p.settle.length:Int)=p.dt.length:=i9 d6
  rw[e4,fh (by simp[xW];omega)]
 have d6:p.settle.length=p.dt.length:=by
  have:(p.settle.length:Int)=p.dt.length:=i9 d6
  omega
 have jy:p.settle≠[]:=by intro e;rw[e]at d6;simp at d6;omega
 refine⟨0,rfl,λj=>j<=p.settle.length/\∀k<j,∀x,p.settle[k]? =ay x->p.low<=x/\x<=p.high,λj=>p.settle.length-j,⟨oM,λk hk=>by omega⟩,?_⟩;rintro j ⟨g3,g4⟩;refine zG (λhj=> ?_) (λhj=> ?_)
 ·obtain⟨m,hm⟩:=zZ (l:=p.settle) (i:=j) oM;have Si:=lh hm;refine⟨ap,λb=>b=(decide (m<p.low)||decide (m>p.high)),⟨⟨oM,oM⟩,m,rp hm,zG (λc=>⟨ap,rfl,?_,gn⟩) (λc=>⟨⟨oM,oM⟩,m,rp hm,_,rfl,?_,gn⟩)⟩,λb hb=> ?_⟩
  ·rw[jo c];rfl
  ·rw[jv c,LU]
  ·subst hb;refine Cv.dp.mk (λc=>⟨(),?_,trivial⟩) (λc=>⟨j+1,by rw[iw (by omega)];rfl,⟨oM,λk hk x hx=> ?_⟩,by(first|omega|(dsimp only;omega)),gn⟩)
   ·have l1:=yDs Si;have l2:=yDo Si;rw[e4,fh (by
     simp only[Og,tn]at c;simp only[xW,Og,tn];rcases c with c|c
     ·left;right;omega
     ·right;omega)]
   ·rcases uz k j with h|h
    ·exact g4 k h x hx
    ·obtain rfl:k=j:=by omega
     rw[hm]at hx;cases hx;simp only[HD,decide_eq_false_iff_not]at c;omega
 have qj:xW p=aq:=by
  have all:∀x∈p.settle,p.low<=x/\x<=p.high:=λx hx=>by
   obtain⟨k,hk⟩:=Oq hx;exact g4 k (by have:=(jm.1 hk).1;omega) x hk
  have a1:=all _ (z6a jy);have a2:=all _ (z8a jy);simp only[xW,HD,decide_eq_false_iff_not];omega
 have e5:p.check=if jD p then 31 else if qO p then 24 else 0:=by
  rw[e4,ez (by simp[qj])]
 refine⟨ap,λb=>b=jD p,zG (λd1=>⟨ap,rfl,?_,gn⟩) (λd1=>⟨_,rfl,?_,gn⟩),λb hb=> ?_⟩
 ·simp[jD,d1]
 ·simp[jD,d1]
 subst hb;refine Cv.dp.mk (λc6=>⟨(),by rw[e5,fh c6],trivial⟩) (λc6=> ?_);have e6:p.check=if qO p then 24 else 0:=by rw[e5,ez (by simp[c6])]
 refine⟨ap,λb=>b=qO p,zG (λd1=>⟨ap,rfl,?_,gn⟩) (λd1=>zG (λd2=>⟨ap,rfl,?_,gn⟩) (λd2=>zG (λd3=>⟨ap,rfl,?_,gn⟩) (λd3=>zG (λd4=>⟨ap,rfl,?_,gn⟩) (λd4=>zG (λd5=>⟨ap,rfl,?_,gn⟩) (λd5=>⟨_,rfl,?_,gn⟩))))),λb hb=> ?_⟩
 ·simp[qO,d1]
 ·simp[qO,d2]
 ·simp[qO,d3]
 ·simp[qO,d4]
 ·simp[qO,d5]
 ·simp[qO,d1,d2,d3,d4,d5]
 subst hb;exact Cv.dp.mk (λc7=>⟨(),by rw[e6,fh c7],trivial⟩) (λc7=>⟨(),by rw[e6,ez (by simp[c7])],trivial⟩)
def zRx:B4.ok Tryz.prog 165:=gx mixed (dw yKg fk) 0 (λ_=>yQj) (λ_=>yOf) [] Tryz.func165 yMq
def tC {p:fj} (h:p.check=0):p.count=p.dt.length+p.dt.length*(p.dt.length-1) / 2:=by rw[fj.count,fh h]
def zUt {p:fj} (h:p.check≠0):p.count=0:=by rw[fj.count,ez h]
def yTt (p:fj) (h:B2.dp p):z6t p:=by
 have hs:p.small:=h;unfold z6t eD Qb ff dx xP zV o8;simp only[y9];refine⟨p,oL (iM ⟨rfl,hs,λ_ _=>Cv.dp.mk (λc=>⟨(),?_,trivial⟩) (λc=>⟨trivial,Z8,(),?_,trivial⟩)⟩)⟩
 ·rw[zUt (i9 c)];rfl
 ·have c:p.check=0:=i9 c
  have m6:=(jB c).m6;have m2:=(jB c).m2;rw[tC c];generalize p.dt.length=n at*;have:n=2\/n=3\/n=4\/n=5\/n=6:=by omega
  rcases this with rfl|rfl|rfl|rfl|rfl<;>decide
def yAq:B2.ok Tryz.prog 88:=gx mixed (dw zRx fk) 0 i6 i6 [] Tryz.func88 yTt
def yNn:∀n≤6,∀a<n,∀b<n-1-a,jT n (yQ n a+b) n 0=((a:Int),((a+1+b:Nat):Int),ap)/\yQ n a+b<n+n*(n-1) / 2/\n<=yQ n a+b:=by decide
def yIt:∀n≤6,yQ n n=n+n*(n-1) / 2:=by decide
def yXa {p:fj} (h:p.check=0) {a b:Nat} (ha:a<p.dt.length) (hb:b<p.dt.length-1-a):p.gp ((yQ p.dt.length a+b:Nat):Int)=((a:Int),((a+1+b:Nat):Int),ap):=by
 obtain⟨h1,h2,h3⟩:=yNn _ (jB h).m6 a ha b hb;rw[fj.gp,ez (by rw[tC h];omega),ez (by omega),ot];exact h1
def yXw (i:aP) (h:DU.dp i):yEi i:=by
 have hs:i.p.small:=h;unfold yEi Qb ff dx dS uM gM Wu dx dF dx Wv pX Bi zV o8 dI;simp only[y9];refine⟨i.p,oL (iM ⟨rfl,hs,λ_ _=>Cv.dp.mk (λc=> ?_) (λc=>zG (λc1=> ?_) (λc1=>zG (λc2=> ?_) (λc2=> ?_)))⟩)⟩
 ·rw[fj.gp,fh (by rw[zUt (i9 c)];omega)];exact kp
 ·rw[fj.gp,fh (.inl c1)];exact kp
 ·have c:i.p.check=0:=i9 c
  rw[fj.gp,ez (by rw[tC c];omega),fh c2];exact kp
 ·have c:i.p.check=0:=i9 c
  have m6:=(jB c).m6;obtain⟨k,hk⟩:∃k:Nat,i.n=k:=⟨i.n.toNat,oM⟩
  have sp:=λ(a b:Nat) ha hb=>yXa (p:=i.p) c (a:=a) (b:=b) ha hb
  have fe:=yIt _ m6;have out:i.p.count<=k->i.p.gp (k:Int)=(0,0,aq):=λe=>by rw[fj.gp,fh (by omega)]
  rw[tC c,<- fe]at out;rw[hk]at c2 ⊢;generalize hn:i.p.dt.length=n at*;refine⟨0,rfl,rfl,λm=>m<=n/\yQ n m<=k,λm=>n-m,⟨oM,by show n<=k;omega⟩,?_⟩;rintro m ⟨g1,g2⟩;have hf:=ZK m6 g1;refine zG (λc4=> ?_) (λc4=> ?_)
  ·refine⟨(m,0),rfl,rfl,by rw[iw (by omega)];simp,λx=>x.1=m/\x.2<=n-1-m/\yQ n m+x.2<=k,λx=>n-1-m-x.2,⟨rfl,by(first|omega|(dsimp only;omega)),by(first|omega|(dsimp only;omega))⟩,?_⟩;rintro⟨a,b⟩ ⟨g3,g4,g5⟩;dsimp only at g3 g4 g5 ⊢;subst g3;refine zG (λc5=>Cv.dp.mk (λe=> ?_) (λe=> ?_)) (λc5=> ?_)
   ·have e:((yQ n a+b:Nat):Int)=(k:Int):=i9 e
    have:=sp a b oM oM;rw[e]at this;rw[this];exact kp
   ·have e:¬((yQ n a+b:Nat):Int)=(k:Int):=i9 e
    refine⟨(a,b+1),?_,rfl,?_,⟨rfl,by(first|omega|(dsimp only;omega)),by(first|omega|(dsimp only;omega))⟩,by(first|omega|(dsimp only;omega)),gn⟩
    ·rw[iw (by omega)];dsimp only;omega
    ·rw[iw (by omega)];dsimp only;omega
   ·refine⟨a+1,?_,by rw[iw (by omega)];rfl,⟨oM,?_⟩,by(first|omega|(dsimp only;omega)),gn⟩
    ·rw[yQ];omega
    ·rw[yQ];omega
  ·obtain rfl:m=n:=by omega
   rw[out g2];exact kp
def yKk:DU.ok Tryz.prog 89:=gx mixed (dw zRx fk) 0 i6 (λi=>yYl i) [] Tryz.func89 yXw
def Vv (x:fj):1<=zW x/\zW x<=10:=by
 have:=yZ (n:=x.tick) (lo:=0) (hi:=9) oM;rw[zW];omega
def yVf (x:fj):2<=kN x/\kN x<=5:=by
 have:=yZ (n:=(x.dt.length:Int)) (lo:=0) (hi:=3) oM;rw[kN];omega
def JE {a b m n:Int} (ha:0<=a/\a<=m) (hb:0<=b/\b<=n):0<=a*b/\a*b<=m*n:=by
 refine⟨Od ha.1 hb.1,?_⟩;exact Int.le_trans (Int.mul_le_mul_of_nonneg_right ha.2 hb.1) (XK hb.2 oM)
def z2v (j:Nat):iE (qU (j+1))=iE (qU j)++[[D.v (.int .i64 (10*(j:Int)+3))]]:=by
 rw[qU,HB,jk,iE,jk];rfl
def z0v (t:Int) (j:Nat):iE (jA t (j+1))=iE (jA t j)++[[D.v (.int .i64 (t*(10+(j:Int))))]]:=by
 rw[jA,HB,jk,iE,jk];rfl
def zBq (j:Nat):(qU j).length=j:=by simp[qU]
def rC (t:Int) (j:Nat):(jA t j).length=j:=by simp[jA]
def y8b (x:fj) (h:C5.dp x):yQh x:=by
 obtain⟨h1,h2,h3,h4,h5,h6,h7⟩:x.raw:=h;have hw: -1000000<=(0:Int):=by decide
 have bt:=yZ (n:=x.tick) (lo:=0) (hi:=9) oM;have bw:=yZ (n:=x.wide) (lo:=0) (hi:=60) oM;have br:=yZ (n:=x.gm) (lo:=0) (hi:=2) oM;have bl:=yZ (n:=x.least) (lo:=0) (hi:=4) oM;have bn:=yZ (n:=(x.dt.length:Int)) (lo:=0) (hi:=3) oM;have kt:=Vv x;have kn:=yVf x;have w1:ab.wrap (1+zI x.tick 0 9)=zW x:=iw oM;have w2:ab.wrap (-20*ab.wrap (1+zI x.tick 0 9))= -20*zW x:=by rw[w1];exact iw oM
 have w3:ab.wrap (100*ab.wrap (1+zI x.tick 0 9))=100*zW x:=by rw[w1];exact iw oM
 have w4:ab.wrap (1+zI x.gm 0 2)=1+zI x.gm 0 2:=iw oM;have w5:ab.wrap (1+zI x.least 0 4)=1+zI x.least 0 4:=iw oM;have w6:ab.wrap (2+zI x.dt.length 0 3)=kN x:=iw oM;have mb:=JE (a:=zW x) (b:=5+zI x.wide 0 60) (m:=10) (n:=65) oM oM;have w7:ab.wrap (ab.wrap (1+zI x.tick 0 9)*ab.wrap (5+zI x.wide 0 60))=zW x*(5+zI x.wide 0 60):=by
  rw[w1,iw (x:=5+zI x.wide 0 60) (by omega)];exact iw oM
 unfold yQh QD ff dx hP wS zLg ff zMo ff zLu zMn ff ZU jV qN mX gE mT qM xA xP dI;simp only[y9];refine⟨⟨x.dt.length,0,3⟩,rfl,rfl,rfl,⟨⟨Z9,Z9⟩,Z9,Z9,Z9⟩,λ_ _=>⟨⟨x.tick,0,9⟩,rfl,rfl,rfl,⟨h1,Z9,Z9,Z9⟩,λ_ _=> ?_⟩⟩;dsimp only;refine⟨(),λ_=>True,?_,λ_ _=> ?_⟩
 ·repeat'(first|exact trivial|exact rfl|exact w1.symm|exact w2.symm|exact w3.symm|exact w4.symm|exact w5.symm|apply az|refine⟨⟨x.gm,0,2⟩,rfl,rfl,rfl,⟨h3,Z9,Z9,Z9⟩,λ_ _=> ?_⟩|refine⟨⟨x.top,0,9⟩,rfl,rfl,rfl,⟨h4,Z9,Z9,Z9⟩,λ_ _=> ?_⟩|refine⟨⟨x.least,0,4⟩,rfl,rfl,rfl,⟨h5,Z9,Z9,Z9⟩,λ_ _=> ?_⟩|refine⟨⟨x.part,0,100⟩,rfl,rfl,rfl,⟨h6,Z9,Z9,Z9⟩,λ_ _=> ?_⟩|refine⟨(),?_⟩)
 ·refine⟨⟨x.wide,0,60⟩,rfl,rfl,rfl,⟨h2,Z9,Z9,Z9⟩,λ_ _=> ?_⟩;dsimp only;rw[w7,w6];refine⟨0,i7,i7,i7,i7,i7,i7,i7,i7,i7,i7,i7,i7,λj=>j<=(kN x).toNat,λj=>(kN x).toNat-j,oM,?_⟩;intro j hj;rw[zBq,rC];refine zG (λc=>⟨oM,oM,j+1,by rw[iw (by omega)];rfl,i7,i7,i7,i7,i7,i7,i7,i7,i7,?_,?_,by(first|omega|(dsimp only;omega)),by(first|omega|(dsimp only;omega)),gn⟩) (λc=>⟨(),?_⟩)
  ·rw[z2v,iw (x:=10*(j:Int)) (by omega),iw (by omega)]
  ·have mj:=JE (a:=zW x) (b:=10+(j:Int)) (m:=10) (n:=20) oM oM;rw[z0v,w1,iw (x:=10+(j:Int)) (by omega),iw (by omega)]
  ·have e:(kN x).toNat=j:=by omega
   rw[e];(repeat'(first|exact trivial|exact rfl|apply az))
def Hg:C5.ok Tryz.prog 11:=gx mixed (dw vz fk) 0 (λx=>y4t x) (λx=>y8r x) [] Tryz.func11 y8b
structure iq where
 kind:Int
 id:Int
 inst:Int
 side:Int
 dm:Int
 dr:Int
 least:Int
 time:Int
 label:i4
 deriving DecidableEq
@[reducible] def iq.cells (c:iq):List V:=[zB c.kind,zB c.id,zB c.inst,zB c.side,zB c.dm,zB c.dr,zB c.least,zB c.time,sV c.label]
@[reducible] def De (c:iq):V:= .agg c.cells
def zm (c:iq):List D:=[.v (.int .i64 c.kind),.v (.int .i64 c.id),.v (.int .i64 c.inst),.v (.int .i64 c.side),.v (.int .i64 c.dm),.v (.int .i64 c.dr),.v (.int .i64 c.least),.v (.int .i64 c.time),.v (.string (sb c.label))]
def Im:iq:=⟨0,0,0,0,0,0,0,0,[]⟩
@[reducible] def iq.raw (c:iq):Prop:=yP c.kind/\yP c.id/\yP c.inst/\yP c.side/\yP c.dm/\yP c.dr/\yP c.least/\yP c.time
structure zd where
 p:fj
 c:iq
 i:Int
def uY (c:iq):Int:=if 4<1+zI c.kind 0 8 then 1 else 1+zI c.kind 0 8
def xB (t:zd):iq:=⟨uY t.c,1+zI t.c.id 0 30,zI t.c.inst 0 (t.p.count-1),1+zI t.c.side 0 1,t.p.tick*zI t.c.dm 0 9,1+zI t.c.dr 0 11,0,0,[]⟩
def cA (c:iq):Int:=if c.time.tmod 5=3 then 3 else if c.time.tmod 5=2 then 2 else 1
def aH (c:iq) (q:Int):Int:=if c.least.tmod 4=1 then zI c.least 0 q else 0
def xI (t:zd):iq:=
 let h:=xB t
 if h.kind=1 then{h with id:=t.i+1,time:=cA t.c,least:=aH t.c h.dr,dm:=if(t.p.gp h.inst).2.2=ap then h.dm-4*t.p.tick else h.dm+8*t.p.tick}
 else{h with dm:=if h.kind=4 then h.dm+5*t.p.tick else h.dm,side:=0,inst:=0}
def KB:gh:=fp zd (λt=>[nt t.p,De t.c,zB t.i]) i6 (λt=>t.p.check=0/\t.p.small/\t.c.raw/\0<=t.i/\t.i<=1000000) (λt=>De (xI t)) i6
def cj (k:Nat):Nat×gr:=(k,{ι:=iq,du:=λ_=>[(7,.nm 0 0)],oP:=λ_=>[(7,.nm 0 0)],lq:=λc=>[.cells c.cells 47],rows:=λc=>[.cells c.cells 47]})
def xCk:List (Nat×gr):=[cj 14,cj 54,cj 62,cj 70]
def VN (a:iq) (b:iq) (c:iq->Prop) (d:zd):Prop:=sb a.label=sb b.label/\c a/\dl (ar (Sx.V.agg [V.d (dI 0),V.d (dI 0),V.d (dI 0),V.d (dI 0),V.d (dI 0),V.d (dI 0),V.d (dI 0),V.d (dI 0),V.d jV]).cl 47)/\dl (ar [V.d (dI d.c.kind),V.d (dI d.c.id),V.d (dI d.c.inst),V.d (dI d.c.side),V.d (dI d.c.dm),V.d (dI d.c.dr),V.d (dI d.c.least),V.d (dI d.c.time),V.d (D.v (Value.string (sb d.c.label)))] 47)/\Bi d.p (dl (av 1 (iE d.p.dt)))
def Zu (a:iq) (b:iq) (c:iq->Prop) (d:zd):Prop:=a.time=b.time/\VN a b c d
@[reducible] def O7 (a b:iq)(R:Prop):Prop:=a.id=b.id/\a.inst=b.inst/\a.side=b.side/\a.dm=b.dm/\a.dr=b.dr/\R
def YQ (a:iq) (b:iq) (c:iq->Prop) (d:zd):Prop:=O7 a b (a.least=b.least/\Zu a b c d)
def P2 (a:iq) (b:iq->Prop) (c:zd):Prop:=∃(d:iq),d.kind=a.kind/\YQ d a b c
def zKy (a:zd) (b:ra) (c:iq):Prop:=(xI a).dr=ab.wrap (qM b)/\(xI a).least=c.least/\(xI a).time=c.time/\sb (xI a).label=sb c.label/\True
def zMx (a:zd) (b:iq):Prop:=(xI a).dr=b.dr/\(xI a).least=b.least/\(xI a).time=b.time/\sb (xI a).label=sb b.label/\True
@[reducible] def Qd (a b:iq)(R:Prop):Prop:=a.kind=b.kind/\a.id=b.id/\a.inst=b.inst/\a.side=b.side/\a.dm=b.dm/\a.dr=b.dr/\a.least=b.least/\a.time=b.time/\sb a.label=sb b.label/\R
def y2z (t:zd):Prop:=
 ∃(a:ra),a.n=t.c.kind/\a.lo=0/\a.hi=8/\(xA a)/\ff (∃(c:ra),c.n=t.c.id/\c.lo=0/\c.hi=30/\(xA c)/\ff (∃(e:iq),e.kind=ab.wrap (qM a)/\e.id=ab.wrap (qM c)/\e.inst=0/\e.side=0/\e.dm=0/\e.dr=0/\e.least=0/\e.time=0/\sb e.label=ByteArray.mk #[]/\∃(f:iq->Prop),dp (decide (e.kind>4)) (∃(g:iq),g.kind=1/\YQ g e f t) (P2 e f t)/\∀(g:iq),f g->∃(h:fj),Qb h t.p ((zV h)/\ff (∃(k:ra),k.n=t.c.inst/\k.lo=0/\k.hi=ab.wrap ((h.count:Int)-1)/\(xA k)/\ff (∃(m:ra),m.n=t.c.side/\m.lo=0/\m.hi=1/\(xA m)/\ff (∃(p:ra),p.n=t.c.dr/\p.lo=0/\p.hi=11/\(xA p)/\ff (∃(r:ra),r.n=t.c.dm/\r.lo=0/\r.hi=9/\(xA r)/\ff (dl t.p.tick/\dp (g.kind==1) (∃(u:iq),u.kind=g.kind/\u.id=ab.wrap (t.i+1)/\u.inst=zI k.n k.lo k.hi/\u.side=ab.wrap (qM m)/\u.dm=ab.wrap (t.p.tick*zI r.n r.lo r.hi)/\u.dr=ab.wrap (qM p)/\u.least=g.least/\u.time=1/\sb u.label=sb g.label/\∃(v:iq->Prop),(ab=ab/\(5:Int)≠(0:Int)/\dp (t.c.time.tmod (5:Int)==(2:Int)) (∃(w:iq),w.kind=u.kind/\O7 w u (w.least=u.least/\w.time=2/\VN w u v t)) (P2 u v t))/\∀(w:iq),v w->∃(x:iq),Qd x w (∃(y:iq->Prop),(ab=ab/\(5:Int)≠(0:Int)/\dp (t.c.time.tmod (5:Int)==(3:Int)) (∃(z:iq),z.kind=x.kind/\O7 z x (z.least=x.least/\z.time=3/\VN z x y t)) (P2 x y t))/\∀(z:iq),y z->∃(lk:iq),Qd lk z (∃(lu:iq->Prop),(ab=ab/\(4:Int)≠(0:Int)/\dp (t.c.least.tmod (4:Int)==(1:Int)) (∃(jq:ra),jq.n=t.c.least/\jq.lo=0/\jq.hi=lk.dr/\(xA jq)/\ff (∃(iR:iq),iR.kind=lk.kind/\O7 iR lk (iR.least=zI jq.n jq.lo jq.hi/\Zu iR lk lu t))) (P2 lk lu t))/\∀(jq:iq),lu jq->∃(oQ:aP),Qb oQ.p t.p (oQ.n=jq.inst/\(j9 oQ)/\ff (dp (!(oQ.p.gp oQ.n).snd.snd) (dx ((xI t).kind=jq.kind/\(xI t).id=jq.id/\(xI t).inst=jq.inst/\(xI t).side=jq.side/\(xI t).dm=ab.wrap (jq.dm+ab.wrap (8*t.p.tick))/\zMx t jq)) (dx ((xI t).kind=jq.kind/\(xI t).id=jq.id/\(xI t).inst=jq.inst/\(xI t).side=jq.side/\(xI t).dm=ab.wrap (jq.dm-ab.wrap (4*t.p.tick))/\zMx t jq))))))) (dp (g.kind==4) (dx ((xI t).kind=g.kind/\(xI t).id=g.id/\(xI t).inst=0/\(xI t).side=0/\(xI t).dm=ab.wrap (ab.wrap (t.p.tick*zI r.n r.lo r.hi)+ab.wrap (5*t.p.tick))/\zKy t p g)) (dx ((xI t).kind=g.kind/\(xI t).id=g.id/\(xI t).inst=0/\(xI t).side=0/\(xI t).dm=ab.wrap (t.p.tick*zI r.n r.lo r.hi)/\zKy t p g)))))))))))
def xCu (t:zd) (h:KB.dp t):y2z t:=by
 obtain⟨hc,hs,⟨r1,r2,r3,r4,r5,r6,r7,r8⟩,i0,i1⟩:t.p.check=0/\t.p.small/\t.c.raw/\0<=t.i/\t.i<=1000000:=h;have ok:=jB hc;have t1:=ok.t1;have t2:=ok.t2;have m2:=ok.m2;have wv:=y7 t.p;have hcd:=tC hc;have bk:=yZ (n:=t.c.kind) (lo:=0) (hi:=8) oM;have bi:=yZ (n:=t.c.id) (lo:=0) (hi:=30) oM;have bs:=yZ (n:=t.c.side) (lo:=0) (hi:=1) oM;have bq:=yZ (n:=t.c.dr) (lo:=0) (hi:=11) oM;have bp:=yZ (n:=t.c.dm) (lo:=0) (hi:=9) oM;have mb:=JE (a:=t.p.tick) (b:=zI t.c.dm 0 9) (m:=1000) (n:=9) oM oM;have wp:ab.wrap (t.p.tick*zI t.c.dm 0 9)=t.p.tick*zI t.c.dm 0 9:=iw oM;unfold y2z O7 Qb Qd ff dx P2 YQ O7 Zu VN Bi jV zMx zKy qM xA zV o8 j9 o8 dI;refine⟨⟨t.c.kind,0,8⟩,rfl,rfl,rfl,⟨r1,Z9,Z9,Z9⟩,λ_ _=>⟨⟨t.c.id,0,30⟩,rfl,rfl,rfl,⟨r2,Z9,Z9,Z9⟩,λ_ _=> ?_⟩⟩;dsimp only;rw[iw (x:=1+zI t.c.kind 0 8) (by omega),iw (x:=1+zI t.c.id 0 30) (by omega)];refine⟨⟨1+zI t.c.kind 0 8,1+zI t.c.id 0 30,0,0,0,0,0,0,[]⟩,iA ⟨rfl,λc=>c=⟨uY t.c,1+zI t.c.id 0 30,0,0,0,0,0,0,[]⟩,zG (λe=>⟨⟨uY t.c,1+zI t.c.id 0 30,0,0,0,0,0,0,[]⟩,?_,rfl,rfl,rfl,rfl,rfl,rfl,rfl,rfl,rfl,gn⟩) (λe=>⟨⟨uY t.c,1+zI t.c.id 0 30,0,0,0,0,0,0,[]⟩,?_,rfl,rfl,rfl,rfl,rfl,rfl,rfl,rfl,rfl,gn⟩),λc Mh=> ?_⟩⟩
 ·dsimp only at e ⊢;rw[uY,fh (by omega)]
 ·dsimp only at e ⊢;rw[uY,ez (by omega)]
 subst Mh;refine⟨t.p,oL (iM ⟨rfl,hs,λ_ _=> ?_⟩)⟩;rw[iw (x:=(t.p.count:Int)-1) (by omega)];refine⟨⟨t.c.inst,0,(t.p.count:Int)-1⟩,rfl,rfl,rfl,⟨r3,Z9,Z9,Z9⟩,λ_ _=>⟨⟨t.c.side,0,1⟩,rfl,rfl,rfl,⟨r4,Z9,Z9,Z9⟩,λ_ _=>⟨⟨t.c.dr,0,11⟩,rfl,rfl,rfl,⟨r6,Z9,Z9,Z9⟩,λ_ _=>⟨⟨t.c.dm,0,9⟩,rfl,rfl,rfl,⟨r5,Z9,Z9,Z9⟩,λ_ _=>⟨rfl,?_⟩⟩⟩⟩⟩;dsimp only;rw[wp,iw (x:=1+zI t.c.side 0 1) (by omega),iw (x:=1+zI t.c.dr 0 11) (by omega),iw (x:=t.i+1) (by omega)];refine Cv.dp.mk (λk=> ?_) (λk=> ?_)
 ·have k:uY t.c=1:=i9 k
  refine⟨{xB t with id:=t.i+1,time:=1},iA ⟨rfl,λc=>c={xB t with id:=t.i+1,time:=if t.c.time.tmod 5=2 then 2 else 1},⟨rfl,Z8,Cv.dp.mk (λe=>⟨{xB t with id:=t.i+1,time:=2},iA ⟨rfl,?_,gn⟩⟩) (λe=>⟨{xB t with id:=t.i+1,time:=1},iA ⟨rfl,?_,gn⟩⟩)⟩,λc Mh=> ?_⟩⟩
  ·have e:t.c.time.tmod 5=2:=i9 e
   rw[fh e]
  ·have e:¬t.c.time.tmod 5=2:=i9 e
   rw[ez e]
  subst Mh;refine⟨{xB t with id:=t.i+1,time:=if t.c.time.tmod 5=2 then 2 else 1},iA ⟨rfl,λc=>c={xB t with id:=t.i+1,time:=cA t.c},⟨rfl,Z8,Cv.dp.mk (λe=>⟨{xB t with id:=t.i+1,time:=3},iA ⟨rfl,?_,gn⟩⟩) (λe=>⟨{xB t with id:=t.i+1,time:=if t.c.time.tmod 5=2 then 2 else 1},iA ⟨rfl,?_,gn⟩⟩)⟩,λc Mh=> ?_⟩⟩
  ·have e:t.c.time.tmod 5=3:=i9 e
   rw[cA,fh e]
  ·have e:¬t.c.time.tmod 5=3:=i9 e
   rw[cA,ez e]
  subst Mh;have hq:(xB t).dr=1+zI t.c.dr 0 11:=rfl;refine⟨{xB t with id:=t.i+1,time:=cA t.c},iA ⟨rfl,λc=>c={xB t with id:=t.i+1,time:=cA t.c,least:=aH t.c (xB t).dr},⟨rfl,Z8,Cv.dp.mk (λe=>⟨⟨t.c.least,0,(xB t).dr⟩,rfl,rfl,rfl,⟨r7,Z9,Z9,Z9⟩,λ_ _=>⟨{xB t with id:=t.i+1,time:=cA t.c,least:=zI t.c.least 0 (xB t).dr},iA ⟨rfl,?_,gn⟩⟩⟩) (λe=>⟨{xB t with id:=t.i+1,time:=cA t.c},iA ⟨rfl,?_,gn⟩⟩)⟩,λc Mh=> ?_⟩⟩
  ·have e:t.c.least.tmod 4=1:=i9 e
   rw[aH,fh e]
  ·have e:¬t.c.least.tmod 4=1:=i9 e
   rw[aH,ez e];rfl
  subst Mh;refine⟨⟨t.p,(xB t).inst⟩,iA (iM ⟨rfl,hs,λ_ _=> ?_⟩)⟩;dsimp only;have hp:(xB t).dm=t.p.tick*zI t.c.dm 0 9:=rfl;have Ay:(xB t).kind=1:=k;rw[iw (x:=8*t.p.tick) (by omega),iw (x:=4*t.p.tick) (by omega),iw (x:=(xB t).dm+8*t.p.tick) (by omega),iw (x:=(xB t).dm-4*t.p.tick) (by omega)];refine Cv.dp.mk (λe=>⟨(),?_⟩) (λe=>⟨(),?_⟩)
  ·have e:(t.p.gp (xB t).inst).2.2=aq:=i9 e
   have:xI t={xB t with id:=t.i+1,time:=cA t.c,least:=aH t.c (xB t).dr,dm:=(xB t).dm+8*t.p.tick}:=by
    simp only[xI,Ay,if_true,e,oR,if_false]
   rw[this];(repeat'(first|exact trivial|exact rfl|apply az))
  ·have e:(t.p.gp (xB t).inst).2.2=ap:=i9 e
   have:xI t={xB t with id:=t.i+1,time:=cA t.c,least:=aH t.c (xB t).dr,dm:=(xB t).dm-4*t.p.tick}:=by
    simp only[xI,Ay,if_true,e]
   rw[this];(repeat'(first|exact trivial|exact rfl|apply az))
 ·have k:¬uY t.c=1:=i9 k
  have k:¬(xB t).kind=1:=k;rw[iw (x:=5*t.p.tick) (by omega),iw (x:=t.p.tick*zI t.c.dm 0 9+5*t.p.tick) (by omega)];have et:xI t={xB t with dm:=if(xB t).kind=4 then(xB t).dm+5*t.p.tick else(xB t).dm,side:=0,inst:=0}:=by
   simp only[xI,k,if_false]
  rw[et];refine Cv.dp.mk (λe=>⟨(),?_⟩) (λe=>⟨(),?_⟩)
  ·have e:uY t.c=4:=i9 e
   have e:(xB t).kind=4:=e;simp only[fh e];(repeat'(first|exact trivial|exact rfl|apply az))
  ·have e:¬uY t.c=4:=i9 e
   have e:¬(xB t).kind=4:=e;simp only[ez e];(repeat'(first|exact trivial|exact rfl|apply az))
def yXo:KB.ok Tryz.prog 41:=gx mixed (dw vz (dw yAq (dw yKk fk))) 0 (λ_=>xCk) i6 [] Tryz.func41 xCu
structure Mr where
 a:Int
 b:Int
 c:Int
def AT:gh:=fp Mr (λi=>[A4 i.a,A4 i.b,A4 i.c]) i6 (λi=>0<=i.a/\0<=i.b/\0<=i.c/\i.c<=1) (λi=> .je [A4 ((i.a+i.b+i.c) % 18446744073709551616),A4 ((i.a+i.b+i.c) / 18446744073709551616)]) i6
def yKf {P : Program} {f : FuncId} {fn : Func} (hf : P.funcs[f]? = some fn) (BX : (fn.name == "runtime.NumGoroutine") = false) (hb : fn.body.isNone = true) (hn : Extern.findNext fn = none) (he : Extern.find fn = some add64Entry) : AT.ok P f := by
 intro i hc k L E w ys R hv;obtain⟨h1,h2,h3,h4⟩:0<=i.a/\0<=i.b/\0<=i.c/\i.c<=1:=hc;simp only[AT,fp,ib,VR,DR]at hv;obtain⟨_,_,rfl,⟨rfl,_⟩,_,_,rfl,⟨rfl,_⟩,_,_,rfl,⟨rfl,_⟩,rfl⟩:=hv;unfold nk;rw[run_callFunc_extern hf BX hb hn he,run_add64 i.a i.b i.c h1 h2 h3 h4];simp only[Result.andThen];refine⟨_,ua.2 rfl,(),trivial,E,Ev.le.refl _,?_,R⟩;simp only[AT,fp,VR,ib,DR];exact⟨_,rfl,_,_,rfl,⟨rfl,rfl⟩,_,_,rfl,⟨rfl,rfl⟩,rfl⟩
def yKn:AT.ok Tryz.prog 314:=by
 refine yKf (P:=Tryz.prog) (f:=314) (fn:=Tryz.f314) Tryz.func314 ?_ ?_ ?_ ?_
 ·kernel_rfl
 ·kernel_rfl
 ·kernel_rfl
 ·kernel_rfl
structure M2 where
 a:Int
 b:Int
def GD:gh:=fp M2 (λi=>[A4 i.a,A4 i.b]) i6 (λi=>0<=i.a/\i.a<=2000000000/\0<=i.b/\i.b<=2000000000) (λi=> .je [A4 0,A4 (i.a*i.b)]) i6
def GW:gh:=fp M2 (λi=>[A4 0,A4 i.a,A4 i.b]) i6 (λi=>0<=i.a/\i.a<=4000000000000000000/\1<=i.b/\i.b<=2000000000) (λi=> .je [A4 (i.a / i.b),A4 (i.a % i.b)]) i6
def D3:gh:=fp Mr (λi=>[zB i.a,zB i.b,zB i.c]) i6 (λi=>0<=i.a/\i.a<=2000000000/\0<=i.b/\i.b<=2000000000/\1<=i.c/\i.c<=2000000000) (λi=> .je [zB (i.a*i.b / i.c),yL ap]) i6
def KS:gh:=fp (List Int) (λl=>[iV l]) i6 (λl=>l.length<=1000/\∀x∈l,0<=x/\x<=1000000) (λl=> .je [zB l.sum,yL ap]) i6
def xCx (l:List Int):List gr:=[{ι:=Nat,du:=λj=>[(4,A4 (l.take j).sum),(5,zB 0),(11,zB j)],rows:=λ_=>[]}]
structure Cs where
 l:List Int
 q:Int
def y6 (l:List Int) (q:Int):Bool:=decide (l.length<=250) && decide (0<=q) && l.all (λn=>decide (1<=n) && decide (n<=1000000)) && decide (q<=l.sum)
def Gy:gh:=fp Cs (λi=>[iV i.l,zB i.q]) i6 (λi=>i.l.length<=1000000/\yP i.q) (λi=>yL (y6 i.l i.q)) i6
def xAj (i:Cs):List gr:=[{ι:=Nat,du:=λj=>[(5,zB (i.l.take j).sum),(17,zB j)],rows:=λ_=>[]}]
def gY:List Int->Int->List Int
 |[],_=>[]
 |n::l,q=>min n q::gY l (q-min n q)
def fD (l:List Int) (q:Int):List Int:=if y6 l q=ap then gY l q else[]
def K7:gh:=fp Cs (λi=>[iV i.l,zB i.q]) i6 (λi=>i.l.length<=1000000/\yP i.q) (λ_=> .own 0) (λi=>[.own 2 1 (iE (fD i.l i.q))])
def xBz (i:Cs):List gr:=[{ι:=Nat,du:=λj=>[(5,.own 0),(1,zB (i.q-((gY i.l i.q).take j).sum)),(15,zB j)],rows:=λj=>[.own 2 1 (iE ((gY i.l i.q).take j))]}]
def zHf (a:M2):=(ac.wrap (ac.wrap (aJ ac a.a 32*Cw ac a.b 4294967295)+aJ ac (ac.wrap (Cw ac a.a 4294967295*Cw ac a.b 4294967295)) 32))
def yUg (i:M2):Prop:=
 (0:Int)<=(32:Int)/\(0:Int)<=(32:Int)/\(0:Int)<=(32:Int)/\(0:Int)<=(32:Int)/\(0:Int)<=(32:Int)/\dx (0=ac.wrap (ac.wrap (ac.wrap (aJ ac i.a 32*aJ ac i.b 32)+aJ ac (zHf i) 32)+aJ ac (ac.wrap (Cw ac (zHf i) 4294967295+ac.wrap (Cw ac i.a 4294967295*aJ ac i.b 32))) 32)/\i.a*i.b=ac.wrap (i.a*i.b)/\True)
def yOx (i:M2):Prop:=
 dp (i.b==0) False (dp (decide (i.b<=0)) False (ac=ac/\i.b≠0/\ac=ac/\i.b≠0/\dx (i.a / i.b=ac.wrap (i.a.tdiv i.b)/\i.a % i.b=i.a.tmod i.b/\True)))
def yDq (i:Mr):Prop:=
 dp (decide (i.a<0)) (dx (i.a*i.b / i.c=0/\ap=aq/\True)) (dp (decide (i.b<0)) (dx (i.a*i.b / i.c=0/\ap=aq/\True)) (dp (decide (i.c<1)) (dx (i.a*i.b / i.c=0/\ap=aq/\True)) (∃(a:M2),a.a=ac.wrap i.a/\a.b=ac.wrap i.b/\(0<=a.a/\a.a<=(2000000000:Int)/\(0:Int)<=a.b/\a.b<=2000000000)/\ff (dp (decide (0>=ac.wrap i.c)) (dx (i.a*i.b / i.c=0/\ap=aq/\True)) (∃(c:M2),dl ((0:Int))/\c.a=a.a*a.b/\c.b=ac.wrap i.c/\(0<=c.a/\c.a<=(4000000000000000000:Int)/\(1:Int)<=c.b/\c.b<=2000000000)/\ff (dp (decide (c.a / c.b>9223372036854775807)) (dx (i.a*i.b / i.c=0/\ap=aq/\True)) (dx (i.a*i.b / i.c=ab.wrap (c.a / c.b)/\ap=ap/\True))))))))
def y1u (l:List Int):Prop:=
 ∃(a:Nat),(af a l).sum=(0:Int)/\(0:Int)=0/\(a:Int)=0/\∃(b:Nat->Prop),∃(c:Nat->Nat),b a/\∀(d:Nat),b d->dp (decide ((d:Int)<((iE l).length:Int))) ((0<=(d:Int)/\(d:Int)<((iE l).length:Int))/\∃(e:Int),zD (iE l) (d:Int).toNat 0 1=ay [dI e]/\∃(f:Mr),f.a=(af d l).sum/\f.b=ac.wrap e/\f.c=0/\(0<=f.a/\0<=f.b/\0<=f.c/\f.c<=1)/\ff ((0:Int)<=(63:Int)/\∃(h:Nat),(af h l).sum=(f.a+f.b+f.c) % (18446744073709551616:Int)/\(0:Int)=ab.wrap (0+ab.wrap (aJ ab e 63+ab.wrap ((f.a+f.b+f.c) / (18446744073709551616:Int))))/\kL h d b c)) ((0:Int)<=(63:Int)/\dp (0 !=aJ ab (ab.wrap (af d l).sum) 63) (dx (l.sum=0/\ap=aq/\True)) (dx (l.sum=ab.wrap (af d l).sum/\ap=ap/\True)))
def yPe (i:Cs):Prop:=
 dp (decide (((iE i.l).length:Int)>250)) (dx (y6 i.l i.q=aq/\True)) (dp (decide (i.q<0)) (dx (y6 i.l i.q=aq/\True)) (∃(a:Nat),(af a i.l).sum=0/\(a:Int)=0/\∃(b:Nat->Prop),∃(c:Nat->Nat),b a/\∀(d:Nat),b d->dp (decide ((d:Int)<((iE i.l).length:Int))) ((0<=(d:Int)/\(d:Int)<((iE i.l).length:Int))/\∃(e:Int),zD (iE i.l) (d:Int).toNat 0 1=ay [dI e]/\dp (decide (e<1)) (dx (y6 i.l i.q=aq/\True)) (dp (decide (e>1000000)) (dx (y6 i.l i.q=aq/\True)) (∃(f:Nat),(af f i.l).sum=ab.wrap ((af d i.l).sum+e)/\kL f d b c))) (dx (y6 i.l i.q=decide (i.q<=(af d i.l).sum)/\True))))
def vG (a:Cs):Prop:=a.l.length<=(1000000:Nat)/\(-9223372036854775808:Int)<=a.q/\a.q<=9223372036854775807
def vE (a:Nat) (b:Cs):=(af a (gY b.l b.q))
def y3s (i:Cs):Prop:=
 ∃(a:Cs),iE a.l=iE i.l/\a.q=i.q/\(vG a)/\ff (dp (!y6 a.l a.q) (dx (iE (fD i.l i.q)=[]/\True)) (∃(c:Nat),i.q-(vE c i).sum=i.q/\(c:Int)=0/\iE (vE c i)=[]/\∃(d:Nat->Prop),∃(e:Nat->Nat),d c/\∀(f:Nat),d f->dp (decide ((f:Int)<((iE i.l).length:Int))) ((0<=(f:Int)/\(f:Int)<((iE i.l).length:Int))/\∃(g:Int),zD (iE i.l) (f:Int).toNat 0 1=ay [dI g]/\((iE (vE f i)).length+1)*(8:Nat)<=(140737488355328:Nat)/\∃(h:Nat),i.q-(vE h i).sum=ab.wrap (i.q-(vE f i).sum-min g (i.q-(vE f i).sum))/\(h:Int)=ab.wrap ((f:Int)+1)/\iE (vE h i)=iE (vE f i)++[[dI (min g (i.q-(vE f i).sum))]]/\d h/\e h<e f/\True) (dx (iE (fD i.l i.q)=iE (vE f i)/\True))))
def z1v {x:Int} (h0:0<=x) (h1:x<4294967296):Cw .u64 x 4294967295=x:=by
 have e:Cw .u64 x 4294967295=ac.wrap ((BitVec.ofInt 64 x &&& BitVec.ofInt 64 4294967295).toNat:Int):=rfl;obtain⟨n,rfl⟩:=Int.eq_ofNat_of_zero_le h0;have hn:n<4294967296:=by omega
 rw[e,BitVec.toNat_and,BitVec.ofInt_natCast,BitVec.toNat_ofNat,show(BitVec.ofInt 64 4294967295).toNat=2 ^ 32-1 by decide,Nat.and_two_pow_sub_one_eq_mod];rw[show n % 2 ^ 64 % 2 ^ 32=n by omega,Cc (by omega)]
def UI {x:Int} (h0:0<=x) (h1:x<4294967296):aJ .u64 x 32=0:=by
 have:=Pz .u64 x 32 Z8;rw[show((32:Nat):Int)=32 by rfl]at this;rw[this];omega
def yHs {a b m n:Int} (ha:0<=a/\a<=m) (hb:0<=b/\b<=n):0<=a*b/\a*b<=m*n:=
 ⟨Od ha.1 hb.1,Int.mul_le_mul ha.2 hb.2 hb.1 oM⟩
def y8a (i:M2) (h:GD.dp i):yUg i:=by
 obtain⟨h1,h2,h3,h4⟩:0<=i.a/\i.a<=2000000000/\0<=i.b/\i.b<=2000000000:=h;have hm:=yHs ⟨h1,h2⟩ ⟨h3,h4⟩;have hs:aJ ac (i.a*i.b) 32=(i.a*i.b) / 4294967296:=by
  have:=Pz .u64 (i.a*i.b) 32 Z8;rw[show((32:Nat):Int)=32 by rfl]at this;exact this
 unfold yUg dx zHf;refine⟨Z8,Z8,Z8,Z8,Z8,(),?_,?_,trivial⟩
 ·rw[z1v h1 (by omega),z1v h3 (by omega),UI h1 (by omega),UI h3 (by omega),Cc (x:=i.a*i.b) (by omega),hs];simp only[Int.zero_mul,Int.mul_zero,Int.zero_add,Int.add_zero];rw[Cc (x:=0) (by omega)];simp only[Int.zero_add,Int.add_zero];rw[Cc (x:=i.a*i.b / 4294967296) (by omega),UI (x:=i.a*i.b / 4294967296) (by omega) (by omega),z1v (x:=i.a*i.b / 4294967296) (by omega) (by omega),Cc (x:=i.a*i.b / 4294967296) (by omega),UI (x:=i.a*i.b / 4294967296) (by omega) (by omega)];rfl
 ·rw[Cc (by omega)]
def ySy:GD.ok Tryz.prog 308:=gx mixed fk 0 i6 i6 [] Tryz.func308 y8a
def y8n (i:M2) (h:GW.dp i):yOx i:=by
 obtain⟨h1,h2,h3,h4⟩:0<=i.a/\i.a<=4000000000000000000/\1<=i.b/\i.b<=2000000000:=h;unfold yOx dx;have hd:0<=i.a / i.b/\i.a / i.b<=i.a:=⟨Int.ediv_nonneg h1 oM,Int.ediv_le_self _ h1⟩
 refine Cv.dp.mk (λc=>absurd (eq_of_beq c) oM) (λ_=>zG (λc=>by omega) (λ_=>⟨rfl,oM,rfl,oM,(),?_,?_,trivial⟩))
 ·rw[Int.tdiv_eq_ediv_of_nonneg h1,Cc (by omega)]
 ·rw[Int.tmod_eq_emod_of_nonneg h1]
def yUm:GW.ok Tryz.prog 309:=gx mixed fk 0 i6 i6 [] Tryz.func309 y8n
def yYa (i:Mr) (h:D3.dp i):yDq i:=by
 obtain⟨h1,h2,h3,h4,h5,h6⟩:0<=i.a/\i.a<=2000000000/\0<=i.b/\i.b<=2000000000/\1<=i.c/\i.c<=2000000000:=h;have hm:=yHs ⟨h1,h2⟩ ⟨h3,h4⟩;have hd:0<=i.a*i.b / i.c/\i.a*i.b / i.c<=i.a*i.b:=⟨Int.ediv_nonneg hm.1 oM,Int.ediv_le_self _ hm.1⟩
 unfold yDq ff dx;rw[Cc (x:=i.a) (by omega),Cc (x:=i.b) (by omega),Cc (x:=i.c) (by omega)];refine zG (λc=>by omega) (λ_=>zG (λc=>by omega) (λ_=>zG (λc=>by omega) (λ_=>⟨⟨i.a,i.b⟩,rfl,rfl,⟨h1,h2,h3,h4⟩,λ_ _=>zG (λc=>by omega) (λ_=>⟨⟨i.a*i.b,i.c⟩,rfl,rfl,rfl,⟨hm.1,Z9,h5,h6⟩,λ_ _=>zG (λc=>by dsimp only at c;omega) (λ_=>⟨(),?_,rfl,trivial⟩)⟩)⟩)));rw[iw (by dsimp only;omega)]
def zWw:D3.ok Tryz.prog 294:=gx mixed (dw ySy (dw yUm fk)) 0 i6 i6 [] Tryz.func294 yYa
def qu {j:Nat} (h:j<=1000000):((j+1:Nat):Int)=ab.wrap ((j:Int)+1):=by rw[iw (by omega)];rfl
def wW {l:List Int} {j:Nat} {x:Int} (h:l[j]? =ay x):(l.take (j+1)).sum=(l.take j).sum+x:=by
 rw[qq,h];simp
def wR {l:List Int} (h:∀x∈l,0<=x/\x<=1000000):∀j:Nat,0<=(l.take j).sum/\(l.take j).sum<=1000000*j
 |0=>by simp
 |j+1=>by
  have ih:=wR h j;cases hx:l[j]? with
  |none=>
   have:l.take (j+1)=l.take j:=by
    rw[qq,hx];simp
   rw[this];omega
  |some x=>
   have:=h x (lh hx);rw[wW hx];omega
def xCc (l:List Int) (h:KS.dp l):y1u l:=by
 obtain⟨hl,hb⟩:l.length<=1000/\∀x∈l,0<=x/\x<=1000000:=h;unfold y1u ff dx kL QO dI;simp only[y9];refine⟨0,i7,i7,i7,λj=>j<=l.length,λj=>l.length-j,mn _,λj hj=>zG (λc=> ?_) (λc=> ?_)⟩
 ·have ox:j<l.length:=by omega
  obtain⟨x,hx⟩:=zZ (l:=l) (i:=j) ox;have bx:=hb x (lh hx);have bs:=wR hb j;refine⟨⟨oM,oM⟩,x,rp hx,⟨(l.take j).sum,x,0⟩,rfl,by rw[Cc (by omega)],rfl,⟨bs.1,bx.1,Z9,Z9⟩,λ_ _=>⟨Z8,j+1,?_,?_,qu oM,ox,Z9,trivial⟩⟩
  ·rw[wW hx];dsimp only;omega
  ·have e:aJ ab x 63=x / 9223372036854775808:=by
    have:=Pz .i64 x 63 Z8;rw[show((63:Nat):Int)=63 by rfl]at this;exact this
   dsimp only;rw[e,show x / 9223372036854775808=0 by omega,show((l.take j).sum+x+0) / 18446744073709551616=0 by omega];rfl
 ·have ox:j=l.length:=by omega
  subst ox;have bs:=wR hb l.length;rw[At]at bs;have e:aJ ab l.sum 63=l.sum / 9223372036854775808:=by
   have:=Pz .i64 l.sum 63 Z8;rw[show((63:Nat):Int)=63 by rfl]at this;exact this
  rw[At,iw (x:=l.sum) (by omega),e,show l.sum / 9223372036854775808=0 by omega];exact⟨Z8,Cv.dp.mk (λc=>absurd c Z8) (λ_=>⟨(),i7,i7,trivial⟩)⟩
def yXy:KS.ok Tryz.prog 312:=gx mixed (dw yKn fk) 0 i6 (λl=>xCx l) [] Tryz.func312 xCc
def xBd (i:Cs) (h:Gy.dp i):yPe i:=by
 obtain⟨hl,hq⟩:i.l.length<=1000000/\yP i.q:=h;unfold yPe dx kL QO dI;simp only[y9];refine zG (λc=>⟨(),?_,trivial⟩) (λc1=>zG (λc=>⟨(),?_,trivial⟩) (λc2=> ?_))
 ·rw[y6,jv (by omega:¬i.l.length<=250)];rfl
 ·rw[y6,jv (by omega:¬0<=i.q)];simp
 refine⟨0,i7,i7,λj=>j<=i.l.length/\∀k<j,∀x,i.l[k]? =ay x->1<=x/\x<=1000000,λj=>i.l.length-j,⟨mn _,λk hk=>absurd hk (Nat.not_lt_zero k)⟩,λj hj=>zG (λc=> ?_) (λc=> ?_)⟩
 ·obtain⟨hj0,Yc⟩:=hj;have ox:j<i.l.length:=by omega
  obtain⟨x,hx⟩:=zZ (l:=i.l) (i:=j) ox;have bad (hn:¬(1<=x/\x<=1000000)):y6 i.l i.q=aq:=by
   have:(i.l.all λn=>decide (1<=n) && decide (n<=1000000))=aq:=by
    rw[List.all_eq_false];exact⟨x,lh hx,i9 hn⟩
   rw[y6,this];simp
  have bs:0<=(i.l.take j).sum/\(i.l.take j).sum<=1000000*j:=by
   have:=wR (l:=i.l.take j) (λy hy=>by
    obtain⟨k,hk⟩:=Bv.1 hy;have Yb:k<j:=by
     have:=(jm.1 hk).1;rw[nn]at this;omega
    rw[List.getElem?_take_of_lt Yb]at hk;have:=Yc k Yb y hk;omega) j
   rwa [List.take_take,Nat.min_self]at this
  refine⟨⟨oM,oM⟩,x,rp hx,zG (λd=>⟨(),bad oM,trivial⟩) (λd=>zG (λe=>⟨(),bad oM,trivial⟩) (λe=>⟨j+1,?_,qu oM,⟨ox,λk hk y hy=> ?_⟩,Z9,trivial⟩))⟩
  ·rw[wW hx,iw (by omega)]
  ·by_cases Yb:k=j
   ·rw[Yb,hx]at hy;cases hy;omega
   ·exact Yc k oM y hy
 ·obtain⟨hj0,Yc⟩:=hj;have ox:j=i.l.length:=by omega
  subst ox;have:(i.l.all λn=>decide (1<=n) && decide (n<=1000000))=ap:=by
   rw[Ef];intro y hy;obtain⟨k,hk⟩:=Bv.1 hy;have:=Yc k ((jm.1 hk).1) y hk;simpa using this
  refine⟨(),?_,trivial⟩;rw[y6,this,jo (by omega:i.l.length<=250),jo (by omega:0<=i.q),At];rfl
def VC:Gy.ok Tryz.prog 292:=gx mixed fk 0 i6 (λi=>xAj i) [] Tryz.func292 xBd
def wD {l:List Int} {q:Int} (h:y6 l q=ap):l.length<=250/\0<=q/\(∀x∈l,1<=x/\x<=1000000)/\q<=l.sum:=by
 simp only[y6,lr,tn,Ef]at h;exact⟨h.1.1.1,h.1.1.2,h.1.2,h.2⟩
def US {l:List Int} {q:Int} (h:y6 l q=ap):q<=250000000:=by
 obtain⟨h1,h2,h3,h4⟩:=wD h;have:=wR (l:=l) (λx hx=>by have:=h3 x hx;omega) l.length;rw[At]at this;omega
def PO:∀(l:List Int) (q:Int),(gY l q).length=l.length
 |[],_=>rfl
 |n::l,q=>by rw[gY,iF,iF,PO l]
def Y0:∀(l:List Int) (q:Int) (j:Nat) (n:Int),l[j]? =ay n->(gY l q)[j]? =ay (min n (q-((gY l q).take j).sum))
 |[],_,_,_,h=>by simp at h
 |m::l,q,0,n,h=>by simp at h;subst h;simp[gY]
 |m::l,q,j+1,n,h=>by
  rw[Bd]at h;rw[gY,Bd,Y0 l _ j n h,u',qc];congr 2;omega
def zLa:∀(l:List Int) (q:Int) (j:Nat),0<=q->(∀x∈l,0<=x)->0<=q-((gY l q).take j).sum/\q-((gY l q).take j).sum<=q
 |[],q,j,h,_=>by simp[gY,h]
 |m::l,q,0,h,_=>by simp[h]
 |m::l,q,j+1,h,hb=>by
  have hm:=hb m iX;have:=zLa l (q-min m q) j oM (λx hx=>hb x (ji _ hx));rw[gY,u',qc];omega
def xGj (i:Cs) (h:K7.dp i):y3s i:=by
 obtain⟨hl,hq⟩:i.l.length<=1000000/\yP i.q:=h;unfold y3s ff dx vE vG dI;refine⟨i,rfl,rfl,⟨hl,hq⟩,λ_ _=>Cv.dp.mk (λc=> ?_) (λc=> ?_)⟩
 ·have c:y6 i.l i.q=aq:=i9 c
  refine⟨(),?_,trivial⟩;rw[fD,ez (by rw[c];decide)];rfl
 have c:y6 i.l i.q=ap:=i9 c
 obtain⟨h1,h2,h3,h4⟩:=wD c;have ue:=US c;have h3':∀x∈i.l,0<=x:=λx hx=>by have:=h3 x hx;omega
 simp only[y9];refine⟨0,by simp,rfl,rfl,λj=>j<=i.l.length,λj=>i.l.length-j,mn _,λj hj=>zG (λd=> ?_) (λd=> ?_)⟩
 ·have ox:j<i.l.length:=by omega
  obtain⟨x,hx⟩:=zZ (l:=i.l) (i:=j) ox;have bx:=h3 x (lh hx);have g:=Y0 i.l i.q j x hx;have r:=zLa i.l i.q j h2 h3';refine⟨⟨oM,oM⟩,x,rp hx,by rw[nn];omega,j+1,?_,qu oM,?_,ox,Z9,trivial⟩
  ·rw[wW g,iw (by omega)];omega
  ·rw[qq,g];simp[iE]
 ·have ox:j=i.l.length:=by omega
  subst ox;refine⟨(),?_,trivial⟩;rw[fD,fh c,mz (by rw[PO];omega)]
def yGm:K7.ok Tryz.prog 271:=gx mixed (dw VC fk) 0 i6 (λi=>xBz i) [] Tryz.func271 xGj
structure Eu where
 slot:Int
 id:Int
 dr:Int
 top:Bool
 deriving DecidableEq
def xDc:Eu:=⟨0,0,0,aq⟩
def EM (e:Eu):List D:=[.v (.int .i64 e.slot),.v (.int .i64 e.id),.v (.int .i64 e.dr),.v (.bool e.top)]
@[reducible] def xGy (e:Eu):V:= .agg [zB e.slot,zB e.id,zB e.dr,yL e.top]
def Slot.pn (s:Slot):Eu:=⟨s.n,s.id,s.dr,s.top⟩
def dv.fg (a:dv) (k:Nat):Slot:=a.du.getD k iH
def dv.nu (a:dv) (n:Int):Eu×Bool:=if a.iy n=ap then((a.fg n.toNat).pn,ap)else(xDc,aq)
def Li:gh:=fp ur (λi=>[.nm 0 0,zB i.n]) (λi=>[wT i.a]) (λi=>i.a.du.length<=1000000) (λi=> .je [xGy (i.a.nu i.n).1,yL (i.a.nu i.n).2]) (λi=>[wT i.a])
def Re (sl:List Slot):Int->List Nat->Prop
 |at_,[]=>at_= -1
 |at_,k::l=>at_=k/\k<sl.length/\Re sl (sl.getD k iH).back l
structure Mx where
 a:dv
 n:Int
 l:List Nat
def A5 (l:List Nat) (j:Nat):Int:=match l[j]? with
 |some k=>k
 |none=> -1
def dv.fy (a:dv) (l:List Nat):List Eu:=l.map λk=>(a.fg k).pn
structure dv.pz (a:dv) (n:Int) (l:List Nat):Prop where
 len:l.length<=1000000
 ch:if 0<=n/\n<a.dy.length then Re a.du (a.dy.getD n.toNat mW).first l else l=[]
def G8:gh:=fp Mx (λi=>[.nm 0 0,zB i.n]) (λi=>[wT i.a]) (λi=>i.a.pz i.n i.l) (λ_=> .own 1) (λi=>[wT i.a,.own 363 4 ((i.a.fy i.l).map EM)])
def y5x (i:Mx):List gr:=[{ι:=Nat,du:=λj=>[(5,.own 0),(6,zB (A5 i.l j))],rows:=λj=>[.own 363 4 ((i.a.fy (i.l.take j)).map EM)]}]
structure Cq where
 a:dv
 n:Int
 dr:Int
def dv.iL (a:dv) (k:Nat):dv:=
 let s:=a.fg k
 let q:=a.dy.getD s.queue.toNat mW
 let Aw:=if s.ahead= -1 then a.du else a.du.modify s.ahead.toNat λx=>{x with back:=s.back}
 let Dr:=if s.back= -1 then Aw else Aw.modify s.back.toNat λx=>{x with ahead:=s.ahead}
 ⟨Dr.set k iH,a.dy.set s.queue.toNat ⟨if s.ahead= -1 then s.back else q.first,if s.back= -1 then s.ahead else q.last,q.total,ab.wrap (q.count-1)⟩,ab.wrap (a.free+1)⟩
def dv.less (a:dv) (k:Nat) (dr:Int):dv:=
 {a with du:=a.du.modify k λs=>{s with dr:=s.dr-dr},dy:=a.dy.modify (a.fg k).queue.toNat λq=>{q with total:=ab.wrap (q.total-dr)}}
def dv.gw (a:dv) (n dr:Int):dv×Int:=
 if a.iy n=aq then(a,26)else if dr<1\/(a.fg n.toNat).dr<dr then(a,24)
 else if(a.fg n.toNat).dr=dr then((a.less n.toNat dr).iL n.toNat,0)else(a.less n.toNat dr,0)
def dv.Ey (a:dv):Prop:=a.du.length<=1000000/\∀(k:Nat) (s:Slot),a.du[k]? =ay s->s.used=ap->(0<=s.queue/\s.queue<a.dy.length)/\s.dr<=1000000/\(s.ahead= -1\/(0<=s.ahead/\s.ahead<a.du.length/\s.ahead≠k))/\(s.back= -1\/(0<=s.back/\s.back<a.du.length/\s.back≠k))
def G4:gh:=fp Cq (λi=>[.nm 0 0,zB i.n,zB i.dr]) (λi=>[wT i.a]) (λi=>i.a.Ey) (λi=>zB (i.a.gw i.n i.dr).2) (λi=>[wT (i.a.gw i.n i.dr).1])
def Ws (a:ur):Prop:=dx ((a.a.nu a.n).fst.slot=0/\(a.a.nu a.n).fst.id=0/\(a.a.nu a.n).fst.dr=0/\(a.a.nu a.n).fst.top=aq/\(a.a.nu a.n).snd=aq/\wF a)
def y1s (i:ur):Prop:=
 dp (decide (i.n<0)) (Ws i) (dp (decide (i.n>=((ae zT i.a.du).length:Int))) (Ws i) ((0<=i.n/\i.n<((ae zT i.a.du).length:Int))/\∃(a:Bool),zD (ae zT i.a.du) i.n.toNat 0 1=ay [D.v (.bool a)]/\dp (!a) (Ws i) ((0<=i.n/\i.n<((ae zT i.a.du).length:Int))/\∃(b:Int),∃(c:Int),∃(d:Int),∃(e:Bool),zD (ae zT i.a.du) i.n.toNat 1 4=ay [dI b,dI c,dI d,D.v (.bool e)]/\dx ((i.a.nu i.n).fst.slot=b/\(i.a.nu i.n).fst.id=c/\(i.a.nu i.n).fst.dr=d/\(i.a.nu i.n).fst.top=e/\(i.a.nu i.n).snd=ap/\wF i))))
def zHc (a:Mx):Prop:=dx (Q8 a.a (ae EM (a.a.fy a.l)=[]/\True))
def yPk (i:Mx):Prop:=
 dp (decide (i.n>=0)) (dp (!decide (i.n<((ae zQ i.a.dy).length:Int))) (zHc i) ((0<=i.n/\i.n<((ae zQ i.a.dy).length:Int))/\∃(a:Int),zD (ae zQ i.a.dy) i.n.toNat 0 1=ay [dI a]/\∃(b:Nat),A5 i.l b=a/\ae EM (i.a.fy (af b i.l))=[]/\∃(c:Nat->Prop),∃(d:Nat->Nat),c b/\∀(e:Nat),c e->dp (A5 i.l e !=(-1)) ((0<=A5 i.l e/\A5 i.l e<((ae zT i.a.du).length:Int))/\∃(f:Int),∃(g:Int),∃(h:Int),∃(j:Bool),zD (ae zT i.a.du) (A5 i.l e).toNat 1 4=ay [dI f,dI g,dI h,D.v (.bool j)]/\((ae EM (i.a.fy (af e i.l))).length+1)*(32:Nat)<=(140737488355328:Nat)/\(0<=A5 i.l e/\A5 i.l e<((ae zT i.a.du).length:Int))/\∃(k:Int),zD (ae zT i.a.du) (A5 i.l e).toNat 7 1=ay [dI k]/\∃(l:Nat),A5 i.l l=k/\ae EM (i.a.fy (af l i.l))=ae EM (i.a.fy (af e i.l))++[[dI f,dI g,dI h,D.v (.bool j)]]/\c l/\d l<d e/\dl (ar [V.own 1,V.own 2,V.d (dI i.a.free)] (355:TypeId))/\dl (au 389 8 (ae zT i.a.du))/\dl (au 392 4 (ae zQ i.a.dy))) (dx (Q8 i.a (ae EM (i.a.fy i.l)=ae EM (i.a.fy (af e i.l))/\True))))) (zHc i)
def zGm (a:Cq):Prop:=(a.a.gw a.n a.dr).fst.free=a.a.free/\ae zT (a.a.gw a.n a.dr).fst.du=ae zT a.a.du/\ae zQ (a.a.gw a.n a.dr).fst.dy=ae zQ a.a.dy/\True
def lV (a:Cq):Prop:=dx ((a.a.gw a.n a.dr).snd=26/\zGm a)
def zGy (a:Cq):Prop:=dx ((a.a.gw a.n a.dr).snd=24/\zGm a)
def vV (a:Cq) (b:Int) (c:Int):=(zK (ae zQ a.a.dy) b.toNat 2 [dI (ab.wrap (c-a.dr))])
def cZ (a:Cq) (b:Int) (c:Int) (d:Int) (e:Int):=(zK (vV a b c) d.toNat 0 [dI e])
def eG (a:Cq) (b:Int) (c:Int) (d:Int) (e:Int) (f:Int):=(zK (cZ a b c d e) d.toNat 1 [dI f])
def xD (a:Cq) (b:Int):=(zK (ae zT a.a.du) a.n.toNat 3 [dI (ab.wrap (b-a.dr))])
def zHs (a:Int) (b:Cq) (c:Int):Prop:=0<=a/\a<((xD b c).length:Int)
def jN (a:Cq) (b:Int) (c:Int) (d:Int):=(zK (xD a b) c.toNat 7 [dI d])
def l8 (a:Cq) (b:Int) (c:Int) (d:Int) (e:Int):=(zK (vV a b c) d.toNat 1 [dI e])
@[reducible] def SN (a:Cq)(R:Prop):Prop:=(a.a.gw a.n a.dr).snd=0/\(a.a.gw a.n a.dr).fst.free=ab.wrap (a.a.free+1)/\R
def yNf (i:Cq):Prop:=
 dp (decide (i.n<0)) (lV i) (dp (decide (i.n>=((ae zT i.a.du).length:Int))) (lV i) ((0<=i.n/\i.n<((ae zT i.a.du).length:Int))/\∃(a:Bool),zD (ae zT i.a.du) i.n.toNat 0 1=ay [D.v (.bool a)]/\dp (!a) (lV i) ((0<=i.n/\i.n<((ae zT i.a.du).length:Int))/\dp (decide (i.dr<1)) (zGy i) (∃(b:Int),zD (ae zT i.a.du) i.n.toNat 3 1=ay [dI b]/\dp (decide (i.dr>b)) (zGy i) (∃(c:Int),zD (ae zT i.a.du) i.n.toNat 3 1=ay [dI c]/\i.n.toNat<(ae zT i.a.du).length/\∃(d:Int),zD (xD i c) i.n.toNat 5 1=ay [dI d]/\(0<=d/\d<((ae zQ i.a.dy).length:Int))/\∃(e:Int),zD (ae zQ i.a.dy) d.toNat 2 1=ay [dI e]/\(0<=d/\d<((ae zQ i.a.dy).length:Int))/\d.toNat<(ae zQ i.a.dy).length/\∃(f:Int),zD (xD i c) i.n.toNat 3 1=ay [dI f]/\dp (f==0) (∃(g:Int),zD (xD i c) i.n.toNat 5 1=ay [dI g]/\(0<=g/\g<((vV i d e).length:Int))/\∃(h:Int),zD (xD i c) i.n.toNat 6 1=ay [dI h]/\dp (h==(-1)) (∃(j:Int),zD (xD i c) i.n.toNat 7 1=ay [dI j]/\g.toNat<(vV i d e).length/\∃(k:Int),zD (xD i c) i.n.toNat 7 1=ay [dI k]/\dp (k==(-1)) (∃(l:Int),zD (xD i c) i.n.toNat 6 1=ay [dI l]/\g.toNat<(cZ i d e g j).length/\∃(m:Int),zD (eG i d e g j l) g.toNat 3 1=ay [dI m]/\g.toNat<(eG i d e g j l).length/\i.n.toNat<(xD i c).length/\dx (SN i (ae zT (i.a.gw i.n i.dr).fst.du=zK (xD i c) i.n.toNat 0 [D.v (.bool aq),dI 0,dI 0,dI 0,D.v (.bool aq),dI 0,dI 0,dI 0]/\ae zQ (i.a.gw i.n i.dr).fst.dy=zK (eG i d e g j l) g.toNat 3 [dI (ab.wrap (m-1))]/\True))) (∃(l:Int),zD (xD i c) i.n.toNat 7 1=ay [dI l]/\∃(m:Int),zD (xD i c) i.n.toNat 6 1=ay [dI m]/\(zHs l i c)/\l.toNat<(xD i c).length/\∃(n:Int),zD (cZ i d e g j) g.toNat 3 1=ay [dI n]/\g.toNat<(cZ i d e g j).length/\i.n.toNat<(zK (xD i c) l.toNat 6 [dI m]).length/\dx (SN i (ae zT (i.a.gw i.n i.dr).fst.du=zK (zK (xD i c) l.toNat 6 [dI m]) i.n.toNat 0 [D.v (.bool aq),dI 0,dI 0,dI 0,D.v (.bool aq),dI 0,dI 0,dI 0]/\ae zQ (i.a.gw i.n i.dr).fst.dy=zK (cZ i d e g j) g.toNat 3 [dI (ab.wrap (n-1))]/\True)))) (∃(j:Int),zD (xD i c) i.n.toNat 6 1=ay [dI j]/\∃(k:Int),zD (xD i c) i.n.toNat 7 1=ay [dI k]/\(zHs j i c)/\j.toNat<(xD i c).length/\∃(l:Int),zD (jN i c j k) i.n.toNat 7 1=ay [dI l]/\dp (l==(-1)) (∃(m:Int),zD (jN i c j k) i.n.toNat 6 1=ay [dI m]/\g.toNat<(vV i d e).length/\∃(n:Int),zD (l8 i d e g m) g.toNat 3 1=ay [dI n]/\g.toNat<(l8 i d e g m).length/\i.n.toNat<(jN i c j k).length/\dx (SN i (ae zT (i.a.gw i.n i.dr).fst.du=zK (jN i c j k) i.n.toNat 0 [D.v (.bool aq),dI 0,dI 0,dI 0,D.v (.bool aq),dI 0,dI 0,dI 0]/\ae zQ (i.a.gw i.n i.dr).fst.dy=zK (l8 i d e g m) g.toNat 3 [dI (ab.wrap (n-1))]/\True))) (∃(m:Int),zD (jN i c j k) i.n.toNat 7 1=ay [dI m]/\∃(n:Int),zD (jN i c j k) i.n.toNat 6 1=ay [dI n]/\(0<=m/\m<((jN i c j k).length:Int))/\m.toNat<(jN i c j k).length/\∃(p:Int),zD (vV i d e) g.toNat 3 1=ay [dI p]/\g.toNat<(vV i d e).length/\i.n.toNat<(zK (jN i c j k) m.toNat 6 [dI n]).length/\dx (SN i (ae zT (i.a.gw i.n i.dr).fst.du=zK (zK (jN i c j k) m.toNat 6 [dI n]) i.n.toNat 0 [D.v (.bool aq),dI 0,dI 0,dI 0,D.v (.bool aq),dI 0,dI 0,dI 0]/\ae zQ (i.a.gw i.n i.dr).fst.dy=zK (vV i d e) g.toNat 3 [dI (ab.wrap (p-1))]/\True))))) (dx ((i.a.gw i.n i.dr).snd=0/\(i.a.gw i.n i.dr).fst.free=i.a.free/\ae zT (i.a.gw i.n i.dr).fst.du=zK (ae zT i.a.du) i.n.toNat 3 [dI (ab.wrap (c-i.dr))]/\ae zQ (i.a.gw i.n i.dr).fst.dy=zK (ae zQ i.a.dy) d.toNat 2 [dI (ab.wrap (e-i.dr))]/\True)))))))
def U9 {a:dv} {n:Int} (h:n<0\/(a.du.length:Int)<=n):a.iy n=aq:=by
 rcases h with h|h
 ·rw[dv.iy,jv (by omega),Di]
 ·rw[dv.iy,jv (show ¬n<(a.du.length:Int)by omega),Di,JX]
def yDc {a:dv} {n:Int} {s:Slot} (h0:0<=n) (hs:a.du[n.toNat]? =ay s):a.iy n=s.used:=by
 have hl:=(jm.1 hs).1;rw[dv.iy,jo h0,jo (show n<(a.du.length:Int)by omega),zX hs];simp
def x4 {a:dv} {k:Nat} {s:Slot} (hs:a.du[k]? =ay s):a.fg k=s:=zX hs
def xCq (i:ur) (h:Li.dp i):y1s i:=by
 have h:i.a.du.length<=1000000:=h;unfold y1s dx Ws dx wF Q8 dI;simp only[ia];have no (e:i.a.iy i.n=aq):i.a.nu i.n=(xDc,aq):=by rw[dv.nu,ez (by rw[e];decide)]
 refine zG (λc=> ?_) (λc=>zG (λd=> ?_) (λd=> ?_))
 ·rw[no (U9 (.inl c))];exact kp
 ·rw[no (U9 (.inr (by omega)))];exact kp
 ·obtain⟨s,hs⟩:=zZ (l:=i.a.du) (i:=i.n.toNat) oM;have eu:=yDc (a:=i.a) (n:=i.n) oM hs;refine⟨⟨oM,oM⟩,s.used,jz hs (by simp[zT]) rfl,Cv.dp.mk (λu=> ?_) (λu=> ?_)⟩
  ·rw[no (by rw[eu];simpa using u)];exact kp
  ·have e:i.a.iy i.n=ap:=by rw[eu];simpa using u
   have et:i.a.nu i.n=(s.pn,ap):=by rw[dv.nu,fh e,x4 hs]
   rw[et];refine⟨⟨oM,oM⟩,s.n,s.id,s.dr,s.top,jz hs (by simp[zT]) rfl,?_⟩
   exact kp
def yEu:Li.ok Tryz.prog 232:=gx mixed fk 1 i6 i6 [0] Tryz.func232 xCq
def zWu:∀{sl:List Slot} {at_:Int} {l:List Nat},Re sl at_ l->A5 l 0=at_/\∀j k,l[j]? =ay k->k<sl.length/\A5 l (j+1)=(sl.getD k iH).back
 |sl,at_,[],h=>⟨h.symm,λj k hk=>by simp at hk⟩
 |sl,at_,x::l,h=>by
  obtain⟨h1,h2,h3⟩:=h;have ih:=zWu h3;refine⟨h1.symm,λj k hk=> ?_⟩;cases j with
  |zero=>
   simp at hk;subst hk;exact⟨h2,by rw[<- ih.1];rfl⟩
  |succ j=>
   rw[Bd]at hk;obtain⟨a,b⟩:=ih.2 j k hk;exact⟨a,by rw[<- b];rfl⟩
def y5m (i:Mx) (h:G8.dp i):yPk i:=by
 obtain⟨hl,h⟩:i.l.length<=1000000/\(if 0<=i.n/\i.n<i.a.dy.length then Re i.a.du (i.a.dy.getD i.n.toNat mW).first i.l else i.l=[]):=⟨h.len,h.ch⟩
 unfold yPk Q8 dx zHc Q8 dx dI;simp only[ia];have out (e:¬(0<=i.n/\i.n<(i.a.dy.length:Int))):i.l=[]:=by rw[ez e]at h;exact h
 refine zG (λc=>Cv.dp.mk (λd=> ?_) (λd=> ?_)) (λc=> ?_)
 ·have d:¬i.n<(i.a.dy.length:Int):=i9 d
  rw[out (by omega)];exact kp
 ·have d:i.n<(i.a.dy.length:Int):=i9 d
  rw[fh ⟨by omega,d⟩]at h;obtain⟨q,hq⟩:=zZ (l:=i.a.dy) (i:=i.n.toNat) oM;rw[zX hq]at h;obtain⟨n0,nx⟩:=zWu h;refine⟨⟨oM,oM⟩,q.first,jz hq (by simp[zQ]) rfl,0,n0,rfl,λj=>j<=i.l.length,λj=>i.l.length-j,mn _,λj hj=>Cv.dp.mk (λe=> ?_) (λe=> ?_)⟩
  ·have e:A5 i.l j≠-1:=i9 e
   obtain⟨k,hk⟩:∃k,i.l[j]? =ay k:=by
    cases hk:i.l[j]? with
    |none=>rw[A5,hk]at e;exact absurd rfl e
    |some k=>exact⟨k,rfl⟩
   have Fg:=(jm.1 hk).1;obtain⟨o7,Fc⟩:=nx j k hk;have en:A5 i.l j=k:=by rw[A5,hk]
   obtain⟨s,hs⟩:=zZ (l:=i.a.du) (i:=k) o7;rw[en,ot];refine⟨⟨oM,oM⟩,s.n,s.id,s.dr,s.top,jz hs (by simp[zT]) rfl,?_,⟨oM,oM⟩,s.back,jz hs (by simp[zT]) rfl,j+1,by rw[Fc,zX hs],?_,Fg,Z9,gn⟩
   ·simp only[dv.fy,ia,nn];omega
   ·rw[qq,hk];simp only[dv.fy,Option.toList,jk,jf,Bs,x4 hs];rfl
  ·have e:A5 i.l j= -1:=i9 e
   have ox:i.l.length<=j:=by
    apply Classical.byContradiction;intro hn;obtain⟨k,hk⟩:=zZ (l:=i.l) (i:=j) oM;rw[A5,hk]at e;simp only at e;omega
   rw[mz ox]
   exact kp
 ·rw[out (by omega)];exact kp
def yQd:G8.ok Tryz.prog 281:=gx mixed fk 1 i6 (λi=>y5x i) [0] Tryz.func281 y5m
def yAs {α:Type} {l:List α} {i k:Nat} {x y:α} (h:i≠k) (hk:l[k]? =ay x):(l.set i y)[k]? =ay x:=by
 rw[List.getElem?_set_ne h];exact hk
def y6k (i:Cq) (h:G4.dp i):yNf i:=by
 obtain⟨hl,oX⟩:i.a.Ey:=h;unfold yNf SN dx l8 jN zHs xD eG cZ vV zGy dx lV dx zGm dI;simp only[ia];have no (e:i.a.iy i.n=aq):i.a.gw i.n i.dr=(i.a,26):=by rw[dv.gw,fh e]
 refine zG (λc=> ?_) (λc=>zG (λd=> ?_) (λd=> ?_))
 ·rw[no (U9 (.inl c))];exact kp
 ·rw[no (U9 (.inr (by omega)))];exact kp
 obtain⟨k,hk⟩:∃k,k=i.n.toNat:=⟨_,rfl⟩
 rw[<- hk];obtain⟨s,hs⟩:=zZ (l:=i.a.du) (i:=k) oM;have iP:i.a.du[i.n.toNat]? =ay s:=by rw[<- hk];exact hs
 have eu:=yDc (a:=i.a) (n:=i.n) oM iP;refine⟨⟨oM,oM⟩,s.used,jz hs (by simp[zT]) rfl,Cv.dp.mk (λu=> ?_) (λu=> ?_)⟩
 ·rw[no (by rw[eu];simpa using u)];exact kp
 have u:s.used=ap:=i9 u
 have e:¬i.a.iy i.n=aq:=by rw[eu,u];decide
 obtain⟨⟨q0,q1⟩,sq,sa,sb⟩:=oX k s hs u;have esl:i.a.fg i.n.toNat=s:=x4 iP;have bad (hq:i.dr<1\/s.dr<i.dr):i.a.gw i.n i.dr=(i.a,24):=by rw[dv.gw,ez e,esl,fh hq]
 refine⟨⟨oM,oM⟩,zG (λc1=>by rw[bad (.inl c1)];(repeat'(first|exact rfl|exact trivial|assumption|apply az|refineλ(_:Unit) (_:True)=>?_|refine ax () ?_|omega|(dsimp only;omega)))) (λc1=>⟨s.dr,jz hs (by simp[zT]) rfl,zG (λc2=>by rw[bad (.inr (by omega))];(repeat'(first|exact rfl|exact trivial|assumption|apply az|refineλ(_:Unit) (_:True)=>?_|refine ax () ?_|omega|(dsimp only;omega)))) (λc2=>⟨s.dr,jz hs (by simp[zT]) rfl,oM,?_⟩)⟩)⟩;obtain⟨q,hq⟩:=zZ (l:=i.a.dy) (i:=s.queue.toNat) oM;have ud:(i.a.du.set k {s with dr:=s.dr-i.dr})[k]? =ay {s with dr:=s.dr-i.dr}:=gR hs;have wm:(i.a.dy.set s.queue.toNat {q with total:=ab.wrap (q.total-i.dr)})[s.queue.toNat]? =ay {q with total:=ab.wrap (q.total-i.dr)}:=gR hq;have hle:i.a.less i.n.toNat i.dr=⟨i.a.du.set k {s with dr:=s.dr-i.dr},i.a.dy.set s.queue.toNat {q with total:=ab.wrap (q.total-i.dr)},i.a.free⟩:=by
  rw[dv.less,esl,b8 iP,b8 hq,hk]
 have hL:(i.a.du.set k {s with dr:=s.dr-i.dr}).length=i.a.du.length:=qm;have hQ:(i.a.dy.set s.queue.toNat {q with total:=ab.wrap (q.total-i.dr)}).length=i.a.dy.length:=qm;have tk:i.a.gw i.n i.dr=if s.dr=i.dr then((i.a.less i.n.toNat i.dr).iL i.n.toNat,0)else(i.a.less i.n.toNat i.dr,0):=by rw[dv.gw,ez e,esl,ez (by omega)]
 rw[hle,<- hk]at tk;rw[iw (x:=s.dr-i.dr) (by omega),yM hs (y:={s with dr:=s.dr-i.dr}) rfl];refine⟨s.queue,jz ud (by simp[zT]) rfl,⟨q0,q1⟩,q.total,jz hq (by simp[zQ]) rfl,⟨q0,q1⟩,oM,s.dr-i.dr,jz ud (by simp[zT]) rfl,?_⟩;rw[yM hq (y:={q with total:=ab.wrap (q.total-i.dr)}) rfl];simp only[ia];generalize hL1:i.a.du.set k {s with dr:=s.dr-i.dr}=L1 at*;generalize hQ1:i.a.dy.set s.queue.toNat {q with total:=ab.wrap (q.total-i.dr)}=Q1 at*;refine Cv.dp.mk (λz=> ?_) (λz=> ?_)
 ·have z:s.dr=i.dr:=by have:s.dr-i.dr=0:=i9 z
                       omega
  rw[fh z]at tk;have aaV:(⟨L1,Q1,i.a.free⟩:dv).fg k={s with dr:=s.dr-i.dr}:=x4 ud;have eq1:Q1.getD s.queue.toNat mW={q with total:=ab.wrap (q.total-i.dr)}:=zX wm;rw[dv.iL,aaV]at tk;dsimp only at tk;rw[eq1]at tk;dsimp only at tk;rw[tk];refine⟨s.queue,jz ud (by simp[zT]) rfl,⟨q0,oM⟩,s.ahead,jz ud (by simp[zT]) rfl,Cv.dp.mk (λea=> ?_) (λea=> ?_)⟩
  ·have ea:s.ahead= -1:=i9 ea
   refine⟨s.back,jz ud (by simp[zT]) rfl,oM,s.back,jz ud (by simp[zT]) rfl,?_⟩;rw[yM wm (y:=⟨s.back,q.last,ab.wrap (q.total-i.dr),q.count⟩) rfl];have ue:(Q1.set s.queue.toNat ⟨s.back,q.last,ab.wrap (q.total-i.dr),q.count⟩)[s.queue.toNat]? =ay ⟨s.back,q.last,ab.wrap (q.total-i.dr),q.count⟩:=gR wm;simp only[ia,qm];refine Cv.dp.mk (λeb=> ?_) (λeb=> ?_)
   ·have eb:s.back= -1:=i9 eb
    refine⟨s.ahead,jz ud (by simp[zT]) rfl,oM,q.count,?_,?_⟩
    ·rw[yM ue (y:=⟨s.back,s.ahead,ab.wrap (q.total-i.dr),q.count⟩) rfl];exact jz (gR ue) (by simp[zQ]) rfl
    rw[yM ue (y:=⟨s.back,s.ahead,ab.wrap (q.total-i.dr),q.count⟩) rfl,yM (gR ue) (y:=⟨s.back,s.ahead,ab.wrap (q.total-i.dr),ab.wrap (q.count-1)⟩) rfl,yM ud (y:=iH) rfl];simp only[ia,qm,Ec,fh ea,fh eb];refine⟨oM,oM,(),i7,i7,i7,i7,trivial⟩
   ·have eb:s.back≠-1:=i9 eb
    obtain⟨b0,b1,b2⟩:0<=s.back/\s.back<i.a.du.length/\s.back≠k:=by omega
    obtain⟨x,hx⟩:=zZ (l:=L1) (i:=s.back.toNat) oM;refine⟨s.back,jz ud (by simp[zT]) rfl,s.ahead,jz ud (by simp[zT]) rfl,⟨b0,oM⟩,oM,q.count,jz ue (by simp[zQ]) rfl,?_⟩;rw[yM hx (y:={x with ahead:=s.ahead}) rfl,yM ue (y:=⟨s.back,q.last,ab.wrap (q.total-i.dr),ab.wrap (q.count-1)⟩) rfl,yM (yAs (by omega) ud) (y:=iH) rfl];simp only[ia,qm,Ec,fh ea,ez eb,b8 hx];refine⟨oM,oM,(),i7,i7,i7,i7,trivial⟩
  ·have ea:s.ahead≠-1:=i9 ea
   obtain⟨a0,a1,a2⟩:0<=s.ahead/\s.ahead<i.a.du.length/\s.ahead≠k:=by omega
   obtain⟨x,hx⟩:=zZ (l:=L1) (i:=s.ahead.toNat) oM;have yu:(L1.set s.ahead.toNat {x with back:=s.back})[k]? =ay {s with dr:=s.dr-i.dr}:=yAs oM ud;refine⟨s.ahead,jz ud (by simp[zT]) rfl,s.back,jz ud (by simp[zT]) rfl,⟨a0,oM⟩,oM,s.back,?_,?_⟩
   ·rw[yM hx (y:={x with back:=s.back}) rfl];exact jz yu (by simp[zT]) rfl
   rw[yM hx (y:={x with back:=s.back}) rfl];simp only[ia,qm];refine Cv.dp.mk (λeb=> ?_) (λeb=> ?_)
   ·have eb:s.back= -1:=i9 eb
    refine⟨s.ahead,jz yu (by simp[zT]) rfl,oM,q.count,?_,?_⟩
    ·rw[yM wm (y:=⟨q.first,s.ahead,ab.wrap (q.total-i.dr),q.count⟩) rfl];exact jz (gR wm) (by simp[zQ]) rfl
    rw[yM wm (y:=⟨q.first,s.ahead,ab.wrap (q.total-i.dr),q.count⟩) rfl,yM (gR wm) (y:=⟨q.first,s.ahead,ab.wrap (q.total-i.dr),ab.wrap (q.count-1)⟩) rfl,yM yu (y:=iH) rfl];simp only[ia,qm,Ec,ez ea,fh eb,b8 hx];refine⟨oM,oM,(),i7,i7,i7,i7,trivial⟩
   ·have eb:s.back≠-1:=i9 eb
    obtain⟨b0,b1,b2⟩:0<=s.back/\s.back<i.a.du.length/\s.back≠k:=by omega
    obtain⟨y,hy⟩:=zZ (l:=L1.set s.ahead.toNat {x with back:=s.back}) (i:=s.back.toNat) (by rw[qm];omega);refine⟨s.back,jz yu (by simp[zT]) rfl,s.ahead,jz yu (by simp[zT]) rfl,⟨b0,oM⟩,oM,q.count,jz wm (by simp[zQ]) rfl,?_⟩;rw[yM hy (y:={y with ahead:=s.ahead}) rfl,yM wm (y:=⟨q.first,q.last,ab.wrap (q.total-i.dr),ab.wrap (q.count-1)⟩) rfl,yM (yAs (by omega) yu) (y:=iH) rfl];simp only[ia,qm,Ec,ez ea,ez eb,b8 hx,b8 hy];refine⟨oM,oM,(),i7,i7,i7,i7,trivial⟩
 ·have z:¬s.dr=i.dr:=by have:¬s.dr-i.dr=0:=i9 z
                        omega
  rw[ez z]at tk;rw[tk];exact⟨(),nf trivial⟩
def ySb:G4.ok Tryz.prog 233:=gx mixed fk 1 i6 i6 [0] Tryz.func233 y6k
structure vo where
 l:List Int
 least:Int
 q:Int
def yCj (l:List Int) (least q:Int):List Int:=l.map λk=>if least<=k*q / l.sum then k*q / l.sum else 0
def vC:List (Int×Int)->Int->List Int
 |[],_=>[]
 |(n,x)::r,q=>(x+min (n-x) q)::vC r (q-min (n-x) q)
def vo.p0 (i:vo):List Int:=yCj i.l i.least i.q
def vo.p1 (i:vo):List Int:=vC (i.l.zip i.p0) (i.q-i.p0.sum)
def j0 (i:vo):List Int:=if y6 i.l i.q=ap/\1<=i.least then i.p1 else[]
def GA:gh:=fp vo (λi=>[iV i.l,zB i.least,zB i.q]) i6 (λi=>i.l.length<=1000000/\yP i.q/\yP i.least) (λ_=> .own 0) (λi=>[.own 2 1 (iE (j0 i))])
def y8j (i:vo):List gr:=[
 {ι:=Nat,du:=λj=>[(9,.own 0),(36,zB j)],rows:=λj=>[.own 2 1 (iE (i.p0.take j++ag (i.l.length-j) 0))]},
 {ι:=Nat,du:=λj=>[(2,zB (i.q-(i.p0.take j).sum)),(58,zB j)],rows:=λ_=>[]},
 {ι:=Nat,du:=λj=>[(9,.own 0),(2,zB (i.q-i.p0.sum+(i.p0.take j).sum-(i.p1.take j).sum)),(68,zB j)],rows:=λj=>[.own 2 1 (iE (i.p1.take j++i.p0.drop j))]}]
def bD (a:Nat) (b:vo):=(iE (af a b.p1++am a b.p0))
def eA (a:Nat) (b:vo):Prop:=0<=(a:Int)/\(a:Int)<((bD a b).length:Int)
def fV (a:Nat) (b:vo):=(af a b.p0++ag (b.l.length-a) 0)
def fY (a:Nat) (b:vo):=(iE (fV a b))
def m7 (a:Nat) (b:vo):=((fY a b).length:Int)
def yQa (i:vo):Prop:=
 ∃(a:Cs),iE a.l=iE i.l/\a.q=i.q/\(vG a)/\ff (dp (!y6 a.l a.q) (dx (iE (j0 i)=[]/\True)) (dp (decide (i.least<1)) (dx (iE (j0 i)=[]/\True)) (∃(c:List Int),iE c=iE i.l/\(c.length<=1000/\∀(d:Int),d∈c->0<=d/\d<=1000000)/\ff ((0<=((iE i.l).length:Int)/\((iE i.l).length:Int)<=((iE i.l).length:Int)/\((iE i.l).length:Int)<=9223372036854775807/\((8:Nat):Int)*((iE i.l).length:Int)<=2 ^ (48:Nat))/\∃(e:Nat),(e:Int)=0/\iE (fV e i)=ag ((iE i.l).length:Int).toNat [dI 0]/\∃(f:Nat->Prop),∃(g:Nat->Nat),f e/\∀(h:Nat),f h->dp (decide ((h:Int)<((iE i.l).length:Int))) ((0<=(h:Int)/\(h:Int)<((iE i.l).length:Int))/\∃(j:Int),zD (iE i.l) (h:Int).toNat 0 1=ay [dI j]/\∃(k:Mr),k.a=j/\k.b=i.q/\k.c=c.sum/\(0<=k.a/\k.a<=(2000000000:Int)/\(0:Int)<=k.b/\k.b<=(2000000000:Int)/\(1:Int)<=k.c/\k.c<=2000000000)/\ff (dp (decide (k.a*k.b / k.c>=i.least)) ((0<=(h:Int)/\(h:Int)<(m7 h i))/\(h:Int).toNat<(fY h i).length/\∃(m:Nat),(m:Int)=ab.wrap ((h:Int)+1)/\iE (fV m i)=zK (fY h i) (h:Int).toNat 0 [dI (k.a*k.b / k.c)]/\f m/\g m<g h/\True) (∃(m:Nat),(m:Int)=ab.wrap ((h:Int)+1)/\iE (fV m i)=iE (fV h i)/\f m/\g m<g h/\True))) (∃(j:Nat),i.q-(af j i.p0).sum=i.q/\(j:Int)=0/\∃(k:Nat->Prop),∃(l:Nat->Nat),k j/\∀(m:Nat),k m->dp (decide ((m:Int)<(m7 h i))) ((0<=(m:Int)/\(m:Int)<(m7 h i))/\∃(n:Int),zD (fY h i) (m:Int).toNat 0 1=ay [dI n]/\∃(p:Nat),i.q-(af p i.p0).sum=ab.wrap (i.q-(af m i.p0).sum-n)/\QO p m k l (dl (au 2 1 (fY h i)))) (∃(n:Nat),i.q-i.p0.sum+(af n i.p0).sum-(af n i.p1).sum=i.q-(af m i.p0).sum/\(n:Int)=0/\iE (af n i.p1++am n i.p0)=iE (fV h i)/\∃(p:Nat->Prop),∃(q:Nat->Nat),p n/\∀(r:Nat),p r->dp (decide ((r:Int)<(m7 h i))) ((0<=(r:Int)/\(r:Int)<((iE i.l).length:Int))/\∃(s:Int),zD (iE i.l) (r:Int).toNat 0 1=ay [dI s]/\(eA r i)/\∃(t:Int),zD (bD r i) (r:Int).toNat 0 1=ay [dI t]/\(eA r i)/\∃(u:Int),zD (bD r i) (r:Int).toNat 0 1=ay [dI u]/\(eA r i)/\(r:Int).toNat<(bD r i).length/\∃(v:Nat),i.q-i.p0.sum+(af v i.p0).sum-(af v i.p1).sum=ab.wrap (i.q-i.p0.sum+(af r i.p0).sum-(af r i.p1).sum-min (ab.wrap (s-t)) (i.q-i.p0.sum+(af r i.p0).sum-(af r i.p1).sum))/\(v:Int)=ab.wrap ((r:Int)+1)/\iE (af v i.p1++am v i.p0)=zK (bD r i) (r:Int).toNat 0 [dI (ab.wrap (u+min (ab.wrap (s-t)) (i.q-i.p0.sum+(af r i.p0).sum-(af r i.p1).sum)))]/\p v/\q v<q r/\True) (dx (iE (j0 i)=iE (af r i.p1++am r i.p0)/\True))))))))
def zGv:∀(z:List (Int×Int)) (q:Int),(vC z q).length=z.length
 |[],_=>rfl
 |(n,x)::z,q=>by rw[vC,iF,iF,zGv z]
def zRp:∀(z:List (Int×Int)) (q:Int) (j:Nat) (n x:Int),z[j]? =ay (n,x)->(vC z q)[j]? =ay (x+min (n-x) (q+((z.map (·.2)).take j).sum-((vC z q).take j).sum))
 |[],_,_,_,_,h=>by simp at h
 |(m,y)::z,q,0,n,x,h=>by simp at h;obtain⟨rfl,rfl⟩:=h;simp[vC]
 |(m,y)::z,q,j+1,n,x,h=>by
  rw[Bd]at h;rw[vC,Bd,zRp z _ j n x h,u',qc,jf,u',qc];congr 3;dsimp only;omega
def zOo:∀(z:List (Int×Int)) (q:Int) (j:Nat),0<=q->(∀y∈z,y.2<=y.1)->0<=q+((z.map (·.2)).take j).sum-((vC z q).take j).sum/\q+((z.map (·.2)).take j).sum-((vC z q).take j).sum<=q
 |[],q,j,h,_=>by simp[vC,h]
 |(m,y)::z,q,0,h,_=>by simp[h]
 |(m,y)::z,q,j+1,h,hb=>by
  have hm:=hb (m,y) iX;have:=zOo z (q-min (m-y) q) j (by dsimp only at hm;omega) (λx hx=>hb x (ji _ hx));rw[vC,u',qc,jf,u',qc];dsimp only at hm ⊢;omega
def yTk {k q S:Int} (hk:0<=k) (hq:0<=q) (hS:1<=S) (hqS:q<=S):0<=k*q / S/\k*q / S<=k:=by
 refine⟨Int.ediv_nonneg (Od hk hq) oM,?_⟩;have:k*q<=k*S:=XK hqS hk;exact Int.ediv_le_of_le_mul oM this
def zXl {q S least:Int} (hq:0<=q) (hS:1<=S):∀(l:List Int),(∀x∈l,0<=x)->S*(l.map λk=>if least<=k*q / S then k*q / S else 0).sum<=q*l.sum
 |[],_=>by simp
 |k::l,h=>by
  have ih:=zXl (least:=least) hq hS l (λx hx=>h x (ji _ hx));have hk:=h k iX;rw[jf,qc,qc,Int.mul_add,Int.mul_add];have h1:S*(k*q / S)<=k*q:=by
   have:=Int.mul_ediv_add_emod (k*q) S;have:=Of (k*q) (show S≠0 by omega);omega
  have h2:0<=k*q:=Od hk hq;have h3:S*(if least<=k*q / S then k*q / S else 0)<=q*k:=by
   rw[Eb q k];split
   ·exact h1
   ·simpa using h2
  omega
def yOm {i:vo} {j:Nat} {n:Int} (h:i.l[j]? =ay n):i.p0[j]? =ay (if i.least<=n*i.q / i.l.sum then n*i.q / i.l.sum else 0):=by
 rw[vo.p0,yCj,qt,h];rfl
def yAz (i:vo):i.p0.length=i.l.length:=by simp[vo.p0,yCj]
def yDa {l:List Int} {j m:Nat} {n:Int} (hl:l.length=m) (h:l[j]? =ay n):(l.take j++ag (m-j) 0).set j n=l.take (j+1)++ag (m-(j+1)) 0:=by
 have hj:=(jm.1 h).1;rw[List.set_append_right _ _ (by rw[nn];omega),nn,show j-min j l.length=0 by omega,show m-j=(m-(j+1))+1 by omega,J7,Ol,qq,h];simp
def yPz {l:List Int} {j m:Nat} (hl:l.length=m) (hj:j<m):(l.take j++ag (m-j) 0)[j]? =ay 0:=by
 rw[Ch (by rw[nn];omega),nn,show j-min j l.length=0 by omega,show m-j=(m-(j+1))+1 by omega,J7];rfl
def yRl {α:Type} {l:List α} {j:Nat} {x:α} (h:l[j]? =ay x):l.set j x=l:=by
 obtain⟨h1,h2⟩:=jm.1 h;rw[<- h2];exact List.set_getElem_self h1
def xBe {a b:List Int} {j:Nat} {x:Int} (ha:a.length=b.length) (h:b[j]? =ay x):(a.take j++b.drop j)[j]? =ay x:=by
 have hj:=(jm.1 h).1;rw[Ch (by rw[nn];omega),nn,show j-min j a.length=0 by omega,Bu];exact h
def yWk {a b:List Int} {j:Nat} {y:Int} (ha:a.length=b.length) (h:a[j]? =ay y):(a.take j++b.drop j).set j y=a.take (j+1)++b.drop (j+1):=by
 have hj:=(jm.1 h).1;rw[List.set_append_right _ _ (by rw[nn];omega),nn,show j-min j a.length=0 by omega,CH (by omega),Ol,qq,h];simp
def WW {l:List Int} {j:Nat} {x y:Int} (h:l[j]? =ay x):zK (iE l) j 0 [D.v (.int .i64 y)]=iE (l.set j y):=yM (f:=λn:Int=>[D.v (.int .i64 n)]) h rfl
def VP {i:vo} (h:y6 i.l i.q=ap) (jy:0<i.l.length):1<=i.l.sum/\i.l.sum<=250000000/\(∀(j:Nat) (n x:Int),i.l[j]? =ay n->i.p0[j]? =ay x->0<=x/\x<=n)/\i.p0.sum<=i.q:=by
 obtain⟨h1,h2,h3,h4⟩:=wD h;have hb:=wR (l:=i.l) (λx hx=>by have:=h3 x hx;omega) i.l.length;rw[At]at hb;have hS:1<=i.l.sum:=by
  obtain⟨x,hx⟩:=zZ (l:=i.l) (i:=0) jy;have:=h3 x (lh hx);cases hl:i.l with
  |nil=>rw[hl]at jy;exact absurd jy (Nat.lt_irrefl 0)
  |cons a r=>
   rw[hl]at hx;simp at hx;subst hx;have hr:=wR (l:=r) (λy hy=>by have:=h3 y (by rw[hl];exact ji _ hy);omega) r.length;rw[At]at hr;rw[qc];omega
 refine⟨hS,oM,λj n x hn hx=> ?_,?_⟩
 ·have Kh:=h3 n (lh hn);have:=yTk (k:=n) oM h2 hS h4;rw[yOm hn]at hx;cases hx;split<;>omega
 ·have:=zXl (least:=i.least) h2 hS i.l (λx hx=>by have:=h3 x hx;omega);have e:i.l.sum*i.p0.sum<=i.l.sum*i.q:=by rw[Eb i.l.sum i.q];exact this
  exact Int.le_of_mul_le_mul_left e oM
def y6c (i:vo) (h:GA.dp i):yQa i:=by
 obtain⟨hl,hq,hle⟩:i.l.length<=1000000/\yP i.q/\yP i.least:=h;unfold yQa QO ff dx m7 fY fV eA bD vG dI;refine⟨⟨i.l,i.q⟩,rfl,rfl,⟨hl,hq⟩,λ_ _=>Cv.dp.mk (λc=> ?_) (λc=>zG (λd=> ?_) (λd=> ?_))⟩
 ·have c:y6 i.l i.q=aq:=i9 c
  refine⟨(),?_,trivial⟩;rw[j0,ez (by rw[c];simp)];rfl
 ·refine⟨(),?_,trivial⟩;rw[j0,ez (by omega)];rfl
 have c:y6 i.l i.q=ap:=i9 c
 have eS:j0 i=i.p1:=by rw[j0,fh ⟨c,by omega⟩]
 obtain⟨h1,h2,h3,h4⟩:=wD c;have ue:=US c;have ON:=yAz i;have Du:(i.l.zip i.p0).length=i.l.length:=by rw[List.length_zip,ON];simp
 have X7:i.p1.length=i.l.length:=by rw[vo.p1,zGv,Du]
 have hz2:(i.l.zip i.p0).map (·.2)=i.p0:=by rw[List.map_snd_zip];omega
 have h64:i.l.length<=250:=h1;have R9:∀j,j<=i.l.length->(af j i.p0++ag (i.l.length-j) 0).length=i.l.length:=by
  intro j hj;rw[iv,nn,HF];omega
 simp only[y9];refine⟨i.l,rfl,⟨oM,λx hx=>by have:=h3 x hx;omega⟩,λ_ _=>⟨⟨oM,oM,oM,oM⟩,0,i7,?_,λj=>j<=i.l.length,λj=>i.l.length-j,mn _,λj hj=>zG (λe=> ?_) (λe=> ?_)⟩⟩
 ·simp[iE]
 ·have ox:j<i.l.length:=by omega
  obtain⟨n,hn⟩:=zZ (l:=i.l) (i:=j) ox;have bn:=h3 n (lh hn);obtain⟨f1,f2,f3,f4⟩:=VP c oM;have g:=yOm hn;refine⟨⟨oM,oM⟩,n,rp hn,⟨n,i.q,i.l.sum⟩,rfl,rfl,rfl,⟨Z9,Z9,Z9,Z9,Z9,Z9⟩,λ_ _=>zG (λa=> ?_) (λa=> ?_)⟩
  ·have a:n*i.q / i.l.sum>=i.least:=a;rw[fh (by omega)]at g;refine⟨⟨oM,by rw[R9 j (by omega)];omega⟩,by rw[R9 j (by omega)];omega,j+1,qu oM,?_,ox,Z9,trivial⟩;rw[ot,WW (yPz ON ox),yDa ON g]
  ·have a:¬n*i.q / i.l.sum>=i.least:=a;rw[ez (by omega)]at g;refine⟨j+1,qu oM,?_,ox,Z9,trivial⟩;rw[<- yDa ON g,yRl (yPz ON ox)]
 have FW:j=i.l.length:=by omega
 subst FW;have eP:af i.l.length i.p0++ag (i.l.length-i.l.length) 0=i.p0:=by rw[mz (by omega)];simp
 rw[eP,ON];have px:∀(k:Nat) (n x:Int),i.l[k]? =ay n->i.p0[k]? =ay x->0<=x/\x<=n:=λk n x hn hx=>(VP c (by have:=(jm.1 hn).1;omega)).2.2.1 k n x hn hx
 have pb:∀x∈i.p0,0<=x/\x<=1000000:=by
  intro x hx;obtain⟨k,hk⟩:=Bv.1 hx;obtain⟨n,hn⟩:=zZ (l:=i.l) (i:=k) (by have:=(jm.1 hk).1;omega);have:=px k n x hn hk;have:=h3 n (lh hn);omega
 have pq:i.p0.sum<=i.q:=by
  by_cases hz:0<i.l.length
  ·exact(VP c hz).2.2.2
  ·have:i.p0=[]:=xq oM;rw[this];simpa using h2
 refine⟨0,by simp,i7,λk=>k<=i.l.length,λk=>i.l.length-k,mn _,λk hk=>zG (λe=> ?_) (λe=> ?_)⟩
 ·have pk:k<i.l.length:=by omega
  obtain⟨x,hx⟩:=zZ (l:=i.p0) (i:=k) oM;have bx:=pb x (lh hx);have bs:=wR pb k;refine⟨⟨oM,oM⟩,x,rp hx,k+1,?_,qu oM,pk,Z9,gn⟩;rw[wW hx,iw (by omega)];omega
 have Cl:k=i.l.length:=by omega
 subst Cl;rw[mz (l:=i.p0) (by omega)];refine⟨0,by simp,i7,by simp,λj=>j<=i.l.length,λj=>i.l.length-j,mn _,λj hj=>zG (λe=> ?_) (λe=> ?_)⟩
 ·have ox:j<i.l.length:=by omega
  obtain⟨n,hn⟩:=zZ (l:=i.l) (i:=j) ox;obtain⟨x,hx⟩:=zZ (l:=i.p0) (i:=j) oM;have bn:=h3 n (lh hn);have bx:=px j n x hn hx;have hz:(i.l.zip i.p0)[j]? =ay (n,x):=by rw[RG];exact⟨hn,hx⟩
  have g:=zRp (i.l.zip i.p0) (i.q-i.p0.sum) j n x hz;have r:=zOo (i.l.zip i.p0) (i.q-i.p0.sum) j oM (λy hy=>by
   obtain⟨k,hk⟩:=Bv.1 hy;rw[RG]at hk;exact(px k y.1 y.2 hk.1 hk.2).2)
  rw[hz2]at g r;have b0:=wR pb i.p0.length;rw[At]at b0;have uk:(af j i.p1++am j i.p0).length=i.l.length:=by rw[iv,nn,pd];omega
  have hma:=xBe (a:=i.p1) (b:=i.p0) oM hx;change i.p1[j]? =_ at g;change 0<=_-(af j i.p1).sum/\_-(af j i.p1).sum<=_ at r;change i.p1[j]? =ay (x+min (n-x) (_-(af j i.p1).sum))at g;rw[uk];refine⟨⟨oM,oM⟩,n,rp hn,⟨oM,oM⟩,x,rp hma,⟨oM,oM⟩,x,rp hma,⟨oM,oM⟩,oM,?_⟩;rw[iw (x:=n-x) (by omega),iw (x:=x+min (n-x) (i.q-i.p0.sum+(af j i.p0).sum-(af j i.p1).sum)) (by omega)];refine⟨j+1,?_,qu oM,?_,ox,Z9,trivial⟩
  ·rw[wW hx,wW g,iw (by omega)];omega
  ·rw[ot,WW hma,yWk (by omega) g]
 ·have FW:j=i.l.length:=by omega
  subst FW;refine⟨(),?_,trivial⟩;rw[eS,mz (by omega),IB (by omega),oJ]
def yUl:GA.ok Tryz.prog 307:=gx mixed (dw VC (dw yXy (dw zWw fk))) 0 i6 (λi=>y8j i) [] Tryz.func307 y6c
structure qf where
 l:List Int
 out:List Int
 least:Int
 q:Int
def qf.idx (i:qf) (k:Nat):List Nat:=(ao k).filter λn=>decide (i.out.getD n 0<i.l.getD n 0)
def qf.left (i:qf) (k:Nat):List Int:=(i.idx k).map λn=>i.l.getD n 0-i.out.getD n 0
def qf.pl (i:qf):List Int:=j0 ⟨i.left i.l.length,i.least,i.q⟩
def qf.add (i:qf) (k:Nat):List Int:=(((i.idx i.l.length).zip i.pl).take k).foldl (λo y=>o.set y.1 (ab.wrap (o.getD y.1 0+y.2))) i.out
def rP (i:qf):List Int:=i.add i.pl.length
@[reducible] def qf.ok (i:qf):Prop:=i.l.length<=250/\i.out.length=i.l.length/\yP i.q/\yP i.least/\∀n,0<=i.out.getD n 0/\i.out.getD n 0<=i.l.getD n 0/\i.l.getD n 0<=1000000
def KI:gh:=fp qf (λi=>[iV i.l,.own 0,zB i.least,zB i.q]) (λi=>[.own 2 1 (iE i.out)]) qf.ok (λ_=> .own 1) (λi=>[.gone,.own 2 1 (iE (rP i))])
def xCe (i:qf):List gr:=[
 {ι:=Nat,du:=λj=>[(9,.own 0),(10,.own 1),(16,zB j)],rows:=λj=>[.own 2 1 (iE (i.left j)),.own 3 1 (iE ((i.idx j).map λ(n:Nat)=>(n:Int)))]},
 {ι:=Nat,du:=λk=>[(1,.own 0),(50,zB k)],rows:=λk=>[.own 2 1 (iE (i.add k))]}]
structure zJ where
 id:Int
 side:Int
 dm:Int
 dr:Int
 top:Bool
 deriving DecidableEq
def wV (o:zJ):List D:=[.v (.int .i64 o.id),.v (.int .i64 o.side),.v (.int .i64 o.dm),.v (.int .i64 o.dr),.v (.bool o.top)]
@[reducible] def N' (o:zJ):V:= .agg [zB o.id,zB o.side,zB o.dm,zB o.dr,yL o.top]
def TN:gh:=fp zJ (λo=>[N' o]) i6 (λ_=>True) (λo=>yL o.top) i6
def jc (l:List zJ):Int:=JC (l.findIdx? λo=>o.top)
def D4:gh:=fp (List zJ) (λl=>[ow 5 (l.map wV),.fn 273 [] []]) i6 (λl=>l.length<=1000000) (λl=>zB (jc l)) i6
def yXl (l:List zJ):List gr:=[{ι:=Nat,du:=λj=>[(8,zB j)],rows:=λ_=>[]}]
def y2g (i:qf):Prop:=
 ∃(a:Nat),(a:Int)=0/\iE (i.left a)=[]/\iE (ae (λ(n:Nat) ↦ (n:Int)) (i.idx a))=[]/\∃(b:Nat->Prop),∃(c:Nat->Nat),b a/\∀(d:Nat),b d->dp (decide ((d:Int)<((iE i.l).length:Int))) ((0<=(d:Int)/\(d:Int)<((iE i.l).length:Int))/\∃(e:Int),zD (iE i.l) (d:Int).toNat 0 1=ay [dI e]/\(0<=(d:Int)/\(d:Int)<((iE i.out).length:Int))/\∃(f:Int),zD (iE i.out) (d:Int).toNat 0 1=ay [dI f]/\dp (decide (e>f)) ((0<=(d:Int)/\(d:Int)<((iE i.l).length:Int))/\∃(g:Int),zD (iE i.l) (d:Int).toNat 0 1=ay [dI g]/\(0<=(d:Int)/\(d:Int)<((iE i.out).length:Int))/\∃(h:Int),zD (iE i.out) (d:Int).toNat 0 1=ay [dI h]/\((iE (i.left d)).length+1)*(8:Nat)<=(140737488355328:Nat)/\((iE (ae (λ(g:Nat) ↦ (g:Int)) (i.idx d))).length+1)*(8:Nat)<=(140737488355328:Nat)/\∃(j:Nat),(j:Int)=ab.wrap ((d:Int)+1)/\iE (i.left j)=iE (i.left d)++[[dI (ab.wrap (g-h))]]/\iE (ae (λ(g:Nat) ↦ (g:Int)) (i.idx j))=iE (ae (λ(g:Nat) ↦ (g:Int)) (i.idx d))++[[dI (d:Int)]]/\b j/\c j<c d/\dl (au 2 1 (iE i.out))) (∃(g:Nat),(g:Int)=ab.wrap ((d:Int)+1)/\iE (i.left g)=iE (i.left d)/\iE (ae (λ(e:Nat) ↦ (e:Int)) (i.idx g))=iE (ae (λ(e:Nat) ↦ (e:Int)) (i.idx d))/\b g/\c g<c d/\dl (au 2 1 (iE i.out)))) (∃(e:vo),iE e.l=iE (i.left d)/\e.least=i.least/\e.q=i.q/\(e.l.length<=1000000/\((-9223372036854775808)<=e.q/\e.q<=9223372036854775807)/\(-9223372036854775808)<=e.least/\e.least<=9223372036854775807)/\ff (∃(g:Nat),(g:Int)=0/\iE (i.add g)=iE i.out/\∃(h:Nat->Prop),∃(j:Nat->Nat),h g/\∀(k:Nat),h k->dp (decide ((k:Int)<((iE (j0 e)).length:Int))) ((0<=(k:Int)/\(k:Int)<((iE (j0 e)).length:Int))/\∃(l:Int),zD (iE (j0 e)) (k:Int).toNat 0 1=ay [dI l]/\(0<=(k:Int)/\(k:Int)<((iE (ae (λ(l:Nat) ↦ (l:Int)) (i.idx d))).length:Int))/\∃(m:Int),zD (iE (ae (λ(l:Nat) ↦ (l:Int)) (i.idx d))) (k:Int).toNat 0 1=ay [dI m]/\(0<=m/\m<((iE (i.add k)).length:Int))/\∃(n:Int),zD (iE (i.add k)) m.toNat 0 1=ay [dI n]/\(0<=m/\m<((iE (i.add k)).length:Int))/\m.toNat<(iE (i.add k)).length/\∃(p:Nat),(p:Int)=ab.wrap ((k:Int)+1)/\iE (i.add p)=zK (iE (i.add k)) m.toNat 0 [dI (ab.wrap (n+l))]/\h p/\j p<j k/\dl (au 2 1 (iE (j0 e)))/\dl (av 1 (iE (i.left d)))/\dl (au 3 1 (iE (ae (λ(l:Nat) ↦ (l:Int)) (i.idx d))))) (dx (iE (rP i)=iE (i.add k)/\True))))
def y2i (o:zJ):Prop:=
 dx (dl o.top/\True)
def yDd (l:List zJ):Prop:=
 ∃(a:Nat),(a:Int)=0/\∃(b:Nat->Prop),∃(c:Nat->Nat),b a/\∀(d:Nat),b d->dp (decide ((d:Int)<((ae wV l).length:Int))) ((0<=(d:Int)/\(d:Int)<((ae wV l).length:Int))/\∃(e:Int),∃(f:Int),∃(g:Int),∃(h:Int),∃(j:Bool),zD (ae wV l) (d:Int).toNat 0 5=ay [dI e,dI f,dI g,dI h,D.v (.bool j)]/\∃(k:zJ),k.id=e/\k.side=f/\k.dm=g/\k.dr=h/\k.top=j/\True/\ff (dp k.top (dx (jc l=(d:Int)/\True)) (wG d b c))) (dx (jc l=(-1)/\True))
def yZl:TN.ok Tryz.prog 273:=gx (V:=y2i) mixed fk 0 i6 i6 [] Tryz.func273 λ(o:zJ) _=>by
 unfold y2i dx;exact⟨(),rfl,trivial⟩
def yCg (i:vo):(j0 i).length=i.l.length\/j0 i=[]:=by
 rw[j0];split
 ·left;rw[vo.p1,zGv,List.length_zip,yAz];simp
 ·exact .inr rfl
def y7x {l:List zJ} {k:Nat} {o:zJ} (h:l[k]? =ay o):zD (l.map wV) k 0 5=ay [D.v (.int .i64 o.id),.v (.int .i64 o.side),.v (.int .i64 o.dm),.v (.int .i64 o.dr),.v (.bool o.top)]:=jz h (by simp[wV]) rfl
def yVy (l:List zJ) (h:D4.dp l):yDd l:=by
 have h:l.length<=1000000:=h;unfold yDd ff dx wG kL QO dI;simp only[ia];refine⟨0,rfl,λj=>j<=l.length/\∀k<j,∀x,l[k]? =ay x->x.top=aq,λj=>l.length-j,⟨oM,λk hk=>by omega⟩,?_⟩;rintro j ⟨h3,h4⟩;refine zG (λhj=> ?_) (λhj=> ?_)
 ·obtain⟨s,hs⟩:=zZ (l:=l) (i:=j) oM;refine⟨⟨oM,oM⟩,s.id,s.side,s.dm,s.dr,s.top,y7x hs,s,nf ⟨rfl,trivial,λ_ _=>Cv.dp.mk (λe=> ?_) (λe=> ?_)⟩⟩
  ·rw[jc,ZP hs e h4];exact kp
  ·refine⟨j+1,by rw[iw (by omega)];rfl,⟨oM,λk hk x hx=> ?_⟩,by(first|omega|(dsimp only;omega)),gn⟩;rcases uz k j with pk|pk
   ·exact h4 k pk x hx
   ·obtain rfl:k=j:=by omega
    rw[hs]at hx;cases hx;exact e
 ·rw[jc,zMk λk x hx=>h4 k (by have:=(jm.1 hx).1;omega) x hx];exact kp
def yJc:D4.ok Tryz.prog 272:=gx mixed (dw yZl fk) 0 i6 (λl=>yXl l) [] Tryz.func272 yVy
def yUx (i:qf) (j:Nat):i.idx (j+1)=i.idx j++if i.out.getD j 0<i.l.getD j 0 then[j]else[]:=by
 rw[qf.idx,HB,Cf];by_cases h:i.out.getD j 0<i.l.getD j 0
 ·rw[fh h,RF (i9 h)];rfl
 ·rw[ez h,RE (i9 h)];rfl
def y6i (i:qf) {k n:Nat} (h:n∈i.idx k):n<k:=by
 have:=(ug.1 h).1;exact Cd.1 this
def yFw (i:qf) (k:Nat):(i.idx k).length<=k:=by
 have:=HE (λn=>decide (i.out.getD n 0<i.l.getD n 0)) (ao k);rw[Rv]at this;exact this
def z5f:∀(z:List (Nat×Int)) (o:List Int),(z.foldl (λo y=>o.set y.1 (ab.wrap (o.getD y.1 0+y.2))) o).length=o.length
 |[],_=>rfl
 |y::z,o=>by rw[A7,z5f z,qm]
def xCo (i:qf) (h:KI.dp i):y2g i:=by
 obtain⟨hl,ho,hq,hle,hb⟩:i.ok:=h;unfold y2g ff dx dI;simp only[y9,ia];have hil:∀j,(i.left j).length=(i.idx j).length:=λj=>ia _
 refine⟨0,i7,i7,i7,λj=>j<=i.l.length,λj=>i.l.length-j,mn _,λj hj=>zG (λc=> ?_) (λc=> ?_)⟩
 ·have ox:j<i.l.length:=by omega
  obtain⟨n,hn⟩:=zZ (l:=i.l) (i:=j) ox;obtain⟨o,HS⟩:=zZ (l:=i.out) (i:=j) oM;have bj:=hb j;rw[zX hn,zX HS]at bj;have is:=yUx i j;rw[zX hn,zX HS]at is;have il:=yFw i j;refine⟨⟨oM,oM⟩,n,rp hn,⟨oM,oM⟩,o,rp HS,zG (λa=> ?_) (λa=> ?_)⟩
  ·rw[fh (by omega)]at is;refine⟨⟨oM,oM⟩,n,rp hn,⟨oM,oM⟩,o,rp HS,by rw[hil];omega,oM,j+1,qu oM,?_,?_,ox,Z9,gn⟩
   ·rw[iw (by omega),qf.left,is,jk];simp[iE,qf.left,hn,HS]
   ·rw[is];simp[iE]
  ·rw[ez (by omega),oJ]at is;exact⟨j+1,qu oM,by rw[qf.left,is];rfl,by rw[is],ox,Z9,gn⟩
 have FW:j=i.l.length:=by omega
 subst FW;have il:=yFw i i.l.length;refine⟨⟨i.left i.l.length,i.least,i.q⟩,rfl,rfl,rfl,⟨by dsimp only;rw[hil];omega,hq,hle⟩,λ_ _=> ?_⟩;have epl:j0 ⟨i.left i.l.length,i.least,i.q⟩=i.pl:=rfl;rw[epl];have zb:i.pl.length<=(i.idx i.l.length).length:=by
  rcases yCg ⟨i.left i.l.length,i.least,i.q⟩with e|e
  ·rw[epl]at e;rw[e];dsimp only;rw[hil];exact ju _
  ·rw[epl]at e;rw[e];exact mn _
 have Cn:∀k,(i.add k).length=i.out.length:=λk=>z5f _ _
 refine⟨0,i7,i7,λk=>k<=i.pl.length,λk=>i.pl.length-k,mn _,λk hk=>zG (λc=> ?_) (λc=> ?_)⟩
 ·have pk:k<i.pl.length:=by omega
  obtain⟨x,hx⟩:=zZ (l:=i.pl) (i:=k) pk;obtain⟨n,hn⟩:=zZ (l:=i.idx i.l.length) (i:=k) oM;have Sf:=y6i i (lh hn);obtain⟨y,hy⟩:=zZ (l:=i.add k) (i:=n) (by rw[Cn];omega);have ea:i.add (k+1)=(i.add k).set n (ab.wrap (y+x)):=by
   have hz:((i.idx i.l.length).zip i.pl)[k]? =ay (n,x):=by rw[RG];exact⟨hn,hx⟩
   have ey:(i.add k).getD n 0=y:=zX hy;rw[qf.add,qq,hz,Iz];show(i.add k).set n (ab.wrap ((i.add k).getD n 0+x))=_;rw[ey]
  have hnm:((i.idx i.l.length).map λ(n:Nat)=>(n:Int))[k]? =ay (n:Int):=by rw[qt,hn];rfl
  rw[Cn];refine⟨⟨oM,oM⟩,x,rp hx,⟨oM,oM⟩,n,rp hnm,⟨oM,oM⟩,y,rp hy,⟨oM,oM⟩,oM,k+1,qu oM,?_,pk,Z9,gn⟩;rw[ea,ot,WW hy]
 ·have Cl:k=i.pl.length:=by omega
  subst Cl;exact⟨(),rfl,trivial⟩
def yIg:KI.ok Tryz.prog 293:=gx mixed (dw yUl fk) 0 i6 (λi=>xCe i) [] Tryz.func293 xCo
structure vh where
 l:List Int
 top:Int
 most:Int
 least:Int
 q:Int
def vh.first (i:vh):Int:=min (min (i.l.getD i.top.toNat 0) i.most) i.q
def vh.rs (i:vh):qf:=if 0<=i.top/\i.top<i.l.length then⟨i.l,(ag i.l.length 0).set i.top.toNat i.first,i.least,i.q-i.first⟩else⟨i.l,ag i.l.length 0,i.least,i.q⟩
def Dg (i:vh):List Int:=if y6 i.l i.q=ap/\1<=i.least/\0<=i.most then rP i.rs else[]
def S3:gh:=fp vh (λi=>[iV i.l,zB i.top,zB i.most,zB i.least,zB i.q]) i6 (λi=>i.l.length<=1000000/\yP i.q/\yP i.least/\yP i.most) (λ_=> .own 0) (λi=>[.own 2 1 (iE (Dg i))])
structure Kr where
 l:List Int
 part:Int
 least:Int
 q:Int
def Kr.rs (i:Kr):qf:=⟨i.l,fD i.l (i.q*i.part / 100),i.least,i.q-i.q*i.part / 100⟩
def CC (i:Kr):List Int:=if y6 i.l i.q=ap/\0<=i.part/\i.part<=100/\1<=i.least then rP i.rs else[]
def SY:gh:=fp Kr (λi=>[iV i.l,zB i.part,zB i.least,zB i.q]) i6 (λi=>i.l.length<=1000000/\yP i.q/\yP i.least/\yP i.part) (λ_=> .own 0) (λi=>[.own 2 1 (iE (CC i))])
def Vr (a:qf):Prop:=a.l.length<=250/\a.out.length=a.l.length/\((-9223372036854775808)<=a.q/\a.q<=9223372036854775807)/\((-9223372036854775808)<=a.least/\a.least<=9223372036854775807)/\∀(b:Nat),0<=a.out.getD b 0/\a.out.getD b 0<=a.l.getD b 0/\a.l.getD b (0:Int)<=(1000000:Int)
def Zn (a:qf) (b:vh):Prop:=(Vr a)/\ff (dx (iE (Dg b)=iE (rP a)/\True))
def Za (a:vh):Prop:=∃(b:qf),iE b.l=iE a.l/\b.least=a.least/\b.q=a.q/\iE b.out=ag ((iE a.l).length:Int).toNat [dI 0]/\Zn b a
def PY (a:vh):=(ag ((iE a.l).length:Int).toNat [dI 0])
def Y9 (a:vh) (b:Int):=(zK (PY a) a.top.toNat 0 [dI (min (min b a.most) a.q)])
def xDg (i:vh):Prop:=
 ∃(a:Cs),iE a.l=iE i.l/\a.q=i.q/\(vG a)/\ff (dp (!y6 a.l a.q) (dx (iE (Dg i)=[]/\True)) (dp (decide (i.least<1)) (dx (iE (Dg i)=[]/\True)) (dp (decide (i.most<0)) (dx (iE (Dg i)=[]/\True)) ((0<=((iE i.l).length:Int)/\((iE i.l).length:Int)<=((iE i.l).length:Int)/\((iE i.l).length:Int)<=9223372036854775807/\((8:Nat):Int)*((iE i.l).length:Int)<=2 ^ (48:Nat))/\dp (decide (i.top>=0)) (dp (decide (i.top<((iE i.l).length:Int))) ((0<=i.top/\i.top<((iE i.l).length:Int))/\∃(c:Int),zD (iE i.l) i.top.toNat 0 1=ay [dI c]/\(0<=i.top/\i.top<((PY i).length:Int))/\i.top.toNat<(PY i).length/\(0<=i.top/\i.top<((Y9 i c).length:Int))/\∃(d:Int),zD (Y9 i c) i.top.toNat 0 1=ay [dI d]/\∃(e:qf),iE e.l=iE i.l/\e.least=i.least/\e.q=ab.wrap (i.q-d)/\iE e.out=zK (PY i) i.top.toNat 0 [dI (min (min c i.most) i.q)]/\Zn e i) (Za i)) (Za i)))))
def xDf (i:Kr):Prop:=
 ∃(a:Cs),iE a.l=iE i.l/\a.q=i.q/\(vG a)/\ff (dp (!y6 a.l a.q) (dx (iE (CC i)=[]/\True)) (dp (decide (i.part<0)) (dx (iE (CC i)=[]/\True)) (dp (decide (i.part>100)) (dx (iE (CC i)=[]/\True)) (dp (decide (i.least<1)) (dx (iE (CC i)=[]/\True)) (∃(c:Mr),c.a=i.q/\c.b=i.part/\c.c=100/\(0<=c.a/\c.a<=(2000000000:Int)/\(0:Int)<=c.b/\c.b<=(2000000000:Int)/\(1:Int)<=c.c/\c.c<=2000000000)/\ff (∃(e:Cs),iE e.l=iE i.l/\e.q=c.a*c.b / c.c/\(vG e)/\ff (∃(g:qf),iE g.l=iE i.l/\g.least=i.least/\g.q=ab.wrap (i.q-c.a*c.b / c.c)/\iE g.out=iE (fD e.l e.q)/\(Vr g)/\ff (dx (iE (CC i)=iE (rP g)/\True)))))))))
def yPu {l:List Int} {q r:Int} (h:y6 l q=ap) (h0:0<=r) (h1:r<=q):y6 l r=ap:=by
 obtain⟨a,b,c,d⟩:=wD h;have e:(l.all λn=>decide (1<=n) && decide (n<=1000000))=ap:=by
  rw[Ef];intro x hx;simpa using c x hx
 rw[y6,e,jo a,jo h0,jo (show r<=l.sum by omega)];rfl
def getD_none {l:List Int} {n:Nat} (h:l[n]? =none):l.getD n 0=0:=by rw[mu,h];rfl
def zHp {l:List Int} {q:Int} (h:y6 l q=ap) (n:Nat):0<=l.getD n 0/\l.getD n 0<=1000000:=by
 cases hn:l[n]? with
 |none=>rw[getD_none hn];decide
 |some x=>rw[zX hn];have:=(wD h).2.2.1 x (lh hn);omega
def yKp {l:List Int} {q:Int} (h:y6 l q=ap) (n:Nat):0<=(fD l q).getD n 0/\(fD l q).getD n 0<=l.getD n 0:=by
 rw[fD,fh h];obtain⟨a,b,c,d⟩:=wD h;cases hn:l[n]? with
 |none=>
  have:(gY l q)[n]? =none:=by rw[XI,PO];exact XI.1 hn
  rw[getD_none hn,getD_none this];decide
 |some x=>
  rw[zX hn,zX (Y0 l q n x hn)];have:=zLa l q n b (λy hy=>by have:=c y hy;omega);have:=c x (lh hn);omega
def xIz (i:Kr) (h:SY.dp i):xDf i:=by
 obtain⟨hl,hq,hle,X6⟩:i.l.length<=1000000/\yP i.q/\yP i.least/\yP i.part:=h;unfold xDf ff dx Vr vG;have no (e:¬(y6 i.l i.q=ap/\0<=i.part/\i.part<=100/\1<=i.least)):CC i=[]:=by rw[CC,ez e]
 refine⟨⟨i.l,i.q⟩,rfl,rfl,⟨hl,hq⟩,λ_ _=>Cv.dp.mk (λc=> ?_) (λc=>zG (λd=> ?_) (λd=>zG (λe=> ?_) (λe=>zG (λf=> ?_) (λf=> ?_))))⟩
 ·have c:y6 i.l i.q=aq:=i9 c
  exact⟨(),by rw[no (by rw[c];simp)];rfl,trivial⟩
 ·exact⟨(),by rw[no (by omega)];rfl,trivial⟩
 ·exact⟨(),by rw[no (by omega)];rfl,trivial⟩
 ·exact⟨(),by rw[no (by omega)];rfl,trivial⟩
 have c:y6 i.l i.q=ap:=i9 c
 obtain⟨h1,h2,h3,h4⟩:=wD c;have ue:=US c;have m0:0<=i.q*i.part:=Od h2 oM;have m1:i.q*i.part<=i.q*100:=XK oM h2;have hr:=yPu (r:=i.q*i.part / 100) c oM oM;have es:CC i=rP i.rs:=by rw[CC,fh ⟨c,by omega,by omega,by omega⟩]
 refine⟨⟨i.q,i.part,100⟩,rfl,rfl,rfl,⟨Z9,Z9,Z9,Z9,Z9,Z9⟩,λ_ _=>⟨⟨i.l,i.q*i.part / 100⟩,rfl,rfl,⟨hl,Z9,Z9⟩,λ_ _=>⟨i.rs,rfl,rfl,?_,rfl,⟨h1,?_,?_,hle,?_⟩,λ_ _=>⟨(),by rw[es],trivial⟩⟩⟩⟩
 ·rw[iw (by dsimp only;omega)];rfl
 ·show(fD i.l (i.q*i.part / 100)).length=i.l.length;rw[fD,fh hr,PO]
 ·show yP (i.q-i.q*i.part / 100);exact⟨oM,oM⟩
 ·intro n;have a:=yKp hr n;have b:=zHp c n;exact⟨a.1,a.2,b.2⟩
def y5u:SY.ok Tryz.prog 275:=gx mixed (dw VC (dw zWw (dw yGm (dw yIg fk)))) 0 i6 i6 [] Tryz.func275 xIz
def y5q (n:Nat):ag n [D.v (.int .i64 0)]=iE (ag n 0):=by simp[iE]
def z3g (n k:Nat):(ag n (0:Int)).getD k 0=0:=by
 rw[mu,RD];split<;>rfl
def yQf (n t k:Nat) (x:Int):((ag n (0:Int)).set t x).getD k 0=x/\k=t\/((ag n (0:Int)).set t x).getD k 0=0:=by
 rw[mu,Ce];split
 ·rename_i e;split
  ·exact .inl ⟨rfl,e.symm⟩
  ·exact .inr rfl
 ·right;rw[<- mu];exact z3g n k
def xJe (i:vh) (h:S3.dp i):xDg i:=by
 obtain⟨hl,hq,hle,hmo⟩:i.l.length<=1000000/\yP i.q/\yP i.least/\yP i.most:=h;unfold xDg ff dx Y9 PY Za Zn ff dx Vr vG dI;have no (e:¬(y6 i.l i.q=ap/\1<=i.least/\0<=i.most)):Dg i=[]:=by rw[Dg,ez e]
 refine⟨⟨i.l,i.q⟩,rfl,rfl,⟨hl,hq⟩,λ_ _=>Cv.dp.mk (λc=> ?_) (λc=>zG (λd=> ?_) (λd=>zG (λe=> ?_) (λe=> ?_)))⟩
 ·have c:y6 i.l i.q=aq:=i9 c
  exact⟨(),by rw[no (by rw[c];simp)];rfl,trivial⟩
 ·exact⟨(),by rw[no (by omega)];rfl,trivial⟩
 ·exact⟨(),by rw[no (by omega)];rfl,trivial⟩
 have c:y6 i.l i.q=ap:=i9 c
 obtain⟨h1,h2,h3,h4⟩:=wD c;have ue:=US c;have es:Dg i=rP i.rs:=by rw[Dg,fh ⟨c,by omega,by omega⟩]
 simp only[y9,ot,y5q];have out (hn:¬(0<=i.top/\i.top<(i.l.length:Int))):i.rs=⟨i.l,ag i.l.length 0,i.least,i.q⟩:=by rw[vh.rs,ez hn]
 have ok0:qf.ok ⟨i.l,ag i.l.length 0,i.least,i.q⟩:=⟨h1,by simp,hq,hle,λn=>by
  have:=zHp c n;dsimp only;rw[z3g];omega⟩
 refine⟨⟨oM,oM,oM,oM⟩,zG (λa=>zG (λb=> ?_) (λb=> ?_)) (λa=> ?_)⟩
 ·obtain⟨n,hn⟩:=zZ (l:=i.l) (i:=i.top.toNat) oM;have hf:i.first=min (min n i.most) i.q:=by rw[vh.first,zX hn]
  have bn:=h3 n (lh hn);have HR:(ag i.l.length (0:Int))[i.top.toNat]? =ay 0:=by rw[RD,fh (by omega)]
  have ers:i.rs=⟨i.l,(ag i.l.length 0).set i.top.toNat i.first,i.least,i.q-i.first⟩:=by rw[vh.rs,fh ⟨by omega,by omega⟩]
  refine⟨⟨oM,oM⟩,n,rp hn,?_⟩;rw[WW HR,<- hf];simp only[y9,qm,HF];refine⟨⟨oM,oM⟩,oM,⟨oM,oM⟩,i.first,rp (gR HR),?_⟩;rw[iw (x:=i.q-i.first) (by omega)];refine⟨⟨i.l,(ag i.l.length 0).set i.top.toNat i.first,i.least,i.q-i.first⟩,iM ⟨rfl,⟨h1,by simp,⟨Z9,Z9⟩,hle,λk=> ?_⟩,λ_ _=>⟨(),by rw[es,ers],trivial⟩⟩⟩;have bk:=zHp c k;dsimp only;rcases yQf i.l.length i.top.toNat k i.first with⟨g,gk⟩|g
  ·rw[g,gk,zX hn];omega
  ·rw[g];omega
 ·refine⟨⟨i.l,ag i.l.length 0,i.least,i.q⟩,iM ⟨rfl,ok0,λ_ _=>⟨(),by rw[es,out (by omega)],trivial⟩⟩⟩
 ·refine⟨⟨i.l,ag i.l.length 0,i.least,i.q⟩,iM ⟨rfl,ok0,λ_ _=>⟨(),by rw[es,out (by omega)],trivial⟩⟩⟩
def xBg:S3.ok Tryz.prog 274:=gx mixed (dw VC (dw yIg fk)) 0 i6 i6 [] Tryz.func274 xJe
structure CS where
 p:fj
 l:List zJ
 q:Int
def CS.qs (i:CS):List Int:=i.l.map (·.dr)
def jF (i:CS):List Int:=if i.p.gm=1 then fD i.qs i.q else if i.p.gm=2 then Dg ⟨i.qs,jc i.l,i.p.top,i.p.least,i.q⟩else if i.p.gm=3 then CC ⟨i.qs,i.p.part,i.p.least,i.q⟩else[]
def G7:gh:=fp CS (λi=>[nt i.p,ow 5 (i.l.map wV),zB i.q]) i6 (λi=>i.l.length<=1000/\yP i.q/\yP i.p.least/\yP i.p.top/\yP i.p.part) (λ_=> .own 0) (λi=>[.own 2 1 (iE (jF i))])
def xAa (i:CS):List gr:=[{ι:=Nat,du:=λj=>[(7,.own 0),(13,zB j)],rows:=λj=>[.own 2 1 (iE (i.qs.take j))]}]
end Sx
