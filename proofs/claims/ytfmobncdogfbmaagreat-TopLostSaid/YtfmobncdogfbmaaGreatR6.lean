/- Texts of ours. No condition. -/
import Derived.Laws.Externs
import Derived.Test.YtfmobncdogfbmaaGreatR5
set_option linter.all false
open Go.IntKind renaming i64->aa,u64->ab
open List renaming map->ac,take->ae,replicate->af,headD_cons->ag,tail_cons->aj,drop->ak,range->am
open Bool renaming true->ao,false->ap
open Sx.fq renaming cells->aq,own->ar,kr->au,iter->av
open Exists renaming intro->aw
open Option renaming some->ax
open And renaming intro->ay
open Go.Utf8 renaming decode->az
open True renaming intro->Y_
open Cv.dp renaming mk->W_
namespace Sx
set_option maxRecDepth 100000
open Go Cv Go.Proofs
open Tryz renaming prog->Z_
open Tryz hiding prog
def pY (a:Bool->Prop) (b:Bool) (c:i4) (d:Nat×Nat):Prop:=a b/\dk (av (sb c) (d.fst+(az (sb c) d.fst).snd))
def qT (a:i4) (b:Nat×Nat):=((az (sb a) b.fst).fst:Int)
def zCq (a:i4) (b:Nat×Nat) (c:Bool->Prop):Prop:=∃(d:Bool),d=!(qT a b) !=930/\pY c d a b
def aQ (a:Bool->Prop) (b:i4) (c:Nat×Nat):Prop:=∃(d:Bool),d=!false/\pY a d b c
def yGg (s:i4):Prop:=
 ∃(a:Nat×Nat),(a.snd:Int)=0/\sb s=sb s/\a.fst=0/\∃(b:Nat×Nat->Prop),∃(c:Nat×Nat->Nat),b a/\∀(d:Nat×Nat),b d->dp (d.fst.blt (sb s).size) (∃(e:Bool),∃(f:Bool->Prop),dp (decide ((qT s d)>=65)) (dp (decide ((qT s d)<=90)) (∃(g:Bool),g=!true/\pY f g s d) (dp (decide ((qT s d)>=913)) (dp (decide ((qT s d)<=937)) (zCq s d f) (aQ f s d)) (aQ f s d))) (dp (decide ((qT s d)>=913)) (dp (decide ((qT s d)<=937)) (zCq s d f) (aQ f s d)) (aQ f s d))/\∀(g:Bool),f g->dp g (dx (vC s=ap/\True)) (bR d s b c)) (dp (decide ((d.snd:Int)>=1)) (dx (vC s=decide ((d.snd:Int)<=4)/\True)) (dx (vC s=ap/\True)))
def nE (a:fj):Prop:=aq [V.d (gX a),V.own 0,V.d (dI a.tick),V.d (dI a.low),V.d (dI a.high),V.d (dI a.wide),V.d (dI a.gn),V.d (dI a.top),V.d (dI a.least),V.d (dI a.part),V.own 1] 25=aq [V.d (gX a),V.own 0,V.d (dI a.tick),V.d (dI a.low),V.d (dI a.high),V.d (dI a.wide),V.d (dI a.gn),V.d (dI a.top),V.d (dI a.least),V.d (dI a.part),V.own 1] 25/\mR a
def tW (a:Nat) (b:Nat->Prop) (c:Nat->Nat) (d:fj):Prop:=∃(e:Nat),QM e a b c (nE d)
def lI (a:Bool->Prop) (b:fj) (c:Nat) (d:Nat->Prop) (e:Nat->Nat):Prop:=∀(f:Bool),a f->dp f (dx (b.check=1/\True)) (tW c d e b)
def kH (a:Bool->Prop) (b:Bool) (c:fj):Prop:=a b/\nE c
def yU (a:Bool->Prop) (b:fj):Prop:=∃(c:Bool),c=ao/\kH a c b
def z3w (p:fj):Prop:=
 ∃(a:i4),sb a=sb p.code/\a.length<=1099511627776/\ff (dp (!vC a) (dx (p.check=12/\True)) (∃(c:Bool),∃(d:Bool->Prop),dp (decide ((xO p)<2)) (yU d p) (∃(e:Bool),e=decide ((xO p)>6)/\kH d e p)/\∀(e:Bool),d e->dp e (dx (p.check=1/\True)) (∃(f:Nat),(f:Int)=0/\∃(g:Nat->Prop),∃(h:Nat->Nat),g f/\∀(j:Nat),g j->dp (decide ((j:Int)<(xO p))) (∃(k:Bool),∃(l:Bool->Prop),((0<=(j:Int)/\(j:Int)<(xO p))/\∃(m:Int),zC (iE p.dt) (j:Int).toNat 0 1=ax [dI m]/\dp (decide (m<0)) (yU l p) ((0<=(j:Int)/\(j:Int)<(xO p))/\∃(n:Int),zC (iE p.dt) (j:Int).toNat 0 1=ax [dI n]/\dp (decide (n>1199)) (yU l p) (dp (decide ((j:Int)>0)) ((0<=aa.wrap ((j:Int)-1)/\aa.wrap ((j:Int)-1)<(xO p))/\∃(q:Int),zC (iE p.dt) (aa.wrap ((j:Int)-1)).toNat 0 1=ax [dI q]/\(0<=(j:Int)/\(j:Int)<(xO p))/\∃(r:Int),zC (iE p.dt) (j:Int).toNat 0 1=ax [dI r]/\∃(s:Bool),s=decide (q>=r)/\kH l s p) (∃(q:Bool),q=ap/\kH l q p))))/\lI l p j g h) (∃(k:Bool),∃(l:Bool->Prop),dp (decide (p.tick<1)) (yU l p) (dp (decide (p.tick>1000)) (yU l p) (I4 p (dp (p.low.tmod p.tick !=0) (yU l p) (I4 p (dp (p.high.tmod p.tick !=0) (yU l p) (I4 p (∃(m:Bool),m=(p.wide.tmod p.tick !=0)/\kH l m p)))))))/\∀(m:Bool),l m->dp m (dx (p.check=22/\True)) (∃(n:Nat),(n:Int)=0/\∃(q:Nat->Prop),∃(r:Nat->Nat),q n/\∀(s:Nat),q s->dp (decide ((s:Int)<(vX p))) ((0<=(s:Int)/\(s:Int)<(vX p))/\∃(t:Int),zC (iE p.settle) (s:Int).toNat 0 1=ax [dI t]/\I4 p (dp (t.tmod p.tick !=0) (dx (p.check=22/\True)) (tW s q r p))) (∃(t:Bool),∃(u:Bool->Prop),dp (decide (p.low<(-1000000))) (yU u p) (dp (decide (p.low>=p.high)) (yU u p) (dp (decide (p.high>1000000)) (yU u p) (dp (decide (p.wide<0)) (yU u p) (∃(v:Bool),v=decide (p.wide>aa.wrap (p.high-p.low))/\kH u v p))))/\∀(v:Bool),u v->dp v (dx (p.check=23/\True)) (dp ((vX p) !=(xO p)) (dx (p.check=1/\True)) (∃(w:Nat),(w:Int)=0/\∃(x:Nat->Prop),∃(y:Nat->Nat),x w/\∀(z:Nat),x z->dp (decide ((z:Int)<(vX p))) (∃(lk:Bool),∃(my:Bool->Prop),((0<=(z:Int)/\(z:Int)<(vX p))/\∃(iH:Int),zC (iE p.settle) (z:Int).toNat 0 1=ax [dI iH]/\dp (decide (iH<p.low)) (yU my p) ((0<=(z:Int)/\(z:Int)<(vX p))/\∃(oR:Int),zC (iE p.settle) (z:Int).toNat 0 1=ax [dI oR]/\∃(jl:Bool),jl=decide (oR>p.high)/\kH my jl p))/\lI my p z x y) (∃(lk:Bool),∃(my:Bool->Prop),dp (decide (p.gn<1)) (yU my p) (∃(iH:Bool),iH=decide (p.gn>3)/\kH my iH p)/\∀(iH:Bool),my iH->dp iH (dx (p.check=31/\True)) (∃(oR:Bool),∃(jl:Bool->Prop),dp (decide (p.top<0)) (yU jl p) (dp (decide (p.top>1000000)) (yU jl p) (dp (decide (p.least<1)) (yU jl p) (dp (decide (p.least>1000)) (yU jl p) (dp (decide (p.part<0)) (yU jl p) (∃(sy:Bool),sy=decide (p.part>100)/\kH jl sy p)))))/\∀(sy:Bool),jl sy->dp sy (dx (p.check=24/\True)) (dx (p.check=0/\True))))))))))))
def z7h (p:fj):Prop:=
 ∃(a:fj),pZ a p
def f9 (a:aK) (b:Nat×Nat):=((yP a.p.dt.length b.fst+b.snd):Int)
def yGo (i:aK):Prop:=
 ∃(a:fj),Qb a i.p ((zV a)/\ff (dp (a.check !=0) (f7 i) (dp (decide (i.n<0)) (f7 i) (dp (decide (i.n<(uJ i))) (Wv i) (∃(c:Nat),(gI i c)=(uJ i)/\(c:Int)=0/\∃(d:Nat->Prop),∃(e:Nat->Nat),d c/\∀(f:Nat),d f->dp (decide ((f:Int)<(uJ i))) (∃(g:Nat×Nat),(f9 i g)=(gI i f)/\(g.fst:Int)=(f:Int)/\((g.fst+1+g.snd):Int)=aa.wrap ((f:Int)+1)/\∃(h:Nat×Nat->Prop),∃(j:Nat×Nat->Nat),h g/\∀(k:Nat×Nat),h k->dp (decide (((k.fst+1+k.snd):Int)<(uJ i))) (dp ((f9 i k)==i.n) (dx ((i.p.gp i.n).fst=(k.fst:Int)/\(i.p.gp i.n).snd.fst=((k.fst+1+k.snd):Int)/\(i.p.gp i.n).snd.snd=ao/\True)) (∃(l:Nat×Nat),(f9 i l)=aa.wrap ((f9 i k)+1)/\(l.fst:Int)=(k.fst:Int)/\((l.fst+1+l.snd):Int)=aa.wrap (((k.fst+1+k.snd):Int)+1)/\h l/\j l<j k/\rG i)) (∃(l:Nat),(gI i l)=(f9 i k)/\(l:Int)=aa.wrap ((k.fst:Int)+1)/\WH d l e f i)) (f7 i))))))
def xB (a:qy):Prop:=((-9223372036854775808)<=a.n/\a.n<=9223372036854775807)/\(-1000000)<=a.lo/\a.lo<=a.hi/\a.hi<=1000000
def qP (a:qy):=(1+zG a.n a.lo a.hi)
def y7:=(Value.slice none 0 0)
def qL:=(D.v y7)
def jN:=(D.v (Value.string (ByteArray.mk #[])))
def zMk (a:fj):Prop:=aq (Sx.V.agg [V.d jN,V.d qL,V.d (dI 0),V.d (dI 0),V.d (dI 0),V.d (dI 0),V.d (dI 0),V.d (dI 0),V.d (dI 0),V.d (dI 0),V.d qL]).cl 25=aq (Sx.V.agg [V.d jN,V.d qL,V.d (dI 0),V.d (dI 0),V.d (dI 0),V.d (dI 0),V.d (dI 0),V.d (dI 0),V.d (dI 0),V.d (dI 0),V.d qL]).cl 25/\nE a
def zNe (a:fj) (b:qy) (c:qy) (d:qy) (e:qy) (f:Unit->Prop):Prop:=∃(g:qy),g.n=a.part/\g.lo=0/\g.hi=100/\(xB g)/\ff (∃(j:Unit),sb [(206:UInt8),(169:UInt8)]=ByteArray.mk #[(206:UInt8),(169:UInt8)]/\True/\zW a=aa.wrap (qP b)/\(-20)*zW a=aa.wrap ((-20)*aa.wrap (qP b))/\100*zW a=aa.wrap (100*aa.wrap (qP b))/\dk ((0:Int))/\1+zG a.gn 0 2=aa.wrap (qP c)/\zG a.top 0 9=zG d.n d.lo d.hi/\1+zG a.least 0 4=aa.wrap (qP e)/\zG a.part 0 100=zG g.n g.lo g.hi/\True/\f j/\zMk a)
def zLq (a:fj) (b:qy) (c:qy) (d:qy) (e:qy) (f:Unit->Prop):Prop:=a.part=a.part/\zNe a b c d e f
def zMj (a:fj) (b:qy) (c:qy) (d:qy) (e:Unit->Prop):Prop:=a.part=a.part/\dk a.least/\∃(f:qy),f.n=a.least/\f.lo=0/\f.hi=4/\(xB f)/\ff (zLq a b c d f e)
def zLc (a:fj) (b:qy) (c:qy) (d:Unit->Prop):Prop:=a.part=a.part/\dk a.least/\dk a.top/\∃(e:qy),e.n=a.top/\e.lo=0/\e.hi=9/\(xB e)/\ff (zMj a b c e d)
def wW (a:fj):=(5+zG a.wide 0 60)
def u7 (a:fj):=(jB (zW a) (kN a).toNat)
@[reducible] def QC (a:fj)(R:Prop):Prop:=zW a=zW a/\(-20)*zW a=(-20)*zW a/\100*zW a=100*zW a/\zW a*(wW a)=zW a*(wW a)/\1+zG a.gn 0 (2:Int)=(1:Int)+zG a.gn 0 2/\zG a.top 0 9=zG a.top 0 (9:Int)/\(1:Int)+zG a.least 0 (4:Int)=(1:Int)+zG a.least 0 4/\zG a.part 0 100=zG a.part 0 100/\R
def yQz (x:fj):Prop:=
 ∃(a:qy),a.n=(xO x)/\a.lo=0/\a.hi=3/\(xB a)/\ff (∃(c:qy),c.n=x.tick/\c.lo=0/\c.hi=9/\(xB c)/\ff (dx (∃(f:Unit->Prop),((∃(g:qy),g.n=x.gn/\g.lo=0/\g.hi=2/\(xB g)/\ff (dk x.part/\dk x.least/\dk x.top/\(∃(j:qy),j.n=x.top/\j.lo=0/\j.hi=9/\(xB j)/\ff (dk x.part/\dk x.least/\(∃(l:qy),l.n=x.least/\l.lo=0/\l.hi=4/\(xB l)/\ff (dk x.part/\(zNe x c g j l f)/\zLq x c g j l f))/\zMj x c g j f))/\zLc x c g f))/\dk x.part/\dk x.least/\dk x.top/\dk x.gn/\∃(g:qy),g.n=x.gn/\g.lo=0/\g.hi=2/\(xB g)/\ff (zLc x c g f))/\∀(g:Unit),f g->∃(h:qy),h.n=x.wide/\h.lo=0/\h.hi=60/\(xB h)/\ff (∃(k:Nat),(k:Int)=0/\dk (sb [(206:UInt8),(169:UInt8)])/\zW x=zW x/\dk ((-20)*zW x)/\dk (100*zW x)/\zW x*(wW x)=aa.wrap (aa.wrap (qP c)*aa.wrap (5+zG h.n h.lo h.hi))/\1+zG x.gn 0 (2:Int)=(1:Int)+zG x.gn 0 2/\zG x.top 0 9=zG x.top 0 (9:Int)/\(1:Int)+zG x.least 0 (4:Int)=(1:Int)+zG x.least 0 4/\dk (zG x.part 0 100)/\iE (qU k)=[]/\iE (jB (zW x) k)=[]/\∃(l:Nat->Prop),∃(m:Nat->Nat),l k/\∀(n:Nat),l n->dp (decide ((n:Int)<aa.wrap (2+zG a.n a.lo a.hi))) (((iE (qU n)).length+1)*(8:Nat)<=(140737488355328:Nat)/\((iE (jB (zW x) n)).length+1)*(8:Nat)<=(140737488355328:Nat)/\∃(p:Nat),(p:Int)=aa.wrap ((n:Int)+1)/\dk (sb [(206:UInt8),(169:UInt8)])/\QC x (iE (qU p)=iE (qU n)++[[dI (aa.wrap (aa.wrap (10*(n:Int))+3))]]/\iE (jB (zW x) p)=iE (jB (zW x) n)++[[dI (aa.wrap (aa.wrap (qP c)*aa.wrap (10+(n:Int))))]]/\l p/\m p<m n/\zMk x)) (dx (dk (sb [(206:UInt8),(169:UInt8)])/\iE (qU (kN x).toNat)=iE (qU n)/\QC x (iE (u7 x)=iE (jB (zW x) n)/\True)))))))
def y1y (s:i4) (h:DZ.dp s):yGg s:=by
 have h:s.length<=1099511627776:=h;have hr:=ZX s;unfold yGg dx aQ zCq qT pY bR;refine⟨(0,0),rfl,rfl,rfl,λx=>x.1<=s.length/\x.2+(fA s x.1).length=(jW s).length/\(jW s).all fB=((fA s x.1).all λy=>fB y.2),λx=>s.length-x.1,⟨oM,by rw[jW,ib];simp,by rw[jW,List.all_map];rfl⟩,?_⟩;rintro⟨p,n⟩ ⟨h1,h2,h3⟩;dsimp only at h1 h2 h3 ⊢;refine W_ (λhp=> ?_) (λhp=> ?_)
 ·have hp:p<s.length:=by simpa[yx]using hp
  have hw:=aT s hp;rw[wM hp,iG]at h2;rw[wM hp,List.all_cons]at h3;generalize hc:(az (sb s) p).1=c at h2 h3 ⊢;generalize Yb:(az (sb s) p).2=w at h2 h3 hw ⊢;dsimp only at h3;have g0:∀b:Bool,(b=ao->fB c=ao)->(b=ap->fB c=ap)->b=fB c:=λb e1 e2=>by cases b<;>simp_all
  refine⟨ao,λb=>b= !fB c,?_,λb hb=> ?_⟩
  ·refine zH (λc1=>zH (λc2=>⟨_,rfl,?_,gj⟩) (λc2=>zH (λc3=>zH (λc4=>⟨_,rfl,?_,gj⟩) (λc4=>⟨_,rfl,?_,gj⟩)) (λc3=>⟨_,rfl,?_,gj⟩))) (λc1=>zH (λc3=>zH (λc4=>⟨_,rfl,?_,gj⟩) (λc4=>⟨_,rfl,?_,gj⟩)) (λc3=>⟨_,rfl,?_,gj⟩))
   all_goals congr 1
   all_goals refine g0 _ (λe=> ?_) (λe=> ?_)
   all_goals first|(simp[fB]at*;done)|(simp[fB]at*;omega)
  ·subst hb;refine W_ (λe=>⟨(),?_,Y_⟩) (λe=>⟨(p+w,n+1),?_,rfl,rfl,⟨hw.2,by(first|omega|(dsimp only;omega)),?_⟩,by(first|omega|(dsimp only;omega)),Y_⟩)
   ·have e:fB c=ap:=i9 e
    rw[vC,h3,e];rfl
   ·rw[iw X_];rfl
   ·have e:fB c=ao:=i9 e
    rw[h3,e];rfl
 ·have hp:s.length<=p:=by have:=Xz hp;simpa using this
  rw[uY hp]at h2 h3;have h3:(jW s).all fB=ao:=h3;have hn:n=(jW s).length:=i9 h2
  have jy:(s=[])↔(jW s).length=0:=by
   constructor
   ·intro e;subst e;rfl
   ·intro e;cases s with
    |nil=>rfl
    |cons b l=>
     rw[jW,ib,wM (by simp)]at e;simp at e
  refine zH (λc=>⟨(),?_,Y_⟩) (λc=>⟨(),?_,Y_⟩)
  ·have:¬s=[]:=by rw[jy];omega
   rw[vC,h3,jt this,hn];simp only[AA];congr 1;simp only[eq_iff_iff];omega
  ·have:s=[]:=by rw[jy];omega
   rw[vC,this];rfl
def yMm:DZ.ok Z_ 227:=gy mixed fk 0 (λ_=>y0a) (λs=>yZd s) [] func227 y1y
def zAl:∀(l:List Int) (a:Int),l.foldl min a<=a/\∀x∈l,l.foldl min a<=x
 |[],a=>⟨yy _,by simp⟩
 |b::l,a=>by
  obtain⟨h1,h2⟩:=zAl l (min a b);rw[Be];refine⟨oM,λx hx=> ?_⟩;rcases j'.1 hx with rfl|hx
  ·omega
  ·exact h2 x hx
def tU:∀(l:List Int) (a:Int),a<=l.foldl max a/\∀x∈l,x<=l.foldl max a
 |[],a=>⟨yy _,by simp⟩
 |b::l,a=>by
  obtain⟨h1,h2⟩:=tU l (max a b);rw[Be];refine⟨oM,λx hx=> ?_⟩;rcases j'.1 hx with rfl|hx
  ·omega
  ·exact h2 x hx
def zFe:∀(l:List Int) (a:Int),l.foldl min a=a\/l.foldl min a∈l
 |[],a=> .inl rfl
 |b::l,a=>by
  rw[Be];rcases zFe l (min a b)with h|h
  ·rcases Int.le_total a b with e|e
   ·left;rw[h];omega
   ·right;rw[h,show min a b=b by omega];exact iY
  ·exact .inr (jj _ h)
def zFi:∀(l:List Int) (a:Int),l.foldl max a=a\/l.foldl max a∈l
 |[],a=> .inl rfl
 |b::l,a=>by
  rw[Be];rcases zFi l (max a b)with h|h
  ·rcases Int.le_total a b with e|e
   ·right;rw[h,show max a b=b by omega];exact iY
   ·left;rw[h];omega
  ·exact .inr (jj _ h)
def yGk {l:List Int} {x:Int} (h:x∈l):eI l<=x:=by
 cases l with
 |nil=>cases h
 |cons a l=>
  rw[eI,aj,ag];rcases j'.1 h with rfl|h
  ·exact(zAl l x).1
  ·exact(zAl l a).2 x h
def yIy {l:List Int} {x:Int} (h:x∈l):x<=Bc l:=by
 cases l with
 |nil=>cases h
 |cons a l=>
  rw[Bc,aj,ag];rcases j'.1 h with rfl|h
  ·exact(tU l x).1
  ·exact(tU l a).2 x h
def z4v {l:List Int} (h:l≠[]):eI l∈l:=by
 cases l with
 |nil=>exact absurd rfl h
 |cons a l=>
  rw[eI,aj,ag];rcases zFe l a with h|h
  ·rw[h];exact iY
  ·exact jj _ h
def z3v {l:List Int} (h:l≠[]):Bc l∈l:=by
 cases l with
 |nil=>exact absurd rfl h
 |cons a l=>
  rw[Bc,aj,ag];rcases zFi l a with h|h
  ·rw[h];exact iY
  ·exact jj _ h
def yUs (p:fj) (h:B9.dp p):z3w p:=by
 obtain⟨h1,h2,h3⟩:p.small:=h;unfold z3w I4 ff dx yU kH lI dx tW QM nE gX mR xO vX dI;simp only[y9];refine⟨p.code,rfl,h1,λ_ _=>W_ (λc1=>⟨(),by rw[fj.check,fh c1],Y_⟩) λc1=> ?_⟩;have c1:vC p.code=ao:=i9 c1
 have e1:p.check=if !xQ p.dt then 1 else if !kE p then 22 else if kD p then 23 else if xV p then 1 else if jA p then 31 else if qO p then 24 else 0:=by
  rw[fj.check,eg (by simp[c1])]
 refine⟨ao,λb=>b=(decide (p.dt.length<2)||decide (p.dt.length>6)),zH (λc=>⟨ao,rfl,?_,gj⟩) (λc=>⟨_,rfl,?_,gj⟩),λb hb=> ?_⟩
 ·rw[jt (show p.dt.length<2 by omega)];rfl
 ·rw[ju (show ¬p.dt.length<2 by omega),L8];congr 1;simp only[eq_iff_iff];omega
 subst hb;refine W_ (λc2=> ?_) (λc2=> ?_)
 ·have:xQ p.dt=ap:=by
   simp only[Ma,ua]at c2;rw[xQ];rcases c2 with c2|c2
   ·rw[ju (show ¬2<=p.dt.length by omega)];simp
   ·rw[ju (show ¬p.dt.length<=6 by omega)];simp
  exact⟨(),by rw[e1,fh (by rw[this];rfl)],Y_⟩
 have c2:2<=p.dt.length/\p.dt.length<=6:=by
  simp only[HJ,decide_eq_false_iff_not]at c2;omega
 have em:xQ p.dt=(am p.dt.length).all (kU p.dt):=by
  rw[xQ,jt c2.1,jt c2.2];simp
 refine⟨0,rfl,λj=>j<=p.dt.length/\∀k<j,kU p.dt k=ao,λj=>p.dt.length-j,⟨oM,λk hk=>X_⟩,?_⟩;rintro j ⟨g1,g2⟩;refine zH (λhj=> ?_) (λhj=> ?_)
 ·obtain⟨m,hm⟩:=zZ (l:=p.dt) (i:=j) oM;have Yn:p.dt.getD j 0=m:=zX hm;refine⟨ao,λb=>b= !kU p.dt j,⟨⟨oM,oM⟩,m,rq hm,zH (λc=>⟨ao,rfl,?_,gj⟩) (λc=>⟨⟨oM,oM⟩,m,rq hm,zH (λd=>⟨ao,rfl,?_,gj⟩) (λd=>zH (λe=> ?_) (λe=>⟨ap,rfl,?_,gj⟩))⟩)⟩,λb hb=> ?_⟩
  ·rw[kU,Yn,ju (show ¬0<=m by omega)];rfl
  ·rw[kU,Yn,ju (show ¬m<=1199 by omega)];simp
  ·obtain⟨m',AG⟩:=zZ (l:=p.dt) (i:=j-1) oM;rw[iw X_,show((j:Int)-1).toNat=j-1 by omega];refine⟨⟨oM,oM⟩,m',rq AG,⟨oM,oM⟩,m,rq hm,_,rfl,?_,gj⟩;rw[kU,Yn,zX AG,jt (show 0<=m by omega),jt (show m<=1199 by omega),ju (show ¬j=0 by omega)];simp only[AA,L8];by_cases gr:m'<m
   ·rw[jt gr,ju X_];rfl
   ·rw[ju gr,jt X_];rfl
  ·rw[kU,Yn,jt (show 0<=m by omega),jt (show m<=1199 by omega),jt (show j=0 by omega)];rfl
  ·subst hb;refine W_ (λc=>⟨(),?_,Y_⟩) (λc=>⟨j+1,by rw[iw X_];rfl,⟨oM,λk hk=> ?_⟩,by(first|omega|(dsimp only;omega)),gj⟩)
   ·have c:kU p.dt j=ap:=i9 c
    rw[e1,fh (by rw[em,zWo (k:=j) X_ c];rfl)]
   ·have c:kU p.dt j=ao:=i9 c
    rcases vh k j with h|h
    ·exact g2 k h
    ·obtain rfl:k=j:=X_
     exact c
 have em:xQ p.dt=ao:=by rw[em];exact z7x λk hk=>g2 k oM
 have e2:p.check=if !kE p then 22 else if kD p then 23 else if xV p then 1 else if jA p then 31 else if qO p then 24 else 0:=by
  rw[e1,eg (by simp[em])]
 have et:kE p=((decide (1<=p.tick) && decide (p.tick<=1000) && !kM p.tick p.low && !kM p.tick p.high && !kM p.tick p.wide) && !p.settle.any (kM p.tick)):=rfl;refine⟨ao,λb=>b= !(decide (1<=p.tick) && decide (p.tick<=1000) && !kM p.tick p.low && !kM p.tick p.high && !kM p.tick p.wide),zH (λd1=>⟨ao,rfl,?_,gj⟩) (λd1=>zH (λd2=>⟨ao,rfl,?_,gj⟩) (λd2=>⟨Y_,oM,W_ (λd3=>⟨ao,rfl,?_,gj⟩) (λd3=>⟨Y_,oM,W_ (λd4=>⟨ao,rfl,?_,gj⟩) (λd4=>⟨Y_,oM,_,rfl,?_,gj⟩)⟩)⟩)),λb hb=> ?_⟩
 ·rw[ju (show ¬1<=p.tick by omega)];rfl
 ·rw[ju (show ¬p.tick<=1000 by omega)];simp
 ·have d3:kM p.tick p.low=ao:=d3;rw[d3];simp
 ·have d4:kM p.tick p.high=ao:=d4;rw[d4];simp
 ·have d3:kM p.tick p.low=ap:=d3;have d4:kM p.tick p.high=ap:=d4;rw[d3,d4,jt (show 1<=p.tick by omega),jt (show p.tick<=1000 by omega)];show kM p.tick p.wide=_;simp
 subst hb;refine W_ (λc3=> ?_) (λc3=> ?_)
 ·have c3:(decide (1<=p.tick) && decide (p.tick<=1000) && !kM p.tick p.low && !kM p.tick p.high && !kM p.tick p.wide)=ap:=by
   rw[Dv]at c3;exact c3
  exact⟨(),by rw[e2,fh (by rw[et,c3];rfl)],Y_⟩
 have c3:(decide (1<=p.tick) && decide (p.tick<=1000) && !kM p.tick p.low && !kM p.tick p.high && !kM p.tick p.wide)=ao:=i9 c3
 have ht1:1<=p.tick:=by
  simp only[lu,ua]at c3;exact c3.1.1.1.1
 rw[c3,AA]at et;refine⟨0,rfl,λj=>j<=p.settle.length/\∀k<j,∀x,p.settle[k]? =ax x->kM p.tick x=ap,λj=>p.settle.length-j,⟨oM,λk hk=>X_⟩,?_⟩;rintro j ⟨g1,g2⟩;refine zH (λhj=> ?_) (λhj=> ?_)
 ·obtain⟨m,hm⟩:=zZ (l:=p.settle) (i:=j) oM;refine⟨⟨oM,oM⟩,m,rq hm,Y_,oM,W_ (λc=>⟨(),?_,Y_⟩) (λc=>⟨j+1,by rw[iw X_];rfl,⟨oM,λk hk x hx=> ?_⟩,by(first|omega|(dsimp only;omega)),gj⟩)⟩
  ·have c:kM p.tick m=ao:=c;have:p.settle.any (kM p.tick)=ao:=by rw[Oy];exact⟨m,kx hm,c⟩
   rw[e2,fh (by rw[et,this];rfl)]
  ·rcases vh k j with h|h
   ·exact g2 k h x hx
   ·obtain rfl:k=j:=X_
    rw[hm]at hx;cases hx;exact c
 have et:kE p=ao:=by
  rw[et];have:p.settle.any (kM p.tick)=ap:=by
   rw[Mf];intro x hx;obtain⟨k,hk⟩:=Mi hx;rw[g2 k (by have:=(jk.1 hk).1;omega) x hk];simp
  rw[this];rfl
 have e3:p.check=if kD p then 23 else if xV p then 1 else if jA p then 31 else if qO p then 24 else 0:=by
  rw[e2,eg (by simp[et])]
 refine⟨ao,λb=>b=kD p,zH (λd1=>⟨ao,rfl,?_,gj⟩) (λd1=>zH (λd2=>⟨ao,rfl,?_,gj⟩) (λd2=>zH (λd3=>⟨ao,rfl,?_,gj⟩) (λd3=>zH (λd4=>⟨ao,rfl,?_,gj⟩) (λd4=>⟨_,rfl,?_,gj⟩)))),λb hb=> ?_⟩
 ·simp[kD,d1]
 ·simp[kD,d2]
 ·simp[kD,d3]
 ·simp[kD,d4]
 ·rw[iw X_];simp[kD,d1,d2,d3,d4]
 subst hb;refine W_ (λc4=>⟨(),by rw[e3,fh c4],Y_⟩) (λc4=> ?_);have e4:p.check=if xV p then 1 else if jA p then 31 else if qO p then 24 else 0:=by
  rw[e3,eg (by simp[c4])]
 refine W_ (λd6=>⟨(),?_,Y_⟩) (λd6=> ?_)
 ·have d6:¬(p.settle.length:Int)=p.dt.length:=i9 d6
  rw[e4,fh (by simp[xV];omega)]
 have d6:p.settle.length=p.dt.length:=by
  have:(p.settle.length:Int)=p.dt.length:=i9 d6
  omega
 have jy:p.settle≠[]:=by intro e;rw[e]at d6;simp at d6;omega
 refine⟨0,rfl,λj=>j<=p.settle.length/\∀k<j,∀x,p.settle[k]? =ax x->p.low<=x/\x<=p.high,λj=>p.settle.length-j,⟨oM,λk hk=>X_⟩,?_⟩;rintro j ⟨g3,g4⟩;refine zH (λhj=> ?_) (λhj=> ?_)
 ·obtain⟨m,hm⟩:=zZ (l:=p.settle) (i:=j) oM;have Su:=kx hm;refine⟨ao,λb=>b=(decide (m<p.low)||decide (m>p.high)),⟨⟨oM,oM⟩,m,rq hm,zH (λc=>⟨ao,rfl,?_,gj⟩) (λc=>⟨⟨oM,oM⟩,m,rq hm,_,rfl,?_,gj⟩)⟩,λb hb=> ?_⟩
  ·rw[jt c];rfl
  ·rw[ju c,L8]
  ·subst hb;refine W_ (λc=>⟨(),?_,Y_⟩) (λc=>⟨j+1,by rw[iw X_];rfl,⟨oM,λk hk x hx=> ?_⟩,by(first|omega|(dsimp only;omega)),gj⟩)
   ·have l1:=yGk Su;have l2:=yIy Su;rw[e4,fh (by
     simp only[Ma,ua]at c;simp only[xV,Ma,ua];rcases c with c|c
     ·left;right;omega
     ·right;omega)]
   ·rcases vh k j with h|h
    ·exact g4 k h x hx
    ·obtain rfl:k=j:=X_
     rw[hm]at hx;cases hx;simp only[HJ,decide_eq_false_iff_not]at c;omega
 have qu:xV p=ap:=by
  have all:∀x∈p.settle,p.low<=x/\x<=p.high:=λx hx=>by
   obtain⟨k,hk⟩:=Mi hx;exact g4 k (by have:=(jk.1 hk).1;omega) x hk
  have a1:=all _ (z4v jy);have a2:=all _ (z3v jy);simp only[xV,HJ,decide_eq_false_iff_not];omega
 have e5:p.check=if jA p then 31 else if qO p then 24 else 0:=by
  rw[e4,eg (by simp[qu])]
 refine⟨ao,λb=>b=jA p,zH (λd1=>⟨ao,rfl,?_,gj⟩) (λd1=>⟨_,rfl,?_,gj⟩),λb hb=> ?_⟩
 ·simp[jA,d1]
 ·simp[jA,d1]
 subst hb;refine W_ (λc6=>⟨(),by rw[e5,fh c6],Y_⟩) (λc6=> ?_);have e6:p.check=if qO p then 24 else 0:=by rw[e5,eg (by simp[c6])]
 refine⟨ao,λb=>b=qO p,zH (λd1=>⟨ao,rfl,?_,gj⟩) (λd1=>zH (λd2=>⟨ao,rfl,?_,gj⟩) (λd2=>zH (λd3=>⟨ao,rfl,?_,gj⟩) (λd3=>zH (λd4=>⟨ao,rfl,?_,gj⟩) (λd4=>zH (λd5=>⟨ao,rfl,?_,gj⟩) (λd5=>⟨_,rfl,?_,gj⟩))))),λb hb=> ?_⟩
 ·simp[qO,d1]
 ·simp[qO,d2]
 ·simp[qO,d3]
 ·simp[qO,d4]
 ·simp[qO,d5]
 ·simp[qO,d1,d2,d3,d4,d5]
 subst hb;exact W_ (λc7=>⟨(),by rw[e6,fh c7],Y_⟩) (λc7=>⟨(),by rw[e6,eg (by simp[c7])],Y_⟩)
def zUv:B9.ok Z_ 165:=gy mixed (dw yMm fk) 0 (λ_=>yVu) (λ_=>yOc) [] func165 yUs
def sY {p:fj} (h:p.check=0):p.count=p.dt.length+p.dt.length*(p.dt.length-1) / 2:=by rw[fj.count,fh h]
def zTp {p:fj} (h:p.check≠0):p.count=0:=by rw[fj.count,eg h]
def yTo (p:fj) (h:B8.dp p):z7h p:=by
 have hs:p.small:=h;unfold z7h pZ Qb ff dx xO zV ph;simp only[y9];refine⟨p,oO (iP ⟨rfl,hs,λ_ _=>W_ (λc=>⟨(),?_,Y_⟩) (λc=>⟨Y_,Z8,(),?_,Y_⟩)⟩)⟩
 ·rw[zTp (i9 c)];rfl
 ·have c:p.check=0:=i9 c
  have m6:=(jH c).m6;have m2:=(jH c).m2;rw[sY c];generalize p.dt.length=n at*;have:n=2\/n=3\/n=4\/n=5\/n=6:=X_
  rcases this with rfl|rfl|rfl|rfl|rfl<;>decide
def yBb:B8.ok Z_ 88:=gy mixed (dw zUv fk) 0 i6 i6 [] func88 yTo
def yPq:∀n≤6,∀a<n,∀b<n-1-a,jO n (yP n a+b) n 0=((a:Int),((a+1+b:Nat):Int),ao)/\yP n a+b<n+n*(n-1) / 2/\n<=yP n a+b:=by decide
def yKm:∀n≤6,yP n n=n+n*(n-1) / 2:=by decide
def yZl {p:fj} (h:p.check=0) {a b:Nat} (ha:a<p.dt.length) (hb:b<p.dt.length-1-a):p.gp ((yP p.dt.length a+b:Nat):Int)=((a:Int),((a+1+b:Nat):Int),ao):=by
 obtain⟨h1,h2,h3⟩:=yPq _ (jH h).m6 a ha b hb;rw[fj.gp,eg (by rw[sY h];omega),eg X_,ov];exact h1
def yWp (i:aK) (h:DY.dp i):yGo i:=by
 have hs:i.p.small:=h;unfold yGo Qb ff dx f9 uJ gI Wv dx f7 dx WH rG Bp zV ph dI;simp only[y9];refine⟨i.p,oO (iP ⟨rfl,hs,λ_ _=>W_ (λc=> ?_) (λc=>zH (λc1=> ?_) (λc1=>zH (λc2=> ?_) (λc2=> ?_)))⟩)⟩
 ·rw[fj.gp,fh (by rw[zTp (i9 c)];omega)];exact kp
 ·rw[fj.gp,fh (.inl c1)];exact kp
 ·have c:i.p.check=0:=i9 c
  rw[fj.gp,eg (by rw[sY c];omega),fh c2];exact kp
 ·have c:i.p.check=0:=i9 c
  have m6:=(jH c).m6;obtain⟨k,hk⟩:∃k:Nat,i.n=k:=⟨i.n.toNat,oM⟩
  have sp:=λ(a b:Nat) ha hb=>yZl (p:=i.p) c (a:=a) (b:=b) ha hb
  have fe:=yKm _ m6;have out:i.p.count<=k->i.p.gp (k:Int)=(0,0,ap):=λe=>by rw[fj.gp,fh X_]
  rw[sY c,<- fe]at out;rw[hk]at c2 ⊢;generalize hn:i.p.dt.length=n at*;refine⟨0,rfl,rfl,λm=>m<=n/\yP n m<=k,λm=>n-m,⟨oM,by show n<=k;omega⟩,?_⟩;rintro m ⟨g1,g2⟩;have hf:=Zm m6 g1;refine zH (λc4=> ?_) (λc4=> ?_)
  ·refine⟨(m,0),rfl,rfl,by rw[iw X_];simp,λx=>x.1=m/\x.2<=n-1-m/\yP n m+x.2<=k,λx=>n-1-m-x.2,⟨rfl,by(first|omega|(dsimp only;omega)),by(first|omega|(dsimp only;omega))⟩,?_⟩;rintro⟨a,b⟩ ⟨g3,g4,g5⟩;dsimp only at g3 g4 g5 ⊢;subst g3;refine zH (λc5=>W_ (λe=> ?_) (λe=> ?_)) (λc5=> ?_)
   ·have e:((yP n a+b:Nat):Int)=(k:Int):=i9 e
    have:=sp a b oM oM;rw[e]at this;rw[this];exact kp
   ·have e:¬((yP n a+b:Nat):Int)=(k:Int):=i9 e
    refine⟨(a,b+1),?_,rfl,?_,⟨rfl,by(first|omega|(dsimp only;omega)),by(first|omega|(dsimp only;omega))⟩,by(first|omega|(dsimp only;omega)),gj⟩
    ·rw[iw X_];dsimp only;omega
    ·rw[iw X_];dsimp only;omega
   ·refine⟨a+1,?_,by rw[iw X_];rfl,⟨oM,?_⟩,by(first|omega|(dsimp only;omega)),gj⟩
    ·rw[yP];omega
    ·rw[yP];omega
  ·obtain rfl:m=n:=X_
   rw[out g2];exact kp
def yKl:DY.ok Z_ 89:=gy mixed (dw zUv fk) 0 i6 (λi=>yYs i) [] func89 yWp
def VU (x:fj):1<=zW x/\zW x<=10:=by
 have:=y3 (n:=x.tick) (lo:=0) (hi:=9) oM;rw[zW];omega
def yNk (x:fj):2<=kN x/\kN x<=5:=by
 have:=y3 (n:=(x.dt.length:Int)) (lo:=0) (hi:=3) oM;rw[kN];omega
def JN {a b m n:Int} (ha:0<=a/\a<=m) (hb:0<=b/\b<=n):0<=a*b/\a*b<=m*n:=by
 refine⟨Ov ha.1 hb.1,?_⟩;exact Int.le_trans (Int.mul_le_mul_of_nonneg_right ha.2 hb.1) (XX hb.2 oM)
def zZv (j:Nat):iE (qU (j+1))=iE (qU j)++[[D.v (.int .i64 (10*(j:Int)+3))]]:=by
 rw[qU,IF,jh,iE,jh];rfl
def z1i (t:Int) (j:Nat):iE (jB t (j+1))=iE (jB t j)++[[D.v (.int .i64 (t*(10+(j:Int))))]]:=by
 rw[jB,IF,jh,iE,jh];rfl
def zBp (j:Nat):(qU j).length=j:=by simp[qU]
def pV (t:Int) (j:Nat):(jB t j).length=j:=by simp[jB]
def y8g (x:fj) (h:Db.dp x):yQz x:=by
 obtain⟨h1,h2,h3,h4,h5,h6,h7⟩:x.raw:=h;have hw: -1000000<=(0:Int):=by decide
 have bt:=y3 (n:=x.tick) (lo:=0) (hi:=9) oM;have bw:=y3 (n:=x.wide) (lo:=0) (hi:=60) oM;have br:=y3 (n:=x.gn) (lo:=0) (hi:=2) oM;have bl:=y3 (n:=x.least) (lo:=0) (hi:=4) oM;have bn:=y3 (n:=(x.dt.length:Int)) (lo:=0) (hi:=3) oM;have kt:=VU x;have kn:=yNk x;have w1:aa.wrap (1+zG x.tick 0 9)=zW x:=iw oM;have w2:aa.wrap (-20*aa.wrap (1+zG x.tick 0 9))= -20*zW x:=by rw[w1];exact iw oM
 have w3:aa.wrap (100*aa.wrap (1+zG x.tick 0 9))=100*zW x:=by rw[w1];exact iw oM
 have w4:aa.wrap (1+zG x.gn 0 2)=1+zG x.gn 0 2:=iw oM;have w5:aa.wrap (1+zG x.least 0 4)=1+zG x.least 0 4:=iw oM;have w6:aa.wrap (2+zG x.dt.length 0 3)=kN x:=iw oM;have mb:=JN (a:=zW x) (b:=5+zG x.wide 0 60) (m:=10) (n:=65) oM oM;have w7:aa.wrap (aa.wrap (1+zG x.tick 0 9)*aa.wrap (5+zG x.wide 0 60))=zW x*(5+zG x.wide 0 60):=by
  rw[w1,iw (x:=5+zG x.wide 0 60) X_];exact iw oM
 unfold yQz QC ff dx u7 wW zLc ff zMj ff zLq zNe ff zMk jN qL y7 nE gX mR qP xB xO dI;simp only[y9];refine⟨⟨x.dt.length,0,3⟩,rfl,rfl,rfl,⟨⟨Z9,Z9⟩,Z9,Z9,Z9⟩,λ_ _=>⟨⟨x.tick,0,9⟩,rfl,rfl,rfl,⟨h1,Z9,Z9,Z9⟩,λ_ _=> ?_⟩⟩;dsimp only;refine⟨(),λ_=>True,?_,λ_ _=> ?_⟩
 ·repeat'(first|exact Y_|exact rfl|exact w1.symm|exact w2.symm|exact w3.symm|exact w4.symm|exact w5.symm|apply ay|refine⟨⟨x.gn,0,2⟩,rfl,rfl,rfl,⟨h3,Z9,Z9,Z9⟩,λ_ _=> ?_⟩|refine⟨⟨x.top,0,9⟩,rfl,rfl,rfl,⟨h4,Z9,Z9,Z9⟩,λ_ _=> ?_⟩|refine⟨⟨x.least,0,4⟩,rfl,rfl,rfl,⟨h5,Z9,Z9,Z9⟩,λ_ _=> ?_⟩|refine⟨⟨x.part,0,100⟩,rfl,rfl,rfl,⟨h6,Z9,Z9,Z9⟩,λ_ _=> ?_⟩|refine⟨(),?_⟩)
 ·refine⟨⟨x.wide,0,60⟩,rfl,rfl,rfl,⟨h2,Z9,Z9,Z9⟩,λ_ _=> ?_⟩;dsimp only;rw[w7,w6];refine⟨0,i7,i7,i7,i7,i7,i7,i7,i7,i7,i7,i7,i7,λj=>j<=(kN x).toNat,λj=>(kN x).toNat-j,oM,?_⟩;intro j hj;rw[zBp,pV];refine zH (λc=>⟨oM,oM,j+1,by rw[iw X_];rfl,i7,i7,i7,i7,i7,i7,i7,i7,i7,?_,?_,by(first|omega|(dsimp only;omega)),by(first|omega|(dsimp only;omega)),gj⟩) (λc=>⟨(),?_⟩)
  ·rw[zZv,iw (x:=10*(j:Int)) X_,iw X_]
  ·have mj:=JN (a:=zW x) (b:=10+(j:Int)) (m:=10) (n:=20) oM oM;rw[z1i,w1,iw (x:=10+(j:Int)) X_,iw X_]
  ·have e:(kN x).toNat=j:=X_
   rw[e];(repeat'(first|exact Y_|exact rfl|apply ay))
def Hn:Db.ok Z_ 11:=gy mixed (dw wu fk) 0 (λx=>y9q x) (λx=>y5x x) [] func11 y8g
structure ir where
 kind:Int
 id:Int
 inst:Int
 side:Int
 dm:Int
 dr:Int
 least:Int
 time:Int
 label:i4
 deriving DecidableEq
@[reducible] def ir.cells (c:ir):List V:=[zB c.kind,zB c.id,zB c.inst,zB c.side,zB c.dm,zB c.dr,zB c.least,zB c.time,sV c.label]
@[reducible] def Dp (c:ir):V:= .agg c.cells
def zy (c:ir):List D:=[.v (.int .i64 c.kind),.v (.int .i64 c.id),.v (.int .i64 c.inst),.v (.int .i64 c.side),.v (.int .i64 c.dm),.v (.int .i64 c.dr),.v (.int .i64 c.least),.v (.int .i64 c.time),.v (.string (sb c.label))]
def Iu:ir:=⟨0,0,0,0,0,0,0,0,[]⟩
@[reducible] def ir.raw (c:ir):Prop:=gx c.kind/\gx c.id/\gx c.inst/\gx c.side/\gx c.dm/\gx c.dr/\gx c.least/\gx c.time
structure zo where
 p:fj
 c:ir
 i:Int
def h9 (c:ir):Int:=if 4<1+zG c.kind 0 8 then 1 else 1+zG c.kind 0 8
def xC (t:zo):ir:=⟨h9 t.c,1+zG t.c.id 0 30,zG t.c.inst 0 (t.p.count-1),1+zG t.c.side 0 1,t.p.tick*zG t.c.dm 0 9,1+zG t.c.dr 0 11,0,0,[]⟩
def cB (c:ir):Int:=if c.time.tmod 5=3 then 3 else if c.time.tmod 5=2 then 2 else 1
def aB (c:ir) (q:Int):Int:=if c.least.tmod 4=1 then zG c.least 0 q else 0
def xI (t:zo):ir:=
 let h:=xC t
 if h.kind=1 then{h with id:=t.i+1,time:=cB t.c,least:=aB t.c h.dr,dm:=if(t.p.gp h.inst).2.2=ao then h.dm-4*t.p.tick else h.dm+8*t.p.tick}
 else{h with dm:=if h.kind=4 then h.dm+5*t.p.tick else h.dm,side:=0,inst:=0}
def KJ:gh:=fp zo (λt=>[nv t.p,Dp t.c,zB t.i]) i6 (λt=>t.p.check=0/\t.p.small/\t.c.raw/\0<=t.i/\t.i<=1000000) (λt=>Dp (xI t)) i6
def cj (k:Nat):Nat×gu:=(k,{ι:=ir,du:=λ_=>[(7,.nm 0 0)],o8:=λ_=>[(7,.nm 0 0)],mf:=λc=>[.cells c.cells 47],rows:=λc=>[.cells c.cells 47]})
def xDj:List (Nat×gu):=[cj 14,cj 54,cj 62,cj 70]
def VG (a:ir) (b:ir) (c:ir->Prop) (d:zo):Prop:=sb a.label=sb b.label/\c a/\dk (aq (Sx.V.agg [V.d (dI 0),V.d (dI 0),V.d (dI 0),V.d (dI 0),V.d (dI 0),V.d (dI 0),V.d (dI 0),V.d (dI 0),V.d jN]).cl 47)/\dk (aq [V.d (dI d.c.kind),V.d (dI d.c.id),V.d (dI d.c.inst),V.d (dI d.c.side),V.d (dI d.c.dm),V.d (dI d.c.dr),V.d (dI d.c.least),V.d (dI d.c.time),V.d (D.v (Value.string (sb d.c.label)))] 47)/\Bp d.p (dk (au 1 (iE d.p.dt)))
def Zc (a:ir) (b:ir) (c:ir->Prop) (d:zo):Prop:=a.time=b.time/\VG a b c d
@[reducible] def Pm (a b:ir)(R:Prop):Prop:=a.id=b.id/\a.inst=b.inst/\a.side=b.side/\a.dm=b.dm/\a.dr=b.dr/\R
def Zd (a:ir) (b:ir) (c:ir->Prop) (d:zo):Prop:=Pm a b (a.least=b.least/\Zc a b c d)
def P8 (a:ir) (b:ir->Prop) (c:zo):Prop:=∃(d:ir),d.kind=a.kind/\Zd d a b c
def zLm (a:zo) (b:qy) (c:ir):Prop:=(xI a).dr=aa.wrap (qP b)/\(xI a).least=c.least/\(xI a).time=c.time/\sb (xI a).label=sb c.label/\True
def zLg (a:zo) (b:ir):Prop:=(xI a).dr=b.dr/\(xI a).least=b.least/\(xI a).time=b.time/\sb (xI a).label=sb b.label/\True
@[reducible] def Qd (a b:ir)(R:Prop):Prop:=a.kind=b.kind/\a.id=b.id/\a.inst=b.inst/\a.side=b.side/\a.dm=b.dm/\a.dr=b.dr/\a.least=b.least/\a.time=b.time/\sb a.label=sb b.label/\R
def y3v (t:zo):Prop:=
 ∃(a:qy),a.n=t.c.kind/\a.lo=0/\a.hi=8/\(xB a)/\ff (∃(c:qy),c.n=t.c.id/\c.lo=0/\c.hi=30/\(xB c)/\ff (∃(e:ir),e.kind=aa.wrap (qP a)/\e.id=aa.wrap (qP c)/\e.inst=0/\e.side=0/\e.dm=0/\e.dr=0/\e.least=0/\e.time=0/\sb e.label=ByteArray.mk #[]/\∃(f:ir->Prop),dp (decide (e.kind>4)) (∃(g:ir),g.kind=1/\Zd g e f t) (P8 e f t)/\∀(g:ir),f g->∃(h:fj),Qb h t.p ((zV h)/\ff (∃(k:qy),k.n=t.c.inst/\k.lo=0/\k.hi=aa.wrap ((h.count:Int)-1)/\(xB k)/\ff (∃(m:qy),m.n=t.c.side/\m.lo=0/\m.hi=1/\(xB m)/\ff (∃(p:qy),p.n=t.c.dr/\p.lo=0/\p.hi=11/\(xB p)/\ff (∃(r:qy),r.n=t.c.dm/\r.lo=0/\r.hi=9/\(xB r)/\ff (dk t.p.tick/\dp (g.kind==1) (∃(u:ir),u.kind=g.kind/\u.id=aa.wrap (t.i+1)/\u.inst=zG k.n k.lo k.hi/\u.side=aa.wrap (qP m)/\u.dm=aa.wrap (t.p.tick*zG r.n r.lo r.hi)/\u.dr=aa.wrap (qP p)/\u.least=g.least/\u.time=1/\sb u.label=sb g.label/\∃(v:ir->Prop),(aa=aa/\(5:Int)≠(0:Int)/\dp (t.c.time.tmod (5:Int)==(2:Int)) (∃(w:ir),w.kind=u.kind/\Pm w u (w.least=u.least/\w.time=2/\VG w u v t)) (P8 u v t))/\∀(w:ir),v w->∃(x:ir),Qd x w (∃(y:ir->Prop),(aa=aa/\(5:Int)≠(0:Int)/\dp (t.c.time.tmod (5:Int)==(3:Int)) (∃(z:ir),z.kind=x.kind/\Pm z x (z.least=x.least/\z.time=3/\VG z x y t)) (P8 x y t))/\∀(z:ir),y z->∃(lk:ir),Qd lk z (∃(my:ir->Prop),(aa=aa/\(4:Int)≠(0:Int)/\dp (t.c.least.tmod (4:Int)==(1:Int)) (∃(iH:qy),iH.n=t.c.least/\iH.lo=0/\iH.hi=lk.dr/\(xB iH)/\ff (∃(jl:ir),jl.kind=lk.kind/\Pm jl lk (jl.least=zG iH.n iH.lo iH.hi/\Zc jl lk my t))) (P8 lk my t))/\∀(iH:ir),my iH->∃(oR:aK),Qb oR.p t.p (oR.n=iH.inst/\(j8 oR)/\ff (dp (!(oR.p.gp oR.n).snd.snd) (dx ((xI t).kind=iH.kind/\(xI t).id=iH.id/\(xI t).inst=iH.inst/\(xI t).side=iH.side/\(xI t).dm=aa.wrap (iH.dm+aa.wrap (8*t.p.tick))/\zLg t iH)) (dx ((xI t).kind=iH.kind/\(xI t).id=iH.id/\(xI t).inst=iH.inst/\(xI t).side=iH.side/\(xI t).dm=aa.wrap (iH.dm-aa.wrap (4*t.p.tick))/\zLg t iH))))))) (dp (g.kind==4) (dx ((xI t).kind=g.kind/\(xI t).id=g.id/\(xI t).inst=0/\(xI t).side=0/\(xI t).dm=aa.wrap (aa.wrap (t.p.tick*zG r.n r.lo r.hi)+aa.wrap (5*t.p.tick))/\zLm t p g)) (dx ((xI t).kind=g.kind/\(xI t).id=g.id/\(xI t).inst=0/\(xI t).side=0/\(xI t).dm=aa.wrap (t.p.tick*zG r.n r.lo r.hi)/\zLm t p g)))))))))))
def xDb (t:zo) (h:KJ.dp t):y3v t:=by
 obtain⟨hc,hs,⟨r1,r2,r3,r4,r5,r6,r7,r8⟩,i0,i1⟩:t.p.check=0/\t.p.small/\t.c.raw/\0<=t.i/\t.i<=1000000:=h;have ok:=jH hc;have t1:=ok.t1;have t2:=ok.t2;have m2:=ok.m2;have xe:=y8 t.p;have hcd:=sY hc;have bk:=y3 (n:=t.c.kind) (lo:=0) (hi:=8) oM;have bi:=y3 (n:=t.c.id) (lo:=0) (hi:=30) oM;have bs:=y3 (n:=t.c.side) (lo:=0) (hi:=1) oM;have bq:=y3 (n:=t.c.dr) (lo:=0) (hi:=11) oM;have bp:=y3 (n:=t.c.dm) (lo:=0) (hi:=9) oM;have mb:=JN (a:=t.p.tick) (b:=zG t.c.dm 0 9) (m:=1000) (n:=9) oM oM;have wp:aa.wrap (t.p.tick*zG t.c.dm 0 9)=t.p.tick*zG t.c.dm 0 9:=iw oM;unfold y3v Pm Qb Qd ff dx P8 Zd Pm Zc VG Bp jN zLg zLm qP xB zV ph j8 ph dI;refine⟨⟨t.c.kind,0,8⟩,rfl,rfl,rfl,⟨r1,Z9,Z9,Z9⟩,λ_ _=>⟨⟨t.c.id,0,30⟩,rfl,rfl,rfl,⟨r2,Z9,Z9,Z9⟩,λ_ _=> ?_⟩⟩;dsimp only;rw[iw (x:=1+zG t.c.kind 0 8) X_,iw (x:=1+zG t.c.id 0 30) X_];refine⟨⟨1+zG t.c.kind 0 8,1+zG t.c.id 0 30,0,0,0,0,0,0,[]⟩,iB ⟨rfl,λc=>c=⟨h9 t.c,1+zG t.c.id 0 30,0,0,0,0,0,0,[]⟩,zH (λe=>⟨⟨h9 t.c,1+zG t.c.id 0 30,0,0,0,0,0,0,[]⟩,?_,rfl,rfl,rfl,rfl,rfl,rfl,rfl,rfl,rfl,gj⟩) (λe=>⟨⟨h9 t.c,1+zG t.c.id 0 30,0,0,0,0,0,0,[]⟩,?_,rfl,rfl,rfl,rfl,rfl,rfl,rfl,rfl,rfl,gj⟩),λc Mv=> ?_⟩⟩
 ·dsimp only at e ⊢;rw[h9,fh X_]
 ·dsimp only at e ⊢;rw[h9,eg X_]
 subst Mv;refine⟨t.p,oO (iP ⟨rfl,hs,λ_ _=> ?_⟩)⟩;rw[iw (x:=(t.p.count:Int)-1) X_];refine⟨⟨t.c.inst,0,(t.p.count:Int)-1⟩,rfl,rfl,rfl,⟨r3,Z9,Z9,Z9⟩,λ_ _=>⟨⟨t.c.side,0,1⟩,rfl,rfl,rfl,⟨r4,Z9,Z9,Z9⟩,λ_ _=>⟨⟨t.c.dr,0,11⟩,rfl,rfl,rfl,⟨r6,Z9,Z9,Z9⟩,λ_ _=>⟨⟨t.c.dm,0,9⟩,rfl,rfl,rfl,⟨r5,Z9,Z9,Z9⟩,λ_ _=>⟨rfl,?_⟩⟩⟩⟩⟩;dsimp only;rw[wp,iw (x:=1+zG t.c.side 0 1) X_,iw (x:=1+zG t.c.dr 0 11) X_,iw (x:=t.i+1) X_];refine W_ (λk=> ?_) (λk=> ?_)
 ·have k:h9 t.c=1:=i9 k
  refine⟨{xC t with id:=t.i+1,time:=1},iB ⟨rfl,λc=>c={xC t with id:=t.i+1,time:=if t.c.time.tmod 5=2 then 2 else 1},⟨rfl,Z8,W_ (λe=>⟨{xC t with id:=t.i+1,time:=2},iB ⟨rfl,?_,gj⟩⟩) (λe=>⟨{xC t with id:=t.i+1,time:=1},iB ⟨rfl,?_,gj⟩⟩)⟩,λc Mv=> ?_⟩⟩
  ·have e:t.c.time.tmod 5=2:=i9 e
   rw[fh e]
  ·have e:¬t.c.time.tmod 5=2:=i9 e
   rw[eg e]
  subst Mv;refine⟨{xC t with id:=t.i+1,time:=if t.c.time.tmod 5=2 then 2 else 1},iB ⟨rfl,λc=>c={xC t with id:=t.i+1,time:=cB t.c},⟨rfl,Z8,W_ (λe=>⟨{xC t with id:=t.i+1,time:=3},iB ⟨rfl,?_,gj⟩⟩) (λe=>⟨{xC t with id:=t.i+1,time:=if t.c.time.tmod 5=2 then 2 else 1},iB ⟨rfl,?_,gj⟩⟩)⟩,λc Mv=> ?_⟩⟩
  ·have e:t.c.time.tmod 5=3:=i9 e
   rw[cB,fh e]
  ·have e:¬t.c.time.tmod 5=3:=i9 e
   rw[cB,eg e]
  subst Mv;have hq:(xC t).dr=1+zG t.c.dr 0 11:=rfl;refine⟨{xC t with id:=t.i+1,time:=cB t.c},iB ⟨rfl,λc=>c={xC t with id:=t.i+1,time:=cB t.c,least:=aB t.c (xC t).dr},⟨rfl,Z8,W_ (λe=>⟨⟨t.c.least,0,(xC t).dr⟩,rfl,rfl,rfl,⟨r7,Z9,Z9,Z9⟩,λ_ _=>⟨{xC t with id:=t.i+1,time:=cB t.c,least:=zG t.c.least 0 (xC t).dr},iB ⟨rfl,?_,gj⟩⟩⟩) (λe=>⟨{xC t with id:=t.i+1,time:=cB t.c},iB ⟨rfl,?_,gj⟩⟩)⟩,λc Mv=> ?_⟩⟩
  ·have e:t.c.least.tmod 4=1:=i9 e
   rw[aB,fh e]
  ·have e:¬t.c.least.tmod 4=1:=i9 e
   rw[aB,eg e];rfl
  subst Mv;refine⟨⟨t.p,(xC t).inst⟩,iB (iP ⟨rfl,hs,λ_ _=> ?_⟩)⟩;dsimp only;have hp:(xC t).dm=t.p.tick*zG t.c.dm 0 9:=rfl;have AH:(xC t).kind=1:=k;rw[iw (x:=8*t.p.tick) X_,iw (x:=4*t.p.tick) X_,iw (x:=(xC t).dm+8*t.p.tick) X_,iw (x:=(xC t).dm-4*t.p.tick) X_];refine W_ (λe=>⟨(),?_⟩) (λe=>⟨(),?_⟩)
  ·have e:(t.p.gp (xC t).inst).2.2=ap:=i9 e
   have:xI t={xC t with id:=t.i+1,time:=cB t.c,least:=aB t.c (xC t).dr,dm:=(xC t).dm+8*t.p.tick}:=by
    simp only[xI,AH,if_true,e,oS,if_false]
   rw[this];(repeat'(first|exact Y_|exact rfl|apply ay))
  ·have e:(t.p.gp (xC t).inst).2.2=ao:=i9 e
   have:xI t={xC t with id:=t.i+1,time:=cB t.c,least:=aB t.c (xC t).dr,dm:=(xC t).dm-4*t.p.tick}:=by
    simp only[xI,AH,if_true,e]
   rw[this];(repeat'(first|exact Y_|exact rfl|apply ay))
 ·have k:¬h9 t.c=1:=i9 k
  have k:¬(xC t).kind=1:=k;rw[iw (x:=5*t.p.tick) X_,iw (x:=t.p.tick*zG t.c.dm 0 9+5*t.p.tick) X_];have et:xI t={xC t with dm:=if(xC t).kind=4 then(xC t).dm+5*t.p.tick else(xC t).dm,side:=0,inst:=0}:=by
   simp only[xI,k,if_false]
  rw[et];refine W_ (λe=>⟨(),?_⟩) (λe=>⟨(),?_⟩)
  ·have e:h9 t.c=4:=i9 e
   have e:(xC t).kind=4:=e;simp only[fh e];(repeat'(first|exact Y_|exact rfl|apply ay))
  ·have e:¬h9 t.c=4:=i9 e
   have e:¬(xC t).kind=4:=e;simp only[eg e];(repeat'(first|exact Y_|exact rfl|apply ay))
def y0p:KJ.ok Z_ 41:=gy mixed (dw wu (dw yBb (dw yKl fk))) 0 (λ_=>xDj) i6 [] func41 xDb
structure MF where
 a:Int
 b:Int
 c:Int
def A0:gh:=fp MF (λi=>[A8 i.a,A8 i.b,A8 i.c]) i6 (λi=>0<=i.a/\0<=i.b/\0<=i.c/\i.c<=1) (λi=> .je [A8 ((i.a+i.b+i.c) % 18446744073709551616),A8 ((i.a+i.b+i.c) / 18446744073709551616)]) i6
def yLm {P : Program} {f : FuncId} {fn : Func} (hf : P.funcs[f]? = some fn) (B2 : (fn.name == "runtime.NumGoroutine") = false) (hb : fn.body.isNone = true) (hn : Extern.findNext fn = none) (he : Extern.find fn = some add64Entry) : A0.ok P f := by
 intro i hc k L E w ys R hv;obtain⟨h1,h2,h3,h4⟩:0<=i.a/\0<=i.b/\0<=i.c/\i.c<=1:=hc;simp only[A0,fp,ic,VR,DR]at hv;obtain⟨_,_,rfl,⟨rfl,_⟩,_,_,rfl,⟨rfl,_⟩,_,_,rfl,⟨rfl,_⟩,rfl⟩:=hv;unfold nq;rw[run_callFunc_extern hf B2 hb hn he,run_add64 i.a i.b i.c h1 h2 h3 h4];simp only[Result.andThen];refine⟨_,tq.2 rfl,(),Y_,E,Ev.le.refl _,?_,R⟩;simp only[A0,fp,VR,ic,DR];exact⟨_,rfl,_,_,rfl,⟨rfl,rfl⟩,_,_,rfl,⟨rfl,rfl⟩,rfl⟩
def yKy:A0.ok Z_ 314:=by
 refine yLm (P:=Z_) (f:=314) (fn:=Tryz.f314) func314 ?_ ?_ ?_ ?_
 ·kernel_rfl
 ·kernel_rfl
 ·kernel_rfl
 ·kernel_rfl
structure M2 where
 a:Int
 b:Int
def GL:gh:=fp M2 (λi=>[A8 i.a,A8 i.b]) i6 (λi=>0<=i.a/\i.a<=2000000000/\0<=i.b/\i.b<=2000000000) (λi=> .je [A8 0,A8 (i.a*i.b)]) i6
def G3:gh:=fp M2 (λi=>[A8 0,A8 i.a,A8 i.b]) i6 (λi=>0<=i.a/\i.a<=4000000000000000000/\1<=i.b/\i.b<=2000000000) (λi=> .je [A8 (i.a / i.b),A8 (i.a % i.b)]) i6
def D7:gh:=fp MF (λi=>[zB i.a,zB i.b,zB i.c]) i6 (λi=>0<=i.a/\i.a<=2000000000/\0<=i.b/\i.b<=2000000000/\1<=i.c/\i.c<=2000000000) (λi=> .je [zB (i.a*i.b / i.c),yM ao]) i6
def K0:gh:=fp (List Int) (λl=>[iV l]) i6 (λl=>l.length<=1000/\∀x∈l,0<=x/\x<=1000000) (λl=> .je [zB l.sum,yM ao]) i6
def xFl (l:List Int):List gu:=[{ι:=Nat,du:=λj=>[(4,A8 (l.take j).sum),(5,zB 0),(11,zB j)],rows:=λ_=>[]}]
structure Cu where
 l:List Int
 q:Int
def y5 (l:List Int) (q:Int):Bool:=decide (l.length<=250) && decide (0<=q) && l.all (λn=>decide (1<=n) && decide (n<=1000000)) && decide (q<=l.sum)
def GG:gh:=fp Cu (λi=>[iV i.l,zB i.q]) i6 (λi=>i.l.length<=1000000/\gx i.q) (λi=>yM (y5 i.l i.q)) i6
def y9o (i:Cu):List gu:=[{ι:=Nat,du:=λj=>[(5,zB (i.l.take j).sum),(17,zB j)],rows:=λ_=>[]}]
def gZ:List Int->Int->List Int
 |[],_=>[]
 |n::l,q=>min n q::gZ l (q-min n q)
def fG (l:List Int) (q:Int):List Int:=if y5 l q=ao then gZ l q else[]
def Lh:gh:=fp Cu (λi=>[iV i.l,zB i.q]) i6 (λi=>i.l.length<=1000000/\gx i.q) (λ_=> .own 0) (λi=>[.own 2 1 (iE (fG i.l i.q))])
def xGv (i:Cu):List gu:=[{ι:=Nat,du:=λj=>[(5,.own 0),(1,zB (i.q-((gZ i.l i.q).take j).sum)),(15,zB j)],rows:=λj=>[.own 2 1 (iE ((gZ i.l i.q).take j))]}]
def zFy (a:M2):=(ab.wrap (ab.wrap (aO ab a.a 32*CH ab a.b 4294967295)+aO ab (ab.wrap (CH ab a.a 4294967295*CH ab a.b 4294967295)) 32))
def ySd (i:M2):Prop:=
 (0:Int)<=(32:Int)/\(0:Int)<=(32:Int)/\(0:Int)<=(32:Int)/\(0:Int)<=(32:Int)/\(0:Int)<=(32:Int)/\dx (0=ab.wrap (ab.wrap (ab.wrap (aO ab i.a 32*aO ab i.b 32)+aO ab (zFy i) 32)+aO ab (ab.wrap (CH ab (zFy i) 4294967295+ab.wrap (CH ab i.a 4294967295*aO ab i.b 32))) 32)/\i.a*i.b=ab.wrap (i.a*i.b)/\True)
def yRq (i:M2):Prop:=
 dp (i.b==0) False (dp (decide (i.b<=0)) False (ab=ab/\i.b≠0/\ab=ab/\i.b≠0/\dx (i.a / i.b=ab.wrap (i.a.tdiv i.b)/\i.a % i.b=i.a.tmod i.b/\True)))
def yHb (i:MF):Prop:=
 dp (decide (i.a<0)) (dx (i.a*i.b / i.c=0/\ao=ap/\True)) (dp (decide (i.b<0)) (dx (i.a*i.b / i.c=0/\ao=ap/\True)) (dp (decide (i.c<1)) (dx (i.a*i.b / i.c=0/\ao=ap/\True)) (∃(a:M2),a.a=ab.wrap i.a/\a.b=ab.wrap i.b/\(0<=a.a/\a.a<=(2000000000:Int)/\(0:Int)<=a.b/\a.b<=2000000000)/\ff (dp (decide (0>=ab.wrap i.c)) (dx (i.a*i.b / i.c=0/\ao=ap/\True)) (∃(c:M2),dk ((0:Int))/\c.a=a.a*a.b/\c.b=ab.wrap i.c/\(0<=c.a/\c.a<=(4000000000000000000:Int)/\(1:Int)<=c.b/\c.b<=2000000000)/\ff (dp (decide (c.a / c.b>9223372036854775807)) (dx (i.a*i.b / i.c=0/\ao=ap/\True)) (dx (i.a*i.b / i.c=aa.wrap (c.a / c.b)/\ao=ao/\True))))))))
def y4b (l:List Int):Prop:=
 ∃(a:Nat),(ae a l).sum=(0:Int)/\(0:Int)=0/\(a:Int)=0/\∃(b:Nat->Prop),∃(c:Nat->Nat),b a/\∀(d:Nat),b d->dp (decide ((d:Int)<((iE l).length:Int))) ((0<=(d:Int)/\(d:Int)<((iE l).length:Int))/\∃(e:Int),zC (iE l) (d:Int).toNat 0 1=ax [dI e]/\∃(f:MF),f.a=(ae d l).sum/\f.b=ab.wrap e/\f.c=0/\(0<=f.a/\0<=f.b/\0<=f.c/\f.c<=1)/\ff ((0:Int)<=(63:Int)/\∃(h:Nat),(ae h l).sum=(f.a+f.b+f.c) % (18446744073709551616:Int)/\(0:Int)=aa.wrap (0+aa.wrap (aO aa e 63+aa.wrap ((f.a+f.b+f.c) / (18446744073709551616:Int))))/\kL h d b c)) ((0:Int)<=(63:Int)/\dp (0 !=aO aa (aa.wrap (ae d l).sum) 63) (dx (l.sum=0/\ao=ap/\True)) (dx (l.sum=aa.wrap (ae d l).sum/\ao=ao/\True)))
def ySl (i:Cu):Prop:=
 dp (decide (((iE i.l).length:Int)>250)) (dx (y5 i.l i.q=ap/\True)) (dp (decide (i.q<0)) (dx (y5 i.l i.q=ap/\True)) (∃(a:Nat),(ae a i.l).sum=0/\(a:Int)=0/\∃(b:Nat->Prop),∃(c:Nat->Nat),b a/\∀(d:Nat),b d->dp (decide ((d:Int)<((iE i.l).length:Int))) ((0<=(d:Int)/\(d:Int)<((iE i.l).length:Int))/\∃(e:Int),zC (iE i.l) (d:Int).toNat 0 1=ax [dI e]/\dp (decide (e<1)) (dx (y5 i.l i.q=ap/\True)) (dp (decide (e>1000000)) (dx (y5 i.l i.q=ap/\True)) (∃(f:Nat),(ae f i.l).sum=aa.wrap ((ae d i.l).sum+e)/\kL f d b c))) (dx (y5 i.l i.q=decide (i.q<=(ae d i.l).sum)/\True))))
def vE (a:Cu):Prop:=a.l.length<=(1000000:Nat)/\(-9223372036854775808:Int)<=a.q/\a.q<=9223372036854775807
def vJ (a:Nat) (b:Cu):=(ae a (gZ b.l b.q))
def y4j (i:Cu):Prop:=
 ∃(a:Cu),iE a.l=iE i.l/\a.q=i.q/\(vE a)/\ff (dp (!y5 a.l a.q) (dx (iE (fG i.l i.q)=[]/\True)) (∃(c:Nat),i.q-(vJ c i).sum=i.q/\(c:Int)=0/\iE (vJ c i)=[]/\∃(d:Nat->Prop),∃(e:Nat->Nat),d c/\∀(f:Nat),d f->dp (decide ((f:Int)<((iE i.l).length:Int))) ((0<=(f:Int)/\(f:Int)<((iE i.l).length:Int))/\∃(g:Int),zC (iE i.l) (f:Int).toNat 0 1=ax [dI g]/\((iE (vJ f i)).length+1)*(8:Nat)<=(140737488355328:Nat)/\∃(h:Nat),i.q-(vJ h i).sum=aa.wrap (i.q-(vJ f i).sum-min g (i.q-(vJ f i).sum))/\(h:Int)=aa.wrap ((f:Int)+1)/\iE (vJ h i)=iE (vJ f i)++[[dI (min g (i.q-(vJ f i).sum))]]/\d h/\e h<e f/\True) (dx (iE (fG i.l i.q)=iE (vJ f i)/\True))))
def z2u {x:Int} (h0:0<=x) (h1:x<4294967296):CH .u64 x 4294967295=x:=by
 have e:CH .u64 x 4294967295=ab.wrap ((BitVec.ofInt 64 x &&& BitVec.ofInt 64 4294967295).toNat:Int):=rfl;obtain⟨n,rfl⟩:=Int.eq_ofNat_of_zero_le h0;have hn:n<4294967296:=X_
 rw[e,BitVec.toNat_and,BitVec.ofInt_natCast,BitVec.toNat_ofNat,show(BitVec.ofInt 64 4294967295).toNat=2 ^ 32-1 by decide,Nat.and_two_pow_sub_one_eq_mod];rw[show n % 2 ^ 64 % 2 ^ 32=n by omega,Ch X_]
def Ve {x:Int} (h0:0<=x) (h1:x<4294967296):aO .u64 x 32=0:=by
 have:=PI .u64 x 32 Z8;rw[show((32:Nat):Int)=32 by rfl]at this;rw[this];omega
def yEz {a b m n:Int} (ha:0<=a/\a<=m) (hb:0<=b/\b<=n):0<=a*b/\a*b<=m*n:=
 ⟨Ov ha.1 hb.1,Int.mul_le_mul ha.2 hb.2 hb.1 oM⟩
def y7b (i:M2) (h:GL.dp i):ySd i:=by
 obtain⟨h1,h2,h3,h4⟩:0<=i.a/\i.a<=2000000000/\0<=i.b/\i.b<=2000000000:=h;have hm:=yEz ⟨h1,h2⟩ ⟨h3,h4⟩;have hs:aO ab (i.a*i.b) 32=(i.a*i.b) / 4294967296:=by
  have:=PI .u64 (i.a*i.b) 32 Z8;rw[show((32:Nat):Int)=32 by rfl]at this;exact this
 unfold ySd dx zFy;refine⟨Z8,Z8,Z8,Z8,Z8,(),?_,?_,Y_⟩
 ·rw[z2u h1 X_,z2u h3 X_,Ve h1 X_,Ve h3 X_,Ch (x:=i.a*i.b) X_,hs];simp only[Int.zero_mul,Int.mul_zero,Int.zero_add,Int.add_zero];rw[Ch (x:=0) X_];simp only[Int.zero_add,Int.add_zero];rw[Ch (x:=i.a*i.b / 4294967296) X_,Ve (x:=i.a*i.b / 4294967296) X_ X_,z2u (x:=i.a*i.b / 4294967296) X_ X_,Ch (x:=i.a*i.b / 4294967296) X_,Ve (x:=i.a*i.b / 4294967296) X_ X_];rfl
 ·rw[Ch X_]
def yPb:GL.ok Z_ 308:=gy mixed fk 0 i6 i6 [] func308 y7b
def y9j (i:M2) (h:G3.dp i):yRq i:=by
 obtain⟨h1,h2,h3,h4⟩:0<=i.a/\i.a<=4000000000000000000/\1<=i.b/\i.b<=2000000000:=h;unfold yRq dx;have hd:0<=i.a / i.b/\i.a / i.b<=i.a:=⟨Int.ediv_nonneg h1 oM,Int.ediv_le_self _ h1⟩
 refine W_ (λc=>absurd (eq_of_beq c) oM) (λ_=>zH (λc=>X_) (λ_=>⟨rfl,oM,rfl,oM,(),?_,?_,Y_⟩))
 ·rw[Int.tdiv_eq_ediv_of_nonneg h1,Ch X_]
 ·rw[Int.tmod_eq_emod_of_nonneg h1]
def yUa:G3.ok Z_ 309:=gy mixed fk 0 i6 i6 [] func309 y9j
def y1b (i:MF) (h:D7.dp i):yHb i:=by
 obtain⟨h1,h2,h3,h4,h5,h6⟩:0<=i.a/\i.a<=2000000000/\0<=i.b/\i.b<=2000000000/\1<=i.c/\i.c<=2000000000:=h;have hm:=yEz ⟨h1,h2⟩ ⟨h3,h4⟩;have hd:0<=i.a*i.b / i.c/\i.a*i.b / i.c<=i.a*i.b:=⟨Int.ediv_nonneg hm.1 oM,Int.ediv_le_self _ hm.1⟩
 unfold yHb ff dx;rw[Ch (x:=i.a) X_,Ch (x:=i.b) X_,Ch (x:=i.c) X_];refine zH (λc=>X_) (λ_=>zH (λc=>X_) (λ_=>zH (λc=>X_) (λ_=>⟨⟨i.a,i.b⟩,rfl,rfl,⟨h1,h2,h3,h4⟩,λ_ _=>zH (λc=>X_) (λ_=>⟨⟨i.a*i.b,i.c⟩,rfl,rfl,rfl,⟨hm.1,Z9,h5,h6⟩,λ_ _=>zH (λc=>by dsimp only at c;omega) (λ_=>⟨(),?_,rfl,Y_⟩)⟩)⟩)));rw[iw V_]
def zWs:D7.ok Z_ 294:=gy mixed (dw yPb (dw yUa fk)) 0 i6 i6 [] func294 y1b
def pf {j:Nat} (h:j<=1000000):((j+1:Nat):Int)=aa.wrap ((j:Int)+1):=by rw[iw X_];rfl
def wU {l:List Int} {j:Nat} {x:Int} (h:l[j]? =ax x):(l.take (j+1)).sum=(l.take j).sum+x:=by
 rw[qf,h];simp
def wG {l:List Int} (h:∀x∈l,0<=x/\x<=1000000):∀j:Nat,0<=(l.take j).sum/\(l.take j).sum<=1000000*j
 |0=>by simp
 |j+1=>by
  have ih:=wG h j;cases hx:l[j]? with
  |none=>
   have:l.take (j+1)=l.take j:=by
    rw[qf,hx];simp
   rw[this];omega
  |some x=>
   have:=h x (kx hx);rw[wU hx];omega
def xHd (l:List Int) (h:K0.dp l):y4b l:=by
 obtain⟨hl,hb⟩:l.length<=1000/\∀x∈l,0<=x/\x<=1000000:=h;unfold y4b ff dx kL QM dI;simp only[y9];refine⟨0,i7,i7,i7,λj=>j<=l.length,λj=>l.length-j,ml _,λj hj=>zH (λc=> ?_) (λc=> ?_)⟩
 ·have oz:j<l.length:=X_
  obtain⟨x,hx⟩:=zZ (l:=l) (i:=j) oz;have bx:=hb x (kx hx);have bs:=wG hb j;refine⟨⟨oM,oM⟩,x,rq hx,⟨(l.take j).sum,x,0⟩,rfl,by rw[Ch X_],rfl,⟨bs.1,bx.1,Z9,Z9⟩,λ_ _=>⟨Z8,j+1,?_,?_,pf oM,oz,Z9,Y_⟩⟩
  ·rw[wU hx];dsimp only;omega
  ·have e:aO aa x 63=x / 9223372036854775808:=by
    have:=PI .i64 x 63 Z8;rw[show((63:Nat):Int)=63 by rfl]at this;exact this
   dsimp only;rw[e,show x / 9223372036854775808=0 by omega,show((l.take j).sum+x+0) / 18446744073709551616=0 by omega];rfl
 ·have oz:j=l.length:=X_
  subst oz;have bs:=wG hb l.length;rw[zf]at bs;have e:aO aa l.sum 63=l.sum / 9223372036854775808:=by
   have:=PI .i64 l.sum 63 Z8;rw[show((63:Nat):Int)=63 by rfl]at this;exact this
  rw[zf,iw (x:=l.sum) X_,e,show l.sum / 9223372036854775808=0 by omega];exact⟨Z8,W_ (λc=>absurd c Z8) (λ_=>⟨(),i7,i7,Y_⟩)⟩
def y1p:K0.ok Z_ 312:=gy mixed (dw yKy fk) 0 i6 (λl=>xFl l) [] func312 xHd
def xBc (i:Cu) (h:GG.dp i):ySl i:=by
 obtain⟨hl,hq⟩:i.l.length<=1000000/\gx i.q:=h;unfold ySl dx kL QM dI;simp only[y9];refine zH (λc=>⟨(),?_,Y_⟩) (λc1=>zH (λc=>⟨(),?_,Y_⟩) (λc2=> ?_))
 ·rw[y5,ju (by omega:¬i.l.length<=250)];rfl
 ·rw[y5,ju (by omega:¬0<=i.q)];simp
 refine⟨0,i7,i7,λj=>j<=i.l.length/\∀k<j,∀x,i.l[k]? =ax x->1<=x/\x<=1000000,λj=>i.l.length-j,⟨ml _,λk hk=>absurd hk (Nat.not_lt_zero k)⟩,λj hj=>zH (λc=> ?_) (λc=> ?_)⟩
 ·obtain⟨hj0,Yp⟩:=hj;have oz:j<i.l.length:=X_
  obtain⟨x,hx⟩:=zZ (l:=i.l) (i:=j) oz;have bad (hn:¬(1<=x/\x<=1000000)):y5 i.l i.q=ap:=by
   have:(i.l.all λn=>decide (1<=n) && decide (n<=1000000))=ap:=by
    rw[List.all_eq_false];exact⟨x,kx hx,i9 hn⟩
   rw[y5,this];simp
  have bs:0<=(i.l.take j).sum/\(i.l.take j).sum<=1000000*j:=by
   have:=wG (l:=i.l.take j) (λy hy=>by
    obtain⟨k,hk⟩:=BB.1 hy;have Yo:k<j:=by
     have:=(jk.1 hk).1;rw[nr]at this;omega
    rw[List.getElem?_take_of_lt Yo]at hk;have:=Yp k Yo y hk;omega) j
   rwa [List.take_take,Nat.min_self]at this
  refine⟨⟨oM,oM⟩,x,rq hx,zH (λd=>⟨(),bad oM,Y_⟩) (λd=>zH (λe=>⟨(),bad oM,Y_⟩) (λe=>⟨j+1,?_,pf oM,⟨oz,λk hk y hy=> ?_⟩,Z9,Y_⟩))⟩
  ·rw[wU hx,iw X_]
  ·by_cases Yo:k=j
   ·rw[Yo,hx]at hy;cases hy;omega
   ·exact Yp k oM y hy
 ·obtain⟨hj0,Yp⟩:=hj;have oz:j=i.l.length:=X_
  subst oz;have:(i.l.all λn=>decide (1<=n) && decide (n<=1000000))=ao:=by
   rw[Ej];intro y hy;obtain⟨k,hk⟩:=BB.1 hy;have:=Yp k ((jk.1 hk).1) y hk;simpa using this
  refine⟨(),?_,Y_⟩;rw[y5,this,jt (by omega:i.l.length<=250),jt (by omega:0<=i.q),zf];rfl
def VB:GG.ok Z_ 292:=gy mixed fk 0 i6 (λi=>y9o i) [] func292 xBc
def j9 {l:List Int} {q:Int} (h:y5 l q=ao):l.length<=250/\0<=q/\(∀x∈l,1<=x/\x<=1000000)/\q<=l.sum:=by
 simp only[y5,lu,ua,Ej]at h;exact⟨h.1.1.1,h.1.1.2,h.1.2,h.2⟩
def U7 {l:List Int} {q:Int} (h:y5 l q=ao):q<=250000000:=by
 obtain⟨h1,h2,h3,h4⟩:=j9 h;have:=wG (l:=l) (λx hx=>by have:=h3 x hx;omega) l.length;rw[zf]at this;omega
def P4:∀(l:List Int) (q:Int),(gZ l q).length=l.length
 |[],_=>rfl
 |n::l,q=>by rw[gZ,iG,iG,P4 l]
def Za:∀(l:List Int) (q:Int) (j:Nat) (n:Int),l[j]? =ax n->(gZ l q)[j]? =ax (min n (q-((gZ l q).take j).sum))
 |[],_,_,_,h=>by simp at h
 |m::l,q,0,n,h=>by simp at h;subst h;simp[gZ]
 |m::l,q,j+1,n,h=>by
  rw[Bk]at h;rw[gZ,Bk,Za l _ j n h,vj,qi];congr 2;omega
def zLx:∀(l:List Int) (q:Int) (j:Nat),0<=q->(∀x∈l,0<=x)->0<=q-((gZ l q).take j).sum/\q-((gZ l q).take j).sum<=q
 |[],q,j,h,_=>by simp[gZ,h]
 |m::l,q,0,h,_=>by simp[h]
 |m::l,q,j+1,h,hb=>by
  have hm:=hb m iY;have:=zLx l (q-min m q) j oM (λx hx=>hb x (jj _ hx));rw[gZ,vj,qi];omega
def xHm (i:Cu) (h:Lh.dp i):y4j i:=by
 obtain⟨hl,hq⟩:i.l.length<=1000000/\gx i.q:=h;unfold y4j ff dx vJ vE dI;refine⟨i,rfl,rfl,⟨hl,hq⟩,λ_ _=>W_ (λc=> ?_) (λc=> ?_)⟩
 ·have c:y5 i.l i.q=ap:=i9 c
  refine⟨(),?_,Y_⟩;rw[fG,eg (by rw[c];decide)];rfl
 have c:y5 i.l i.q=ao:=i9 c
 obtain⟨h1,h2,h3,h4⟩:=j9 c;have uo:=U7 c;have h3':∀x∈i.l,0<=x:=λx hx=>by have:=h3 x hx;omega
 simp only[y9];refine⟨0,by simp,rfl,rfl,λj=>j<=i.l.length,λj=>i.l.length-j,ml _,λj hj=>zH (λd=> ?_) (λd=> ?_)⟩
 ·have oz:j<i.l.length:=X_
  obtain⟨x,hx⟩:=zZ (l:=i.l) (i:=j) oz;have bx:=h3 x (kx hx);have g:=Za i.l i.q j x hx;have r:=zLx i.l i.q j h2 h3';refine⟨⟨oM,oM⟩,x,rq hx,by rw[nr];omega,j+1,?_,pf oM,?_,oz,Z9,Y_⟩
  ·rw[wU g,iw X_];omega
  ·rw[qf,g];simp[iE]
 ·have oz:j=i.l.length:=X_
  subst oz;refine⟨(),?_,Y_⟩;rw[fG,fh c,ng (by rw[P4];omega)]
def yJh:Lh.ok Z_ 271:=gy mixed (dw VB fk) 0 i6 (λi=>xGv i) [] func271 xHm
structure Ex where
 slot:Int
 id:Int
 dr:Int
 top:Bool
 deriving DecidableEq
def xDf:Ex:=⟨0,0,0,ap⟩
def EU (e:Ex):List D:=[.v (.int .i64 e.slot),.v (.int .i64 e.id),.v (.int .i64 e.dr),.v (.bool e.top)]
@[reducible] def xIs (e:Ex):V:= .agg [zB e.slot,zB e.id,zB e.dr,yM e.top]
def Slot.qd (s:Slot):Ex:=⟨s.n,s.id,s.dr,s.top⟩
def dv.fg (a:dv) (k:Nat):Slot:=a.du.getD k iK
def dv.nw (a:dv) (n:Int):Ex×Bool:=if a.iz n=ao then((a.fg n.toNat).qd,ao)else(xDf,ap)
def Lq:gh:=fp vc (λi=>[.nm 0 0,zB i.n]) (λi=>[wV i.a]) (λi=>i.a.du.length<=1000000) (λi=> .je [xIs (i.a.nw i.n).1,yM (i.a.nw i.n).2]) (λi=>[wV i.a])
def Rr (sl:List Slot):Int->List Nat->Prop
 |at_,[]=>at_= -1
 |at_,k::l=>at_=k/\k<sl.length/\Rr sl (sl.getD k iK).back l
structure ML where
 a:dv
 n:Int
 l:List Nat
def Bd (l:List Nat) (j:Nat):Int:=match l[j]? with
 |some k=>k
 |none=> -1
def dv.fy (a:dv) (l:List Nat):List Ex:=l.map λk=>(a.fg k).qd
structure dv.qh (a:dv) (n:Int) (l:List Nat):Prop where
 len:l.length<=1000000
 ch:if 0<=n/\n<a.dy.length then Rr a.du (a.dy.getD n.toNat pG).first l else l=[]
def Hf:gh:=fp ML (λi=>[.nm 0 0,zB i.n]) (λi=>[wV i.a]) (λi=>i.a.qh i.n i.l) (λ_=> .own 1) (λi=>[wV i.a,.own 363 4 ((i.a.fy i.l).map EU)])
def y8f (i:ML):List gu:=[{ι:=Nat,du:=λj=>[(5,.own 0),(6,zB (Bd i.l j))],rows:=λj=>[.own 363 4 ((i.a.fy (i.l.take j)).map EU)]}]
structure Cs where
 a:dv
 n:Int
 dr:Int
def dv.iN (a:dv) (k:Nat):dv:=
 let s:=a.fg k
 let q:=a.dy.getD s.queue.toNat pG
 let AF:=if s.ahead= -1 then a.du else a.du.modify s.ahead.toNat λx=>{x with back:=s.back}
 let Dx:=if s.back= -1 then AF else AF.modify s.back.toNat λx=>{x with ahead:=s.ahead}
 ⟨Dx.set k iK,a.dy.set s.queue.toNat ⟨if s.ahead= -1 then s.back else q.first,if s.back= -1 then s.ahead else q.last,q.total,aa.wrap (q.count-1)⟩,aa.wrap (a.free+1)⟩
def dv.less (a:dv) (k:Nat) (dr:Int):dv:=
 {a with du:=a.du.modify k λs=>{s with dr:=s.dr-dr},dy:=a.dy.modify (a.fg k).queue.toNat λq=>{q with total:=aa.wrap (q.total-dr)}}
def dv.gw (a:dv) (n dr:Int):dv×Int:=
 if a.iz n=ap then(a,26)else if dr<1\/(a.fg n.toNat).dr<dr then(a,24)
 else if(a.fg n.toNat).dr=dr then((a.less n.toNat dr).iN n.toNat,0)else(a.less n.toNat dr,0)
def dv.EA (a:dv):Prop:=a.du.length<=1000000/\∀(k:Nat) (s:Slot),a.du[k]? =ax s->s.used=ao->(0<=s.queue/\s.queue<a.dy.length)/\s.dr<=1000000/\(s.ahead= -1\/(0<=s.ahead/\s.ahead<a.du.length/\s.ahead≠k))/\(s.back= -1\/(0<=s.back/\s.back<a.du.length/\s.back≠k))
def Ha:gh:=fp Cs (λi=>[.nm 0 0,zB i.n,zB i.dr]) (λi=>[wV i.a]) (λi=>i.a.EA) (λi=>zB (i.a.gw i.n i.dr).2) (λi=>[wV (i.a.gw i.n i.dr).1])
def Wy (a:vc):Prop:=dx ((a.a.nw a.n).fst.slot=0/\(a.a.nw a.n).fst.id=0/\(a.a.nw a.n).fst.dr=0/\(a.a.nw a.n).fst.top=ap/\(a.a.nw a.n).snd=ap/\wK a)
def y3b (i:vc):Prop:=
 dp (decide (i.n<0)) (Wy i) (dp (decide (i.n>=((ac zS i.a.du).length:Int))) (Wy i) ((0<=i.n/\i.n<((ac zS i.a.du).length:Int))/\∃(a:Bool),zC (ac zS i.a.du) i.n.toNat 0 1=ax [D.v (.bool a)]/\dp (!a) (Wy i) ((0<=i.n/\i.n<((ac zS i.a.du).length:Int))/\∃(b:Int),∃(c:Int),∃(d:Int),∃(e:Bool),zC (ac zS i.a.du) i.n.toNat 1 4=ax [dI b,dI c,dI d,D.v (.bool e)]/\dx ((i.a.nw i.n).fst.slot=b/\(i.a.nw i.n).fst.id=c/\(i.a.nw i.n).fst.dr=d/\(i.a.nw i.n).fst.top=e/\(i.a.nw i.n).snd=ao/\wK i))))
def zGu (a:ML):Prop:=dx (Q8 a.a (ac EU (a.a.fy a.l)=[]/\True))
def yUj (i:ML):Prop:=
 dp (decide (i.n>=0)) (dp (!decide (i.n<((ac zQ i.a.dy).length:Int))) (zGu i) ((0<=i.n/\i.n<((ac zQ i.a.dy).length:Int))/\∃(a:Int),zC (ac zQ i.a.dy) i.n.toNat 0 1=ax [dI a]/\∃(b:Nat),Bd i.l b=a/\ac EU (i.a.fy (ae b i.l))=[]/\∃(c:Nat->Prop),∃(d:Nat->Nat),c b/\∀(e:Nat),c e->dp (Bd i.l e !=(-1)) ((0<=Bd i.l e/\Bd i.l e<((ac zS i.a.du).length:Int))/\∃(f:Int),∃(g:Int),∃(h:Int),∃(j:Bool),zC (ac zS i.a.du) (Bd i.l e).toNat 1 4=ax [dI f,dI g,dI h,D.v (.bool j)]/\((ac EU (i.a.fy (ae e i.l))).length+1)*(32:Nat)<=(140737488355328:Nat)/\(0<=Bd i.l e/\Bd i.l e<((ac zS i.a.du).length:Int))/\∃(k:Int),zC (ac zS i.a.du) (Bd i.l e).toNat 7 1=ax [dI k]/\∃(l:Nat),Bd i.l l=k/\ac EU (i.a.fy (ae l i.l))=ac EU (i.a.fy (ae e i.l))++[[dI f,dI g,dI h,D.v (.bool j)]]/\c l/\d l<d e/\dk (aq [V.own 1,V.own 2,V.d (dI i.a.free)] (355:TypeId))/\dk (ar 389 8 (ac zS i.a.du))/\dk (ar 392 4 (ac zQ i.a.dy))) (dx (Q8 i.a (ac EU (i.a.fy i.l)=ac EU (i.a.fy (ae e i.l))/\True))))) (zGu i)
def zIg (a:Cs):Prop:=(a.a.gw a.n a.dr).fst.free=a.a.free/\ac zS (a.a.gw a.n a.dr).fst.du=ac zS a.a.du/\ac zQ (a.a.gw a.n a.dr).fst.dy=ac zQ a.a.dy/\True
def tZ (a:Cs):Prop:=dx ((a.a.gw a.n a.dr).snd=26/\zIg a)
def zHw (a:Cs):Prop:=dx ((a.a.gw a.n a.dr).snd=24/\zIg a)
def v8 (a:Cs) (b:Int) (c:Int):=(zJ (ac zQ a.a.dy) b.toNat 2 [dI (aa.wrap (c-a.dr))])
def bY (a:Cs) (b:Int) (c:Int) (d:Int) (e:Int):=(zJ (v8 a b c) d.toNat 0 [dI e])
def WS (a:Cs) (b:Int) (c:Int) (d:Int) (e:Int) (f:Int):=(zJ (bY a b c d e) d.toNat 1 [dI f])
def xE (a:Cs) (b:Int):=(zJ (ac zS a.a.du) a.n.toNat 3 [dI (aa.wrap (b-a.dr))])
def zFp (a:Int) (b:Cs) (c:Int):Prop:=0<=a/\a<((xE b c).length:Int)
def jM (a:Cs) (b:Int) (c:Int) (d:Int):=(zJ (xE a b) c.toNat 7 [dI d])
def lW (a:Cs) (b:Int) (c:Int) (d:Int) (e:Int):=(zJ (v8 a b c) d.toNat 1 [dI e])
@[reducible] def S0 (a:Cs)(R:Prop):Prop:=(a.a.gw a.n a.dr).snd=0/\(a.a.gw a.n a.dr).fst.free=aa.wrap (a.a.free+1)/\R
def yOi (i:Cs):Prop:=
 dp (decide (i.n<0)) (tZ i) (dp (decide (i.n>=((ac zS i.a.du).length:Int))) (tZ i) ((0<=i.n/\i.n<((ac zS i.a.du).length:Int))/\∃(a:Bool),zC (ac zS i.a.du) i.n.toNat 0 1=ax [D.v (.bool a)]/\dp (!a) (tZ i) ((0<=i.n/\i.n<((ac zS i.a.du).length:Int))/\dp (decide (i.dr<1)) (zHw i) (∃(b:Int),zC (ac zS i.a.du) i.n.toNat 3 1=ax [dI b]/\dp (decide (i.dr>b)) (zHw i) (∃(c:Int),zC (ac zS i.a.du) i.n.toNat 3 1=ax [dI c]/\i.n.toNat<(ac zS i.a.du).length/\∃(d:Int),zC (xE i c) i.n.toNat 5 1=ax [dI d]/\(0<=d/\d<((ac zQ i.a.dy).length:Int))/\∃(e:Int),zC (ac zQ i.a.dy) d.toNat 2 1=ax [dI e]/\(0<=d/\d<((ac zQ i.a.dy).length:Int))/\d.toNat<(ac zQ i.a.dy).length/\∃(f:Int),zC (xE i c) i.n.toNat 3 1=ax [dI f]/\dp (f==0) (∃(g:Int),zC (xE i c) i.n.toNat 5 1=ax [dI g]/\(0<=g/\g<((v8 i d e).length:Int))/\∃(h:Int),zC (xE i c) i.n.toNat 6 1=ax [dI h]/\dp (h==(-1)) (∃(j:Int),zC (xE i c) i.n.toNat 7 1=ax [dI j]/\g.toNat<(v8 i d e).length/\∃(k:Int),zC (xE i c) i.n.toNat 7 1=ax [dI k]/\dp (k==(-1)) (∃(l:Int),zC (xE i c) i.n.toNat 6 1=ax [dI l]/\g.toNat<(bY i d e g j).length/\∃(m:Int),zC (WS i d e g j l) g.toNat 3 1=ax [dI m]/\g.toNat<(WS i d e g j l).length/\i.n.toNat<(xE i c).length/\dx (S0 i (ac zS (i.a.gw i.n i.dr).fst.du=zJ (xE i c) i.n.toNat 0 [D.v (.bool ap),dI 0,dI 0,dI 0,D.v (.bool ap),dI 0,dI 0,dI 0]/\ac zQ (i.a.gw i.n i.dr).fst.dy=zJ (WS i d e g j l) g.toNat 3 [dI (aa.wrap (m-1))]/\True))) (∃(l:Int),zC (xE i c) i.n.toNat 7 1=ax [dI l]/\∃(m:Int),zC (xE i c) i.n.toNat 6 1=ax [dI m]/\(zFp l i c)/\l.toNat<(xE i c).length/\∃(n:Int),zC (bY i d e g j) g.toNat 3 1=ax [dI n]/\g.toNat<(bY i d e g j).length/\i.n.toNat<(zJ (xE i c) l.toNat 6 [dI m]).length/\dx (S0 i (ac zS (i.a.gw i.n i.dr).fst.du=zJ (zJ (xE i c) l.toNat 6 [dI m]) i.n.toNat 0 [D.v (.bool ap),dI 0,dI 0,dI 0,D.v (.bool ap),dI 0,dI 0,dI 0]/\ac zQ (i.a.gw i.n i.dr).fst.dy=zJ (bY i d e g j) g.toNat 3 [dI (aa.wrap (n-1))]/\True)))) (∃(j:Int),zC (xE i c) i.n.toNat 6 1=ax [dI j]/\∃(k:Int),zC (xE i c) i.n.toNat 7 1=ax [dI k]/\(zFp j i c)/\j.toNat<(xE i c).length/\∃(l:Int),zC (jM i c j k) i.n.toNat 7 1=ax [dI l]/\dp (l==(-1)) (∃(m:Int),zC (jM i c j k) i.n.toNat 6 1=ax [dI m]/\g.toNat<(v8 i d e).length/\∃(n:Int),zC (lW i d e g m) g.toNat 3 1=ax [dI n]/\g.toNat<(lW i d e g m).length/\i.n.toNat<(jM i c j k).length/\dx (S0 i (ac zS (i.a.gw i.n i.dr).fst.du=zJ (jM i c j k) i.n.toNat 0 [D.v (.bool ap),dI 0,dI 0,dI 0,D.v (.bool ap),dI 0,dI 0,dI 0]/\ac zQ (i.a.gw i.n i.dr).fst.dy=zJ (lW i d e g m) g.toNat 3 [dI (aa.wrap (n-1))]/\True))) (∃(m:Int),zC (jM i c j k) i.n.toNat 7 1=ax [dI m]/\∃(n:Int),zC (jM i c j k) i.n.toNat 6 1=ax [dI n]/\(0<=m/\m<((jM i c j k).length:Int))/\m.toNat<(jM i c j k).length/\∃(p:Int),zC (v8 i d e) g.toNat 3 1=ax [dI p]/\g.toNat<(v8 i d e).length/\i.n.toNat<(zJ (jM i c j k) m.toNat 6 [dI n]).length/\dx (S0 i (ac zS (i.a.gw i.n i.dr).fst.du=zJ (zJ (jM i c j k) m.toNat 6 [dI n]) i.n.toNat 0 [D.v (.bool ap),dI 0,dI 0,dI 0,D.v (.bool ap),dI 0,dI 0,dI 0]/\ac zQ (i.a.gw i.n i.dr).fst.dy=zJ (v8 i d e) g.toNat 3 [dI (aa.wrap (p-1))]/\True))))) (dx ((i.a.gw i.n i.dr).snd=0/\(i.a.gw i.n i.dr).fst.free=i.a.free/\ac zS (i.a.gw i.n i.dr).fst.du=zJ (ac zS i.a.du) i.n.toNat 3 [dI (aa.wrap (c-i.dr))]/\ac zQ (i.a.gw i.n i.dr).fst.dy=zJ (ac zQ i.a.dy) d.toNat 2 [dI (aa.wrap (e-i.dr))]/\True)))))))
def Va {a:dv} {n:Int} (h:n<0\/(a.du.length:Int)<=n):a.iz n=ap:=by
 rcases h with h|h
 ·rw[dv.iz,ju X_,Dr]
 ·rw[dv.iz,ju (show ¬n<(a.du.length:Int)by omega),Dr,J7]
def yFx {a:dv} {n:Int} {s:Slot} (h0:0<=n) (hs:a.du[n.toNat]? =ax s):a.iz n=s.used:=by
 have hl:=(jk.1 hs).1;rw[dv.iz,jt h0,jt (show n<(a.du.length:Int)by omega),zX hs];simp
def x5 {a:dv} {k:Nat} {s:Slot} (hs:a.du[k]? =ax s):a.fg k=s:=zX hs
def xHk (i:vc) (h:Lq.dp i):y3b i:=by
 have h:i.a.du.length<=1000000:=h;unfold y3b dx Wy dx wK Q8 dI;simp only[ib];have no (e:i.a.iz i.n=ap):i.a.nw i.n=(xDf,ap):=by rw[dv.nw,eg (by rw[e];decide)]
 refine zH (λc=> ?_) (λc=>zH (λd=> ?_) (λd=> ?_))
 ·rw[no (Va (.inl c))];exact kp
 ·rw[no (Va (.inr X_))];exact kp
 ·obtain⟨s,hs⟩:=zZ (l:=i.a.du) (i:=i.n.toNat) oM;have eu:=yFx (a:=i.a) (n:=i.n) oM hs;refine⟨⟨oM,oM⟩,s.used,jz hs (by simp[zS]) rfl,W_ (λu=> ?_) (λu=> ?_)⟩
  ·rw[no (by rw[eu];simpa using u)];exact kp
  ·have e:i.a.iz i.n=ao:=by rw[eu];simpa using u
   have et:i.a.nw i.n=(s.qd,ao):=by rw[dv.nw,fh e,x5 hs]
   rw[et];refine⟨⟨oM,oM⟩,s.n,s.id,s.dr,s.top,jz hs (by simp[zS]) rfl,?_⟩
   exact kp
def yIc:Lq.ok Z_ 232:=gy mixed fk 1 i6 i6 [0] func232 xHk
def zZd:∀{sl:List Slot} {at_:Int} {l:List Nat},Rr sl at_ l->Bd l 0=at_/\∀j k,l[j]? =ax k->k<sl.length/\Bd l (j+1)=(sl.getD k iK).back
 |sl,at_,[],h=>⟨h.symm,λj k hk=>by simp at hk⟩
 |sl,at_,x::l,h=>by
  obtain⟨h1,h2,h3⟩:=h;have ih:=zZd h3;refine⟨h1.symm,λj k hk=> ?_⟩;cases j with
  |zero=>
   simp at hk;subst hk;exact⟨h2,by rw[<- ih.1];rfl⟩
  |succ j=>
   rw[Bk]at hk;obtain⟨a,b⟩:=ih.2 j k hk;exact⟨a,by rw[<- b];rfl⟩
def y6v (i:ML) (h:Hf.dp i):yUj i:=by
 obtain⟨hl,h⟩:i.l.length<=1000000/\(if 0<=i.n/\i.n<i.a.dy.length then Rr i.a.du (i.a.dy.getD i.n.toNat pG).first i.l else i.l=[]):=⟨h.len,h.ch⟩
 unfold yUj Q8 dx zGu Q8 dx dI;simp only[ib];have out (e:¬(0<=i.n/\i.n<(i.a.dy.length:Int))):i.l=[]:=by rw[eg e]at h;exact h
 refine zH (λc=>W_ (λd=> ?_) (λd=> ?_)) (λc=> ?_)
 ·have d:¬i.n<(i.a.dy.length:Int):=i9 d
  rw[out X_];exact kp
 ·have d:i.n<(i.a.dy.length:Int):=i9 d
  rw[fh ⟨X_,d⟩]at h;obtain⟨q,hq⟩:=zZ (l:=i.a.dy) (i:=i.n.toNat) oM;rw[zX hq]at h;obtain⟨n0,nx⟩:=zZd h;refine⟨⟨oM,oM⟩,q.first,jz hq (by simp[zQ]) rfl,0,n0,rfl,λj=>j<=i.l.length,λj=>i.l.length-j,ml _,λj hj=>W_ (λe=> ?_) (λe=> ?_)⟩
  ·have e:Bd i.l j≠-1:=i9 e
   obtain⟨k,hk⟩:∃k,i.l[j]? =ax k:=by
    cases hk:i.l[j]? with
    |none=>rw[Bd,hk]at e;exact absurd rfl e
    |some k=>exact⟨k,rfl⟩
   have Fh:=(jk.1 hk).1;obtain⟨pg,Fe⟩:=nx j k hk;have en:Bd i.l j=k:=by rw[Bd,hk]
   obtain⟨s,hs⟩:=zZ (l:=i.a.du) (i:=k) pg;rw[en,ov];refine⟨⟨oM,oM⟩,s.n,s.id,s.dr,s.top,jz hs (by simp[zS]) rfl,?_,⟨oM,oM⟩,s.back,jz hs (by simp[zS]) rfl,j+1,by rw[Fe,zX hs],?_,Fh,Z9,gj⟩
   ·simp only[dv.fy,ib,nr];omega
   ·rw[qf,hk];simp only[dv.fy,Option.toList,jh,jg,Bz,x5 hs];rfl
  ·have e:Bd i.l j= -1:=i9 e
   have oz:i.l.length<=j:=by
    apply Classical.byContradiction;intro hn;obtain⟨k,hk⟩:=zZ (l:=i.l) (i:=j) oM;rw[Bd,hk]at e;simp only at e;omega
   rw[ng oz]
   exact kp
 ·rw[out X_];exact kp
def yQo:Hf.ok Z_ 281:=gy mixed fk 1 i6 (λi=>y8f i) [0] func281 y6v
def yAx {α:Type} {l:List α} {i k:Nat} {x y:α} (h:i≠k) (hk:l[k]? =ax x):(l.set i y)[k]? =ax x:=by
 rw[List.getElem?_set_ne h];exact hk
def y5u (i:Cs) (h:Ha.dp i):yOi i:=by
 obtain⟨hl,oZ⟩:i.a.EA:=h;unfold yOi S0 dx lW jM zFp xE WS bY v8 zHw dx tZ dx zIg dI;simp only[ib];have no (e:i.a.iz i.n=ap):i.a.gw i.n i.dr=(i.a,26):=by rw[dv.gw,fh e]
 refine zH (λc=> ?_) (λc=>zH (λd=> ?_) (λd=> ?_))
 ·rw[no (Va (.inl c))];exact kp
 ·rw[no (Va (.inr X_))];exact kp
 obtain⟨k,hk⟩:∃k,k=i.n.toNat:=⟨_,rfl⟩
 rw[<- hk];obtain⟨s,hs⟩:=zZ (l:=i.a.du) (i:=k) oM;have iQ:i.a.du[i.n.toNat]? =ax s:=by rw[<- hk];exact hs
 have eu:=yFx (a:=i.a) (n:=i.n) oM iQ;refine⟨⟨oM,oM⟩,s.used,jz hs (by simp[zS]) rfl,W_ (λu=> ?_) (λu=> ?_)⟩
 ·rw[no (by rw[eu];simpa using u)];exact kp
 have u:s.used=ao:=i9 u
 have e:¬i.a.iz i.n=ap:=by rw[eu,u];decide
 obtain⟨⟨q0,q1⟩,sq,sa,sb⟩:=oZ k s hs u;have esl:i.a.fg i.n.toNat=s:=x5 iQ;have bad (hq:i.dr<1\/s.dr<i.dr):i.a.gw i.n i.dr=(i.a,24):=by rw[dv.gw,eg e,esl,fh hq]
 refine⟨⟨oM,oM⟩,zH (λc1=>by rw[bad (.inl c1)];(repeat'(first|exact rfl|exact Y_|assumption|apply ay|refineλ(_:Unit) (_:True)=>?_|refine aw () ?_|omega|(dsimp only;omega)))) (λc1=>⟨s.dr,jz hs (by simp[zS]) rfl,zH (λc2=>by rw[bad (.inr X_)];(repeat'(first|exact rfl|exact Y_|assumption|apply ay|refineλ(_:Unit) (_:True)=>?_|refine aw () ?_|omega|(dsimp only;omega)))) (λc2=>⟨s.dr,jz hs (by simp[zS]) rfl,oM,?_⟩)⟩)⟩;obtain⟨q,hq⟩:=zZ (l:=i.a.dy) (i:=s.queue.toNat) oM;have um:(i.a.du.set k {s with dr:=s.dr-i.dr})[k]? =ax {s with dr:=s.dr-i.dr}:=gN hs;have xb:(i.a.dy.set s.queue.toNat {q with total:=aa.wrap (q.total-i.dr)})[s.queue.toNat]? =ax {q with total:=aa.wrap (q.total-i.dr)}:=gN hq;have hle:i.a.less i.n.toNat i.dr=⟨i.a.du.set k {s with dr:=s.dr-i.dr},i.a.dy.set s.queue.toNat {q with total:=aa.wrap (q.total-i.dr)},i.a.free⟩:=by
  rw[dv.less,esl,b9 iQ,b9 hq,hk]
 have hL:(i.a.du.set k {s with dr:=s.dr-i.dr}).length=i.a.du.length:=qj;have hQ:(i.a.dy.set s.queue.toNat {q with total:=aa.wrap (q.total-i.dr)}).length=i.a.dy.length:=qj;have tk:i.a.gw i.n i.dr=if s.dr=i.dr then((i.a.less i.n.toNat i.dr).iN i.n.toNat,0)else(i.a.less i.n.toNat i.dr,0):=by rw[dv.gw,eg e,esl,eg X_]
 rw[hle,<- hk]at tk;rw[iw (x:=s.dr-i.dr) X_,yL hs (y:={s with dr:=s.dr-i.dr}) rfl];refine⟨s.queue,jz um (by simp[zS]) rfl,⟨q0,q1⟩,q.total,jz hq (by simp[zQ]) rfl,⟨q0,q1⟩,oM,s.dr-i.dr,jz um (by simp[zS]) rfl,?_⟩;rw[yL hq (y:={q with total:=aa.wrap (q.total-i.dr)}) rfl];simp only[ib];generalize hL1:i.a.du.set k {s with dr:=s.dr-i.dr}=L1 at*;generalize hQ1:i.a.dy.set s.queue.toNat {q with total:=aa.wrap (q.total-i.dr)}=Q1 at*;refine W_ (λz=> ?_) (λz=> ?_)
 ·have z:s.dr=i.dr:=by have:s.dr-i.dr=0:=i9 z
                       omega
  rw[fh z]at tk;have aaW:(⟨L1,Q1,i.a.free⟩:dv).fg k={s with dr:=s.dr-i.dr}:=x5 um;have eq1:Q1.getD s.queue.toNat pG={q with total:=aa.wrap (q.total-i.dr)}:=zX xb;rw[dv.iN,aaW]at tk;dsimp only at tk;rw[eq1]at tk;dsimp only at tk;rw[tk];refine⟨s.queue,jz um (by simp[zS]) rfl,⟨q0,oM⟩,s.ahead,jz um (by simp[zS]) rfl,W_ (λea=> ?_) (λea=> ?_)⟩
  ·have ea:s.ahead= -1:=i9 ea
   refine⟨s.back,jz um (by simp[zS]) rfl,oM,s.back,jz um (by simp[zS]) rfl,?_⟩;rw[yL xb (y:=⟨s.back,q.last,aa.wrap (q.total-i.dr),q.count⟩) rfl];have uo:(Q1.set s.queue.toNat ⟨s.back,q.last,aa.wrap (q.total-i.dr),q.count⟩)[s.queue.toNat]? =ax ⟨s.back,q.last,aa.wrap (q.total-i.dr),q.count⟩:=gN xb;simp only[ib,qj];refine W_ (λeb=> ?_) (λeb=> ?_)
   ·have eb:s.back= -1:=i9 eb
    refine⟨s.ahead,jz um (by simp[zS]) rfl,oM,q.count,?_,?_⟩
    ·rw[yL uo (y:=⟨s.back,s.ahead,aa.wrap (q.total-i.dr),q.count⟩) rfl];exact jz (gN uo) (by simp[zQ]) rfl
    rw[yL uo (y:=⟨s.back,s.ahead,aa.wrap (q.total-i.dr),q.count⟩) rfl,yL (gN uo) (y:=⟨s.back,s.ahead,aa.wrap (q.total-i.dr),aa.wrap (q.count-1)⟩) rfl,yL um (y:=iK) rfl];simp only[ib,qj,Eg,fh ea,fh eb];refine⟨oM,oM,(),i7,i7,i7,i7,Y_⟩
   ·have eb:s.back≠-1:=i9 eb
    obtain⟨b0,b1,b2⟩:0<=s.back/\s.back<i.a.du.length/\s.back≠k:=X_
    obtain⟨x,hx⟩:=zZ (l:=L1) (i:=s.back.toNat) oM;refine⟨s.back,jz um (by simp[zS]) rfl,s.ahead,jz um (by simp[zS]) rfl,⟨b0,oM⟩,oM,q.count,jz uo (by simp[zQ]) rfl,?_⟩;rw[yL hx (y:={x with ahead:=s.ahead}) rfl,yL uo (y:=⟨s.back,q.last,aa.wrap (q.total-i.dr),aa.wrap (q.count-1)⟩) rfl,yL (yAx X_ um) (y:=iK) rfl];simp only[ib,qj,Eg,fh ea,eg eb,b9 hx];refine⟨oM,oM,(),i7,i7,i7,i7,Y_⟩
  ·have ea:s.ahead≠-1:=i9 ea
   obtain⟨a0,a1,a2⟩:0<=s.ahead/\s.ahead<i.a.du.length/\s.ahead≠k:=X_
   obtain⟨x,hx⟩:=zZ (l:=L1) (i:=s.ahead.toNat) oM;have zd:(L1.set s.ahead.toNat {x with back:=s.back})[k]? =ax {s with dr:=s.dr-i.dr}:=yAx oM um;refine⟨s.ahead,jz um (by simp[zS]) rfl,s.back,jz um (by simp[zS]) rfl,⟨a0,oM⟩,oM,s.back,?_,?_⟩
   ·rw[yL hx (y:={x with back:=s.back}) rfl];exact jz zd (by simp[zS]) rfl
   rw[yL hx (y:={x with back:=s.back}) rfl];simp only[ib,qj];refine W_ (λeb=> ?_) (λeb=> ?_)
   ·have eb:s.back= -1:=i9 eb
    refine⟨s.ahead,jz zd (by simp[zS]) rfl,oM,q.count,?_,?_⟩
    ·rw[yL xb (y:=⟨q.first,s.ahead,aa.wrap (q.total-i.dr),q.count⟩) rfl];exact jz (gN xb) (by simp[zQ]) rfl
    rw[yL xb (y:=⟨q.first,s.ahead,aa.wrap (q.total-i.dr),q.count⟩) rfl,yL (gN xb) (y:=⟨q.first,s.ahead,aa.wrap (q.total-i.dr),aa.wrap (q.count-1)⟩) rfl,yL zd (y:=iK) rfl];simp only[ib,qj,Eg,eg ea,fh eb,b9 hx];refine⟨oM,oM,(),i7,i7,i7,i7,Y_⟩
   ·have eb:s.back≠-1:=i9 eb
    obtain⟨b0,b1,b2⟩:0<=s.back/\s.back<i.a.du.length/\s.back≠k:=X_
    obtain⟨y,hy⟩:=zZ (l:=L1.set s.ahead.toNat {x with back:=s.back}) (i:=s.back.toNat) (by rw[qj];omega);refine⟨s.back,jz zd (by simp[zS]) rfl,s.ahead,jz zd (by simp[zS]) rfl,⟨b0,oM⟩,oM,q.count,jz xb (by simp[zQ]) rfl,?_⟩;rw[yL hy (y:={y with ahead:=s.ahead}) rfl,yL xb (y:=⟨q.first,q.last,aa.wrap (q.total-i.dr),aa.wrap (q.count-1)⟩) rfl,yL (yAx X_ zd) (y:=iK) rfl];simp only[ib,qj,Eg,eg ea,eg eb,b9 hx,b9 hy];refine⟨oM,oM,(),i7,i7,i7,i7,Y_⟩
 ·have z:¬s.dr=i.dr:=by have:¬s.dr-i.dr=0:=i9 z
                        omega
  rw[eg z]at tk;rw[tk];exact⟨(),nh Y_⟩
def yNl:Ha.ok Z_ 233:=gy mixed fk 1 i6 i6 [0] func233 y5u
structure wb where
 l:List Int
 least:Int
 q:Int
def yAc (l:List Int) (least q:Int):List Int:=l.map λk=>if least<=k*q / l.sum then k*q / l.sum else 0
def vK:List (Int×Int)->Int->List Int
 |[],_=>[]
 |(n,x)::r,q=>(x+min (n-x) q)::vK r (q-min (n-x) q)
def wb.p0 (i:wb):List Int:=yAc i.l i.least i.q
def wb.p1 (i:wb):List Int:=vK (i.l.zip i.p0) (i.q-i.p0.sum)
def j0 (i:wb):List Int:=if y5 i.l i.q=ao/\1<=i.least then i.p1 else[]
def GI:gh:=fp wb (λi=>[iV i.l,zB i.least,zB i.q]) i6 (λi=>i.l.length<=1000000/\gx i.q/\gx i.least) (λ_=> .own 0) (λi=>[.own 2 1 (iE (j0 i))])
def y5s (i:wb):List gu:=[
 {ι:=Nat,du:=λj=>[(9,.own 0),(36,zB j)],rows:=λj=>[.own 2 1 (iE (i.p0.take j++af (i.l.length-j) 0))]},
 {ι:=Nat,du:=λj=>[(2,zB (i.q-(i.p0.take j).sum)),(58,zB j)],rows:=λ_=>[]},
 {ι:=Nat,du:=λj=>[(9,.own 0),(2,zB (i.q-i.p0.sum+(i.p0.take j).sum-(i.p1.take j).sum)),(68,zB j)],rows:=λj=>[.own 2 1 (iE (i.p1.take j++i.p0.drop j))]}]
def bN (a:Nat) (b:wb):=(iE (ae a b.p1++ak a b.p0))
def eT (a:Nat) (b:wb):Prop:=0<=(a:Int)/\(a:Int)<((bN a b).length:Int)
def fX (a:Nat) (b:wb):=(ae a b.p0++af (b.l.length-a) 0)
def fZ (a:Nat) (b:wb):=(iE (fX a b))
def pM (a:Nat) (b:wb):=((fZ a b).length:Int)
def yNf (i:wb):Prop:=
 ∃(a:Cu),iE a.l=iE i.l/\a.q=i.q/\(vE a)/\ff (dp (!y5 a.l a.q) (dx (iE (j0 i)=[]/\True)) (dp (decide (i.least<1)) (dx (iE (j0 i)=[]/\True)) (∃(c:List Int),iE c=iE i.l/\(c.length<=1000/\∀(d:Int),d∈c->0<=d/\d<=1000000)/\ff ((0<=((iE i.l).length:Int)/\((iE i.l).length:Int)<=((iE i.l).length:Int)/\((iE i.l).length:Int)<=9223372036854775807/\((8:Nat):Int)*((iE i.l).length:Int)<=2 ^ (48:Nat))/\∃(e:Nat),(e:Int)=0/\iE (fX e i)=af ((iE i.l).length:Int).toNat [dI 0]/\∃(f:Nat->Prop),∃(g:Nat->Nat),f e/\∀(h:Nat),f h->dp (decide ((h:Int)<((iE i.l).length:Int))) ((0<=(h:Int)/\(h:Int)<((iE i.l).length:Int))/\∃(j:Int),zC (iE i.l) (h:Int).toNat 0 1=ax [dI j]/\∃(k:MF),k.a=j/\k.b=i.q/\k.c=c.sum/\(0<=k.a/\k.a<=(2000000000:Int)/\(0:Int)<=k.b/\k.b<=(2000000000:Int)/\(1:Int)<=k.c/\k.c<=2000000000)/\ff (dp (decide (k.a*k.b / k.c>=i.least)) ((0<=(h:Int)/\(h:Int)<(pM h i))/\(h:Int).toNat<(fZ h i).length/\∃(m:Nat),(m:Int)=aa.wrap ((h:Int)+1)/\iE (fX m i)=zJ (fZ h i) (h:Int).toNat 0 [dI (k.a*k.b / k.c)]/\f m/\g m<g h/\True) (∃(m:Nat),(m:Int)=aa.wrap ((h:Int)+1)/\iE (fX m i)=iE (fX h i)/\f m/\g m<g h/\True))) (∃(j:Nat),i.q-(ae j i.p0).sum=i.q/\(j:Int)=0/\∃(k:Nat->Prop),∃(l:Nat->Nat),k j/\∀(m:Nat),k m->dp (decide ((m:Int)<(pM h i))) ((0<=(m:Int)/\(m:Int)<(pM h i))/\∃(n:Int),zC (fZ h i) (m:Int).toNat 0 1=ax [dI n]/\∃(p:Nat),i.q-(ae p i.p0).sum=aa.wrap (i.q-(ae m i.p0).sum-n)/\QM p m k l (dk (ar 2 1 (fZ h i)))) (∃(n:Nat),i.q-i.p0.sum+(ae n i.p0).sum-(ae n i.p1).sum=i.q-(ae m i.p0).sum/\(n:Int)=0/\iE (ae n i.p1++ak n i.p0)=iE (fX h i)/\∃(p:Nat->Prop),∃(q:Nat->Nat),p n/\∀(r:Nat),p r->dp (decide ((r:Int)<(pM h i))) ((0<=(r:Int)/\(r:Int)<((iE i.l).length:Int))/\∃(s:Int),zC (iE i.l) (r:Int).toNat 0 1=ax [dI s]/\(eT r i)/\∃(t:Int),zC (bN r i) (r:Int).toNat 0 1=ax [dI t]/\(eT r i)/\∃(u:Int),zC (bN r i) (r:Int).toNat 0 1=ax [dI u]/\(eT r i)/\(r:Int).toNat<(bN r i).length/\∃(v:Nat),i.q-i.p0.sum+(ae v i.p0).sum-(ae v i.p1).sum=aa.wrap (i.q-i.p0.sum+(ae r i.p0).sum-(ae r i.p1).sum-min (aa.wrap (s-t)) (i.q-i.p0.sum+(ae r i.p0).sum-(ae r i.p1).sum))/\(v:Int)=aa.wrap ((r:Int)+1)/\iE (ae v i.p1++ak v i.p0)=zJ (bN r i) (r:Int).toNat 0 [dI (aa.wrap (u+min (aa.wrap (s-t)) (i.q-i.p0.sum+(ae r i.p0).sum-(ae r i.p1).sum)))]/\p v/\q v<q r/\True) (dx (iE (j0 i)=iE (ae r i.p1++ak r i.p0)/\True))))))))
def zHa:∀(z:List (Int×Int)) (q:Int),(vK z q).length=z.length
 |[],_=>rfl
 |(n,x)::z,q=>by rw[vK,iG,iG,zHa z]
def zUz:∀(z:List (Int×Int)) (q:Int) (j:Nat) (n x:Int),z[j]? =ax (n,x)->(vK z q)[j]? =ax (x+min (n-x) (q+((z.map (·.2)).take j).sum-((vK z q).take j).sum))
 |[],_,_,_,_,h=>by simp at h
 |(m,y)::z,q,0,n,x,h=>by simp at h;obtain⟨rfl,rfl⟩:=h;simp[vK]
 |(m,y)::z,q,j+1,n,x,h=>by
  rw[Bk]at h;rw[vK,Bk,zUz z _ j n x h,vj,qi,jg,vj,qi];congr 3;dsimp only;omega
def zOh:∀(z:List (Int×Int)) (q:Int) (j:Nat),0<=q->(∀y∈z,y.2<=y.1)->0<=q+((z.map (·.2)).take j).sum-((vK z q).take j).sum/\q+((z.map (·.2)).take j).sum-((vK z q).take j).sum<=q
 |[],q,j,h,_=>by simp[vK,h]
 |(m,y)::z,q,0,h,_=>by simp[h]
 |(m,y)::z,q,j+1,h,hb=>by
  have hm:=hb (m,y) iY;have:=zOh z (q-min (m-y) q) j (by dsimp only at hm;omega) (λx hx=>hb x (jj _ hx));rw[vK,vj,qi,jg,vj,qi];dsimp only at hm ⊢;omega
def yQp {k q S:Int} (hk:0<=k) (hq:0<=q) (hS:1<=S) (hqS:q<=S):0<=k*q / S/\k*q / S<=k:=by
 refine⟨Int.ediv_nonneg (Ov hk hq) oM,?_⟩;have:k*q<=k*S:=XX hqS hk;exact Int.ediv_le_of_le_mul oM this
def zXs {q S least:Int} (hq:0<=q) (hS:1<=S):∀(l:List Int),(∀x∈l,0<=x)->S*(l.map λk=>if least<=k*q / S then k*q / S else 0).sum<=q*l.sum
 |[],_=>by simp
 |k::l,h=>by
  have ih:=zXs (least:=least) hq hS l (λx hx=>h x (jj _ hx));have hk:=h k iY;rw[jg,qi,qi,Int.mul_add,Int.mul_add];have h1:S*(k*q / S)<=k*q:=by
   have:=Int.mul_ediv_add_emod (k*q) S;have:=Ox (k*q) (show S≠0 by omega);omega
  have h2:0<=k*q:=Ov hk hq;have h3:S*(if least<=k*q / S then k*q / S else 0)<=q*k:=by
   rw[Ef q k];split
   ·exact h1
   ·simpa using h2
  omega
def yTn {i:wb} {j:Nat} {n:Int} (h:i.l[j]? =ax n):i.p0[j]? =ax (if i.least<=n*i.q / i.l.sum then n*i.q / i.l.sum else 0):=by
 rw[wb.p0,yAc,ra,h];rfl
def z8y (i:wb):i.p0.length=i.l.length:=by simp[wb.p0,yAc]
def yGv {l:List Int} {j m:Nat} {n:Int} (hl:l.length=m) (h:l[j]? =ax n):(l.take j++af (m-j) 0).set j n=l.take (j+1)++af (m-(j+1)) 0:=by
 have hj:=(jk.1 h).1;rw[List.set_append_right _ _ (by rw[nr];omega),nr,show j-min j l.length=0 by omega,show m-j=(m-(j+1))+1 by omega,Ke,OC,qf,h];simp
def yOf {l:List Int} {j m:Nat} (hl:l.length=m) (hj:j<m):(l.take j++af (m-j) 0)[j]? =ax 0:=by
 rw[Ck (by rw[nr];omega),nr,show j-min j l.length=0 by omega,show m-j=(m-(j+1))+1 by omega,Ke];rfl
def yPz {α:Type} {l:List α} {j:Nat} {x:α} (h:l[j]? =ax x):l.set j x=l:=by
 obtain⟨h1,h2⟩:=jk.1 h;rw[<- h2];exact List.set_getElem_self h1
def y5l {a b:List Int} {j:Nat} {x:Int} (ha:a.length=b.length) (h:b[j]? =ax x):(a.take j++b.drop j)[j]? =ax x:=by
 have hj:=(jk.1 h).1;rw[Ck (by rw[nr];omega),nr,show j-min j a.length=0 by omega,BA];exact h
def yYq {a b:List Int} {j:Nat} {y:Int} (ha:a.length=b.length) (h:a[j]? =ax y):(a.take j++b.drop j).set j y=a.take (j+1)++b.drop (j+1):=by
 have hj:=(jk.1 h).1;rw[List.set_append_right _ _ (by rw[nr];omega),nr,show j-min j a.length=0 by omega,CN X_,OC,qf,h];simp
def Xa {l:List Int} {j:Nat} {x y:Int} (h:l[j]? =ax x):zJ (iE l) j 0 [D.v (.int .i64 y)]=iE (l.set j y):=yL (f:=λn:Int=>[D.v (.int .i64 n)]) h rfl
def VX {i:wb} (h:y5 i.l i.q=ao) (jy:0<i.l.length):1<=i.l.sum/\i.l.sum<=250000000/\(∀(j:Nat) (n x:Int),i.l[j]? =ax n->i.p0[j]? =ax x->0<=x/\x<=n)/\i.p0.sum<=i.q:=by
 obtain⟨h1,h2,h3,h4⟩:=j9 h;have hb:=wG (l:=i.l) (λx hx=>by have:=h3 x hx;omega) i.l.length;rw[zf]at hb;have hS:1<=i.l.sum:=by
  obtain⟨x,hx⟩:=zZ (l:=i.l) (i:=0) jy;have:=h3 x (kx hx);cases hl:i.l with
  |nil=>rw[hl]at jy;exact absurd jy (Nat.lt_irrefl 0)
  |cons a r=>
   rw[hl]at hx;simp at hx;subst hx;have hr:=wG (l:=r) (λy hy=>by have:=h3 y (by rw[hl];exact jj _ hy);omega) r.length;rw[zf]at hr;rw[qi];omega
 refine⟨hS,oM,λj n x hn hx=> ?_,?_⟩
 ·have Kq:=h3 n (kx hn);have:=yQp (k:=n) oM h2 hS h4;rw[yTn hn]at hx;cases hx;split<;>omega
 ·have:=zXs (least:=i.least) h2 hS i.l (λx hx=>by have:=h3 x hx;omega);have e:i.l.sum*i.p0.sum<=i.l.sum*i.q:=by rw[Ef i.l.sum i.q];exact this
  exact Int.le_of_mul_le_mul_left e oM
def y7w (i:wb) (h:GI.dp i):yNf i:=by
 obtain⟨hl,hq,hle⟩:i.l.length<=1000000/\gx i.q/\gx i.least:=h;unfold yNf QM ff dx pM fZ fX eT bN vE dI;refine⟨⟨i.l,i.q⟩,rfl,rfl,⟨hl,hq⟩,λ_ _=>W_ (λc=> ?_) (λc=>zH (λd=> ?_) (λd=> ?_))⟩
 ·have c:y5 i.l i.q=ap:=i9 c
  refine⟨(),?_,Y_⟩;rw[j0,eg (by rw[c];simp)];rfl
 ·refine⟨(),?_,Y_⟩;rw[j0,eg X_];rfl
 have c:y5 i.l i.q=ao:=i9 c
 have eS:j0 i=i.p1:=by rw[j0,fh ⟨c,X_⟩]
 obtain⟨h1,h2,h3,h4⟩:=j9 c;have uo:=U7 c;have O5:=z8y i;have DA:(i.l.zip i.p0).length=i.l.length:=by rw[List.length_zip,O5];simp
 have Yj:i.p1.length=i.l.length:=by rw[wb.p1,zHa,DA]
 have hz2:(i.l.zip i.p0).map (·.2)=i.p0:=by rw[List.map_snd_zip];omega
 have h64:i.l.length<=250:=h1;have OY:∀j,j<=i.l.length->(ae j i.p0++af (i.l.length-j) 0).length=i.l.length:=by
  intro j hj;rw[ix,nr,HL];omega
 simp only[y9];refine⟨i.l,rfl,⟨oM,λx hx=>by have:=h3 x hx;omega⟩,λ_ _=>⟨⟨oM,oM,oM,oM⟩,0,i7,?_,λj=>j<=i.l.length,λj=>i.l.length-j,ml _,λj hj=>zH (λe=> ?_) (λe=> ?_)⟩⟩
 ·simp[iE]
 ·have oz:j<i.l.length:=X_
  obtain⟨n,hn⟩:=zZ (l:=i.l) (i:=j) oz;have bn:=h3 n (kx hn);obtain⟨f1,f2,f3,f4⟩:=VX c oM;have g:=yTn hn;refine⟨⟨oM,oM⟩,n,rq hn,⟨n,i.q,i.l.sum⟩,rfl,rfl,rfl,⟨Z9,Z9,Z9,Z9,Z9,Z9⟩,λ_ _=>zH (λa=> ?_) (λa=> ?_)⟩
  ·have a:n*i.q / i.l.sum>=i.least:=a;rw[fh X_]at g;refine⟨⟨oM,by rw[OY j X_];omega⟩,by rw[OY j X_];omega,j+1,pf oM,?_,oz,Z9,Y_⟩;rw[ov,Xa (yOf O5 oz),yGv O5 g]
  ·have a:¬n*i.q / i.l.sum>=i.least:=a;rw[eg X_]at g;refine⟨j+1,pf oM,?_,oz,Z9,Y_⟩;rw[<- yGv O5 g,yPz (yOf O5 oz)]
 have F2:j=i.l.length:=X_
 subst F2;have eP:ae i.l.length i.p0++af (i.l.length-i.l.length) 0=i.p0:=by rw[ng X_];simp
 rw[eP,O5];have px:∀(k:Nat) (n x:Int),i.l[k]? =ax n->i.p0[k]? =ax x->0<=x/\x<=n:=λk n x hn hx=>(VX c (by have:=(jk.1 hn).1;omega)).2.2.1 k n x hn hx
 have pb:∀x∈i.p0,0<=x/\x<=1000000:=by
  intro x hx;obtain⟨k,hk⟩:=BB.1 hx;obtain⟨n,hn⟩:=zZ (l:=i.l) (i:=k) (by have:=(jk.1 hk).1;omega);have:=px k n x hn hk;have:=h3 n (kx hn);omega
 have pq:i.p0.sum<=i.q:=by
  by_cases hz:0<i.l.length
  ·exact(VX c hz).2.2.2
  ·have:i.p0=[]:=ye oM;rw[this];simpa using h2
 refine⟨0,by simp,i7,λk=>k<=i.l.length,λk=>i.l.length-k,ml _,λk hk=>zH (λe=> ?_) (λe=> ?_)⟩
 ·have qc:k<i.l.length:=X_
  obtain⟨x,hx⟩:=zZ (l:=i.p0) (i:=k) oM;have bx:=pb x (kx hx);have bs:=wG pb k;refine⟨⟨oM,oM⟩,x,rq hx,k+1,?_,pf oM,qc,Z9,gj⟩;rw[wU hx,iw X_];omega
 have Co:k=i.l.length:=X_
 subst Co;rw[ng (l:=i.p0) X_];refine⟨0,by simp,i7,by simp,λj=>j<=i.l.length,λj=>i.l.length-j,ml _,λj hj=>zH (λe=> ?_) (λe=> ?_)⟩
 ·have oz:j<i.l.length:=X_
  obtain⟨n,hn⟩:=zZ (l:=i.l) (i:=j) oz;obtain⟨x,hx⟩:=zZ (l:=i.p0) (i:=j) oM;have bn:=h3 n (kx hn);have bx:=px j n x hn hx;have hz:(i.l.zip i.p0)[j]? =ax (n,x):=by rw[RT];exact⟨hn,hx⟩
  have g:=zUz (i.l.zip i.p0) (i.q-i.p0.sum) j n x hz;have r:=zOh (i.l.zip i.p0) (i.q-i.p0.sum) j oM (λy hy=>by
   obtain⟨k,hk⟩:=BB.1 hy;rw[RT]at hk;exact(px k y.1 y.2 hk.1 hk.2).2)
  rw[hz2]at g r;have b0:=wG pb i.p0.length;rw[zf]at b0;have ux:(ae j i.p1++ak j i.p0).length=i.l.length:=by rw[ix,nr,pj];omega
  have hma:=y5l (a:=i.p1) (b:=i.p0) oM hx;change i.p1[j]? =_ at g;change 0<=_-(ae j i.p1).sum/\_-(ae j i.p1).sum<=_ at r;change i.p1[j]? =ax (x+min (n-x) (_-(ae j i.p1).sum))at g;rw[ux];refine⟨⟨oM,oM⟩,n,rq hn,⟨oM,oM⟩,x,rq hma,⟨oM,oM⟩,x,rq hma,⟨oM,oM⟩,oM,?_⟩;rw[iw (x:=n-x) X_,iw (x:=x+min (n-x) (i.q-i.p0.sum+(ae j i.p0).sum-(ae j i.p1).sum)) X_];refine⟨j+1,?_,pf oM,?_,oz,Z9,Y_⟩
  ·rw[wU hx,wU g,iw X_];omega
  ·rw[ov,Xa hma,yYq X_ g]
 ·have F2:j=i.l.length:=X_
  subst F2;refine⟨(),?_,Y_⟩;rw[eS,ng X_,IK X_,oQ]
def yOx:GI.ok Z_ 307:=gy mixed (dw VB (dw y1p (dw zWs fk))) 0 i6 (λi=>y5s i) [] func307 y7w
structure qm where
 l:List Int
 out:List Int
 least:Int
 q:Int
def qm.idx (i:qm) (k:Nat):List Nat:=(am k).filter λn=>decide (i.out.getD n 0<i.l.getD n 0)
def qm.left (i:qm) (k:Nat):List Int:=(i.idx k).map λn=>i.l.getD n 0-i.out.getD n 0
def qm.pl (i:qm):List Int:=j0 ⟨i.left i.l.length,i.least,i.q⟩
def qm.add (i:qm) (k:Nat):List Int:=(((i.idx i.l.length).zip i.pl).take k).foldl (λo y=>o.set y.1 (aa.wrap (o.getD y.1 0+y.2))) i.out
def tE (i:qm):List Int:=i.add i.pl.length
@[reducible] def qm.ok (i:qm):Prop:=i.l.length<=250/\i.out.length=i.l.length/\gx i.q/\gx i.least/\∀n,0<=i.out.getD n 0/\i.out.getD n 0<=i.l.getD n 0/\i.l.getD n 0<=1000000
def KQ:gh:=fp qm (λi=>[iV i.l,.own 0,zB i.least,zB i.q]) (λi=>[.own 2 1 (iE i.out)]) qm.ok (λ_=> .own 1) (λi=>[.gone,.own 2 1 (iE (tE i))])
def xGl (i:qm):List gu:=[
 {ι:=Nat,du:=λj=>[(9,.own 0),(10,.own 1),(16,zB j)],rows:=λj=>[.own 2 1 (iE (i.left j)),.own 3 1 (iE ((i.idx j).map λ(n:Nat)=>(n:Int)))]},
 {ι:=Nat,du:=λk=>[(1,.own 0),(50,zB k)],rows:=λk=>[.own 2 1 (iE (i.add k))]}]
structure zK where
 id:Int
 side:Int
 dm:Int
 dr:Int
 top:Bool
 deriving DecidableEq
def wT (o:zK):List D:=[.v (.int .i64 o.id),.v (.int .i64 o.side),.v (.int .i64 o.dm),.v (.int .i64 o.dr),.v (.bool o.top)]
@[reducible] def Of (o:zK):V:= .agg [zB o.id,zB o.side,zB o.dm,zB o.dr,yM o.top]
def TZ:gh:=fp zK (λo=>[Of o]) i6 (λ_=>True) (λo=>yM o.top) i6
def jc (l:List zK):Int:=JH (l.findIdx? λo=>o.top)
def D8:gh:=fp (List zK) (λl=>[ox 5 (l.map wT),.fn 273 [] []]) i6 (λl=>l.length<=1000000) (λl=>zB (jc l)) i6
def y2h (l:List zK):List gu:=[{ι:=Nat,du:=λj=>[(8,zB j)],rows:=λ_=>[]}]
def y3i (i:qm):Prop:=
 ∃(a:Nat),(a:Int)=0/\iE (i.left a)=[]/\iE (ac (λ(n:Nat) ↦ (n:Int)) (i.idx a))=[]/\∃(b:Nat->Prop),∃(c:Nat->Nat),b a/\∀(d:Nat),b d->dp (decide ((d:Int)<((iE i.l).length:Int))) ((0<=(d:Int)/\(d:Int)<((iE i.l).length:Int))/\∃(e:Int),zC (iE i.l) (d:Int).toNat 0 1=ax [dI e]/\(0<=(d:Int)/\(d:Int)<((iE i.out).length:Int))/\∃(f:Int),zC (iE i.out) (d:Int).toNat 0 1=ax [dI f]/\dp (decide (e>f)) ((0<=(d:Int)/\(d:Int)<((iE i.l).length:Int))/\∃(g:Int),zC (iE i.l) (d:Int).toNat 0 1=ax [dI g]/\(0<=(d:Int)/\(d:Int)<((iE i.out).length:Int))/\∃(h:Int),zC (iE i.out) (d:Int).toNat 0 1=ax [dI h]/\((iE (i.left d)).length+1)*(8:Nat)<=(140737488355328:Nat)/\((iE (ac (λ(g:Nat) ↦ (g:Int)) (i.idx d))).length+1)*(8:Nat)<=(140737488355328:Nat)/\∃(j:Nat),(j:Int)=aa.wrap ((d:Int)+1)/\iE (i.left j)=iE (i.left d)++[[dI (aa.wrap (g-h))]]/\iE (ac (λ(g:Nat) ↦ (g:Int)) (i.idx j))=iE (ac (λ(g:Nat) ↦ (g:Int)) (i.idx d))++[[dI (d:Int)]]/\b j/\c j<c d/\dk (ar 2 1 (iE i.out))) (∃(g:Nat),(g:Int)=aa.wrap ((d:Int)+1)/\iE (i.left g)=iE (i.left d)/\iE (ac (λ(e:Nat) ↦ (e:Int)) (i.idx g))=iE (ac (λ(e:Nat) ↦ (e:Int)) (i.idx d))/\b g/\c g<c d/\dk (ar 2 1 (iE i.out)))) (∃(e:wb),iE e.l=iE (i.left d)/\e.least=i.least/\e.q=i.q/\(e.l.length<=1000000/\((-9223372036854775808)<=e.q/\e.q<=9223372036854775807)/\(-9223372036854775808)<=e.least/\e.least<=9223372036854775807)/\ff (∃(g:Nat),(g:Int)=0/\iE (i.add g)=iE i.out/\∃(h:Nat->Prop),∃(j:Nat->Nat),h g/\∀(k:Nat),h k->dp (decide ((k:Int)<((iE (j0 e)).length:Int))) ((0<=(k:Int)/\(k:Int)<((iE (j0 e)).length:Int))/\∃(l:Int),zC (iE (j0 e)) (k:Int).toNat 0 1=ax [dI l]/\(0<=(k:Int)/\(k:Int)<((iE (ac (λ(l:Nat) ↦ (l:Int)) (i.idx d))).length:Int))/\∃(m:Int),zC (iE (ac (λ(l:Nat) ↦ (l:Int)) (i.idx d))) (k:Int).toNat 0 1=ax [dI m]/\(0<=m/\m<((iE (i.add k)).length:Int))/\∃(n:Int),zC (iE (i.add k)) m.toNat 0 1=ax [dI n]/\(0<=m/\m<((iE (i.add k)).length:Int))/\m.toNat<(iE (i.add k)).length/\∃(p:Nat),(p:Int)=aa.wrap ((k:Int)+1)/\iE (i.add p)=zJ (iE (i.add k)) m.toNat 0 [dI (aa.wrap (n+l))]/\h p/\j p<j k/\dk (ar 2 1 (iE (j0 e)))/\dk (au 1 (iE (i.left d)))/\dk (ar 3 1 (iE (ac (λ(l:Nat) ↦ (l:Int)) (i.idx d))))) (dx (iE (tE i)=iE (i.add k)/\True))))
def y3f (o:zK):Prop:=
 dx (dk o.top/\True)
def yFi (l:List zK):Prop:=
 ∃(a:Nat),(a:Int)=0/\∃(b:Nat->Prop),∃(c:Nat->Nat),b a/\∀(d:Nat),b d->dp (decide ((d:Int)<((ac wT l).length:Int))) ((0<=(d:Int)/\(d:Int)<((ac wT l).length:Int))/\∃(e:Int),∃(f:Int),∃(g:Int),∃(h:Int),∃(j:Bool),zC (ac wT l) (d:Int).toNat 0 5=ax [dI e,dI f,dI g,dI h,D.v (.bool j)]/\∃(k:zK),k.id=e/\k.side=f/\k.dm=g/\k.dr=h/\k.top=j/\True/\ff (dp k.top (dx (jc l=(d:Int)/\True)) (wS d b c))) (dx (jc l=(-1)/\True))
def yZy:TZ.ok Z_ 273:=gy (V:=y3f) mixed fk 0 i6 i6 [] func273 λ(o:zK) _=>by
 unfold y3f dx;exact⟨(),rfl,Y_⟩
def yAh (i:wb):(j0 i).length=i.l.length\/j0 i=[]:=by
 rw[j0];split
 ·left;rw[wb.p1,zHa,List.length_zip,z8y];simp
 ·exact .inr rfl
def y7d {l:List zK} {k:Nat} {o:zK} (h:l[k]? =ax o):zC (l.map wT) k 0 5=ax [D.v (.int .i64 o.id),.v (.int .i64 o.side),.v (.int .i64 o.dm),.v (.int .i64 o.dr),.v (.bool o.top)]:=jz h (by simp[wT]) rfl
def yYg (l:List zK) (h:D8.dp l):yFi l:=by
 have h:l.length<=1000000:=h;unfold yFi ff dx wS kL QM dI;simp only[ib];refine⟨0,rfl,λj=>j<=l.length/\∀k<j,∀x,l[k]? =ax x->x.top=ap,λj=>l.length-j,⟨oM,λk hk=>X_⟩,?_⟩;rintro j ⟨h3,h4⟩;refine zH (λhj=> ?_) (λhj=> ?_)
 ·obtain⟨s,hs⟩:=zZ (l:=l) (i:=j) oM;refine⟨⟨oM,oM⟩,s.id,s.side,s.dm,s.dr,s.top,y7d hs,s,nh ⟨rfl,Y_,λ_ _=>W_ (λe=> ?_) (λe=> ?_)⟩⟩
  ·rw[jc,zLw hs e h4];exact kp
  ·refine⟨j+1,by rw[iw X_];rfl,⟨oM,λk hk x hx=> ?_⟩,by(first|omega|(dsimp only;omega)),gj⟩;rcases vh k j with qc|qc
   ·exact h4 k qc x hx
   ·obtain rfl:k=j:=X_
    rw[hs]at hx;cases hx;exact e
 ·rw[jc,zLj λk x hx=>h4 k (by have:=(jk.1 hx).1;omega) x hx];exact kp
def yJp:D8.ok Z_ 272:=gy mixed (dw yZy fk) 0 i6 (λl=>y2h l) [] func272 yYg
def yPf (i:qm) (j:Nat):i.idx (j+1)=i.idx j++if i.out.getD j 0<i.l.getD j 0 then[j]else[]:=by
 rw[qm.idx,IF,CL];by_cases h:i.out.getD j 0<i.l.getD j 0
 ·rw[fh h,RS (i9 h)];rfl
 ·rw[eg h,RR (i9 h)];rfl
def y6i (i:qm) {k n:Nat} (h:n∈i.idx k):n<k:=by
 have:=(vi.1 h).1;exact CJ.1 this
def yHy (i:qm) (k:Nat):(i.idx k).length<=k:=by
 have:=HK (λn=>decide (i.out.getD n 0<i.l.getD n 0)) (am k);rw[List.length_range]at this;exact this
def z5q:∀(z:List (Nat×Int)) (o:List Int),(z.foldl (λo y=>o.set y.1 (aa.wrap (o.getD y.1 0+y.2))) o).length=o.length
 |[],_=>rfl
 |y::z,o=>by rw[Be,z5q z,qj]
def xHq (i:qm) (h:KQ.dp i):y3i i:=by
 obtain⟨hl,ho,hq,hle,hb⟩:i.ok:=h;unfold y3i ff dx dI;simp only[y9,ib];have hil:∀j,(i.left j).length=(i.idx j).length:=λj=>ib _
 refine⟨0,i7,i7,i7,λj=>j<=i.l.length,λj=>i.l.length-j,ml _,λj hj=>zH (λc=> ?_) (λc=> ?_)⟩
 ·have oz:j<i.l.length:=X_
  obtain⟨n,hn⟩:=zZ (l:=i.l) (i:=j) oz;obtain⟨o,HZ⟩:=zZ (l:=i.out) (i:=j) oM;have bj:=hb j;rw[zX hn,zX HZ]at bj;have is:=yPf i j;rw[zX hn,zX HZ]at is;have il:=yHy i j;refine⟨⟨oM,oM⟩,n,rq hn,⟨oM,oM⟩,o,rq HZ,zH (λa=> ?_) (λa=> ?_)⟩
  ·rw[fh X_]at is;refine⟨⟨oM,oM⟩,n,rq hn,⟨oM,oM⟩,o,rq HZ,by rw[hil];omega,oM,j+1,pf oM,?_,?_,oz,Z9,gj⟩
   ·rw[iw X_,qm.left,is,jh];simp[iE,qm.left,hn,HZ]
   ·rw[is];simp[iE]
  ·rw[eg X_,oQ]at is;exact⟨j+1,pf oM,by rw[qm.left,is];rfl,by rw[is],oz,Z9,gj⟩
 have F2:j=i.l.length:=X_
 subst F2;have il:=yHy i i.l.length;refine⟨⟨i.left i.l.length,i.least,i.q⟩,rfl,rfl,rfl,⟨by dsimp only;rw[hil];omega,hq,hle⟩,λ_ _=> ?_⟩;have epl:j0 ⟨i.left i.l.length,i.least,i.q⟩=i.pl:=rfl;rw[epl];have zm:i.pl.length<=(i.idx i.l.length).length:=by
  rcases yAh ⟨i.left i.l.length,i.least,i.q⟩with e|e
  ·rw[epl]at e;rw[e];dsimp only;rw[hil];exact jx _
  ·rw[epl]at e;rw[e];exact ml _
 have Cq:∀k,(i.add k).length=i.out.length:=λk=>z5q _ _
 refine⟨0,i7,i7,λk=>k<=i.pl.length,λk=>i.pl.length-k,ml _,λk hk=>zH (λc=> ?_) (λc=> ?_)⟩
 ·have qc:k<i.pl.length:=X_
  obtain⟨x,hx⟩:=zZ (l:=i.pl) (i:=k) qc;obtain⟨n,hn⟩:=zZ (l:=i.idx i.l.length) (i:=k) oM;have Sr:=y6i i (kx hn);obtain⟨y,hy⟩:=zZ (l:=i.add k) (i:=n) (by rw[Cq];omega);have ea:i.add (k+1)=(i.add k).set n (aa.wrap (y+x)):=by
   have hz:((i.idx i.l.length).zip i.pl)[k]? =ax (n,x):=by rw[RT];exact⟨hn,hx⟩
   have ey:(i.add k).getD n 0=y:=zX hy;rw[qm.add,qf,hz,IG];show(i.add k).set n (aa.wrap ((i.add k).getD n 0+x))=_;rw[ey]
  have hnm:((i.idx i.l.length).map λ(n:Nat)=>(n:Int))[k]? =ax (n:Int):=by rw[ra,hn];rfl
  rw[Cq];refine⟨⟨oM,oM⟩,x,rq hx,⟨oM,oM⟩,n,rq hnm,⟨oM,oM⟩,y,rq hy,⟨oM,oM⟩,oM,k+1,pf oM,?_,qc,Z9,gj⟩;rw[ea,ov,Xa hy]
 ·have Co:k=i.pl.length:=X_
  subst Co;exact⟨(),rfl,Y_⟩
def yEc:KQ.ok Z_ 293:=gy mixed (dw yOx fk) 0 i6 (λi=>xGl i) [] func293 xHq
structure vu where
 l:List Int
 top:Int
 most:Int
 least:Int
 q:Int
def vu.first (i:vu):Int:=min (min (i.l.getD i.top.toNat 0) i.most) i.q
def vu.rs (i:vu):qm:=if 0<=i.top/\i.top<i.l.length then⟨i.l,(af i.l.length 0).set i.top.toNat i.first,i.least,i.q-i.first⟩else⟨i.l,af i.l.length 0,i.least,i.q⟩
def Dn (i:vu):List Int:=if y5 i.l i.q=ao/\1<=i.least/\0<=i.most then tE i.rs else[]
def Tf:gh:=fp vu (λi=>[iV i.l,zB i.top,zB i.most,zB i.least,zB i.q]) i6 (λi=>i.l.length<=1000000/\gx i.q/\gx i.least/\gx i.most) (λ_=> .own 0) (λi=>[.own 2 1 (iE (Dn i))])
structure Kz where
 l:List Int
 part:Int
 least:Int
 q:Int
def Kz.rs (i:Kz):qm:=⟨i.l,fG i.l (i.q*i.part / 100),i.least,i.q-i.q*i.part / 100⟩
def Cz (i:Kz):List Int:=if y5 i.l i.q=ao/\0<=i.part/\i.part<=100/\1<=i.least then tE i.rs else[]
def Tb:gh:=fp Kz (λi=>[iV i.l,zB i.part,zB i.least,zB i.q]) i6 (λi=>i.l.length<=1000000/\gx i.q/\gx i.least/\gx i.part) (λ_=> .own 0) (λi=>[.own 2 1 (iE (Cz i))])
def VN (a:qm):Prop:=a.l.length<=250/\a.out.length=a.l.length/\((-9223372036854775808)<=a.q/\a.q<=9223372036854775807)/\((-9223372036854775808)<=a.least/\a.least<=9223372036854775807)/\∀(b:Nat),0<=a.out.getD b 0/\a.out.getD b 0<=a.l.getD b 0/\a.l.getD b (0:Int)<=(1000000:Int)
def Zo (a:qm) (b:vu):Prop:=(VN a)/\ff (dx (iE (Dn b)=iE (tE a)/\True))
def ZH (a:vu):Prop:=∃(b:qm),iE b.l=iE a.l/\b.least=a.least/\b.q=a.q/\iE b.out=af ((iE a.l).length:Int).toNat [dI 0]/\Zo b a
def P6 (a:vu):=(af ((iE a.l).length:Int).toNat [dI 0])
def Y7 (a:vu) (b:Int):=(zJ (P6 a) a.top.toNat 0 [dI (min (min b a.most) a.q)])
def xCm (i:vu):Prop:=
 ∃(a:Cu),iE a.l=iE i.l/\a.q=i.q/\(vE a)/\ff (dp (!y5 a.l a.q) (dx (iE (Dn i)=[]/\True)) (dp (decide (i.least<1)) (dx (iE (Dn i)=[]/\True)) (dp (decide (i.most<0)) (dx (iE (Dn i)=[]/\True)) ((0<=((iE i.l).length:Int)/\((iE i.l).length:Int)<=((iE i.l).length:Int)/\((iE i.l).length:Int)<=9223372036854775807/\((8:Nat):Int)*((iE i.l).length:Int)<=2 ^ (48:Nat))/\dp (decide (i.top>=0)) (dp (decide (i.top<((iE i.l).length:Int))) ((0<=i.top/\i.top<((iE i.l).length:Int))/\∃(c:Int),zC (iE i.l) i.top.toNat 0 1=ax [dI c]/\(0<=i.top/\i.top<((P6 i).length:Int))/\i.top.toNat<(P6 i).length/\(0<=i.top/\i.top<((Y7 i c).length:Int))/\∃(d:Int),zC (Y7 i c) i.top.toNat 0 1=ax [dI d]/\∃(e:qm),iE e.l=iE i.l/\e.least=i.least/\e.q=aa.wrap (i.q-d)/\iE e.out=zJ (P6 i) i.top.toNat 0 [dI (min (min c i.most) i.q)]/\Zo e i) (ZH i)) (ZH i)))))
def xGy (i:Kz):Prop:=
 ∃(a:Cu),iE a.l=iE i.l/\a.q=i.q/\(vE a)/\ff (dp (!y5 a.l a.q) (dx (iE (Cz i)=[]/\True)) (dp (decide (i.part<0)) (dx (iE (Cz i)=[]/\True)) (dp (decide (i.part>100)) (dx (iE (Cz i)=[]/\True)) (dp (decide (i.least<1)) (dx (iE (Cz i)=[]/\True)) (∃(c:MF),c.a=i.q/\c.b=i.part/\c.c=100/\(0<=c.a/\c.a<=(2000000000:Int)/\(0:Int)<=c.b/\c.b<=(2000000000:Int)/\(1:Int)<=c.c/\c.c<=2000000000)/\ff (∃(e:Cu),iE e.l=iE i.l/\e.q=c.a*c.b / c.c/\(vE e)/\ff (∃(g:qm),iE g.l=iE i.l/\g.least=i.least/\g.q=aa.wrap (i.q-c.a*c.b / c.c)/\iE g.out=iE (fG e.l e.q)/\(VN g)/\ff (dx (iE (Cz i)=iE (tE g)/\True)))))))))
def ySk {l:List Int} {q r:Int} (h:y5 l q=ao) (h0:0<=r) (h1:r<=q):y5 l r=ao:=by
 obtain⟨a,b,c,d⟩:=j9 h;have e:(l.all λn=>decide (1<=n) && decide (n<=1000000))=ao:=by
  rw[Ej];intro x hx;simpa using c x hx
 rw[y5,e,jt a,jt h0,jt (show r<=l.sum by omega)];rfl
def getD_none {l:List Int} {n:Nat} (h:l[n]? =none):l.getD n 0=0:=by rw[mz,h];rfl
def zFx {l:List Int} {q:Int} (h:y5 l q=ao) (n:Nat):0<=l.getD n 0/\l.getD n 0<=1000000:=by
 cases hn:l[n]? with
 |none=>rw[getD_none hn];decide
 |some x=>rw[zX hn];have:=(j9 h).2.2.1 x (kx hn);omega
def yLh {l:List Int} {q:Int} (h:y5 l q=ao) (n:Nat):0<=(fG l q).getD n 0/\(fG l q).getD n 0<=l.getD n 0:=by
 rw[fG,fh h];obtain⟨a,b,c,d⟩:=j9 h;cases hn:l[n]? with
 |none=>
  have:(gZ l q)[n]? =none:=by rw[XV,P4];exact XV.1 hn
  rw[getD_none hn,getD_none this];decide
 |some x=>
  rw[zX hn,zX (Za l q n x hn)];have:=zLx l q n b (λy hy=>by have:=c y hy;omega);have:=c x (kx hn);omega
def xKn (i:Kz) (h:Tb.dp i):xGy i:=by
 obtain⟨hl,hq,hle,Yi⟩:i.l.length<=1000000/\gx i.q/\gx i.least/\gx i.part:=h;unfold xGy ff dx VN vE;have no (e:¬(y5 i.l i.q=ao/\0<=i.part/\i.part<=100/\1<=i.least)):Cz i=[]:=by rw[Cz,eg e]
 refine⟨⟨i.l,i.q⟩,rfl,rfl,⟨hl,hq⟩,λ_ _=>W_ (λc=> ?_) (λc=>zH (λd=> ?_) (λd=>zH (λe=> ?_) (λe=>zH (λf=> ?_) (λf=> ?_))))⟩
 ·have c:y5 i.l i.q=ap:=i9 c
  exact⟨(),by rw[no (by rw[c];simp)];rfl,Y_⟩
 ·exact⟨(),by rw[no X_];rfl,Y_⟩
 ·exact⟨(),by rw[no X_];rfl,Y_⟩
 ·exact⟨(),by rw[no X_];rfl,Y_⟩
 have c:y5 i.l i.q=ao:=i9 c
 obtain⟨h1,h2,h3,h4⟩:=j9 c;have uo:=U7 c;have m0:0<=i.q*i.part:=Ov h2 oM;have m1:i.q*i.part<=i.q*100:=XX oM h2;have hr:=ySk (r:=i.q*i.part / 100) c oM oM;have es:Cz i=tE i.rs:=by rw[Cz,fh ⟨c,X_,X_,X_⟩]
 refine⟨⟨i.q,i.part,100⟩,rfl,rfl,rfl,⟨Z9,Z9,Z9,Z9,Z9,Z9⟩,λ_ _=>⟨⟨i.l,i.q*i.part / 100⟩,rfl,rfl,⟨hl,Z9,Z9⟩,λ_ _=>⟨i.rs,rfl,rfl,?_,rfl,⟨h1,?_,?_,hle,?_⟩,λ_ _=>⟨(),by rw[es],Y_⟩⟩⟩⟩
 ·rw[iw V_];rfl
 ·show(fG i.l (i.q*i.part / 100)).length=i.l.length;rw[fG,fh hr,P4]
 ·show gx (i.q-i.q*i.part / 100);exact⟨oM,oM⟩
 ·intro n;have a:=yLh hr n;have b:=zFx c n;exact⟨a.1,a.2,b.2⟩
def xBb:Tb.ok Z_ 275:=gy mixed (dw VB (dw zWs (dw yJh (dw yEc fk)))) 0 i6 i6 [] func275 xKn
def y6y (n:Nat):af n [D.v (.int .i64 0)]=iE (af n 0):=by simp[iE]
def z7g (n k:Nat):(af n (0:Int)).getD k 0=0:=by
 rw[mz,RQ];split<;>rfl
def yWc (n t k:Nat) (x:Int):((af n (0:Int)).set t x).getD k 0=x/\k=t\/((af n (0:Int)).set t x).getD k 0=0:=by
 rw[mz,Ci];split
 ·rename_i e;split
  ·exact .inl ⟨rfl,e.symm⟩
  ·exact .inr rfl
 ·right;rw[<- mz];exact z7g n k
def xJy (i:vu) (h:Tf.dp i):xCm i:=by
 obtain⟨hl,hq,hle,hmo⟩:i.l.length<=1000000/\gx i.q/\gx i.least/\gx i.most:=h;unfold xCm ff dx Y7 P6 ZH Zo ff dx VN vE dI;have no (e:¬(y5 i.l i.q=ao/\1<=i.least/\0<=i.most)):Dn i=[]:=by rw[Dn,eg e]
 refine⟨⟨i.l,i.q⟩,rfl,rfl,⟨hl,hq⟩,λ_ _=>W_ (λc=> ?_) (λc=>zH (λd=> ?_) (λd=>zH (λe=> ?_) (λe=> ?_)))⟩
 ·have c:y5 i.l i.q=ap:=i9 c
  exact⟨(),by rw[no (by rw[c];simp)];rfl,Y_⟩
 ·exact⟨(),by rw[no X_];rfl,Y_⟩
 ·exact⟨(),by rw[no X_];rfl,Y_⟩
 have c:y5 i.l i.q=ao:=i9 c
 obtain⟨h1,h2,h3,h4⟩:=j9 c;have uo:=U7 c;have es:Dn i=tE i.rs:=by rw[Dn,fh ⟨c,X_,X_⟩]
 simp only[y9,ov,y6y];have out (hn:¬(0<=i.top/\i.top<(i.l.length:Int))):i.rs=⟨i.l,af i.l.length 0,i.least,i.q⟩:=by rw[vu.rs,eg hn]
 have ok0:qm.ok ⟨i.l,af i.l.length 0,i.least,i.q⟩:=⟨h1,by simp,hq,hle,λn=>by
  have:=zFx c n;dsimp only;rw[z7g];omega⟩
 refine⟨⟨oM,oM,oM,oM⟩,zH (λa=>zH (λb=> ?_) (λb=> ?_)) (λa=> ?_)⟩
 ·obtain⟨n,hn⟩:=zZ (l:=i.l) (i:=i.top.toNat) oM;have hf:i.first=min (min n i.most) i.q:=by rw[vu.first,zX hn]
  have bn:=h3 n (kx hn);have HY:(af i.l.length (0:Int))[i.top.toNat]? =ax 0:=by rw[RQ,fh X_]
  have ers:i.rs=⟨i.l,(af i.l.length 0).set i.top.toNat i.first,i.least,i.q-i.first⟩:=by rw[vu.rs,fh ⟨X_,X_⟩]
  refine⟨⟨oM,oM⟩,n,rq hn,?_⟩;rw[Xa HY,<- hf];simp only[y9,qj,HL];refine⟨⟨oM,oM⟩,oM,⟨oM,oM⟩,i.first,rq (gN HY),?_⟩;rw[iw (x:=i.q-i.first) X_];refine⟨⟨i.l,(af i.l.length 0).set i.top.toNat i.first,i.least,i.q-i.first⟩,iP ⟨rfl,⟨h1,by simp,⟨Z9,Z9⟩,hle,λk=> ?_⟩,λ_ _=>⟨(),by rw[es,ers],Y_⟩⟩⟩;have bk:=zFx c k;dsimp only;rcases yWc i.l.length i.top.toNat k i.first with⟨g,gk⟩|g
  ·rw[g,gk,zX hn];omega
  ·rw[g];omega
 ·refine⟨⟨i.l,af i.l.length 0,i.least,i.q⟩,iP ⟨rfl,ok0,λ_ _=>⟨(),by rw[es,out X_],Y_⟩⟩⟩
 ·refine⟨⟨i.l,af i.l.length 0,i.least,i.q⟩,iP ⟨rfl,ok0,λ_ _=>⟨(),by rw[es,out X_],Y_⟩⟩⟩
def y5t:Tf.ok Z_ 274:=gy mixed (dw VB (dw yEc fk)) 0 i6 i6 [] func274 xJy
structure CZ where
 p:fj
 l:List zK
 q:Int
def CZ.qs (i:CZ):List Int:=i.l.map (·.dr)
def jD (i:CZ):List Int:=if i.p.gn=1 then fG i.qs i.q else if i.p.gn=2 then Dn ⟨i.qs,jc i.l,i.p.top,i.p.least,i.q⟩else if i.p.gn=3 then Cz ⟨i.qs,i.p.part,i.p.least,i.q⟩else[]
def He:gh:=fp CZ (λi=>[nv i.p,ox 5 (i.l.map wT),zB i.q]) i6 (λi=>i.l.length<=1000/\gx i.q/\gx i.p.least/\gx i.p.top/\gx i.p.part) (λ_=> .own 0) (λi=>[.own 2 1 (iE (jD i))])
def y6r (i:CZ):List gu:=[{ι:=Nat,du:=λj=>[(7,.own 0),(13,zB j)],rows:=λj=>[.own 2 1 (iE (i.qs.take j))]}]
end Sx
