/- Texts of ours, one behind the other: a walk that the kernel reckons, and contracts of functions. No condition. -/
import Derived.Laws.Externs
import Derived.Test.YthkofaanekmpmaaGreatY5
open Go.IntKind renaming i64→aa,u64→ab
open List renaming map→ac,take→ae,replicate→af,headD_cons→ag,tail_cons→aj,drop→ak,getElem?_of_mem→am,range→ao
open Bool renaming true→ap,false→aq
open Sx.AObj renaming cells→ar,own→au,fro→av,iter→aw
open Exists renaming intro→ax
open Option renaming some→ay
open And renaming intro→az
open Go.Value renaming string→bc
open Go.Utf8 renaming decode→be
namespace Sx
set_option linter.unusedVariables false
set_option maxRecDepth 100000
open Go Cv Go.Proofs
def aQ (a:Bool→Prop) (b:Bool) (c:List UInt8) (d:Nat×Nat):Prop:=a b∧aw (sb c) (d.fst+(be (sb c) d.fst).snd)=aw (sb c) (d.fst+(be (sb c) d.fst).snd)
def x3 (a:List UInt8) (b:Nat×Nat):=(↑(be (sb a) b.fst).fst:Int)
def tR (a:List UInt8) (b:Nat×Nat) (c:Bool→Prop):Prop:=∃(d:Bool),d=!(x3 a b) !=930∧aQ c d a b
def cL (a:Bool→Prop) (b:List UInt8) (c:Nat×Nat):Prop:=∃(d:Bool),d=!false∧aQ a d b c
def z2d (s:List UInt8):Prop:=
 ∃(a:Nat×Nat),(↑a.snd:Int)=0∧sb s=sb s∧a.fst=0∧∃(b:Nat×Nat→Prop),∃(c:Nat×Nat→Nat),b a∧∀(d:Nat×Nat),b d→cnd (d.fst.blt (sb s).size) (∃(e:Bool),∃(f:Bool→Prop),cnd (decide ((x3 s d)≥65)) (cnd (decide ((x3 s d)≤90)) (∃(g:Bool),g=!true∧aQ f g s d) (cnd (decide ((x3 s d)≥913)) (cnd (decide ((x3 s d)≤937)) (tR s d f) (cL f s d)) (cL f s d))) (cnd (decide ((x3 s d)≥913)) (cnd (decide ((x3 s d)≤937)) (tR s d f) (cL f s d)) (cL f s d))∧∀(g:Bool),f g→cnd g (∃(h:Unit),j0 s=aq∧True) (fX d s b c)) (cnd (decide ((↑d.snd:Int)≥1)) (∃(e:Unit),j0 s=decide ((↑d.snd:Int)≤4)∧True) (∃(e:Unit),j0 s=aq∧True))
def m5 (a:Prd):Prop:=ar [V.d (uJ a),V.own 0,V.d (dI a.tick),V.d (dI a.low),V.d (dI a.high),V.d (dI a.wide),V.d (dI a.rule),V.d (dI a.top),V.d (dI a.least),V.d (dI a.part),V.own ((0:Nat)+(1:Nat))] 25=ar [V.d (uJ a),V.own 0,V.d (dI a.tick),V.d (dI a.low),V.d (dI a.high),V.d (dI a.wide),V.d (dI a.rule),V.d (dI a.top),V.d (dI a.least),V.d (dI a.part),V.own ((0:Nat)+(1:Nat))] 25∧bN a
def sL (a:Nat) (b:Nat→Prop) (c:Nat→Nat) (d:Prd):Prop:=∃(e:Nat),(↑e:Int)=aa.wrap ((↑a:Int)+1)∧b e∧c e<c a∧m5 d
def sJ (a:Bool→Prop) (b:Prd) (c:Nat) (d:Nat→Prop) (e:Nat→Nat):Prop:=∀(f:Bool),a f→cnd f (∃(g:Unit),b.check=1∧True) (sL c d e b)
def kC (a:Bool→Prop) (b:Bool) (c:Prd):Prop:=a b∧m5 c
def yV (a:Bool→Prop) (b:Prd):Prop:=∃(c:Bool),c=ap∧kC a c b
def zVj (p:Prd):Prop:=
 ∃(a:List UInt8),sb a=sb p.code∧a.length≤1099511627776∧∀(b:Unit),True→cnd (!j0 a) (∃(c:Unit),p.check=12∧True) (∃(c:Bool),∃(d:Bool→Prop),cnd (decide ((xA p)<2)) (yV d p) (∃(e:Bool),e=decide ((xA p)>6)∧kC d e p)∧∀(e:Bool),d e→cnd e (∃(f:Unit),p.check=1∧True) (∃(f:Nat),(↑f:Int)=0∧∃(g:Nat→Prop),∃(h:Nat→Nat),g f∧∀(j:Nat),g j→cnd (decide ((↑j:Int)<(xA p))) (∃(k:Bool),∃(l:Bool→Prop),((0≤(↑j:Int)∧(↑j:Int)<(xA p))∧∃(m:Int),zE (iE p.months) (↑j:Int).toNat 0 1=ay [dI m]∧cnd (decide (m<0)) (yV l p) ((0≤(↑j:Int)∧(↑j:Int)<(xA p))∧∃(n:Int),zE (iE p.months) (↑j:Int).toNat 0 1=ay [dI n]∧cnd (decide (n>1199)) (yV l p) (cnd (decide ((↑j:Int)>0)) ((0≤aa.wrap ((↑j:Int)-1)∧aa.wrap ((↑j:Int)-1)<(xA p))∧∃(q:Int),zE (iE p.months) (aa.wrap ((↑j:Int)-1)).toNat 0 1=ay [dI q]∧(0≤(↑j:Int)∧(↑j:Int)<(xA p))∧∃(r:Int),zE (iE p.months) (↑j:Int).toNat 0 1=ay [dI r]∧∃(s:Bool),s=decide (q≥r)∧kC l s p) (∃(q:Bool),q=aq∧kC l q p))))∧sJ l p j g h) (∃(k:Bool),∃(l:Bool→Prop),cnd (decide (p.tick<1)) (yV l p) (cnd (decide (p.tick>1000)) (yV l p) (aa=aa∧p.tick≠0∧cnd (p.low.tmod p.tick !=0) (yV l p) (aa=aa∧p.tick≠0∧cnd (p.high.tmod p.tick !=0) (yV l p) (aa=aa∧p.tick≠0∧∃(m:Bool),m=(p.wide.tmod p.tick !=0)∧kC l m p))))∧∀(m:Bool),l m→cnd m (∃(n:Unit),p.check=22∧True) (∃(n:Nat),(↑n:Int)=0∧∃(q:Nat→Prop),∃(r:Nat→Nat),q n∧∀(s:Nat),q s→cnd (decide ((↑s:Int)<(wL p))) ((0≤(↑s:Int)∧(↑s:Int)<(wL p))∧∃(t:Int),zE (iE p.settle) (↑s:Int).toNat 0 1=ay [dI t]∧aa=aa∧p.tick≠0∧cnd (t.tmod p.tick !=0) (∃(u:Unit),p.check=22∧True) (sL s q r p)) (∃(t:Bool),∃(u:Bool→Prop),cnd (decide (p.low<(-1000000))) (yV u p) (cnd (decide (p.low≥p.high)) (yV u p) (cnd (decide (p.high>1000000)) (yV u p) (cnd (decide (p.wide<0)) (yV u p) (∃(v:Bool),v=decide (p.wide>aa.wrap (p.high-p.low))∧kC u v p))))∧∀(v:Bool),u v→cnd v (∃(w:Unit),p.check=23∧True) (cnd ((wL p) !=(xA p)) (∃(w:Unit),p.check=1∧True) (∃(w:Nat),(↑w:Int)=0∧∃(x:Nat→Prop),∃(y:Nat→Nat),x w∧∀(z:Nat),x z→cnd (decide ((↑z:Int)<(wL p))) (∃(a_1:Bool),∃(a_2:Bool→Prop),((0≤(↑z:Int)∧(↑z:Int)<(wL p))∧∃(a_3:Int),zE (iE p.settle) (↑z:Int).toNat 0 1=ay [dI a_3]∧cnd (decide (a_3<p.low)) (yV a_2 p) ((0≤(↑z:Int)∧(↑z:Int)<(wL p))∧∃(a_4:Int),zE (iE p.settle) (↑z:Int).toNat 0 1=ay [dI a_4]∧∃(a_5:Bool),a_5=decide (a_4>p.high)∧kC a_2 a_5 p))∧sJ a_2 p z x y) (∃(a_1:Bool),∃(a_2:Bool→Prop),cnd (decide (p.rule<1)) (yV a_2 p) (∃(a_3:Bool),a_3=decide (p.rule>3)∧kC a_2 a_3 p)∧∀(a_3:Bool),a_2 a_3→cnd a_3 (∃(a_4:Unit),p.check=31∧True) (∃(a_4:Bool),∃(a_5:Bool→Prop),cnd (decide (p.top<0)) (yV a_5 p) (cnd (decide (p.top>1000000)) (yV a_5 p) (cnd (decide (p.least<1)) (yV a_5 p) (cnd (decide (p.least>1000)) (yV a_5 p) (cnd (decide (p.part<0)) (yV a_5 p) (∃(a_6:Bool),a_6=decide (p.part>100)∧kC a_5 a_6 p)))))∧∀(a_6:Bool),a_5 a_6→cnd a_6 (∃(a_7:Unit),p.check=24∧True) (∃(a_7:Unit),p.check=0∧True))))))))))
def zUo (p:Prd):Prop:=
 ∃(a:Prd),pW a p
def gX (a:cI) (b:Nat×Nat):=(↑(yJ a.p.months.length b.fst+b.snd):Int)
def z4p (i:cI):Prop:=
 ∃(a:Prd),sb a.code=sb i.p.code∧iE a.months=iE i.p.months∧a.tick=i.p.tick∧a.low=i.p.low∧a.high=i.p.high∧a.wide=i.p.wide∧a.rule=i.p.rule∧a.top=i.p.top∧a.least=i.p.least∧a.part=i.p.part∧iE a.settle=iE i.p.settle∧(zY a)∧∀(b:Unit),True→cnd (a.check !=0) (gY i) (cnd (decide (i.n<0)) (gY i) (cnd (decide (i.n<(wX i))) (eV i) (∃(c:Nat),(uF i c)=(wX i)∧(↑c:Int)=0∧∃(d:Nat→Prop),∃(e:Nat→Nat),d c∧∀(f:Nat),d f→cnd (decide ((↑f:Int)<(wX i))) (∃(g:Nat×Nat),(gX i g)=(uF i f)∧(↑g.fst:Int)=(↑f:Int)∧(↑(g.fst+1+g.snd):Int)=aa.wrap ((↑f:Int)+1)∧∃(h:Nat×Nat→Prop),∃(j:Nat×Nat→Nat),h g∧∀(k:Nat×Nat),h k→cnd (decide ((↑(k.fst+1+k.snd):Int)<(wX i))) (cnd ((gX i k)==i.n) (∃(l:Unit),(i.p.legs i.n).fst=(↑k.fst:Int)∧(i.p.legs i.n).snd.fst=(↑(k.fst+1+k.snd):Int)∧(i.p.legs i.n).snd.snd=ap∧True) (∃(l:Nat×Nat),(gX i l)=aa.wrap ((gX i k)+1)∧(↑l.fst:Int)=(↑k.fst:Int)∧(↑(l.fst+1+l.snd):Int)=aa.wrap ((↑(k.fst+1+k.snd):Int)+1)∧h l∧j l<j k∧pK i)) (∃(l:Nat),(uF i l)=(gX i k)∧(↑l:Int)=aa.wrap ((↑k.fst:Int)+1)∧zCk d l e f i)) (gY i))))
def yU (a:WiI):Prop:=((-9223372036854775808)≤a.n∧a.n≤9223372036854775807)∧(-1000000)≤a.lo∧a.lo≤a.hi∧a.hi≤1000000
def xV (a:WiI):=(1+zI a.n a.lo a.hi)
def vR:=(D.v (Value.slice none 0 0))
def dU:=(D.v (bc (ByteArray.mk #[])))
def zGs (a:Prd):Prop:=ar (Sx.V.agg [V.d dU,V.d vR,V.d (dI 0),V.d (dI 0),V.d (dI 0),V.d (dI 0),V.d (dI 0),V.d (dI 0),V.d (dI 0),V.d (dI 0),V.d vR]).cl 25=ar (Sx.V.agg [V.d dU,V.d vR,V.d (dI 0),V.d (dI 0),V.d (dI 0),V.d (dI 0),V.d (dI 0),V.d (dI 0),V.d (dI 0),V.d (dI 0),V.d vR]).cl 25∧m5 a
def zHc (a:Prd) (b:WiI) (c:WiI) (d:WiI) (e:WiI) (f:Unit→Prop):Prop:=∃(g:WiI),g.n=a.part∧g.lo=0∧g.hi=100∧(yU g)∧∀(h:Unit),True→∃(j:Unit),sb [(206:UInt8),(169:UInt8)]=ByteArray.mk #[(206:UInt8),(169:UInt8)]∧True∧yE a=aa.wrap (xV b)∧(-20)*yE a=aa.wrap ((-20)*aa.wrap (xV b))∧100*yE a=aa.wrap (100*aa.wrap (xV b))∧(0:Int)=(0:Int)∧1+zI a.rule 0 2=aa.wrap (xV c)∧zI a.top 0 9=zI d.n d.lo d.hi∧1+zI a.least 0 4=aa.wrap (xV e)∧zI a.part 0 100=zI g.n g.lo g.hi∧True∧f j∧zGs a
def zGq (a:Prd) (b:WiI) (c:WiI) (d:WiI) (e:WiI) (f:Unit→Prop):Prop:=a.part=a.part∧zHc a b c d e f
def zGp (a:Prd) (b:WiI) (c:WiI) (d:WiI) (e:Unit→Prop):Prop:=a.part=a.part∧a.least=a.least∧∃(f:WiI),f.n=a.least∧f.lo=0∧f.hi=4∧(yU f)∧∀(g:Unit),True→zGq a b c d f e
def zGo (a:Prd) (b:WiI) (c:WiI) (d:Unit→Prop):Prop:=a.part=a.part∧a.least=a.least∧a.top=a.top∧∃(e:WiI),e.n=a.top∧e.lo=0∧e.hi=9∧(yU e)∧∀(f:Unit),True→zGp a b c e d
def jN (a:Prd):=(5+zI a.wide 0 60)
def yAb (x:Prd):Prop:=
 ∃(a:WiI),a.n=(xA x)∧a.lo=0∧a.hi=3∧(yU a)∧∀(b:Unit),True→∃(c:WiI),c.n=x.tick∧c.lo=0∧c.hi=9∧(yU c)∧∀(d:Unit),True→∃(e:Unit),∃(f:Unit→Prop),((∃(g:WiI),g.n=x.rule∧g.lo=0∧g.hi=2∧(yU g)∧∀(h:Unit),True→x.part=x.part∧x.least=x.least∧x.top=x.top∧(∃(j:WiI),j.n=x.top∧j.lo=0∧j.hi=9∧(yU j)∧∀(k:Unit),True→x.part=x.part∧x.least=x.least∧(∃(l:WiI),l.n=x.least∧l.lo=0∧l.hi=4∧(yU l)∧∀(m:Unit),True→x.part=x.part∧(zHc x c g j l f)∧zGq x c g j l f)∧zGp x c g j f)∧zGo x c g f)∧x.part=x.part∧x.least=x.least∧x.top=x.top∧x.rule=x.rule∧∃(g:WiI),g.n=x.rule∧g.lo=0∧g.hi=2∧(yU g)∧∀(h:Unit),True→zGo x c g f)∧∀(g:Unit),f g→∃(h:WiI),h.n=x.wide∧h.lo=0∧h.hi=60∧(yU h)∧∀(j:Unit),True→∃(k:Nat),(↑k:Int)=0∧sb [(206:UInt8),(169:UInt8)]=sb [(206:UInt8),(169:UInt8)]∧yE x=yE x∧(-20)*yE x=(-20)*yE x∧100*yE x=100*yE x∧yE x*(jN x)=aa.wrap (aa.wrap (xV c)*aa.wrap (5+zI h.n h.lo h.hi))∧1+zI x.rule 0 (2:Int)=(1:Int)+zI x.rule 0 2∧zI x.top 0 9=zI x.top 0 (9:Int)∧(1:Int)+zI x.least 0 (4:Int)=(1:Int)+zI x.least 0 4∧zI x.part 0 100=zI x.part 0 100∧iE (qX k)=[]∧iE (qF (yE x) k)=[]∧∃(l:Nat→Prop),∃(m:Nat→Nat),l k∧∀(n:Nat),l n→cnd (decide ((↑n:Int)<aa.wrap (2+zI a.n a.lo a.hi))) (((iE (qX n)).length+1)*(8:Nat)≤(140737488355328:Nat)∧((iE (qF (yE x) n)).length+1)*(8:Nat)≤(140737488355328:Nat)∧∃(p:Nat),(↑p:Int)=aa.wrap ((↑n:Int)+1)∧sb [(206:UInt8),(169:UInt8)]=sb [(206:UInt8),(169:UInt8)]∧yE x=yE x∧(-20)*yE x=(-20)*yE x∧100*yE x=100*yE x∧yE x*(jN x)=yE x*(jN x)∧1+zI x.rule 0 (2:Int)=(1:Int)+zI x.rule 0 2∧zI x.top 0 9=zI x.top 0 (9:Int)∧(1:Int)+zI x.least 0 (4:Int)=(1:Int)+zI x.least 0 4∧zI x.part 0 100=zI x.part 0 100∧iE (qX p)=iE (qX n)++[[dI (aa.wrap (aa.wrap (10*(↑n:Int))+3))]]∧iE (qF (yE x) p)=iE (qF (yE x) n)++[[dI (aa.wrap (aa.wrap (xV c)*aa.wrap (10+(↑n:Int))))]]∧l p∧m p<m n∧zGs x) (∃(p:Unit),sb [(206:UInt8),(169:UInt8)]=sb [(206:UInt8),(169:UInt8)]∧iE (qX (kN x).toNat)=iE (qX n)∧yE x=yE x∧(-20)*yE x=(-20)*yE x∧100*yE x=100*yE x∧yE x*(jN x)=yE x*(jN x)∧1+zI x.rule 0 (2:Int)=(1:Int)+zI x.rule 0 2∧zI x.top 0 9=zI x.top 0 (9:Int)∧(1:Int)+zI x.least 0 (4:Int)=(1:Int)+zI x.least 0 4∧zI x.part 0 100=zI x.part 0 100∧iE (qF (yE x) (kN x).toNat)=iE (qF (yE x) n)∧True)
set_option linter.unusedSimpArgs false
open Go Cv Go.Proofs
theorem yJv (s:List UInt8) (h:r3prodC.cnd s):z2d s:=by
 have h:s.length≤1099511627776:=h
 have hr:=zFx s
 unfold z2d cL tR x3 aQ fX
 refine⟨(0,0),rfl,rfl,rfl,fun x=>x.1≤s.length∧x.2+(gE s x.1).length=(kQ s).length∧(kQ s).all uY=((gE s x.1).all fun y=>uY y.2),fun x=>s.length-x.1,⟨by omega,by rw[kQ,y0a];simp,by rw[kQ,List.all_map];rfl⟩,?_⟩
 rintro⟨p,n⟩ ⟨h1,h2,h3⟩
 dsimp only at h1 h2 h3 ⊢
 refine Cv.cnd.mk (fun hp=> ?_) (fun hp=> ?_)
 ·have hp:p<s.length:=by simpa[y3d]using hp
  have hw:=aM s hp
  rw[wH hp,y0f]at h2
  rw[wH hp,List.all_cons]at h3
  generalize hc:(be (sb s) p).1=c at h2 h3 ⊢
  generalize hww:(be (sb s) p).2=w at h2 h3 hw ⊢
  dsimp only at h3
  have g0:∀b:Bool,(b=ap→uY c=ap)→(b=aq→uY c=aq)→b=uY c:=fun b e1 e2=>by cases b<;>simp_all
  refine⟨ap,fun b=>b= !uY c,?_,fun b hb=> ?_⟩
  ·refine zJ (fun c1=>zJ (fun c2=>⟨_,rfl,?_,k0q⟩) (fun c2=>zJ (fun c3=>zJ (fun c4=>⟨_,rfl,?_,k0q⟩) (fun c4=>⟨_,rfl,?_,k0q⟩)) (fun c3=>⟨_,rfl,?_,k0q⟩))) (fun c1=>zJ (fun c3=>zJ (fun c4=>⟨_,rfl,?_,k0q⟩) (fun c4=>⟨_,rfl,?_,k0q⟩)) (fun c3=>⟨_,rfl,?_,k0q⟩))
   all_goals congr 1
   all_goals refine g0 _ (fun e=> ?_) (fun e=> ?_)
   all_goals first|(simp[uY]at*;done)|(simp[uY]at*;omega)
  ·subst hb
   refine Cv.cnd.mk (fun e=>⟨(),?_,trivial⟩) (fun e=>⟨(p+w,n+1),?_,rfl,rfl,⟨hw.2,by(first|omega|(dsimp only;omega)),?_⟩,by(first|omega|(dsimp only;omega)),trivial⟩)
   ·have e:uY c=aq:=by simpa using e
    rw[j0,h3,e];rfl
   ·rw[w64 (by omega)];rfl
   ·have e:uY c=ap:=by simpa using e
    rw[h3,e];rfl
 ·have hp:s.length≤p:=by have:=z5j hp;simpa using this
  rw[dD hp]at h2 h3
  have h3:(kQ s).all uY=ap:=h3
  have hn:n=(kQ s).length:=by simpa using h2
  have hne:(s=[])↔(kQ s).length=0:=by
   constructor
   ·intro e;subst e;rfl
   ·intro e
    cases s with
    |nil=>rfl
    |cons b l=>
     rw[kQ,y0a,wH (by simp)]at e
     simp at e
  refine zJ (fun c=>⟨(),?_,trivial⟩) (fun c=>⟨(),?_,trivial⟩)
  ·have:¬s=[]:=by rw[hne];omega
   rw[j0,h3,y0n this,hn]
   simp only[y2y]
   congr 1
   simp only[eq_iff_iff];omega
  ·have:s=[]:=by rw[hne];omega
   rw[j0,this];rfl
theorem z7g:r3prodC.ok Tryz.prog 212:=okw mixed gok0 0 (fun _=>yHx) (fun s=>yKg s) [] Tryz.func212 yJv
theorem pJ:∀(l:List Int) (a:Int),l.foldl min a≤a∧∀x∈l,l.foldl min a≤x
 |[],a=>⟨y3p _,by simp⟩
 |b::l,a=>by
  obtain⟨h1,h2⟩:=pJ l (min a b)
  rw[y2u]
  refine⟨by omega,fun x hx=> ?_⟩
  rcases y0m.1 hx with rfl|hx
  ·omega
  ·exact h2 x hx
theorem nQ:∀(l:List Int) (a:Int),a≤l.foldl max a∧∀x∈l,x≤l.foldl max a
 |[],a=>⟨y3p _,by simp⟩
 |b::l,a=>by
  obtain⟨h1,h2⟩:=nQ l (max a b)
  rw[y2u]
  refine⟨by omega,fun x hx=> ?_⟩
  rcases y0m.1 hx with rfl|hx
  ·omega
  ·exact h2 x hx
theorem l5:∀(l:List Int) (a:Int),l.foldl min a=a∨l.foldl min a∈l
 |[],a=> .inl rfl
 |b::l,a=>by
  rw[y2u]
  rcases l5 l (min a b)with h|h
  ·rcases Int.le_total a b with e|e
   ·left;rw[h];omega
   ·right;rw[h,show min a b=b by omega];exact y0d
  ·exact .inr (y0c _ h)
theorem l6:∀(l:List Int) (a:Int),l.foldl max a=a∨l.foldl max a∈l
 |[],a=> .inl rfl
 |b::l,a=>by
  rw[y2u]
  rcases l6 l (max a b)with h|h
  ·rcases Int.le_total a b with e|e
   ·right;rw[h,show max a b=b by omega];exact y0d
   ·left;rw[h];omega
  ·exact .inr (y0c _ h)
theorem z2m {l:List Int} {x:Int} (h:x∈l):rC l≤x:=by
 cases l with
 |nil=>cases h
 |cons a l=>
  rw[rC,aj,ag]
  rcases y0m.1 h with rfl|h
  ·exact(pJ l x).1
  ·exact(pJ l a).2 x h
theorem z4h {l:List Int} {x:Int} (h:x∈l):x≤rX l:=by
 cases l with
 |nil=>cases h
 |cons a l=>
  rw[rX,aj,ag]
  rcases y0m.1 h with rfl|h
  ·exact(nQ l x).1
  ·exact(nQ l a).2 x h
theorem zXz {l:List Int} (h:l≠[]):rC l∈l:=by
 cases l with
 |nil=>exact absurd rfl h
 |cons a l=>
  rw[rC,aj,ag]
  rcases l5 l a with h|h
  ·rw[h];exact y0d
  ·exact y0c _ h
theorem zYw {l:List Int} (h:l≠[]):rX l∈l:=by
 cases l with
 |nil=>exact absurd rfl h
 |cons a l=>
  rw[rX,aj,ag]
  rcases l6 l a with h|h
  ·rw[h];exact y0d
  ·exact y0c _ h
theorem yCi (p:Prd) (h:r5checkC.cnd p):zVj p:=by
 obtain⟨h1,h2,h3⟩:p.small:=h
 unfold zVj yV kC sJ sL m5 uJ bN xA wL dI
 simp only[xD]
 refine⟨p.code,rfl,h1,fun _ _=>Cv.cnd.mk (fun c1=>⟨(),by rw[Prd.check,yZy c1],trivial⟩) fun c1=> ?_⟩
 have c1:j0 p.code=ap:=by simpa using c1
 have e1:p.check=if !xC p.months then 1 else if !qD p then 22 else if qB p then 23 else if xF p then 1 else if qZ p then 31 else if xW p then 24 else 0:=by
  rw[Prd.check,yZx (by simp[c1])]
 refine⟨ap,fun b=>b=(decide (p.months.length<2)||decide (p.months.length>6)),zJ (fun c=>⟨ap,rfl,?_,k0q⟩) (fun c=>⟨_,rfl,?_,k0q⟩),fun b hb=> ?_⟩
 ·rw[y0n (show p.months.length<2 by omega)];rfl
 ·rw[y0k (show ¬p.months.length<2 by omega),y5y]
  congr 1;simp only[eq_iff_iff];omega
 subst hb
 refine Cv.cnd.mk (fun c2=> ?_) (fun c2=> ?_)
 ·have:xC p.months=aq:=by
   simp only[y5z,y1z]at c2
   rw[xC]
   rcases c2 with c2|c2
   ·rw[y0k (show ¬2≤p.months.length by omega)];simp
   ·rw[y0k (show ¬p.months.length≤6 by omega)];simp
  exact⟨(),by rw[e1,yZy (by rw[this];rfl)],trivial⟩
 have c2:2≤p.months.length∧p.months.length≤6:=by
  simp only[y4l,decide_eq_false_iff_not]at c2;omega
 have em:xC p.months=(ao p.months.length).all (qL p.months):=by
  rw[xC,y0n c2.1,y0n c2.2];simp
 refine⟨0,rfl,fun j=>j≤p.months.length∧∀k<j,qL p.months k=ap,fun j=>p.months.length-j,⟨by omega,fun k hk=>by omega⟩,?_⟩
 rintro j ⟨g1,g2⟩
 refine zJ (fun hj=> ?_) (fun hj=> ?_)
 ·obtain⟨m,hm⟩:=z8 (l:=p.months) (i:=j) (by omega)
  have hmj:p.months.getD j 0=m:=zT hm
  refine⟨ap,fun b=>b= !qL p.months j,⟨⟨by omega,by omega⟩,m,elI hm,zJ (fun c=>⟨ap,rfl,?_,k0q⟩) (fun c=>⟨⟨by omega,by omega⟩,m,elI hm,zJ (fun d=>⟨ap,rfl,?_,k0q⟩) (fun d=>zJ (fun e=> ?_) (fun e=>⟨aq,rfl,?_,k0q⟩))⟩)⟩,fun b hb=> ?_⟩
  ·rw[qL,hmj,y0k (show ¬0≤m by omega)];rfl
  ·rw[qL,hmj,y0k (show ¬m≤1199 by omega)];simp
  ·obtain⟨m',hm'⟩:=z8 (l:=p.months) (i:=j-1) (by omega)
   rw[w64 (by omega),show((j:Int)-1).toNat=j-1 by omega]
   refine⟨⟨by omega,by omega⟩,m',elI hm',⟨by omega,by omega⟩,m,elI hm,_,rfl,?_,k0q⟩
   rw[qL,hmj,zT hm',y0n (show 0≤m by omega),y0n (show m≤1199 by omega),y0k (show ¬j=0 by omega)]
   simp only[y2y,y5y]
   by_cases hlt:m'<m
   ·rw[y0n hlt,y0k (by omega)];rfl
   ·rw[y0k hlt,y0n (by omega)];rfl
  ·rw[qL,hmj,y0n (show 0≤m by omega),y0n (show m≤1199 by omega),y0n (show j=0 by omega)];rfl
  ·subst hb
   refine Cv.cnd.mk (fun c=>⟨(),?_,trivial⟩) (fun c=>⟨j+1,by rw[w64 (by omega)];rfl,⟨by omega,fun k hk=> ?_⟩,by(first|omega|(dsimp only;omega)),k0q⟩)
   ·have c:qL p.months j=aq:=by simpa using c
    rw[e1,yZy (by rw[em,zQe (k:=j) (by omega) c];rfl)]
   ·have c:qL p.months j=ap:=by simpa using c
    rcases y2v k j with h|h
    ·exact g2 k h
    ·obtain rfl:k=j:=by omega
     exact c
 have em:xC p.months=ap:=by rw[em];exact zVf fun k hk=>g2 k (by omega)
 have e2:p.check=if !qD p then 22 else if qB p then 23 else if xF p then 1 else if qZ p then 31 else if xW p then 24 else 0:=by
  rw[e1,yZx (by simp[em])]
 have et:qD p=((decide (1≤p.tick) && decide (p.tick≤1000) && !qH p.tick p.low && !qH p.tick p.high && !qH p.tick p.wide) && !p.settle.any (qH p.tick)):=rfl
 refine⟨ap,fun b=>b= !(decide (1≤p.tick) && decide (p.tick≤1000) && !qH p.tick p.low && !qH p.tick p.high && !qH p.tick p.wide),zJ (fun d1=>⟨ap,rfl,?_,k0q⟩) (fun d1=>zJ (fun d2=>⟨ap,rfl,?_,k0q⟩) (fun d2=>⟨trivial,by omega,Cv.cnd.mk (fun d3=>⟨ap,rfl,?_,k0q⟩) (fun d3=>⟨trivial,by omega,Cv.cnd.mk (fun d4=>⟨ap,rfl,?_,k0q⟩) (fun d4=>⟨trivial,by omega,_,rfl,?_,k0q⟩)⟩)⟩)),fun b hb=> ?_⟩
 ·rw[y0k (show ¬1≤p.tick by omega)];rfl
 ·rw[y0k (show ¬p.tick≤1000 by omega)];simp
 ·have d3:qH p.tick p.low=ap:=d3
  rw[d3];simp
 ·have d4:qH p.tick p.high=ap:=d4
  rw[d4];simp
 ·have d3:qH p.tick p.low=aq:=d3
  have d4:qH p.tick p.high=aq:=d4
  rw[d3,d4,y0n (show 1≤p.tick by omega),y0n (show p.tick≤1000 by omega)]
  show qH p.tick p.wide=_
  simp
 subst hb
 refine Cv.cnd.mk (fun c3=> ?_) (fun c3=> ?_)
 ·have c3:(decide (1≤p.tick) && decide (p.tick≤1000) && !qH p.tick p.low && !qH p.tick p.high && !qH p.tick p.wide)=aq:=by
   rw[y4e]at c3
   exact c3
  exact⟨(),by rw[e2,yZy (by rw[et,c3];rfl)],trivial⟩
 have c3:(decide (1≤p.tick) && decide (p.tick≤1000) && !qH p.tick p.low && !qH p.tick p.high && !qH p.tick p.wide)=ap:=by simpa using c3
 have ht1:1≤p.tick:=by
  simp only[y0o,y1z]at c3;exact c3.1.1.1.1
 rw[c3,y2y]at et
 refine⟨0,rfl,fun j=>j≤p.settle.length∧∀k<j,∀x,p.settle[k]? =ay x→qH p.tick x=aq,fun j=>p.settle.length-j,⟨by omega,fun k hk=>by omega⟩,?_⟩
 rintro j ⟨g1,g2⟩
 refine zJ (fun hj=> ?_) (fun hj=> ?_)
 ·obtain⟨m,hm⟩:=z8 (l:=p.settle) (i:=j) (by omega)
  refine⟨⟨by omega,by omega⟩,m,elI hm,trivial,by omega,Cv.cnd.mk (fun c=>⟨(),?_,trivial⟩) (fun c=>⟨j+1,by rw[w64 (by omega)];rfl,⟨by omega,fun k hk x hx=> ?_⟩,by(first|omega|(dsimp only;omega)),k0q⟩)⟩
  ·have c:qH p.tick m=ap:=c
   have:p.settle.any (qH p.tick)=ap:=by rw[List.any_eq_true];exact⟨m,y0g hm,c⟩
   rw[e2,yZy (by rw[et,this];rfl)]
  ·rcases y2v k j with h|h
   ·exact g2 k h x hx
   ·obtain rfl:k=j:=by omega
    rw[hm]at hx;cases hx;exact c
 have et:qD p=ap:=by
  rw[et]
  have:p.settle.any (qH p.tick)=aq:=by
   rw[y6h]
   intro x hx
   obtain⟨k,hk⟩:=am hx
   rw[g2 k (by have:=(yZz.1 hk).1;omega) x hk];simp
  rw[this];rfl
 have e3:p.check=if qB p then 23 else if xF p then 1 else if qZ p then 31 else if xW p then 24 else 0:=by
  rw[e2,yZx (by simp[et])]
 refine⟨ap,fun b=>b=qB p,zJ (fun d1=>⟨ap,rfl,?_,k0q⟩) (fun d1=>zJ (fun d2=>⟨ap,rfl,?_,k0q⟩) (fun d2=>zJ (fun d3=>⟨ap,rfl,?_,k0q⟩) (fun d3=>zJ (fun d4=>⟨ap,rfl,?_,k0q⟩) (fun d4=>⟨_,rfl,?_,k0q⟩)))),fun b hb=> ?_⟩
 ·simp[qB,d1]
 ·simp[qB,d2]
 ·simp[qB,d3]
 ·simp[qB,d4]
 ·rw[w64 (by omega)];simp[qB,d1,d2,d3,d4]
 subst hb
 refine Cv.cnd.mk (fun c4=>⟨(),by rw[e3,yZy c4],trivial⟩) (fun c4=> ?_)
 have e4:p.check=if xF p then 1 else if qZ p then 31 else if xW p then 24 else 0:=by
  rw[e3,yZx (by simp[c4])]
 refine Cv.cnd.mk (fun d6=>⟨(),?_,trivial⟩) (fun d6=> ?_)
 ·have d6:¬(p.settle.length:Int)=p.months.length:=by simpa using d6
  rw[e4,yZy (by simp[xF];omega)]
 have d6:p.settle.length=p.months.length:=by
  have:(p.settle.length:Int)=p.months.length:=by simpa using d6
  omega
 have hne:p.settle≠[]:=by intro e;rw[e]at d6;simp at d6;omega
 refine⟨0,rfl,fun j=>j≤p.settle.length∧∀k<j,∀x,p.settle[k]? =ay x→p.low≤x∧x≤p.high,fun j=>p.settle.length-j,⟨by omega,fun k hk=>by omega⟩,?_⟩
 rintro j ⟨g3,g4⟩
 refine zJ (fun hj=> ?_) (fun hj=> ?_)
 ·obtain⟨m,hm⟩:=z8 (l:=p.settle) (i:=j) (by omega)
  have hmm:=y0g hm
  refine⟨ap,fun b=>b=(decide (m<p.low)||decide (m>p.high)),⟨⟨by omega,by omega⟩,m,elI hm,zJ (fun c=>⟨ap,rfl,?_,k0q⟩) (fun c=>⟨⟨by omega,by omega⟩,m,elI hm,_,rfl,?_,k0q⟩)⟩,fun b hb=> ?_⟩
  ·rw[y0n c];rfl
  ·rw[y0k c,y5y]
  ·subst hb
   refine Cv.cnd.mk (fun c=>⟨(),?_,trivial⟩) (fun c=>⟨j+1,by rw[w64 (by omega)];rfl,⟨by omega,fun k hk x hx=> ?_⟩,by(first|omega|(dsimp only;omega)),k0q⟩)
   ·have l1:=z2m hmm
    have l2:=z4h hmm
    rw[e4,yZy (by
     simp only[y5z,y1z]at c
     simp only[xF,y5z,y1z]
     rcases c with c|c
     ·left;right;omega
     ·right;omega)]
   ·rcases y2v k j with h|h
    ·exact g4 k h x hx
    ·obtain rfl:k=j:=by omega
     rw[hm]at hx;cases hx
     simp only[y4l,decide_eq_false_iff_not]at c
     omega
 have hset:xF p=aq:=by
  have all:∀x∈p.settle,p.low≤x∧x≤p.high:=fun x hx=>by
   obtain⟨k,hk⟩:=am hx
   exact g4 k (by have:=(yZz.1 hk).1;omega) x hk
  have a1:=all _ (zXz hne)
  have a2:=all _ (zYw hne)
  simp only[xF,y4l,decide_eq_false_iff_not]
  omega
 have e5:p.check=if qZ p then 31 else if xW p then 24 else 0:=by
  rw[e4,yZx (by simp[hset])]
 refine⟨ap,fun b=>b=qZ p,zJ (fun d1=>⟨ap,rfl,?_,k0q⟩) (fun d1=>⟨_,rfl,?_,k0q⟩),fun b hb=> ?_⟩
 ·simp[qZ,d1]
 ·simp[qZ,d1]
 subst hb
 refine Cv.cnd.mk (fun c6=>⟨(),by rw[e5,yZy c6],trivial⟩) (fun c6=> ?_)
 have e6:p.check=if xW p then 24 else 0:=by rw[e5,yZx (by simp[c6])]
 refine⟨ap,fun b=>b=xW p,zJ (fun d1=>⟨ap,rfl,?_,k0q⟩) (fun d1=>zJ (fun d2=>⟨ap,rfl,?_,k0q⟩) (fun d2=>zJ (fun d3=>⟨ap,rfl,?_,k0q⟩) (fun d3=>zJ (fun d4=>⟨ap,rfl,?_,k0q⟩) (fun d4=>zJ (fun d5=>⟨ap,rfl,?_,k0q⟩) (fun d5=>⟨_,rfl,?_,k0q⟩))))),fun b hb=> ?_⟩
 ·simp[xW,d1]
 ·simp[xW,d2]
 ·simp[xW,d3]
 ·simp[xW,d4]
 ·simp[xW,d5]
 ·simp[xW,d1,d2,d3,d4,d5]
 subst hb
 exact Cv.cnd.mk (fun c7=>⟨(),by rw[e6,yZy c7],trivial⟩) (fun c7=>⟨(),by rw[e6,yZx (by simp[c7])],trivial⟩)
theorem zMp:r5checkC.ok Tryz.prog 172:=okw mixed (gokc z7g gok0) 0 (fun _=>yAh) (fun _=>yCt) [] Tryz.func172 yCi
theorem nD {p:Prd} (h:p.check=0):p.count=p.months.length+p.months.length*(p.months.length-1) / 2:=by rw[Prd.count,yZy h]
theorem zMn {p:Prd} (h:p.check≠0):p.count=0:=by rw[Prd.count,yZx h]
theorem yFq (p:Prd) (h:r5countC.cnd p):zUo p:=by
 have hs:p.small:=h
 unfold zUo pW xA zY
 simp only[xD]
 refine⟨p,rfl,rfl,rfl,rfl,rfl,rfl,rfl,rfl,rfl,rfl,rfl,hs,fun _ _=>Cv.cnd.mk (fun c=>⟨(),?_,trivial⟩) (fun c=>⟨trivial,by decide,(),?_,trivial⟩)⟩
 ·rw[zMn (by simpa using c)];rfl
 ·have c:p.check=0:=by simpa using c
  have m6:=(jR c).m6
  have m2:=(jR c).m2
  rw[nD c]
  generalize p.months.length=n at*
  have:n=2∨n=3∨n=4∨n=5∨n=6:=by omega
  rcases this with rfl|rfl|rfl|rfl|rfl<;>decide
theorem zZw:r5countC.ok Tryz.prog 118:=okw mixed (gokc zMp gok0) 0 (fun _=>[]) (fun _=>[]) [] Tryz.func118 yFq
theorem yFo:∀n≤6,∀a<n,∀b<n-1-a,kK n (yJ n a+b) n 0=((a:Int),((a+1+b:Nat):Int),ap)∧yJ n a+b<n+n*(n-1) / 2∧n≤yJ n a+b:=by decide
theorem z6k:∀n≤6,yJ n n=n+n*(n-1) / 2:=by decide
theorem yJq {p:Prd} (h:p.check=0) {a b:Nat} (ha:a<p.months.length) (hb:b<p.months.length-1-a):p.legs ((yJ p.months.length a+b:Nat):Int)=((a:Int),((a+1+b:Nat):Int),ap):=by
 obtain⟨h1,h2,h3⟩:=yFo _ (jR h).m6 a ha b hb
 rw[Prd.legs,yZx (by rw[nD h];omega),yZx (by omega),y0s]
 exact h1
theorem yKs (i:cI) (h:r5legsC.cnd i):z4p i:=by
 have hs:i.p.small:=h
 unfold z4p gX zCk pK wX uF eV gY zY dI
 simp only[xD]
 refine⟨i.p,rfl,rfl,rfl,rfl,rfl,rfl,rfl,rfl,rfl,rfl,rfl,hs,fun _ _=>Cv.cnd.mk (fun c=> ?_) (fun c=>zJ (fun c1=> ?_) (fun c1=>zJ (fun c2=> ?_) (fun c2=> ?_)))⟩
 ·rw[Prd.legs,yZy (by rw[zMn (by simpa using c)];omega)];(repeat'(first|exact rfl|exact trivial|assumption|apply az|refine fun(_:Unit) (_:True)=>?_|refine ax () ?_|omega|(dsimp only;omega)))
 ·rw[Prd.legs,yZy (.inl c1)];(repeat'(first|exact rfl|exact trivial|assumption|apply az|refine fun(_:Unit) (_:True)=>?_|refine ax () ?_|omega|(dsimp only;omega)))
 ·have c:i.p.check=0:=by simpa using c
  rw[Prd.legs,yZx (by rw[nD c];omega),yZy c2];(repeat'(first|exact rfl|exact trivial|assumption|apply az|refine fun(_:Unit) (_:True)=>?_|refine ax () ?_|omega|(dsimp only;omega)))
 ·have c:i.p.check=0:=by simpa using c
  have m6:=(jR c).m6
  obtain⟨k,hk⟩:∃k:Nat,i.n=k:=⟨i.n.toNat,by omega⟩
  have sp:=fun(a b:Nat) ha hb=>yJq (p:=i.p) c (a:=a) (b:=b) ha hb
  have fe:=z6k _ m6
  have out:i.p.count≤k→i.p.legs (k:Int)=(0,0,aq):=fun e=>by rw[Prd.legs,yZy (by omega)]
  rw[nD c,← fe]at out
  rw[hk]at c2 ⊢
  generalize hn:i.p.months.length=n at*
  refine⟨0,rfl,rfl,fun m=>m≤n∧yJ n m≤k,fun m=>n-m,⟨by omega,by show n≤k;omega⟩,?_⟩
  rintro m ⟨g1,g2⟩
  have hf:=zLb m6 g1
  refine zJ (fun c4=> ?_) (fun c4=> ?_)
  ·refine⟨(m,0),rfl,rfl,by rw[w64 (by omega)];simp,fun x=>x.1=m∧x.2≤n-1-m∧yJ n m+x.2≤k,fun x=>n-1-m-x.2,⟨rfl,by(first|omega|(dsimp only;omega)),by(first|omega|(dsimp only;omega))⟩,?_⟩
   rintro⟨a,b⟩ ⟨g3,g4,g5⟩
   dsimp only at g3 g4 g5 ⊢
   subst g3
   refine zJ (fun c5=>Cv.cnd.mk (fun e=> ?_) (fun e=> ?_)) (fun c5=> ?_)
   ·have e:((yJ n a+b:Nat):Int)=(k:Int):=by simpa using e
    have:=sp a b (by omega) (by omega)
    rw[e]at this
    rw[this];(repeat'(first|exact rfl|exact trivial|assumption|apply az|refine fun(_:Unit) (_:True)=>?_|refine ax () ?_|omega|(dsimp only;omega)))
   ·have e:¬((yJ n a+b:Nat):Int)=(k:Int):=by simpa using e
    refine⟨(a,b+1),?_,rfl,?_,⟨rfl,by(first|omega|(dsimp only;omega)),by(first|omega|(dsimp only;omega))⟩,by(first|omega|(dsimp only;omega)),k0q⟩
    ·rw[w64 (by omega)];dsimp only;omega
    ·rw[w64 (by omega)];dsimp only;omega
   ·refine⟨a+1,?_,by rw[w64 (by omega)];rfl,⟨by omega,?_⟩,by(first|omega|(dsimp only;omega)),k0q⟩
    ·rw[yJ];omega
    ·rw[yJ];omega
  ·obtain rfl:m=n:=by omega
   rw[out g2];(repeat'(first|exact rfl|exact trivial|assumption|apply az|refine fun(_:Unit) (_:True)=>?_|refine ax () ?_|omega|(dsimp only;omega)))
theorem z6l:r5legsC.ok Tryz.prog 119:=okw mixed (gokc zMp gok0) 0 (fun _=>[]) (fun i=>yIw i) [] Tryz.func119 yKs
theorem zVz (x:Prd):1≤yE x∧yE x≤10:=by
 have:=xH (n:=x.tick) (lo:=0) (hi:=9) (by omega)
 rw[yE];omega
theorem yDn (x:Prd):2≤kN x∧kN x≤5:=by
 have:=xH (n:=(x.months.length:Int)) (lo:=0) (hi:=3) (by omega)
 rw[kN];omega
theorem zNl {a b m n:Int} (ha:0≤a∧a≤m) (hb:0≤b∧b≤n):0≤a*b∧a*b≤m*n:=by
 refine⟨y6i ha.1 hb.1,?_⟩
 exact Int.le_trans (Int.mul_le_mul_of_nonneg_right ha.2 hb.1) (y4z hb.2 (by omega))
theorem zTo (j:Nat):iE (qX (j+1))=iE (qX j)++[[D.v (.int .i64 (10*(j:Int)+3))]]:=by
 rw[qX,y4y,y0j,iE,y0j];rfl
theorem zSq (t:Int) (j:Nat):iE (qF t (j+1))=iE (qF t j)++[[D.v (.int .i64 (t*(10+(j:Int))))]]:=by
 rw[qF,y4y,y0j,iE,y0j];rfl
theorem sQ (j:Nat):(qX j).length=j:=by simp[qX]
theorem aV (t:Int) (j:Nat):(qF t j).length=j:=by simp[qF]
theorem ySw (x:Prd) (h:kprodC.cnd x):yAb x:=by
 obtain⟨h1,h2,h3,h4,h5,h6,h7⟩:x.raw:=h
 have hw: -1000000≤(0:Int):=by decide
 have bt:=xH (n:=x.tick) (lo:=0) (hi:=9) (by omega)
 have bw:=xH (n:=x.wide) (lo:=0) (hi:=60) (by omega)
 have br:=xH (n:=x.rule) (lo:=0) (hi:=2) (by omega)
 have bl:=xH (n:=x.least) (lo:=0) (hi:=4) (by omega)
 have bn:=xH (n:=(x.months.length:Int)) (lo:=0) (hi:=3) (by omega)
 have kt:=zVz x
 have kn:=yDn x
 have w1:aa.wrap (1+zI x.tick 0 9)=yE x:=w64 (by omega)
 have w2:aa.wrap (-20*aa.wrap (1+zI x.tick 0 9))= -20*yE x:=by rw[w1];exact w64 (by omega)
 have w3:aa.wrap (100*aa.wrap (1+zI x.tick 0 9))=100*yE x:=by rw[w1];exact w64 (by omega)
 have w4:aa.wrap (1+zI x.rule 0 2)=1+zI x.rule 0 2:=w64 (by omega)
 have w5:aa.wrap (1+zI x.least 0 4)=1+zI x.least 0 4:=w64 (by omega)
 have w6:aa.wrap (2+zI x.months.length 0 3)=kN x:=w64 (by omega)
 have mb:=zNl (a:=yE x) (b:=5+zI x.wide 0 60) (m:=10) (n:=65) (by omega) (by omega)
 have w7:aa.wrap (aa.wrap (1+zI x.tick 0 9)*aa.wrap (5+zI x.wide 0 60))=yE x*(5+zI x.wide 0 60):=by
  rw[w1,w64 (x:=5+zI x.wide 0 60) (by omega)];exact w64 (by omega)
 unfold yAb jN zGo zGp zGq zHc zGs m5 uJ bN dU vR xV yU xA dI
 simp only[xD]
 refine⟨⟨x.months.length,0,3⟩,rfl,rfl,rfl,⟨⟨by dsimp only;omega,by dsimp only;omega⟩,by dsimp only;omega,by dsimp only;omega,by dsimp only;omega⟩,fun _ _=>⟨⟨x.tick,0,9⟩,rfl,rfl,rfl,⟨h1,by dsimp only;omega,by dsimp only;omega,by dsimp only;omega⟩,fun _ _=> ?_⟩⟩
 dsimp only
 refine⟨(),fun _=>True,?_,fun _ _=> ?_⟩
 ·repeat'(first|exact trivial|exact rfl|exact w1.symm|exact w2.symm|exact w3.symm|exact w4.symm|exact w5.symm|apply az|refine⟨⟨x.rule,0,2⟩,rfl,rfl,rfl,⟨h3,by dsimp only;omega,by dsimp only;omega,by dsimp only;omega⟩,fun _ _=> ?_⟩|refine⟨⟨x.top,0,9⟩,rfl,rfl,rfl,⟨h4,by dsimp only;omega,by dsimp only;omega,by dsimp only;omega⟩,fun _ _=> ?_⟩|refine⟨⟨x.least,0,4⟩,rfl,rfl,rfl,⟨h5,by dsimp only;omega,by dsimp only;omega,by dsimp only;omega⟩,fun _ _=> ?_⟩|refine⟨⟨x.part,0,100⟩,rfl,rfl,rfl,⟨h6,by dsimp only;omega,by dsimp only;omega,by dsimp only;omega⟩,fun _ _=> ?_⟩|refine⟨(),?_⟩)
 ·refine⟨⟨x.wide,0,60⟩,rfl,rfl,rfl,⟨h2,by dsimp only;omega,by dsimp only;omega,by dsimp only;omega⟩,fun _ _=> ?_⟩
  dsimp only
  rw[w7,w6]
  refine⟨0,by(first|exact rfl|exact trivial),by(first|exact rfl|exact trivial),by(first|exact rfl|exact trivial),by(first|exact rfl|exact trivial),by(first|exact rfl|exact trivial),by(first|exact rfl|exact trivial),by(first|exact rfl|exact trivial),by(first|exact rfl|exact trivial),by(first|exact rfl|exact trivial),by(first|exact rfl|exact trivial),by(first|exact rfl|exact trivial),by(first|exact rfl|exact trivial),fun j=>j≤(kN x).toNat,fun j=>(kN x).toNat-j,by omega,?_⟩
  intro j hj
  rw[sQ,aV]
  refine zJ (fun c=>⟨by omega,by omega,j+1,by rw[w64 (by omega)];rfl,by(first|exact rfl|exact trivial),by(first|exact rfl|exact trivial),by(first|exact rfl|exact trivial),by(first|exact rfl|exact trivial),by(first|exact rfl|exact trivial),by(first|exact rfl|exact trivial),by(first|exact rfl|exact trivial),by(first|exact rfl|exact trivial),by(first|exact rfl|exact trivial),?_,?_,by(first|omega|(dsimp only;omega)),by(first|omega|(dsimp only;omega)),k0q⟩) (fun c=>⟨(),?_⟩)
  ·rw[zTo,w64 (x:=10*(j:Int)) (by omega),w64 (by omega)]
  ·have mj:=zNl (a:=yE x) (b:=10+(j:Int)) (m:=10) (n:=20) (by omega) (by omega)
   rw[zSq,w1,w64 (x:=10+(j:Int)) (by omega),w64 (by omega)]
  ·have e:(kN x).toNat=j:=by omega
   rw[e];(repeat'(first|exact trivial|exact rfl|apply az))
theorem kprod_ok:kprodC.ok Tryz.prog 12:=okw mixed (gokc within_ok gok0) 0 (fun x=>yOl x) (fun x=>yRp x) [] Tryz.func12 ySw
open Go Cv Go.Proofs
structure Cmd where
 kind:Int
 id:Int
 inst:Int
 side:Int
 price:Int
 qty:Int
 least:Int
 time:Int
 label:List UInt8
 deriving DecidableEq
@[reducible] def Cmd.cells (c:Cmd):List V:=[zA c.kind,zA c.id,zA c.inst,zA c.side,zA c.price,zA c.qty,zA c.least,zA c.time,sV c.label]
@[reducible] def zOo (c:Cmd):V:= .agg c.cells
def cmdE (c:Cmd):List D:=[.v (.int .i64 c.kind),.v (.int .i64 c.id),.v (.int .i64 c.inst),.v (.int .i64 c.side),.v (.int .i64 c.price),.v (.int .i64 c.qty),.v (.int .i64 c.least),.v (.int .i64 c.time),.v (.string (sb c.label))]
@[reducible] def Cmd.raw (c:Cmd):Prop:=yO c.kind∧yO c.id∧yO c.inst∧yO c.side∧yO c.price∧yO c.qty∧yO c.least∧yO c.time
structure TmI where
 p:Prd
 c:Cmd
 i:Int
def a9 (c:Cmd):Int:=if 4<1+zI c.kind 0 8 then 1 else 1+zI c.kind 0 8
def y9 (t:TmI):Cmd:=⟨a9 t.c,1+zI t.c.id 0 30,zI t.c.inst 0 (t.p.count-1),1+zI t.c.side 0 1,t.p.tick*zI t.c.price 0 9,1+zI t.c.qty 0 11,0,0,[]⟩
def mG (c:Cmd):Int:=if c.time.tmod 5=3 then 3 else if c.time.tmod 5=2 then 2 else 1
def tZ (c:Cmd) (q:Int):Int:=if c.least.tmod 4=1 then zI c.least 0 q else 0
def qP (t:TmI):Cmd:=
 let h:=y9 t
 if h.kind=1 then{h with id:=t.i+1,time:=mG t.c,least:=tZ t.c h.qty,price:=if(t.p.legs h.inst).2.2=ap then h.price-4*t.p.tick else h.price+8*t.p.tick}
 else{h with price:=if h.kind=4 then h.price+5*t.p.tick else h.price,side:=0,inst:=0}
def tameC:Con:=con1 TmI (fun t=>[prdV t.p,zOo t.c,zA t.i]) (fun _=>[]) (fun t=>t.p.check=0∧t.p.small∧t.c.raw∧0≤t.i∧t.i≤1000000) (fun t=>zOo (qP t)) (fun _=>[])
def cj (k:Nat):Nat×SAnn:=(k,{ι:=Cmd,slots:=fun _=>[(7,.nm 0 0)],slots0:=fun _=>[(7,.nm 0 0)],rows0:=fun c=>[.cells c.cells 80],rows:=fun c=>[.cells c.cells 80]})
def yVx:List (Nat×SAnn):=[cj 14,cj 54,cj 62,cj 70]
open Go Cv Go.Proofs
def zCg (a:Cmd) (b:Cmd) (c:Cmd→Prop) (d:TmI):Prop:=sb a.label=sb b.label∧c a∧ar (Sx.V.agg [V.d (dI 0),V.d (dI 0),V.d (dI 0),V.d (dI 0),V.d (dI 0),V.d (dI 0),V.d (dI 0),V.d (dI 0),V.d dU]).cl 80=ar (Sx.V.agg [V.d (dI 0),V.d (dI 0),V.d (dI 0),V.d (dI 0),V.d (dI 0),V.d (dI 0),V.d (dI 0),V.d (dI 0),V.d dU]).cl 80∧ar [V.d (dI d.c.kind),V.d (dI d.c.id),V.d (dI d.c.inst),V.d (dI d.c.side),V.d (dI d.c.price),V.d (dI d.c.qty),V.d (dI d.c.least),V.d (dI d.c.time),V.d (D.v (bc (sb d.c.label)))] 80=ar [V.d (dI d.c.kind),V.d (dI d.c.id),V.d (dI d.c.inst),V.d (dI d.c.side),V.d (dI d.c.price),V.d (dI d.c.qty),V.d (dI d.c.least),V.d (dI d.c.time),V.d (D.v (bc (sb d.c.label)))] 80∧ar [V.d (D.v (bc (sb d.p.code))),V.own 0,V.d (dI d.p.tick),V.d (dI d.p.low),V.d (dI d.p.high),V.d (dI d.p.wide),V.d (dI d.p.rule),V.d (dI d.p.top),V.d (dI d.p.least),V.d (dI d.p.part),V.own ((0:Nat)+(1:Nat))] 25=ar [V.d (D.v (bc (sb d.p.code))),V.own 0,V.d (dI d.p.tick),V.d (dI d.p.low),V.d (dI d.p.high),V.d (dI d.p.wide),V.d (dI d.p.rule),V.d (dI d.p.top),V.d (dI d.p.least),V.d (dI d.p.part),V.own ((0:Nat)+(1:Nat))] 25∧av 1 (iE d.p.settle)=av 1 (iE d.p.settle)∧av 1 (iE d.p.months)=av 1 (iE d.p.months)
def zNk (a:Cmd) (b:Cmd) (c:Cmd→Prop) (d:TmI):Prop:=a.time=b.time∧zCg a b c d
def zMa (a:Cmd) (b:Cmd) (c:Cmd→Prop) (d:TmI):Prop:=a.id=b.id∧a.inst=b.inst∧a.side=b.side∧a.price=b.price∧a.qty=b.qty∧a.least=b.least∧zNk a b c d
def sM (a:Cmd) (b:Cmd→Prop) (c:TmI):Prop:=∃(d:Cmd),d.kind=a.kind∧zMa d a b c
def zFb (a:TmI) (b:WiI) (c:Cmd):Prop:=(qP a).qty=aa.wrap (xV b)∧(qP a).least=c.least∧(qP a).time=c.time∧sb (qP a).label=sb c.label∧True
def zGl (a:TmI) (b:Cmd):Prop:=(qP a).qty=b.qty∧(qP a).least=b.least∧(qP a).time=b.time∧sb (qP a).label=sb b.label∧True
def yMk (t:TmI):Prop:=
 ∃(a:WiI),a.n=t.c.kind∧a.lo=0∧a.hi=8∧(yU a)∧∀(b:Unit),True→∃(c:WiI),c.n=t.c.id∧c.lo=0∧c.hi=30∧(yU c)∧∀(d:Unit),True→∃(e:Cmd),e.kind=aa.wrap (xV a)∧e.id=aa.wrap (xV c)∧e.inst=0∧e.side=0∧e.price=0∧e.qty=0∧e.least=0∧e.time=0∧sb e.label=ByteArray.mk #[]∧∃(f:Cmd→Prop),cnd (decide (e.kind>4)) (∃(g:Cmd),g.kind=1∧zMa g e f t) (sM e f t)∧∀(g:Cmd),f g→∃(h:Prd),sb h.code=sb t.p.code∧iE h.months=iE t.p.months∧h.tick=t.p.tick∧h.low=t.p.low∧h.high=t.p.high∧h.wide=t.p.wide∧h.rule=t.p.rule∧h.top=t.p.top∧h.least=t.p.least∧h.part=t.p.part∧iE h.settle=iE t.p.settle∧(zY h)∧∀(j:Unit),True→∃(k:WiI),k.n=t.c.inst∧k.lo=0∧k.hi=aa.wrap ((↑h.count:Int)-1)∧(yU k)∧∀(l:Unit),True→∃(m:WiI),m.n=t.c.side∧m.lo=0∧m.hi=1∧(yU m)∧∀(n:Unit),True→∃(p:WiI),p.n=t.c.qty∧p.lo=0∧p.hi=11∧(yU p)∧∀(q:Unit),True→∃(r:WiI),r.n=t.c.price∧r.lo=0∧r.hi=9∧(yU r)∧∀(s:Unit),True→t.p.tick=t.p.tick∧cnd (g.kind==1) (∃(u:Cmd),u.kind=g.kind∧u.id=aa.wrap (t.i+1)∧u.inst=zI k.n k.lo k.hi∧u.side=aa.wrap (xV m)∧u.price=aa.wrap (t.p.tick*zI r.n r.lo r.hi)∧u.qty=aa.wrap (xV p)∧u.least=g.least∧u.time=1∧sb u.label=sb g.label∧∃(v:Cmd→Prop),(aa=aa∧(5:Int)≠(0:Int)∧cnd (t.c.time.tmod (5:Int)==(2:Int)) (∃(w:Cmd),w.kind=u.kind∧w.id=u.id∧w.inst=u.inst∧w.side=u.side∧w.price=u.price∧w.qty=u.qty∧w.least=u.least∧w.time=2∧zCg w u v t) (sM u v t))∧∀(w:Cmd),v w→∃(x:Cmd),x.kind=w.kind∧x.id=w.id∧x.inst=w.inst∧x.side=w.side∧x.price=w.price∧x.qty=w.qty∧x.least=w.least∧x.time=w.time∧sb x.label=sb w.label∧∃(y:Cmd→Prop),(aa=aa∧(5:Int)≠(0:Int)∧cnd (t.c.time.tmod (5:Int)==(3:Int)) (∃(z:Cmd),z.kind=x.kind∧z.id=x.id∧z.inst=x.inst∧z.side=x.side∧z.price=x.price∧z.qty=x.qty∧z.least=x.least∧z.time=3∧zCg z x y t) (sM x y t))∧∀(z:Cmd),y z→∃(a_1:Cmd),a_1.kind=z.kind∧a_1.id=z.id∧a_1.inst=z.inst∧a_1.side=z.side∧a_1.price=z.price∧a_1.qty=z.qty∧a_1.least=z.least∧a_1.time=z.time∧sb a_1.label=sb z.label∧∃(a_2:Cmd→Prop),(aa=aa∧(4:Int)≠(0:Int)∧cnd (t.c.least.tmod (4:Int)==(1:Int)) (∃(a_3:WiI),a_3.n=t.c.least∧a_3.lo=0∧a_3.hi=a_1.qty∧(yU a_3)∧∀(a_4:Unit),True→∃(a_5:Cmd),a_5.kind=a_1.kind∧a_5.id=a_1.id∧a_5.inst=a_1.inst∧a_5.side=a_1.side∧a_5.price=a_1.price∧a_5.qty=a_1.qty∧a_5.least=zI a_3.n a_3.lo a_3.hi∧zNk a_5 a_1 a_2 t) (sM a_1 a_2 t))∧∀(a_3:Cmd),a_2 a_3→∃(a_4:cI),sb a_4.p.code=sb t.p.code∧iE a_4.p.months=iE t.p.months∧a_4.p.tick=t.p.tick∧a_4.p.low=t.p.low∧a_4.p.high=t.p.high∧a_4.p.wide=t.p.wide∧a_4.p.rule=t.p.rule∧a_4.p.top=t.p.top∧a_4.p.least=t.p.least∧a_4.p.part=t.p.part∧iE a_4.p.settle=iE t.p.settle∧a_4.n=a_3.inst∧(kY a_4)∧∀(a_5:Unit),True→cnd (!(a_4.p.legs a_4.n).snd.snd) (∃(a_6:Unit),(qP t).kind=a_3.kind∧(qP t).id=a_3.id∧(qP t).inst=a_3.inst∧(qP t).side=a_3.side∧(qP t).price=aa.wrap (a_3.price+aa.wrap (8*t.p.tick))∧zGl t a_3) (∃(a_6:Unit),(qP t).kind=a_3.kind∧(qP t).id=a_3.id∧(qP t).inst=a_3.inst∧(qP t).side=a_3.side∧(qP t).price=aa.wrap (a_3.price-aa.wrap (4*t.p.tick))∧zGl t a_3)) (cnd (g.kind==4) (∃(u:Unit),(qP t).kind=g.kind∧(qP t).id=g.id∧(qP t).inst=0∧(qP t).side=0∧(qP t).price=aa.wrap (aa.wrap (t.p.tick*zI r.n r.lo r.hi)+aa.wrap (5*t.p.tick))∧zFb t p g) (∃(u:Unit),(qP t).kind=g.kind∧(qP t).id=g.id∧(qP t).inst=0∧(qP t).side=0∧(qP t).price=aa.wrap (t.p.tick*zI r.n r.lo r.hi)∧zFb t p g))
open Go Cv Go.Proofs
theorem yUc (t:TmI) (h:tameC.cnd t):yMk t:=by
 obtain⟨hc,hs,⟨r1,r2,r3,r4,r5,r6,r7,r8⟩,i0,i1⟩:t.p.check=0∧t.p.small∧t.c.raw∧0≤t.i∧t.i≤1000000:=h
 have ok:=jR hc
 have t1:=ok.t1
 have t2:=ok.t2
 have m2:=ok.m2
 have hcl:=xQ t.p
 have hcd:=nD hc
 have bk:=xH (n:=t.c.kind) (lo:=0) (hi:=8) (by omega)
 have bi:=xH (n:=t.c.id) (lo:=0) (hi:=30) (by omega)
 have bs:=xH (n:=t.c.side) (lo:=0) (hi:=1) (by omega)
 have bq:=xH (n:=t.c.qty) (lo:=0) (hi:=11) (by omega)
 have bp:=xH (n:=t.c.price) (lo:=0) (hi:=9) (by omega)
 have mb:=zNl (a:=t.p.tick) (b:=zI t.c.price 0 9) (m:=1000) (n:=9) (by omega) (by omega)
 have wp:aa.wrap (t.p.tick*zI t.c.price 0 9)=t.p.tick*zI t.c.price 0 9:=w64 (by omega)
 unfold yMk sM zMa zNk zCg dU zGl zFb xV yU zY kY dI
 refine⟨⟨t.c.kind,0,8⟩,rfl,rfl,rfl,⟨r1,by dsimp only;omega,by dsimp only;omega,by dsimp only;omega⟩,fun _ _=>⟨⟨t.c.id,0,30⟩,rfl,rfl,rfl,⟨r2,by dsimp only;omega,by dsimp only;omega,by dsimp only;omega⟩,fun _ _=> ?_⟩⟩
 dsimp only
 rw[w64 (x:=1+zI t.c.kind 0 8) (by omega),w64 (x:=1+zI t.c.id 0 30) (by omega)]
 refine⟨⟨1+zI t.c.kind 0 8,1+zI t.c.id 0 30,0,0,0,0,0,0,[]⟩,rfl,rfl,rfl,rfl,rfl,rfl,rfl,rfl,rfl,fun c=>c=⟨a9 t.c,1+zI t.c.id 0 30,0,0,0,0,0,0,[]⟩,zJ (fun e=>⟨⟨a9 t.c,1+zI t.c.id 0 30,0,0,0,0,0,0,[]⟩,?_,rfl,rfl,rfl,rfl,rfl,rfl,rfl,rfl,rfl,k0q⟩) (fun e=>⟨⟨a9 t.c,1+zI t.c.id 0 30,0,0,0,0,0,0,[]⟩,?_,rfl,rfl,rfl,rfl,rfl,rfl,rfl,rfl,rfl,k0q⟩),fun c hcc=> ?_⟩
 ·dsimp only at e ⊢;rw[a9,yZy (by omega)]
 ·dsimp only at e ⊢;rw[a9,yZx (by omega)]
 subst hcc
 refine⟨t.p,rfl,rfl,rfl,rfl,rfl,rfl,rfl,rfl,rfl,rfl,rfl,hs,fun _ _=> ?_⟩
 rw[w64 (x:=(t.p.count:Int)-1) (by omega)]
 refine⟨⟨t.c.inst,0,(t.p.count:Int)-1⟩,rfl,rfl,rfl,⟨r3,by dsimp only;omega,by dsimp only;omega,by dsimp only;omega⟩,fun _ _=>⟨⟨t.c.side,0,1⟩,rfl,rfl,rfl,⟨r4,by dsimp only;omega,by dsimp only;omega,by dsimp only;omega⟩,fun _ _=>⟨⟨t.c.qty,0,11⟩,rfl,rfl,rfl,⟨r6,by dsimp only;omega,by dsimp only;omega,by dsimp only;omega⟩,fun _ _=>⟨⟨t.c.price,0,9⟩,rfl,rfl,rfl,⟨r5,by dsimp only;omega,by dsimp only;omega,by dsimp only;omega⟩,fun _ _=>⟨rfl,?_⟩⟩⟩⟩⟩
 dsimp only
 rw[wp,w64 (x:=1+zI t.c.side 0 1) (by omega),w64 (x:=1+zI t.c.qty 0 11) (by omega),w64 (x:=t.i+1) (by omega)]
 refine Cv.cnd.mk (fun k=> ?_) (fun k=> ?_)
 ·have k:a9 t.c=1:=by simpa using k
  refine⟨{y9 t with id:=t.i+1,time:=1},rfl,rfl,rfl,rfl,rfl,rfl,rfl,rfl,rfl,fun c=>c={y9 t with id:=t.i+1,time:=if t.c.time.tmod 5=2 then 2 else 1},⟨rfl,by decide,Cv.cnd.mk (fun e=>⟨{y9 t with id:=t.i+1,time:=2},rfl,rfl,rfl,rfl,rfl,rfl,rfl,rfl,rfl,?_,k0q⟩) (fun e=>⟨{y9 t with id:=t.i+1,time:=1},rfl,rfl,rfl,rfl,rfl,rfl,rfl,rfl,rfl,?_,k0q⟩)⟩,fun c hcc=> ?_⟩
  ·have e:t.c.time.tmod 5=2:=by simpa using e
   rw[yZy e]
  ·have e:¬t.c.time.tmod 5=2:=by simpa using e
   rw[yZx e]
  subst hcc
  refine⟨{y9 t with id:=t.i+1,time:=if t.c.time.tmod 5=2 then 2 else 1},rfl,rfl,rfl,rfl,rfl,rfl,rfl,rfl,rfl,fun c=>c={y9 t with id:=t.i+1,time:=mG t.c},⟨rfl,by decide,Cv.cnd.mk (fun e=>⟨{y9 t with id:=t.i+1,time:=3},rfl,rfl,rfl,rfl,rfl,rfl,rfl,rfl,rfl,?_,k0q⟩) (fun e=>⟨{y9 t with id:=t.i+1,time:=if t.c.time.tmod 5=2 then 2 else 1},rfl,rfl,rfl,rfl,rfl,rfl,rfl,rfl,rfl,?_,k0q⟩)⟩,fun c hcc=> ?_⟩
  ·have e:t.c.time.tmod 5=3:=by simpa using e
   rw[mG,yZy e]
  ·have e:¬t.c.time.tmod 5=3:=by simpa using e
   rw[mG,yZx e]
  subst hcc
  have hq:(y9 t).qty=1+zI t.c.qty 0 11:=rfl
  refine⟨{y9 t with id:=t.i+1,time:=mG t.c},rfl,rfl,rfl,rfl,rfl,rfl,rfl,rfl,rfl,fun c=>c={y9 t with id:=t.i+1,time:=mG t.c,least:=tZ t.c (y9 t).qty},⟨rfl,by decide,Cv.cnd.mk (fun e=>⟨⟨t.c.least,0,(y9 t).qty⟩,rfl,rfl,rfl,⟨r7,by dsimp only;omega,by dsimp only;omega,by dsimp only;omega⟩,fun _ _=>⟨{y9 t with id:=t.i+1,time:=mG t.c,least:=zI t.c.least 0 (y9 t).qty},rfl,rfl,rfl,rfl,rfl,rfl,rfl,rfl,rfl,?_,k0q⟩⟩) (fun e=>⟨{y9 t with id:=t.i+1,time:=mG t.c},rfl,rfl,rfl,rfl,rfl,rfl,rfl,rfl,rfl,?_,k0q⟩)⟩,fun c hcc=> ?_⟩
  ·have e:t.c.least.tmod 4=1:=by simpa using e
   rw[tZ,yZy e]
  ·have e:¬t.c.least.tmod 4=1:=by simpa using e
   rw[tZ,yZx e];rfl
  subst hcc
  refine⟨⟨t.p,(y9 t).inst⟩,rfl,rfl,rfl,rfl,rfl,rfl,rfl,rfl,rfl,rfl,rfl,rfl,hs,fun _ _=> ?_⟩
  dsimp only
  have hp:(y9 t).price=t.p.tick*zI t.c.price 0 9:=rfl
  have hk1:(y9 t).kind=1:=k
  rw[w64 (x:=8*t.p.tick) (by omega),w64 (x:=4*t.p.tick) (by omega),w64 (x:=(y9 t).price+8*t.p.tick) (by omega),w64 (x:=(y9 t).price-4*t.p.tick) (by omega)]
  refine Cv.cnd.mk (fun e=>⟨(),?_⟩) (fun e=>⟨(),?_⟩)
  ·have e:(t.p.legs (y9 t).inst).2.2=aq:=by simpa using e
   have:qP t={y9 t with id:=t.i+1,time:=mG t.c,least:=tZ t.c (y9 t).qty,price:=(y9 t).price+8*t.p.tick}:=by
    simp only[qP,hk1,if_true,e,y0r,if_false]
   rw[this];(repeat'(first|exact trivial|exact rfl|apply az))
  ·have e:(t.p.legs (y9 t).inst).2.2=ap:=by simpa using e
   have:qP t={y9 t with id:=t.i+1,time:=mG t.c,least:=tZ t.c (y9 t).qty,price:=(y9 t).price-4*t.p.tick}:=by
    simp only[qP,hk1,if_true,e]
   rw[this];(repeat'(first|exact trivial|exact rfl|apply az))
 ·have k:¬a9 t.c=1:=by simpa using k
  have k:¬(y9 t).kind=1:=k
  rw[w64 (x:=5*t.p.tick) (by omega),w64 (x:=t.p.tick*zI t.c.price 0 9+5*t.p.tick) (by omega)]
  have et:qP t={y9 t with price:=if(y9 t).kind=4 then(y9 t).price+5*t.p.tick else(y9 t).price,side:=0,inst:=0}:=by
   simp only[qP,k,if_false]
  rw[et]
  refine Cv.cnd.mk (fun e=>⟨(),?_⟩) (fun e=>⟨(),?_⟩)
  ·have e:a9 t.c=4:=by simpa using e
   have e:(y9 t).kind=4:=e
   simp only[yZy e];(repeat'(first|exact trivial|exact rfl|apply az))
  ·have e:¬a9 t.c=4:=by simpa using e
   have e:¬(y9 t).kind=4:=e
   simp only[yZx e];(repeat'(first|exact trivial|exact rfl|apply az))
theorem yJk:tameC.ok Tryz.prog 51:=okw mixed (gokc within_ok (gokc zZw (gokc z6l gok0))) 0 (fun _=>yVx) (fun _=>[]) [] Tryz.func51 yUc
open Go Cv Go.Proofs
structure ShI where
 a:Int
 b:Int
 c:Int
def add64C:Con:=con1 ShI (fun i=>[sH i.a,sH i.b,sH i.c]) (fun _=>[]) (fun i=>0≤i.a∧0≤i.b∧0≤i.c∧i.c≤1) (fun i=> .tup [sH ((i.a+i.b+i.c) % 18446744073709551616),sH ((i.a+i.b+i.c) / 18446744073709551616)]) (fun _=>[])
theorem z7z {P : Program} {f : FuncId} {fn : Func} (hf : P.funcs[f]? = some fn) (hname : (fn.name == "runtime.NumGoroutine") = false) (hb : fn.body.isNone = true) (hn : Extern.findNext fn = none) (he : Extern.find fn = some add64Entry) : add64C.ok P f := by
 intro i hc k L E w ys R hv
 obtain⟨h1,h2,h3,h4⟩:0≤i.a∧0≤i.b∧0≤i.c∧i.c≤1:=hc
 simp only[add64C,con1,VRL,VR,DR]at hv
 obtain⟨_,_,rfl,⟨rfl,_⟩,_,_,rfl,⟨rfl,_⟩,_,_,rfl,⟨rfl,_⟩,rfl⟩:=hv
 unfold Does
 rw[run_callFunc_extern hf hname hb hn he,run_add64 i.a i.b i.c h1 h2 h3 h4]
 simp only[Result.andThen]
 refine⟨_,y1k.2 rfl,(),trivial,E,Ev.le.refl _,?_,R⟩
 simp only[add64C,con1,VR,VRL,DR]
 exact⟨_,rfl,_,_,rfl,⟨rfl,rfl⟩,_,_,rfl,⟨rfl,rfl⟩,rfl⟩
theorem z8k:add64C.ok Tryz.prog 328:=by
 refine z7z (P:=Tryz.prog) (f:=328) (fn:=Tryz.f328) Tryz.func328 ?_ ?_ ?_ ?_
 ·kernel_rfl
 ·kernel_rfl
 ·kernel_rfl
 ·kernel_rfl
structure M2 where
 a:Int
 b:Int
def mul64C:Con:=con1 M2 (fun i=>[sH i.a,sH i.b]) (fun _=>[]) (fun i=>0≤i.a∧i.a≤2000000000∧0≤i.b∧i.b≤2000000000) (fun i=> .tup [sH 0,sH (i.a*i.b)]) (fun _=>[])
def div64C:Con:=con1 M2 (fun i=>[sH 0,sH i.a,sH i.b]) (fun _=>[]) (fun i=>0≤i.a∧i.a≤4000000000000000000∧1≤i.b∧i.b≤2000000000) (fun i=> .tup [sH (i.a / i.b),sH (i.a % i.b)]) (fun _=>[])
def ishareC:Con:=con1 ShI (fun i=>[zA i.a,zA i.b,zA i.c]) (fun _=>[]) (fun i=>0≤i.a∧i.a≤2000000000∧0≤i.b∧i.b≤2000000000∧1≤i.c∧i.c≤2000000000) (fun i=> .tup [zA (i.a*i.b / i.c),yF ap]) (fun _=>[])
def isumC:Con:=con1 (List Int) (fun l=>[iV l]) (fun _=>[]) (fun l=>l.length≤1000∧∀x∈l,0≤x∧x≤1000000) (fun l=> .tup [zA l.sum,yF ap]) (fun _=>[])
def yUg (l:List Int):List SAnn:=[{ι:=Nat,slots:=fun j=>[(4,sH (l.take j).sum),(5,zA 0),(11,zA j)],rows:=fun _=>[]}]
structure LqI where
 l:List Int
 q:Int
def yS (l:List Int) (q:Int):Bool:=decide (l.length≤250) && decide (0≤q) && l.all (fun n=>decide (1≤n) && decide (n≤1000000)) && decide (q≤l.sum)
def rightC:Con:=con1 LqI (fun i=>[iV i.l,zA i.q]) (fun _=>[]) (fun i=>i.l.length≤1000000∧yO i.q) (fun i=>yF (yS i.l i.q)) (fun _=>[])
def yQp (i:LqI):List SAnn:=[{ι:=Nat,slots:=fun j=>[(5,zA (i.l.take j).sum),(17,zA j)],rows:=fun _=>[]}]
def uP:List Int→Int→List Int
 |[],_=>[]
 |n::l,q=>min n q::uP l (q-min n q)
def uX (l:List Int) (q:Int):List Int:=if yS l q=ap then uP l q else[]
def fifoC:Con:=con1 LqI (fun i=>[iV i.l,zA i.q]) (fun _=>[]) (fun i=>i.l.length≤1000000∧yO i.q) (fun _=> .own 0) (fun i=>[.own 2 1 (iE (uX i.l i.q))])
def yXs (i:LqI):List SAnn:=[{ι:=Nat,slots:=fun j=>[(5,.own 0),(1,zA (i.q-((uP i.l i.q).take j).sum)),(15,zA j)],rows:=fun j=>[.own 2 1 (iE ((uP i.l i.q).take j))]}]
open Go Cv Go.Proofs
def zBx (a:M2):=(ab.wrap (ab.wrap (pR ab a.a 32*zGj ab a.b 4294967295)+pR ab (ab.wrap (zGj ab a.a 4294967295*zGj ab a.b 4294967295)) 32))
def yDt (i:M2):Prop:=
 (0:Int)≤(32:Int)∧(0:Int)≤(32:Int)∧(0:Int)≤(32:Int)∧(0:Int)≤(32:Int)∧(0:Int)≤(32:Int)∧∃(a:Unit),0=ab.wrap (ab.wrap (ab.wrap (pR ab i.a 32*pR ab i.b 32)+pR ab (zBx i) 32)+pR ab (ab.wrap (zGj ab (zBx i) 4294967295+ab.wrap (zGj ab i.a 4294967295*pR ab i.b 32))) 32)∧i.a*i.b=ab.wrap (i.a*i.b)∧True
def yEh (i:M2):Prop:=
 cnd (i.b==0) False (cnd (decide (i.b≤0)) False (ab=ab∧i.b≠0∧ab=ab∧i.b≠0∧∃(a:Unit),i.a / i.b=ab.wrap (i.a.tdiv i.b)∧i.a % i.b=i.a.tmod i.b∧True))
def z3i (i:ShI):Prop:=
 cnd (decide (i.a<0)) (∃(a:Unit),i.a*i.b / i.c=0∧ap=aq∧True) (cnd (decide (i.b<0)) (∃(a:Unit),i.a*i.b / i.c=0∧ap=aq∧True) (cnd (decide (i.c<1)) (∃(a:Unit),i.a*i.b / i.c=0∧ap=aq∧True) (∃(a:M2),a.a=ab.wrap i.a∧a.b=ab.wrap i.b∧(0≤a.a∧a.a≤(2000000000:Int)∧(0:Int)≤a.b∧a.b≤2000000000)∧∀(b:Unit),True→cnd (decide (0≥ab.wrap i.c)) (∃(c:Unit),i.a*i.b / i.c=0∧ap=aq∧True) (∃(c:M2),(0:Int)=(0:Int)∧c.a=a.a*a.b∧c.b=ab.wrap i.c∧(0≤c.a∧c.a≤(4000000000000000000:Int)∧(1:Int)≤c.b∧c.b≤2000000000)∧∀(d:Unit),True→cnd (decide (c.a / c.b>9223372036854775807)) (∃(e:Unit),i.a*i.b / i.c=0∧ap=aq∧True) (∃(e:Unit),i.a*i.b / i.c=aa.wrap (c.a / c.b)∧ap=ap∧True)))))
def yMu (l:List Int):Prop:=
 ∃(a:Nat),(ae a l).sum=(0:Int)∧(0:Int)=0∧(↑a:Int)=0∧∃(b:Nat→Prop),∃(c:Nat→Nat),b a∧∀(d:Nat),b d→cnd (decide ((↑d:Int)<(↑(iE l).length:Int))) ((0≤(↑d:Int)∧(↑d:Int)<(↑(iE l).length:Int))∧∃(e:Int),zE (iE l) (↑d:Int).toNat 0 1=ay [dI e]∧∃(f:ShI),f.a=(ae d l).sum∧f.b=ab.wrap e∧f.c=0∧(0≤f.a∧0≤f.b∧0≤f.c∧f.c≤1)∧∀(g:Unit),True→(0:Int)≤(63:Int)∧∃(h:Nat),(ae h l).sum=(f.a+f.b+f.c) % (18446744073709551616:Int)∧(0:Int)=aa.wrap (0+aa.wrap (pR aa e 63+aa.wrap ((f.a+f.b+f.c) / (18446744073709551616:Int))))∧j7 h d b c) ((0:Int)≤(63:Int)∧cnd (0 !=pR aa (aa.wrap (ae d l).sum) 63) (∃(e:Unit),l.sum=0∧ap=aq∧True) (∃(e:Unit),l.sum=aa.wrap (ae d l).sum∧ap=ap∧True))
def yEv (i:LqI):Prop:=
 cnd (decide ((↑(iE i.l).length:Int)>250)) (∃(a:Unit),yS i.l i.q=aq∧True) (cnd (decide (i.q<0)) (∃(a:Unit),yS i.l i.q=aq∧True) (∃(a:Nat),(ae a i.l).sum=0∧(↑a:Int)=0∧∃(b:Nat→Prop),∃(c:Nat→Nat),b a∧∀(d:Nat),b d→cnd (decide ((↑d:Int)<(↑(iE i.l).length:Int))) ((0≤(↑d:Int)∧(↑d:Int)<(↑(iE i.l).length:Int))∧∃(e:Int),zE (iE i.l) (↑d:Int).toNat 0 1=ay [dI e]∧cnd (decide (e<1)) (∃(f:Unit),yS i.l i.q=aq∧True) (cnd (decide (e>1000000)) (∃(f:Unit),yS i.l i.q=aq∧True) (∃(f:Nat),(ae f i.l).sum=aa.wrap ((ae d i.l).sum+e)∧j7 f d b c))) (∃(e:Unit),yS i.l i.q=decide (i.q≤(ae d i.l).sum)∧True)))
def wA (a:LqI):Prop:=a.l.length≤(1000000:Nat)∧(-9223372036854775808:Int)≤a.q∧a.q≤9223372036854775807
def jY (a:Nat) (b:LqI):=(ae a (uP b.l b.q))
def yMp (i:LqI):Prop:=
 ∃(a:LqI),iE a.l=iE i.l∧a.q=i.q∧(wA a)∧∀(b:Unit),True→cnd (!yS a.l a.q) (∃(c:Unit),iE (uX i.l i.q)=[]∧True) (∃(c:Nat),i.q-(jY c i).sum=i.q∧(↑c:Int)=0∧iE (jY c i)=[]∧∃(d:Nat→Prop),∃(e:Nat→Nat),d c∧∀(f:Nat),d f→cnd (decide ((↑f:Int)<(↑(iE i.l).length:Int))) ((0≤(↑f:Int)∧(↑f:Int)<(↑(iE i.l).length:Int))∧∃(g:Int),zE (iE i.l) (↑f:Int).toNat 0 1=ay [dI g]∧((iE (jY f i)).length+1)*(8:Nat)≤(140737488355328:Nat)∧∃(h:Nat),i.q-(jY h i).sum=aa.wrap (i.q-(jY f i).sum-min g (i.q-(jY f i).sum))∧(↑h:Int)=aa.wrap ((↑f:Int)+1)∧iE (jY h i)=iE (jY f i)++[[dI (min g (i.q-(jY f i).sum))]]∧d h∧e h<e f∧True) (∃(g:Unit),iE (uX i.l i.q)=iE (jY f i)∧True))
open Go Cv Go.Proofs
theorem zRp {x:Int} (h0:0≤x) (h1:x<4294967296):zGj .u64 x 4294967295=x:=by
 have e:zGj .u64 x 4294967295=ab.wrap ((BitVec.ofInt 64 x &&& BitVec.ofInt 64 4294967295).toNat:Int):=rfl
 obtain⟨n,rfl⟩:=Int.eq_ofNat_of_zero_le h0
 have hn:n<4294967296:=by omega
 rw[e,BitVec.toNat_and,BitVec.ofInt_natCast,BitVec.toNat_ofNat,show(BitVec.ofInt 64 4294967295).toNat=2 ^ 32-1 by decide,Nat.and_two_pow_sub_one_eq_mod]
 rw[show n % 2 ^ 64 % 2 ^ 32=n by omega,zDd (by omega)]
theorem zJj {x:Int} (h0:0≤x) (h1:x<4294967296):pR .u64 x 32=0:=by
 have:=zCm .u64 x 32 (by decide)
 rw[show((32:Nat):Int)=32 by rfl]at this
 rw[this];omega
theorem z2k {a b m n:Int} (ha:0≤a∧a≤m) (hb:0≤b∧b≤n):0≤a*b∧a*b≤m*n:=
 ⟨y6i ha.1 hb.1,Int.mul_le_mul ha.2 hb.2 hb.1 (by omega)⟩
theorem yTw (i:M2) (h:mul64C.cnd i):yDt i:=by
 obtain⟨h1,h2,h3,h4⟩:0≤i.a∧i.a≤2000000000∧0≤i.b∧i.b≤2000000000:=h
 have hm:=z2k ⟨h1,h2⟩ ⟨h3,h4⟩
 have hs:pR ab (i.a*i.b) 32=(i.a*i.b) / 4294967296:=by
  have:=zCm .u64 (i.a*i.b) 32 (by decide)
  rw[show((32:Nat):Int)=32 by rfl]at this
  exact this
 unfold yDt zBx
 refine⟨by decide,by decide,by decide,by decide,by decide,(),?_,?_,trivial⟩
 ·rw[zRp h1 (by omega),zRp h3 (by omega),zJj h1 (by omega),zJj h3 (by omega),zDd (x:=i.a*i.b) (by omega),hs]
  simp only[Int.zero_mul,Int.mul_zero,Int.zero_add,Int.add_zero]
  rw[zDd (x:=0) (by omega)]
  simp only[Int.zero_add,Int.add_zero]
  rw[zDd (x:=i.a*i.b / 4294967296) (by omega),zJj (x:=i.a*i.b / 4294967296) (by omega) (by omega),zRp (x:=i.a*i.b / 4294967296) (by omega) (by omega),zDd (x:=i.a*i.b / 4294967296) (by omega),zJj (x:=i.a*i.b / 4294967296) (by omega) (by omega)]
  rfl
 ·rw[zDd (by omega)]
theorem yAg:mul64C.ok Tryz.prog 313:=okw mixed gok0 0 (fun _=>[]) (fun _=>[]) [] Tryz.func313 yTw
theorem yQt (i:M2) (h:div64C.cnd i):yEh i:=by
 obtain⟨h1,h2,h3,h4⟩:0≤i.a∧i.a≤4000000000000000000∧1≤i.b∧i.b≤2000000000:=h
 unfold yEh
 have hd:0≤i.a / i.b∧i.a / i.b≤i.a:=⟨Int.ediv_nonneg h1 (by omega),Int.ediv_le_self _ h1⟩
 refine Cv.cnd.mk (fun c=>absurd (eq_of_beq c) (by omega)) (fun _=>zJ (fun c=>by omega) (fun _=>⟨rfl,by omega,rfl,by omega,(),?_,?_,trivial⟩))
 ·rw[Int.tdiv_eq_ediv_of_nonneg h1,zDd (by omega)]
 ·rw[Int.tmod_eq_emod_of_nonneg h1]
theorem z9v:div64C.ok Tryz.prog 314:=okw mixed gok0 0 (fun _=>[]) (fun _=>[]) [] Tryz.func314 yQt
theorem yIn (i:ShI) (h:ishareC.cnd i):z3i i:=by
 obtain⟨h1,h2,h3,h4,h5,h6⟩:0≤i.a∧i.a≤2000000000∧0≤i.b∧i.b≤2000000000∧1≤i.c∧i.c≤2000000000:=h
 have hm:=z2k ⟨h1,h2⟩ ⟨h3,h4⟩
 have hd:0≤i.a*i.b / i.c∧i.a*i.b / i.c≤i.a*i.b:=⟨Int.ediv_nonneg hm.1 (by omega),Int.ediv_le_self _ hm.1⟩
 unfold z3i
 rw[zDd (x:=i.a) (by omega),zDd (x:=i.b) (by omega),zDd (x:=i.c) (by omega)]
 refine zJ (fun c=>by omega) (fun _=>zJ (fun c=>by omega) (fun _=>zJ (fun c=>by omega) (fun _=>⟨⟨i.a,i.b⟩,rfl,rfl,⟨h1,h2,h3,h4⟩,fun _ _=>zJ (fun c=>by omega) (fun _=>⟨⟨i.a*i.b,i.c⟩,rfl,rfl,rfl,⟨hm.1,by dsimp only;omega,h5,h6⟩,fun _ _=>zJ (fun c=>by dsimp only at c;omega) (fun _=>⟨(),?_,rfl,trivial⟩)⟩)⟩)))
 rw[w64 (by dsimp only;omega)]
theorem zQz:ishareC.ok Tryz.prog 307:=okw mixed (gokc yAg (gokc z9v gok0)) 0 (fun _=>[]) (fun _=>[]) [] Tryz.func307 yIn
theorem wjn {j:Nat} (h:j≤1000000):((j+1:Nat):Int)=aa.wrap ((j:Int)+1):=by rw[w64 (by omega)];rfl
theorem jQ {l:List Int} {j:Nat} {x:Int} (h:l[j]? =ay x):(l.take (j+1)).sum=(l.take j).sum+x:=by
 rw[y1i,h];simp
theorem jI {l:List Int} (h:∀x∈l,0≤x∧x≤1000000):∀j:Nat,0≤(l.take j).sum∧(l.take j).sum≤1000000*j
 |0=>by simp
 |j+1=>by
  have ih:=jI h j
  cases hx:l[j]? with
  |none=>
   have:l.take (j+1)=l.take j:=by
    rw[y1i,hx];simp
   rw[this];omega
  |some x=>
   have:=h x (y0g hx)
   rw[jQ hx];omega
theorem yWi (l:List Int) (h:isumC.cnd l):yMu l:=by
 obtain⟨hl,hb⟩:l.length≤1000∧∀x∈l,0≤x∧x≤1000000:=h
 unfold yMu j7 dI
 simp only[xD]
 refine⟨0,by(first|exact rfl|exact trivial),by(first|exact rfl|exact trivial),by(first|exact rfl|exact trivial),fun j=>j≤l.length,fun j=>l.length-j,y1n _,fun j hj=>zJ (fun c=> ?_) (fun c=> ?_)⟩
 ·have hj':j<l.length:=by omega
  obtain⟨x,hx⟩:=z8 (l:=l) (i:=j) hj'
  have bx:=hb x (y0g hx)
  have bs:=jI hb j
  refine⟨⟨by omega,by omega⟩,x,elI hx,⟨(l.take j).sum,x,0⟩,rfl,by rw[zDd (by omega)],rfl,⟨bs.1,bx.1,by dsimp only;omega,by dsimp only;omega⟩,fun _ _=>⟨by decide,j+1,?_,?_,wjn (by omega),hj',by dsimp only;omega,trivial⟩⟩
  ·rw[jQ hx];dsimp only;omega
  ·have e:pR aa x 63=x / 9223372036854775808:=by
    have:=zCm .i64 x 63 (by decide)
    rw[show((63:Nat):Int)=63 by rfl]at this
    exact this
   dsimp only
   rw[e,show x / 9223372036854775808=0 by omega,show((l.take j).sum+x+0) / 18446744073709551616=0 by omega]
   rfl
 ·have hj':j=l.length:=by omega
  subst hj'
  have bs:=jI hb l.length
  rw[y3n]at bs
  have e:pR aa l.sum 63=l.sum / 9223372036854775808:=by
   have:=zCm .i64 l.sum 63 (by decide)
   rw[show((63:Nat):Int)=63 by rfl]at this
   exact this
  rw[y3n,w64 (x:=l.sum) (by omega),e,show l.sum / 9223372036854775808=0 by omega]
  exact⟨by decide,Cv.cnd.mk (fun c=>absurd c (by decide)) (fun _=>⟨(),by(first|exact rfl|exact trivial),by(first|exact rfl|exact trivial),trivial⟩)⟩
theorem yKx:isumC.ok Tryz.prog 319:=okw mixed (gokc z8k gok0) 0 (fun _=>[]) (fun l=>yUg l) [] Tryz.func319 yWi
theorem ySh (i:LqI) (h:rightC.cnd i):yEv i:=by
 obtain⟨hl,hq⟩:i.l.length≤1000000∧yO i.q:=h
 unfold yEv j7 dI
 simp only[xD]
 refine zJ (fun c=>⟨(),?_,trivial⟩) (fun c1=>zJ (fun c=>⟨(),?_,trivial⟩) (fun c2=> ?_))
 ·rw[yS,y0k (by omega:¬i.l.length≤250)];rfl
 ·rw[yS,y0k (by omega:¬0≤i.q)];simp
 refine⟨0,by(first|exact rfl|exact trivial),by(first|exact rfl|exact trivial),fun j=>j≤i.l.length∧∀k<j,∀x,i.l[k]? =ay x→1≤x∧x≤1000000,fun j=>i.l.length-j,⟨y1n _,fun k hk=>absurd hk (Nat.not_lt_zero k)⟩,fun j hj=>zJ (fun c=> ?_) (fun c=> ?_)⟩
 ·obtain⟨hj0,hjb⟩:=hj
  have hj':j<i.l.length:=by omega
  obtain⟨x,hx⟩:=z8 (l:=i.l) (i:=j) hj'
  have bad (hn:¬(1≤x∧x≤1000000)):yS i.l i.q=aq:=by
   have:(i.l.all fun n=>decide (1≤n) && decide (n≤1000000))=aq:=by
    rw[List.all_eq_false]
    exact⟨x,y0g hx,by simpa using hn⟩
   rw[yS,this];simp
  have bs:0≤(i.l.take j).sum∧(i.l.take j).sum≤1000000*j:=by
   have:=jI (l:=i.l.take j) (fun y hy=>by
    obtain⟨k,hk⟩:=y2q.1 hy
    have hkj:k<j:=by
     have:=(yZz.1 hk).1
     rw[y0t]at this;omega
    rw[List.getElem?_take_of_lt hkj]at hk
    have:=hjb k hkj y hk;omega) j
   rwa [List.take_take,Nat.min_self]at this
  refine⟨⟨by omega,by omega⟩,x,elI hx,zJ (fun d=>⟨(),bad (by omega),trivial⟩) (fun d=>zJ (fun e=>⟨(),bad (by omega),trivial⟩) (fun e=>⟨j+1,?_,wjn (by omega),⟨hj',fun k hk y hy=> ?_⟩,by dsimp only;omega,trivial⟩))⟩
  ·rw[jQ hx,w64 (by omega)]
  ·by_cases hkj:k=j
   ·rw[hkj,hx]at hy;cases hy;omega
   ·exact hjb k (by omega) y hy
 ·obtain⟨hj0,hjb⟩:=hj
  have hj':j=i.l.length:=by omega
  subst hj'
  have:(i.l.all fun n=>decide (1≤n) && decide (n≤1000000))=ap:=by
   rw[y3i]
   intro y hy
   obtain⟨k,hk⟩:=y2q.1 hy
   have:=hjb k ((yZz.1 hk).1) y hk
   simpa using this
  refine⟨(),?_,trivial⟩
  rw[yS,this,y0n (by omega:i.l.length≤250),y0n (by omega:0≤i.q),y3n]
  rfl
theorem zCu:rightC.ok Tryz.prog 305:=okw mixed gok0 0 (fun _=>[]) (fun i=>yQp i) [] Tryz.func305 ySh
theorem kW {l:List Int} {q:Int} (h:yS l q=ap):l.length≤250∧0≤q∧(∀x∈l,1≤x∧x≤1000000)∧q≤l.sum:=by
 simp only[yS,y0o,y1z,y3i]at h
 exact⟨h.1.1.1,h.1.1.2,h.1.2,h.2⟩
theorem zJh {l:List Int} {q:Int} (h:yS l q=ap):q≤250000000:=by
 obtain⟨h1,h2,h3,h4⟩:=kW h
 have:=jI (l:=l) (fun x hx=>by have:=h3 x hx;omega) l.length
 rw[y3n]at this
 omega
theorem sS:∀(l:List Int) (q:Int),(uP l q).length=l.length
 |[],_=>rfl
 |n::l,q=>by rw[uP,y0f,y0f,sS l]
theorem zOd:∀(l:List Int) (q:Int) (j:Nat) (n:Int),l[j]? =ay n→(uP l q)[j]? =ay (min n (q-((uP l q).take j).sum))
 |[],_,_,_,h=>by simp at h
 |m::l,q,0,n,h=>by simp at h;subst h;simp[uP]
 |m::l,q,j+1,n,h=>by
  rw[y1r]at h
  rw[uP,y1r,zOd l _ j n h,y1j,y1l]
  congr 2;omega
theorem zGu:∀(l:List Int) (q:Int) (j:Nat),0≤q→(∀x∈l,0≤x)→0≤q-((uP l q).take j).sum∧q-((uP l q).take j).sum≤q
 |[],q,j,h,_=>by simp[uP,h]
 |m::l,q,0,h,_=>by simp[h]
 |m::l,q,j+1,h,hb=>by
  have hm:=hb m y0d
  have:=zGu l (q-min m q) j (by omega) (fun x hx=>hb x (y0c _ hx))
  rw[uP,y1j,y1l]
  omega
theorem yUd (i:LqI) (h:fifoC.cnd i):yMp i:=by
 obtain⟨hl,hq⟩:i.l.length≤1000000∧yO i.q:=h
 unfold yMp jY wA dI
 refine⟨i,rfl,rfl,⟨hl,hq⟩,fun _ _=>Cv.cnd.mk (fun c=> ?_) (fun c=> ?_)⟩
 ·have c:yS i.l i.q=aq:=by simpa using c
  refine⟨(),?_,trivial⟩
  rw[uX,yZx (by rw[c];decide)];rfl
 have c:yS i.l i.q=ap:=by simpa using c
 obtain⟨h1,h2,h3,h4⟩:=kW c
 have hq2:=zJh c
 have h3':∀x∈i.l,0≤x:=fun x hx=>by have:=h3 x hx;omega
 simp only[xD]
 refine⟨0,by simp,rfl,rfl,fun j=>j≤i.l.length,fun j=>i.l.length-j,y1n _,fun j hj=>zJ (fun d=> ?_) (fun d=> ?_)⟩
 ·have hj':j<i.l.length:=by omega
  obtain⟨x,hx⟩:=z8 (l:=i.l) (i:=j) hj'
  have bx:=h3 x (y0g hx)
  have g:=zOd i.l i.q j x hx
  have r:=zGu i.l i.q j h2 h3'
  refine⟨⟨by omega,by omega⟩,x,elI hx,by rw[y0t];omega,j+1,?_,wjn (by omega),?_,hj',by dsimp only;omega,trivial⟩
  ·rw[jQ g,w64 (by omega)];omega
  ·rw[y1i,g];simp[iE]
 ·have hj':j=i.l.length:=by omega
  subst hj'
  refine⟨(),?_,trivial⟩
  rw[uX,yZy c,y0p (by rw[sS];omega)]
theorem z3u:fifoC.ok Tryz.prog 286:=okw mixed (gokc zCu gok0) 0 (fun _=>[]) (fun i=>yXs i) [] Tryz.func286 yUd
open Go Cv Go.Proofs
structure Ent where
 slot:Int
 id:Int
 qty:Int
 top:Bool
 deriving DecidableEq
def yUy:Ent:=⟨0,0,0,aq⟩
def zIh (e:Ent):List D:=[.v (.int .i64 e.slot),.v (.int .i64 e.id),.v (.int .i64 e.qty),.v (.bool e.top)]
@[reducible] def yYp (e:Ent):V:= .agg [zA e.slot,zA e.id,zA e.qty,yF e.top]
def Slot.ent (s:Slot):Ent:=⟨s.n,s.id,s.qty,s.top⟩
def Arena.slotAt (a:Arena) (k:Nat):Slot:=a.slots.getD k slot0
def Arena.getF (a:Arena) (n:Int):Ent×Bool:=if a.usedAt n=ap then((a.slotAt n.toNat).ent,ap)else(yUy,aq)
def agetC:Con:=con1 ArN (fun i=>[.nm 0 0,zA i.n]) (fun i=>[jO i.a]) (fun i=>i.a.slots.length≤1000000) (fun i=> .tup [yYp (i.a.getF i.n).1,yF (i.a.getF i.n).2]) (fun i=>[jO i.a])
def zYa (sl:List Slot):Int→List Nat→Prop
 |at_,[]=>at_= -1
 |at_,k::l=>at_=k∧k<sl.length∧zYa sl (sl.getD k slot0).back l
structure ArL where
 a:Arena
 n:Int
 l:List Nat
def rZ (l:List Nat) (j:Nat):Int:=match l[j]? with
 |some k=>k
 |none=> -1
def Arena.ents (a:Arena) (l:List Nat):List Ent:=l.map fun k=>(a.slotAt k).ent
structure Arena.listOk (a:Arena) (n:Int) (l:List Nat):Prop where
 len:l.length≤1000000
 ch:if 0≤n∧n<a.queues.length then zYa a.slots (a.queues.getD n.toNat bT).first l else l=[]
def alistC:Con:=con1 ArL (fun i=>[.nm 0 0,zA i.n]) (fun i=>[jO i.a]) (fun i=>i.a.listOk i.n i.l) (fun _=> .own 1) (fun i=>[jO i.a,.own 326 4 ((i.a.ents i.l).map zIh)])
def yQo (i:ArL):List SAnn:=[{ι:=Nat,slots:=fun j=>[(5,.own 0),(6,zA (rZ i.l j))],rows:=fun j=>[.own 326 4 ((i.a.ents (i.l.take j)).map zIh)]}]
structure TkI where
 a:Arena
 n:Int
 qty:Int
def Arena.dropF (a:Arena) (k:Nat):Arena:=
 let s:=a.slotAt k
 let q:=a.queues.getD s.queue.toNat bT
 let sl1:=if s.ahead= -1 then a.slots else a.slots.modify s.ahead.toNat fun x=>{x with back:=s.back}
 let sl2:=if s.back= -1 then sl1 else sl1.modify s.back.toNat fun x=>{x with ahead:=s.ahead}
 ⟨sl2.set k slot0,a.queues.set s.queue.toNat ⟨if s.ahead= -1 then s.back else q.first,if s.back= -1 then s.ahead else q.last,q.total,aa.wrap (q.count-1)⟩,aa.wrap (a.free+1)⟩
def Arena.less (a:Arena) (k:Nat) (qty:Int):Arena:=
 {a with slots:=a.slots.modify k fun s=>{s with qty:=s.qty-qty},queues:=a.queues.modify (a.slotAt k).queue.toNat fun q=>{q with total:=aa.wrap (q.total-qty)}}
def Arena.takeF (a:Arena) (n qty:Int):Arena×Int:=
 if a.usedAt n=aq then(a,26)else if qty<1∨(a.slotAt n.toNat).qty<qty then(a,24)
 else if(a.slotAt n.toNat).qty=qty then((a.less n.toNat qty).dropF n.toNat,0)else(a.less n.toNat qty,0)
def Arena.okAt (a:Arena):Prop:=a.slots.length≤1000000∧∀(k:Nat) (s:Slot),a.slots[k]? =ay s→s.used=ap→(0≤s.queue∧s.queue<a.queues.length)∧s.qty≤1000000∧(s.ahead= -1∨(0≤s.ahead∧s.ahead<a.slots.length∧s.ahead≠k))∧(s.back= -1∨(0≤s.back∧s.back<a.slots.length∧s.back≠k))
def atakeC:Con:=con1 TkI (fun i=>[.nm 0 0,zA i.n,zA i.qty]) (fun i=>[jO i.a]) (fun i=>i.a.okAt) (fun i=>zA (i.a.takeF i.n i.qty).2) (fun i=>[jO (i.a.takeF i.n i.qty).1])
open Go Cv Go.Proofs
def eU (a:ArN):Prop:=∃(b:Unit),(a.a.getF a.n).fst.slot=0∧(a.a.getF a.n).fst.id=0∧(a.a.getF a.n).fst.qty=0∧(a.a.getF a.n).fst.top=aq∧(a.a.getF a.n).snd=aq∧k0 a
def yNt (i:ArN):Prop:=
 cnd (decide (i.n<0)) (eU i) (cnd (decide (i.n≥(↑(ac zR i.a.slots).length:Int))) (eU i) ((0≤i.n∧i.n<(↑(ac zR i.a.slots).length:Int))∧∃(a:Bool),zE (ac zR i.a.slots) i.n.toNat ((0:Nat)+(0:Nat)) 1=ay [D.v (.bool a)]∧cnd (!a) (eU i) ((0≤i.n∧i.n<(↑(ac zR i.a.slots).length:Int))∧∃(b:Int),∃(c:Int),∃(d:Int),∃(e:Bool),zE (ac zR i.a.slots) i.n.toNat ((0:Nat)+(1:Nat)) 4=ay [dI b,dI c,dI d,D.v (.bool e)]∧∃(f:Unit),(i.a.getF i.n).fst.slot=b∧(i.a.getF i.n).fst.id=c∧(i.a.getF i.n).fst.qty=d∧(i.a.getF i.n).fst.top=e∧(i.a.getF i.n).snd=ap∧k0 i)))
def zBe (a:ArL):Prop:=∃(b:Unit),a.a.free=a.a.free∧ac zR a.a.slots=ac zR a.a.slots∧ac zQ a.a.queues=ac zQ a.a.queues∧ac zIh (a.a.ents a.l)=[]∧True
def yGe (i:ArL):Prop:=
 cnd (decide (i.n≥0)) (cnd (!decide (i.n<(↑(ac zQ i.a.queues).length:Int))) (zBe i) ((0≤i.n∧i.n<(↑(ac zQ i.a.queues).length:Int))∧∃(a:Int),zE (ac zQ i.a.queues) i.n.toNat ((0:Nat)+(0:Nat)) 1=ay [dI a]∧∃(b:Nat),rZ i.l b=a∧ac zIh (i.a.ents (ae b i.l))=[]∧∃(c:Nat→Prop),∃(d:Nat→Nat),c b∧∀(e:Nat),c e→cnd (rZ i.l e !=(-1)) ((0≤rZ i.l e∧rZ i.l e<(↑(ac zR i.a.slots).length:Int))∧∃(f:Int),∃(g:Int),∃(h:Int),∃(j:Bool),zE (ac zR i.a.slots) (rZ i.l e).toNat ((0:Nat)+(1:Nat)) 4=ay [dI f,dI g,dI h,D.v (.bool j)]∧((ac zIh (i.a.ents (ae e i.l))).length+1)*(32:Nat)≤(140737488355328:Nat)∧(0≤rZ i.l e∧rZ i.l e<(↑(ac zR i.a.slots).length:Int))∧∃(k:Int),zE (ac zR i.a.slots) (rZ i.l e).toNat ((0:Nat)+(7:Nat)) 1=ay [dI k]∧∃(l:Nat),rZ i.l l=k∧ac zIh (i.a.ents (ae l i.l))=ac zIh (i.a.ents (ae e i.l))++[[dI f,dI g,dI h,D.v (.bool j)]]∧c l∧d l<d e∧ar (vI (jE 0 1 3) [V.own 1,V.own 2,zA i.a.free]) (355:TypeId)=ar (vI (jE 0 1 3) [V.own 1,V.own 2,zA i.a.free]) (355:TypeId)∧au 362 8 (ac zR i.a.slots)=au 362 8 (ac zR i.a.slots)∧au 365 4 (ac zQ i.a.queues)=au 365 4 (ac zQ i.a.queues)) (∃(f:Unit),i.a.free=i.a.free∧ac zR i.a.slots=ac zR i.a.slots∧ac zQ i.a.queues=ac zQ i.a.queues∧ac zIh (i.a.ents i.l)=ac zIh (i.a.ents (ae e i.l))∧True))) (zBe i)
def zAi (a:TkI):Prop:=(a.a.takeF a.n a.qty).fst.free=a.a.free∧ac zR (a.a.takeF a.n a.qty).fst.slots=ac zR a.a.slots∧ac zQ (a.a.takeF a.n a.qty).fst.queues=ac zQ a.a.queues∧True
def pB (a:TkI):Prop:=∃(b:Unit),(a.a.takeF a.n a.qty).snd=26∧zAi a
def zAl (a:TkI):Prop:=∃(b:Unit),(a.a.takeF a.n a.qty).snd=24∧zAi a
def y5 (a:TkI) (b:Int):=(zH (ac zR a.a.slots) a.n.toNat ((0:Nat)+(1:Nat)+2) [dI (aa.wrap (b-a.qty))])
def jP (a:TkI) (b:Int) (c:Int) (d:Int):=(zH (y5 a b) c.toNat ((0:Nat)+(7:Nat)) [dI d])
def zBq (a:TkI) (b:Int) (c:Int) (d:Int) (e:Int) (f:Int):=(zH (jP a b c d) e.toNat ((0:Nat)+(6:Nat)) [dI f])
def wR (a:TkI) (b:Int) (c:Int):=(zH (ac zQ a.a.queues) b.toNat ((0:Nat)+(2:Nat)) [dI (aa.wrap (c-a.qty))])
def dG (a:TkI) (b:Int) (c:Int) (d:Int) (e:Int):=(zH (wR a b c) d.toNat ((0:Nat)+(0:Nat)) [dI e])
def rQ (a:TkI) (b:Int) (c:Int) (d:Int) (e:Int) (f:Int):=(zH (dG a b c d e) d.toNat ((0:Nat)+(1:Nat)) [dI f])
def zBd (a:TkI) (b:Int) (c:Int) (d:Int):=(zH (y5 a b) c.toNat ((0:Nat)+(6:Nat)) [dI d])
def zAu (a:Int) (b:TkI) (c:Int):Prop:=0≤a∧a<(↑(y5 b c).length:Int)
def rH (a:TkI) (b:Int) (c:Int) (d:Int) (e:Int):=(zH (wR a b c) d.toNat ((0:Nat)+(1:Nat)) [dI e])
def yHa (i:TkI):Prop:=
 cnd (decide (i.n<0)) (pB i) (cnd (decide (i.n≥(↑(ac zR i.a.slots).length:Int))) (pB i) ((0≤i.n∧i.n<(↑(ac zR i.a.slots).length:Int))∧∃(a:Bool),zE (ac zR i.a.slots) i.n.toNat ((0:Nat)+(0:Nat)) 1=ay [D.v (.bool a)]∧cnd (!a) (pB i) ((0≤i.n∧i.n<(↑(ac zR i.a.slots).length:Int))∧cnd (decide (i.qty<1)) (zAl i) (∃(b:Int),zE (ac zR i.a.slots) i.n.toNat ((0:Nat)+(1:Nat)+2) 1=ay [dI b]∧cnd (decide (i.qty>b)) (zAl i) (∃(c:Int),zE (ac zR i.a.slots) i.n.toNat ((0:Nat)+(1:Nat)+2) 1=ay [dI c]∧i.n.toNat<(ac zR i.a.slots).length∧∃(d:Int),zE (y5 i c) i.n.toNat ((0:Nat)+(5:Nat)) 1=ay [dI d]∧(0≤d∧d<(↑(ac zQ i.a.queues).length:Int))∧∃(e:Int),zE (ac zQ i.a.queues) d.toNat ((0:Nat)+(2:Nat)) 1=ay [dI e]∧(0≤d∧d<(↑(ac zQ i.a.queues).length:Int))∧d.toNat<(ac zQ i.a.queues).length∧∃(f:Int),zE (y5 i c) i.n.toNat ((0:Nat)+(1:Nat)+2) 1=ay [dI f]∧cnd (f==0) (∃(g:Int),zE (y5 i c) i.n.toNat ((0:Nat)+(5:Nat)) 1=ay [dI g]∧(0≤g∧g<(↑(wR i d e).length:Int))∧∃(h:Int),zE (y5 i c) i.n.toNat ((0:Nat)+(6:Nat)) 1=ay [dI h]∧cnd (h==(-1)) (∃(j:Int),zE (y5 i c) i.n.toNat ((0:Nat)+(7:Nat)) 1=ay [dI j]∧g.toNat<(wR i d e).length∧∃(k:Int),zE (y5 i c) i.n.toNat ((0:Nat)+(7:Nat)) 1=ay [dI k]∧cnd (k==(-1)) (∃(l:Int),zE (y5 i c) i.n.toNat ((0:Nat)+(6:Nat)) 1=ay [dI l]∧g.toNat<(dG i d e g j).length∧∃(m:Int),zE (rQ i d e g j l) g.toNat ((0:Nat)+(3:Nat)) 1=ay [dI m]∧g.toNat<(rQ i d e g j l).length∧i.n.toNat<(y5 i c).length∧∃(n:Unit),(i.a.takeF i.n i.qty).snd=0∧(i.a.takeF i.n i.qty).fst.free=aa.wrap (i.a.free+1)∧ac zR (i.a.takeF i.n i.qty).fst.slots=zH (y5 i c) i.n.toNat 0 [D.v (.bool aq),dI 0,dI 0,dI 0,D.v (.bool aq),dI 0,dI 0,dI 0]∧ac zQ (i.a.takeF i.n i.qty).fst.queues=zH (rQ i d e g j l) g.toNat ((0:Nat)+(3:Nat)) [dI (aa.wrap (m-1))]∧True) (∃(l:Int),zE (y5 i c) i.n.toNat ((0:Nat)+(7:Nat)) 1=ay [dI l]∧∃(m:Int),zE (y5 i c) i.n.toNat ((0:Nat)+(6:Nat)) 1=ay [dI m]∧(zAu l i c)∧l.toNat<(y5 i c).length∧∃(n:Int),zE (dG i d e g j) g.toNat ((0:Nat)+(3:Nat)) 1=ay [dI n]∧g.toNat<(dG i d e g j).length∧i.n.toNat<(zBd i c l m).length∧∃(p:Unit),(i.a.takeF i.n i.qty).snd=0∧(i.a.takeF i.n i.qty).fst.free=aa.wrap (i.a.free+1)∧ac zR (i.a.takeF i.n i.qty).fst.slots=zH (zBd i c l m) i.n.toNat 0 [D.v (.bool aq),dI 0,dI 0,dI 0,D.v (.bool aq),dI 0,dI 0,dI 0]∧ac zQ (i.a.takeF i.n i.qty).fst.queues=zH (dG i d e g j) g.toNat ((0:Nat)+(3:Nat)) [dI (aa.wrap (n-1))]∧True)) (∃(j:Int),zE (y5 i c) i.n.toNat ((0:Nat)+(6:Nat)) 1=ay [dI j]∧∃(k:Int),zE (y5 i c) i.n.toNat ((0:Nat)+(7:Nat)) 1=ay [dI k]∧(zAu j i c)∧j.toNat<(y5 i c).length∧∃(l:Int),zE (jP i c j k) i.n.toNat ((0:Nat)+(7:Nat)) 1=ay [dI l]∧cnd (l==(-1)) (∃(m:Int),zE (jP i c j k) i.n.toNat ((0:Nat)+(6:Nat)) 1=ay [dI m]∧g.toNat<(wR i d e).length∧∃(n:Int),zE (rH i d e g m) g.toNat ((0:Nat)+(3:Nat)) 1=ay [dI n]∧g.toNat<(rH i d e g m).length∧i.n.toNat<(jP i c j k).length∧∃(p:Unit),(i.a.takeF i.n i.qty).snd=0∧(i.a.takeF i.n i.qty).fst.free=aa.wrap (i.a.free+1)∧ac zR (i.a.takeF i.n i.qty).fst.slots=zH (jP i c j k) i.n.toNat 0 [D.v (.bool aq),dI 0,dI 0,dI 0,D.v (.bool aq),dI 0,dI 0,dI 0]∧ac zQ (i.a.takeF i.n i.qty).fst.queues=zH (rH i d e g m) g.toNat ((0:Nat)+(3:Nat)) [dI (aa.wrap (n-1))]∧True) (∃(m:Int),zE (jP i c j k) i.n.toNat ((0:Nat)+(7:Nat)) 1=ay [dI m]∧∃(n:Int),zE (jP i c j k) i.n.toNat ((0:Nat)+(6:Nat)) 1=ay [dI n]∧(0≤m∧m<(↑(jP i c j k).length:Int))∧m.toNat<(jP i c j k).length∧∃(p:Int),zE (wR i d e) g.toNat ((0:Nat)+(3:Nat)) 1=ay [dI p]∧g.toNat<(wR i d e).length∧i.n.toNat<(zBq i c j k m n).length∧∃(q:Unit),(i.a.takeF i.n i.qty).snd=0∧(i.a.takeF i.n i.qty).fst.free=aa.wrap (i.a.free+1)∧ac zR (i.a.takeF i.n i.qty).fst.slots=zH (zBq i c j k m n) i.n.toNat 0 [D.v (.bool aq),dI 0,dI 0,dI 0,D.v (.bool aq),dI 0,dI 0,dI 0]∧ac zQ (i.a.takeF i.n i.qty).fst.queues=zH (wR i d e) g.toNat ((0:Nat)+(3:Nat)) [dI (aa.wrap (p-1))]∧True))) (∃(g:Unit),(i.a.takeF i.n i.qty).snd=0∧(i.a.takeF i.n i.qty).fst.free=i.a.free∧ac zR (i.a.takeF i.n i.qty).fst.slots=zH (ac zR i.a.slots) i.n.toNat ((0:Nat)+(1:Nat)+2) [dI (aa.wrap (c-i.qty))]∧ac zQ (i.a.takeF i.n i.qty).fst.queues=zH (ac zQ i.a.queues) d.toNat ((0:Nat)+(2:Nat)) [dI (aa.wrap (e-i.qty))]∧True))))))
open Go Cv Go.Proofs
theorem zIp {a:Arena} {n:Int} (h:n<0∨(a.slots.length:Int)≤n):a.usedAt n=aq:=by
 rcases h with h|h
 ·rw[Arena.usedAt,y0k (by omega),y3l]
 ·rw[Arena.usedAt,y0k (show ¬n<(a.slots.length:Int)by omega),y3l,y5g]
theorem z3e {a:Arena} {n:Int} {s:Slot} (h0:0≤n) (hs:a.slots[n.toNat]? =ay s):a.usedAt n=s.used:=by
 have hl:=(yZz.1 hs).1
 rw[Arena.usedAt,y0n h0,y0n (show n<(a.slots.length:Int)by omega),zT hs];simp
theorem xI {a:Arena} {k:Nat} {s:Slot} (hs:a.slots[k]? =ay s):a.slotAt k=s:=zT hs
theorem yVd (i:ArN) (h:agetC.cnd i):yNt i:=by
 have h:i.a.slots.length≤1000000:=h
 unfold yNt eU k0 dI
 simp only[y0a]
 have no (e:i.a.usedAt i.n=aq):i.a.getF i.n=(yUy,aq):=by rw[Arena.getF,yZx (by rw[e];decide)]
 refine zJ (fun c=> ?_) (fun c=>zJ (fun d=> ?_) (fun d=> ?_))
 ·rw[no (zIp (.inl c))];(repeat'(first|exact rfl|exact trivial|assumption|apply az|refine fun(_:Unit) (_:True)=>?_|refine ax () ?_|omega|(dsimp only;omega)))
 ·rw[no (zIp (.inr (by omega)))];(repeat'(first|exact rfl|exact trivial|assumption|apply az|refine fun(_:Unit) (_:True)=>?_|refine ax () ?_|omega|(dsimp only;omega)))
 ·obtain⟨s,hs⟩:=z8 (l:=i.a.slots) (i:=i.n.toNat) (by omega)
  have eu:=z3e (a:=i.a) (n:=i.n) (by omega) hs
  refine⟨⟨by omega,by omega⟩,s.used,elA hs (by simp[zR]) rfl,Cv.cnd.mk (fun u=> ?_) (fun u=> ?_)⟩
  ·rw[no (by rw[eu];simpa using u)];(repeat'(first|exact rfl|exact trivial|assumption|apply az|refine fun(_:Unit) (_:True)=>?_|refine ax () ?_|omega|(dsimp only;omega)))
  ·have e:i.a.usedAt i.n=ap:=by rw[eu];simpa using u
   have et:i.a.getF i.n=(s.ent,ap):=by rw[Arena.getF,yZy e,xI hs]
   rw[et]
   refine⟨⟨by omega,by omega⟩,s.n,s.id,s.qty,s.top,elA hs (by simp[zR]) rfl,?_⟩
   (repeat'(first|exact rfl|exact trivial|assumption|apply az|refine fun(_:Unit) (_:True)=>?_|refine ax () ?_|omega|(dsimp only;omega)))
theorem z5s:agetC.ok Tryz.prog 210:=okw mixed gok0 1 (fun _=>[]) (fun _=>[]) [0] Tryz.func210 yVd
theorem zPk:∀{sl:List Slot} {at_:Int} {l:List Nat},zYa sl at_ l→rZ l 0=at_∧∀j k,l[j]? =ay k→k<sl.length∧rZ l (j+1)=(sl.getD k slot0).back
 |sl,at_,[],h=>⟨h.symm,fun j k hk=>by simp at hk⟩
 |sl,at_,x::l,h=>by
  obtain⟨h1,h2,h3⟩:=h
  have ih:=zPk h3
  refine⟨h1.symm,fun j k hk=> ?_⟩
  cases j with
  |zero=>
   simp at hk;subst hk
   exact⟨h2,by rw[← ih.1];rfl⟩
  |succ j=>
   rw[y1r]at hk
   obtain⟨a,b⟩:=ih.2 j k hk
   exact⟨a,by rw[← b];rfl⟩
theorem ySt (i:ArL) (h:alistC.cnd i):yGe i:=by
 obtain⟨hl,h⟩:i.l.length≤1000000∧(if 0≤i.n∧i.n<i.a.queues.length then zYa i.a.slots (i.a.queues.getD i.n.toNat bT).first i.l else i.l=[]):=⟨h.len,h.ch⟩
 unfold yGe zBe dI
 simp only[y0a]
 have out (e:¬(0≤i.n∧i.n<(i.a.queues.length:Int))):i.l=[]:=by rw[yZx e]at h;exact h
 refine zJ (fun c=>Cv.cnd.mk (fun d=> ?_) (fun d=> ?_)) (fun c=> ?_)
 ·have d:¬i.n<(i.a.queues.length:Int):=by simpa using d
  rw[out (by omega)];(repeat'(first|exact rfl|exact trivial|assumption|apply az|refine fun(_:Unit) (_:True)=>?_|refine ax () ?_|omega|(dsimp only;omega)))
 ·have d:i.n<(i.a.queues.length:Int):=by simpa using d
  rw[yZy ⟨by omega,d⟩]at h
  obtain⟨q,hq⟩:=z8 (l:=i.a.queues) (i:=i.n.toNat) (by omega)
  rw[zT hq]at h
  obtain⟨n0,nx⟩:=zPk h
  refine⟨⟨by omega,by omega⟩,q.first,elA hq (by simp[zQ]) rfl,0,n0,rfl,fun j=>j≤i.l.length,fun j=>i.l.length-j,y1n _,fun j hj=>Cv.cnd.mk (fun e=> ?_) (fun e=> ?_)⟩
  ·have e:rZ i.l j≠-1:=by simpa using e
   obtain⟨k,hk⟩:∃k,i.l[j]? =ay k:=by
    cases hk:i.l[j]? with
    |none=>rw[rZ,hk]at e;exact absurd rfl e
    |some k=>exact⟨k,rfl⟩
   have hjl:=(yZz.1 hk).1
   obtain⟨hkl,hnx⟩:=nx j k hk
   have en:rZ i.l j=k:=by rw[rZ,hk]
   obtain⟨s,hs⟩:=z8 (l:=i.a.slots) (i:=k) hkl
   rw[en,y0s]
   refine⟨⟨by omega,by omega⟩,s.n,s.id,s.qty,s.top,elA hs (by simp[zR]) rfl,?_,⟨by omega,by omega⟩,s.back,elA hs (by simp[zR]) rfl,j+1,by rw[hnx,zT hs],?_,hjl,by dsimp only;omega,k0q⟩
   ·simp only[Arena.ents,y0a,y0t];omega
   ·rw[y1i,hk]
    simp only[Arena.ents,Option.toList,y0j,y0l,y3r,xI hs]
    rfl
  ·have e:rZ i.l j= -1:=by simpa using e
   have hj':i.l.length≤j:=by
    apply Classical.byContradiction
    intro hn
    obtain⟨k,hk⟩:=z8 (l:=i.l) (i:=j) (by omega)
    rw[rZ,hk]at e
    simp only at e;omega
   rw[y0p hj']
   (repeat'(first|exact rfl|exact trivial|assumption|apply az|refine fun(_:Unit) (_:True)=>?_|refine ax () ?_|omega|(dsimp only;omega)))
 ·rw[out (by omega)];(repeat'(first|exact rfl|exact trivial|assumption|apply az|refine fun(_:Unit) (_:True)=>?_|refine ax () ?_|omega|(dsimp only;omega)))
theorem yFy:alistC.ok Tryz.prog 304:=okw mixed gok0 1 (fun _=>[]) (fun i=>yQo i) [0] Tryz.func304 ySt
theorem z0a {α:Type} {l:List α} {i k:Nat} {x y:α} (h:i≠k) (hk:l[k]? =ay x):(l.set i y)[k]? =ay x:=by
 rw[List.getElem?_set_ne h];exact hk
theorem yPb (i:TkI) (h:atakeC.cnd i):yHa i:=by
 obtain⟨hl,hok⟩:i.a.okAt:=h
 unfold yHa rH zAu zBd rQ dG wR zBq jP y5 zAl pB zAi dI
 simp only[y0a]
 have no (e:i.a.usedAt i.n=aq):i.a.takeF i.n i.qty=(i.a,26):=by rw[Arena.takeF,yZy e]
 refine zJ (fun c=> ?_) (fun c=>zJ (fun d=> ?_) (fun d=> ?_))
 ·rw[no (zIp (.inl c))];(repeat'(first|exact rfl|exact trivial|assumption|apply az|refine fun(_:Unit) (_:True)=>?_|refine ax () ?_|omega|(dsimp only;omega)))
 ·rw[no (zIp (.inr (by omega)))];(repeat'(first|exact rfl|exact trivial|assumption|apply az|refine fun(_:Unit) (_:True)=>?_|refine ax () ?_|omega|(dsimp only;omega)))
 obtain⟨k,hk⟩:∃k,k=i.n.toNat:=⟨_,rfl⟩
 rw[← hk]
 obtain⟨s,hs⟩:=z8 (l:=i.a.slots) (i:=k) (by omega)
 have hs':i.a.slots[i.n.toNat]? =ay s:=by rw[← hk];exact hs
 have eu:=z3e (a:=i.a) (n:=i.n) (by omega) hs'
 refine⟨⟨by omega,by omega⟩,s.used,elA hs (by simp[zR]) rfl,Cv.cnd.mk (fun u=> ?_) (fun u=> ?_)⟩
 ·rw[no (by rw[eu];simpa using u)];(repeat'(first|exact rfl|exact trivial|assumption|apply az|refine fun(_:Unit) (_:True)=>?_|refine ax () ?_|omega|(dsimp only;omega)))
 have u:s.used=ap:=by simpa using u
 have e:¬i.a.usedAt i.n=aq:=by rw[eu,u];decide
 obtain⟨⟨q0,q1⟩,sq,sa,sb⟩:=hok k s hs u
 have esl:i.a.slotAt i.n.toNat=s:=xI hs'
 have bad (hq:i.qty<1∨s.qty<i.qty):i.a.takeF i.n i.qty=(i.a,24):=by rw[Arena.takeF,yZx e,esl,yZy hq]
 refine⟨⟨by omega,by omega⟩,zJ (fun c1=>by rw[bad (.inl c1)];(repeat'(first|exact rfl|exact trivial|assumption|apply az|refine fun(_:Unit) (_:True)=>?_|refine ax () ?_|omega|(dsimp only;omega)))) (fun c1=>⟨s.qty,elA hs (by simp[zR]) rfl,zJ (fun c2=>by rw[bad (.inr (by omega))];(repeat'(first|exact rfl|exact trivial|assumption|apply az|refine fun(_:Unit) (_:True)=>?_|refine ax () ?_|omega|(dsimp only;omega)))) (fun c2=>⟨s.qty,elA hs (by simp[zR]) rfl,by omega,?_⟩)⟩)⟩
 obtain⟨q,hq⟩:=z8 (l:=i.a.queues) (i:=s.queue.toNat) (by omega)
 have hs1:(i.a.slots.set k {s with qty:=s.qty-i.qty})[k]? =ay {s with qty:=s.qty-i.qty}:=v8 hs
 have hq1:(i.a.queues.set s.queue.toNat {q with total:=aa.wrap (q.total-i.qty)})[s.queue.toNat]? =ay {q with total:=aa.wrap (q.total-i.qty)}:=v8 hq
 have hle:i.a.less i.n.toNat i.qty=⟨i.a.slots.set k {s with qty:=s.qty-i.qty},i.a.queues.set s.queue.toNat {q with total:=aa.wrap (q.total-i.qty)},i.a.free⟩:=by
  rw[Arena.less,esl,dX hs',dX hq,hk]
 have hL:(i.a.slots.set k {s with qty:=s.qty-i.qty}).length=i.a.slots.length:=y1c
 have hQ:(i.a.queues.set s.queue.toNat {q with total:=aa.wrap (q.total-i.qty)}).length=i.a.queues.length:=y1c
 have tk:i.a.takeF i.n i.qty=if s.qty=i.qty then((i.a.less i.n.toNat i.qty).dropF i.n.toNat,0)else(i.a.less i.n.toNat i.qty,0):=by rw[Arena.takeF,yZx e,esl,yZx (by omega)]
 rw[hle,← hk]at tk
 rw[w64 (x:=s.qty-i.qty) (by omega),yH hs (y:={s with qty:=s.qty-i.qty}) rfl]
 refine⟨s.queue,elA hs1 (by simp[zR]) rfl,⟨q0,q1⟩,q.total,elA hq (by simp[zQ]) rfl,⟨q0,q1⟩,by omega,s.qty-i.qty,elA hs1 (by simp[zR]) rfl,?_⟩
 rw[yH hq (y:={q with total:=aa.wrap (q.total-i.qty)}) rfl]
 simp only[y0a]
 generalize hL1:i.a.slots.set k {s with qty:=s.qty-i.qty}=L1 at*
 generalize hQ1:i.a.queues.set s.queue.toNat {q with total:=aa.wrap (q.total-i.qty)}=Q1 at*
 refine Cv.cnd.mk (fun z=> ?_) (fun z=> ?_)
 ·have z:s.qty=i.qty:=by have:s.qty-i.qty=0:=by simpa using z
                         omega
  rw[yZy z]at tk
  have esl1:(⟨L1,Q1,i.a.free⟩:Arena).slotAt k={s with qty:=s.qty-i.qty}:=xI hs1
  have eq1:Q1.getD s.queue.toNat bT={q with total:=aa.wrap (q.total-i.qty)}:=zT hq1
  rw[Arena.dropF,esl1]at tk
  dsimp only at tk
  rw[eq1]at tk
  dsimp only at tk
  rw[tk]
  refine⟨s.queue,elA hs1 (by simp[zR]) rfl,⟨q0,by omega⟩,s.ahead,elA hs1 (by simp[zR]) rfl,Cv.cnd.mk (fun ea=> ?_) (fun ea=> ?_)⟩
  ·have ea:s.ahead= -1:=by simpa using ea
   refine⟨s.back,elA hs1 (by simp[zR]) rfl,by omega,s.back,elA hs1 (by simp[zR]) rfl,?_⟩
   rw[yH hq1 (y:=⟨s.back,q.last,aa.wrap (q.total-i.qty),q.count⟩) rfl]
   have hq2:(Q1.set s.queue.toNat ⟨s.back,q.last,aa.wrap (q.total-i.qty),q.count⟩)[s.queue.toNat]? =ay ⟨s.back,q.last,aa.wrap (q.total-i.qty),q.count⟩:=v8 hq1
   simp only[y0a,y1c]
   refine Cv.cnd.mk (fun eb=> ?_) (fun eb=> ?_)
   ·have eb:s.back= -1:=by simpa using eb
    refine⟨s.ahead,elA hs1 (by simp[zR]) rfl,by omega,q.count,?_,?_⟩
    ·rw[yH hq2 (y:=⟨s.back,s.ahead,aa.wrap (q.total-i.qty),q.count⟩) rfl]
     exact elA (v8 hq2) (by simp[zQ]) rfl
    rw[yH hq2 (y:=⟨s.back,s.ahead,aa.wrap (q.total-i.qty),q.count⟩) rfl,yH (v8 hq2) (y:=⟨s.back,s.ahead,aa.wrap (q.total-i.qty),aa.wrap (q.count-1)⟩) rfl,yH hs1 (y:=slot0) rfl]
    simp only[y0a,y1c,y4c,yZy ea,yZy eb]
    refine⟨by omega,by omega,(),by(first|exact rfl|exact trivial),by(first|exact rfl|exact trivial),by(first|exact rfl|exact trivial),by(first|exact rfl|exact trivial),trivial⟩
   ·have eb:s.back≠-1:=by simpa using eb
    obtain⟨b0,b1,b2⟩:0≤s.back∧s.back<i.a.slots.length∧s.back≠k:=by omega
    obtain⟨x,hx⟩:=z8 (l:=L1) (i:=s.back.toNat) (by omega)
    refine⟨s.back,elA hs1 (by simp[zR]) rfl,s.ahead,elA hs1 (by simp[zR]) rfl,⟨b0,by omega⟩,by omega,q.count,elA hq2 (by simp[zQ]) rfl,?_⟩
    rw[yH hx (y:={x with ahead:=s.ahead}) rfl,yH hq2 (y:=⟨s.back,q.last,aa.wrap (q.total-i.qty),aa.wrap (q.count-1)⟩) rfl,yH (z0a (by omega) hs1) (y:=slot0) rfl]
    simp only[y0a,y1c,y4c,yZy ea,yZx eb,dX hx]
    refine⟨by omega,by omega,(),by(first|exact rfl|exact trivial),by(first|exact rfl|exact trivial),by(first|exact rfl|exact trivial),by(first|exact rfl|exact trivial),trivial⟩
  ·have ea:s.ahead≠-1:=by simpa using ea
   obtain⟨a0,a1,a2⟩:0≤s.ahead∧s.ahead<i.a.slots.length∧s.ahead≠k:=by omega
   obtain⟨x,hx⟩:=z8 (l:=L1) (i:=s.ahead.toNat) (by omega)
   have hs2:(L1.set s.ahead.toNat {x with back:=s.back})[k]? =ay {s with qty:=s.qty-i.qty}:=z0a (by omega) hs1
   refine⟨s.ahead,elA hs1 (by simp[zR]) rfl,s.back,elA hs1 (by simp[zR]) rfl,⟨a0,by omega⟩,by omega,s.back,?_,?_⟩
   ·rw[yH hx (y:={x with back:=s.back}) rfl]
    exact elA hs2 (by simp[zR]) rfl
   rw[yH hx (y:={x with back:=s.back}) rfl]
   simp only[y0a,y1c]
   refine Cv.cnd.mk (fun eb=> ?_) (fun eb=> ?_)
   ·have eb:s.back= -1:=by simpa using eb
    refine⟨s.ahead,elA hs2 (by simp[zR]) rfl,by omega,q.count,?_,?_⟩
    ·rw[yH hq1 (y:=⟨q.first,s.ahead,aa.wrap (q.total-i.qty),q.count⟩) rfl]
     exact elA (v8 hq1) (by simp[zQ]) rfl
    rw[yH hq1 (y:=⟨q.first,s.ahead,aa.wrap (q.total-i.qty),q.count⟩) rfl,yH (v8 hq1) (y:=⟨q.first,s.ahead,aa.wrap (q.total-i.qty),aa.wrap (q.count-1)⟩) rfl,yH hs2 (y:=slot0) rfl]
    simp only[y0a,y1c,y4c,yZx ea,yZy eb,dX hx]
    refine⟨by omega,by omega,(),by(first|exact rfl|exact trivial),by(first|exact rfl|exact trivial),by(first|exact rfl|exact trivial),by(first|exact rfl|exact trivial),trivial⟩
   ·have eb:s.back≠-1:=by simpa using eb
    obtain⟨b0,b1,b2⟩:0≤s.back∧s.back<i.a.slots.length∧s.back≠k:=by omega
    obtain⟨y,hy⟩:=z8 (l:=L1.set s.ahead.toNat {x with back:=s.back}) (i:=s.back.toNat) (by rw[y1c];omega)
    refine⟨s.back,elA hs2 (by simp[zR]) rfl,s.ahead,elA hs2 (by simp[zR]) rfl,⟨b0,by omega⟩,by omega,q.count,elA hq1 (by simp[zQ]) rfl,?_⟩
    rw[yH hy (y:={y with ahead:=s.ahead}) rfl,yH hq1 (y:=⟨q.first,q.last,aa.wrap (q.total-i.qty),aa.wrap (q.count-1)⟩) rfl,yH (z0a (by omega) hs2) (y:=slot0) rfl]
    simp only[y0a,y1c,y4c,yZx ea,yZx eb,dX hx,dX hy]
    refine⟨by omega,by omega,(),by(first|exact rfl|exact trivial),by(first|exact rfl|exact trivial),by(first|exact rfl|exact trivial),by(first|exact rfl|exact trivial),trivial⟩
 ·have z:¬s.qty=i.qty:=by have:¬s.qty-i.qty=0:=by simpa using z
                          omega
  rw[yZx z]at tk
  rw[tk]
  exact⟨(),rfl,rfl,rfl,rfl,trivial⟩
theorem yGg:atakeC.ok Tryz.prog 242:=okw mixed gok0 1 (fun _=>[]) (fun _=>[]) [0] Tryz.func242 yPb
open Go Cv Go.Proofs
structure PlI where
 l:List Int
 least:Int
 q:Int
def z0z (l:List Int) (least q:Int):List Int:=l.map fun k=>if least≤k*q / l.sum then k*q / l.sum else 0
def j5:List (Int×Int)→Int→List Int
 |[],_=>[]
 |(n,x)::r,q=>(x+min (n-x) q)::j5 r (q-min (n-x) q)
def PlI.p0 (i:PlI):List Int:=z0z i.l i.least i.q
def PlI.p1 (i:PlI):List Int:=j5 (i.l.zip i.p0) (i.q-i.p0.sum)
def kR (i:PlI):List Int:=if yS i.l i.q=ap∧1≤i.least then i.p1 else[]
def plainC:Con:=con1 PlI (fun i=>[iV i.l,zA i.least,zA i.q]) (fun _=>[]) (fun i=>i.l.length≤1000000∧yO i.q∧yO i.least) (fun _=> .own 0) (fun i=>[.own 2 1 (iE (kR i))])
def yQi (i:PlI):List SAnn:=[
 {ι:=Nat,slots:=fun j=>[(9,.own 0),(36,zA j)],rows:=fun j=>[.own 2 1 (iE (i.p0.take j++af (i.l.length-j) 0))]},
 {ι:=Nat,slots:=fun j=>[(2,zA (i.q-(i.p0.take j).sum)),(58,zA j)],rows:=fun _=>[]},
 {ι:=Nat,slots:=fun j=>[(9,.own 0),(2,zA (i.q-i.p0.sum+(i.p0.take j).sum-(i.p1.take j).sum)),(68,zA j)],rows:=fun j=>[.own 2 1 (iE (i.p1.take j++i.p0.drop j))]}]
open Go Cv Go.Proofs
def dL (a:Nat) (b:PlI):=(iE (ae a b.p1++ak a b.p0))
def rK (a:Nat) (b:PlI):Prop:=0≤(↑a:Int)∧(↑a:Int)<(↑(dL a b).length:Int)
def hP (a:Nat) (b:PlI):=(ae a b.p0++af (b.l.length-a) 0)
def h9 (a:Nat) (b:PlI):=(iE (hP a b))
def aA (a:Nat) (b:PlI):=(↑(h9 a b).length:Int)
def yAn (i:PlI):Prop:=
 ∃(a:LqI),iE a.l=iE i.l∧a.q=i.q∧(wA a)∧∀(b:Unit),True→cnd (!yS a.l a.q) (∃(c:Unit),iE (kR i)=[]∧True) (cnd (decide (i.least<1)) (∃(c:Unit),iE (kR i)=[]∧True) (∃(c:List Int),iE c=iE i.l∧(c.length≤1000∧∀(d:Int),d∈c→0≤d∧d≤1000000)∧∀(d:Unit),True→(0≤(↑(iE i.l).length:Int)∧(↑(iE i.l).length:Int)≤(↑(iE i.l).length:Int)∧(↑(iE i.l).length:Int)≤9223372036854775807∧(↑(8:Nat):Int)*(↑(iE i.l).length:Int)≤2 ^ (48:Nat))∧∃(e:Nat),(↑e:Int)=0∧iE (hP e i)=af (↑(iE i.l).length:Int).toNat [dI 0]∧∃(f:Nat→Prop),∃(g:Nat→Nat),f e∧∀(h:Nat),f h→cnd (decide ((↑h:Int)<(↑(iE i.l).length:Int))) ((0≤(↑h:Int)∧(↑h:Int)<(↑(iE i.l).length:Int))∧∃(j:Int),zE (iE i.l) (↑h:Int).toNat 0 1=ay [dI j]∧∃(k:ShI),k.a=j∧k.b=i.q∧k.c=c.sum∧(0≤k.a∧k.a≤(2000000000:Int)∧(0:Int)≤k.b∧k.b≤(2000000000:Int)∧(1:Int)≤k.c∧k.c≤2000000000)∧∀(l:Unit),True→cnd (decide (k.a*k.b / k.c≥i.least)) ((0≤(↑h:Int)∧(↑h:Int)<(aA h i))∧(↑h:Int).toNat<(h9 h i).length∧∃(m:Nat),(↑m:Int)=aa.wrap ((↑h:Int)+1)∧iE (hP m i)=zH (h9 h i) (↑h:Int).toNat 0 [dI (k.a*k.b / k.c)]∧f m∧g m<g h∧True) (∃(m:Nat),(↑m:Int)=aa.wrap ((↑h:Int)+1)∧iE (hP m i)=iE (hP h i)∧f m∧g m<g h∧True)) (∃(j:Nat),i.q-(ae j i.p0).sum=i.q∧(↑j:Int)=0∧∃(k:Nat→Prop),∃(l:Nat→Nat),k j∧∀(m:Nat),k m→cnd (decide ((↑m:Int)<(aA h i))) ((0≤(↑m:Int)∧(↑m:Int)<(aA h i))∧∃(n:Int),zE (h9 h i) (↑m:Int).toNat 0 1=ay [dI n]∧∃(p:Nat),i.q-(ae p i.p0).sum=aa.wrap (i.q-(ae m i.p0).sum-n)∧(↑p:Int)=aa.wrap ((↑m:Int)+1)∧k p∧l p<l m∧au 2 1 (h9 h i)=au 2 1 (h9 h i)) (∃(n:Nat),i.q-i.p0.sum+(ae n i.p0).sum-(ae n i.p1).sum=i.q-(ae m i.p0).sum∧(↑n:Int)=0∧iE (ae n i.p1++ak n i.p0)=iE (hP h i)∧∃(p:Nat→Prop),∃(q:Nat→Nat),p n∧∀(r:Nat),p r→cnd (decide ((↑r:Int)<(aA h i))) ((0≤(↑r:Int)∧(↑r:Int)<(↑(iE i.l).length:Int))∧∃(s:Int),zE (iE i.l) (↑r:Int).toNat 0 1=ay [dI s]∧(rK r i)∧∃(t:Int),zE (dL r i) (↑r:Int).toNat 0 1=ay [dI t]∧(rK r i)∧∃(u:Int),zE (dL r i) (↑r:Int).toNat 0 1=ay [dI u]∧(rK r i)∧(↑r:Int).toNat<(dL r i).length∧∃(v:Nat),i.q-i.p0.sum+(ae v i.p0).sum-(ae v i.p1).sum=aa.wrap (i.q-i.p0.sum+(ae r i.p0).sum-(ae r i.p1).sum-min (aa.wrap (s-t)) (i.q-i.p0.sum+(ae r i.p0).sum-(ae r i.p1).sum))∧(↑v:Int)=aa.wrap ((↑r:Int)+1)∧iE (ae v i.p1++ak v i.p0)=zH (dL r i) (↑r:Int).toNat 0 [dI (aa.wrap (u+min (aa.wrap (s-t)) (i.q-i.p0.sum+(ae r i.p0).sum-(ae r i.p1).sum)))]∧p v∧q v<q r∧True) (∃(s:Unit),iE (kR i)=iE (ae r i.p1++ak r i.p0)∧True)))))
open Go Cv Go.Proofs
theorem zBy:∀(z:List (Int×Int)) (q:Int),(j5 z q).length=z.length
 |[],_=>rfl
 |(n,x)::z,q=>by rw[j5,y0f,y0f,zBy z]
theorem zKr:∀(z:List (Int×Int)) (q:Int) (j:Nat) (n x:Int),z[j]? =ay (n,x)→(j5 z q)[j]? =ay (x+min (n-x) (q+((z.map (·.2)).take j).sum-((j5 z q).take j).sum))
 |[],_,_,_,_,h=>by simp at h
 |(m,y)::z,q,0,n,x,h=>by simp at h;obtain⟨rfl,rfl⟩:=h;simp[j5]
 |(m,y)::z,q,j+1,n,x,h=>by
  rw[y1r]at h
  rw[j5,y1r,zKr z _ j n x h,y1j,y1l,y0l,y1j,y1l]
  congr 3;dsimp only;omega
theorem zHo:∀(z:List (Int×Int)) (q:Int) (j:Nat),0≤q→(∀y∈z,y.2≤y.1)→0≤q+((z.map (·.2)).take j).sum-((j5 z q).take j).sum∧q+((z.map (·.2)).take j).sum-((j5 z q).take j).sum≤q
 |[],q,j,h,_=>by simp[j5,h]
 |(m,y)::z,q,0,h,_=>by simp[h]
 |(m,y)::z,q,j+1,h,hb=>by
  have hm:=hb (m,y) y0d
  have:=zHo z (q-min (m-y) q) j (by dsimp only at hm;omega) (fun x hx=>hb x (y0c _ hx))
  rw[j5,y1j,y1l,y0l,y1j,y1l]
  dsimp only at hm ⊢
  omega
theorem z9u {k q S:Int} (hk:0≤k) (hq:0≤q) (hS:1≤S) (hqS:q≤S):0≤k*q / S∧k*q / S≤k:=by
 refine⟨Int.ediv_nonneg (y6i hk hq) (by omega),?_⟩
 have:k*q≤k*S:=y4z hqS hk
 exact Int.ediv_le_of_le_mul (by omega) this
theorem zRl {q S least:Int} (hq:0≤q) (hS:1≤S):∀(l:List Int),(∀x∈l,0≤x)→S*(l.map fun k=>if least≤k*q / S then k*q / S else 0).sum≤q*l.sum
 |[],_=>by simp
 |k::l,h=>by
  have ih:=zRl (least:=least) hq hS l (fun x hx=>h x (y0c _ hx))
  have hk:=h k y0d
  rw[y0l,y1l,y1l,Int.mul_add,Int.mul_add]
  have h1:S*(k*q / S)≤k*q:=by
   have:=Int.mul_ediv_add_emod (k*q) S
   have:=y6d (k*q) (show S≠0 by omega)
   omega
  have h2:0≤k*q:=y6i hk hq
  have h3:S*(if least≤k*q / S then k*q / S else 0)≤q*k:=by
   rw[y5l q k]
   split
   ·exact h1
   ·simpa using h2
  omega
theorem yHj {i:PlI} {j:Nat} {n:Int} (h:i.l[j]? =ay n):i.p0[j]? =ay (if i.least≤n*i.q / i.l.sum then n*i.q / i.l.sum else 0):=by
 rw[PlI.p0,z0z,y0z,h];rfl
theorem zZd (i:PlI):i.p0.length=i.l.length:=by simp[PlI.p0,z0z]
theorem z4f {l:List Int} {j m:Nat} {n:Int} (hl:l.length=m) (h:l[j]? =ay n):(l.take j++af (m-j) 0).set j n=l.take (j+1)++af (m-(j+1)) 0:=by
 have hj:=(yZz.1 h).1
 rw[List.set_append_right _ _ (by rw[y0t];omega),y0t,show j-min j l.length=0 by omega,show m-j=(m-(j+1))+1 by omega,y4o,y6b,y1i,h]
 simp
theorem yAf {l:List Int} {j m:Nat} (hl:l.length=m) (hj:j<m):(l.take j++af (m-j) 0)[j]? =ay 0:=by
 rw[y1x (by rw[y0t];omega),y0t,show j-min j l.length=0 by omega,show m-j=(m-(j+1))+1 by omega,y4o];rfl
theorem yGc {α:Type} {l:List α} {j:Nat} {x:α} (h:l[j]? =ay x):l.set j x=l:=by
 obtain⟨h1,h2⟩:=yZz.1 h
 rw[← h2];exact List.set_getElem_self h1
theorem yOq {a b:List Int} {j:Nat} {x:Int} (ha:a.length=b.length) (h:b[j]? =ay x):(a.take j++b.drop j)[j]? =ay x:=by
 have hj:=(yZz.1 h).1
 rw[y1x (by rw[y0t];omega),y0t,show j-min j a.length=0 by omega,y2i]
 exact h
theorem yKj {a b:List Int} {j:Nat} {y:Int} (ha:a.length=b.length) (h:a[j]? =ay y):(a.take j++b.drop j).set j y=a.take (j+1)++b.drop (j+1):=by
 have hj:=(yZz.1 h).1
 rw[List.set_append_right _ _ (by rw[y0t];omega),y0t,show j-min j a.length=0 by omega,y2x (by omega),y6b,y1i,h]
 simp
theorem zRo {l:List Int} {j:Nat} {x y:Int} (h:l[j]? =ay x):zH (iE l) j 0 [D.v (.int .i64 y)]=iE (l.set j y):=yH (f:=fun n:Int=>[D.v (.int .i64 n)]) h rfl
theorem zCj {i:PlI} (h:yS i.l i.q=ap) (hne:0<i.l.length):1≤i.l.sum∧i.l.sum≤250000000∧(∀(j:Nat) (n x:Int),i.l[j]? =ay n→i.p0[j]? =ay x→0≤x∧x≤n)∧i.p0.sum≤i.q:=by
 obtain⟨h1,h2,h3,h4⟩:=kW h
 have hb:=jI (l:=i.l) (fun x hx=>by have:=h3 x hx;omega) i.l.length
 rw[y3n]at hb
 have hS:1≤i.l.sum:=by
  obtain⟨x,hx⟩:=z8 (l:=i.l) (i:=0) hne
  have:=h3 x (y0g hx)
  cases hl:i.l with
  |nil=>rw[hl]at hne;exact absurd hne (Nat.lt_irrefl 0)
  |cons a r=>
   rw[hl]at hx;simp at hx;subst hx
   have hr:=jI (l:=r) (fun y hy=>by have:=h3 y (by rw[hl];exact y0c _ hy);omega) r.length
   rw[y3n]at hr
   rw[y1l];omega
 refine⟨hS,by omega,fun j n x hn hx=> ?_,?_⟩
 ·have hn1:=h3 n (y0g hn)
  have:=z9u (k:=n) (by omega) h2 hS h4
  rw[yHj hn]at hx
  cases hx
  split<;>omega
 ·have:=zRl (least:=i.least) h2 hS i.l (fun x hx=>by have:=h3 x hx;omega)
  have e:i.l.sum*i.p0.sum≤i.l.sum*i.q:=by rw[y5l i.l.sum i.q];exact this
  exact Int.le_of_mul_le_mul_left e (by omega)
theorem ySg (i:PlI) (h:plainC.cnd i):yAn i:=by
 obtain⟨hl,hq,hle⟩:i.l.length≤1000000∧yO i.q∧yO i.least:=h
 unfold yAn aA h9 hP rK dL wA dI
 refine⟨⟨i.l,i.q⟩,rfl,rfl,⟨hl,hq⟩,fun _ _=>Cv.cnd.mk (fun c=> ?_) (fun c=>zJ (fun d=> ?_) (fun d=> ?_))⟩
 ·have c:yS i.l i.q=aq:=by simpa using c
  refine⟨(),?_,trivial⟩
  rw[kR,yZx (by rw[c];simp)];rfl
 ·refine⟨(),?_,trivial⟩
  rw[kR,yZx (by omega)];rfl
 have c:yS i.l i.q=ap:=by simpa using c
 have eS:kR i=i.p1:=by rw[kR,yZy ⟨c,by omega⟩]
 obtain⟨h1,h2,h3,h4⟩:=kW c
 have hq2:=zJh c
 have hp0:=zZd i
 have hzl:(i.l.zip i.p0).length=i.l.length:=by rw[List.length_zip,hp0];simp
 have hp1:i.p1.length=i.l.length:=by rw[PlI.p1,zBy,hzl]
 have hz2:(i.l.zip i.p0).map (·.2)=i.p0:=by rw[List.map_snd_zip];omega
 have h64:i.l.length≤250:=h1
 have hrl:∀j,j≤i.l.length→(ae j i.p0++af (i.l.length-j) 0).length=i.l.length:=by
  intro j hj;rw[y0e,y0t,y3h];omega
 simp only[xD]
 refine⟨i.l,rfl,⟨by omega,fun x hx=>by have:=h3 x hx;omega⟩,fun _ _=>⟨⟨by omega,by omega,by omega,by omega⟩,0,by(first|exact rfl|exact trivial),?_,fun j=>j≤i.l.length,fun j=>i.l.length-j,y1n _,fun j hj=>zJ (fun e=> ?_) (fun e=> ?_)⟩⟩
 ·simp[iE]
 ·have hj':j<i.l.length:=by omega
  obtain⟨n,hn⟩:=z8 (l:=i.l) (i:=j) hj'
  have bn:=h3 n (y0g hn)
  obtain⟨f1,f2,f3,f4⟩:=zCj c (by omega)
  have g:=yHj hn
  refine⟨⟨by omega,by omega⟩,n,elI hn,⟨n,i.q,i.l.sum⟩,rfl,rfl,rfl,⟨by dsimp only;omega,by dsimp only;omega,by dsimp only;omega,by dsimp only;omega,by dsimp only;omega,by dsimp only;omega⟩,fun _ _=>zJ (fun a=> ?_) (fun a=> ?_)⟩
  ·have a:n*i.q / i.l.sum≥i.least:=a
   rw[yZy (by omega)]at g
   refine⟨⟨by omega,by rw[hrl j (by omega)];omega⟩,by rw[hrl j (by omega)];omega,j+1,wjn (by omega),?_,hj',by dsimp only;omega,trivial⟩
   rw[y0s,zRo (yAf hp0 hj'),z4f hp0 g]
  ·have a:¬n*i.q / i.l.sum≥i.least:=a
   rw[yZx (by omega)]at g
   refine⟨j+1,wjn (by omega),?_,hj',by dsimp only;omega,trivial⟩
   rw[← z4f hp0 g,yGc (yAf hp0 hj')]
 have hje:j=i.l.length:=by omega
 subst hje
 have eP:ae i.l.length i.p0++af (i.l.length-i.l.length) 0=i.p0:=by rw[y0p (by omega)];simp
 rw[eP,hp0]
 have px:∀(k:Nat) (n x:Int),i.l[k]? =ay n→i.p0[k]? =ay x→0≤x∧x≤n:=fun k n x hn hx=>(zCj c (by have:=(yZz.1 hn).1;omega)).2.2.1 k n x hn hx
 have pb:∀x∈i.p0,0≤x∧x≤1000000:=by
  intro x hx
  obtain⟨k,hk⟩:=y2q.1 hx
  obtain⟨n,hn⟩:=z8 (l:=i.l) (i:=k) (by have:=(yZz.1 hk).1;omega)
  have:=px k n x hn hk
  have:=h3 n (y0g hn)
  omega
 have pq:i.p0.sum≤i.q:=by
  by_cases hz:0<i.l.length
  ·exact(zCj c hz).2.2.2
  ·have:i.p0=[]:=y0y (by omega)
   rw[this];simpa using h2
 refine⟨0,by simp,by(first|exact rfl|exact trivial),fun k=>k≤i.l.length,fun k=>i.l.length-k,y1n _,fun k hk=>zJ (fun e=> ?_) (fun e=> ?_)⟩
 ·have hk':k<i.l.length:=by omega
  obtain⟨x,hx⟩:=z8 (l:=i.p0) (i:=k) (by omega)
  have bx:=pb x (y0g hx)
  have bs:=jI pb k
  refine⟨⟨by omega,by omega⟩,x,elI hx,k+1,?_,wjn (by omega),hk',by dsimp only;omega,k0q⟩
  rw[jQ hx,w64 (by omega)];omega
 have hke:k=i.l.length:=by omega
 subst hke
 rw[y0p (l:=i.p0) (by omega)]
 refine⟨0,by simp,by(first|exact rfl|exact trivial),by simp,fun j=>j≤i.l.length,fun j=>i.l.length-j,y1n _,fun j hj=>zJ (fun e=> ?_) (fun e=> ?_)⟩
 ·have hj':j<i.l.length:=by omega
  obtain⟨n,hn⟩:=z8 (l:=i.l) (i:=j) hj'
  obtain⟨x,hx⟩:=z8 (l:=i.p0) (i:=j) (by omega)
  have bn:=h3 n (y0g hn)
  have bx:=px j n x hn hx
  have hz:(i.l.zip i.p0)[j]? =ay (n,x):=by rw[y4w];exact⟨hn,hx⟩
  have g:=zKr (i.l.zip i.p0) (i.q-i.p0.sum) j n x hz
  have r:=zHo (i.l.zip i.p0) (i.q-i.p0.sum) j (by omega) (fun y hy=>by
   obtain⟨k,hk⟩:=y2q.1 hy
   rw[y4w]at hk
   exact(px k y.1 y.2 hk.1 hk.2).2)
  rw[hz2]at g r
  have b0:=jI pb i.p0.length
  rw[y3n]at b0
  have hml:(ae j i.p1++ak j i.p0).length=i.l.length:=by rw[y0e,y0t,y0x];omega
  have hma:=yOq (a:=i.p1) (b:=i.p0) (by omega) hx
  change i.p1[j]? =_ at g
  change 0≤_-(ae j i.p1).sum∧_-(ae j i.p1).sum≤_ at r
  change i.p1[j]? =ay (x+min (n-x) (_-(ae j i.p1).sum))at g
  rw[hml]
  refine⟨⟨by omega,by omega⟩,n,elI hn,⟨by omega,by omega⟩,x,elI hma,⟨by omega,by omega⟩,x,elI hma,⟨by omega,by omega⟩,by omega,?_⟩
  rw[w64 (x:=n-x) (by omega),w64 (x:=x+min (n-x) (i.q-i.p0.sum+(ae j i.p0).sum-(ae j i.p1).sum)) (by omega)]
  refine⟨j+1,?_,wjn (by omega),?_,hj',by dsimp only;omega,trivial⟩
  ·rw[jQ hx,jQ g,w64 (by omega)];omega
  ·rw[y0s,zRo hma,yKj (by omega) g]
 ·have hje:j=i.l.length:=by omega
  subst hje
  refine⟨(),?_,trivial⟩
  rw[eS,y0p (by omega),y3s (by omega),y0v]
theorem yEi:plainC.ok Tryz.prog 312:=okw mixed (gokc zCu (gokc yKx (gokc zQz gok0))) 0 (fun _=>[]) (fun i=>yQi i) [] Tryz.func312 ySg
open Go Cv Go.Proofs
structure RsI where
 l:List Int
 out:List Int
 least:Int
 q:Int
def RsI.idx (i:RsI) (k:Nat):List Nat:=(ao k).filter fun n=>decide (i.out.getD n 0<i.l.getD n 0)
def RsI.left (i:RsI) (k:Nat):List Int:=(i.idx k).map fun n=>i.l.getD n 0-i.out.getD n 0
def RsI.pl (i:RsI):List Int:=kR ⟨i.left i.l.length,i.least,i.q⟩
def RsI.add (i:RsI) (k:Nat):List Int:=(((i.idx i.l.length).zip i.pl).take k).foldl (fun o y=>o.set y.1 (aa.wrap (o.getD y.1 0+y.2))) i.out
def mV (i:RsI):List Int:=i.add i.pl.length
@[reducible] def RsI.ok (i:RsI):Prop:=i.l.length≤250∧i.out.length=i.l.length∧yO i.q∧yO i.least∧∀n,0≤i.out.getD n 0∧i.out.getD n 0≤i.l.getD n 0∧i.l.getD n 0≤1000000
def restC:Con:=con1 RsI (fun i=>[iV i.l,.own 0,zA i.least,zA i.q]) (fun i=>[.own 2 1 (iE i.out)]) RsI.ok (fun _=> .own 1) (fun i=>[.gone,.own 2 1 (iE (mV i))])
def yWn (i:RsI):List SAnn:=[
 {ι:=Nat,slots:=fun j=>[(9,.own 0),(10,.own 1),(16,zA j)],rows:=fun j=>[.own 2 1 (iE (i.left j)),.own 3 1 (iE ((i.idx j).map fun(n:Nat)=>(n:Int)))]},
 {ι:=Nat,slots:=fun k=>[(1,.own 0),(50,zA k)],rows:=fun k=>[.own 2 1 (iE (i.add k))]}]
structure zK where
 id:Int
 side:Int
 price:Int
 qty:Int
 top:Bool
 deriving DecidableEq
def wU (o:zK):List D:=[.v (.int .i64 o.id),.v (.int .i64 o.side),.v (.int .i64 o.price),.v (.int .i64 o.qty),.v (.bool o.top)]
@[reducible] def z9g (o:zK):V:= .agg [zA o.id,zA o.side,zA o.price,zA o.qty,yF o.top]
def topFC:Con:=con1 zK (fun o=>[z9g o]) (fun _=>[]) (fun _=>True) (fun o=>yF o.top) (fun _=>[])
def topI (l:List zK):Int:=zHm (l.findIdx? fun o=>o.top)
def idxOrdC:Con:=con1 (List zK) (fun l=>[roV 5 (l.map wU),.fn 288 [] []]) (fun _=>[]) (fun l=>l.length≤1000000) (fun l=>zA (topI l)) (fun _=>[])
def yJa (l:List zK):List SAnn:=[{ι:=Nat,slots:=fun j=>[(8,zA j)],rows:=fun _=>[]}]
open Go Cv Go.Proofs
def yOc (i:RsI):Prop:=
 ∃(a:Nat),(↑a:Int)=0∧iE (i.left a)=[]∧iE (ac (fun(n:Nat) ↦ (↑n:Int)) (i.idx a))=[]∧∃(b:Nat→Prop),∃(c:Nat→Nat),b a∧∀(d:Nat),b d→cnd (decide ((↑d:Int)<(↑(iE i.l).length:Int))) ((0≤(↑d:Int)∧(↑d:Int)<(↑(iE i.l).length:Int))∧∃(e:Int),zE (iE i.l) (↑d:Int).toNat 0 1=ay [dI e]∧(0≤(↑d:Int)∧(↑d:Int)<(↑(iE i.out).length:Int))∧∃(f:Int),zE (iE i.out) (↑d:Int).toNat 0 1=ay [dI f]∧cnd (decide (e>f)) ((0≤(↑d:Int)∧(↑d:Int)<(↑(iE i.l).length:Int))∧∃(g:Int),zE (iE i.l) (↑d:Int).toNat 0 1=ay [dI g]∧(0≤(↑d:Int)∧(↑d:Int)<(↑(iE i.out).length:Int))∧∃(h:Int),zE (iE i.out) (↑d:Int).toNat 0 1=ay [dI h]∧((iE (i.left d)).length+1)*(8:Nat)≤(140737488355328:Nat)∧((iE (ac (fun(g:Nat) ↦ (↑g:Int)) (i.idx d))).length+1)*(8:Nat)≤(140737488355328:Nat)∧∃(j:Nat),(↑j:Int)=aa.wrap ((↑d:Int)+1)∧iE (i.left j)=iE (i.left d)++[[dI (aa.wrap (g-h))]]∧iE (ac (fun(g:Nat) ↦ (↑g:Int)) (i.idx j))=iE (ac (fun(g:Nat) ↦ (↑g:Int)) (i.idx d))++[[dI (↑d:Int)]]∧b j∧c j<c d∧au 2 1 (iE i.out)=au 2 1 (iE i.out)) (∃(g:Nat),(↑g:Int)=aa.wrap ((↑d:Int)+1)∧iE (i.left g)=iE (i.left d)∧iE (ac (fun(e:Nat) ↦ (↑e:Int)) (i.idx g))=iE (ac (fun(e:Nat) ↦ (↑e:Int)) (i.idx d))∧b g∧c g<c d∧au 2 1 (iE i.out)=au 2 1 (iE i.out))) (∃(e:PlI),iE e.l=iE (i.left d)∧e.least=i.least∧e.q=i.q∧(e.l.length≤1000000∧((-9223372036854775808)≤e.q∧e.q≤9223372036854775807)∧(-9223372036854775808)≤e.least∧e.least≤9223372036854775807)∧∀(f:Unit),True→∃(g:Nat),(↑g:Int)=0∧iE (i.add g)=iE i.out∧∃(h:Nat→Prop),∃(j:Nat→Nat),h g∧∀(k:Nat),h k→cnd (decide ((↑k:Int)<(↑(iE (kR e)).length:Int))) ((0≤(↑k:Int)∧(↑k:Int)<(↑(iE (kR e)).length:Int))∧∃(l:Int),zE (iE (kR e)) (↑k:Int).toNat 0 1=ay [dI l]∧(0≤(↑k:Int)∧(↑k:Int)<(↑(iE (ac (fun(l:Nat) ↦ (↑l:Int)) (i.idx d))).length:Int))∧∃(m:Int),zE (iE (ac (fun(l:Nat) ↦ (↑l:Int)) (i.idx d))) (↑k:Int).toNat 0 1=ay [dI m]∧(0≤m∧m<(↑(iE (i.add k)).length:Int))∧∃(n:Int),zE (iE (i.add k)) m.toNat 0 1=ay [dI n]∧(0≤m∧m<(↑(iE (i.add k)).length:Int))∧m.toNat<(iE (i.add k)).length∧∃(p:Nat),(↑p:Int)=aa.wrap ((↑k:Int)+1)∧iE (i.add p)=zH (iE (i.add k)) m.toNat 0 [dI (aa.wrap (n+l))]∧h p∧j p<j k∧au 2 1 (iE (kR e))=au 2 1 (iE (kR e))∧av 1 (iE (i.left d))=av 1 (iE (i.left d))∧au 3 1 (iE (ac (fun(l:Nat) ↦ (↑l:Int)) (i.idx d)))=au 3 1 (iE (ac (fun(l:Nat) ↦ (↑l:Int)) (i.idx d)))) (∃(l:Unit),iE (mV i)=iE (i.add k)∧True))
def yOa (o:zK):Prop:=
 ∃(a:Unit),o.top=o.top∧True
def z4s (l:List zK):Prop:=
 ∃(a:Nat),(↑a:Int)=0∧∃(b:Nat→Prop),∃(c:Nat→Nat),b a∧∀(d:Nat),b d→cnd (decide ((↑d:Int)<(↑(ac wU l).length:Int))) ((0≤(↑d:Int)∧(↑d:Int)<(↑(ac wU l).length:Int))∧∃(e:Int),∃(f:Int),∃(g:Int),∃(h:Int),∃(j:Bool),zE (ac wU l) (↑d:Int).toNat 0 5=ay [dI e,dI f,dI g,dI h,D.v (.bool j)]∧∃(k:zK),k.id=e∧k.side=f∧k.price=g∧k.qty=h∧k.top=j∧True∧∀(m:Unit),True→cnd k.top (∃(n:Unit),topI l=(↑d:Int)∧True) (jL d b c)) (∃(e:Unit),topI l=(-1)∧True)
open Go Cv Go.Proofs
theorem yKt:topFC.ok Tryz.prog 288:=okw (V:=yOa) mixed gok0 0 (fun _=>[]) (fun _=>[]) [] Tryz.func288 fun(o:zK) _=>by
 unfold yOa
 exact⟨(),rfl,trivial⟩
theorem zZj (i:PlI):(kR i).length=i.l.length∨kR i=[]:=by
 rw[kR]
 split
 ·left;rw[PlI.p1,zBy,List.length_zip,zZd];simp
 ·exact .inr rfl
theorem yPj {l:List zK} {k:Nat} {o:zK} (h:l[k]? =ay o):zE (l.map wU) k 0 5=ay [D.v (.int .i64 o.id),.v (.int .i64 o.side),.v (.int .i64 o.price),.v (.int .i64 o.qty),.v (.bool o.top)]:=elA h (by simp[wU]) rfl
theorem yJe (l:List zK) (h:idxOrdC.cnd l):z4s l:=by
 have h:l.length≤1000000:=h
 unfold z4s jL j7 dI
 simp only[y0a]
 refine⟨0,rfl,fun j=>j≤l.length∧∀k<j,∀x,l[k]? =ay x→x.top=aq,fun j=>l.length-j,⟨by omega,fun k hk=>by omega⟩,?_⟩
 rintro j ⟨h3,h4⟩
 refine zJ (fun hj=> ?_) (fun hj=> ?_)
 ·obtain⟨s,hs⟩:=z8 (l:=l) (i:=j) (by omega)
  refine⟨⟨by omega,by omega⟩,s.id,s.side,s.price,s.qty,s.top,yPj hs,s,rfl,rfl,rfl,rfl,rfl,trivial,fun _ _=>Cv.cnd.mk (fun e=> ?_) (fun e=> ?_)⟩
  ·rw[topI,zGt hs e h4];(repeat'(first|exact rfl|exact trivial|assumption|apply az|refine fun(_:Unit) (_:True)=>?_|refine ax () ?_|omega|(dsimp only;omega)))
  ·refine⟨j+1,by rw[w64 (by omega)];rfl,⟨by omega,fun k hk x hx=> ?_⟩,by(first|omega|(dsimp only;omega)),k0q⟩
   rcases y2v k j with hk'|hk'
   ·exact h4 k hk' x hx
   ·obtain rfl:k=j:=by omega
    rw[hs]at hx;cases hx;exact e
 ·rw[topI,zFf fun k x hx=>h4 k (by have:=(yZz.1 hx).1;omega) x hx];(repeat'(first|exact rfl|exact trivial|assumption|apply az|refine fun(_:Unit) (_:True)=>?_|refine ax () ?_|omega|(dsimp only;omega)))
theorem z8c:idxOrdC.ok Tryz.prog 287:=okw mixed (gokc yKt gok0) 0 (fun _=>[]) (fun l=>yJa l) [] Tryz.func287 yJe
theorem yBk (i:RsI) (j:Nat):i.idx (j+1)=i.idx j++if i.out.getD j 0<i.l.getD j 0 then[j]else[]:=by
 rw[RsI.idx,y4y,y2w]
 by_cases h:i.out.getD j 0<i.l.getD j 0
 ·rw[yZy h,y5a (by simpa using h)];rfl
 ·rw[yZx h,y5b (by simpa using h)];rfl
theorem yOp (i:RsI) {k n:Nat} (h:n∈i.idx k):n<k:=by
 have:=(y2c.1 h).1
 exact y3g.1 this
theorem z6f (i:RsI) (k:Nat):(i.idx k).length≤k:=by
 have:=y3o (fun n=>decide (i.out.getD n 0<i.l.getD n 0)) (ao k)
 rw[List.length_range]at this
 exact this
theorem zVt:∀(z:List (Nat×Int)) (o:List Int),(z.foldl (fun o y=>o.set y.1 (aa.wrap (o.getD y.1 0+y.2))) o).length=o.length
 |[],_=>rfl
 |y::z,o=>by rw[y2u,zVt z,y1c]
theorem yWp (i:RsI) (h:restC.cnd i):yOc i:=by
 obtain⟨hl,ho,hq,hle,hb⟩:i.ok:=h
 unfold yOc dI
 simp only[xD,y0a]
 have hil:∀j,(i.left j).length=(i.idx j).length:=fun j=>y0a _
 refine⟨0,by(first|exact rfl|exact trivial),by(first|exact rfl|exact trivial),by(first|exact rfl|exact trivial),fun j=>j≤i.l.length,fun j=>i.l.length-j,y1n _,fun j hj=>zJ (fun c=> ?_) (fun c=> ?_)⟩
 ·have hj':j<i.l.length:=by omega
  obtain⟨n,hn⟩:=z8 (l:=i.l) (i:=j) hj'
  obtain⟨o,hoo⟩:=z8 (l:=i.out) (i:=j) (by omega)
  have bj:=hb j
  rw[zT hn,zT hoo]at bj
  have is:=yBk i j
  rw[zT hn,zT hoo]at is
  have il:=z6f i j
  refine⟨⟨by omega,by omega⟩,n,elI hn,⟨by omega,by omega⟩,o,elI hoo,zJ (fun a=> ?_) (fun a=> ?_)⟩
  ·rw[yZy (by omega)]at is
   refine⟨⟨by omega,by omega⟩,n,elI hn,⟨by omega,by omega⟩,o,elI hoo,by rw[hil];omega,by omega,j+1,wjn (by omega),?_,?_,hj',by dsimp only;omega,k0q⟩
   ·rw[w64 (by omega),RsI.left,is,y0j]
    simp[iE,RsI.left,hn,hoo]
   ·rw[is];simp[iE]
  ·rw[yZx (by omega),y0v]at is
   exact⟨j+1,wjn (by omega),by rw[RsI.left,is];rfl,by rw[is],hj',by dsimp only;omega,k0q⟩
 have hje:j=i.l.length:=by omega
 subst hje
 have il:=z6f i i.l.length
 refine⟨⟨i.left i.l.length,i.least,i.q⟩,rfl,rfl,rfl,⟨by dsimp only;rw[hil];omega,hq,hle⟩,fun _ _=> ?_⟩
 have epl:kR ⟨i.left i.l.length,i.least,i.q⟩=i.pl:=rfl
 rw[epl]
 have hpl:i.pl.length≤(i.idx i.l.length).length:=by
  rcases zZj ⟨i.left i.l.length,i.least,i.q⟩with e|e
  ·rw[epl]at e;rw[e];dsimp only;rw[hil];exact y1f _
  ·rw[epl]at e;rw[e];exact y1n _
 have hal:∀k,(i.add k).length=i.out.length:=fun k=>zVt _ _
 refine⟨0,by(first|exact rfl|exact trivial),by(first|exact rfl|exact trivial),fun k=>k≤i.pl.length,fun k=>i.pl.length-k,y1n _,fun k hk=>zJ (fun c=> ?_) (fun c=> ?_)⟩
 ·have hk':k<i.pl.length:=by omega
  obtain⟨x,hx⟩:=z8 (l:=i.pl) (i:=k) hk'
  obtain⟨n,hn⟩:=z8 (l:=i.idx i.l.length) (i:=k) (by omega)
  have hnl:=yOp i (y0g hn)
  obtain⟨y,hy⟩:=z8 (l:=i.add k) (i:=n) (by rw[hal];omega)
  have ea:i.add (k+1)=(i.add k).set n (aa.wrap (y+x)):=by
   have hz:((i.idx i.l.length).zip i.pl)[k]? =ay (n,x):=by rw[y4w];exact⟨hn,hx⟩
   have ey:(i.add k).getD n 0=y:=zT hy
   rw[RsI.add,y1i,hz,y5o]
   show(i.add k).set n (aa.wrap ((i.add k).getD n 0+x))=_
   rw[ey]
  have hnm:((i.idx i.l.length).map fun(n:Nat)=>(n:Int))[k]? =ay (n:Int):=by rw[y0z,hn];rfl
  rw[hal]
  refine⟨⟨by omega,by omega⟩,x,elI hx,⟨by omega,by omega⟩,n,elI hnm,⟨by omega,by omega⟩,y,elI hy,⟨by omega,by omega⟩,by omega,k+1,wjn (by omega),?_,hk',by dsimp only;omega,k0q⟩
  rw[ea,y0s,zRo hy]
 ·have hke:k=i.pl.length:=by omega
  subst hke
  exact⟨(),rfl,trivial⟩
theorem z2y:restC.ok Tryz.prog 306:=okw mixed (gokc yEi gok0) 0 (fun _=>[]) (fun i=>yWn i) [] Tryz.func306 yWp
open Go Cv Go.Proofs
structure PsI where
 l:List Int
 top:Int
 most:Int
 least:Int
 q:Int
def PsI.first (i:PsI):Int:=min (min (i.l.getD i.top.toNat 0) i.most) i.q
def PsI.rs (i:PsI):RsI:=if 0≤i.top∧i.top<i.l.length then⟨i.l,(af i.l.length 0).set i.top.toNat i.first,i.least,i.q-i.first⟩else⟨i.l,af i.l.length 0,i.least,i.q⟩
def zCx (i:PsI):List Int:=if yS i.l i.q=ap∧1≤i.least∧0≤i.most then mV i.rs else[]
def proC:Con:=con1 PsI (fun i=>[iV i.l,zA i.top,zA i.most,zA i.least,zA i.q]) (fun _=>[]) (fun i=>i.l.length≤1000000∧yO i.q∧yO i.least∧yO i.most) (fun _=> .own 0) (fun i=>[.own 2 1 (iE (zCx i))])
structure SpI where
 l:List Int
 part:Int
 least:Int
 q:Int
def SpI.rs (i:SpI):RsI:=⟨i.l,uX i.l (i.q*i.part / 100),i.least,i.q-i.q*i.part / 100⟩
def zAz (i:SpI):List Int:=if yS i.l i.q=ap∧0≤i.part∧i.part≤100∧1≤i.least then mV i.rs else[]
def splC:Con:=con1 SpI (fun i=>[iV i.l,zA i.part,zA i.least,zA i.q]) (fun _=>[]) (fun i=>i.l.length≤1000000∧yO i.q∧yO i.least∧yO i.part) (fun _=> .own 0) (fun i=>[.own 2 1 (iE (zAz i))])
open Go Cv Go.Proofs
def zEh (a:RsI):Prop:=a.l.length≤250∧a.out.length=a.l.length∧((-9223372036854775808)≤a.q∧a.q≤9223372036854775807)∧((-9223372036854775808)≤a.least∧a.least≤9223372036854775807)∧∀(b:Nat),0≤a.out.getD b 0∧a.out.getD b 0≤a.l.getD b 0∧a.l.getD b (0:Int)≤(1000000:Int)
def zMd (a:RsI) (b:PsI):Prop:=(zEh a)∧∀(c:Unit),True→∃(d:Unit),iE (zCx b)=iE (mV a)∧True
def zTk (a:PsI):Prop:=∃(b:RsI),iE b.l=iE a.l∧b.least=a.least∧b.q=a.q∧iE b.out=af (↑(iE a.l).length:Int).toNat [dI 0]∧zMd b a
def sP (a:PsI):=(af (↑(iE a.l).length:Int).toNat [dI 0])
def zNr (a:PsI) (b:Int):=(zH (sP a) a.top.toNat 0 [dI (min (min b a.most) a.q)])
def yXc (i:PsI):Prop:=
 ∃(a:LqI),iE a.l=iE i.l∧a.q=i.q∧(wA a)∧∀(b:Unit),True→cnd (!yS a.l a.q) (∃(c:Unit),iE (zCx i)=[]∧True) (cnd (decide (i.least<1)) (∃(c:Unit),iE (zCx i)=[]∧True) (cnd (decide (i.most<0)) (∃(c:Unit),iE (zCx i)=[]∧True) ((0≤(↑(iE i.l).length:Int)∧(↑(iE i.l).length:Int)≤(↑(iE i.l).length:Int)∧(↑(iE i.l).length:Int)≤9223372036854775807∧(↑(8:Nat):Int)*(↑(iE i.l).length:Int)≤2 ^ (48:Nat))∧cnd (decide (i.top≥0)) (cnd (decide (i.top<(↑(iE i.l).length:Int))) ((0≤i.top∧i.top<(↑(iE i.l).length:Int))∧∃(c:Int),zE (iE i.l) i.top.toNat 0 1=ay [dI c]∧(0≤i.top∧i.top<(↑(sP i).length:Int))∧i.top.toNat<(sP i).length∧(0≤i.top∧i.top<(↑(zNr i c).length:Int))∧∃(d:Int),zE (zNr i c) i.top.toNat 0 1=ay [dI d]∧∃(e:RsI),iE e.l=iE i.l∧e.least=i.least∧e.q=aa.wrap (i.q-d)∧iE e.out=zH (sP i) i.top.toNat 0 [dI (min (min c i.most) i.q)]∧zMd e i) (zTk i)) (zTk i))))
def yWb (i:SpI):Prop:=
 ∃(a:LqI),iE a.l=iE i.l∧a.q=i.q∧(wA a)∧∀(b:Unit),True→cnd (!yS a.l a.q) (∃(c:Unit),iE (zAz i)=[]∧True) (cnd (decide (i.part<0)) (∃(c:Unit),iE (zAz i)=[]∧True) (cnd (decide (i.part>100)) (∃(c:Unit),iE (zAz i)=[]∧True) (cnd (decide (i.least<1)) (∃(c:Unit),iE (zAz i)=[]∧True) (∃(c:ShI),c.a=i.q∧c.b=i.part∧c.c=100∧(0≤c.a∧c.a≤(2000000000:Int)∧(0:Int)≤c.b∧c.b≤(2000000000:Int)∧(1:Int)≤c.c∧c.c≤2000000000)∧∀(d:Unit),True→∃(e:LqI),iE e.l=iE i.l∧e.q=c.a*c.b / c.c∧(wA e)∧∀(f:Unit),True→∃(g:RsI),iE g.l=iE i.l∧g.least=i.least∧g.q=aa.wrap (i.q-c.a*c.b / c.c)∧iE g.out=iE (uX e.l e.q)∧(zEh g)∧∀(h:Unit),True→∃(j:Unit),iE (zAz i)=iE (mV g)∧True))))
end Sx
