/- Texts of ours, one behind the other: a walk that the kernel reckons, and contracts of functions. No condition. -/
import Derived.Laws.Externs
import Derived.Test.YtogkpgfggfbhaaaGreatX5
namespace Sx
set_option linter.unusedVariables false
set_option maxRecDepth 100000
open Go Cv Go.Proofs
def aA (a:Bool→Prop) (b:Bool) (c:List UInt8) (d:Nat×Nat):Prop:=a b∧Sx.AObj.iter (sb c) (d.fst+(Utf8.decode (sb c) d.fst).snd)=Sx.AObj.iter (sb c) (d.fst+(Utf8.decode (sb c) d.fst).snd)
def x7 (a:List UInt8) (b:Nat×Nat):=(↑(Utf8.decode (sb a) b.fst).fst:Int)
def rJ (a:List UInt8) (b:Nat×Nat) (c:Bool→Prop):Prop:=∃(d:Bool),d=!(x7 a b) !=930∧aA c d a b
def dQ (a:Bool→Prop) (b:List UInt8) (c:Nat×Nat):Prop:=∃(d:Bool),d=!false∧aA a d b c
def z2l (s:List UInt8):Prop:=
 ∃(a:Nat×Nat),(↑a.snd:Int)=0∧sb s=sb s∧a.fst=0∧∃(b:Nat×Nat→Prop),∃(c:Nat×Nat→Nat),b a∧∀(d:Nat×Nat),b d→cnd (d.fst.blt (sb s).size) (∃(e:Bool),∃(f:Bool→Prop),cnd (decide ((x7 s d)≥65)) (cnd (decide ((x7 s d)≤90)) (∃(g:Bool),g=!true∧aA f g s d) (cnd (decide ((x7 s d)≥913)) (cnd (decide ((x7 s d)≤937)) (rJ s d f) (dQ f s d)) (dQ f s d))) (cnd (decide ((x7 s d)≥913)) (cnd (decide ((x7 s d)≤937)) (rJ s d f) (dQ f s d)) (dQ f s d))∧∀(g:Bool),f g→cnd g (∃(h:Unit),j5 s=false∧True) (dA d s b c)) (cnd (decide ((↑d.snd:Int)≥1)) (∃(e:Unit),j5 s=decide ((↑d.snd:Int)≤4)∧True) (∃(e:Unit),j5 s=false∧True))
def mB (a:Prd):Prop:=Sx.AObj.cells [V.d (uF a),V.own 0,V.d (dI a.tick),V.d (dI a.low),V.d (dI a.high),V.d (dI a.wide),V.d (dI a.rule),V.d (dI a.top),V.d (dI a.least),V.d (dI a.part),V.own ((0:Nat)+(1:Nat))] 26=Sx.AObj.cells [V.d (uF a),V.own 0,V.d (dI a.tick),V.d (dI a.low),V.d (dI a.high),V.d (dI a.wide),V.d (dI a.rule),V.d (dI a.top),V.d (dI a.least),V.d (dI a.part),V.own ((0:Nat)+(1:Nat))] 26∧cE a
def sG (a:Nat) (b:Nat→Prop) (c:Nat→Nat) (d:Prd):Prop:=∃(e:Nat),(↑e:Int)=IntKind.i64.wrap ((↑a:Int)+1)∧b e∧c e<c a∧mB d
def sQ (a:Bool→Prop) (b:Prd) (c:Nat) (d:Nat→Prop) (e:Nat→Nat):Prop:=∀(f:Bool),a f→cnd f (∃(g:Unit),b.check=1∧True) (sG c d e b)
def kG (a:Bool→Prop) (b:Bool) (c:Prd):Prop:=a b∧mB c
def yT (a:Bool→Prop) (b:Prd):Prop:=∃(c:Bool),c=true∧kG a c b
def zSz (p:Prd):Prop:=
 ∃(a:List UInt8),sb a=sb p.code∧a.length≤1099511627776∧∀(b:Unit),True→cnd (!j5 a) (∃(c:Unit),p.check=12∧True) (∃(c:Bool),∃(d:Bool→Prop),cnd (decide ((xA p)<2)) (yT d p) (∃(e:Bool),e=decide ((xA p)>6)∧kG d e p)∧∀(e:Bool),d e→cnd e (∃(f:Unit),p.check=1∧True) (∃(f:Nat),(↑f:Int)=0∧∃(g:Nat→Prop),∃(h:Nat→Nat),g f∧∀(j:Nat),g j→cnd (decide ((↑j:Int)<(xA p))) (∃(k:Bool),∃(l:Bool→Prop),((0≤(↑j:Int)∧(↑j:Int)<(xA p))∧∃(m:Int),zE (iE p.months) (↑j:Int).toNat 0 1=some [dI m]∧cnd (decide (m<0)) (yT l p) ((0≤(↑j:Int)∧(↑j:Int)<(xA p))∧∃(n:Int),zE (iE p.months) (↑j:Int).toNat 0 1=some [dI n]∧cnd (decide (n>1199)) (yT l p) (cnd (decide ((↑j:Int)>0)) ((0≤IntKind.i64.wrap ((↑j:Int)-1)∧IntKind.i64.wrap ((↑j:Int)-1)<(xA p))∧∃(q:Int),zE (iE p.months) (IntKind.i64.wrap ((↑j:Int)-1)).toNat 0 1=some [dI q]∧(0≤(↑j:Int)∧(↑j:Int)<(xA p))∧∃(r:Int),zE (iE p.months) (↑j:Int).toNat 0 1=some [dI r]∧∃(s:Bool),s=decide (q≥r)∧kG l s p) (∃(q:Bool),q=false∧kG l q p))))∧sQ l p j g h) (∃(k:Bool),∃(l:Bool→Prop),cnd (decide (p.tick<1)) (yT l p) (cnd (decide (p.tick>1000)) (yT l p) (IntKind.i64=IntKind.i64∧p.tick≠0∧cnd (p.low.tmod p.tick !=0) (yT l p) (IntKind.i64=IntKind.i64∧p.tick≠0∧cnd (p.high.tmod p.tick !=0) (yT l p) (IntKind.i64=IntKind.i64∧p.tick≠0∧∃(m:Bool),m=(p.wide.tmod p.tick !=0)∧kG l m p))))∧∀(m:Bool),l m→cnd m (∃(n:Unit),p.check=22∧True) (∃(n:Nat),(↑n:Int)=0∧∃(q:Nat→Prop),∃(r:Nat→Nat),q n∧∀(s:Nat),q s→cnd (decide ((↑s:Int)<(wK p))) ((0≤(↑s:Int)∧(↑s:Int)<(wK p))∧∃(t:Int),zE (iE p.settle) (↑s:Int).toNat 0 1=some [dI t]∧IntKind.i64=IntKind.i64∧p.tick≠0∧cnd (t.tmod p.tick !=0) (∃(u:Unit),p.check=22∧True) (sG s q r p)) (∃(t:Bool),∃(u:Bool→Prop),cnd (decide (p.low<(-1000000))) (yT u p) (cnd (decide (p.low≥p.high)) (yT u p) (cnd (decide (p.high>1000000)) (yT u p) (cnd (decide (p.wide<0)) (yT u p) (∃(v:Bool),v=decide (p.wide>IntKind.i64.wrap (p.high-p.low))∧kG u v p))))∧∀(v:Bool),u v→cnd v (∃(w:Unit),p.check=23∧True) (cnd ((wK p) !=(xA p)) (∃(w:Unit),p.check=1∧True) (∃(w:Nat),(↑w:Int)=0∧∃(x:Nat→Prop),∃(y:Nat→Nat),x w∧∀(z:Nat),x z→cnd (decide ((↑z:Int)<(wK p))) (∃(a_1:Bool),∃(a_2:Bool→Prop),((0≤(↑z:Int)∧(↑z:Int)<(wK p))∧∃(a_3:Int),zE (iE p.settle) (↑z:Int).toNat 0 1=some [dI a_3]∧cnd (decide (a_3<p.low)) (yT a_2 p) ((0≤(↑z:Int)∧(↑z:Int)<(wK p))∧∃(a_4:Int),zE (iE p.settle) (↑z:Int).toNat 0 1=some [dI a_4]∧∃(a_5:Bool),a_5=decide (a_4>p.high)∧kG a_2 a_5 p))∧sQ a_2 p z x y) (∃(a_1:Bool),∃(a_2:Bool→Prop),cnd (decide (p.rule<1)) (yT a_2 p) (∃(a_3:Bool),a_3=decide (p.rule>3)∧kG a_2 a_3 p)∧∀(a_3:Bool),a_2 a_3→cnd a_3 (∃(a_4:Unit),p.check=31∧True) (∃(a_4:Bool),∃(a_5:Bool→Prop),cnd (decide (p.top<0)) (yT a_5 p) (cnd (decide (p.top>1000000)) (yT a_5 p) (cnd (decide (p.least<1)) (yT a_5 p) (cnd (decide (p.least>1000)) (yT a_5 p) (cnd (decide (p.part<0)) (yT a_5 p) (∃(a_6:Bool),a_6=decide (p.part>100)∧kG a_5 a_6 p)))))∧∀(a_6:Bool),a_5 a_6→cnd a_6 (∃(a_7:Unit),p.check=24∧True) (∃(a_7:Unit),p.check=0∧True))))))))))
def zVi (p:Prd):Prop:=
 ∃(a:Prd),nO a p
def hU (a:dK) (b:Nat×Nat):=(↑(yK a.p.months.length b.fst+b.snd):Int)
def z0y (i:dK):Prop:=
 ∃(a:Prd),sb a.code=sb i.p.code∧iE a.months=iE i.p.months∧a.tick=i.p.tick∧a.low=i.p.low∧a.high=i.p.high∧a.wide=i.p.wide∧a.rule=i.p.rule∧a.top=i.p.top∧a.least=i.p.least∧a.part=i.p.part∧iE a.settle=iE i.p.settle∧(z7 a)∧∀(b:Unit),True→cnd (a.check !=0) (gG i) (cnd (decide (i.n<0)) (gG i) (cnd (decide (i.n<(wS i))) (tX i) (∃(c:Nat),(vW i c)=(wS i)∧(↑c:Int)=0∧∃(d:Nat→Prop),∃(e:Nat→Nat),d c∧∀(f:Nat),d f→cnd (decide ((↑f:Int)<(wS i))) (∃(g:Nat×Nat),(hU i g)=(vW i f)∧(↑g.fst:Int)=(↑f:Int)∧(↑(g.fst+1+g.snd):Int)=IntKind.i64.wrap ((↑f:Int)+1)∧∃(h:Nat×Nat→Prop),∃(j:Nat×Nat→Nat),h g∧∀(k:Nat×Nat),h k→cnd (decide ((↑(k.fst+1+k.snd):Int)<(wS i))) (cnd ((hU i k)==i.n) (∃(l:Unit),(i.p.legs i.n).fst=(↑k.fst:Int)∧(i.p.legs i.n).snd.fst=(↑(k.fst+1+k.snd):Int)∧(i.p.legs i.n).snd.snd=true∧True) (∃(l:Nat×Nat),(hU i l)=IntKind.i64.wrap ((hU i k)+1)∧(↑l.fst:Int)=(↑k.fst:Int)∧(↑(l.fst+1+l.snd):Int)=IntKind.i64.wrap ((↑(k.fst+1+k.snd):Int)+1)∧h l∧j l<j k∧mS i)) (∃(l:Nat),(vW i l)=(hU i k)∧(↑l:Int)=IntKind.i64.wrap ((↑k.fst:Int)+1)∧zAq d l e f i)) (gG i))))
def y5 (a:WiI):Prop:=((-9223372036854775808)≤a.n∧a.n≤9223372036854775807)∧(-1000000)≤a.lo∧a.lo≤a.hi∧a.hi≤1000000
def xX (a:WiI):=(1+zH a.n a.lo a.hi)
def qU:=(D.v (Value.slice none 0 0))
def fZ:=(D.v (Value.string (ByteArray.mk #[])))
def zDk (a:Prd):Prop:=Sx.AObj.cells (Sx.V.agg [V.d fZ,V.d qU,V.d (dI 0),V.d (dI 0),V.d (dI 0),V.d (dI 0),V.d (dI 0),V.d (dI 0),V.d (dI 0),V.d (dI 0),V.d qU]).cl 26=Sx.AObj.cells (Sx.V.agg [V.d fZ,V.d qU,V.d (dI 0),V.d (dI 0),V.d (dI 0),V.d (dI 0),V.d (dI 0),V.d (dI 0),V.d (dI 0),V.d (dI 0),V.d qU]).cl 26∧mB a
def zDg (a:Prd) (b:WiI) (c:WiI) (d:WiI) (e:WiI) (f:Unit→Prop):Prop:=∃(g:WiI),g.n=a.part∧g.lo=0∧g.hi=100∧(y5 g)∧∀(h:Unit),True→∃(j:Unit),sb [(206:UInt8),(169:UInt8)]=ByteArray.mk #[(206:UInt8),(169:UInt8)]∧True∧zW a=IntKind.i64.wrap (xX b)∧(-20)*zW a=IntKind.i64.wrap ((-20)*IntKind.i64.wrap (xX b))∧100*zW a=IntKind.i64.wrap (100*IntKind.i64.wrap (xX b))∧(0:Int)=(0:Int)∧1+zH a.rule 0 2=IntKind.i64.wrap (xX c)∧zH a.top 0 9=zH d.n d.lo d.hi∧1+zH a.least 0 4=IntKind.i64.wrap (xX e)∧zH a.part 0 100=zH g.n g.lo g.hi∧True∧f j∧zDk a
def zEw (a:Prd) (b:WiI) (c:WiI) (d:WiI) (e:WiI) (f:Unit→Prop):Prop:=a.part=a.part∧zDg a b c d e f
def zEe (a:Prd) (b:WiI) (c:WiI) (d:WiI) (e:Unit→Prop):Prop:=a.part=a.part∧a.least=a.least∧∃(f:WiI),f.n=a.least∧f.lo=0∧f.hi=4∧(y5 f)∧∀(g:Unit),True→zEw a b c d f e
def zEc (a:Prd) (b:WiI) (c:WiI) (d:Unit→Prop):Prop:=a.part=a.part∧a.least=a.least∧a.top=a.top∧∃(e:WiI),e.n=a.top∧e.lo=0∧e.hi=9∧(y5 e)∧∀(f:Unit),True→zEe a b c e d
def x4 (a:Prd):=(5+zH a.wide 0 60)
def vF (a:Prd):=(kT (zW a) (kN a).toNat)
def yAb (x:Prd):Prop:=
 ∃(a:WiI),a.n=(xA x)∧a.lo=0∧a.hi=3∧(y5 a)∧∀(b:Unit),True→∃(c:WiI),c.n=x.tick∧c.lo=0∧c.hi=9∧(y5 c)∧∀(d:Unit),True→∃(e:Unit),∃(f:Unit→Prop),((∃(g:WiI),g.n=x.rule∧g.lo=0∧g.hi=2∧(y5 g)∧∀(h:Unit),True→x.part=x.part∧x.least=x.least∧x.top=x.top∧(∃(j:WiI),j.n=x.top∧j.lo=0∧j.hi=9∧(y5 j)∧∀(k:Unit),True→x.part=x.part∧x.least=x.least∧(∃(l:WiI),l.n=x.least∧l.lo=0∧l.hi=4∧(y5 l)∧∀(m:Unit),True→x.part=x.part∧(zDg x c g j l f)∧zEw x c g j l f)∧zEe x c g j f)∧zEc x c g f)∧x.part=x.part∧x.least=x.least∧x.top=x.top∧x.rule=x.rule∧∃(g:WiI),g.n=x.rule∧g.lo=0∧g.hi=2∧(y5 g)∧∀(h:Unit),True→zEc x c g f)∧∀(g:Unit),f g→∃(h:WiI),h.n=x.wide∧h.lo=0∧h.hi=60∧(y5 h)∧∀(j:Unit),True→∃(k:Nat),(↑k:Int)=0∧sb [(206:UInt8),(169:UInt8)]=sb [(206:UInt8),(169:UInt8)]∧zW x=zW x∧(-20)*zW x=(-20)*zW x∧100*zW x=100*zW x∧zW x*(x4 x)=IntKind.i64.wrap (IntKind.i64.wrap (xX c)*IntKind.i64.wrap (5+zH h.n h.lo h.hi))∧1+zH x.rule 0 (2:Int)=(1:Int)+zH x.rule 0 2∧zH x.top 0 9=zH x.top 0 (9:Int)∧(1:Int)+zH x.least 0 (4:Int)=(1:Int)+zH x.least 0 4∧zH x.part 0 100=zH x.part 0 100∧iE (qG k)=[]∧iE (kT (zW x) k)=[]∧∃(l:Nat→Prop),∃(m:Nat→Nat),l k∧∀(n:Nat),l n→cnd (decide ((↑n:Int)<IntKind.i64.wrap (2+zH a.n a.lo a.hi))) (((iE (qG n)).length+1)*(8:Nat)≤(140737488355328:Nat)∧((iE (kT (zW x) n)).length+1)*(8:Nat)≤(140737488355328:Nat)∧∃(p:Nat),(↑p:Int)=IntKind.i64.wrap ((↑n:Int)+1)∧sb [(206:UInt8),(169:UInt8)]=sb [(206:UInt8),(169:UInt8)]∧zW x=zW x∧(-20)*zW x=(-20)*zW x∧100*zW x=100*zW x∧zW x*(x4 x)=zW x*(x4 x)∧1+zH x.rule 0 (2:Int)=(1:Int)+zH x.rule 0 2∧zH x.top 0 9=zH x.top 0 (9:Int)∧(1:Int)+zH x.least 0 (4:Int)=(1:Int)+zH x.least 0 4∧zH x.part 0 100=zH x.part 0 100∧iE (qG p)=iE (qG n)++[[dI (IntKind.i64.wrap (IntKind.i64.wrap (10*(↑n:Int))+3))]]∧iE (kT (zW x) p)=iE (kT (zW x) n)++[[dI (IntKind.i64.wrap (IntKind.i64.wrap (xX c)*IntKind.i64.wrap (10+(↑n:Int))))]]∧l p∧m p<m n∧zDk x) (∃(p:Unit),sb [(206:UInt8),(169:UInt8)]=sb [(206:UInt8),(169:UInt8)]∧iE (qG (kN x).toNat)=iE (qG n)∧zW x=zW x∧(-20)*zW x=(-20)*zW x∧100*zW x=100*zW x∧zW x*(x4 x)=zW x*(x4 x)∧1+zH x.rule 0 (2:Int)=(1:Int)+zH x.rule 0 2∧zH x.top 0 9=zH x.top 0 (9:Int)∧(1:Int)+zH x.least 0 (4:Int)=(1:Int)+zH x.least 0 4∧zH x.part 0 100=zH x.part 0 100∧iE (vF x)=iE (kT (zW x) n)∧True)
set_option linter.unusedSimpArgs false
open Go Cv Go.Proofs
theorem yGg (s:List UInt8) (h:r3prodC.cnd s):z2l s:=by
 have h:s.length≤1099511627776:=h
 have hr:=zEj s
 unfold z2l dQ rJ x7 aA dA
 refine⟨(0,0),rfl,rfl,rfl,fun x=>x.1≤s.length∧x.2+(u0 s x.1).length=(kV s).length∧(kV s).all uL=((u0 s x.1).all fun y=>uL y.2),fun x=>s.length-x.1,⟨by omega,by rw[kV,yVk];simp,by rw[kV,List.all_map];rfl⟩,?_⟩
 rintro⟨p,n⟩ ⟨h1,h2,h3⟩
 dsimp only at h1 h2 h3 ⊢
 refine Cv.cnd.mk (fun hp=> ?_) (fun hp=> ?_)
 ·have hp:p<s.length:=by simpa[yYi]using hp
  have hw:=bN s hp
  rw[j7 hp,yVt]at h2
  rw[j7 hp,List.all_cons]at h3
  generalize hc:(Utf8.decode (sb s) p).1=c at h2 h3 ⊢
  generalize hww:(Utf8.decode (sb s) p).2=w at h2 h3 hw ⊢
  dsimp only at h3
  have g0:∀b:Bool,(b=true→uL c=true)→(b=false→uL c=false)→b=uL c:=fun b e1 e2=>by cases b<;>simp_all
  refine⟨true,fun b=>b= !uL c,?_,fun b hb=> ?_⟩
  ·refine zJ (fun c1=>zJ (fun c2=>⟨_,rfl,?_,by(repeat'(first|exact trivial|exact rfl|apply And.intro))⟩) (fun c2=>zJ (fun c3=>zJ (fun c4=>⟨_,rfl,?_,by(repeat'(first|exact trivial|exact rfl|apply And.intro))⟩) (fun c4=>⟨_,rfl,?_,by(repeat'(first|exact trivial|exact rfl|apply And.intro))⟩)) (fun c3=>⟨_,rfl,?_,by(repeat'(first|exact trivial|exact rfl|apply And.intro))⟩))) (fun c1=>zJ (fun c3=>zJ (fun c4=>⟨_,rfl,?_,by(repeat'(first|exact trivial|exact rfl|apply And.intro))⟩) (fun c4=>⟨_,rfl,?_,by(repeat'(first|exact trivial|exact rfl|apply And.intro))⟩)) (fun c3=>⟨_,rfl,?_,by(repeat'(first|exact trivial|exact rfl|apply And.intro))⟩))
   all_goals congr 1
   all_goals refine g0 _ (fun e=> ?_) (fun e=> ?_)
   all_goals first|(simp[uL]at*;done)|(simp[uL]at*;omega)
  ·subst hb
   refine Cv.cnd.mk (fun e=>⟨(),?_,trivial⟩) (fun e=>⟨(p+w,n+1),?_,rfl,rfl,⟨hw.2,by(first|omega|(dsimp only;omega)),?_⟩,by(first|omega|(dsimp only;omega)),trivial⟩)
   ·have e:uL c=false:=by simpa using e
    rw[j5,h3,e];rfl
   ·rw[w64 (by omega)];rfl
   ·have e:uL c=true:=by simpa using e
    rw[h3,e];rfl
 ·have hp:s.length≤p:=by have:=z0s hp;simpa using this
  rw[fF hp]at h2 h3
  have h3:(kV s).all uL=true:=h3
  have hn:n=(kV s).length:=by simpa using h2
  have hne:(s=[])↔(kV s).length=0:=by
   constructor
   ·intro e;subst e;rfl
   ·intro e
    cases s with
    |nil=>rfl
    |cons b l=>
     rw[kV,yVk,j7 (by simp)]at e
     simp at e
  refine zJ (fun c=>⟨(),?_,trivial⟩) (fun c=>⟨(),?_,trivial⟩)
  ·have:¬s=[]:=by rw[hne];omega
   rw[j5,h3,yWd this,hn]
   simp only[yYc]
   congr 1
   simp only[eq_iff_iff];omega
  ·have:s=[]:=by rw[hne];omega
   rw[j5,this];rfl
theorem z4x:r3prodC.ok Tryz.prog 144:=okw mixed gok0 0 (fun _=>yGc) (fun s=>yEt s) [] Tryz.func144 yGg
theorem pQ:∀(l:List Int) (a:Int),l.foldl min a≤a∧∀x∈l,l.foldl min a≤x
 |[],a=>⟨yZw _,by simp⟩
 |b::l,a=>by
  obtain⟨h1,h2⟩:=pQ l (min a b)
  rw[yYv]
  refine⟨by omega,fun x hx=> ?_⟩
  rcases yWf.1 hx with rfl|hx
  ·omega
  ·exact h2 x hx
theorem nC:∀(l:List Int) (a:Int),a≤l.foldl max a∧∀x∈l,x≤l.foldl max a
 |[],a=>⟨yZw _,by simp⟩
 |b::l,a=>by
  obtain⟨h1,h2⟩:=nC l (max a b)
  rw[yYv]
  refine⟨by omega,fun x hx=> ?_⟩
  rcases yWf.1 hx with rfl|hx
  ·omega
  ·exact h2 x hx
theorem eU:∀(l:List Int) (a:Int),l.foldl min a=a∨l.foldl min a∈l
 |[],a=> .inl rfl
 |b::l,a=>by
  rw[yYv]
  rcases eU l (min a b)with h|h
  ·rcases Int.le_total a b with e|e
   ·left;rw[h];omega
   ·right;rw[h,show min a b=b by omega];exact yVp
  ·exact .inr (yVr _ h)
theorem eR:∀(l:List Int) (a:Int),l.foldl max a=a∨l.foldl max a∈l
 |[],a=> .inl rfl
 |b::l,a=>by
  rw[yYv]
  rcases eR l (max a b)with h|h
  ·rcases Int.le_total a b with e|e
   ·right;rw[h,show max a b=b by omega];exact yVp
   ·left;rw[h];omega
  ·exact .inr (yVr _ h)
theorem z3h {l:List Int} {x:Int} (h:x∈l):nT l≤x:=by
 cases l with
 |nil=>cases h
 |cons a l=>
  rw[nT,List.tail_cons,List.headD_cons]
  rcases yWf.1 h with rfl|h
  ·exact(pQ l x).1
  ·exact(pQ l a).2 x h
theorem z2t {l:List Int} {x:Int} (h:x∈l):x≤pZ l:=by
 cases l with
 |nil=>cases h
 |cons a l=>
  rw[pZ,List.tail_cons,List.headD_cons]
  rcases yWf.1 h with rfl|h
  ·exact(nC l x).1
  ·exact(nC l a).2 x h
theorem zTl {l:List Int} (h:l≠[]):nT l∈l:=by
 cases l with
 |nil=>exact absurd rfl h
 |cons a l=>
  rw[nT,List.tail_cons,List.headD_cons]
  rcases eU l a with h|h
  ·rw[h];exact yVp
  ·exact yVr _ h
theorem zVm {l:List Int} (h:l≠[]):pZ l∈l:=by
 cases l with
 |nil=>exact absurd rfl h
 |cons a l=>
  rw[pZ,List.tail_cons,List.headD_cons]
  rcases eR l a with h|h
  ·rw[h];exact yVp
  ·exact yVr _ h
theorem z8l (p:Prd) (h:r5checkC.cnd p):zSz p:=by
 obtain⟨h1,h2,h3⟩:p.small:=h
 unfold zSz yT kG sQ sG mB uF cE xA wK dI
 simp only[xD]
 refine⟨p.code,rfl,h1,fun _ _=>Cv.cnd.mk (fun c1=>⟨(),by rw[Prd.check,yVl c1],trivial⟩) fun c1=> ?_⟩
 have c1:j5 p.code=true:=by simpa using c1
 have e1:p.check=if !xC p.months then 1 else if !qJ p then 22 else if qI p then 23 else if xE p then 1 else if kD p then 31 else if x0 p then 24 else 0:=by
  rw[Prd.check,yVj (by simp[c1])]
 refine⟨true,fun b=>b=(decide (p.months.length<2)||decide (p.months.length>6)),zJ (fun c=>⟨true,rfl,?_,by(repeat'(first|exact trivial|exact rfl|apply And.intro))⟩) (fun c=>⟨_,rfl,?_,by(repeat'(first|exact trivial|exact rfl|apply And.intro))⟩),fun b hb=> ?_⟩
 ·rw[yWd (show p.months.length<2 by omega)];rfl
 ·rw[yVw (show ¬p.months.length<2 by omega),y1e]
  congr 1;simp only[eq_iff_iff];omega
 subst hb
 refine Cv.cnd.mk (fun c2=> ?_) (fun c2=> ?_)
 ·have:xC p.months=false:=by
   simp only[Bool.or_eq_true,yXd]at c2
   rw[xC]
   rcases c2 with c2|c2
   ·rw[yVw (show ¬2≤p.months.length by omega)];simp
   ·rw[yVw (show ¬p.months.length≤6 by omega)];simp
  exact⟨(),by rw[e1,yVl (by rw[this];rfl)],trivial⟩
 have c2:2≤p.months.length∧p.months.length≤6:=by
  simp only[yZh,decide_eq_false_iff_not]at c2;omega
 have em:xC p.months=(List.range p.months.length).all (qR p.months):=by
  rw[xC,yWd c2.1,yWd c2.2];simp
 refine⟨0,rfl,fun j=>j≤p.months.length∧∀k<j,qR p.months k=true,fun j=>p.months.length-j,⟨by omega,fun k hk=>by omega⟩,?_⟩
 rintro j ⟨g1,g2⟩
 refine zJ (fun hj=> ?_) (fun hj=> ?_)
 ·obtain⟨m,hm⟩:=yD (l:=p.months) (i:=j) (by omega)
  have hmj:p.months.getD j 0=m:=zT hm
  refine⟨true,fun b=>b= !qR p.months j,⟨⟨by omega,by omega⟩,m,elI hm,zJ (fun c=>⟨true,rfl,?_,by(repeat'(first|exact trivial|exact rfl|apply And.intro))⟩) (fun c=>⟨⟨by omega,by omega⟩,m,elI hm,zJ (fun d=>⟨true,rfl,?_,by(repeat'(first|exact trivial|exact rfl|apply And.intro))⟩) (fun d=>zJ (fun e=> ?_) (fun e=>⟨false,rfl,?_,by(repeat'(first|exact trivial|exact rfl|apply And.intro))⟩))⟩)⟩,fun b hb=> ?_⟩
  ·rw[qR,hmj,yVw (show ¬0≤m by omega)];rfl
  ·rw[qR,hmj,yVw (show ¬m≤1199 by omega)];simp
  ·obtain⟨m',hm'⟩:=yD (l:=p.months) (i:=j-1) (by omega)
   rw[w64 (by omega),show((j:Int)-1).toNat=j-1 by omega]
   refine⟨⟨by omega,by omega⟩,m',elI hm',⟨by omega,by omega⟩,m,elI hm,_,rfl,?_,by(repeat'(first|exact trivial|exact rfl|apply And.intro))⟩
   rw[qR,hmj,zT hm',yWd (show 0≤m by omega),yWd (show m≤1199 by omega),yVw (show ¬j=0 by omega)]
   simp only[yYc,y1e]
   by_cases hlt:m'<m
   ·rw[yWd hlt,yVw (by omega)];rfl
   ·rw[yVw hlt,yWd (by omega)];rfl
  ·rw[qR,hmj,yWd (show 0≤m by omega),yWd (show m≤1199 by omega),yWd (show j=0 by omega)];rfl
  ·subst hb
   refine Cv.cnd.mk (fun c=>⟨(),?_,trivial⟩) (fun c=>⟨j+1,by rw[w64 (by omega)];rfl,⟨by omega,fun k hk=> ?_⟩,by(first|omega|(dsimp only;omega)),by(repeat'(first|exact trivial|exact rfl|apply And.intro))⟩)
   ·have c:qR p.months j=false:=by simpa using c
    rw[e1,yVl (by rw[em,zMh (k:=j) (by omega) c];rfl)]
   ·have c:qR p.months j=true:=by simpa using c
    rcases yXv k j with h|h
    ·exact g2 k h
    ·obtain rfl:k=j:=by omega
     exact c
 have em:xC p.months=true:=by rw[em];exact zUq fun k hk=>g2 k (by omega)
 have e2:p.check=if !qJ p then 22 else if qI p then 23 else if xE p then 1 else if kD p then 31 else if x0 p then 24 else 0:=by
  rw[e1,yVj (by simp[em])]
 have et:qJ p=((decide (1≤p.tick) && decide (p.tick≤1000) && !qM p.tick p.low && !qM p.tick p.high && !qM p.tick p.wide) && !p.settle.any (qM p.tick)):=rfl
 refine⟨true,fun b=>b= !(decide (1≤p.tick) && decide (p.tick≤1000) && !qM p.tick p.low && !qM p.tick p.high && !qM p.tick p.wide),zJ (fun d1=>⟨true,rfl,?_,by(repeat'(first|exact trivial|exact rfl|apply And.intro))⟩) (fun d1=>zJ (fun d2=>⟨true,rfl,?_,by(repeat'(first|exact trivial|exact rfl|apply And.intro))⟩) (fun d2=>⟨trivial,by omega,Cv.cnd.mk (fun d3=>⟨true,rfl,?_,by(repeat'(first|exact trivial|exact rfl|apply And.intro))⟩) (fun d3=>⟨trivial,by omega,Cv.cnd.mk (fun d4=>⟨true,rfl,?_,by(repeat'(first|exact trivial|exact rfl|apply And.intro))⟩) (fun d4=>⟨trivial,by omega,_,rfl,?_,by(repeat'(first|exact trivial|exact rfl|apply And.intro))⟩)⟩)⟩)),fun b hb=> ?_⟩
 ·rw[yVw (show ¬1≤p.tick by omega)];rfl
 ·rw[yVw (show ¬p.tick≤1000 by omega)];simp
 ·have d3:qM p.tick p.low=true:=d3
  rw[d3];simp
 ·have d4:qM p.tick p.high=true:=d4
  rw[d4];simp
 ·have d3:qM p.tick p.low=false:=d3
  have d4:qM p.tick p.high=false:=d4
  rw[d3,d4,yWd (show 1≤p.tick by omega),yWd (show p.tick≤1000 by omega)]
  show qM p.tick p.wide=_
  simp
 subst hb
 refine Cv.cnd.mk (fun c3=> ?_) (fun c3=> ?_)
 ·have c3:(decide (1≤p.tick) && decide (p.tick≤1000) && !qM p.tick p.low && !qM p.tick p.high && !qM p.tick p.wide)=false:=by
   rw[yYl]at c3
   exact c3
  exact⟨(),by rw[e2,yVl (by rw[et,c3];rfl)],trivial⟩
 have c3:(decide (1≤p.tick) && decide (p.tick≤1000) && !qM p.tick p.low && !qM p.tick p.high && !qM p.tick p.wide)=true:=by simpa using c3
 have ht1:1≤p.tick:=by
  simp only[yVy,yXd]at c3;exact c3.1.1.1.1
 rw[c3,yYc]at et
 refine⟨0,rfl,fun j=>j≤p.settle.length∧∀k<j,∀x,p.settle[k]? =some x→qM p.tick x=false,fun j=>p.settle.length-j,⟨by omega,fun k hk=>by omega⟩,?_⟩
 rintro j ⟨g1,g2⟩
 refine zJ (fun hj=> ?_) (fun hj=> ?_)
 ·obtain⟨m,hm⟩:=yD (l:=p.settle) (i:=j) (by omega)
  refine⟨⟨by omega,by omega⟩,m,elI hm,trivial,by omega,Cv.cnd.mk (fun c=>⟨(),?_,trivial⟩) (fun c=>⟨j+1,by rw[w64 (by omega)];rfl,⟨by omega,fun k hk x hx=> ?_⟩,by(first|omega|(dsimp only;omega)),by(repeat'(first|exact trivial|exact rfl|apply And.intro))⟩)⟩
  ·have c:qM p.tick m=true:=c
   have:p.settle.any (qM p.tick)=true:=by rw[List.any_eq_true];exact⟨m,yVv hm,c⟩
   rw[e2,yVl (by rw[et,this];rfl)]
  ·rcases yXv k j with h|h
   ·exact g2 k h x hx
   ·obtain rfl:k=j:=by omega
    rw[hm]at hx;cases hx;exact c
 have et:qJ p=true:=by
  rw[et]
  have:p.settle.any (qM p.tick)=false:=by
   rw[y1i]
   intro x hx
   obtain⟨k,hk⟩:=y0v hx
   rw[g2 k (by have:=(yVn.1 hk).1;omega) x hk];simp
  rw[this];rfl
 have e3:p.check=if qI p then 23 else if xE p then 1 else if kD p then 31 else if x0 p then 24 else 0:=by
  rw[e2,yVj (by simp[et])]
 refine⟨true,fun b=>b=qI p,zJ (fun d1=>⟨true,rfl,?_,by(repeat'(first|exact trivial|exact rfl|apply And.intro))⟩) (fun d1=>zJ (fun d2=>⟨true,rfl,?_,by(repeat'(first|exact trivial|exact rfl|apply And.intro))⟩) (fun d2=>zJ (fun d3=>⟨true,rfl,?_,by(repeat'(first|exact trivial|exact rfl|apply And.intro))⟩) (fun d3=>zJ (fun d4=>⟨true,rfl,?_,by(repeat'(first|exact trivial|exact rfl|apply And.intro))⟩) (fun d4=>⟨_,rfl,?_,by(repeat'(first|exact trivial|exact rfl|apply And.intro))⟩)))),fun b hb=> ?_⟩
 ·simp[qI,d1]
 ·simp[qI,d2]
 ·simp[qI,d3]
 ·simp[qI,d4]
 ·rw[w64 (by omega)];simp[qI,d1,d2,d3,d4]
 subst hb
 refine Cv.cnd.mk (fun c4=>⟨(),by rw[e3,yVl c4],trivial⟩) (fun c4=> ?_)
 have e4:p.check=if xE p then 1 else if kD p then 31 else if x0 p then 24 else 0:=by
  rw[e3,yVj (by simp[c4])]
 refine Cv.cnd.mk (fun d6=>⟨(),?_,trivial⟩) (fun d6=> ?_)
 ·have d6:¬(p.settle.length:Int)=p.months.length:=by simpa using d6
  rw[e4,yVl (by simp[xE];omega)]
 have d6:p.settle.length=p.months.length:=by
  have:(p.settle.length:Int)=p.months.length:=by simpa using d6
  omega
 have hne:p.settle≠[]:=by intro e;rw[e]at d6;simp at d6;omega
 refine⟨0,rfl,fun j=>j≤p.settle.length∧∀k<j,∀x,p.settle[k]? =some x→p.low≤x∧x≤p.high,fun j=>p.settle.length-j,⟨by omega,fun k hk=>by omega⟩,?_⟩
 rintro j ⟨g3,g4⟩
 refine zJ (fun hj=> ?_) (fun hj=> ?_)
 ·obtain⟨m,hm⟩:=yD (l:=p.settle) (i:=j) (by omega)
  have hmm:=yVv hm
  refine⟨true,fun b=>b=(decide (m<p.low)||decide (m>p.high)),⟨⟨by omega,by omega⟩,m,elI hm,zJ (fun c=>⟨true,rfl,?_,by(repeat'(first|exact trivial|exact rfl|apply And.intro))⟩) (fun c=>⟨⟨by omega,by omega⟩,m,elI hm,_,rfl,?_,by(repeat'(first|exact trivial|exact rfl|apply And.intro))⟩)⟩,fun b hb=> ?_⟩
  ·rw[yWd c];rfl
  ·rw[yVw c,y1e]
  ·subst hb
   refine Cv.cnd.mk (fun c=>⟨(),?_,trivial⟩) (fun c=>⟨j+1,by rw[w64 (by omega)];rfl,⟨by omega,fun k hk x hx=> ?_⟩,by(first|omega|(dsimp only;omega)),by(repeat'(first|exact trivial|exact rfl|apply And.intro))⟩)
   ·have l1:=z3h hmm
    have l2:=z2t hmm
    rw[e4,yVl (by
     simp only[Bool.or_eq_true,yXd]at c
     simp only[xE,Bool.or_eq_true,yXd]
     rcases c with c|c
     ·left;right;omega
     ·right;omega)]
   ·rcases yXv k j with h|h
    ·exact g4 k h x hx
    ·obtain rfl:k=j:=by omega
     rw[hm]at hx;cases hx
     simp only[yZh,decide_eq_false_iff_not]at c
     omega
 have hset:xE p=false:=by
  have all:∀x∈p.settle,p.low≤x∧x≤p.high:=fun x hx=>by
   obtain⟨k,hk⟩:=y0v hx
   exact g4 k (by have:=(yVn.1 hk).1;omega) x hk
  have a1:=all _ (zTl hne)
  have a2:=all _ (zVm hne)
  simp only[xE,yZh,decide_eq_false_iff_not]
  omega
 have e5:p.check=if kD p then 31 else if x0 p then 24 else 0:=by
  rw[e4,yVj (by simp[hset])]
 refine⟨true,fun b=>b=kD p,zJ (fun d1=>⟨true,rfl,?_,by(repeat'(first|exact trivial|exact rfl|apply And.intro))⟩) (fun d1=>⟨_,rfl,?_,by(repeat'(first|exact trivial|exact rfl|apply And.intro))⟩),fun b hb=> ?_⟩
 ·simp[kD,d1]
 ·simp[kD,d1]
 subst hb
 refine Cv.cnd.mk (fun c6=>⟨(),by rw[e5,yVl c6],trivial⟩) (fun c6=> ?_)
 have e6:p.check=if x0 p then 24 else 0:=by rw[e5,yVj (by simp[c6])]
 refine⟨true,fun b=>b=x0 p,zJ (fun d1=>⟨true,rfl,?_,by(repeat'(first|exact trivial|exact rfl|apply And.intro))⟩) (fun d1=>zJ (fun d2=>⟨true,rfl,?_,by(repeat'(first|exact trivial|exact rfl|apply And.intro))⟩) (fun d2=>zJ (fun d3=>⟨true,rfl,?_,by(repeat'(first|exact trivial|exact rfl|apply And.intro))⟩) (fun d3=>zJ (fun d4=>⟨true,rfl,?_,by(repeat'(first|exact trivial|exact rfl|apply And.intro))⟩) (fun d4=>zJ (fun d5=>⟨true,rfl,?_,by(repeat'(first|exact trivial|exact rfl|apply And.intro))⟩) (fun d5=>⟨_,rfl,?_,by(repeat'(first|exact trivial|exact rfl|apply And.intro))⟩))))),fun b hb=> ?_⟩
 ·simp[x0,d1]
 ·simp[x0,d2]
 ·simp[x0,d3]
 ·simp[x0,d4]
 ·simp[x0,d5]
 ·simp[x0,d1,d2,d3,d4,d5]
 subst hb
 exact Cv.cnd.mk (fun c7=>⟨(),by rw[e6,yVl c7],trivial⟩) (fun c7=>⟨(),by rw[e6,yVj (by simp[c7])],trivial⟩)
theorem zJm:r5checkC.ok Tryz.prog 102:=okw mixed (gokc z4x gok0) 0 (fun _=>yAg) (fun _=>yDl) [] Tryz.func102 z8l
theorem a9 {p:Prd} (h:p.check=0):p.count=p.months.length+p.months.length*(p.months.length-1) / 2:=by rw[Prd.count,yVl h]
theorem zJb {p:Prd} (h:p.check≠0):p.count=0:=by rw[Prd.count,yVj h]
theorem yAy (p:Prd) (h:r5countC.cnd p):zVi p:=by
 have hs:p.small:=h
 unfold zVi nO xA z7
 simp only[xD]
 refine⟨p,rfl,rfl,rfl,rfl,rfl,rfl,rfl,rfl,rfl,rfl,rfl,hs,fun _ _=>Cv.cnd.mk (fun c=>⟨(),?_,trivial⟩) (fun c=>⟨trivial,by decide,(),?_,trivial⟩)⟩
 ·rw[zJb (by simpa using c)];rfl
 ·have c:p.check=0:=by simpa using c
  have m6:=(jO c).m6
  have m2:=(jO c).m2
  rw[a9 c]
  generalize p.months.length=n at*
  have:n=2∨n=3∨n=4∨n=5∨n=6:=by omega
  rcases this with rfl|rfl|rfl|rfl|rfl<;>decide
theorem zYk:r5countC.ok Tryz.prog 52:=okw mixed (gokc zJm gok0) 0 (fun _=>[]) (fun _=>[]) [] Tryz.func52 yAy
theorem z7h:∀n≤6,∀a<n,∀b<n-1-a,kJ n (yK n a+b) n 0=((a:Int),((a+1+b:Nat):Int),true)∧yK n a+b<n+n*(n-1) / 2∧n≤yK n a+b:=by decide
theorem z6g:∀n≤6,yK n n=n+n*(n-1) / 2:=by decide
theorem yGk {p:Prd} (h:p.check=0) {a b:Nat} (ha:a<p.months.length) (hb:b<p.months.length-1-a):p.legs ((yK p.months.length a+b:Nat):Int)=((a:Int),((a+1+b:Nat):Int),true):=by
 obtain⟨h1,h2,h3⟩:=z7h _ (jO h).m6 a ha b hb
 rw[Prd.legs,yVj (by rw[a9 h];omega),yVj (by omega),yWb]
 exact h1
theorem yFs (i:dK) (h:r5legsC.cnd i):z0y i:=by
 have hs:i.p.small:=h
 unfold z0y hU zAq mS wS vW tX gG z7 dI
 simp only[xD]
 refine⟨i.p,rfl,rfl,rfl,rfl,rfl,rfl,rfl,rfl,rfl,rfl,rfl,hs,fun _ _=>Cv.cnd.mk (fun c=> ?_) (fun c=>zJ (fun c1=> ?_) (fun c1=>zJ (fun c2=> ?_) (fun c2=> ?_)))⟩
 ·rw[Prd.legs,yVl (by rw[zJb (by simpa using c)];omega)];(repeat'(first|exact rfl|exact trivial|assumption|apply And.intro|refine fun(_:Unit) (_:True)=>?_|refine Exists.intro () ?_|omega|(dsimp only;omega)))
 ·rw[Prd.legs,yVl (.inl c1)];(repeat'(first|exact rfl|exact trivial|assumption|apply And.intro|refine fun(_:Unit) (_:True)=>?_|refine Exists.intro () ?_|omega|(dsimp only;omega)))
 ·have c:i.p.check=0:=by simpa using c
  rw[Prd.legs,yVj (by rw[a9 c];omega),yVl c2];(repeat'(first|exact rfl|exact trivial|assumption|apply And.intro|refine fun(_:Unit) (_:True)=>?_|refine Exists.intro () ?_|omega|(dsimp only;omega)))
 ·have c:i.p.check=0:=by simpa using c
  have m6:=(jO c).m6
  obtain⟨k,hk⟩:∃k:Nat,i.n=k:=⟨i.n.toNat,by omega⟩
  have sp:=fun(a b:Nat) ha hb=>yGk (p:=i.p) c (a:=a) (b:=b) ha hb
  have fe:=z6g _ m6
  have out:i.p.count≤k→i.p.legs (k:Int)=(0,0,false):=fun e=>by rw[Prd.legs,yVl (by omega)]
  rw[a9 c,← fe]at out
  rw[hk]at c2 ⊢
  generalize hn:i.p.months.length=n at*
  refine⟨0,rfl,rfl,fun m=>m≤n∧yK n m≤k,fun m=>n-m,⟨by omega,by show n≤k;omega⟩,?_⟩
  rintro m ⟨g1,g2⟩
  have hf:=zLt m6 g1
  refine zJ (fun c4=> ?_) (fun c4=> ?_)
  ·refine⟨(m,0),rfl,rfl,by rw[w64 (by omega)];simp,fun x=>x.1=m∧x.2≤n-1-m∧yK n m+x.2≤k,fun x=>n-1-m-x.2,⟨rfl,by(first|omega|(dsimp only;omega)),by(first|omega|(dsimp only;omega))⟩,?_⟩
   rintro⟨a,b⟩ ⟨g3,g4,g5⟩
   dsimp only at g3 g4 g5 ⊢
   subst g3
   refine zJ (fun c5=>Cv.cnd.mk (fun e=> ?_) (fun e=> ?_)) (fun c5=> ?_)
   ·have e:((yK n a+b:Nat):Int)=(k:Int):=by simpa using e
    have:=sp a b (by omega) (by omega)
    rw[e]at this
    rw[this];(repeat'(first|exact rfl|exact trivial|assumption|apply And.intro|refine fun(_:Unit) (_:True)=>?_|refine Exists.intro () ?_|omega|(dsimp only;omega)))
   ·have e:¬((yK n a+b:Nat):Int)=(k:Int):=by simpa using e
    refine⟨(a,b+1),?_,rfl,?_,⟨rfl,by(first|omega|(dsimp only;omega)),by(first|omega|(dsimp only;omega))⟩,by(first|omega|(dsimp only;omega)),by(repeat'(first|exact trivial|exact rfl|apply And.intro))⟩
    ·rw[w64 (by omega)];dsimp only;omega
    ·rw[w64 (by omega)];dsimp only;omega
   ·refine⟨a+1,?_,by rw[w64 (by omega)];rfl,⟨by omega,?_⟩,by(first|omega|(dsimp only;omega)),by(repeat'(first|exact trivial|exact rfl|apply And.intro))⟩
    ·rw[yK];omega
    ·rw[yK];omega
  ·obtain rfl:m=n:=by omega
   rw[out g2];(repeat'(first|exact rfl|exact trivial|assumption|apply And.intro|refine fun(_:Unit) (_:True)=>?_|refine Exists.intro () ?_|omega|(dsimp only;omega)))
theorem z4k:r5legsC.ok Tryz.prog 53:=okw mixed (gokc zJm gok0) 0 (fun _=>[]) (fun i=>yHf i) [] Tryz.func53 yFs
theorem zWd (x:Prd):1≤zW x∧zW x≤10:=by
 have:=xI (n:=x.tick) (lo:=0) (hi:=9) (by omega)
 rw[zW];omega
theorem z8s (x:Prd):2≤kN x∧kN x≤5:=by
 have:=xI (n:=(x.months.length:Int)) (lo:=0) (hi:=3) (by omega)
 rw[kN];omega
theorem zIg {a b m n:Int} (ha:0≤a∧a≤m) (hb:0≤b∧b≤n):0≤a*b∧a*b≤m*n:=by
 refine⟨y1j ha.1 hb.1,?_⟩
 exact Int.le_trans (Int.mul_le_mul_of_nonneg_right ha.2 hb.1) (y0c hb.2 (by omega))
theorem zRt (j:Nat):iE (qG (j+1))=iE (qG j)++[[D.v (.int .i64 (10*(j:Int)+3))]]:=by
 rw[qG,yZz,yVu,iE,yVu];rfl
theorem zQj (t:Int) (j:Nat):iE (kT t (j+1))=iE (kT t j)++[[D.v (.int .i64 (t*(10+(j:Int))))]]:=by
 rw[kT,yZz,yVu,iE,yVu];rfl
theorem sA (j:Nat):(qG j).length=j:=by simp[qG]
theorem aG (t:Int) (j:Nat):(kT t j).length=j:=by simp[kT]
theorem yMn (x:Prd) (h:kprodC.cnd x):yAb x:=by
 obtain⟨h1,h2,h3,h4,h5,h6,h7⟩:x.raw:=h
 have hw: -1000000≤(0:Int):=by decide
 have bt:=xI (n:=x.tick) (lo:=0) (hi:=9) (by omega)
 have bw:=xI (n:=x.wide) (lo:=0) (hi:=60) (by omega)
 have br:=xI (n:=x.rule) (lo:=0) (hi:=2) (by omega)
 have bl:=xI (n:=x.least) (lo:=0) (hi:=4) (by omega)
 have bn:=xI (n:=(x.months.length:Int)) (lo:=0) (hi:=3) (by omega)
 have kt:=zWd x
 have kn:=z8s x
 have w1:IntKind.i64.wrap (1+zH x.tick 0 9)=zW x:=w64 (by omega)
 have w2:IntKind.i64.wrap (-20*IntKind.i64.wrap (1+zH x.tick 0 9))= -20*zW x:=by rw[w1];exact w64 (by omega)
 have w3:IntKind.i64.wrap (100*IntKind.i64.wrap (1+zH x.tick 0 9))=100*zW x:=by rw[w1];exact w64 (by omega)
 have w4:IntKind.i64.wrap (1+zH x.rule 0 2)=1+zH x.rule 0 2:=w64 (by omega)
 have w5:IntKind.i64.wrap (1+zH x.least 0 4)=1+zH x.least 0 4:=w64 (by omega)
 have w6:IntKind.i64.wrap (2+zH x.months.length 0 3)=kN x:=w64 (by omega)
 have mb:=zIg (a:=zW x) (b:=5+zH x.wide 0 60) (m:=10) (n:=65) (by omega) (by omega)
 have w7:IntKind.i64.wrap (IntKind.i64.wrap (1+zH x.tick 0 9)*IntKind.i64.wrap (5+zH x.wide 0 60))=zW x*(5+zH x.wide 0 60):=by
  rw[w1,w64 (x:=5+zH x.wide 0 60) (by omega)];exact w64 (by omega)
 unfold yAb vF x4 zEc zEe zEw zDg zDk mB uF cE fZ qU xX y5 xA dI
 simp only[xD]
 refine⟨⟨x.months.length,0,3⟩,rfl,rfl,rfl,⟨⟨by dsimp only;omega,by dsimp only;omega⟩,by dsimp only;omega,by dsimp only;omega,by dsimp only;omega⟩,fun _ _=>⟨⟨x.tick,0,9⟩,rfl,rfl,rfl,⟨h1,by dsimp only;omega,by dsimp only;omega,by dsimp only;omega⟩,fun _ _=> ?_⟩⟩
 dsimp only
 refine⟨(),fun _=>True,?_,fun _ _=> ?_⟩
 ·repeat'(first|exact trivial|exact rfl|exact w1.symm|exact w2.symm|exact w3.symm|exact w4.symm|exact w5.symm|apply And.intro|refine⟨⟨x.rule,0,2⟩,rfl,rfl,rfl,⟨h3,by dsimp only;omega,by dsimp only;omega,by dsimp only;omega⟩,fun _ _=> ?_⟩|refine⟨⟨x.top,0,9⟩,rfl,rfl,rfl,⟨h4,by dsimp only;omega,by dsimp only;omega,by dsimp only;omega⟩,fun _ _=> ?_⟩|refine⟨⟨x.least,0,4⟩,rfl,rfl,rfl,⟨h5,by dsimp only;omega,by dsimp only;omega,by dsimp only;omega⟩,fun _ _=> ?_⟩|refine⟨⟨x.part,0,100⟩,rfl,rfl,rfl,⟨h6,by dsimp only;omega,by dsimp only;omega,by dsimp only;omega⟩,fun _ _=> ?_⟩|refine⟨(),?_⟩)
 ·refine⟨⟨x.wide,0,60⟩,rfl,rfl,rfl,⟨h2,by dsimp only;omega,by dsimp only;omega,by dsimp only;omega⟩,fun _ _=> ?_⟩
  dsimp only
  rw[w7,w6]
  refine⟨0,by(first|exact rfl|exact trivial),by(first|exact rfl|exact trivial),by(first|exact rfl|exact trivial),by(first|exact rfl|exact trivial),by(first|exact rfl|exact trivial),by(first|exact rfl|exact trivial),by(first|exact rfl|exact trivial),by(first|exact rfl|exact trivial),by(first|exact rfl|exact trivial),by(first|exact rfl|exact trivial),by(first|exact rfl|exact trivial),by(first|exact rfl|exact trivial),fun j=>j≤(kN x).toNat,fun j=>(kN x).toNat-j,by omega,?_⟩
  intro j hj
  rw[sA,aG]
  refine zJ (fun c=>⟨by omega,by omega,j+1,by rw[w64 (by omega)];rfl,by(first|exact rfl|exact trivial),by(first|exact rfl|exact trivial),by(first|exact rfl|exact trivial),by(first|exact rfl|exact trivial),by(first|exact rfl|exact trivial),by(first|exact rfl|exact trivial),by(first|exact rfl|exact trivial),by(first|exact rfl|exact trivial),by(first|exact rfl|exact trivial),?_,?_,by(first|omega|(dsimp only;omega)),by(first|omega|(dsimp only;omega)),by(repeat'(first|exact trivial|exact rfl|apply And.intro))⟩) (fun c=>⟨(),?_⟩)
  ·rw[zRt,w64 (x:=10*(j:Int)) (by omega),w64 (by omega)]
  ·have mj:=zIg (a:=zW x) (b:=10+(j:Int)) (m:=10) (n:=20) (by omega) (by omega)
   rw[zQj,w1,w64 (x:=10+(j:Int)) (by omega),w64 (by omega)]
  ·have e:(kN x).toNat=j:=by omega
   rw[e];(repeat'(first|exact trivial|exact rfl|apply And.intro))
theorem yBt:kprodC.ok Tryz.prog 20:=okw mixed (gokc zNs gok0) 0 (fun x=>yKl x) (fun x=>yLd x) [] Tryz.func20 yMn
open Go Cv Go.Proofs
structure Cmd where
 kind:Int
 id:Int
 inst:Int
 side:Int
 price:Int
 qty:Int
 least:Int
 time:Int
 label:List UInt8
 deriving DecidableEq
@[reducible] def Cmd.cells (c:Cmd):List V:=[zA c.kind,zA c.id,zA c.inst,zA c.side,zA c.price,zA c.qty,zA c.least,zA c.time,sV c.label]
@[reducible] def zLy (c:Cmd):V:= .agg c.cells
def cmdE (c:Cmd):List D:=[.v (.int .i64 c.kind),.v (.int .i64 c.id),.v (.int .i64 c.inst),.v (.int .i64 c.side),.v (.int .i64 c.price),.v (.int .i64 c.qty),.v (.int .i64 c.least),.v (.int .i64 c.time),.v (.string (sb c.label))]
@[reducible] def Cmd.raw (c:Cmd):Prop:=yO c.kind∧yO c.id∧yO c.inst∧yO c.side∧yO c.price∧yO c.qty∧yO c.least∧yO c.time
structure TmI where
 p:Prd
 c:Cmd
 i:Int
def aK (c:Cmd):Int:=if 4<1+zH c.kind 0 8 then 1 else 1+zH c.kind 0 8
def xB (t:TmI):Cmd:=⟨aK t.c,1+zH t.c.id 0 30,zH t.c.inst 0 (t.p.count-1),1+zH t.c.side 0 1,t.p.tick*zH t.c.price 0 9,1+zH t.c.qty 0 11,0,0,[]⟩
def aJ (c:Cmd):Int:=if c.time.tmod 5=3 then 3 else if c.time.tmod 5=2 then 2 else 1
def tG (c:Cmd) (q:Int):Int:=if c.least.tmod 4=1 then zH c.least 0 q else 0
def qW (t:TmI):Cmd:=
 let h:=xB t
 if h.kind=1 then{h with id:=t.i+1,time:=aJ t.c,least:=tG t.c h.qty,price:=if(t.p.legs h.inst).2.2=true then h.price-4*t.p.tick else h.price+8*t.p.tick}
 else{h with price:=if h.kind=4 then h.price+5*t.p.tick else h.price,side:=0,inst:=0}
def tameC:Con:=con1 TmI (fun t=>[prdV t.p,zLy t.c,zA t.i]) (fun _=>[]) (fun t=>t.p.check=0∧t.p.small∧t.c.raw∧0≤t.i∧t.i≤1000000) (fun t=>zLy (qW t)) (fun _=>[])
def cj (k:Nat):Nat×SAnn:=(k,{ι:=Cmd,slots:=fun _=>[(7,.nm 0 0)],slots0:=fun _=>[(7,.nm 0 0)],rows0:=fun c=>[.cells c.cells 36],rows:=fun c=>[.cells c.cells 36]})
def ySc:List (Nat×SAnn):=[cj 14,cj 54,cj 62,cj 70]
open Go Cv Go.Proofs
def zAt (a:Cmd) (b:Cmd) (c:Cmd→Prop) (d:TmI):Prop:=sb a.label=sb b.label∧c a∧Sx.AObj.cells (Sx.V.agg [V.d (dI 0),V.d (dI 0),V.d (dI 0),V.d (dI 0),V.d (dI 0),V.d (dI 0),V.d (dI 0),V.d (dI 0),V.d fZ]).cl 36=Sx.AObj.cells (Sx.V.agg [V.d (dI 0),V.d (dI 0),V.d (dI 0),V.d (dI 0),V.d (dI 0),V.d (dI 0),V.d (dI 0),V.d (dI 0),V.d fZ]).cl 36∧Sx.AObj.cells [V.d (dI d.c.kind),V.d (dI d.c.id),V.d (dI d.c.inst),V.d (dI d.c.side),V.d (dI d.c.price),V.d (dI d.c.qty),V.d (dI d.c.least),V.d (dI d.c.time),V.d (D.v (Value.string (sb d.c.label)))] 36=Sx.AObj.cells [V.d (dI d.c.kind),V.d (dI d.c.id),V.d (dI d.c.inst),V.d (dI d.c.side),V.d (dI d.c.price),V.d (dI d.c.qty),V.d (dI d.c.least),V.d (dI d.c.time),V.d (D.v (Value.string (sb d.c.label)))] 36∧Sx.AObj.cells [V.d (D.v (Value.string (sb d.p.code))),V.own 0,V.d (dI d.p.tick),V.d (dI d.p.low),V.d (dI d.p.high),V.d (dI d.p.wide),V.d (dI d.p.rule),V.d (dI d.p.top),V.d (dI d.p.least),V.d (dI d.p.part),V.own ((0:Nat)+(1:Nat))] 26=Sx.AObj.cells [V.d (D.v (Value.string (sb d.p.code))),V.own 0,V.d (dI d.p.tick),V.d (dI d.p.low),V.d (dI d.p.high),V.d (dI d.p.wide),V.d (dI d.p.rule),V.d (dI d.p.top),V.d (dI d.p.least),V.d (dI d.p.part),V.own ((0:Nat)+(1:Nat))] 26∧AObj.fro 1 (iE d.p.settle)=AObj.fro 1 (iE d.p.settle)∧AObj.fro 1 (iE d.p.months)=AObj.fro 1 (iE d.p.months)
def zKm (a:Cmd) (b:Cmd) (c:Cmd→Prop) (d:TmI):Prop:=a.time=b.time∧zAt a b c d
def zJe (a:Cmd) (b:Cmd) (c:Cmd→Prop) (d:TmI):Prop:=a.id=b.id∧a.inst=b.inst∧a.side=b.side∧a.price=b.price∧a.qty=b.qty∧a.least=b.least∧zKm a b c d
def sL (a:Cmd) (b:Cmd→Prop) (c:TmI):Prop:=∃(d:Cmd),d.kind=a.kind∧zJe d a b c
def zEi (a:TmI) (b:WiI) (c:Cmd):Prop:=(qW a).qty=IntKind.i64.wrap (xX b)∧(qW a).least=c.least∧(qW a).time=c.time∧sb (qW a).label=sb c.label∧True
def zDe (a:TmI) (b:Cmd):Prop:=(qW a).qty=b.qty∧(qW a).least=b.least∧(qW a).time=b.time∧sb (qW a).label=sb b.label∧True
def yJh (t:TmI):Prop:=
 ∃(a:WiI),a.n=t.c.kind∧a.lo=0∧a.hi=8∧(y5 a)∧∀(b:Unit),True→∃(c:WiI),c.n=t.c.id∧c.lo=0∧c.hi=30∧(y5 c)∧∀(d:Unit),True→∃(e:Cmd),e.kind=IntKind.i64.wrap (xX a)∧e.id=IntKind.i64.wrap (xX c)∧e.inst=0∧e.side=0∧e.price=0∧e.qty=0∧e.least=0∧e.time=0∧sb e.label=ByteArray.mk #[]∧∃(f:Cmd→Prop),cnd (decide (e.kind>4)) (∃(g:Cmd),g.kind=1∧zJe g e f t) (sL e f t)∧∀(g:Cmd),f g→∃(h:Prd),sb h.code=sb t.p.code∧iE h.months=iE t.p.months∧h.tick=t.p.tick∧h.low=t.p.low∧h.high=t.p.high∧h.wide=t.p.wide∧h.rule=t.p.rule∧h.top=t.p.top∧h.least=t.p.least∧h.part=t.p.part∧iE h.settle=iE t.p.settle∧(z7 h)∧∀(j:Unit),True→∃(k:WiI),k.n=t.c.inst∧k.lo=0∧k.hi=IntKind.i64.wrap ((↑h.count:Int)-1)∧(y5 k)∧∀(l:Unit),True→∃(m:WiI),m.n=t.c.side∧m.lo=0∧m.hi=1∧(y5 m)∧∀(n:Unit),True→∃(p:WiI),p.n=t.c.qty∧p.lo=0∧p.hi=11∧(y5 p)∧∀(q:Unit),True→∃(r:WiI),r.n=t.c.price∧r.lo=0∧r.hi=9∧(y5 r)∧∀(s:Unit),True→t.p.tick=t.p.tick∧cnd (g.kind==1) (∃(u:Cmd),u.kind=g.kind∧u.id=IntKind.i64.wrap (t.i+1)∧u.inst=zH k.n k.lo k.hi∧u.side=IntKind.i64.wrap (xX m)∧u.price=IntKind.i64.wrap (t.p.tick*zH r.n r.lo r.hi)∧u.qty=IntKind.i64.wrap (xX p)∧u.least=g.least∧u.time=1∧sb u.label=sb g.label∧∃(v:Cmd→Prop),(IntKind.i64=IntKind.i64∧(5:Int)≠(0:Int)∧cnd (t.c.time.tmod (5:Int)==(2:Int)) (∃(w:Cmd),w.kind=u.kind∧w.id=u.id∧w.inst=u.inst∧w.side=u.side∧w.price=u.price∧w.qty=u.qty∧w.least=u.least∧w.time=2∧zAt w u v t) (sL u v t))∧∀(w:Cmd),v w→∃(x:Cmd),x.kind=w.kind∧x.id=w.id∧x.inst=w.inst∧x.side=w.side∧x.price=w.price∧x.qty=w.qty∧x.least=w.least∧x.time=w.time∧sb x.label=sb w.label∧∃(y:Cmd→Prop),(IntKind.i64=IntKind.i64∧(5:Int)≠(0:Int)∧cnd (t.c.time.tmod (5:Int)==(3:Int)) (∃(z:Cmd),z.kind=x.kind∧z.id=x.id∧z.inst=x.inst∧z.side=x.side∧z.price=x.price∧z.qty=x.qty∧z.least=x.least∧z.time=3∧zAt z x y t) (sL x y t))∧∀(z:Cmd),y z→∃(a_1:Cmd),a_1.kind=z.kind∧a_1.id=z.id∧a_1.inst=z.inst∧a_1.side=z.side∧a_1.price=z.price∧a_1.qty=z.qty∧a_1.least=z.least∧a_1.time=z.time∧sb a_1.label=sb z.label∧∃(a_2:Cmd→Prop),(IntKind.i64=IntKind.i64∧(4:Int)≠(0:Int)∧cnd (t.c.least.tmod (4:Int)==(1:Int)) (∃(a_3:WiI),a_3.n=t.c.least∧a_3.lo=0∧a_3.hi=a_1.qty∧(y5 a_3)∧∀(a_4:Unit),True→∃(a_5:Cmd),a_5.kind=a_1.kind∧a_5.id=a_1.id∧a_5.inst=a_1.inst∧a_5.side=a_1.side∧a_5.price=a_1.price∧a_5.qty=a_1.qty∧a_5.least=zH a_3.n a_3.lo a_3.hi∧zKm a_5 a_1 a_2 t) (sL a_1 a_2 t))∧∀(a_3:Cmd),a_2 a_3→∃(a_4:dK),sb a_4.p.code=sb t.p.code∧iE a_4.p.months=iE t.p.months∧a_4.p.tick=t.p.tick∧a_4.p.low=t.p.low∧a_4.p.high=t.p.high∧a_4.p.wide=t.p.wide∧a_4.p.rule=t.p.rule∧a_4.p.top=t.p.top∧a_4.p.least=t.p.least∧a_4.p.part=t.p.part∧iE a_4.p.settle=iE t.p.settle∧a_4.n=a_3.inst∧(k0 a_4)∧∀(a_5:Unit),True→cnd (!(a_4.p.legs a_4.n).snd.snd) (∃(a_6:Unit),(qW t).kind=a_3.kind∧(qW t).id=a_3.id∧(qW t).inst=a_3.inst∧(qW t).side=a_3.side∧(qW t).price=IntKind.i64.wrap (a_3.price+IntKind.i64.wrap (8*t.p.tick))∧zDe t a_3) (∃(a_6:Unit),(qW t).kind=a_3.kind∧(qW t).id=a_3.id∧(qW t).inst=a_3.inst∧(qW t).side=a_3.side∧(qW t).price=IntKind.i64.wrap (a_3.price-IntKind.i64.wrap (4*t.p.tick))∧zDe t a_3)) (cnd (g.kind==4) (∃(u:Unit),(qW t).kind=g.kind∧(qW t).id=g.id∧(qW t).inst=0∧(qW t).side=0∧(qW t).price=IntKind.i64.wrap (IntKind.i64.wrap (t.p.tick*zH r.n r.lo r.hi)+IntKind.i64.wrap (5*t.p.tick))∧zEi t p g) (∃(u:Unit),(qW t).kind=g.kind∧(qW t).id=g.id∧(qW t).inst=0∧(qW t).side=0∧(qW t).price=IntKind.i64.wrap (t.p.tick*zH r.n r.lo r.hi)∧zEi t p g))
open Go Cv Go.Proofs
theorem yQf (t:TmI) (h:tameC.cnd t):yJh t:=by
 obtain⟨hc,hs,⟨r1,r2,r3,r4,r5,r6,r7,r8⟩,i0,i1⟩:t.p.check=0∧t.p.small∧t.c.raw∧0≤t.i∧t.i≤1000000:=h
 have ok:=jO hc
 have t1:=ok.t1
 have t2:=ok.t2
 have m2:=ok.m2
 have hcl:=xZ t.p
 have hcd:=a9 hc
 have bk:=xI (n:=t.c.kind) (lo:=0) (hi:=8) (by omega)
 have bi:=xI (n:=t.c.id) (lo:=0) (hi:=30) (by omega)
 have bs:=xI (n:=t.c.side) (lo:=0) (hi:=1) (by omega)
 have bq:=xI (n:=t.c.qty) (lo:=0) (hi:=11) (by omega)
 have bp:=xI (n:=t.c.price) (lo:=0) (hi:=9) (by omega)
 have mb:=zIg (a:=t.p.tick) (b:=zH t.c.price 0 9) (m:=1000) (n:=9) (by omega) (by omega)
 have wp:IntKind.i64.wrap (t.p.tick*zH t.c.price 0 9)=t.p.tick*zH t.c.price 0 9:=w64 (by omega)
 unfold yJh sL zJe zKm zAt fZ zDe zEi xX y5 z7 k0 dI
 refine⟨⟨t.c.kind,0,8⟩,rfl,rfl,rfl,⟨r1,by dsimp only;omega,by dsimp only;omega,by dsimp only;omega⟩,fun _ _=>⟨⟨t.c.id,0,30⟩,rfl,rfl,rfl,⟨r2,by dsimp only;omega,by dsimp only;omega,by dsimp only;omega⟩,fun _ _=> ?_⟩⟩
 dsimp only
 rw[w64 (x:=1+zH t.c.kind 0 8) (by omega),w64 (x:=1+zH t.c.id 0 30) (by omega)]
 refine⟨⟨1+zH t.c.kind 0 8,1+zH t.c.id 0 30,0,0,0,0,0,0,[]⟩,rfl,rfl,rfl,rfl,rfl,rfl,rfl,rfl,rfl,fun c=>c=⟨aK t.c,1+zH t.c.id 0 30,0,0,0,0,0,0,[]⟩,zJ (fun e=>⟨⟨aK t.c,1+zH t.c.id 0 30,0,0,0,0,0,0,[]⟩,?_,rfl,rfl,rfl,rfl,rfl,rfl,rfl,rfl,rfl,by(repeat'(first|exact trivial|exact rfl|apply And.intro))⟩) (fun e=>⟨⟨aK t.c,1+zH t.c.id 0 30,0,0,0,0,0,0,[]⟩,?_,rfl,rfl,rfl,rfl,rfl,rfl,rfl,rfl,rfl,by(repeat'(first|exact trivial|exact rfl|apply And.intro))⟩),fun c hcc=> ?_⟩
 ·dsimp only at e ⊢;rw[aK,yVl (by omega)]
 ·dsimp only at e ⊢;rw[aK,yVj (by omega)]
 subst hcc
 refine⟨t.p,rfl,rfl,rfl,rfl,rfl,rfl,rfl,rfl,rfl,rfl,rfl,hs,fun _ _=> ?_⟩
 rw[w64 (x:=(t.p.count:Int)-1) (by omega)]
 refine⟨⟨t.c.inst,0,(t.p.count:Int)-1⟩,rfl,rfl,rfl,⟨r3,by dsimp only;omega,by dsimp only;omega,by dsimp only;omega⟩,fun _ _=>⟨⟨t.c.side,0,1⟩,rfl,rfl,rfl,⟨r4,by dsimp only;omega,by dsimp only;omega,by dsimp only;omega⟩,fun _ _=>⟨⟨t.c.qty,0,11⟩,rfl,rfl,rfl,⟨r6,by dsimp only;omega,by dsimp only;omega,by dsimp only;omega⟩,fun _ _=>⟨⟨t.c.price,0,9⟩,rfl,rfl,rfl,⟨r5,by dsimp only;omega,by dsimp only;omega,by dsimp only;omega⟩,fun _ _=>⟨rfl,?_⟩⟩⟩⟩⟩
 dsimp only
 rw[wp,w64 (x:=1+zH t.c.side 0 1) (by omega),w64 (x:=1+zH t.c.qty 0 11) (by omega),w64 (x:=t.i+1) (by omega)]
 refine Cv.cnd.mk (fun k=> ?_) (fun k=> ?_)
 ·have k:aK t.c=1:=by simpa using k
  refine⟨{xB t with id:=t.i+1,time:=1},rfl,rfl,rfl,rfl,rfl,rfl,rfl,rfl,rfl,fun c=>c={xB t with id:=t.i+1,time:=if t.c.time.tmod 5=2 then 2 else 1},⟨rfl,by decide,Cv.cnd.mk (fun e=>⟨{xB t with id:=t.i+1,time:=2},rfl,rfl,rfl,rfl,rfl,rfl,rfl,rfl,rfl,?_,by(repeat'(first|exact trivial|exact rfl|apply And.intro))⟩) (fun e=>⟨{xB t with id:=t.i+1,time:=1},rfl,rfl,rfl,rfl,rfl,rfl,rfl,rfl,rfl,?_,by(repeat'(first|exact trivial|exact rfl|apply And.intro))⟩)⟩,fun c hcc=> ?_⟩
  ·have e:t.c.time.tmod 5=2:=by simpa using e
   rw[yVl e]
  ·have e:¬t.c.time.tmod 5=2:=by simpa using e
   rw[yVj e]
  subst hcc
  refine⟨{xB t with id:=t.i+1,time:=if t.c.time.tmod 5=2 then 2 else 1},rfl,rfl,rfl,rfl,rfl,rfl,rfl,rfl,rfl,fun c=>c={xB t with id:=t.i+1,time:=aJ t.c},⟨rfl,by decide,Cv.cnd.mk (fun e=>⟨{xB t with id:=t.i+1,time:=3},rfl,rfl,rfl,rfl,rfl,rfl,rfl,rfl,rfl,?_,by(repeat'(first|exact trivial|exact rfl|apply And.intro))⟩) (fun e=>⟨{xB t with id:=t.i+1,time:=if t.c.time.tmod 5=2 then 2 else 1},rfl,rfl,rfl,rfl,rfl,rfl,rfl,rfl,rfl,?_,by(repeat'(first|exact trivial|exact rfl|apply And.intro))⟩)⟩,fun c hcc=> ?_⟩
  ·have e:t.c.time.tmod 5=3:=by simpa using e
   rw[aJ,yVl e]
  ·have e:¬t.c.time.tmod 5=3:=by simpa using e
   rw[aJ,yVj e]
  subst hcc
  have hq:(xB t).qty=1+zH t.c.qty 0 11:=rfl
  refine⟨{xB t with id:=t.i+1,time:=aJ t.c},rfl,rfl,rfl,rfl,rfl,rfl,rfl,rfl,rfl,fun c=>c={xB t with id:=t.i+1,time:=aJ t.c,least:=tG t.c (xB t).qty},⟨rfl,by decide,Cv.cnd.mk (fun e=>⟨⟨t.c.least,0,(xB t).qty⟩,rfl,rfl,rfl,⟨r7,by dsimp only;omega,by dsimp only;omega,by dsimp only;omega⟩,fun _ _=>⟨{xB t with id:=t.i+1,time:=aJ t.c,least:=zH t.c.least 0 (xB t).qty},rfl,rfl,rfl,rfl,rfl,rfl,rfl,rfl,rfl,?_,by(repeat'(first|exact trivial|exact rfl|apply And.intro))⟩⟩) (fun e=>⟨{xB t with id:=t.i+1,time:=aJ t.c},rfl,rfl,rfl,rfl,rfl,rfl,rfl,rfl,rfl,?_,by(repeat'(first|exact trivial|exact rfl|apply And.intro))⟩)⟩,fun c hcc=> ?_⟩
  ·have e:t.c.least.tmod 4=1:=by simpa using e
   rw[tG,yVl e]
  ·have e:¬t.c.least.tmod 4=1:=by simpa using e
   rw[tG,yVj e];rfl
  subst hcc
  refine⟨⟨t.p,(xB t).inst⟩,rfl,rfl,rfl,rfl,rfl,rfl,rfl,rfl,rfl,rfl,rfl,rfl,hs,fun _ _=> ?_⟩
  dsimp only
  have hp:(xB t).price=t.p.tick*zH t.c.price 0 9:=rfl
  have hk1:(xB t).kind=1:=k
  rw[w64 (x:=8*t.p.tick) (by omega),w64 (x:=4*t.p.tick) (by omega),w64 (x:=(xB t).price+8*t.p.tick) (by omega),w64 (x:=(xB t).price-4*t.p.tick) (by omega)]
  refine Cv.cnd.mk (fun e=>⟨(),?_⟩) (fun e=>⟨(),?_⟩)
  ·have e:(t.p.legs (xB t).inst).2.2=false:=by simpa using e
   have:qW t={xB t with id:=t.i+1,time:=aJ t.c,least:=tG t.c (xB t).qty,price:=(xB t).price+8*t.p.tick}:=by
    simp only[qW,hk1,if_true,e,yWc,if_false]
   rw[this];(repeat'(first|exact trivial|exact rfl|apply And.intro))
  ·have e:(t.p.legs (xB t).inst).2.2=true:=by simpa using e
   have:qW t={xB t with id:=t.i+1,time:=aJ t.c,least:=tG t.c (xB t).qty,price:=(xB t).price-4*t.p.tick}:=by
    simp only[qW,hk1,if_true,e]
   rw[this];(repeat'(first|exact trivial|exact rfl|apply And.intro))
 ·have k:¬aK t.c=1:=by simpa using k
  have k:¬(xB t).kind=1:=k
  rw[w64 (x:=5*t.p.tick) (by omega),w64 (x:=t.p.tick*zH t.c.price 0 9+5*t.p.tick) (by omega)]
  have et:qW t={xB t with price:=if(xB t).kind=4 then(xB t).price+5*t.p.tick else(xB t).price,side:=0,inst:=0}:=by
   simp only[qW,k,if_false]
  rw[et]
  refine Cv.cnd.mk (fun e=>⟨(),?_⟩) (fun e=>⟨(),?_⟩)
  ·have e:aK t.c=4:=by simpa using e
   have e:(xB t).kind=4:=e
   simp only[yVl e];(repeat'(first|exact trivial|exact rfl|apply And.intro))
  ·have e:¬aK t.c=4:=by simpa using e
   have e:¬(xB t).kind=4:=e
   simp only[yVj e];(repeat'(first|exact trivial|exact rfl|apply And.intro))
theorem yEn:tameC.ok Tryz.prog 21:=okw mixed (gokc zNs (gokc zYk (gokc z4k gok0))) 0 (fun _=>ySc) (fun _=>[]) [] Tryz.func21 yQf
open Go Cv Go.Proofs
structure ShI where
 a:Int
 b:Int
 c:Int
def add64C:Con:=con1 ShI (fun i=>[rC i.a,rC i.b,rC i.c]) (fun _=>[]) (fun i=>0≤i.a∧0≤i.b∧0≤i.c∧i.c≤1) (fun i=> .tup [rC ((i.a+i.b+i.c) % 18446744073709551616),rC ((i.a+i.b+i.c) / 18446744073709551616)]) (fun _=>[])
theorem z5h {P : Program} {f : FuncId} {fn : Func} (hf : P.funcs[f]? = some fn) (hname : (fn.name == "runtime.NumGoroutine") = false) (hb : fn.body.isNone = true) (hn : Extern.findNext fn = none) (he : Extern.find fn = some add64Entry) : add64C.ok P f := by
 intro i hc k L E w ys R hv
 obtain⟨h1,h2,h3,h4⟩:0≤i.a∧0≤i.b∧0≤i.c∧i.c≤1:=hc
 simp only[add64C,con1,VRL,VR,DR]at hv
 obtain⟨_,_,rfl,⟨rfl,_⟩,_,_,rfl,⟨rfl,_⟩,_,_,rfl,⟨rfl,_⟩,rfl⟩:=hv
 unfold Does
 rw[run_callFunc_extern hf hname hb hn he,run_add64 i.a i.b i.c h1 h2 h3 h4]
 simp only[Result.andThen]
 refine⟨_,yXc.2 rfl,(),trivial,E,Ev.le.refl _,?_,R⟩
 simp only[add64C,con1,VR,VRL,DR]
 exact⟨_,rfl,_,_,rfl,⟨rfl,rfl⟩,_,_,rfl,⟨rfl,rfl⟩,rfl⟩
theorem z5p:add64C.ok Tryz.prog 301:=by
 refine z5h (P:=Tryz.prog) (f:=301) (fn:=Tryz.f301) Tryz.func301 ?_ ?_ ?_ ?_
 ·kernel_rfl
 ·kernel_rfl
 ·kernel_rfl
 ·kernel_rfl
structure M2 where
 a:Int
 b:Int
def mul64C:Con:=con1 M2 (fun i=>[rC i.a,rC i.b]) (fun _=>[]) (fun i=>0≤i.a∧i.a≤2000000000∧0≤i.b∧i.b≤2000000000) (fun i=> .tup [rC 0,rC (i.a*i.b)]) (fun _=>[])
def div64C:Con:=con1 M2 (fun i=>[rC 0,rC i.a,rC i.b]) (fun _=>[]) (fun i=>0≤i.a∧i.a≤4000000000000000000∧1≤i.b∧i.b≤2000000000) (fun i=> .tup [rC (i.a / i.b),rC (i.a % i.b)]) (fun _=>[])
def ishareC:Con:=con1 ShI (fun i=>[zA i.a,zA i.b,zA i.c]) (fun _=>[]) (fun i=>0≤i.a∧i.a≤2000000000∧0≤i.b∧i.b≤2000000000∧1≤i.c∧i.c≤2000000000) (fun i=> .tup [zA (i.a*i.b / i.c),yF true]) (fun _=>[])
def isumC:Con:=con1 (List Int) (fun l=>[iV l]) (fun _=>[]) (fun l=>l.length≤1000∧∀x∈l,0≤x∧x≤1000000) (fun l=> .tup [zA l.sum,yF true]) (fun _=>[])
def ySa (l:List Int):List SAnn:=[{ι:=Nat,slots:=fun j=>[(4,rC (l.take j).sum),(5,zA 0),(11,zA j)],rows:=fun _=>[]}]
structure LqI where
 l:List Int
 q:Int
def yS (l:List Int) (q:Int):Bool:=decide (l.length≤250) && decide (0≤q) && l.all (fun n=>decide (1≤n) && decide (n≤1000000)) && decide (q≤l.sum)
def rightC:Con:=con1 LqI (fun i=>[iV i.l,zA i.q]) (fun _=>[]) (fun i=>i.l.length≤1000000∧yO i.q) (fun i=>yF (yS i.l i.q)) (fun _=>[])
def yKv (i:LqI):List SAnn:=[{ι:=Nat,slots:=fun j=>[(5,zA (i.l.take j).sum),(17,zA j)],rows:=fun _=>[]}]
def uG:List Int→Int→List Int
 |[],_=>[]
 |n::l,q=>min n q::uG l (q-min n q)
def uQ (l:List Int) (q:Int):List Int:=if yS l q=true then uG l q else[]
def fifoC:Con:=con1 LqI (fun i=>[iV i.l,zA i.q]) (fun _=>[]) (fun i=>i.l.length≤1000000∧yO i.q) (fun _=> .own 0) (fun i=>[.own 2 1 (iE (uQ i.l i.q))])
def yRq (i:LqI):List SAnn:=[{ι:=Nat,slots:=fun j=>[(5,.own 0),(1,zA (i.q-((uG i.l i.q).take j).sum)),(15,zA j)],rows:=fun j=>[.own 2 1 (iE ((uG i.l i.q).take j))]}]
open Go Cv Go.Proofs
def zAa (a:M2):=(IntKind.u64.wrap (IntKind.u64.wrap (bU IntKind.u64 a.a 32*lM IntKind.u64 a.b 4294967295)+bU IntKind.u64 (IntKind.u64.wrap (lM IntKind.u64 a.a 4294967295*lM IntKind.u64 a.b 4294967295)) 32))
def yCq (i:M2):Prop:=
 (0:Int)≤(32:Int)∧(0:Int)≤(32:Int)∧(0:Int)≤(32:Int)∧(0:Int)≤(32:Int)∧(0:Int)≤(32:Int)∧∃(a:Unit),0=IntKind.u64.wrap (IntKind.u64.wrap (IntKind.u64.wrap (bU IntKind.u64 i.a 32*bU IntKind.u64 i.b 32)+bU IntKind.u64 (zAa i) 32)+bU IntKind.u64 (IntKind.u64.wrap (lM IntKind.u64 (zAa i) 4294967295+IntKind.u64.wrap (lM IntKind.u64 i.a 4294967295*bU IntKind.u64 i.b 32))) 32)∧i.a*i.b=IntKind.u64.wrap (i.a*i.b)∧True
def z7v (i:M2):Prop:=
 cnd (i.b==0) False (cnd (decide (i.b≤0)) False (IntKind.u64=IntKind.u64∧i.b≠0∧IntKind.u64=IntKind.u64∧i.b≠0∧∃(a:Unit),i.a / i.b=IntKind.u64.wrap (i.a.tdiv i.b)∧i.a % i.b=i.a.tmod i.b∧True))
def z1i (i:ShI):Prop:=
 cnd (decide (i.a<0)) (∃(a:Unit),i.a*i.b / i.c=0∧true=false∧True) (cnd (decide (i.b<0)) (∃(a:Unit),i.a*i.b / i.c=0∧true=false∧True) (cnd (decide (i.c<1)) (∃(a:Unit),i.a*i.b / i.c=0∧true=false∧True) (∃(a:M2),a.a=IntKind.u64.wrap i.a∧a.b=IntKind.u64.wrap i.b∧(0≤a.a∧a.a≤(2000000000:Int)∧(0:Int)≤a.b∧a.b≤2000000000)∧∀(b:Unit),True→cnd (decide (0≥IntKind.u64.wrap i.c)) (∃(c:Unit),i.a*i.b / i.c=0∧true=false∧True) (∃(c:M2),(0:Int)=(0:Int)∧c.a=a.a*a.b∧c.b=IntKind.u64.wrap i.c∧(0≤c.a∧c.a≤(4000000000000000000:Int)∧(1:Int)≤c.b∧c.b≤2000000000)∧∀(d:Unit),True→cnd (decide (c.a / c.b>9223372036854775807)) (∃(e:Unit),i.a*i.b / i.c=0∧true=false∧True) (∃(e:Unit),i.a*i.b / i.c=IntKind.i64.wrap (c.a / c.b)∧true=true∧True)))))
def yKa (l:List Int):Prop:=
 ∃(a:Nat),(List.take a l).sum=(0:Int)∧(0:Int)=0∧(↑a:Int)=0∧∃(b:Nat→Prop),∃(c:Nat→Nat),b a∧∀(d:Nat),b d→cnd (decide ((↑d:Int)<(↑(iE l).length:Int))) ((0≤(↑d:Int)∧(↑d:Int)<(↑(iE l).length:Int))∧∃(e:Int),zE (iE l) (↑d:Int).toNat 0 1=some [dI e]∧∃(f:ShI),f.a=(List.take d l).sum∧f.b=IntKind.u64.wrap e∧f.c=0∧(0≤f.a∧0≤f.b∧0≤f.c∧f.c≤1)∧∀(g:Unit),True→(0:Int)≤(63:Int)∧∃(h:Nat),(List.take h l).sum=(f.a+f.b+f.c) % (18446744073709551616:Int)∧(0:Int)=IntKind.i64.wrap (0+IntKind.i64.wrap (bU IntKind.i64 e 63+IntKind.i64.wrap ((f.a+f.b+f.c) / (18446744073709551616:Int))))∧kI h d b c) ((0:Int)≤(63:Int)∧cnd (0 !=bU IntKind.i64 (IntKind.i64.wrap (List.take d l).sum) 63) (∃(e:Unit),l.sum=0∧true=false∧True) (∃(e:Unit),l.sum=IntKind.i64.wrap (List.take d l).sum∧true=true∧True))
def yAp (i:LqI):Prop:=
 cnd (decide ((↑(iE i.l).length:Int)>250)) (∃(a:Unit),yS i.l i.q=false∧True) (cnd (decide (i.q<0)) (∃(a:Unit),yS i.l i.q=false∧True) (∃(a:Nat),(List.take a i.l).sum=0∧(↑a:Int)=0∧∃(b:Nat→Prop),∃(c:Nat→Nat),b a∧∀(d:Nat),b d→cnd (decide ((↑d:Int)<(↑(iE i.l).length:Int))) ((0≤(↑d:Int)∧(↑d:Int)<(↑(iE i.l).length:Int))∧∃(e:Int),zE (iE i.l) (↑d:Int).toNat 0 1=some [dI e]∧cnd (decide (e<1)) (∃(f:Unit),yS i.l i.q=false∧True) (cnd (decide (e>1000000)) (∃(f:Unit),yS i.l i.q=false∧True) (∃(f:Nat),(List.take f i.l).sum=IntKind.i64.wrap ((List.take d i.l).sum+e)∧kI f d b c))) (∃(e:Unit),yS i.l i.q=decide (i.q≤(List.take d i.l).sum)∧True)))
def jV (a:LqI):Prop:=a.l.length≤(1000000:Nat)∧(-9223372036854775808:Int)≤a.q∧a.q≤9223372036854775807
def jY (a:Nat) (b:LqI):=(List.take a (uG b.l b.q))
def yIo (i:LqI):Prop:=
 ∃(a:LqI),iE a.l=iE i.l∧a.q=i.q∧(jV a)∧∀(b:Unit),True→cnd (!yS a.l a.q) (∃(c:Unit),iE (uQ i.l i.q)=[]∧True) (∃(c:Nat),i.q-(jY c i).sum=i.q∧(↑c:Int)=0∧iE (jY c i)=[]∧∃(d:Nat→Prop),∃(e:Nat→Nat),d c∧∀(f:Nat),d f→cnd (decide ((↑f:Int)<(↑(iE i.l).length:Int))) ((0≤(↑f:Int)∧(↑f:Int)<(↑(iE i.l).length:Int))∧∃(g:Int),zE (iE i.l) (↑f:Int).toNat 0 1=some [dI g]∧((iE (jY f i)).length+1)*(8:Nat)≤(140737488355328:Nat)∧∃(h:Nat),i.q-(jY h i).sum=IntKind.i64.wrap (i.q-(jY f i).sum-min g (i.q-(jY f i).sum))∧(↑h:Int)=IntKind.i64.wrap ((↑f:Int)+1)∧iE (jY h i)=iE (jY f i)++[[dI (min g (i.q-(jY f i).sum))]]∧d h∧e h<e f∧True) (∃(g:Unit),iE (uQ i.l i.q)=iE (jY f i)∧True))
open Go Cv Go.Proofs
theorem zRk {x:Int} (h0:0≤x) (h1:x<4294967296):lM .u64 x 4294967295=x:=by
 have e:lM .u64 x 4294967295=IntKind.u64.wrap ((BitVec.ofInt 64 x &&& BitVec.ofInt 64 4294967295).toNat:Int):=rfl
 obtain⟨n,rfl⟩:=Int.eq_ofNat_of_zero_le h0
 have hn:n<4294967296:=by omega
 rw[e,BitVec.toNat_and,BitVec.ofInt_natCast,BitVec.toNat_ofNat,show(BitVec.ofInt 64 4294967295).toNat=2 ^ 32-1 by decide,Nat.and_two_pow_sub_one_eq_mod]
 rw[show n % 2 ^ 64 % 2 ^ 32=n by omega,zAm (by omega)]
theorem zHf {x:Int} (h0:0≤x) (h1:x<4294967296):bU .u64 x 32=0:=by
 have:=zBq .u64 x 32 (by decide)
 rw[show((32:Nat):Int)=32 by rfl]at this
 rw[this];omega
theorem z4a {a b m n:Int} (ha:0≤a∧a≤m) (hb:0≤b∧b≤n):0≤a*b∧a*b≤m*n:=
 ⟨y1j ha.1 hb.1,Int.mul_le_mul ha.2 hb.2 hb.1 (by omega)⟩
theorem yKz (i:M2) (h:mul64C.cnd i):yCq i:=by
 obtain⟨h1,h2,h3,h4⟩:0≤i.a∧i.a≤2000000000∧0≤i.b∧i.b≤2000000000:=h
 have hm:=z4a ⟨h1,h2⟩ ⟨h3,h4⟩
 have hs:bU IntKind.u64 (i.a*i.b) 32=(i.a*i.b) / 4294967296:=by
  have:=zBq .u64 (i.a*i.b) 32 (by decide)
  rw[show((32:Nat):Int)=32 by rfl]at this
  exact this
 unfold yCq zAa
 refine⟨by decide,by decide,by decide,by decide,by decide,(),?_,?_,trivial⟩
 ·rw[zRk h1 (by omega),zRk h3 (by omega),zHf h1 (by omega),zHf h3 (by omega),zAm (x:=i.a*i.b) (by omega),hs]
  simp only[Int.zero_mul,Int.mul_zero,Int.zero_add,Int.add_zero]
  rw[zAm (x:=0) (by omega)]
  simp only[Int.zero_add,Int.add_zero]
  rw[zAm (x:=i.a*i.b / 4294967296) (by omega),zHf (x:=i.a*i.b / 4294967296) (by omega) (by omega),zRk (x:=i.a*i.b / 4294967296) (by omega) (by omega),zAm (x:=i.a*i.b / 4294967296) (by omega),zHf (x:=i.a*i.b / 4294967296) (by omega) (by omega)]
  rfl
 ·rw[zAm (by omega)]
theorem yCe:mul64C.ok Tryz.prog 290:=okw mixed gok0 0 (fun _=>[]) (fun _=>[]) [] Tryz.func290 yKz
theorem yOl (i:M2) (h:div64C.cnd i):z7v i:=by
 obtain⟨h1,h2,h3,h4⟩:0≤i.a∧i.a≤4000000000000000000∧1≤i.b∧i.b≤2000000000:=h
 unfold z7v
 have hd:0≤i.a / i.b∧i.a / i.b≤i.a:=⟨Int.ediv_nonneg h1 (by omega),Int.ediv_le_self _ h1⟩
 refine Cv.cnd.mk (fun c=>absurd (eq_of_beq c) (by omega)) (fun _=>zJ (fun c=>by omega) (fun _=>⟨rfl,by omega,rfl,by omega,(),?_,?_,trivial⟩))
 ·rw[Int.tdiv_eq_ediv_of_nonneg h1,zAm (by omega)]
 ·rw[Int.tmod_eq_emod_of_nonneg h1]
theorem z7s:div64C.ok Tryz.prog 291:=okw mixed gok0 0 (fun _=>[]) (fun _=>[]) [] Tryz.func291 yOl
theorem yFd (i:ShI) (h:ishareC.cnd i):z1i i:=by
 obtain⟨h1,h2,h3,h4,h5,h6⟩:0≤i.a∧i.a≤2000000000∧0≤i.b∧i.b≤2000000000∧1≤i.c∧i.c≤2000000000:=h
 have hm:=z4a ⟨h1,h2⟩ ⟨h3,h4⟩
 have hd:0≤i.a*i.b / i.c∧i.a*i.b / i.c≤i.a*i.b:=⟨Int.ediv_nonneg hm.1 (by omega),Int.ediv_le_self _ hm.1⟩
 unfold z1i
 rw[zAm (x:=i.a) (by omega),zAm (x:=i.b) (by omega),zAm (x:=i.c) (by omega)]
 refine zJ (fun c=>by omega) (fun _=>zJ (fun c=>by omega) (fun _=>zJ (fun c=>by omega) (fun _=>⟨⟨i.a,i.b⟩,rfl,rfl,⟨h1,h2,h3,h4⟩,fun _ _=>zJ (fun c=>by omega) (fun _=>⟨⟨i.a*i.b,i.c⟩,rfl,rfl,rfl,⟨hm.1,by dsimp only;omega,h5,h6⟩,fun _ _=>zJ (fun c=>by dsimp only at c;omega) (fun _=>⟨(),?_,rfl,trivial⟩)⟩)⟩)))
 rw[w64 (by dsimp only;omega)]
theorem zOe:ishareC.ok Tryz.prog 278:=okw mixed (gokc yCe (gokc z7s gok0)) 0 (fun _=>[]) (fun _=>[]) [] Tryz.func278 yFd
theorem wjn {j:Nat} (h:j≤1000000):((j+1:Nat):Int)=IntKind.i64.wrap ((j:Int)+1):=by rw[w64 (by omega)];rfl
theorem jN {l:List Int} {j:Nat} {x:Int} (h:l[j]? =some x):(l.take (j+1)).sum=(l.take j).sum+x:=by
 rw[yWs,h];simp
theorem jE {l:List Int} (h:∀x∈l,0≤x∧x≤1000000):∀j:Nat,0≤(l.take j).sum∧(l.take j).sum≤1000000*j
 |0=>by simp
 |j+1=>by
  have ih:=jE h j
  cases hx:l[j]? with
  |none=>
   have:l.take (j+1)=l.take j:=by
    rw[yWs,hx];simp
   rw[this];omega
  |some x=>
   have:=h x (yVv hx)
   rw[jN hx];omega
theorem yQn (l:List Int) (h:isumC.cnd l):yKa l:=by
 obtain⟨hl,hb⟩:l.length≤1000∧∀x∈l,0≤x∧x≤1000000:=h
 unfold yKa kI dI
 simp only[xD]
 refine⟨0,by(first|exact rfl|exact trivial),by(first|exact rfl|exact trivial),by(first|exact rfl|exact trivial),fun j=>j≤l.length,fun j=>l.length-j,yXf _,fun j hj=>zJ (fun c=> ?_) (fun c=> ?_)⟩
 ·have hj':j<l.length:=by omega
  obtain⟨x,hx⟩:=yD (l:=l) (i:=j) hj'
  have bx:=hb x (yVv hx)
  have bs:=jE hb j
  refine⟨⟨by omega,by omega⟩,x,elI hx,⟨(l.take j).sum,x,0⟩,rfl,by rw[zAm (by omega)],rfl,⟨bs.1,bx.1,by dsimp only;omega,by dsimp only;omega⟩,fun _ _=>⟨by decide,j+1,?_,?_,wjn (by omega),hj',by dsimp only;omega,trivial⟩⟩
  ·rw[jN hx];dsimp only;omega
  ·have e:bU IntKind.i64 x 63=x / 9223372036854775808:=by
    have:=zBq .i64 x 63 (by decide)
    rw[show((63:Nat):Int)=63 by rfl]at this
    exact this
   dsimp only
   rw[e,show x / 9223372036854775808=0 by omega,show((l.take j).sum+x+0) / 18446744073709551616=0 by omega]
   rfl
 ·have hj':j=l.length:=by omega
  subst hj'
  have bs:=jE hb l.length
  rw[yYz]at bs
  have e:bU IntKind.i64 l.sum 63=l.sum / 9223372036854775808:=by
   have:=zBq .i64 l.sum 63 (by decide)
   rw[show((63:Nat):Int)=63 by rfl]at this
   exact this
  rw[yYz,w64 (x:=l.sum) (by omega),e,show l.sum / 9223372036854775808=0 by omega]
  exact⟨by decide,Cv.cnd.mk (fun c=>absurd c (by decide)) (fun _=>⟨(),by(first|exact rfl|exact trivial),by(first|exact rfl|exact trivial),trivial⟩)⟩
theorem yFf:isumC.ok Tryz.prog 295:=okw mixed (gokc z5p gok0) 0 (fun _=>[]) (fun l=>ySa l) [] Tryz.func295 yQn
theorem yNd (i:LqI) (h:rightC.cnd i):yAp i:=by
 obtain⟨hl,hq⟩:i.l.length≤1000000∧yO i.q:=h
 unfold yAp kI dI
 simp only[xD]
 refine zJ (fun c=>⟨(),?_,trivial⟩) (fun c1=>zJ (fun c=>⟨(),?_,trivial⟩) (fun c2=> ?_))
 ·rw[yS,yVw (by omega:¬i.l.length≤250)];rfl
 ·rw[yS,yVw (by omega:¬0≤i.q)];simp
 refine⟨0,by(first|exact rfl|exact trivial),by(first|exact rfl|exact trivial),fun j=>j≤i.l.length∧∀k<j,∀x,i.l[k]? =some x→1≤x∧x≤1000000,fun j=>i.l.length-j,⟨yXf _,fun k hk=>absurd hk (Nat.not_lt_zero k)⟩,fun j hj=>zJ (fun c=> ?_) (fun c=> ?_)⟩
 ·obtain⟨hj0,hjb⟩:=hj
  have hj':j<i.l.length:=by omega
  obtain⟨x,hx⟩:=yD (l:=i.l) (i:=j) hj'
  have bad (hn:¬(1≤x∧x≤1000000)):yS i.l i.q=false:=by
   have:(i.l.all fun n=>decide (1≤n) && decide (n≤1000000))=false:=by
    rw[List.all_eq_false]
    exact⟨x,yVv hx,by simpa using hn⟩
   rw[yS,this];simp
  have bs:0≤(i.l.take j).sum∧(i.l.take j).sum≤1000000*j:=by
   have:=jE (l:=i.l.take j) (fun y hy=>by
    obtain⟨k,hk⟩:=yYb.1 hy
    have hkj:k<j:=by
     have:=(yVn.1 hk).1
     rw[yWe]at this;omega
    rw[List.getElem?_take_of_lt hkj]at hk
    have:=hjb k hkj y hk;omega) j
   rwa [List.take_take,Nat.min_self]at this
  refine⟨⟨by omega,by omega⟩,x,elI hx,zJ (fun d=>⟨(),bad (by omega),trivial⟩) (fun d=>zJ (fun e=>⟨(),bad (by omega),trivial⟩) (fun e=>⟨j+1,?_,wjn (by omega),⟨hj',fun k hk y hy=> ?_⟩,by dsimp only;omega,trivial⟩))⟩
  ·rw[jN hx,w64 (by omega)]
  ·by_cases hkj:k=j
   ·rw[hkj,hx]at hy;cases hy;omega
   ·exact hjb k (by omega) y hy
 ·obtain⟨hj0,hjb⟩:=hj
  have hj':j=i.l.length:=by omega
  subst hj'
  have:(i.l.all fun n=>decide (1≤n) && decide (n≤1000000))=true:=by
   rw[yYk]
   intro y hy
   obtain⟨k,hk⟩:=yYb.1 hy
   have:=hjb k ((yVn.1 hk).1) y hk
   simpa using this
  refine⟨(),?_,trivial⟩
  rw[yS,this,yWd (by omega:i.l.length≤250),yWd (by omega:0≤i.q),yYz]
  rfl
theorem zCe:rightC.ok Tryz.prog 276:=okw mixed gok0 0 (fun _=>[]) (fun i=>yKv i) [] Tryz.func276 yNd
theorem kY {l:List Int} {q:Int} (h:yS l q=true):l.length≤250∧0≤q∧(∀x∈l,1≤x∧x≤1000000)∧q≤l.sum:=by
 simp only[yS,yVy,yXd,yYk]at h
 exact⟨h.1.1.1,h.1.1.2,h.1.2,h.2⟩
theorem zHl {l:List Int} {q:Int} (h:yS l q=true):q≤250000000:=by
 obtain⟨h1,h2,h3,h4⟩:=kY h
 have:=jE (l:=l) (fun x hx=>by have:=h3 x hx;omega) l.length
 rw[yYz]at this
 omega
theorem rE:∀(l:List Int) (q:Int),(uG l q).length=l.length
 |[],_=>rfl
 |n::l,q=>by rw[uG,yVt,yVt,rE l]
theorem zLe:∀(l:List Int) (q:Int) (j:Nat) (n:Int),l[j]? =some n→(uG l q)[j]? =some (min n (q-((uG l q).take j).sum))
 |[],_,_,_,h=>by simp at h
 |m::l,q,0,n,h=>by simp at h;subst h;simp[uG]
 |m::l,q,j+1,n,h=>by
  rw[yXe]at h
  rw[uG,yXe,zLe l _ j n h,yWv,yWw]
  congr 2;omega
theorem zEu:∀(l:List Int) (q:Int) (j:Nat),0≤q→(∀x∈l,0≤x)→0≤q-((uG l q).take j).sum∧q-((uG l q).take j).sum≤q
 |[],q,j,h,_=>by simp[uG,h]
 |m::l,q,0,h,_=>by simp[h]
 |m::l,q,j+1,h,hb=>by
  have hm:=hb m yVp
  have:=zEu l (q-min m q) j (by omega) (fun x hx=>hb x (yVr _ hx))
  rw[uG,yWv,yWw]
  omega
theorem yRg (i:LqI) (h:fifoC.cnd i):yIo i:=by
 obtain⟨hl,hq⟩:i.l.length≤1000000∧yO i.q:=h
 unfold yIo jY jV dI
 refine⟨i,rfl,rfl,⟨hl,hq⟩,fun _ _=>Cv.cnd.mk (fun c=> ?_) (fun c=> ?_)⟩
 ·have c:yS i.l i.q=false:=by simpa using c
  refine⟨(),?_,trivial⟩
  rw[uQ,yVj (by rw[c];decide)];rfl
 have c:yS i.l i.q=true:=by simpa using c
 obtain⟨h1,h2,h3,h4⟩:=kY c
 have hq2:=zHl c
 have h3':∀x∈i.l,0≤x:=fun x hx=>by have:=h3 x hx;omega
 simp only[xD]
 refine⟨0,by simp,rfl,rfl,fun j=>j≤i.l.length,fun j=>i.l.length-j,yXf _,fun j hj=>zJ (fun d=> ?_) (fun d=> ?_)⟩
 ·have hj':j<i.l.length:=by omega
  obtain⟨x,hx⟩:=yD (l:=i.l) (i:=j) hj'
  have bx:=h3 x (yVv hx)
  have g:=zLe i.l i.q j x hx
  have r:=zEu i.l i.q j h2 h3'
  refine⟨⟨by omega,by omega⟩,x,elI hx,by rw[yWe];omega,j+1,?_,wjn (by omega),?_,hj',by dsimp only;omega,trivial⟩
  ·rw[jN g,w64 (by omega)];omega
  ·rw[yWs,g];simp[iE]
 ·have hj':j=i.l.length:=by omega
  subst hj'
  refine⟨(),?_,trivial⟩
  rw[uQ,yVl c,yVx (by rw[rE];omega)]
theorem z1r:fifoC.ok Tryz.prog 251:=okw mixed (gokc zCe gok0) 0 (fun _=>[]) (fun i=>yRq i) [] Tryz.func251 yRg
open Go Cv Go.Proofs
structure Ent where
 slot:Int
 id:Int
 qty:Int
 top:Bool
 deriving DecidableEq
def yRb:Ent:=⟨0,0,0,false⟩
def zGo (e:Ent):List D:=[.v (.int .i64 e.slot),.v (.int .i64 e.id),.v (.int .i64 e.qty),.v (.bool e.top)]
@[reducible] def yTv (e:Ent):V:= .agg [zA e.slot,zA e.id,zA e.qty,yF e.top]
def Slot.ent (s:Slot):Ent:=⟨s.n,s.id,s.qty,s.top⟩
def Arena.slotAt (a:Arena) (k:Nat):Slot:=a.slots.getD k slot0
def Arena.getF (a:Arena) (n:Int):Ent×Bool:=if a.usedAt n=true then((a.slotAt n.toNat).ent,true)else(yRb,false)
def agetC:Con:=con1 ArN (fun i=>[.nm 0 0,zA i.n]) (fun i=>[jM i.a]) (fun i=>i.a.slots.length≤1000000) (fun i=> .tup [yTv (i.a.getF i.n).1,yF (i.a.getF i.n).2]) (fun i=>[jM i.a])
def zUk (sl:List Slot):Int→List Nat→Prop
 |at_,[]=>at_= -1
 |at_,k::l=>at_=k∧k<sl.length∧zUk sl (sl.getD k slot0).back l
structure ArL where
 a:Arena
 n:Int
 l:List Nat
def pW (l:List Nat) (j:Nat):Int:=match l[j]? with
 |some k=>k
 |none=> -1
def Arena.ents (a:Arena) (l:List Nat):List Ent:=l.map fun k=>(a.slotAt k).ent
structure Arena.listOk (a:Arena) (n:Int) (l:List Nat):Prop where
 len:l.length≤1000000
 ch:if 0≤n∧n<a.queues.length then zUk a.slots (a.queues.getD n.toNat bP).first l else l=[]
def alistC:Con:=con1 ArL (fun i=>[.nm 0 0,zA i.n]) (fun i=>[jM i.a]) (fun i=>i.a.listOk i.n i.l) (fun _=> .own 1) (fun i=>[jM i.a,.own 246 4 ((i.a.ents i.l).map zGo)])
def yKn (i:ArL):List SAnn:=[{ι:=Nat,slots:=fun j=>[(5,.own 0),(6,zA (pW i.l j))],rows:=fun j=>[.own 246 4 ((i.a.ents (i.l.take j)).map zGo)]}]
structure TkI where
 a:Arena
 n:Int
 qty:Int
def Arena.dropF (a:Arena) (k:Nat):Arena:=
 let s:=a.slotAt k
 let q:=a.queues.getD s.queue.toNat bP
 let sl1:=if s.ahead= -1 then a.slots else a.slots.modify s.ahead.toNat fun x=>{x with back:=s.back}
 let sl2:=if s.back= -1 then sl1 else sl1.modify s.back.toNat fun x=>{x with ahead:=s.ahead}
 ⟨sl2.set k slot0,a.queues.set s.queue.toNat ⟨if s.ahead= -1 then s.back else q.first,if s.back= -1 then s.ahead else q.last,q.total,IntKind.i64.wrap (q.count-1)⟩,IntKind.i64.wrap (a.free+1)⟩
def Arena.less (a:Arena) (k:Nat) (qty:Int):Arena:=
 {a with slots:=a.slots.modify k fun s=>{s with qty:=s.qty-qty},queues:=a.queues.modify (a.slotAt k).queue.toNat fun q=>{q with total:=IntKind.i64.wrap (q.total-qty)}}
def Arena.takeF (a:Arena) (n qty:Int):Arena×Int:=
 if a.usedAt n=false then(a,26)else if qty<1∨(a.slotAt n.toNat).qty<qty then(a,24)
 else if(a.slotAt n.toNat).qty=qty then((a.less n.toNat qty).dropF n.toNat,0)else(a.less n.toNat qty,0)
def Arena.okAt (a:Arena):Prop:=a.slots.length≤1000000∧∀(k:Nat) (s:Slot),a.slots[k]? =some s→s.used=true→(0≤s.queue∧s.queue<a.queues.length)∧s.qty≤1000000∧(s.ahead= -1∨(0≤s.ahead∧s.ahead<a.slots.length∧s.ahead≠k))∧(s.back= -1∨(0≤s.back∧s.back<a.slots.length∧s.back≠k))
def atakeC:Con:=con1 TkI (fun i=>[.nm 0 0,zA i.n,zA i.qty]) (fun i=>[jM i.a]) (fun i=>i.a.okAt) (fun i=>zA (i.a.takeF i.n i.qty).2) (fun i=>[jM (i.a.takeF i.n i.qty).1])
open Go Cv Go.Proofs
def eA (a:ArN):Prop:=∃(b:Unit),(a.a.getF a.n).fst.slot=0∧(a.a.getF a.n).fst.id=0∧(a.a.getF a.n).fst.qty=0∧(a.a.getF a.n).fst.top=false∧(a.a.getF a.n).snd=false∧jI a
def yJs (i:ArN):Prop:=
 cnd (decide (i.n<0)) (eA i) (cnd (decide (i.n≥(↑(List.map zR i.a.slots).length:Int))) (eA i) ((0≤i.n∧i.n<(↑(List.map zR i.a.slots).length:Int))∧∃(a:Bool),zE (List.map zR i.a.slots) i.n.toNat ((0:Nat)+(0:Nat)) 1=some [D.v (.bool a)]∧cnd (!a) (eA i) ((0≤i.n∧i.n<(↑(List.map zR i.a.slots).length:Int))∧∃(b:Int),∃(c:Int),∃(d:Int),∃(e:Bool),zE (List.map zR i.a.slots) i.n.toNat ((0:Nat)+(1:Nat)) 4=some [dI b,dI c,dI d,D.v (.bool e)]∧∃(f:Unit),(i.a.getF i.n).fst.slot=b∧(i.a.getF i.n).fst.id=c∧(i.a.getF i.n).fst.qty=d∧(i.a.getF i.n).fst.top=e∧(i.a.getF i.n).snd=true∧jI i)))
def zAb (a:ArL):Prop:=∃(b:Unit),a.a.free=a.a.free∧List.map zR a.a.slots=List.map zR a.a.slots∧List.map zO a.a.queues=List.map zO a.a.queues∧List.map zGo (a.a.ents a.l)=[]∧True
def z9g (i:ArL):Prop:=
 cnd (decide (i.n≥0)) (cnd (!decide (i.n<(↑(List.map zO i.a.queues).length:Int))) (zAb i) ((0≤i.n∧i.n<(↑(List.map zO i.a.queues).length:Int))∧∃(a:Int),zE (List.map zO i.a.queues) i.n.toNat ((0:Nat)+(0:Nat)) 1=some [dI a]∧∃(b:Nat),pW i.l b=a∧List.map zGo (i.a.ents (List.take b i.l))=[]∧∃(c:Nat→Prop),∃(d:Nat→Nat),c b∧∀(e:Nat),c e→cnd (pW i.l e !=(-1)) ((0≤pW i.l e∧pW i.l e<(↑(List.map zR i.a.slots).length:Int))∧∃(f:Int),∃(g:Int),∃(h:Int),∃(j:Bool),zE (List.map zR i.a.slots) (pW i.l e).toNat ((0:Nat)+(1:Nat)) 4=some [dI f,dI g,dI h,D.v (.bool j)]∧((List.map zGo (i.a.ents (List.take e i.l))).length+1)*(32:Nat)≤(140737488355328:Nat)∧(0≤pW i.l e∧pW i.l e<(↑(List.map zR i.a.slots).length:Int))∧∃(k:Int),zE (List.map zR i.a.slots) (pW i.l e).toNat ((0:Nat)+(7:Nat)) 1=some [dI k]∧∃(l:Nat),pW i.l l=k∧List.map zGo (i.a.ents (List.take l i.l))=List.map zGo (i.a.ents (List.take e i.l))++[[dI f,dI g,dI h,D.v (.bool j)]]∧c l∧d l<d e∧Sx.AObj.cells (gY (jH 0 1 3) [V.own 1,V.own 2,zA i.a.free]) (350:TypeId)=Sx.AObj.cells (gY (jH 0 1 3) [V.own 1,V.own 2,zA i.a.free]) (350:TypeId)∧AObj.own 305 8 (List.map zR i.a.slots)=AObj.own 305 8 (List.map zR i.a.slots)∧AObj.own 354 4 (List.map zO i.a.queues)=AObj.own 354 4 (List.map zO i.a.queues)) (∃(f:Unit),i.a.free=i.a.free∧List.map zR i.a.slots=List.map zR i.a.slots∧List.map zO i.a.queues=List.map zO i.a.queues∧List.map zGo (i.a.ents i.l)=List.map zGo (i.a.ents (List.take e i.l))∧True))) (zAb i)
def lB (a:TkI):Prop:=(a.a.takeF a.n a.qty).fst.free=a.a.free∧List.map zR (a.a.takeF a.n a.qty).fst.slots=List.map zR a.a.slots∧List.map zO (a.a.takeF a.n a.qty).fst.queues=List.map zO a.a.queues∧True
def nE (a:TkI):Prop:=∃(b:Unit),(a.a.takeF a.n a.qty).snd=26∧lB a
def lH (a:TkI):Prop:=∃(b:Unit),(a.a.takeF a.n a.qty).snd=24∧lB a
def y6 (a:TkI) (b:Int):=(yH (List.map zR a.a.slots) a.n.toNat ((0:Nat)+(1:Nat)+2) [dI (IntKind.i64.wrap (b-a.qty))])
def jQ (a:TkI) (b:Int) (c:Int) (d:Int):=(yH (y6 a b) c.toNat ((0:Nat)+(7:Nat)) [dI d])
def l7 (a:TkI) (b:Int) (c:Int) (d:Int) (e:Int) (f:Int):=(yH (jQ a b c d) e.toNat ((0:Nat)+(6:Nat)) [dI f])
def wH (a:TkI) (b:Int) (c:Int):=(yH (List.map zO a.a.queues) b.toNat ((0:Nat)+(2:Nat)) [dI (IntKind.i64.wrap (c-a.qty))])
def fM (a:TkI) (b:Int) (c:Int) (d:Int) (e:Int):=(yH (wH a b c) d.toNat ((0:Nat)+(0:Nat)) [dI e])
def pL (a:TkI) (b:Int) (c:Int) (d:Int) (e:Int) (f:Int):=(yH (fM a b c d e) d.toNat ((0:Nat)+(1:Nat)) [dI f])
def lG (a:TkI) (b:Int) (c:Int) (d:Int):=(yH (y6 a b) c.toNat ((0:Nat)+(6:Nat)) [dI d])
def l9 (a:Int) (b:TkI) (c:Int):Prop:=0≤a∧a<(↑(y6 b c).length:Int)
def pE (a:TkI) (b:Int) (c:Int) (d:Int) (e:Int):=(yH (wH a b c) d.toNat ((0:Nat)+(1:Nat)) [dI e])
def yAz (i:TkI):Prop:=
 cnd (decide (i.n<0)) (nE i) (cnd (decide (i.n≥(↑(List.map zR i.a.slots).length:Int))) (nE i) ((0≤i.n∧i.n<(↑(List.map zR i.a.slots).length:Int))∧∃(a:Bool),zE (List.map zR i.a.slots) i.n.toNat ((0:Nat)+(0:Nat)) 1=some [D.v (.bool a)]∧cnd (!a) (nE i) ((0≤i.n∧i.n<(↑(List.map zR i.a.slots).length:Int))∧cnd (decide (i.qty<1)) (lH i) (∃(b:Int),zE (List.map zR i.a.slots) i.n.toNat ((0:Nat)+(1:Nat)+2) 1=some [dI b]∧cnd (decide (i.qty>b)) (lH i) (∃(c:Int),zE (List.map zR i.a.slots) i.n.toNat ((0:Nat)+(1:Nat)+2) 1=some [dI c]∧i.n.toNat<(List.map zR i.a.slots).length∧∃(d:Int),zE (y6 i c) i.n.toNat ((0:Nat)+(5:Nat)) 1=some [dI d]∧(0≤d∧d<(↑(List.map zO i.a.queues).length:Int))∧∃(e:Int),zE (List.map zO i.a.queues) d.toNat ((0:Nat)+(2:Nat)) 1=some [dI e]∧(0≤d∧d<(↑(List.map zO i.a.queues).length:Int))∧d.toNat<(List.map zO i.a.queues).length∧∃(f:Int),zE (y6 i c) i.n.toNat ((0:Nat)+(1:Nat)+2) 1=some [dI f]∧cnd (f==0) (∃(g:Int),zE (y6 i c) i.n.toNat ((0:Nat)+(5:Nat)) 1=some [dI g]∧(0≤g∧g<(↑(wH i d e).length:Int))∧∃(h:Int),zE (y6 i c) i.n.toNat ((0:Nat)+(6:Nat)) 1=some [dI h]∧cnd (h==(-1)) (∃(j:Int),zE (y6 i c) i.n.toNat ((0:Nat)+(7:Nat)) 1=some [dI j]∧g.toNat<(wH i d e).length∧∃(k:Int),zE (y6 i c) i.n.toNat ((0:Nat)+(7:Nat)) 1=some [dI k]∧cnd (k==(-1)) (∃(l:Int),zE (y6 i c) i.n.toNat ((0:Nat)+(6:Nat)) 1=some [dI l]∧g.toNat<(fM i d e g j).length∧∃(m:Int),zE (pL i d e g j l) g.toNat ((0:Nat)+(3:Nat)) 1=some [dI m]∧g.toNat<(pL i d e g j l).length∧i.n.toNat<(y6 i c).length∧∃(n:Unit),(i.a.takeF i.n i.qty).snd=0∧(i.a.takeF i.n i.qty).fst.free=IntKind.i64.wrap (i.a.free+1)∧List.map zR (i.a.takeF i.n i.qty).fst.slots=yH (y6 i c) i.n.toNat 0 [D.v (.bool false),dI 0,dI 0,dI 0,D.v (.bool false),dI 0,dI 0,dI 0]∧List.map zO (i.a.takeF i.n i.qty).fst.queues=yH (pL i d e g j l) g.toNat ((0:Nat)+(3:Nat)) [dI (IntKind.i64.wrap (m-1))]∧True) (∃(l:Int),zE (y6 i c) i.n.toNat ((0:Nat)+(7:Nat)) 1=some [dI l]∧∃(m:Int),zE (y6 i c) i.n.toNat ((0:Nat)+(6:Nat)) 1=some [dI m]∧(l9 l i c)∧l.toNat<(y6 i c).length∧∃(n:Int),zE (fM i d e g j) g.toNat ((0:Nat)+(3:Nat)) 1=some [dI n]∧g.toNat<(fM i d e g j).length∧i.n.toNat<(lG i c l m).length∧∃(p:Unit),(i.a.takeF i.n i.qty).snd=0∧(i.a.takeF i.n i.qty).fst.free=IntKind.i64.wrap (i.a.free+1)∧List.map zR (i.a.takeF i.n i.qty).fst.slots=yH (lG i c l m) i.n.toNat 0 [D.v (.bool false),dI 0,dI 0,dI 0,D.v (.bool false),dI 0,dI 0,dI 0]∧List.map zO (i.a.takeF i.n i.qty).fst.queues=yH (fM i d e g j) g.toNat ((0:Nat)+(3:Nat)) [dI (IntKind.i64.wrap (n-1))]∧True)) (∃(j:Int),zE (y6 i c) i.n.toNat ((0:Nat)+(6:Nat)) 1=some [dI j]∧∃(k:Int),zE (y6 i c) i.n.toNat ((0:Nat)+(7:Nat)) 1=some [dI k]∧(l9 j i c)∧j.toNat<(y6 i c).length∧∃(l:Int),zE (jQ i c j k) i.n.toNat ((0:Nat)+(7:Nat)) 1=some [dI l]∧cnd (l==(-1)) (∃(m:Int),zE (jQ i c j k) i.n.toNat ((0:Nat)+(6:Nat)) 1=some [dI m]∧g.toNat<(wH i d e).length∧∃(n:Int),zE (pE i d e g m) g.toNat ((0:Nat)+(3:Nat)) 1=some [dI n]∧g.toNat<(pE i d e g m).length∧i.n.toNat<(jQ i c j k).length∧∃(p:Unit),(i.a.takeF i.n i.qty).snd=0∧(i.a.takeF i.n i.qty).fst.free=IntKind.i64.wrap (i.a.free+1)∧List.map zR (i.a.takeF i.n i.qty).fst.slots=yH (jQ i c j k) i.n.toNat 0 [D.v (.bool false),dI 0,dI 0,dI 0,D.v (.bool false),dI 0,dI 0,dI 0]∧List.map zO (i.a.takeF i.n i.qty).fst.queues=yH (pE i d e g m) g.toNat ((0:Nat)+(3:Nat)) [dI (IntKind.i64.wrap (n-1))]∧True) (∃(m:Int),zE (jQ i c j k) i.n.toNat ((0:Nat)+(7:Nat)) 1=some [dI m]∧∃(n:Int),zE (jQ i c j k) i.n.toNat ((0:Nat)+(6:Nat)) 1=some [dI n]∧(0≤m∧m<(↑(jQ i c j k).length:Int))∧m.toNat<(jQ i c j k).length∧∃(p:Int),zE (wH i d e) g.toNat ((0:Nat)+(3:Nat)) 1=some [dI p]∧g.toNat<(wH i d e).length∧i.n.toNat<(l7 i c j k m n).length∧∃(q:Unit),(i.a.takeF i.n i.qty).snd=0∧(i.a.takeF i.n i.qty).fst.free=IntKind.i64.wrap (i.a.free+1)∧List.map zR (i.a.takeF i.n i.qty).fst.slots=yH (l7 i c j k m n) i.n.toNat 0 [D.v (.bool false),dI 0,dI 0,dI 0,D.v (.bool false),dI 0,dI 0,dI 0]∧List.map zO (i.a.takeF i.n i.qty).fst.queues=yH (wH i d e) g.toNat ((0:Nat)+(3:Nat)) [dI (IntKind.i64.wrap (p-1))]∧True))) (∃(g:Unit),(i.a.takeF i.n i.qty).snd=0∧(i.a.takeF i.n i.qty).fst.free=i.a.free∧List.map zR (i.a.takeF i.n i.qty).fst.slots=yH (List.map zR i.a.slots) i.n.toNat ((0:Nat)+(1:Nat)+2) [dI (IntKind.i64.wrap (c-i.qty))]∧List.map zO (i.a.takeF i.n i.qty).fst.queues=yH (List.map zO i.a.queues) d.toNat ((0:Nat)+(2:Nat)) [dI (IntKind.i64.wrap (e-i.qty))]∧True))))))
open Go Cv Go.Proofs
theorem zHi {a:Arena} {n:Int} (h:n<0∨(a.slots.length:Int)≤n):a.usedAt n=false:=by
 rcases h with h|h
 ·rw[Arena.usedAt,yVw (by omega),yYo]
 ·rw[Arena.usedAt,yVw (show ¬n<(a.slots.length:Int)by omega),yYo,y0k]
theorem z0o {a:Arena} {n:Int} {s:Slot} (h0:0≤n) (hs:a.slots[n.toNat]? =some s):a.usedAt n=s.used:=by
 have hl:=(yVn.1 hs).1
 rw[Arena.usedAt,yWd h0,yWd (show n<(a.slots.length:Int)by omega),zT hs];simp
theorem xH {a:Arena} {k:Nat} {s:Slot} (hs:a.slots[k]? =some s):a.slotAt k=s:=zT hs
theorem yRv (i:ArN) (h:agetC.cnd i):yJs i:=by
 have h:i.a.slots.length≤1000000:=h
 unfold yJs eA jI dI
 simp only[yVk]
 have no (e:i.a.usedAt i.n=false):i.a.getF i.n=(yRb,false):=by rw[Arena.getF,yVj (by rw[e];decide)]
 refine zJ (fun c=> ?_) (fun c=>zJ (fun d=> ?_) (fun d=> ?_))
 ·rw[no (zHi (.inl c))];(repeat'(first|exact rfl|exact trivial|assumption|apply And.intro|refine fun(_:Unit) (_:True)=>?_|refine Exists.intro () ?_|omega|(dsimp only;omega)))
 ·rw[no (zHi (.inr (by omega)))];(repeat'(first|exact rfl|exact trivial|assumption|apply And.intro|refine fun(_:Unit) (_:True)=>?_|refine Exists.intro () ?_|omega|(dsimp only;omega)))
 ·obtain⟨s,hs⟩:=yD (l:=i.a.slots) (i:=i.n.toNat) (by omega)
  have eu:=z0o (a:=i.a) (n:=i.n) (by omega) hs
  refine⟨⟨by omega,by omega⟩,s.used,elA hs (by simp[zR]) rfl,Cv.cnd.mk (fun u=> ?_) (fun u=> ?_)⟩
  ·rw[no (by rw[eu];simpa using u)];(repeat'(first|exact rfl|exact trivial|assumption|apply And.intro|refine fun(_:Unit) (_:True)=>?_|refine Exists.intro () ?_|omega|(dsimp only;omega)))
  ·have e:i.a.usedAt i.n=true:=by rw[eu];simpa using u
   have et:i.a.getF i.n=(s.ent,true):=by rw[Arena.getF,yVl e,xH hs]
   rw[et]
   refine⟨⟨by omega,by omega⟩,s.n,s.id,s.qty,s.top,elA hs (by simp[zR]) rfl,?_⟩
   (repeat'(first|exact rfl|exact trivial|assumption|apply And.intro|refine fun(_:Unit) (_:True)=>?_|refine Exists.intro () ?_|omega|(dsimp only;omega)))
theorem z3s:agetC.ok Tryz.prog 148:=okw mixed gok0 1 (fun _=>[]) (fun _=>[]) [0] Tryz.func148 yRv
theorem zOq:∀{sl:List Slot} {at_:Int} {l:List Nat},zUk sl at_ l→pW l 0=at_∧∀j k,l[j]? =some k→k<sl.length∧pW l (j+1)=(sl.getD k slot0).back
 |sl,at_,[],h=>⟨h.symm,fun j k hk=>by simp at hk⟩
 |sl,at_,x::l,h=>by
  obtain⟨h1,h2,h3⟩:=h
  have ih:=zOq h3
  refine⟨h1.symm,fun j k hk=> ?_⟩
  cases j with
  |zero=>
   simp at hk;subst hk
   exact⟨h2,by rw[← ih.1];rfl⟩
  |succ j=>
   rw[yXe]at hk
   obtain⟨a,b⟩:=ih.2 j k hk
   exact⟨a,by rw[← b];rfl⟩
theorem yLk (i:ArL) (h:alistC.cnd i):z9g i:=by
 obtain⟨hl,h⟩:i.l.length≤1000000∧(if 0≤i.n∧i.n<i.a.queues.length then zUk i.a.slots (i.a.queues.getD i.n.toNat bP).first i.l else i.l=[]):=⟨h.len,h.ch⟩
 unfold z9g zAb dI
 simp only[yVk]
 have out (e:¬(0≤i.n∧i.n<(i.a.queues.length:Int))):i.l=[]:=by rw[yVj e]at h;exact h
 refine zJ (fun c=>Cv.cnd.mk (fun d=> ?_) (fun d=> ?_)) (fun c=> ?_)
 ·have d:¬i.n<(i.a.queues.length:Int):=by simpa using d
  rw[out (by omega)];(repeat'(first|exact rfl|exact trivial|assumption|apply And.intro|refine fun(_:Unit) (_:True)=>?_|refine Exists.intro () ?_|omega|(dsimp only;omega)))
 ·have d:i.n<(i.a.queues.length:Int):=by simpa using d
  rw[yVl ⟨by omega,d⟩]at h
  obtain⟨q,hq⟩:=yD (l:=i.a.queues) (i:=i.n.toNat) (by omega)
  rw[zT hq]at h
  obtain⟨n0,nx⟩:=zOq h
  refine⟨⟨by omega,by omega⟩,q.first,elA hq (by simp[zO]) rfl,0,n0,rfl,fun j=>j≤i.l.length,fun j=>i.l.length-j,yXf _,fun j hj=>Cv.cnd.mk (fun e=> ?_) (fun e=> ?_)⟩
  ·have e:pW i.l j≠-1:=by simpa using e
   obtain⟨k,hk⟩:∃k,i.l[j]? =some k:=by
    cases hk:i.l[j]? with
    |none=>rw[pW,hk]at e;exact absurd rfl e
    |some k=>exact⟨k,rfl⟩
   have hjl:=(yVn.1 hk).1
   obtain⟨hkl,hnx⟩:=nx j k hk
   have en:pW i.l j=k:=by rw[pW,hk]
   obtain⟨s,hs⟩:=yD (l:=i.a.slots) (i:=k) hkl
   rw[en,yWb]
   refine⟨⟨by omega,by omega⟩,s.n,s.id,s.qty,s.top,elA hs (by simp[zR]) rfl,?_,⟨by omega,by omega⟩,s.back,elA hs (by simp[zR]) rfl,j+1,by rw[hnx,zT hs],?_,hjl,by dsimp only;omega,by(repeat'(first|exact trivial|exact rfl|apply And.intro))⟩
   ·simp only[Arena.ents,yVk,yWe];omega
   ·rw[yWs,hk]
    simp only[Arena.ents,Option.toList,yVu,yVz,yZc,xH hs]
    rfl
  ·have e:pW i.l j= -1:=by simpa using e
   have hj':i.l.length≤j:=by
    apply Classical.byContradiction
    intro hn
    obtain⟨k,hk⟩:=yD (l:=i.l) (i:=j) (by omega)
    rw[pW,hk]at e
    simp only at e;omega
   rw[yVx hj']
   (repeat'(first|exact rfl|exact trivial|assumption|apply And.intro|refine fun(_:Unit) (_:True)=>?_|refine Exists.intro () ?_|omega|(dsimp only;omega)))
 ·rw[out (by omega)];(repeat'(first|exact rfl|exact trivial|assumption|apply And.intro|refine fun(_:Unit) (_:True)=>?_|refine Exists.intro () ?_|omega|(dsimp only;omega)))
theorem z9w:alistC.ok Tryz.prog 275:=okw mixed gok0 1 (fun _=>[]) (fun i=>yKn i) [0] Tryz.func275 yLk
theorem zYx {α:Type} {l:List α} {i k:Nat} {x y:α} (h:i≠k) (hk:l[k]? =some x):(l.set i y)[k]? =some x:=by
 rw[List.getElem?_set_ne h];exact hk
theorem yKk (i:TkI) (h:atakeC.cnd i):yAz i:=by
 obtain⟨hl,hok⟩:i.a.okAt:=h
 unfold yAz pE l9 lG pL fM wH l7 jQ y6 lH nE lB dI
 simp only[yVk]
 have no (e:i.a.usedAt i.n=false):i.a.takeF i.n i.qty=(i.a,26):=by rw[Arena.takeF,yVl e]
 refine zJ (fun c=> ?_) (fun c=>zJ (fun d=> ?_) (fun d=> ?_))
 ·rw[no (zHi (.inl c))];(repeat'(first|exact rfl|exact trivial|assumption|apply And.intro|refine fun(_:Unit) (_:True)=>?_|refine Exists.intro () ?_|omega|(dsimp only;omega)))
 ·rw[no (zHi (.inr (by omega)))];(repeat'(first|exact rfl|exact trivial|assumption|apply And.intro|refine fun(_:Unit) (_:True)=>?_|refine Exists.intro () ?_|omega|(dsimp only;omega)))
 obtain⟨k,hk⟩:∃k,k=i.n.toNat:=⟨_,rfl⟩
 rw[← hk]
 obtain⟨s,hs⟩:=yD (l:=i.a.slots) (i:=k) (by omega)
 have hs':i.a.slots[i.n.toNat]? =some s:=by rw[← hk];exact hs
 have eu:=z0o (a:=i.a) (n:=i.n) (by omega) hs'
 refine⟨⟨by omega,by omega⟩,s.used,elA hs (by simp[zR]) rfl,Cv.cnd.mk (fun u=> ?_) (fun u=> ?_)⟩
 ·rw[no (by rw[eu];simpa using u)];(repeat'(first|exact rfl|exact trivial|assumption|apply And.intro|refine fun(_:Unit) (_:True)=>?_|refine Exists.intro () ?_|omega|(dsimp only;omega)))
 have u:s.used=true:=by simpa using u
 have e:¬i.a.usedAt i.n=false:=by rw[eu,u];decide
 obtain⟨⟨q0,q1⟩,sq,sa,sb⟩:=hok k s hs u
 have esl:i.a.slotAt i.n.toNat=s:=xH hs'
 have bad (hq:i.qty<1∨s.qty<i.qty):i.a.takeF i.n i.qty=(i.a,24):=by rw[Arena.takeF,yVj e,esl,yVl hq]
 refine⟨⟨by omega,by omega⟩,zJ (fun c1=>by rw[bad (.inl c1)];(repeat'(first|exact rfl|exact trivial|assumption|apply And.intro|refine fun(_:Unit) (_:True)=>?_|refine Exists.intro () ?_|omega|(dsimp only;omega)))) (fun c1=>⟨s.qty,elA hs (by simp[zR]) rfl,zJ (fun c2=>by rw[bad (.inr (by omega))];(repeat'(first|exact rfl|exact trivial|assumption|apply And.intro|refine fun(_:Unit) (_:True)=>?_|refine Exists.intro () ?_|omega|(dsimp only;omega)))) (fun c2=>⟨s.qty,elA hs (by simp[zR]) rfl,by omega,?_⟩)⟩)⟩
 obtain⟨q,hq⟩:=yD (l:=i.a.queues) (i:=s.queue.toNat) (by omega)
 have hs1:(i.a.slots.set k {s with qty:=s.qty-i.qty})[k]? =some {s with qty:=s.qty-i.qty}:=vZ hs
 have hq1:(i.a.queues.set s.queue.toNat {q with total:=IntKind.i64.wrap (q.total-i.qty)})[s.queue.toNat]? =some {q with total:=IntKind.i64.wrap (q.total-i.qty)}:=vZ hq
 have hle:i.a.less i.n.toNat i.qty=⟨i.a.slots.set k {s with qty:=s.qty-i.qty},i.a.queues.set s.queue.toNat {q with total:=IntKind.i64.wrap (q.total-i.qty)},i.a.free⟩:=by
  rw[Arena.less,esl,dB hs',dB hq,hk]
 have hL:(i.a.slots.set k {s with qty:=s.qty-i.qty}).length=i.a.slots.length:=yWq
 have hQ:(i.a.queues.set s.queue.toNat {q with total:=IntKind.i64.wrap (q.total-i.qty)}).length=i.a.queues.length:=yWq
 have tk:i.a.takeF i.n i.qty=if s.qty=i.qty then((i.a.less i.n.toNat i.qty).dropF i.n.toNat,0)else(i.a.less i.n.toNat i.qty,0):=by rw[Arena.takeF,yVj e,esl,yVj (by omega)]
 rw[hle,← hk]at tk
 rw[w64 (x:=s.qty-i.qty) (by omega),yI hs (y:={s with qty:=s.qty-i.qty}) rfl]
 refine⟨s.queue,elA hs1 (by simp[zR]) rfl,⟨q0,q1⟩,q.total,elA hq (by simp[zO]) rfl,⟨q0,q1⟩,by omega,s.qty-i.qty,elA hs1 (by simp[zR]) rfl,?_⟩
 rw[yI hq (y:={q with total:=IntKind.i64.wrap (q.total-i.qty)}) rfl]
 simp only[yVk]
 generalize hL1:i.a.slots.set k {s with qty:=s.qty-i.qty}=L1 at*
 generalize hQ1:i.a.queues.set s.queue.toNat {q with total:=IntKind.i64.wrap (q.total-i.qty)}=Q1 at*
 refine Cv.cnd.mk (fun z=> ?_) (fun z=> ?_)
 ·have z:s.qty=i.qty:=by have:s.qty-i.qty=0:=by simpa using z
                         omega
  rw[yVl z]at tk
  have esl1:(⟨L1,Q1,i.a.free⟩:Arena).slotAt k={s with qty:=s.qty-i.qty}:=xH hs1
  have eq1:Q1.getD s.queue.toNat bP={q with total:=IntKind.i64.wrap (q.total-i.qty)}:=zT hq1
  rw[Arena.dropF,esl1]at tk
  dsimp only at tk
  rw[eq1]at tk
  dsimp only at tk
  rw[tk]
  refine⟨s.queue,elA hs1 (by simp[zR]) rfl,⟨q0,by omega⟩,s.ahead,elA hs1 (by simp[zR]) rfl,Cv.cnd.mk (fun ea=> ?_) (fun ea=> ?_)⟩
  ·have ea:s.ahead= -1:=by simpa using ea
   refine⟨s.back,elA hs1 (by simp[zR]) rfl,by omega,s.back,elA hs1 (by simp[zR]) rfl,?_⟩
   rw[yI hq1 (y:=⟨s.back,q.last,IntKind.i64.wrap (q.total-i.qty),q.count⟩) rfl]
   have hq2:(Q1.set s.queue.toNat ⟨s.back,q.last,IntKind.i64.wrap (q.total-i.qty),q.count⟩)[s.queue.toNat]? =some ⟨s.back,q.last,IntKind.i64.wrap (q.total-i.qty),q.count⟩:=vZ hq1
   simp only[yVk,yWq]
   refine Cv.cnd.mk (fun eb=> ?_) (fun eb=> ?_)
   ·have eb:s.back= -1:=by simpa using eb
    refine⟨s.ahead,elA hs1 (by simp[zR]) rfl,by omega,q.count,?_,?_⟩
    ·rw[yI hq2 (y:=⟨s.back,s.ahead,IntKind.i64.wrap (q.total-i.qty),q.count⟩) rfl]
     exact elA (vZ hq2) (by simp[zO]) rfl
    rw[yI hq2 (y:=⟨s.back,s.ahead,IntKind.i64.wrap (q.total-i.qty),q.count⟩) rfl,yI (vZ hq2) (y:=⟨s.back,s.ahead,IntKind.i64.wrap (q.total-i.qty),IntKind.i64.wrap (q.count-1)⟩) rfl,yI hs1 (y:=slot0) rfl]
    simp only[yVk,yWq,yZn,yVl ea,yVl eb]
    refine⟨by omega,by omega,(),by(first|exact rfl|exact trivial),by(first|exact rfl|exact trivial),by(first|exact rfl|exact trivial),by(first|exact rfl|exact trivial),trivial⟩
   ·have eb:s.back≠-1:=by simpa using eb
    obtain⟨b0,b1,b2⟩:0≤s.back∧s.back<i.a.slots.length∧s.back≠k:=by omega
    obtain⟨x,hx⟩:=yD (l:=L1) (i:=s.back.toNat) (by omega)
    refine⟨s.back,elA hs1 (by simp[zR]) rfl,s.ahead,elA hs1 (by simp[zR]) rfl,⟨b0,by omega⟩,by omega,q.count,elA hq2 (by simp[zO]) rfl,?_⟩
    rw[yI hx (y:={x with ahead:=s.ahead}) rfl,yI hq2 (y:=⟨s.back,q.last,IntKind.i64.wrap (q.total-i.qty),IntKind.i64.wrap (q.count-1)⟩) rfl,yI (zYx (by omega) hs1) (y:=slot0) rfl]
    simp only[yVk,yWq,yZn,yVl ea,yVj eb,dB hx]
    refine⟨by omega,by omega,(),by(first|exact rfl|exact trivial),by(first|exact rfl|exact trivial),by(first|exact rfl|exact trivial),by(first|exact rfl|exact trivial),trivial⟩
  ·have ea:s.ahead≠-1:=by simpa using ea
   obtain⟨a0,a1,a2⟩:0≤s.ahead∧s.ahead<i.a.slots.length∧s.ahead≠k:=by omega
   obtain⟨x,hx⟩:=yD (l:=L1) (i:=s.ahead.toNat) (by omega)
   have hs2:(L1.set s.ahead.toNat {x with back:=s.back})[k]? =some {s with qty:=s.qty-i.qty}:=zYx (by omega) hs1
   refine⟨s.ahead,elA hs1 (by simp[zR]) rfl,s.back,elA hs1 (by simp[zR]) rfl,⟨a0,by omega⟩,by omega,s.back,?_,?_⟩
   ·rw[yI hx (y:={x with back:=s.back}) rfl]
    exact elA hs2 (by simp[zR]) rfl
   rw[yI hx (y:={x with back:=s.back}) rfl]
   simp only[yVk,yWq]
   refine Cv.cnd.mk (fun eb=> ?_) (fun eb=> ?_)
   ·have eb:s.back= -1:=by simpa using eb
    refine⟨s.ahead,elA hs2 (by simp[zR]) rfl,by omega,q.count,?_,?_⟩
    ·rw[yI hq1 (y:=⟨q.first,s.ahead,IntKind.i64.wrap (q.total-i.qty),q.count⟩) rfl]
     exact elA (vZ hq1) (by simp[zO]) rfl
    rw[yI hq1 (y:=⟨q.first,s.ahead,IntKind.i64.wrap (q.total-i.qty),q.count⟩) rfl,yI (vZ hq1) (y:=⟨q.first,s.ahead,IntKind.i64.wrap (q.total-i.qty),IntKind.i64.wrap (q.count-1)⟩) rfl,yI hs2 (y:=slot0) rfl]
    simp only[yVk,yWq,yZn,yVj ea,yVl eb,dB hx]
    refine⟨by omega,by omega,(),by(first|exact rfl|exact trivial),by(first|exact rfl|exact trivial),by(first|exact rfl|exact trivial),by(first|exact rfl|exact trivial),trivial⟩
   ·have eb:s.back≠-1:=by simpa using eb
    obtain⟨b0,b1,b2⟩:0≤s.back∧s.back<i.a.slots.length∧s.back≠k:=by omega
    obtain⟨y,hy⟩:=yD (l:=L1.set s.ahead.toNat {x with back:=s.back}) (i:=s.back.toNat) (by rw[yWq];omega)
    refine⟨s.back,elA hs2 (by simp[zR]) rfl,s.ahead,elA hs2 (by simp[zR]) rfl,⟨b0,by omega⟩,by omega,q.count,elA hq1 (by simp[zO]) rfl,?_⟩
    rw[yI hy (y:={y with ahead:=s.ahead}) rfl,yI hq1 (y:=⟨q.first,q.last,IntKind.i64.wrap (q.total-i.qty),IntKind.i64.wrap (q.count-1)⟩) rfl,yI (zYx (by omega) hs2) (y:=slot0) rfl]
    simp only[yVk,yWq,yZn,yVj ea,yVj eb,dB hx,dB hy]
    refine⟨by omega,by omega,(),by(first|exact rfl|exact trivial),by(first|exact rfl|exact trivial),by(first|exact rfl|exact trivial),by(first|exact rfl|exact trivial),trivial⟩
 ·have z:¬s.qty=i.qty:=by have:¬s.qty-i.qty=0:=by simpa using z
                          omega
  rw[yVj z]at tk
  rw[tk]
  exact⟨(),rfl,rfl,rfl,rfl,trivial⟩
theorem yBe:atakeC.ok Tryz.prog 195:=okw mixed gok0 1 (fun _=>[]) (fun _=>[]) [0] Tryz.func195 yKk
open Go Cv Go.Proofs
structure PlI where
 l:List Int
 least:Int
 q:Int
def zWx (l:List Int) (least q:Int):List Int:=l.map fun k=>if least≤k*q / l.sum then k*q / l.sum else 0
def jX:List (Int×Int)→Int→List Int
 |[],_=>[]
 |(n,x)::r,q=>(x+min (n-x) q)::jX r (q-min (n-x) q)
def PlI.p0 (i:PlI):List Int:=zWx i.l i.least i.q
def PlI.p1 (i:PlI):List Int:=jX (i.l.zip i.p0) (i.q-i.p0.sum)
def kW (i:PlI):List Int:=if yS i.l i.q=true∧1≤i.least then i.p1 else[]
def plainC:Con:=con1 PlI (fun i=>[iV i.l,zA i.least,zA i.q]) (fun _=>[]) (fun i=>i.l.length≤1000000∧yO i.q∧yO i.least) (fun _=> .own 0) (fun i=>[.own 2 1 (iE (kW i))])
def yPc (i:PlI):List SAnn:=[
 {ι:=Nat,slots:=fun j=>[(9,.own 0),(36,zA j)],rows:=fun j=>[.own 2 1 (iE (i.p0.take j++List.replicate (i.l.length-j) 0))]},
 {ι:=Nat,slots:=fun j=>[(2,zA (i.q-(i.p0.take j).sum)),(58,zA j)],rows:=fun _=>[]},
 {ι:=Nat,slots:=fun j=>[(9,.own 0),(2,zA (i.q-i.p0.sum+(i.p0.take j).sum-(i.p1.take j).sum)),(68,zA j)],rows:=fun j=>[.own 2 1 (iE (i.p1.take j++i.p0.drop j))]}]
open Go Cv Go.Proofs
def fY (a:Nat) (b:PlI):=(iE (List.take a b.p1++List.drop a b.p0))
def nM (a:Nat) (b:PlI):Prop:=0≤(↑a:Int)∧(↑a:Int)<(↑(fY a b).length:Int)
def uZ (a:Nat) (b:PlI):=(List.take a b.p0++List.replicate (b.l.length-a) 0)
def u7 (a:Nat) (b:PlI):=(iE (uZ a b))
def cX (a:Nat) (b:PlI):=(↑(u7 a b).length:Int)
def z8o (i:PlI):Prop:=
 ∃(a:LqI),iE a.l=iE i.l∧a.q=i.q∧(jV a)∧∀(b:Unit),True→cnd (!yS a.l a.q) (∃(c:Unit),iE (kW i)=[]∧True) (cnd (decide (i.least<1)) (∃(c:Unit),iE (kW i)=[]∧True) (∃(c:List Int),iE c=iE i.l∧(c.length≤1000∧∀(d:Int),d∈c→0≤d∧d≤1000000)∧∀(d:Unit),True→(0≤(↑(iE i.l).length:Int)∧(↑(iE i.l).length:Int)≤(↑(iE i.l).length:Int)∧(↑(iE i.l).length:Int)≤9223372036854775807∧(↑(8:Nat):Int)*(↑(iE i.l).length:Int)≤2 ^ (48:Nat))∧∃(e:Nat),(↑e:Int)=0∧iE (uZ e i)=List.replicate (↑(iE i.l).length:Int).toNat [dI 0]∧∃(f:Nat→Prop),∃(g:Nat→Nat),f e∧∀(h:Nat),f h→cnd (decide ((↑h:Int)<(↑(iE i.l).length:Int))) ((0≤(↑h:Int)∧(↑h:Int)<(↑(iE i.l).length:Int))∧∃(j:Int),zE (iE i.l) (↑h:Int).toNat 0 1=some [dI j]∧∃(k:ShI),k.a=j∧k.b=i.q∧k.c=c.sum∧(0≤k.a∧k.a≤(2000000000:Int)∧(0:Int)≤k.b∧k.b≤(2000000000:Int)∧(1:Int)≤k.c∧k.c≤2000000000)∧∀(l:Unit),True→cnd (decide (k.a*k.b / k.c≥i.least)) ((0≤(↑h:Int)∧(↑h:Int)<(cX h i))∧(↑h:Int).toNat<(u7 h i).length∧∃(m:Nat),(↑m:Int)=IntKind.i64.wrap ((↑h:Int)+1)∧iE (uZ m i)=yH (u7 h i) (↑h:Int).toNat 0 [dI (k.a*k.b / k.c)]∧f m∧g m<g h∧True) (∃(m:Nat),(↑m:Int)=IntKind.i64.wrap ((↑h:Int)+1)∧iE (uZ m i)=iE (uZ h i)∧f m∧g m<g h∧True)) (∃(j:Nat),i.q-(List.take j i.p0).sum=i.q∧(↑j:Int)=0∧∃(k:Nat→Prop),∃(l:Nat→Nat),k j∧∀(m:Nat),k m→cnd (decide ((↑m:Int)<(cX h i))) ((0≤(↑m:Int)∧(↑m:Int)<(cX h i))∧∃(n:Int),zE (u7 h i) (↑m:Int).toNat 0 1=some [dI n]∧∃(p:Nat),i.q-(List.take p i.p0).sum=IntKind.i64.wrap (i.q-(List.take m i.p0).sum-n)∧(↑p:Int)=IntKind.i64.wrap ((↑m:Int)+1)∧k p∧l p<l m∧AObj.own 2 1 (u7 h i)=AObj.own 2 1 (u7 h i)) (∃(n:Nat),i.q-i.p0.sum+(List.take n i.p0).sum-(List.take n i.p1).sum=i.q-(List.take m i.p0).sum∧(↑n:Int)=0∧iE (List.take n i.p1++List.drop n i.p0)=iE (uZ h i)∧∃(p:Nat→Prop),∃(q:Nat→Nat),p n∧∀(r:Nat),p r→cnd (decide ((↑r:Int)<(cX h i))) ((0≤(↑r:Int)∧(↑r:Int)<(↑(iE i.l).length:Int))∧∃(s:Int),zE (iE i.l) (↑r:Int).toNat 0 1=some [dI s]∧(nM r i)∧∃(t:Int),zE (fY r i) (↑r:Int).toNat 0 1=some [dI t]∧(nM r i)∧∃(u:Int),zE (fY r i) (↑r:Int).toNat 0 1=some [dI u]∧(nM r i)∧(↑r:Int).toNat<(fY r i).length∧∃(v:Nat),i.q-i.p0.sum+(List.take v i.p0).sum-(List.take v i.p1).sum=IntKind.i64.wrap (i.q-i.p0.sum+(List.take r i.p0).sum-(List.take r i.p1).sum-min (IntKind.i64.wrap (s-t)) (i.q-i.p0.sum+(List.take r i.p0).sum-(List.take r i.p1).sum))∧(↑v:Int)=IntKind.i64.wrap ((↑r:Int)+1)∧iE (List.take v i.p1++List.drop v i.p0)=yH (fY r i) (↑r:Int).toNat 0 [dI (IntKind.i64.wrap (u+min (IntKind.i64.wrap (s-t)) (i.q-i.p0.sum+(List.take r i.p0).sum-(List.take r i.p1).sum)))]∧p v∧q v<q r∧True) (∃(s:Unit),iE (kW i)=iE (List.take r i.p1++List.drop r i.p0)∧True)))))
open Go Cv Go.Proofs
theorem lK:∀(z:List (Int×Int)) (q:Int),(jX z q).length=z.length
 |[],_=>rfl
 |(n,x)::z,q=>by rw[jX,yVt,yVt,lK z]
theorem zIe:∀(z:List (Int×Int)) (q:Int) (j:Nat) (n x:Int),z[j]? =some (n,x)→(jX z q)[j]? =some (x+min (n-x) (q+((z.map (·.2)).take j).sum-((jX z q).take j).sum))
 |[],_,_,_,_,h=>by simp at h
 |(m,y)::z,q,0,n,x,h=>by simp at h;obtain⟨rfl,rfl⟩:=h;simp[jX]
 |(m,y)::z,q,j+1,n,x,h=>by
  rw[yXe]at h
  rw[jX,yXe,zIe z _ j n x h,yWv,yWw,yVz,yWv,yWw]
  congr 3;dsimp only;omega
theorem zGh:∀(z:List (Int×Int)) (q:Int) (j:Nat),0≤q→(∀y∈z,y.2≤y.1)→0≤q+((z.map (·.2)).take j).sum-((jX z q).take j).sum∧q+((z.map (·.2)).take j).sum-((jX z q).take j).sum≤q
 |[],q,j,h,_=>by simp[jX,h]
 |(m,y)::z,q,0,h,_=>by simp[h]
 |(m,y)::z,q,j+1,h,hb=>by
  have hm:=hb (m,y) yVp
  have:=zGh z (q-min (m-y) q) j (by dsimp only at hm;omega) (fun x hx=>hb x (yVr _ hx))
  rw[jX,yWv,yWw,yVz,yWv,yWw]
  dsimp only at hm ⊢
  omega
theorem yBi {k q S:Int} (hk:0≤k) (hq:0≤q) (hS:1≤S) (hqS:q≤S):0≤k*q / S∧k*q / S≤k:=by
 refine⟨Int.ediv_nonneg (y1j hk hq) (by omega),?_⟩
 have:k*q≤k*S:=y0c hqS hk
 exact Int.ediv_le_of_le_mul (by omega) this
theorem zMp {q S least:Int} (hq:0≤q) (hS:1≤S):∀(l:List Int),(∀x∈l,0≤x)→S*(l.map fun k=>if least≤k*q / S then k*q / S else 0).sum≤q*l.sum
 |[],_=>by simp
 |k::l,h=>by
  have ih:=zMp (least:=least) hq hS l (fun x hx=>h x (yVr _ hx))
  have hk:=h k yVp
  rw[yVz,yWw,yWw,Int.mul_add,Int.mul_add]
  have h1:S*(k*q / S)≤k*q:=by
   have:=Int.mul_ediv_add_emod (k*q) S
   have:=Int.emod_nonneg (k*q) (show S≠0 by omega)
   omega
  have h2:0≤k*q:=y1j hk hq
  have h3:S*(if least≤k*q / S then k*q / S else 0)≤q*k:=by
   rw[y0o q k]
   split
   ·exact h1
   ·simpa using h2
  omega
theorem yAc {i:PlI} {j:Nat} {n:Int} (h:i.l[j]? =some n):i.p0[j]? =some (if i.least≤n*i.q / i.l.sum then n*i.q / i.l.sum else 0):=by
 rw[PlI.p0,zWx,yWt,h];rfl
theorem zZk (i:PlI):i.p0.length=i.l.length:=by simp[PlI.p0,zWx]
theorem z3u {l:List Int} {j m:Nat} {n:Int} (hl:l.length=m) (h:l[j]? =some n):(l.take j++List.replicate (m-j) 0).set j n=l.take (j+1)++List.replicate (m-(j+1)) 0:=by
 have hj:=(yVn.1 h).1
 rw[List.set_append_right _ _ (by rw[yWe];omega),yWe,show j-min j l.length=0 by omega,show m-j=(m-(j+1))+1 by omega,yZj,y1g,yWs,h]
 simp
theorem yCv {l:List Int} {j m:Nat} (hl:l.length=m) (hj:j<m):(l.take j++List.replicate (m-j) 0)[j]? =some 0:=by
 rw[yXp (by rw[yWe];omega),yWe,show j-min j l.length=0 by omega,show m-j=(m-(j+1))+1 by omega,yZj];rfl
theorem z9n {α:Type} {l:List α} {j:Nat} {x:α} (h:l[j]? =some x):l.set j x=l:=by
 obtain⟨h1,h2⟩:=yVn.1 h
 rw[← h2];exact List.set_getElem_self h1
theorem yNn {a b:List Int} {j:Nat} {x:Int} (ha:a.length=b.length) (h:b[j]? =some x):(a.take j++b.drop j)[j]? =some x:=by
 have hj:=(yVn.1 h).1
 rw[yXp (by rw[yWe];omega),yWe,show j-min j a.length=0 by omega,yYg]
 exact h
theorem yHz {a b:List Int} {j:Nat} {y:Int} (ha:a.length=b.length) (h:a[j]? =some y):(a.take j++b.drop j).set j y=a.take (j+1)++b.drop (j+1):=by
 have hj:=(yVn.1 h).1
 rw[List.set_append_right _ _ (by rw[yWe];omega),yWe,show j-min j a.length=0 by omega,yXs (by omega),y1g,yWs,h]
 simp
theorem zPw {l:List Int} {j:Nat} {x y:Int} (h:l[j]? =some x):yH (iE l) j 0 [D.v (.int .i64 y)]=iE (l.set j y):=yI (f:=fun n:Int=>[D.v (.int .i64 n)]) h rfl
theorem zBi {i:PlI} (h:yS i.l i.q=true) (hne:0<i.l.length):1≤i.l.sum∧i.l.sum≤250000000∧(∀(j:Nat) (n x:Int),i.l[j]? =some n→i.p0[j]? =some x→0≤x∧x≤n)∧i.p0.sum≤i.q:=by
 obtain⟨h1,h2,h3,h4⟩:=kY h
 have hb:=jE (l:=i.l) (fun x hx=>by have:=h3 x hx;omega) i.l.length
 rw[yYz]at hb
 have hS:1≤i.l.sum:=by
  obtain⟨x,hx⟩:=yD (l:=i.l) (i:=0) hne
  have:=h3 x (yVv hx)
  cases hl:i.l with
  |nil=>rw[hl]at hne;exact absurd hne (Nat.lt_irrefl 0)
  |cons a r=>
   rw[hl]at hx;simp at hx;subst hx
   have hr:=jE (l:=r) (fun y hy=>by have:=h3 y (by rw[hl];exact yVr _ hy);omega) r.length
   rw[yYz]at hr
   rw[yWw];omega
 refine⟨hS,by omega,fun j n x hn hx=> ?_,?_⟩
 ·have hn1:=h3 n (yVv hn)
  have:=yBi (k:=n) (by omega) h2 hS h4
  rw[yAc hn]at hx
  cases hx
  split<;>omega
 ·have:=zMp (least:=i.least) h2 hS i.l (fun x hx=>by have:=h3 x hx;omega)
  have e:i.l.sum*i.p0.sum≤i.l.sum*i.q:=by rw[y0o i.l.sum i.q];exact this
  exact Int.le_of_mul_le_mul_left e (by omega)
theorem yNb (i:PlI) (h:plainC.cnd i):z8o i:=by
 obtain⟨hl,hq,hle⟩:i.l.length≤1000000∧yO i.q∧yO i.least:=h
 unfold z8o cX u7 uZ nM fY jV dI
 refine⟨⟨i.l,i.q⟩,rfl,rfl,⟨hl,hq⟩,fun _ _=>Cv.cnd.mk (fun c=> ?_) (fun c=>zJ (fun d=> ?_) (fun d=> ?_))⟩
 ·have c:yS i.l i.q=false:=by simpa using c
  refine⟨(),?_,trivial⟩
  rw[kW,yVj (by rw[c];simp)];rfl
 ·refine⟨(),?_,trivial⟩
  rw[kW,yVj (by omega)];rfl
 have c:yS i.l i.q=true:=by simpa using c
 have eS:kW i=i.p1:=by rw[kW,yVl ⟨c,by omega⟩]
 obtain⟨h1,h2,h3,h4⟩:=kY c
 have hq2:=zHl c
 have hp0:=zZk i
 have hzl:(i.l.zip i.p0).length=i.l.length:=by rw[List.length_zip,hp0];simp
 have hp1:i.p1.length=i.l.length:=by rw[PlI.p1,lK,hzl]
 have hz2:(i.l.zip i.p0).map (·.2)=i.p0:=by rw[List.map_snd_zip];omega
 have h64:i.l.length≤250:=h1
 have hrl:∀j,j≤i.l.length→(List.take j i.p0++List.replicate (i.l.length-j) 0).length=i.l.length:=by
  intro j hj;rw[yVm,yWe,yYj];omega
 simp only[xD]
 refine⟨i.l,rfl,⟨by omega,fun x hx=>by have:=h3 x hx;omega⟩,fun _ _=>⟨⟨by omega,by omega,by omega,by omega⟩,0,by(first|exact rfl|exact trivial),?_,fun j=>j≤i.l.length,fun j=>i.l.length-j,yXf _,fun j hj=>zJ (fun e=> ?_) (fun e=> ?_)⟩⟩
 ·simp[iE]
 ·have hj':j<i.l.length:=by omega
  obtain⟨n,hn⟩:=yD (l:=i.l) (i:=j) hj'
  have bn:=h3 n (yVv hn)
  obtain⟨f1,f2,f3,f4⟩:=zBi c (by omega)
  have g:=yAc hn
  refine⟨⟨by omega,by omega⟩,n,elI hn,⟨n,i.q,i.l.sum⟩,rfl,rfl,rfl,⟨by dsimp only;omega,by dsimp only;omega,by dsimp only;omega,by dsimp only;omega,by dsimp only;omega,by dsimp only;omega⟩,fun _ _=>zJ (fun a=> ?_) (fun a=> ?_)⟩
  ·have a:n*i.q / i.l.sum≥i.least:=a
   rw[yVl (by omega)]at g
   refine⟨⟨by omega,by rw[hrl j (by omega)];omega⟩,by rw[hrl j (by omega)];omega,j+1,wjn (by omega),?_,hj',by dsimp only;omega,trivial⟩
   rw[yWb,zPw (yCv hp0 hj'),z3u hp0 g]
  ·have a:¬n*i.q / i.l.sum≥i.least:=a
   rw[yVj (by omega)]at g
   refine⟨j+1,wjn (by omega),?_,hj',by dsimp only;omega,trivial⟩
   rw[← z3u hp0 g,z9n (yCv hp0 hj')]
 have hje:j=i.l.length:=by omega
 subst hje
 have eP:List.take i.l.length i.p0++List.replicate (i.l.length-i.l.length) 0=i.p0:=by rw[yVx (by omega)];simp
 rw[eP,hp0]
 have px:∀(k:Nat) (n x:Int),i.l[k]? =some n→i.p0[k]? =some x→0≤x∧x≤n:=fun k n x hn hx=>(zBi c (by have:=(yVn.1 hn).1;omega)).2.2.1 k n x hn hx
 have pb:∀x∈i.p0,0≤x∧x≤1000000:=by
  intro x hx
  obtain⟨k,hk⟩:=yYb.1 hx
  obtain⟨n,hn⟩:=yD (l:=i.l) (i:=k) (by have:=(yVn.1 hk).1;omega)
  have:=px k n x hn hk
  have:=h3 n (yVv hn)
  omega
 have pq:i.p0.sum≤i.q:=by
  by_cases hz:0<i.l.length
  ·exact(zBi c hz).2.2.2
  ·have:i.p0=[]:=yWl (by omega)
   rw[this];simpa using h2
 refine⟨0,by simp,by(first|exact rfl|exact trivial),fun k=>k≤i.l.length,fun k=>i.l.length-k,yXf _,fun k hk=>zJ (fun e=> ?_) (fun e=> ?_)⟩
 ·have hk':k<i.l.length:=by omega
  obtain⟨x,hx⟩:=yD (l:=i.p0) (i:=k) (by omega)
  have bx:=pb x (yVv hx)
  have bs:=jE pb k
  refine⟨⟨by omega,by omega⟩,x,elI hx,k+1,?_,wjn (by omega),hk',by dsimp only;omega,by(repeat'(first|exact trivial|exact rfl|apply And.intro))⟩
  rw[jN hx,w64 (by omega)];omega
 have hke:k=i.l.length:=by omega
 subst hke
 rw[yVx (l:=i.p0) (by omega)]
 refine⟨0,by simp,by(first|exact rfl|exact trivial),by simp,fun j=>j≤i.l.length,fun j=>i.l.length-j,yXf _,fun j hj=>zJ (fun e=> ?_) (fun e=> ?_)⟩
 ·have hj':j<i.l.length:=by omega
  obtain⟨n,hn⟩:=yD (l:=i.l) (i:=j) hj'
  obtain⟨x,hx⟩:=yD (l:=i.p0) (i:=j) (by omega)
  have bn:=h3 n (yVv hn)
  have bx:=px j n x hn hx
  have hz:(i.l.zip i.p0)[j]? =some (n,x):=by rw[yZu];exact⟨hn,hx⟩
  have g:=zIe (i.l.zip i.p0) (i.q-i.p0.sum) j n x hz
  have r:=zGh (i.l.zip i.p0) (i.q-i.p0.sum) j (by omega) (fun y hy=>by
   obtain⟨k,hk⟩:=yYb.1 hy
   rw[yZu]at hk
   exact(px k y.1 y.2 hk.1 hk.2).2)
  rw[hz2]at g r
  have b0:=jE pb i.p0.length
  rw[yYz]at b0
  have hml:(List.take j i.p1++List.drop j i.p0).length=i.l.length:=by rw[yVm,yWe,yWh];omega
  have hma:=yNn (a:=i.p1) (b:=i.p0) (by omega) hx
  change i.p1[j]? =_ at g
  change 0≤_-(List.take j i.p1).sum∧_-(List.take j i.p1).sum≤_ at r
  change i.p1[j]? =some (x+min (n-x) (_-(List.take j i.p1).sum))at g
  rw[hml]
  refine⟨⟨by omega,by omega⟩,n,elI hn,⟨by omega,by omega⟩,x,elI hma,⟨by omega,by omega⟩,x,elI hma,⟨by omega,by omega⟩,by omega,?_⟩
  rw[w64 (x:=n-x) (by omega),w64 (x:=x+min (n-x) (i.q-i.p0.sum+(List.take j i.p0).sum-(List.take j i.p1).sum)) (by omega)]
  refine⟨j+1,?_,wjn (by omega),?_,hj',by dsimp only;omega,trivial⟩
  ·rw[jN hx,jN g,w64 (by omega)];omega
  ·rw[yWb,zPw hma,yHz (by omega) g]
 ·have hje:j=i.l.length:=by omega
  subst hje
  refine⟨(),?_,trivial⟩
  rw[eS,yVx (by omega),yYt (by omega),yWg]
theorem yBf:plainC.ok Tryz.prog 289:=okw mixed (gokc zCe (gokc yFf (gokc zOe gok0))) 0 (fun _=>[]) (fun i=>yPc i) [] Tryz.func289 yNb
open Go Cv Go.Proofs
structure RsI where
 l:List Int
 out:List Int
 least:Int
 q:Int
def RsI.idx (i:RsI) (k:Nat):List Nat:=(List.range k).filter fun n=>decide (i.out.getD n 0<i.l.getD n 0)
def RsI.left (i:RsI) (k:Nat):List Int:=(i.idx k).map fun n=>i.l.getD n 0-i.out.getD n 0
def RsI.pl (i:RsI):List Int:=kW ⟨i.left i.l.length,i.least,i.q⟩
def RsI.add (i:RsI) (k:Nat):List Int:=(((i.idx i.l.length).zip i.pl).take k).foldl (fun o y=>o.set y.1 (IntKind.i64.wrap (o.getD y.1 0+y.2))) i.out
def mG (i:RsI):List Int:=i.add i.pl.length
@[reducible] def RsI.ok (i:RsI):Prop:=i.l.length≤250∧i.out.length=i.l.length∧yO i.q∧yO i.least∧∀n,0≤i.out.getD n 0∧i.out.getD n 0≤i.l.getD n 0∧i.l.getD n 0≤1000000
def restC:Con:=con1 RsI (fun i=>[iV i.l,.own 0,zA i.least,zA i.q]) (fun i=>[.own 2 1 (iE i.out)]) RsI.ok (fun _=> .own 1) (fun i=>[.gone,.own 2 1 (iE (mG i))])
def ySb (i:RsI):List SAnn:=[
 {ι:=Nat,slots:=fun j=>[(9,.own 0),(10,.own 1),(16,zA j)],rows:=fun j=>[.own 2 1 (iE (i.left j)),.own 3 1 (iE ((i.idx j).map fun(n:Nat)=>(n:Int)))]},
 {ι:=Nat,slots:=fun k=>[(1,.own 0),(50,zA k)],rows:=fun k=>[.own 2 1 (iE (i.add k))]}]
structure zI where
 id:Int
 side:Int
 price:Int
 qty:Int
 top:Bool
 deriving DecidableEq
def wL (o:zI):List D:=[.v (.int .i64 o.id),.v (.int .i64 o.side),.v (.int .i64 o.price),.v (.int .i64 o.qty),.v (.bool o.top)]
@[reducible] def z6y (o:zI):V:= .agg [zA o.id,zA o.side,zA o.price,zA o.qty,yF o.top]
def topFC:Con:=con1 zI (fun o=>[z6y o]) (fun _=>[]) (fun _=>True) (fun o=>yF o.top) (fun _=>[])
def topI (l:List zI):Int:=zFn (l.findIdx? fun o=>o.top)
def idxOrdC:Con:=con1 (List zI) (fun l=>[roV 5 (l.map wL),.fn 253 [] []]) (fun _=>[]) (fun l=>l.length≤1000000) (fun l=>zA (topI l)) (fun _=>[])
def yEd (l:List zI):List SAnn:=[{ι:=Nat,slots:=fun j=>[(8,zA j)],rows:=fun _=>[]}]
open Go Cv Go.Proofs
def yIx (i:RsI):Prop:=
 ∃(a:Nat),(↑a:Int)=0∧iE (i.left a)=[]∧iE (List.map (fun(n:Nat) ↦ (↑n:Int)) (i.idx a))=[]∧∃(b:Nat→Prop),∃(c:Nat→Nat),b a∧∀(d:Nat),b d→cnd (decide ((↑d:Int)<(↑(iE i.l).length:Int))) ((0≤(↑d:Int)∧(↑d:Int)<(↑(iE i.l).length:Int))∧∃(e:Int),zE (iE i.l) (↑d:Int).toNat 0 1=some [dI e]∧(0≤(↑d:Int)∧(↑d:Int)<(↑(iE i.out).length:Int))∧∃(f:Int),zE (iE i.out) (↑d:Int).toNat 0 1=some [dI f]∧cnd (decide (e>f)) ((0≤(↑d:Int)∧(↑d:Int)<(↑(iE i.l).length:Int))∧∃(g:Int),zE (iE i.l) (↑d:Int).toNat 0 1=some [dI g]∧(0≤(↑d:Int)∧(↑d:Int)<(↑(iE i.out).length:Int))∧∃(h:Int),zE (iE i.out) (↑d:Int).toNat 0 1=some [dI h]∧((iE (i.left d)).length+1)*(8:Nat)≤(140737488355328:Nat)∧((iE (List.map (fun(g:Nat) ↦ (↑g:Int)) (i.idx d))).length+1)*(8:Nat)≤(140737488355328:Nat)∧∃(j:Nat),(↑j:Int)=IntKind.i64.wrap ((↑d:Int)+1)∧iE (i.left j)=iE (i.left d)++[[dI (IntKind.i64.wrap (g-h))]]∧iE (List.map (fun(g:Nat) ↦ (↑g:Int)) (i.idx j))=iE (List.map (fun(g:Nat) ↦ (↑g:Int)) (i.idx d))++[[dI (↑d:Int)]]∧b j∧c j<c d∧AObj.own 2 1 (iE i.out)=AObj.own 2 1 (iE i.out)) (∃(g:Nat),(↑g:Int)=IntKind.i64.wrap ((↑d:Int)+1)∧iE (i.left g)=iE (i.left d)∧iE (List.map (fun(e:Nat) ↦ (↑e:Int)) (i.idx g))=iE (List.map (fun(e:Nat) ↦ (↑e:Int)) (i.idx d))∧b g∧c g<c d∧AObj.own 2 1 (iE i.out)=AObj.own 2 1 (iE i.out))) (∃(e:PlI),iE e.l=iE (i.left d)∧e.least=i.least∧e.q=i.q∧(e.l.length≤1000000∧((-9223372036854775808)≤e.q∧e.q≤9223372036854775807)∧(-9223372036854775808)≤e.least∧e.least≤9223372036854775807)∧∀(f:Unit),True→∃(g:Nat),(↑g:Int)=0∧iE (i.add g)=iE i.out∧∃(h:Nat→Prop),∃(j:Nat→Nat),h g∧∀(k:Nat),h k→cnd (decide ((↑k:Int)<(↑(iE (kW e)).length:Int))) ((0≤(↑k:Int)∧(↑k:Int)<(↑(iE (kW e)).length:Int))∧∃(l:Int),zE (iE (kW e)) (↑k:Int).toNat 0 1=some [dI l]∧(0≤(↑k:Int)∧(↑k:Int)<(↑(iE (List.map (fun(l:Nat) ↦ (↑l:Int)) (i.idx d))).length:Int))∧∃(m:Int),zE (iE (List.map (fun(l:Nat) ↦ (↑l:Int)) (i.idx d))) (↑k:Int).toNat 0 1=some [dI m]∧(0≤m∧m<(↑(iE (i.add k)).length:Int))∧∃(n:Int),zE (iE (i.add k)) m.toNat 0 1=some [dI n]∧(0≤m∧m<(↑(iE (i.add k)).length:Int))∧m.toNat<(iE (i.add k)).length∧∃(p:Nat),(↑p:Int)=IntKind.i64.wrap ((↑k:Int)+1)∧iE (i.add p)=yH (iE (i.add k)) m.toNat 0 [dI (IntKind.i64.wrap (n+l))]∧h p∧j p<j k∧AObj.own 2 1 (iE (kW e))=AObj.own 2 1 (iE (kW e))∧AObj.fro 1 (iE (i.left d))=AObj.fro 1 (iE (i.left d))∧AObj.own 3 1 (iE (List.map (fun(l:Nat) ↦ (↑l:Int)) (i.idx d)))=AObj.own 3 1 (iE (List.map (fun(l:Nat) ↦ (↑l:Int)) (i.idx d)))) (∃(l:Unit),iE (mG i)=iE (i.add k)∧True))
def yKb (o:zI):Prop:=
 ∃(a:Unit),o.top=o.top∧True
def z0r (l:List zI):Prop:=
 ∃(a:Nat),(↑a:Int)=0∧∃(b:Nat→Prop),∃(c:Nat→Nat),b a∧∀(d:Nat),b d→cnd (decide ((↑d:Int)<(↑(List.map wL l).length:Int))) ((0≤(↑d:Int)∧(↑d:Int)<(↑(List.map wL l).length:Int))∧∃(e:Int),∃(f:Int),∃(g:Int),∃(h:Int),∃(j:Bool),zE (List.map wL l) (↑d:Int).toNat 0 5=some [dI e,dI f,dI g,dI h,D.v (.bool j)]∧∃(k:zI),k.id=e∧k.side=f∧k.price=g∧k.qty=h∧k.top=j∧True∧∀(m:Unit),True→cnd k.top (∃(n:Unit),topI l=(↑d:Int)∧True) (jL d b c)) (∃(e:Unit),topI l=(-1)∧True)
open Go Cv Go.Proofs
theorem yHw:topFC.ok Tryz.prog 253:=okw (V:=yKb) mixed gok0 0 (fun _=>[]) (fun _=>[]) [] Tryz.func253 fun(o:zI) _=>by
 unfold yKb
 exact⟨(),rfl,trivial⟩
theorem zWt (i:PlI):(kW i).length=i.l.length∨kW i=[]:=by
 rw[kW]
 split
 ·left;rw[PlI.p1,lK,List.length_zip,zZk];simp
 ·exact .inr rfl
theorem yMp {l:List zI} {k:Nat} {o:zI} (h:l[k]? =some o):zE (l.map wL) k 0 5=some [D.v (.int .i64 o.id),.v (.int .i64 o.side),.v (.int .i64 o.price),.v (.int .i64 o.qty),.v (.bool o.top)]:=elA h (by simp[wL]) rfl
theorem yGm (l:List zI) (h:idxOrdC.cnd l):z0r l:=by
 have h:l.length≤1000000:=h
 unfold z0r jL kI dI
 simp only[yVk]
 refine⟨0,rfl,fun j=>j≤l.length∧∀k<j,∀x,l[k]? =some x→x.top=false,fun j=>l.length-j,⟨by omega,fun k hk=>by omega⟩,?_⟩
 rintro j ⟨h3,h4⟩
 refine zJ (fun hj=> ?_) (fun hj=> ?_)
 ·obtain⟨s,hs⟩:=yD (l:=l) (i:=j) (by omega)
  refine⟨⟨by omega,by omega⟩,s.id,s.side,s.price,s.qty,s.top,yMp hs,s,rfl,rfl,rfl,rfl,rfl,trivial,fun _ _=>Cv.cnd.mk (fun e=> ?_) (fun e=> ?_)⟩
  ·rw[topI,zDc hs e h4];(repeat'(first|exact rfl|exact trivial|assumption|apply And.intro|refine fun(_:Unit) (_:True)=>?_|refine Exists.intro () ?_|omega|(dsimp only;omega)))
  ·refine⟨j+1,by rw[w64 (by omega)];rfl,⟨by omega,fun k hk x hx=> ?_⟩,by(first|omega|(dsimp only;omega)),by(repeat'(first|exact trivial|exact rfl|apply And.intro))⟩
   rcases yXv k j with hk'|hk'
   ·exact h4 k hk' x hx
   ·obtain rfl:k=j:=by omega
    rw[hs]at hx;cases hx;exact e
 ·rw[topI,zFc fun k x hx=>h4 k (by have:=(yVn.1 hx).1;omega) x hx];(repeat'(first|exact rfl|exact trivial|assumption|apply And.intro|refine fun(_:Unit) (_:True)=>?_|refine Exists.intro () ?_|omega|(dsimp only;omega)))
theorem z5g:idxOrdC.ok Tryz.prog 252:=okw mixed (gokc yHw gok0) 0 (fun _=>[]) (fun l=>yEd l) [] Tryz.func252 yGm
theorem yCi (i:RsI) (j:Nat):i.idx (j+1)=i.idx j++if i.out.getD j 0<i.l.getD j 0 then[j]else[]:=by
 rw[RsI.idx,yZz,yZe]
 by_cases h:i.out.getD j 0<i.l.getD j 0
 ·rw[yVl h,y0d (by simpa using h)];rfl
 ·rw[yVj h,y0e (by simpa using h)];rfl
theorem yLc (i:RsI) {k n:Nat} (h:n∈i.idx k):n<k:=by
 have:=(yXl.1 h).1
 exact yYh.1 this
theorem z2q (i:RsI) (k:Nat):(i.idx k).length≤k:=by
 have:=yYq (fun n=>decide (i.out.getD n 0<i.l.getD n 0)) (List.range k)
 rw[List.length_range]at this
 exact this
theorem zWc:∀(z:List (Nat×Int)) (o:List Int),(z.foldl (fun o y=>o.set y.1 (IntKind.i64.wrap (o.getD y.1 0+y.2))) o).length=o.length
 |[],_=>rfl
 |y::z,o=>by rw[yYv,zWc z,yWq]
theorem yPg (i:RsI) (h:restC.cnd i):yIx i:=by
 obtain⟨hl,ho,hq,hle,hb⟩:i.ok:=h
 unfold yIx dI
 simp only[xD,yVk]
 have hil:∀j,(i.left j).length=(i.idx j).length:=fun j=>yVk _
 refine⟨0,by(first|exact rfl|exact trivial),by(first|exact rfl|exact trivial),by(first|exact rfl|exact trivial),fun j=>j≤i.l.length,fun j=>i.l.length-j,yXf _,fun j hj=>zJ (fun c=> ?_) (fun c=> ?_)⟩
 ·have hj':j<i.l.length:=by omega
  obtain⟨n,hn⟩:=yD (l:=i.l) (i:=j) hj'
  obtain⟨o,hoo⟩:=yD (l:=i.out) (i:=j) (by omega)
  have bj:=hb j
  rw[zT hn,zT hoo]at bj
  have is:=yCi i j
  rw[zT hn,zT hoo]at is
  have il:=z2q i j
  refine⟨⟨by omega,by omega⟩,n,elI hn,⟨by omega,by omega⟩,o,elI hoo,zJ (fun a=> ?_) (fun a=> ?_)⟩
  ·rw[yVl (by omega)]at is
   refine⟨⟨by omega,by omega⟩,n,elI hn,⟨by omega,by omega⟩,o,elI hoo,by rw[hil];omega,by omega,j+1,wjn (by omega),?_,?_,hj',by dsimp only;omega,by(repeat'(first|exact trivial|exact rfl|apply And.intro))⟩
   ·rw[w64 (by omega),RsI.left,is,yVu]
    simp[iE,RsI.left,hn,hoo]
   ·rw[is];simp[iE]
  ·rw[yVj (by omega),yWg]at is
   exact⟨j+1,wjn (by omega),by rw[RsI.left,is];rfl,by rw[is],hj',by dsimp only;omega,by(repeat'(first|exact trivial|exact rfl|apply And.intro))⟩
 have hje:j=i.l.length:=by omega
 subst hje
 have il:=z2q i i.l.length
 refine⟨⟨i.left i.l.length,i.least,i.q⟩,rfl,rfl,rfl,⟨by dsimp only;rw[hil];omega,hq,hle⟩,fun _ _=> ?_⟩
 have epl:kW ⟨i.left i.l.length,i.least,i.q⟩=i.pl:=rfl
 rw[epl]
 have hpl:i.pl.length≤(i.idx i.l.length).length:=by
  rcases zWt ⟨i.left i.l.length,i.least,i.q⟩with e|e
  ·rw[epl]at e;rw[e];dsimp only;rw[hil];exact yWj _
  ·rw[epl]at e;rw[e];exact yXf _
 have hal:∀k,(i.add k).length=i.out.length:=fun k=>zWc _ _
 refine⟨0,by(first|exact rfl|exact trivial),by(first|exact rfl|exact trivial),fun k=>k≤i.pl.length,fun k=>i.pl.length-k,yXf _,fun k hk=>zJ (fun c=> ?_) (fun c=> ?_)⟩
 ·have hk':k<i.pl.length:=by omega
  obtain⟨x,hx⟩:=yD (l:=i.pl) (i:=k) hk'
  obtain⟨n,hn⟩:=yD (l:=i.idx i.l.length) (i:=k) (by omega)
  have hnl:=yLc i (yVv hn)
  obtain⟨y,hy⟩:=yD (l:=i.add k) (i:=n) (by rw[hal];omega)
  have ea:i.add (k+1)=(i.add k).set n (IntKind.i64.wrap (y+x)):=by
   have hz:((i.idx i.l.length).zip i.pl)[k]? =some (n,x):=by rw[yZu];exact⟨hn,hx⟩
   have ey:(i.add k).getD n 0=y:=zT hy
   rw[RsI.add,yWs,hz,y0t]
   show(i.add k).set n (IntKind.i64.wrap ((i.add k).getD n 0+x))=_
   rw[ey]
  have hnm:((i.idx i.l.length).map fun(n:Nat)=>(n:Int))[k]? =some (n:Int):=by rw[yWt,hn];rfl
  rw[hal]
  refine⟨⟨by omega,by omega⟩,x,elI hx,⟨by omega,by omega⟩,n,elI hnm,⟨by omega,by omega⟩,y,elI hy,⟨by omega,by omega⟩,by omega,k+1,wjn (by omega),?_,hk',by dsimp only;omega,by(repeat'(first|exact trivial|exact rfl|apply And.intro))⟩
  rw[ea,yWb,zPw hy]
 ·have hke:k=i.pl.length:=by omega
  subst hke
  exact⟨(),rfl,trivial⟩
theorem z2n:restC.ok Tryz.prog 277:=okw mixed (gokc yBf gok0) 0 (fun _=>[]) (fun i=>ySb i) [] Tryz.func277 yPg
open Go Cv Go.Proofs
structure PsI where
 l:List Int
 top:Int
 most:Int
 least:Int
 q:Int
def PsI.first (i:PsI):Int:=min (min (i.l.getD i.top.toNat 0) i.most) i.q
def PsI.rs (i:PsI):RsI:=if 0≤i.top∧i.top<i.l.length then⟨i.l,(List.replicate i.l.length 0).set i.top.toNat i.first,i.least,i.q-i.first⟩else⟨i.l,List.replicate i.l.length 0,i.least,i.q⟩
def zBj (i:PsI):List Int:=if yS i.l i.q=true∧1≤i.least∧0≤i.most then mG i.rs else[]
def proC:Con:=con1 PsI (fun i=>[iV i.l,zA i.top,zA i.most,zA i.least,zA i.q]) (fun _=>[]) (fun i=>i.l.length≤1000000∧yO i.q∧yO i.least∧yO i.most) (fun _=> .own 0) (fun i=>[.own 2 1 (iE (zBj i))])
structure SpI where
 l:List Int
 part:Int
 least:Int
 q:Int
def SpI.rs (i:SpI):RsI:=⟨i.l,uQ i.l (i.q*i.part / 100),i.least,i.q-i.q*i.part / 100⟩
def lY (i:SpI):List Int:=if yS i.l i.q=true∧0≤i.part∧i.part≤100∧1≤i.least then mG i.rs else[]
def splC:Con:=con1 SpI (fun i=>[iV i.l,zA i.part,zA i.least,zA i.q]) (fun _=>[]) (fun i=>i.l.length≤1000000∧yO i.q∧yO i.least∧yO i.part) (fun _=> .own 0) (fun i=>[.own 2 1 (iE (lY i))])
open Go Cv Go.Proofs
def zBu (a:RsI):Prop:=a.l.length≤250∧a.out.length=a.l.length∧((-9223372036854775808)≤a.q∧a.q≤9223372036854775807)∧((-9223372036854775808)≤a.least∧a.least≤9223372036854775807)∧∀(b:Nat),0≤a.out.getD b 0∧a.out.getD b 0≤a.l.getD b 0∧a.l.getD b (0:Int)≤(1000000:Int)
def zKv (a:RsI) (b:PsI):Prop:=(zBu a)∧∀(c:Unit),True→∃(d:Unit),iE (zBj b)=iE (mG a)∧True
def zIp (a:PsI):Prop:=∃(b:RsI),iE b.l=iE a.l∧b.least=a.least∧b.q=a.q∧iE b.out=List.replicate (↑(iE a.l).length:Int).toNat [dI 0]∧zKv b a
def rR (a:PsI):=(List.replicate (↑(iE a.l).length:Int).toNat [dI 0])
def zIi (a:PsI) (b:Int):=(yH (rR a) a.top.toNat 0 [dI (min (min b a.most) a.q)])
def yPk (i:PsI):Prop:=
 ∃(a:LqI),iE a.l=iE i.l∧a.q=i.q∧(jV a)∧∀(b:Unit),True→cnd (!yS a.l a.q) (∃(c:Unit),iE (zBj i)=[]∧True) (cnd (decide (i.least<1)) (∃(c:Unit),iE (zBj i)=[]∧True) (cnd (decide (i.most<0)) (∃(c:Unit),iE (zBj i)=[]∧True) ((0≤(↑(iE i.l).length:Int)∧(↑(iE i.l).length:Int)≤(↑(iE i.l).length:Int)∧(↑(iE i.l).length:Int)≤9223372036854775807∧(↑(8:Nat):Int)*(↑(iE i.l).length:Int)≤2 ^ (48:Nat))∧cnd (decide (i.top≥0)) (cnd (decide (i.top<(↑(iE i.l).length:Int))) ((0≤i.top∧i.top<(↑(iE i.l).length:Int))∧∃(c:Int),zE (iE i.l) i.top.toNat 0 1=some [dI c]∧(0≤i.top∧i.top<(↑(rR i).length:Int))∧i.top.toNat<(rR i).length∧(0≤i.top∧i.top<(↑(zIi i c).length:Int))∧∃(d:Int),zE (zIi i c) i.top.toNat 0 1=some [dI d]∧∃(e:RsI),iE e.l=iE i.l∧e.least=i.least∧e.q=IntKind.i64.wrap (i.q-d)∧iE e.out=yH (rR i) i.top.toNat 0 [dI (min (min c i.most) i.q)]∧zKv e i) (zIp i)) (zIp i))))
def yTa (i:SpI):Prop:=
 ∃(a:LqI),iE a.l=iE i.l∧a.q=i.q∧(jV a)∧∀(b:Unit),True→cnd (!yS a.l a.q) (∃(c:Unit),iE (lY i)=[]∧True) (cnd (decide (i.part<0)) (∃(c:Unit),iE (lY i)=[]∧True) (cnd (decide (i.part>100)) (∃(c:Unit),iE (lY i)=[]∧True) (cnd (decide (i.least<1)) (∃(c:Unit),iE (lY i)=[]∧True) (∃(c:ShI),c.a=i.q∧c.b=i.part∧c.c=100∧(0≤c.a∧c.a≤(2000000000:Int)∧(0:Int)≤c.b∧c.b≤(2000000000:Int)∧(1:Int)≤c.c∧c.c≤2000000000)∧∀(d:Unit),True→∃(e:LqI),iE e.l=iE i.l∧e.q=c.a*c.b / c.c∧(jV e)∧∀(f:Unit),True→∃(g:RsI),iE g.l=iE i.l∧g.least=i.least∧g.q=IntKind.i64.wrap (i.q-c.a*c.b / c.c)∧iE g.out=iE (uQ e.l e.q)∧(zBu g)∧∀(h:Unit),True→∃(j:Unit),iE (lY i)=iE (mG g)∧True))))
end Sx
