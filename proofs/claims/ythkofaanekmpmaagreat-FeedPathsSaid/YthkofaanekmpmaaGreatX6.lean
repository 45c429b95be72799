/- Texts of ours, one behind the other: a walk that the kernel reckons, and contracts of functions. No condition. -/
import Derived.Laws.Externs
import Derived.Test.YthkofaanekmpmaaGreatX5
namespace Sx
set_option linter.unusedVariables false
set_option maxRecDepth 100000
open Go Cv Go.Proofs
def aU (a:Bool→Prop) (b:Bool) (c:List UInt8) (d:Nat×Nat):Prop:=a b∧Sx.AObj.iter (sb c) (d.fst+(Utf8.decode (sb c) d.fst).snd)=Sx.AObj.iter (sb c) (d.fst+(Utf8.decode (sb c) d.fst).snd)
def x3 (a:List UInt8) (b:Nat×Nat):=(↑(Utf8.decode (sb a) b.fst).fst:Int)
def tQ (a:List UInt8) (b:Nat×Nat) (c:Bool→Prop):Prop:=∃(d:Bool),d=!(x3 a b) !=930∧aU c d a b
def cB (a:Bool→Prop) (b:List UInt8) (c:Nat×Nat):Prop:=∃(d:Bool),d=!false∧aU a d b c
def z1z (s:List UInt8):Prop:=
 ∃(a:Nat×Nat),(↑a.snd:Int)=0∧sb s=sb s∧a.fst=0∧∃(b:Nat×Nat→Prop),∃(c:Nat×Nat→Nat),b a∧∀(d:Nat×Nat),b d→cnd (d.fst.blt (sb s).size) (∃(e:Bool),∃(f:Bool→Prop),cnd (decide ((x3 s d)≥65)) (cnd (decide ((x3 s d)≤90)) (∃(g:Bool),g=!true∧aU f g s d) (cnd (decide ((x3 s d)≥913)) (cnd (decide ((x3 s d)≤937)) (tQ s d f) (cB f s d)) (cB f s d))) (cnd (decide ((x3 s d)≥913)) (cnd (decide ((x3 s d)≤937)) (tQ s d f) (cB f s d)) (cB f s d))∧∀(g:Bool),f g→cnd g (∃(h:Unit),j5 s=false∧True) (fX d s b c)) (cnd (decide ((↑d.snd:Int)≥1)) (∃(e:Unit),j5 s=decide ((↑d.snd:Int)≤4)∧True) (∃(e:Unit),j5 s=false∧True))
def mP (a:Prd):Prop:=Sx.AObj.cells [V.d (uE a),V.own 0,V.d (dI a.tick),V.d (dI a.low),V.d (dI a.high),V.d (dI a.wide),V.d (dI a.rule),V.d (dI a.top),V.d (dI a.least),V.d (dI a.part),V.own ((0:Nat)+(1:Nat))] 25=Sx.AObj.cells [V.d (uE a),V.own 0,V.d (dI a.tick),V.d (dI a.low),V.d (dI a.high),V.d (dI a.wide),V.d (dI a.rule),V.d (dI a.top),V.d (dI a.least),V.d (dI a.part),V.own ((0:Nat)+(1:Nat))] 25∧bD a
def tN (a:Nat) (b:Nat→Prop) (c:Nat→Nat) (d:Prd):Prop:=∃(e:Nat),(↑e:Int)=IntKind.i64.wrap ((↑a:Int)+1)∧b e∧c e<c a∧mP d
def sM (a:Bool→Prop) (b:Prd) (c:Nat) (d:Nat→Prop) (e:Nat→Nat):Prop:=∀(f:Bool),a f→cnd f (∃(g:Unit),b.check=1∧True) (tN c d e b)
def kD (a:Bool→Prop) (b:Bool) (c:Prd):Prop:=a b∧mP c
def yU (a:Bool→Prop) (b:Prd):Prop:=∃(c:Bool),c=true∧kD a c b
def zUu (p:Prd):Prop:=
 ∃(a:List UInt8),sb a=sb p.code∧a.length≤1099511627776∧∀(b:Unit),True→cnd (!j5 a) (∃(c:Unit),p.check=12∧True) (∃(c:Bool),∃(d:Bool→Prop),cnd (decide ((xB p)<2)) (yU d p) (∃(e:Bool),e=decide ((xB p)>6)∧kD d e p)∧∀(e:Bool),d e→cnd e (∃(f:Unit),p.check=1∧True) (∃(f:Nat),(↑f:Int)=0∧∃(g:Nat→Prop),∃(h:Nat→Nat),g f∧∀(j:Nat),g j→cnd (decide ((↑j:Int)<(xB p))) (∃(k:Bool),∃(l:Bool→Prop),((0≤(↑j:Int)∧(↑j:Int)<(xB p))∧∃(m:Int),zF (iE p.months) (↑j:Int).toNat 0 1=some [dI m]∧cnd (decide (m<0)) (yU l p) ((0≤(↑j:Int)∧(↑j:Int)<(xB p))∧∃(n:Int),zF (iE p.months) (↑j:Int).toNat 0 1=some [dI n]∧cnd (decide (n>1199)) (yU l p) (cnd (decide ((↑j:Int)>0)) ((0≤IntKind.i64.wrap ((↑j:Int)-1)∧IntKind.i64.wrap ((↑j:Int)-1)<(xB p))∧∃(q:Int),zF (iE p.months) (IntKind.i64.wrap ((↑j:Int)-1)).toNat 0 1=some [dI q]∧(0≤(↑j:Int)∧(↑j:Int)<(xB p))∧∃(r:Int),zF (iE p.months) (↑j:Int).toNat 0 1=some [dI r]∧∃(s:Bool),s=decide (q≥r)∧kD l s p) (∃(q:Bool),q=false∧kD l q p))))∧sM l p j g h) (∃(k:Bool),∃(l:Bool→Prop),cnd (decide (p.tick<1)) (yU l p) (cnd (decide (p.tick>1000)) (yU l p) (IntKind.i64=IntKind.i64∧p.tick≠0∧cnd (p.low.tmod p.tick !=0) (yU l p) (IntKind.i64=IntKind.i64∧p.tick≠0∧cnd (p.high.tmod p.tick !=0) (yU l p) (IntKind.i64=IntKind.i64∧p.tick≠0∧∃(m:Bool),m=(p.wide.tmod p.tick !=0)∧kD l m p))))∧∀(m:Bool),l m→cnd m (∃(n:Unit),p.check=22∧True) (∃(n:Nat),(↑n:Int)=0∧∃(q:Nat→Prop),∃(r:Nat→Nat),q n∧∀(s:Nat),q s→cnd (decide ((↑s:Int)<(wP p))) ((0≤(↑s:Int)∧(↑s:Int)<(wP p))∧∃(t:Int),zF (iE p.settle) (↑s:Int).toNat 0 1=some [dI t]∧IntKind.i64=IntKind.i64∧p.tick≠0∧cnd (t.tmod p.tick !=0) (∃(u:Unit),p.check=22∧True) (tN s q r p)) (∃(t:Bool),∃(u:Bool→Prop),cnd (decide (p.low<(-1000000))) (yU u p) (cnd (decide (p.low≥p.high)) (yU u p) (cnd (decide (p.high>1000000)) (yU u p) (cnd (decide (p.wide<0)) (yU u p) (∃(v:Bool),v=decide (p.wide>IntKind.i64.wrap (p.high-p.low))∧kD u v p))))∧∀(v:Bool),u v→cnd v (∃(w:Unit),p.check=23∧True) (cnd ((wP p) !=(xB p)) (∃(w:Unit),p.check=1∧True) (∃(w:Nat),(↑w:Int)=0∧∃(x:Nat→Prop),∃(y:Nat→Nat),x w∧∀(z:Nat),x z→cnd (decide ((↑z:Int)<(wP p))) (∃(a_1:Bool),∃(a_2:Bool→Prop),((0≤(↑z:Int)∧(↑z:Int)<(wP p))∧∃(a_3:Int),zF (iE p.settle) (↑z:Int).toNat 0 1=some [dI a_3]∧cnd (decide (a_3<p.low)) (yU a_2 p) ((0≤(↑z:Int)∧(↑z:Int)<(wP p))∧∃(a_4:Int),zF (iE p.settle) (↑z:Int).toNat 0 1=some [dI a_4]∧∃(a_5:Bool),a_5=decide (a_4>p.high)∧kD a_2 a_5 p))∧sM a_2 p z x y) (∃(a_1:Bool),∃(a_2:Bool→Prop),cnd (decide (p.rule<1)) (yU a_2 p) (∃(a_3:Bool),a_3=decide (p.rule>3)∧kD a_2 a_3 p)∧∀(a_3:Bool),a_2 a_3→cnd a_3 (∃(a_4:Unit),p.check=31∧True) (∃(a_4:Bool),∃(a_5:Bool→Prop),cnd (decide (p.top<0)) (yU a_5 p) (cnd (decide (p.top>1000000)) (yU a_5 p) (cnd (decide (p.least<1)) (yU a_5 p) (cnd (decide (p.least>1000)) (yU a_5 p) (cnd (decide (p.part<0)) (yU a_5 p) (∃(a_6:Bool),a_6=decide (p.part>100)∧kD a_5 a_6 p)))))∧∀(a_6:Bool),a_5 a_6→cnd a_6 (∃(a_7:Unit),p.check=24∧True) (∃(a_7:Unit),p.check=0∧True))))))))))
def zWr (p:Prd):Prop:=
 ∃(a:Prd),rN a p
def gN (a:cI) (b:Nat×Nat):=(↑(yK a.p.months.length b.fst+b.snd):Int)
def z3k (i:cI):Prop:=
 ∃(a:Prd),sb a.code=sb i.p.code∧iE a.months=iE i.p.months∧a.tick=i.p.tick∧a.low=i.p.low∧a.high=i.p.high∧a.wide=i.p.wide∧a.rule=i.p.rule∧a.top=i.p.top∧a.least=i.p.least∧a.part=i.p.part∧iE a.settle=iE i.p.settle∧(zY a)∧∀(b:Unit),True→cnd (a.check !=0) (gJ i) (cnd (decide (i.n<0)) (gJ i) (cnd (decide (i.n<(wW i))) (eG i) (∃(c:Nat),(v8 i c)=(wW i)∧(↑c:Int)=0∧∃(d:Nat→Prop),∃(e:Nat→Nat),d c∧∀(f:Nat),d f→cnd (decide ((↑f:Int)<(wW i))) (∃(g:Nat×Nat),(gN i g)=(v8 i f)∧(↑g.fst:Int)=(↑f:Int)∧(↑(g.fst+1+g.snd):Int)=IntKind.i64.wrap ((↑f:Int)+1)∧∃(h:Nat×Nat→Prop),∃(j:Nat×Nat→Nat),h g∧∀(k:Nat×Nat),h k→cnd (decide ((↑(k.fst+1+k.snd):Int)<(wW i))) (cnd ((gN i k)==i.n) (∃(l:Unit),(i.p.legs i.n).fst=(↑k.fst:Int)∧(i.p.legs i.n).snd.fst=(↑(k.fst+1+k.snd):Int)∧(i.p.legs i.n).snd.snd=true∧True) (∃(l:Nat×Nat),(gN i l)=IntKind.i64.wrap ((gN i k)+1)∧(↑l.fst:Int)=(↑k.fst:Int)∧(↑(l.fst+1+l.snd):Int)=IntKind.i64.wrap ((↑(k.fst+1+k.snd):Int)+1)∧h l∧j l<j k∧rG i)) (∃(l:Nat),(v8 i l)=(gN i k)∧(↑l:Int)=IntKind.i64.wrap ((↑k.fst:Int)+1)∧zCz d l e f i)) (gJ i))))
def yO (a:WiI):Prop:=((-9223372036854775808)≤a.n∧a.n≤9223372036854775807)∧(-1000000)≤a.lo∧a.lo≤a.hi∧a.hi≤1000000
def xX (a:WiI):=(1+zI a.n a.lo a.hi)
def vJ:=(D.v (Value.slice none 0 0))
def dC:=(D.v (Value.string (ByteArray.mk #[])))
def zGq (a:Prd):Prop:=Sx.AObj.cells (Sx.V.agg [V.d dC,V.d vJ,V.d (dI 0),V.d (dI 0),V.d (dI 0),V.d (dI 0),V.d (dI 0),V.d (dI 0),V.d (dI 0),V.d (dI 0),V.d vJ]).cl 25=Sx.AObj.cells (Sx.V.agg [V.d dC,V.d vJ,V.d (dI 0),V.d (dI 0),V.d (dI 0),V.d (dI 0),V.d (dI 0),V.d (dI 0),V.d (dI 0),V.d (dI 0),V.d vJ]).cl 25∧mP a
def zGh (a:Prd) (b:WiI) (c:WiI) (d:WiI) (e:WiI) (f:Unit→Prop):Prop:=∃(g:WiI),g.n=a.part∧g.lo=0∧g.hi=100∧(yO g)∧∀(h:Unit),True→∃(j:Unit),sb [(206:UInt8),(169:UInt8)]=ByteArray.mk #[(206:UInt8),(169:UInt8)]∧True∧yF a=IntKind.i64.wrap (xX b)∧(-20)*yF a=IntKind.i64.wrap ((-20)*IntKind.i64.wrap (xX b))∧100*yF a=IntKind.i64.wrap (100*IntKind.i64.wrap (xX b))∧(0:Int)=(0:Int)∧1+zI a.rule 0 2=IntKind.i64.wrap (xX c)∧zI a.top 0 9=zI d.n d.lo d.hi∧1+zI a.least 0 4=IntKind.i64.wrap (xX e)∧zI a.part 0 100=zI g.n g.lo g.hi∧True∧f j∧zGq a
def zFt (a:Prd) (b:WiI) (c:WiI) (d:WiI) (e:WiI) (f:Unit→Prop):Prop:=a.part=a.part∧zGh a b c d e f
def zFy (a:Prd) (b:WiI) (c:WiI) (d:WiI) (e:Unit→Prop):Prop:=a.part=a.part∧a.least=a.least∧∃(f:WiI),f.n=a.least∧f.lo=0∧f.hi=4∧(yO f)∧∀(g:Unit),True→zFt a b c d f e
def zEc (a:Prd) (b:WiI) (c:WiI) (d:Unit→Prop):Prop:=a.part=a.part∧a.least=a.least∧a.top=a.top∧∃(e:WiI),e.n=a.top∧e.lo=0∧e.hi=9∧(yO e)∧∀(f:Unit),True→zFy a b c e d
def jN (a:Prd):=(5+zI a.wide 0 60)
def yEe (x:Prd):Prop:=
 ∃(a:WiI),a.n=(xB x)∧a.lo=0∧a.hi=3∧(yO a)∧∀(b:Unit),True→∃(c:WiI),c.n=x.tick∧c.lo=0∧c.hi=9∧(yO c)∧∀(d:Unit),True→∃(e:Unit),∃(f:Unit→Prop),((∃(g:WiI),g.n=x.rule∧g.lo=0∧g.hi=2∧(yO g)∧∀(h:Unit),True→x.part=x.part∧x.least=x.least∧x.top=x.top∧(∃(j:WiI),j.n=x.top∧j.lo=0∧j.hi=9∧(yO j)∧∀(k:Unit),True→x.part=x.part∧x.least=x.least∧(∃(l:WiI),l.n=x.least∧l.lo=0∧l.hi=4∧(yO l)∧∀(m:Unit),True→x.part=x.part∧(zGh x c g j l f)∧zFt x c g j l f)∧zFy x c g j f)∧zEc x c g f)∧x.part=x.part∧x.least=x.least∧x.top=x.top∧x.rule=x.rule∧∃(g:WiI),g.n=x.rule∧g.lo=0∧g.hi=2∧(yO g)∧∀(h:Unit),True→zEc x c g f)∧∀(g:Unit),f g→∃(h:WiI),h.n=x.wide∧h.lo=0∧h.hi=60∧(yO h)∧∀(j:Unit),True→∃(k:Nat),(↑k:Int)=0∧sb [(206:UInt8),(169:UInt8)]=sb [(206:UInt8),(169:UInt8)]∧yF x=yF x∧(-20)*yF x=(-20)*yF x∧100*yF x=100*yF x∧yF x*(jN x)=IntKind.i64.wrap (IntKind.i64.wrap (xX c)*IntKind.i64.wrap (5+zI h.n h.lo h.hi))∧1+zI x.rule 0 (2:Int)=(1:Int)+zI x.rule 0 2∧zI x.top 0 9=zI x.top 0 (9:Int)∧(1:Int)+zI x.least 0 (4:Int)=(1:Int)+zI x.least 0 4∧zI x.part 0 100=zI x.part 0 100∧iE (qZ k)=[]∧iE (qE (yF x) k)=[]∧∃(l:Nat→Prop),∃(m:Nat→Nat),l k∧∀(n:Nat),l n→cnd (decide ((↑n:Int)<IntKind.i64.wrap (2+zI a.n a.lo a.hi))) (((iE (qZ n)).length+1)*(8:Nat)≤(140737488355328:Nat)∧((iE (qE (yF x) n)).length+1)*(8:Nat)≤(140737488355328:Nat)∧∃(p:Nat),(↑p:Int)=IntKind.i64.wrap ((↑n:Int)+1)∧sb [(206:UInt8),(169:UInt8)]=sb [(206:UInt8),(169:UInt8)]∧yF x=yF x∧(-20)*yF x=(-20)*yF x∧100*yF x=100*yF x∧yF x*(jN x)=yF x*(jN x)∧1+zI x.rule 0 (2:Int)=(1:Int)+zI x.rule 0 2∧zI x.top 0 9=zI x.top 0 (9:Int)∧(1:Int)+zI x.least 0 (4:Int)=(1:Int)+zI x.least 0 4∧zI x.part 0 100=zI x.part 0 100∧iE (qZ p)=iE (qZ n)++[[dI (IntKind.i64.wrap (IntKind.i64.wrap (10*(↑n:Int))+3))]]∧iE (qE (yF x) p)=iE (qE (yF x) n)++[[dI (IntKind.i64.wrap (IntKind.i64.wrap (xX c)*IntKind.i64.wrap (10+(↑n:Int))))]]∧l p∧m p<m n∧zGq x) (∃(p:Unit),sb [(206:UInt8),(169:UInt8)]=sb [(206:UInt8),(169:UInt8)]∧iE (qZ (kN x).toNat)=iE (qZ n)∧yF x=yF x∧(-20)*yF x=(-20)*yF x∧100*yF x=100*yF x∧yF x*(jN x)=yF x*(jN x)∧1+zI x.rule 0 (2:Int)=(1:Int)+zI x.rule 0 2∧zI x.top 0 9=zI x.top 0 (9:Int)∧(1:Int)+zI x.least 0 (4:Int)=(1:Int)+zI x.least 0 4∧zI x.part 0 100=zI x.part 0 100∧iE (qE (yF x) (kN x).toNat)=iE (qE (yF x) n)∧True)
set_option linter.unusedSimpArgs false
open Go Cv Go.Proofs
theorem yJn (s:List UInt8) (h:r3prodC.cnd s):z1z s:=by
 have h:s.length≤1099511627776:=h
 have hr:=zEs s
 unfold z1z cB tQ x3 aU fX
 refine⟨(0,0),rfl,rfl,rfl,fun x=>x.1≤s.length∧x.2+(u9 s x.1).length=(kP s).length∧(kP s).all uR=((u9 s x.1).all fun y=>uR y.2),fun x=>s.length-x.1,⟨by omega,by rw[kP,yWm];simp,by rw[kP,List.all_map];rfl⟩,?_⟩
 rintro⟨p,n⟩ ⟨h1,h2,h3⟩
 dsimp only at h1 h2 h3 ⊢
 refine Cv.cnd.mk (fun hp=> ?_) (fun hp=> ?_)
 ·have hp:p<s.length:=by simpa[yZs]using hp
  have hw:=bY s hp
  rw[wI hp,yWs]at h2
  rw[wI hp,List.all_cons]at h3
  generalize hc:(Utf8.decode (sb s) p).1=c at h2 h3 ⊢
  generalize hww:(Utf8.decode (sb s) p).2=w at h2 h3 hw ⊢
  dsimp only at h3
  have g0:∀b:Bool,(b=true→uR c=true)→(b=false→uR c=false)→b=uR c:=fun b e1 e2=>by cases b<;>simp_all
  refine⟨true,fun b=>b= !uR c,?_,fun b hb=> ?_⟩
  ·refine zK (fun c1=>zK (fun c2=>⟨_,rfl,?_,by(repeat'(first|exact trivial|exact rfl|apply And.intro))⟩) (fun c2=>zK (fun c3=>zK (fun c4=>⟨_,rfl,?_,by(repeat'(first|exact trivial|exact rfl|apply And.intro))⟩) (fun c4=>⟨_,rfl,?_,by(repeat'(first|exact trivial|exact rfl|apply And.intro))⟩)) (fun c3=>⟨_,rfl,?_,by(repeat'(first|exact trivial|exact rfl|apply And.intro))⟩))) (fun c1=>zK (fun c3=>zK (fun c4=>⟨_,rfl,?_,by(repeat'(first|exact trivial|exact rfl|apply And.intro))⟩) (fun c4=>⟨_,rfl,?_,by(repeat'(first|exact trivial|exact rfl|apply And.intro))⟩)) (fun c3=>⟨_,rfl,?_,by(repeat'(first|exact trivial|exact rfl|apply And.intro))⟩))
   all_goals congr 1
   all_goals refine g0 _ (fun e=> ?_) (fun e=> ?_)
   all_goals first|(simp[uR]at*;done)|(simp[uR]at*;omega)
  ·subst hb
   refine Cv.cnd.mk (fun e=>⟨(),?_,trivial⟩) (fun e=>⟨(p+w,n+1),?_,rfl,rfl,⟨hw.2,by(first|omega|(dsimp only;omega)),?_⟩,by(first|omega|(dsimp only;omega)),trivial⟩)
   ·have e:uR c=false:=by simpa using e
    rw[j5,h3,e];rfl
   ·rw[w64 (by omega)];rfl
   ·have e:uR c=true:=by simpa using e
    rw[h3,e];rfl
 ·have hp:s.length≤p:=by have:=z4n hp;simpa using this
  rw[fV hp]at h2 h3
  have h3:(kP s).all uR=true:=h3
  have hn:n=(kP s).length:=by simpa using h2
  have hne:(s=[])↔(kP s).length=0:=by
   constructor
   ·intro e;subst e;rfl
   ·intro e
    cases s with
    |nil=>rfl
    |cons b l=>
     rw[kP,yWm,wI (by simp)]at e
     simp at e
  refine zK (fun c=>⟨(),?_,trivial⟩) (fun c=>⟨(),?_,trivial⟩)
  ·have:¬s=[]:=by rw[hne];omega
   rw[j5,h3,yXb this,hn]
   simp only[yZl]
   congr 1
   simp only[eq_iff_iff];omega
  ·have:s=[]:=by rw[hne];omega
   rw[j5,this];rfl
theorem z6a:r3prodC.ok Tryz.prog 212:=okw mixed gok0 0 (fun _=>yGk) (fun s=>yIo s) [] Tryz.func212 yJn
theorem pC:∀(l:List Int) (a:Int),l.foldl min a≤a∧∀x∈l,l.foldl min a≤x
 |[],a=>⟨y0b _,by simp⟩
 |b::l,a=>by
  obtain⟨h1,h2⟩:=pC l (min a b)
  rw[yZh]
  refine⟨by omega,fun x hx=> ?_⟩
  rcases yWz.1 hx with rfl|hx
  ·omega
  ·exact h2 x hx
theorem p7:∀(l:List Int) (a:Int),a≤l.foldl max a∧∀x∈l,x≤l.foldl max a
 |[],a=>⟨y0b _,by simp⟩
 |b::l,a=>by
  obtain⟨h1,h2⟩:=p7 l (max a b)
  rw[yZh]
  refine⟨by omega,fun x hx=> ?_⟩
  rcases yWz.1 hx with rfl|hx
  ·omega
  ·exact h2 x hx
theorem lU:∀(l:List Int) (a:Int),l.foldl min a=a∨l.foldl min a∈l
 |[],a=> .inl rfl
 |b::l,a=>by
  rw[yZh]
  rcases lU l (min a b)with h|h
  ·rcases Int.le_total a b with e|e
   ·left;rw[h];omega
   ·right;rw[h,show min a b=b by omega];exact yWr
  ·exact .inr (yWq _ h)
theorem lS:∀(l:List Int) (a:Int),l.foldl max a=a∨l.foldl max a∈l
 |[],a=> .inl rfl
 |b::l,a=>by
  rw[yZh]
  rcases lS l (max a b)with h|h
  ·rcases Int.le_total a b with e|e
   ·right;rw[h,show max a b=b by omega];exact yWr
   ·left;rw[h];omega
  ·exact .inr (yWq _ h)
theorem z3c {l:List Int} {x:Int} (h:x∈l):pY l≤x:=by
 cases l with
 |nil=>cases h
 |cons a l=>
  rw[pY,List.tail_cons,List.headD_cons]
  rcases yWz.1 h with rfl|h
  ·exact(pC l x).1
  ·exact(pC l a).2 x h
theorem z2t {l:List Int} {x:Int} (h:x∈l):x≤rW l:=by
 cases l with
 |nil=>cases h
 |cons a l=>
  rw[rW,List.tail_cons,List.headD_cons]
  rcases yWz.1 h with rfl|h
  ·exact(p7 l x).1
  ·exact(p7 l a).2 x h
theorem zWk {l:List Int} (h:l≠[]):pY l∈l:=by
 cases l with
 |nil=>exact absurd rfl h
 |cons a l=>
  rw[pY,List.tail_cons,List.headD_cons]
  rcases lU l a with h|h
  ·rw[h];exact yWr
  ·exact yWq _ h
theorem zVp {l:List Int} (h:l≠[]):rW l∈l:=by
 cases l with
 |nil=>exact absurd rfl h
 |cons a l=>
  rw[rW,List.tail_cons,List.headD_cons]
  rcases lS l a with h|h
  ·rw[h];exact yWr
  ·exact yWq _ h
theorem yCg (p:Prd) (h:r5checkC.cnd p):zUu p:=by
 obtain⟨h1,h2,h3⟩:p.small:=h
 unfold zUu yU kD sM tN mP uE bD xB wP dI
 simp only[xF]
 refine⟨p.code,rfl,h1,fun _ _=>Cv.cnd.mk (fun c1=>⟨(),by rw[Prd.check,yWl c1],trivial⟩) fun c1=> ?_⟩
 have c1:j5 p.code=true:=by simpa using c1
 have e1:p.check=if !xE p.months then 1 else if !qJ p then 22 else if qC p then 23 else if xG p then 1 else if kA p then 31 else if xU p then 24 else 0:=by
  rw[Prd.check,yWk (by simp[c1])]
 refine⟨true,fun b=>b=(decide (p.months.length<2)||decide (p.months.length>6)),zK (fun c=>⟨true,rfl,?_,by(repeat'(first|exact trivial|exact rfl|apply And.intro))⟩) (fun c=>⟨_,rfl,?_,by(repeat'(first|exact trivial|exact rfl|apply And.intro))⟩),fun b hb=> ?_⟩
 ·rw[yXb (show p.months.length<2 by omega)];rfl
 ·rw[yWx (show ¬p.months.length<2 by omega),y2j]
  congr 1;simp only[eq_iff_iff];omega
 subst hb
 refine Cv.cnd.mk (fun c2=> ?_) (fun c2=> ?_)
 ·have:xE p.months=false:=by
   simp only[y2k,yYm]at c2
   rw[xE]
   rcases c2 with c2|c2
   ·rw[yWx (show ¬2≤p.months.length by omega)];simp
   ·rw[yWx (show ¬p.months.length≤6 by omega)];simp
  exact⟨(),by rw[e1,yWl (by rw[this];rfl)],trivial⟩
 have c2:2≤p.months.length∧p.months.length≤6:=by
  simp only[y0x,decide_eq_false_iff_not]at c2;omega
 have em:xE p.months=(List.range p.months.length).all (qN p.months):=by
  rw[xE,yXb c2.1,yXb c2.2];simp
 refine⟨0,rfl,fun j=>j≤p.months.length∧∀k<j,qN p.months k=true,fun j=>p.months.length-j,⟨by omega,fun k hk=>by omega⟩,?_⟩
 rintro j ⟨g1,g2⟩
 refine zK (fun hj=> ?_) (fun hj=> ?_)
 ·obtain⟨m,hm⟩:=z6 (l:=p.months) (i:=j) (by omega)
  have hmj:p.months.getD j 0=m:=zT hm
  refine⟨true,fun b=>b= !qN p.months j,⟨⟨by omega,by omega⟩,m,elI hm,zK (fun c=>⟨true,rfl,?_,by(repeat'(first|exact trivial|exact rfl|apply And.intro))⟩) (fun c=>⟨⟨by omega,by omega⟩,m,elI hm,zK (fun d=>⟨true,rfl,?_,by(repeat'(first|exact trivial|exact rfl|apply And.intro))⟩) (fun d=>zK (fun e=> ?_) (fun e=>⟨false,rfl,?_,by(repeat'(first|exact trivial|exact rfl|apply And.intro))⟩))⟩)⟩,fun b hb=> ?_⟩
  ·rw[qN,hmj,yWx (show ¬0≤m by omega)];rfl
  ·rw[qN,hmj,yWx (show ¬m≤1199 by omega)];simp
  ·obtain⟨m',hm'⟩:=z6 (l:=p.months) (i:=j-1) (by omega)
   rw[w64 (by omega),show((j:Int)-1).toNat=j-1 by omega]
   refine⟨⟨by omega,by omega⟩,m',elI hm',⟨by omega,by omega⟩,m,elI hm,_,rfl,?_,by(repeat'(first|exact trivial|exact rfl|apply And.intro))⟩
   rw[qN,hmj,zT hm',yXb (show 0≤m by omega),yXb (show m≤1199 by omega),yWx (show ¬j=0 by omega)]
   simp only[yZl,y2j]
   by_cases hlt:m'<m
   ·rw[yXb hlt,yWx (by omega)];rfl
   ·rw[yWx hlt,yXb (by omega)];rfl
  ·rw[qN,hmj,yXb (show 0≤m by omega),yXb (show m≤1199 by omega),yXb (show j=0 by omega)];rfl
  ·subst hb
   refine Cv.cnd.mk (fun c=>⟨(),?_,trivial⟩) (fun c=>⟨j+1,by rw[w64 (by omega)];rfl,⟨by omega,fun k hk=> ?_⟩,by(first|omega|(dsimp only;omega)),by(repeat'(first|exact trivial|exact rfl|apply And.intro))⟩)
   ·have c:qN p.months j=false:=by simpa using c
    rw[e1,yWl (by rw[em,zPh (k:=j) (by omega) c];rfl)]
   ·have c:qN p.months j=true:=by simpa using c
    rcases yZi k j with h|h
    ·exact g2 k h
    ·obtain rfl:k=j:=by omega
     exact c
 have em:xE p.months=true:=by rw[em];exact zWn fun k hk=>g2 k (by omega)
 have e2:p.check=if !qJ p then 22 else if qC p then 23 else if xG p then 1 else if kA p then 31 else if xU p then 24 else 0:=by
  rw[e1,yWk (by simp[em])]
 have et:qJ p=((decide (1≤p.tick) && decide (p.tick≤1000) && !qK p.tick p.low && !qK p.tick p.high && !qK p.tick p.wide) && !p.settle.any (qK p.tick)):=rfl
 refine⟨true,fun b=>b= !(decide (1≤p.tick) && decide (p.tick≤1000) && !qK p.tick p.low && !qK p.tick p.high && !qK p.tick p.wide),zK (fun d1=>⟨true,rfl,?_,by(repeat'(first|exact trivial|exact rfl|apply And.intro))⟩) (fun d1=>zK (fun d2=>⟨true,rfl,?_,by(repeat'(first|exact trivial|exact rfl|apply And.intro))⟩) (fun d2=>⟨trivial,by omega,Cv.cnd.mk (fun d3=>⟨true,rfl,?_,by(repeat'(first|exact trivial|exact rfl|apply And.intro))⟩) (fun d3=>⟨trivial,by omega,Cv.cnd.mk (fun d4=>⟨true,rfl,?_,by(repeat'(first|exact trivial|exact rfl|apply And.intro))⟩) (fun d4=>⟨trivial,by omega,_,rfl,?_,by(repeat'(first|exact trivial|exact rfl|apply And.intro))⟩)⟩)⟩)),fun b hb=> ?_⟩
 ·rw[yWx (show ¬1≤p.tick by omega)];rfl
 ·rw[yWx (show ¬p.tick≤1000 by omega)];simp
 ·have d3:qK p.tick p.low=true:=d3
  rw[d3];simp
 ·have d4:qK p.tick p.high=true:=d4
  rw[d4];simp
 ·have d3:qK p.tick p.low=false:=d3
  have d4:qK p.tick p.high=false:=d4
  rw[d3,d4,yXb (show 1≤p.tick by omega),yXb (show p.tick≤1000 by omega)]
  show qK p.tick p.wide=_
  simp
 subst hb
 refine Cv.cnd.mk (fun c3=> ?_) (fun c3=> ?_)
 ·have c3:(decide (1≤p.tick) && decide (p.tick≤1000) && !qK p.tick p.low && !qK p.tick p.high && !qK p.tick p.wide)=false:=by
   rw[y0r]at c3
   exact c3
  exact⟨(),by rw[e2,yWl (by rw[et,c3];rfl)],trivial⟩
 have c3:(decide (1≤p.tick) && decide (p.tick≤1000) && !qK p.tick p.low && !qK p.tick p.high && !qK p.tick p.wide)=true:=by simpa using c3
 have ht1:1≤p.tick:=by
  simp only[yXa,yYm]at c3;exact c3.1.1.1.1
 rw[c3,yZl]at et
 refine⟨0,rfl,fun j=>j≤p.settle.length∧∀k<j,∀x,p.settle[k]? =some x→qK p.tick x=false,fun j=>p.settle.length-j,⟨by omega,fun k hk=>by omega⟩,?_⟩
 rintro j ⟨g1,g2⟩
 refine zK (fun hj=> ?_) (fun hj=> ?_)
 ·obtain⟨m,hm⟩:=z6 (l:=p.settle) (i:=j) (by omega)
  refine⟨⟨by omega,by omega⟩,m,elI hm,trivial,by omega,Cv.cnd.mk (fun c=>⟨(),?_,trivial⟩) (fun c=>⟨j+1,by rw[w64 (by omega)];rfl,⟨by omega,fun k hk x hx=> ?_⟩,by(first|omega|(dsimp only;omega)),by(repeat'(first|exact trivial|exact rfl|apply And.intro))⟩)⟩
  ·have c:qK p.tick m=true:=c
   have:p.settle.any (qK p.tick)=true:=by rw[List.any_eq_true];exact⟨m,yWu hm,c⟩
   rw[e2,yWl (by rw[et,this];rfl)]
  ·rcases yZi k j with h|h
   ·exact g2 k h x hx
   ·obtain rfl:k=j:=by omega
    rw[hm]at hx;cases hx;exact c
 have et:qJ p=true:=by
  rw[et]
  have:p.settle.any (qK p.tick)=false:=by
   rw[y2r]
   intro x hx
   obtain⟨k,hk⟩:=List.getElem?_of_mem hx
   rw[g2 k (by have:=(yWn.1 hk).1;omega) x hk];simp
  rw[this];rfl
 have e3:p.check=if qC p then 23 else if xG p then 1 else if kA p then 31 else if xU p then 24 else 0:=by
  rw[e2,yWk (by simp[et])]
 refine⟨true,fun b=>b=qC p,zK (fun d1=>⟨true,rfl,?_,by(repeat'(first|exact trivial|exact rfl|apply And.intro))⟩) (fun d1=>zK (fun d2=>⟨true,rfl,?_,by(repeat'(first|exact trivial|exact rfl|apply And.intro))⟩) (fun d2=>zK (fun d3=>⟨true,rfl,?_,by(repeat'(first|exact trivial|exact rfl|apply And.intro))⟩) (fun d3=>zK (fun d4=>⟨true,rfl,?_,by(repeat'(first|exact trivial|exact rfl|apply And.intro))⟩) (fun d4=>⟨_,rfl,?_,by(repeat'(first|exact trivial|exact rfl|apply And.intro))⟩)))),fun b hb=> ?_⟩
 ·simp[qC,d1]
 ·simp[qC,d2]
 ·simp[qC,d3]
 ·simp[qC,d4]
 ·rw[w64 (by omega)];simp[qC,d1,d2,d3,d4]
 subst hb
 refine Cv.cnd.mk (fun c4=>⟨(),by rw[e3,yWl c4],trivial⟩) (fun c4=> ?_)
 have e4:p.check=if xG p then 1 else if kA p then 31 else if xU p then 24 else 0:=by
  rw[e3,yWk (by simp[c4])]
 refine Cv.cnd.mk (fun d6=>⟨(),?_,trivial⟩) (fun d6=> ?_)
 ·have d6:¬(p.settle.length:Int)=p.months.length:=by simpa using d6
  rw[e4,yWl (by simp[xG];omega)]
 have d6:p.settle.length=p.months.length:=by
  have:(p.settle.length:Int)=p.months.length:=by simpa using d6
  omega
 have hne:p.settle≠[]:=by intro e;rw[e]at d6;simp at d6;omega
 refine⟨0,rfl,fun j=>j≤p.settle.length∧∀k<j,∀x,p.settle[k]? =some x→p.low≤x∧x≤p.high,fun j=>p.settle.length-j,⟨by omega,fun k hk=>by omega⟩,?_⟩
 rintro j ⟨g3,g4⟩
 refine zK (fun hj=> ?_) (fun hj=> ?_)
 ·obtain⟨m,hm⟩:=z6 (l:=p.settle) (i:=j) (by omega)
  have hmm:=yWu hm
  refine⟨true,fun b=>b=(decide (m<p.low)||decide (m>p.high)),⟨⟨by omega,by omega⟩,m,elI hm,zK (fun c=>⟨true,rfl,?_,by(repeat'(first|exact trivial|exact rfl|apply And.intro))⟩) (fun c=>⟨⟨by omega,by omega⟩,m,elI hm,_,rfl,?_,by(repeat'(first|exact trivial|exact rfl|apply And.intro))⟩)⟩,fun b hb=> ?_⟩
  ·rw[yXb c];rfl
  ·rw[yWx c,y2j]
  ·subst hb
   refine Cv.cnd.mk (fun c=>⟨(),?_,trivial⟩) (fun c=>⟨j+1,by rw[w64 (by omega)];rfl,⟨by omega,fun k hk x hx=> ?_⟩,by(first|omega|(dsimp only;omega)),by(repeat'(first|exact trivial|exact rfl|apply And.intro))⟩)
   ·have l1:=z3c hmm
    have l2:=z2t hmm
    rw[e4,yWl (by
     simp only[y2k,yYm]at c
     simp only[xG,y2k,yYm]
     rcases c with c|c
     ·left;right;omega
     ·right;omega)]
   ·rcases yZi k j with h|h
    ·exact g4 k h x hx
    ·obtain rfl:k=j:=by omega
     rw[hm]at hx;cases hx
     simp only[y0x,decide_eq_false_iff_not]at c
     omega
 have hset:xG p=false:=by
  have all:∀x∈p.settle,p.low≤x∧x≤p.high:=fun x hx=>by
   obtain⟨k,hk⟩:=List.getElem?_of_mem hx
   exact g4 k (by have:=(yWn.1 hk).1;omega) x hk
  have a1:=all _ (zWk hne)
  have a2:=all _ (zVp hne)
  simp only[xG,y0x,decide_eq_false_iff_not]
  omega
 have e5:p.check=if kA p then 31 else if xU p then 24 else 0:=by
  rw[e4,yWk (by simp[hset])]
 refine⟨true,fun b=>b=kA p,zK (fun d1=>⟨true,rfl,?_,by(repeat'(first|exact trivial|exact rfl|apply And.intro))⟩) (fun d1=>⟨_,rfl,?_,by(repeat'(first|exact trivial|exact rfl|apply And.intro))⟩),fun b hb=> ?_⟩
 ·simp[kA,d1]
 ·simp[kA,d1]
 subst hb
 refine Cv.cnd.mk (fun c6=>⟨(),by rw[e5,yWl c6],trivial⟩) (fun c6=> ?_)
 have e6:p.check=if xU p then 24 else 0:=by rw[e5,yWk (by simp[c6])]
 refine⟨true,fun b=>b=xU p,zK (fun d1=>⟨true,rfl,?_,by(repeat'(first|exact trivial|exact rfl|apply And.intro))⟩) (fun d1=>zK (fun d2=>⟨true,rfl,?_,by(repeat'(first|exact trivial|exact rfl|apply And.intro))⟩) (fun d2=>zK (fun d3=>⟨true,rfl,?_,by(repeat'(first|exact trivial|exact rfl|apply And.intro))⟩) (fun d3=>zK (fun d4=>⟨true,rfl,?_,by(repeat'(first|exact trivial|exact rfl|apply And.intro))⟩) (fun d4=>zK (fun d5=>⟨true,rfl,?_,by(repeat'(first|exact trivial|exact rfl|apply And.intro))⟩) (fun d5=>⟨_,rfl,?_,by(repeat'(first|exact trivial|exact rfl|apply And.intro))⟩))))),fun b hb=> ?_⟩
 ·simp[xU,d1]
 ·simp[xU,d2]
 ·simp[xU,d3]
 ·simp[xU,d4]
 ·simp[xU,d5]
 ·simp[xU,d1,d2,d3,d4,d5]
 subst hb
 exact Cv.cnd.mk (fun c7=>⟨(),by rw[e6,yWl c7],trivial⟩) (fun c7=>⟨(),by rw[e6,yWk (by simp[c7])],trivial⟩)
theorem zJt:r5checkC.ok Tryz.prog 172:=okw mixed (gokc z6a gok0) 0 (fun _=>z8t) (fun _=>yAn) [] Tryz.func172 yCg
theorem mJ {p:Prd} (h:p.check=0):p.count=p.months.length+p.months.length*(p.months.length-1) / 2:=by rw[Prd.count,yWl h]
theorem zJs {p:Prd} (h:p.check≠0):p.count=0:=by rw[Prd.count,yWk h]
theorem z9f (p:Prd) (h:r5countC.cnd p):zWr p:=by
 have hs:p.small:=h
 unfold zWr rN xB zY
 simp only[xF]
 refine⟨p,rfl,rfl,rfl,rfl,rfl,rfl,rfl,rfl,rfl,rfl,rfl,hs,fun _ _=>Cv.cnd.mk (fun c=>⟨(),?_,trivial⟩) (fun c=>⟨trivial,by decide,(),?_,trivial⟩)⟩
 ·rw[zJs (by simpa using c)];rfl
 ·have c:p.check=0:=by simpa using c
  have m6:=(jM c).m6
  have m2:=(jM c).m2
  rw[mJ c]
  generalize p.months.length=n at*
  have:n=2∨n=3∨n=4∨n=5∨n=6:=by omega
  rcases this with rfl|rfl|rfl|rfl|rfl<;>decide
theorem z1e:r5countC.ok Tryz.prog 118:=okw mixed (gokc zJt gok0) 0 (fun _=>[]) (fun _=>[]) [] Tryz.func118 z9f
theorem yDi:∀n≤6,∀a<n,∀b<n-1-a,kI n (yK n a+b) n 0=((a:Int),((a+1+b:Nat):Int),true)∧yK n a+b<n+n*(n-1) / 2∧n≤yK n a+b:=by decide
theorem z7k:∀n≤6,yK n n=n+n*(n-1) / 2:=by decide
theorem yIx {p:Prd} (h:p.check=0) {a b:Nat} (ha:a<p.months.length) (hb:b<p.months.length-1-a):p.legs ((yK p.months.length a+b:Nat):Int)=((a:Int),((a+1+b:Nat):Int),true):=by
 obtain⟨h1,h2,h3⟩:=yDi _ (jM h).m6 a ha b hb
 rw[Prd.legs,yWk (by rw[mJ h];omega),yWk (by omega),yXf]
 exact h1
theorem yIb (i:cI) (h:r5legsC.cnd i):z3k i:=by
 have hs:i.p.small:=h
 unfold z3k gN zCz rG wW v8 eG gJ zY dI
 simp only[xF]
 refine⟨i.p,rfl,rfl,rfl,rfl,rfl,rfl,rfl,rfl,rfl,rfl,rfl,hs,fun _ _=>Cv.cnd.mk (fun c=> ?_) (fun c=>zK (fun c1=> ?_) (fun c1=>zK (fun c2=> ?_) (fun c2=> ?_)))⟩
 ·rw[Prd.legs,yWl (by rw[zJs (by simpa using c)];omega)];(repeat'(first|exact rfl|exact trivial|assumption|apply And.intro|refine fun(_:Unit) (_:True)=>?_|refine Exists.intro () ?_|omega|(dsimp only;omega)))
 ·rw[Prd.legs,yWl (.inl c1)];(repeat'(first|exact rfl|exact trivial|assumption|apply And.intro|refine fun(_:Unit) (_:True)=>?_|refine Exists.intro () ?_|omega|(dsimp only;omega)))
 ·have c:i.p.check=0:=by simpa using c
  rw[Prd.legs,yWk (by rw[mJ c];omega),yWl c2];(repeat'(first|exact rfl|exact trivial|assumption|apply And.intro|refine fun(_:Unit) (_:True)=>?_|refine Exists.intro () ?_|omega|(dsimp only;omega)))
 ·have c:i.p.check=0:=by simpa using c
  have m6:=(jM c).m6
  obtain⟨k,hk⟩:∃k:Nat,i.n=k:=⟨i.n.toNat,by omega⟩
  have sp:=fun(a b:Nat) ha hb=>yIx (p:=i.p) c (a:=a) (b:=b) ha hb
  have fe:=z7k _ m6
  have out:i.p.count≤k→i.p.legs (k:Int)=(0,0,false):=fun e=>by rw[Prd.legs,yWl (by omega)]
  rw[mJ c,← fe]at out
  rw[hk]at c2 ⊢
  generalize hn:i.p.months.length=n at*
  refine⟨0,rfl,rfl,fun m=>m≤n∧yK n m≤k,fun m=>n-m,⟨by omega,by show n≤k;omega⟩,?_⟩
  rintro m ⟨g1,g2⟩
  have hf:=zKa m6 g1
  refine zK (fun c4=> ?_) (fun c4=> ?_)
  ·refine⟨(m,0),rfl,rfl,by rw[w64 (by omega)];simp,fun x=>x.1=m∧x.2≤n-1-m∧yK n m+x.2≤k,fun x=>n-1-m-x.2,⟨rfl,by(first|omega|(dsimp only;omega)),by(first|omega|(dsimp only;omega))⟩,?_⟩
   rintro⟨a,b⟩ ⟨g3,g4,g5⟩
   dsimp only at g3 g4 g5 ⊢
   subst g3
   refine zK (fun c5=>Cv.cnd.mk (fun e=> ?_) (fun e=> ?_)) (fun c5=> ?_)
   ·have e:((yK n a+b:Nat):Int)=(k:Int):=by simpa using e
    have:=sp a b (by omega) (by omega)
    rw[e]at this
    rw[this];(repeat'(first|exact rfl|exact trivial|assumption|apply And.intro|refine fun(_:Unit) (_:True)=>?_|refine Exists.intro () ?_|omega|(dsimp only;omega)))
   ·have e:¬((yK n a+b:Nat):Int)=(k:Int):=by simpa using e
    refine⟨(a,b+1),?_,rfl,?_,⟨rfl,by(first|omega|(dsimp only;omega)),by(first|omega|(dsimp only;omega))⟩,by(first|omega|(dsimp only;omega)),by(repeat'(first|exact trivial|exact rfl|apply And.intro))⟩
    ·rw[w64 (by omega)];dsimp only;omega
    ·rw[w64 (by omega)];dsimp only;omega
   ·refine⟨a+1,?_,by rw[w64 (by omega)];rfl,⟨by omega,?_⟩,by(first|omega|(dsimp only;omega)),by(repeat'(first|exact trivial|exact rfl|apply And.intro))⟩
    ·rw[yK];omega
    ·rw[yK];omega
  ·obtain rfl:m=n:=by omega
   rw[out g2];(repeat'(first|exact rfl|exact trivial|assumption|apply And.intro|refine fun(_:Unit) (_:True)=>?_|refine Exists.intro () ?_|omega|(dsimp only;omega)))
theorem z8i:r5legsC.ok Tryz.prog 119:=okw mixed (gokc zJt gok0) 0 (fun _=>[]) (fun i=>yHz i) [] Tryz.func119 yIb
theorem zWo (x:Prd):1≤yF x∧yF x≤10:=by
 have:=xI (n:=x.tick) (lo:=0) (hi:=9) (by omega)
 rw[yF];omega
theorem yEu (x:Prd):2≤kN x∧kN x≤5:=by
 have:=xI (n:=(x.months.length:Int)) (lo:=0) (hi:=3) (by omega)
 rw[kN];omega
theorem zKb {a b m n:Int} (ha:0≤a∧a≤m) (hb:0≤b∧b≤n):0≤a*b∧a*b≤m*n:=by
 refine⟨y2s ha.1 hb.1,?_⟩
 exact Int.le_trans (Int.mul_le_mul_of_nonneg_right ha.2 hb.1) (y1m hb.2 (by omega))
theorem zRf (j:Nat):iE (qZ (j+1))=iE (qZ j)++[[D.v (.int .i64 (10*(j:Int)+3))]]:=by
 rw[qZ,y1k,yWw,iE,yWw];rfl
theorem zRv (t:Int) (j:Nat):iE (qE t (j+1))=iE (qE t j)++[[D.v (.int .i64 (t*(10+(j:Int))))]]:=by
 rw[qE,y1k,yWw,iE,yWw];rfl
theorem sE (j:Nat):(qZ j).length=j:=by simp[qZ]
theorem aW (t:Int) (j:Nat):(qE t j).length=j:=by simp[qE]
theorem yMf (x:Prd) (h:kprodC.cnd x):yEe x:=by
 obtain⟨h1,h2,h3,h4,h5,h6,h7⟩:x.raw:=h
 have hw: -1000000≤(0:Int):=by decide
 have bt:=xI (n:=x.tick) (lo:=0) (hi:=9) (by omega)
 have bw:=xI (n:=x.wide) (lo:=0) (hi:=60) (by omega)
 have br:=xI (n:=x.rule) (lo:=0) (hi:=2) (by omega)
 have bl:=xI (n:=x.least) (lo:=0) (hi:=4) (by omega)
 have bn:=xI (n:=(x.months.length:Int)) (lo:=0) (hi:=3) (by omega)
 have kt:=zWo x
 have kn:=yEu x
 have w1:IntKind.i64.wrap (1+zI x.tick 0 9)=yF x:=w64 (by omega)
 have w2:IntKind.i64.wrap (-20*IntKind.i64.wrap (1+zI x.tick 0 9))= -20*yF x:=by rw[w1];exact w64 (by omega)
 have w3:IntKind.i64.wrap (100*IntKind.i64.wrap (1+zI x.tick 0 9))=100*yF x:=by rw[w1];exact w64 (by omega)
 have w4:IntKind.i64.wrap (1+zI x.rule 0 2)=1+zI x.rule 0 2:=w64 (by omega)
 have w5:IntKind.i64.wrap (1+zI x.least 0 4)=1+zI x.least 0 4:=w64 (by omega)
 have w6:IntKind.i64.wrap (2+zI x.months.length 0 3)=kN x:=w64 (by omega)
 have mb:=zKb (a:=yF x) (b:=5+zI x.wide 0 60) (m:=10) (n:=65) (by omega) (by omega)
 have w7:IntKind.i64.wrap (IntKind.i64.wrap (1+zI x.tick 0 9)*IntKind.i64.wrap (5+zI x.wide 0 60))=yF x*(5+zI x.wide 0 60):=by
  rw[w1,w64 (x:=5+zI x.wide 0 60) (by omega)];exact w64 (by omega)
 unfold yEe jN zEc zFy zFt zGh zGq mP uE bD dC vJ xX yO xB dI
 simp only[xF]
 refine⟨⟨x.months.length,0,3⟩,rfl,rfl,rfl,⟨⟨by dsimp only;omega,by dsimp only;omega⟩,by dsimp only;omega,by dsimp only;omega,by dsimp only;omega⟩,fun _ _=>⟨⟨x.tick,0,9⟩,rfl,rfl,rfl,⟨h1,by dsimp only;omega,by dsimp only;omega,by dsimp only;omega⟩,fun _ _=> ?_⟩⟩
 dsimp only
 refine⟨(),fun _=>True,?_,fun _ _=> ?_⟩
 ·repeat'(first|exact trivial|exact rfl|exact w1.symm|exact w2.symm|exact w3.symm|exact w4.symm|exact w5.symm|apply And.intro|refine⟨⟨x.rule,0,2⟩,rfl,rfl,rfl,⟨h3,by dsimp only;omega,by dsimp only;omega,by dsimp only;omega⟩,fun _ _=> ?_⟩|refine⟨⟨x.top,0,9⟩,rfl,rfl,rfl,⟨h4,by dsimp only;omega,by dsimp only;omega,by dsimp only;omega⟩,fun _ _=> ?_⟩|refine⟨⟨x.least,0,4⟩,rfl,rfl,rfl,⟨h5,by dsimp only;omega,by dsimp only;omega,by dsimp only;omega⟩,fun _ _=> ?_⟩|refine⟨⟨x.part,0,100⟩,rfl,rfl,rfl,⟨h6,by dsimp only;omega,by dsimp only;omega,by dsimp only;omega⟩,fun _ _=> ?_⟩|refine⟨(),?_⟩)
 ·refine⟨⟨x.wide,0,60⟩,rfl,rfl,rfl,⟨h2,by dsimp only;omega,by dsimp only;omega,by dsimp only;omega⟩,fun _ _=> ?_⟩
  dsimp only
  rw[w7,w6]
  refine⟨0,by(first|exact rfl|exact trivial),by(first|exact rfl|exact trivial),by(first|exact rfl|exact trivial),by(first|exact rfl|exact trivial),by(first|exact rfl|exact trivial),by(first|exact rfl|exact trivial),by(first|exact rfl|exact trivial),by(first|exact rfl|exact trivial),by(first|exact rfl|exact trivial),by(first|exact rfl|exact trivial),by(first|exact rfl|exact trivial),by(first|exact rfl|exact trivial),fun j=>j≤(kN x).toNat,fun j=>(kN x).toNat-j,by omega,?_⟩
  intro j hj
  rw[sE,aW]
  refine zK (fun c=>⟨by omega,by omega,j+1,by rw[w64 (by omega)];rfl,by(first|exact rfl|exact trivial),by(first|exact rfl|exact trivial),by(first|exact rfl|exact trivial),by(first|exact rfl|exact trivial),by(first|exact rfl|exact trivial),by(first|exact rfl|exact trivial),by(first|exact rfl|exact trivial),by(first|exact rfl|exact trivial),by(first|exact rfl|exact trivial),?_,?_,by(first|omega|(dsimp only;omega)),by(first|omega|(dsimp only;omega)),by(repeat'(first|exact trivial|exact rfl|apply And.intro))⟩) (fun c=>⟨(),?_⟩)
  ·rw[zRf,w64 (x:=10*(j:Int)) (by omega),w64 (by omega)]
  ·have mj:=zKb (a:=yF x) (b:=10+(j:Int)) (m:=10) (n:=20) (by omega) (by omega)
   rw[zRv,w1,w64 (x:=10+(j:Int)) (by omega),w64 (by omega)]
  ·have e:(kN x).toNat=j:=by omega
   rw[e];(repeat'(first|exact trivial|exact rfl|apply And.intro))
theorem kprod_ok:kprodC.ok Tryz.prog 12:=okw mixed (gokc within_ok gok0) 0 (fun x=>yQr x) (fun x=>yOb x) [] Tryz.func12 yMf
open Go Cv Go.Proofs
structure Cmd where
 kind:Int
 id:Int
 inst:Int
 side:Int
 price:Int
 qty:Int
 least:Int
 time:Int
 label:List UInt8
 deriving DecidableEq
@[reducible] def Cmd.cells (c:Cmd):List V:=[zA c.kind,zA c.id,zA c.inst,zA c.side,zA c.price,zA c.qty,zA c.least,zA c.time,sV c.label]
@[reducible] def zNr (c:Cmd):V:= .agg c.cells
def cmdE (c:Cmd):List D:=[.v (.int .i64 c.kind),.v (.int .i64 c.id),.v (.int .i64 c.inst),.v (.int .i64 c.side),.v (.int .i64 c.price),.v (.int .i64 c.qty),.v (.int .i64 c.least),.v (.int .i64 c.time),.v (.string (sb c.label))]
@[reducible] def Cmd.raw (c:Cmd):Prop:=yV c.kind∧yV c.id∧yV c.inst∧yV c.side∧yV c.price∧yV c.qty∧yV c.least∧yV c.time
structure TmI where
 p:Prd
 c:Cmd
 i:Int
def mA (c:Cmd):Int:=if 4<1+zI c.kind 0 8 then 1 else 1+zI c.kind 0 8
def xC (t:TmI):Cmd:=⟨mA t.c,1+zI t.c.id 0 30,zI t.c.inst 0 (t.p.count-1),1+zI t.c.side 0 1,t.p.tick*zI t.c.price 0 9,1+zI t.c.qty 0 11,0,0,[]⟩
def a6 (c:Cmd):Int:=if c.time.tmod 5=3 then 3 else if c.time.tmod 5=2 then 2 else 1
def eD (c:Cmd) (q:Int):Int:=if c.least.tmod 4=1 then zI c.least 0 q else 0
def qR (t:TmI):Cmd:=
 let h:=xC t
 if h.kind=1 then{h with id:=t.i+1,time:=a6 t.c,least:=eD t.c h.qty,price:=if(t.p.legs h.inst).2.2=true then h.price-4*t.p.tick else h.price+8*t.p.tick}
 else{h with price:=if h.kind=4 then h.price+5*t.p.tick else h.price,side:=0,inst:=0}
def tameC:Con:=con1 TmI (fun t=>[prdV t.p,zNr t.c,zA t.i]) (fun _=>[]) (fun t=>t.p.check=0∧t.p.small∧t.c.raw∧0≤t.i∧t.i≤1000000) (fun t=>zNr (qR t)) (fun _=>[])
def cj (k:Nat):Nat×SAnn:=(k,{ι:=Cmd,slots:=fun _=>[(7,.nm 0 0)],slots0:=fun _=>[(7,.nm 0 0)],rows0:=fun c=>[.cells c.cells 80],rows:=fun c=>[.cells c.cells 80]})
def ySf:List (Nat×SAnn):=[cj 14,cj 54,cj 62,cj 70]
open Go Cv Go.Proofs
def zCh (a:Cmd) (b:Cmd) (c:Cmd→Prop) (d:TmI):Prop:=sb a.label=sb b.label∧c a∧Sx.AObj.cells (Sx.V.agg [V.d (dI 0),V.d (dI 0),V.d (dI 0),V.d (dI 0),V.d (dI 0),V.d (dI 0),V.d (dI 0),V.d (dI 0),V.d dC]).cl 80=Sx.AObj.cells (Sx.V.agg [V.d (dI 0),V.d (dI 0),V.d (dI 0),V.d (dI 0),V.d (dI 0),V.d (dI 0),V.d (dI 0),V.d (dI 0),V.d dC]).cl 80∧Sx.AObj.cells [V.d (dI d.c.kind),V.d (dI d.c.id),V.d (dI d.c.inst),V.d (dI d.c.side),V.d (dI d.c.price),V.d (dI d.c.qty),V.d (dI d.c.least),V.d (dI d.c.time),V.d (D.v (Value.string (sb d.c.label)))] 80=Sx.AObj.cells [V.d (dI d.c.kind),V.d (dI d.c.id),V.d (dI d.c.inst),V.d (dI d.c.side),V.d (dI d.c.price),V.d (dI d.c.qty),V.d (dI d.c.least),V.d (dI d.c.time),V.d (D.v (Value.string (sb d.c.label)))] 80∧Sx.AObj.cells [V.d (D.v (Value.string (sb d.p.code))),V.own 0,V.d (dI d.p.tick),V.d (dI d.p.low),V.d (dI d.p.high),V.d (dI d.p.wide),V.d (dI d.p.rule),V.d (dI d.p.top),V.d (dI d.p.least),V.d (dI d.p.part),V.own ((0:Nat)+(1:Nat))] 25=Sx.AObj.cells [V.d (D.v (Value.string (sb d.p.code))),V.own 0,V.d (dI d.p.tick),V.d (dI d.p.low),V.d (dI d.p.high),V.d (dI d.p.wide),V.d (dI d.p.rule),V.d (dI d.p.top),V.d (dI d.p.least),V.d (dI d.p.part),V.own ((0:Nat)+(1:Nat))] 25∧AObj.fro 1 (iE d.p.settle)=AObj.fro 1 (iE d.p.settle)∧AObj.fro 1 (iE d.p.months)=AObj.fro 1 (iE d.p.months)
def zMh (a:Cmd) (b:Cmd) (c:Cmd→Prop) (d:TmI):Prop:=a.time=b.time∧zCh a b c d
def zLm (a:Cmd) (b:Cmd) (c:Cmd→Prop) (d:TmI):Prop:=a.id=b.id∧a.inst=b.inst∧a.side=b.side∧a.price=b.price∧a.qty=b.qty∧a.least=b.least∧zMh a b c d
def sR (a:Cmd) (b:Cmd→Prop) (c:TmI):Prop:=∃(d:Cmd),d.kind=a.kind∧zLm d a b c
def zFe (a:TmI) (b:WiI) (c:Cmd):Prop:=(qR a).qty=IntKind.i64.wrap (xX b)∧(qR a).least=c.least∧(qR a).time=c.time∧sb (qR a).label=sb c.label∧True
def zGt (a:TmI) (b:Cmd):Prop:=(qR a).qty=b.qty∧(qR a).least=b.least∧(qR a).time=b.time∧sb (qR a).label=sb b.label∧True
def yKu (t:TmI):Prop:=
 ∃(a:WiI),a.n=t.c.kind∧a.lo=0∧a.hi=8∧(yO a)∧∀(b:Unit),True→∃(c:WiI),c.n=t.c.id∧c.lo=0∧c.hi=30∧(yO c)∧∀(d:Unit),True→∃(e:Cmd),e.kind=IntKind.i64.wrap (xX a)∧e.id=IntKind.i64.wrap (xX c)∧e.inst=0∧e.side=0∧e.price=0∧e.qty=0∧e.least=0∧e.time=0∧sb e.label=ByteArray.mk #[]∧∃(f:Cmd→Prop),cnd (decide (e.kind>4)) (∃(g:Cmd),g.kind=1∧zLm g e f t) (sR e f t)∧∀(g:Cmd),f g→∃(h:Prd),sb h.code=sb t.p.code∧iE h.months=iE t.p.months∧h.tick=t.p.tick∧h.low=t.p.low∧h.high=t.p.high∧h.wide=t.p.wide∧h.rule=t.p.rule∧h.top=t.p.top∧h.least=t.p.least∧h.part=t.p.part∧iE h.settle=iE t.p.settle∧(zY h)∧∀(j:Unit),True→∃(k:WiI),k.n=t.c.inst∧k.lo=0∧k.hi=IntKind.i64.wrap ((↑h.count:Int)-1)∧(yO k)∧∀(l:Unit),True→∃(m:WiI),m.n=t.c.side∧m.lo=0∧m.hi=1∧(yO m)∧∀(n:Unit),True→∃(p:WiI),p.n=t.c.qty∧p.lo=0∧p.hi=11∧(yO p)∧∀(q:Unit),True→∃(r:WiI),r.n=t.c.price∧r.lo=0∧r.hi=9∧(yO r)∧∀(s:Unit),True→t.p.tick=t.p.tick∧cnd (g.kind==1) (∃(u:Cmd),u.kind=g.kind∧u.id=IntKind.i64.wrap (t.i+1)∧u.inst=zI k.n k.lo k.hi∧u.side=IntKind.i64.wrap (xX m)∧u.price=IntKind.i64.wrap (t.p.tick*zI r.n r.lo r.hi)∧u.qty=IntKind.i64.wrap (xX p)∧u.least=g.least∧u.time=1∧sb u.label=sb g.label∧∃(v:Cmd→Prop),(IntKind.i64=IntKind.i64∧(5:Int)≠(0:Int)∧cnd (t.c.time.tmod (5:Int)==(2:Int)) (∃(w:Cmd),w.kind=u.kind∧w.id=u.id∧w.inst=u.inst∧w.side=u.side∧w.price=u.price∧w.qty=u.qty∧w.least=u.least∧w.time=2∧zCh w u v t) (sR u v t))∧∀(w:Cmd),v w→∃(x:Cmd),x.kind=w.kind∧x.id=w.id∧x.inst=w.inst∧x.side=w.side∧x.price=w.price∧x.qty=w.qty∧x.least=w.least∧x.time=w.time∧sb x.label=sb w.label∧∃(y:Cmd→Prop),(IntKind.i64=IntKind.i64∧(5:Int)≠(0:Int)∧cnd (t.c.time.tmod (5:Int)==(3:Int)) (∃(z:Cmd),z.kind=x.kind∧z.id=x.id∧z.inst=x.inst∧z.side=x.side∧z.price=x.price∧z.qty=x.qty∧z.least=x.least∧z.time=3∧zCh z x y t) (sR x y t))∧∀(z:Cmd),y z→∃(a_1:Cmd),a_1.kind=z.kind∧a_1.id=z.id∧a_1.inst=z.inst∧a_1.side=z.side∧a_1.price=z.price∧a_1.qty=z.qty∧a_1.least=z.least∧a_1.time=z.time∧sb a_1.label=sb z.label∧∃(a_2:Cmd→Prop),(IntKind.i64=IntKind.i64∧(4:Int)≠(0:Int)∧cnd (t.c.least.tmod (4:Int)==(1:Int)) (∃(a_3:WiI),a_3.n=t.c.least∧a_3.lo=0∧a_3.hi=a_1.qty∧(yO a_3)∧∀(a_4:Unit),True→∃(a_5:Cmd),a_5.kind=a_1.kind∧a_5.id=a_1.id∧a_5.inst=a_1.inst∧a_5.side=a_1.side∧a_5.price=a_1.price∧a_5.qty=a_1.qty∧a_5.least=zI a_3.n a_3.lo a_3.hi∧zMh a_5 a_1 a_2 t) (sR a_1 a_2 t))∧∀(a_3:Cmd),a_2 a_3→∃(a_4:cI),sb a_4.p.code=sb t.p.code∧iE a_4.p.months=iE t.p.months∧a_4.p.tick=t.p.tick∧a_4.p.low=t.p.low∧a_4.p.high=t.p.high∧a_4.p.wide=t.p.wide∧a_4.p.rule=t.p.rule∧a_4.p.top=t.p.top∧a_4.p.least=t.p.least∧a_4.p.part=t.p.part∧iE a_4.p.settle=iE t.p.settle∧a_4.n=a_3.inst∧(kU a_4)∧∀(a_5:Unit),True→cnd (!(a_4.p.legs a_4.n).snd.snd) (∃(a_6:Unit),(qR t).kind=a_3.kind∧(qR t).id=a_3.id∧(qR t).inst=a_3.inst∧(qR t).side=a_3.side∧(qR t).price=IntKind.i64.wrap (a_3.price+IntKind.i64.wrap (8*t.p.tick))∧zGt t a_3) (∃(a_6:Unit),(qR t).kind=a_3.kind∧(qR t).id=a_3.id∧(qR t).inst=a_3.inst∧(qR t).side=a_3.side∧(qR t).price=IntKind.i64.wrap (a_3.price-IntKind.i64.wrap (4*t.p.tick))∧zGt t a_3)) (cnd (g.kind==4) (∃(u:Unit),(qR t).kind=g.kind∧(qR t).id=g.id∧(qR t).inst=0∧(qR t).side=0∧(qR t).price=IntKind.i64.wrap (IntKind.i64.wrap (t.p.tick*zI r.n r.lo r.hi)+IntKind.i64.wrap (5*t.p.tick))∧zFe t p g) (∃(u:Unit),(qR t).kind=g.kind∧(qR t).id=g.id∧(qR t).inst=0∧(qR t).side=0∧(qR t).price=IntKind.i64.wrap (t.p.tick*zI r.n r.lo r.hi)∧zFe t p g))
open Go Cv Go.Proofs
theorem yTh (t:TmI) (h:tameC.cnd t):yKu t:=by
 obtain⟨hc,hs,⟨r1,r2,r3,r4,r5,r6,r7,r8⟩,i0,i1⟩:t.p.check=0∧t.p.small∧t.c.raw∧0≤t.i∧t.i≤1000000:=h
 have ok:=jM hc
 have t1:=ok.t1
 have t2:=ok.t2
 have m2:=ok.m2
 have hcl:=xS t.p
 have hcd:=mJ hc
 have bk:=xI (n:=t.c.kind) (lo:=0) (hi:=8) (by omega)
 have bi:=xI (n:=t.c.id) (lo:=0) (hi:=30) (by omega)
 have bs:=xI (n:=t.c.side) (lo:=0) (hi:=1) (by omega)
 have bq:=xI (n:=t.c.qty) (lo:=0) (hi:=11) (by omega)
 have bp:=xI (n:=t.c.price) (lo:=0) (hi:=9) (by omega)
 have mb:=zKb (a:=t.p.tick) (b:=zI t.c.price 0 9) (m:=1000) (n:=9) (by omega) (by omega)
 have wp:IntKind.i64.wrap (t.p.tick*zI t.c.price 0 9)=t.p.tick*zI t.c.price 0 9:=w64 (by omega)
 unfold yKu sR zLm zMh zCh dC zGt zFe xX yO zY kU dI
 refine⟨⟨t.c.kind,0,8⟩,rfl,rfl,rfl,⟨r1,by dsimp only;omega,by dsimp only;omega,by dsimp only;omega⟩,fun _ _=>⟨⟨t.c.id,0,30⟩,rfl,rfl,rfl,⟨r2,by dsimp only;omega,by dsimp only;omega,by dsimp only;omega⟩,fun _ _=> ?_⟩⟩
 dsimp only
 rw[w64 (x:=1+zI t.c.kind 0 8) (by omega),w64 (x:=1+zI t.c.id 0 30) (by omega)]
 refine⟨⟨1+zI t.c.kind 0 8,1+zI t.c.id 0 30,0,0,0,0,0,0,[]⟩,rfl,rfl,rfl,rfl,rfl,rfl,rfl,rfl,rfl,fun c=>c=⟨mA t.c,1+zI t.c.id 0 30,0,0,0,0,0,0,[]⟩,zK (fun e=>⟨⟨mA t.c,1+zI t.c.id 0 30,0,0,0,0,0,0,[]⟩,?_,rfl,rfl,rfl,rfl,rfl,rfl,rfl,rfl,rfl,by(repeat'(first|exact trivial|exact rfl|apply And.intro))⟩) (fun e=>⟨⟨mA t.c,1+zI t.c.id 0 30,0,0,0,0,0,0,[]⟩,?_,rfl,rfl,rfl,rfl,rfl,rfl,rfl,rfl,rfl,by(repeat'(first|exact trivial|exact rfl|apply And.intro))⟩),fun c hcc=> ?_⟩
 ·dsimp only at e ⊢;rw[mA,yWl (by omega)]
 ·dsimp only at e ⊢;rw[mA,yWk (by omega)]
 subst hcc
 refine⟨t.p,rfl,rfl,rfl,rfl,rfl,rfl,rfl,rfl,rfl,rfl,rfl,hs,fun _ _=> ?_⟩
 rw[w64 (x:=(t.p.count:Int)-1) (by omega)]
 refine⟨⟨t.c.inst,0,(t.p.count:Int)-1⟩,rfl,rfl,rfl,⟨r3,by dsimp only;omega,by dsimp only;omega,by dsimp only;omega⟩,fun _ _=>⟨⟨t.c.side,0,1⟩,rfl,rfl,rfl,⟨r4,by dsimp only;omega,by dsimp only;omega,by dsimp only;omega⟩,fun _ _=>⟨⟨t.c.qty,0,11⟩,rfl,rfl,rfl,⟨r6,by dsimp only;omega,by dsimp only;omega,by dsimp only;omega⟩,fun _ _=>⟨⟨t.c.price,0,9⟩,rfl,rfl,rfl,⟨r5,by dsimp only;omega,by dsimp only;omega,by dsimp only;omega⟩,fun _ _=>⟨rfl,?_⟩⟩⟩⟩⟩
 dsimp only
 rw[wp,w64 (x:=1+zI t.c.side 0 1) (by omega),w64 (x:=1+zI t.c.qty 0 11) (by omega),w64 (x:=t.i+1) (by omega)]
 refine Cv.cnd.mk (fun k=> ?_) (fun k=> ?_)
 ·have k:mA t.c=1:=by simpa using k
  refine⟨{xC t with id:=t.i+1,time:=1},rfl,rfl,rfl,rfl,rfl,rfl,rfl,rfl,rfl,fun c=>c={xC t with id:=t.i+1,time:=if t.c.time.tmod 5=2 then 2 else 1},⟨rfl,by decide,Cv.cnd.mk (fun e=>⟨{xC t with id:=t.i+1,time:=2},rfl,rfl,rfl,rfl,rfl,rfl,rfl,rfl,rfl,?_,by(repeat'(first|exact trivial|exact rfl|apply And.intro))⟩) (fun e=>⟨{xC t with id:=t.i+1,time:=1},rfl,rfl,rfl,rfl,rfl,rfl,rfl,rfl,rfl,?_,by(repeat'(first|exact trivial|exact rfl|apply And.intro))⟩)⟩,fun c hcc=> ?_⟩
  ·have e:t.c.time.tmod 5=2:=by simpa using e
   rw[yWl e]
  ·have e:¬t.c.time.tmod 5=2:=by simpa using e
   rw[yWk e]
  subst hcc
  refine⟨{xC t with id:=t.i+1,time:=if t.c.time.tmod 5=2 then 2 else 1},rfl,rfl,rfl,rfl,rfl,rfl,rfl,rfl,rfl,fun c=>c={xC t with id:=t.i+1,time:=a6 t.c},⟨rfl,by decide,Cv.cnd.mk (fun e=>⟨{xC t with id:=t.i+1,time:=3},rfl,rfl,rfl,rfl,rfl,rfl,rfl,rfl,rfl,?_,by(repeat'(first|exact trivial|exact rfl|apply And.intro))⟩) (fun e=>⟨{xC t with id:=t.i+1,time:=if t.c.time.tmod 5=2 then 2 else 1},rfl,rfl,rfl,rfl,rfl,rfl,rfl,rfl,rfl,?_,by(repeat'(first|exact trivial|exact rfl|apply And.intro))⟩)⟩,fun c hcc=> ?_⟩
  ·have e:t.c.time.tmod 5=3:=by simpa using e
   rw[a6,yWl e]
  ·have e:¬t.c.time.tmod 5=3:=by simpa using e
   rw[a6,yWk e]
  subst hcc
  have hq:(xC t).qty=1+zI t.c.qty 0 11:=rfl
  refine⟨{xC t with id:=t.i+1,time:=a6 t.c},rfl,rfl,rfl,rfl,rfl,rfl,rfl,rfl,rfl,fun c=>c={xC t with id:=t.i+1,time:=a6 t.c,least:=eD t.c (xC t).qty},⟨rfl,by decide,Cv.cnd.mk (fun e=>⟨⟨t.c.least,0,(xC t).qty⟩,rfl,rfl,rfl,⟨r7,by dsimp only;omega,by dsimp only;omega,by dsimp only;omega⟩,fun _ _=>⟨{xC t with id:=t.i+1,time:=a6 t.c,least:=zI t.c.least 0 (xC t).qty},rfl,rfl,rfl,rfl,rfl,rfl,rfl,rfl,rfl,?_,by(repeat'(first|exact trivial|exact rfl|apply And.intro))⟩⟩) (fun e=>⟨{xC t with id:=t.i+1,time:=a6 t.c},rfl,rfl,rfl,rfl,rfl,rfl,rfl,rfl,rfl,?_,by(repeat'(first|exact trivial|exact rfl|apply And.intro))⟩)⟩,fun c hcc=> ?_⟩
  ·have e:t.c.least.tmod 4=1:=by simpa using e
   rw[eD,yWl e]
  ·have e:¬t.c.least.tmod 4=1:=by simpa using e
   rw[eD,yWk e];rfl
  subst hcc
  refine⟨⟨t.p,(xC t).inst⟩,rfl,rfl,rfl,rfl,rfl,rfl,rfl,rfl,rfl,rfl,rfl,rfl,hs,fun _ _=> ?_⟩
  dsimp only
  have hp:(xC t).price=t.p.tick*zI t.c.price 0 9:=rfl
  have hk1:(xC t).kind=1:=k
  rw[w64 (x:=8*t.p.tick) (by omega),w64 (x:=4*t.p.tick) (by omega),w64 (x:=(xC t).price+8*t.p.tick) (by omega),w64 (x:=(xC t).price-4*t.p.tick) (by omega)]
  refine Cv.cnd.mk (fun e=>⟨(),?_⟩) (fun e=>⟨(),?_⟩)
  ·have e:(t.p.legs (xC t).inst).2.2=false:=by simpa using e
   have:qR t={xC t with id:=t.i+1,time:=a6 t.c,least:=eD t.c (xC t).qty,price:=(xC t).price+8*t.p.tick}:=by
    simp only[qR,hk1,if_true,e,yXe,if_false]
   rw[this];(repeat'(first|exact trivial|exact rfl|apply And.intro))
  ·have e:(t.p.legs (xC t).inst).2.2=true:=by simpa using e
   have:qR t={xC t with id:=t.i+1,time:=a6 t.c,least:=eD t.c (xC t).qty,price:=(xC t).price-4*t.p.tick}:=by
    simp only[qR,hk1,if_true,e]
   rw[this];(repeat'(first|exact trivial|exact rfl|apply And.intro))
 ·have k:¬mA t.c=1:=by simpa using k
  have k:¬(xC t).kind=1:=k
  rw[w64 (x:=5*t.p.tick) (by omega),w64 (x:=t.p.tick*zI t.c.price 0 9+5*t.p.tick) (by omega)]
  have et:qR t={xC t with price:=if(xC t).kind=4 then(xC t).price+5*t.p.tick else(xC t).price,side:=0,inst:=0}:=by
   simp only[qR,k,if_false]
  rw[et]
  refine Cv.cnd.mk (fun e=>⟨(),?_⟩) (fun e=>⟨(),?_⟩)
  ·have e:mA t.c=4:=by simpa using e
   have e:(xC t).kind=4:=e
   simp only[yWl e];(repeat'(first|exact trivial|exact rfl|apply And.intro))
  ·have e:¬mA t.c=4:=by simpa using e
   have e:¬(xC t).kind=4:=e
   simp only[yWk e];(repeat'(first|exact trivial|exact rfl|apply And.intro))
theorem yGc:tameC.ok Tryz.prog 51:=okw mixed (gokc within_ok (gokc z1e (gokc z8i gok0))) 0 (fun _=>ySf) (fun _=>[]) [] Tryz.func51 yTh
open Go Cv Go.Proofs
structure ShI where
 a:Int
 b:Int
 c:Int
def add64C:Con:=con1 ShI (fun i=>[zAk i.a,zAk i.b,zAk i.c]) (fun _=>[]) (fun i=>0≤i.a∧0≤i.b∧0≤i.c∧i.c≤1) (fun i=> .tup [zAk ((i.a+i.b+i.c) % 18446744073709551616),zAk ((i.a+i.b+i.c) / 18446744073709551616)]) (fun _=>[])
theorem z7l {P : Program} {f : FuncId} {fn : Func} (hf : P.funcs[f]? = some fn) (hname : (fn.name == "runtime.NumGoroutine") = false) (hb : fn.body.isNone = true) (hn : Extern.findNext fn = none) (he : Extern.find fn = some add64Entry) : add64C.ok P f := by
 intro i hc k L E w ys R hv
 obtain⟨h1,h2,h3,h4⟩:0≤i.a∧0≤i.b∧0≤i.c∧i.c≤1:=hc
 simp only[add64C,con1,VRL,VR,DR]at hv
 obtain⟨_,_,rfl,⟨rfl,_⟩,_,_,rfl,⟨rfl,_⟩,_,_,rfl,⟨rfl,_⟩,rfl⟩:=hv
 unfold Does
 rw[run_callFunc_extern hf hname hb hn he,run_add64 i.a i.b i.c h1 h2 h3 h4]
 simp only[Result.andThen]
 refine⟨_,yXx.2 rfl,(),trivial,E,Ev.le.refl _,?_,R⟩
 simp only[add64C,con1,VR,VRL,DR]
 exact⟨_,rfl,_,_,rfl,⟨rfl,rfl⟩,_,_,rfl,⟨rfl,rfl⟩,rfl⟩
theorem z5w:add64C.ok Tryz.prog 328:=by
 refine z7l (P:=Tryz.prog) (f:=328) (fn:=Tryz.f328) Tryz.func328 ?_ ?_ ?_ ?_
 ·kernel_rfl
 ·kernel_rfl
 ·kernel_rfl
 ·kernel_rfl
structure M2 where
 a:Int
 b:Int
def mul64C:Con:=con1 M2 (fun i=>[zAk i.a,zAk i.b]) (fun _=>[]) (fun i=>0≤i.a∧i.a≤2000000000∧0≤i.b∧i.b≤2000000000) (fun i=> .tup [zAk 0,zAk (i.a*i.b)]) (fun _=>[])
def div64C:Con:=con1 M2 (fun i=>[zAk 0,zAk i.a,zAk i.b]) (fun _=>[]) (fun i=>0≤i.a∧i.a≤4000000000000000000∧1≤i.b∧i.b≤2000000000) (fun i=> .tup [zAk (i.a / i.b),zAk (i.a % i.b)]) (fun _=>[])
def ishareC:Con:=con1 ShI (fun i=>[zA i.a,zA i.b,zA i.c]) (fun _=>[]) (fun i=>0≤i.a∧i.a≤2000000000∧0≤i.b∧i.b≤2000000000∧1≤i.c∧i.c≤2000000000) (fun i=> .tup [zA (i.a*i.b / i.c),yG true]) (fun _=>[])
def isumC:Con:=con1 (List Int) (fun l=>[iV l]) (fun _=>[]) (fun l=>l.length≤1000∧∀x∈l,0≤x∧x≤1000000) (fun l=> .tup [zA l.sum,yG true]) (fun _=>[])
def yUi (l:List Int):List SAnn:=[{ι:=Nat,slots:=fun j=>[(4,zAk (l.take j).sum),(5,zA 0),(11,zA j)],rows:=fun _=>[]}]
structure LqI where
 l:List Int
 q:Int
def yT (l:List Int) (q:Int):Bool:=decide (l.length≤250) && decide (0≤q) && l.all (fun n=>decide (1≤n) && decide (n≤1000000)) && decide (q≤l.sum)
def rightC:Con:=con1 LqI (fun i=>[iV i.l,zA i.q]) (fun _=>[]) (fun i=>i.l.length≤1000000∧yV i.q) (fun i=>yG (yT i.l i.q)) (fun _=>[])
def yQo (i:LqI):List SAnn:=[{ι:=Nat,slots:=fun j=>[(5,zA (i.l.take j).sum),(17,zA j)],rows:=fun _=>[]}]
def uM:List Int→Int→List Int
 |[],_=>[]
 |n::l,q=>min n q::uM l (q-min n q)
def uZ (l:List Int) (q:Int):List Int:=if yT l q=true then uM l q else[]
def fifoC:Con:=con1 LqI (fun i=>[iV i.l,zA i.q]) (fun _=>[]) (fun i=>i.l.length≤1000000∧yV i.q) (fun _=> .own 0) (fun i=>[.own 2 1 (iE (uZ i.l i.q))])
def yRo (i:LqI):List SAnn:=[{ι:=Nat,slots:=fun j=>[(5,.own 0),(1,zA (i.q-((uM i.l i.q).take j).sum)),(15,zA j)],rows:=fun j=>[.own 2 1 (iE ((uM i.l i.q).take j))]}]
open Go Cv Go.Proofs
def zAn (a:M2):=(IntKind.u64.wrap (IntKind.u64.wrap (sB IntKind.u64 a.a 32*zHy IntKind.u64 a.b 4294967295)+sB IntKind.u64 (IntKind.u64.wrap (zHy IntKind.u64 a.a 4294967295*zHy IntKind.u64 a.b 4294967295)) 32))
def yFd (i:M2):Prop:=
 (0:Int)≤(32:Int)∧(0:Int)≤(32:Int)∧(0:Int)≤(32:Int)∧(0:Int)≤(32:Int)∧(0:Int)≤(32:Int)∧∃(a:Unit),0=IntKind.u64.wrap (IntKind.u64.wrap (IntKind.u64.wrap (sB IntKind.u64 i.a 32*sB IntKind.u64 i.b 32)+sB IntKind.u64 (zAn i) 32)+sB IntKind.u64 (IntKind.u64.wrap (zHy IntKind.u64 (zAn i) 4294967295+IntKind.u64.wrap (zHy IntKind.u64 i.a 4294967295*sB IntKind.u64 i.b 32))) 32)∧i.a*i.b=IntKind.u64.wrap (i.a*i.b)∧True
def z8v (i:M2):Prop:=
 cnd (i.b==0) False (cnd (decide (i.b≤0)) False (IntKind.u64=IntKind.u64∧i.b≠0∧IntKind.u64=IntKind.u64∧i.b≠0∧∃(a:Unit),i.a / i.b=IntKind.u64.wrap (i.a.tdiv i.b)∧i.a % i.b=i.a.tmod i.b∧True))
def z4a (i:ShI):Prop:=
 cnd (decide (i.a<0)) (∃(a:Unit),i.a*i.b / i.c=0∧true=false∧True) (cnd (decide (i.b<0)) (∃(a:Unit),i.a*i.b / i.c=0∧true=false∧True) (cnd (decide (i.c<1)) (∃(a:Unit),i.a*i.b / i.c=0∧true=false∧True) (∃(a:M2),a.a=IntKind.u64.wrap i.a∧a.b=IntKind.u64.wrap i.b∧(0≤a.a∧a.a≤(2000000000:Int)∧(0:Int)≤a.b∧a.b≤2000000000)∧∀(b:Unit),True→cnd (decide (0≥IntKind.u64.wrap i.c)) (∃(c:Unit),i.a*i.b / i.c=0∧true=false∧True) (∃(c:M2),(0:Int)=(0:Int)∧c.a=a.a*a.b∧c.b=IntKind.u64.wrap i.c∧(0≤c.a∧c.a≤(4000000000000000000:Int)∧(1:Int)≤c.b∧c.b≤2000000000)∧∀(d:Unit),True→cnd (decide (c.a / c.b>9223372036854775807)) (∃(e:Unit),i.a*i.b / i.c=0∧true=false∧True) (∃(e:Unit),i.a*i.b / i.c=IntKind.i64.wrap (c.a / c.b)∧true=true∧True)))))
def yLm (l:List Int):Prop:=
 ∃(a:Nat),(List.take a l).sum=(0:Int)∧(0:Int)=0∧(↑a:Int)=0∧∃(b:Nat→Prop),∃(c:Nat→Nat),b a∧∀(d:Nat),b d→cnd (decide ((↑d:Int)<(↑(iE l).length:Int))) ((0≤(↑d:Int)∧(↑d:Int)<(↑(iE l).length:Int))∧∃(e:Int),zF (iE l) (↑d:Int).toNat 0 1=some [dI e]∧∃(f:ShI),f.a=(List.take d l).sum∧f.b=IntKind.u64.wrap e∧f.c=0∧(0≤f.a∧0≤f.b∧0≤f.c∧f.c≤1)∧∀(g:Unit),True→(0:Int)≤(63:Int)∧∃(h:Nat),(List.take h l).sum=(f.a+f.b+f.c) % (18446744073709551616:Int)∧(0:Int)=IntKind.i64.wrap (0+IntKind.i64.wrap (sB IntKind.i64 e 63+IntKind.i64.wrap ((f.a+f.b+f.c) / (18446744073709551616:Int))))∧wC h d b c) ((0:Int)≤(63:Int)∧cnd (0 !=sB IntKind.i64 (IntKind.i64.wrap (List.take d l).sum) 63) (∃(e:Unit),l.sum=0∧true=false∧True) (∃(e:Unit),l.sum=IntKind.i64.wrap (List.take d l).sum∧true=true∧True))
def z9l (i:LqI):Prop:=
 cnd (decide ((↑(iE i.l).length:Int)>250)) (∃(a:Unit),yT i.l i.q=false∧True) (cnd (decide (i.q<0)) (∃(a:Unit),yT i.l i.q=false∧True) (∃(a:Nat),(List.take a i.l).sum=0∧(↑a:Int)=0∧∃(b:Nat→Prop),∃(c:Nat→Nat),b a∧∀(d:Nat),b d→cnd (decide ((↑d:Int)<(↑(iE i.l).length:Int))) ((0≤(↑d:Int)∧(↑d:Int)<(↑(iE i.l).length:Int))∧∃(e:Int),zF (iE i.l) (↑d:Int).toNat 0 1=some [dI e]∧cnd (decide (e<1)) (∃(f:Unit),yT i.l i.q=false∧True) (cnd (decide (e>1000000)) (∃(f:Unit),yT i.l i.q=false∧True) (∃(f:Nat),(List.take f i.l).sum=IntKind.i64.wrap ((List.take d i.l).sum+e)∧wC f d b c))) (∃(e:Unit),yT i.l i.q=decide (i.q≤(List.take d i.l).sum)∧True)))
def j0 (a:LqI):Prop:=a.l.length≤(1000000:Nat)∧(-9223372036854775808:Int)≤a.q∧a.q≤9223372036854775807
def jZ (a:Nat) (b:LqI):=(List.take a (uM b.l b.q))
def yKo (i:LqI):Prop:=
 ∃(a:LqI),iE a.l=iE i.l∧a.q=i.q∧(j0 a)∧∀(b:Unit),True→cnd (!yT a.l a.q) (∃(c:Unit),iE (uZ i.l i.q)=[]∧True) (∃(c:Nat),i.q-(jZ c i).sum=i.q∧(↑c:Int)=0∧iE (jZ c i)=[]∧∃(d:Nat→Prop),∃(e:Nat→Nat),d c∧∀(f:Nat),d f→cnd (decide ((↑f:Int)<(↑(iE i.l).length:Int))) ((0≤(↑f:Int)∧(↑f:Int)<(↑(iE i.l).length:Int))∧∃(g:Int),zF (iE i.l) (↑f:Int).toNat 0 1=some [dI g]∧((iE (jZ f i)).length+1)*(8:Nat)≤(140737488355328:Nat)∧∃(h:Nat),i.q-(jZ h i).sum=IntKind.i64.wrap (i.q-(jZ f i).sum-min g (i.q-(jZ f i).sum))∧(↑h:Int)=IntKind.i64.wrap ((↑f:Int)+1)∧iE (jZ h i)=iE (jZ f i)++[[dI (min g (i.q-(jZ f i).sum))]]∧d h∧e h<e f∧True) (∃(g:Unit),iE (uZ i.l i.q)=iE (jZ f i)∧True))
open Go Cv Go.Proofs
theorem zSn {x:Int} (h0:0≤x) (h1:x<4294967296):zHy .u64 x 4294967295=x:=by
 have e:zHy .u64 x 4294967295=IntKind.u64.wrap ((BitVec.ofInt 64 x &&& BitVec.ofInt 64 4294967295).toNat:Int):=rfl
 obtain⟨n,rfl⟩:=Int.eq_ofNat_of_zero_le h0
 have hn:n<4294967296:=by omega
 rw[e,BitVec.toNat_and,BitVec.ofInt_natCast,BitVec.toNat_ofNat,show(BitVec.ofInt 64 4294967295).toNat=2 ^ 32-1 by decide,Nat.and_two_pow_sub_one_eq_mod]
 rw[show n % 2 ^ 64 % 2 ^ 32=n by omega,zMl (by omega)]
theorem zIk {x:Int} (h0:0≤x) (h1:x<4294967296):sB .u64 x 32=0:=by
 have:=zIm .u64 x 32 (by decide)
 rw[show((32:Nat):Int)=32 by rfl]at this
 rw[this];omega
theorem z3g {a b m n:Int} (ha:0≤a∧a≤m) (hb:0≤b∧b≤n):0≤a*b∧a*b≤m*n:=
 ⟨y2s ha.1 hb.1,Int.mul_le_mul ha.2 hb.2 hb.1 (by omega)⟩
theorem yPj (i:M2) (h:mul64C.cnd i):yFd i:=by
 obtain⟨h1,h2,h3,h4⟩:0≤i.a∧i.a≤2000000000∧0≤i.b∧i.b≤2000000000:=h
 have hm:=z3g ⟨h1,h2⟩ ⟨h3,h4⟩
 have hs:sB IntKind.u64 (i.a*i.b) 32=(i.a*i.b) / 4294967296:=by
  have:=zIm .u64 (i.a*i.b) 32 (by decide)
  rw[show((32:Nat):Int)=32 by rfl]at this
  exact this
 unfold yFd zAn
 refine⟨by decide,by decide,by decide,by decide,by decide,(),?_,?_,trivial⟩
 ·rw[zSn h1 (by omega),zSn h3 (by omega),zIk h1 (by omega),zIk h3 (by omega),zMl (x:=i.a*i.b) (by omega),hs]
  simp only[Int.zero_mul,Int.mul_zero,Int.zero_add,Int.add_zero]
  rw[zMl (x:=0) (by omega)]
  simp only[Int.zero_add,Int.add_zero]
  rw[zMl (x:=i.a*i.b / 4294967296) (by omega),zIk (x:=i.a*i.b / 4294967296) (by omega) (by omega),zSn (x:=i.a*i.b / 4294967296) (by omega) (by omega),zMl (x:=i.a*i.b / 4294967296) (by omega),zIk (x:=i.a*i.b / 4294967296) (by omega) (by omega)]
  rfl
 ·rw[zMl (by omega)]
theorem yBk:mul64C.ok Tryz.prog 313:=okw mixed gok0 0 (fun _=>[]) (fun _=>[]) [] Tryz.func313 yPj
theorem yPn (i:M2) (h:div64C.cnd i):z8v i:=by
 obtain⟨h1,h2,h3,h4⟩:0≤i.a∧i.a≤4000000000000000000∧1≤i.b∧i.b≤2000000000:=h
 unfold z8v
 have hd:0≤i.a / i.b∧i.a / i.b≤i.a:=⟨Int.ediv_nonneg h1 (by omega),Int.ediv_le_self _ h1⟩
 refine Cv.cnd.mk (fun c=>absurd (eq_of_beq c) (by omega)) (fun _=>zK (fun c=>by omega) (fun _=>⟨rfl,by omega,rfl,by omega,(),?_,?_,trivial⟩))
 ·rw[Int.tdiv_eq_ediv_of_nonneg h1,zMl (by omega)]
 ·rw[Int.tmod_eq_emod_of_nonneg h1]
theorem z9s:div64C.ok Tryz.prog 314:=okw mixed gok0 0 (fun _=>[]) (fun _=>[]) [] Tryz.func314 yPn
theorem yGj (i:ShI) (h:ishareC.cnd i):z4a i:=by
 obtain⟨h1,h2,h3,h4,h5,h6⟩:0≤i.a∧i.a≤2000000000∧0≤i.b∧i.b≤2000000000∧1≤i.c∧i.c≤2000000000:=h
 have hm:=z3g ⟨h1,h2⟩ ⟨h3,h4⟩
 have hd:0≤i.a*i.b / i.c∧i.a*i.b / i.c≤i.a*i.b:=⟨Int.ediv_nonneg hm.1 (by omega),Int.ediv_le_self _ hm.1⟩
 unfold z4a
 rw[zMl (x:=i.a) (by omega),zMl (x:=i.b) (by omega),zMl (x:=i.c) (by omega)]
 refine zK (fun c=>by omega) (fun _=>zK (fun c=>by omega) (fun _=>zK (fun c=>by omega) (fun _=>⟨⟨i.a,i.b⟩,rfl,rfl,⟨h1,h2,h3,h4⟩,fun _ _=>zK (fun c=>by omega) (fun _=>⟨⟨i.a*i.b,i.c⟩,rfl,rfl,rfl,⟨hm.1,by dsimp only;omega,h5,h6⟩,fun _ _=>zK (fun c=>by dsimp only at c;omega) (fun _=>⟨(),?_,rfl,trivial⟩)⟩)⟩)))
 rw[w64 (by dsimp only;omega)]
theorem zPi:ishareC.ok Tryz.prog 307:=okw mixed (gokc yBk (gokc z9s gok0)) 0 (fun _=>[]) (fun _=>[]) [] Tryz.func307 yGj
theorem wjn {j:Nat} (h:j≤1000000):((j+1:Nat):Int)=IntKind.i64.wrap ((j:Int)+1):=by rw[w64 (by omega)];rfl
theorem jQ {l:List Int} {j:Nat} {x:Int} (h:l[j]? =some x):(l.take (j+1)).sum=(l.take j).sum+x:=by
 rw[yXw,h];simp
theorem jL {l:List Int} (h:∀x∈l,0≤x∧x≤1000000):∀j:Nat,0≤(l.take j).sum∧(l.take j).sum≤1000000*j
 |0=>by simp
 |j+1=>by
  have ih:=jL h j
  cases hx:l[j]? with
  |none=>
   have:l.take (j+1)=l.take j:=by
    rw[yXw,hx];simp
   rw[this];omega
  |some x=>
   have:=h x (yWu hx)
   rw[jQ hx];omega
theorem ySo (l:List Int) (h:isumC.cnd l):yLm l:=by
 obtain⟨hl,hb⟩:l.length≤1000∧∀x∈l,0≤x∧x≤1000000:=h
 unfold yLm wC dI
 simp only[xF]
 refine⟨0,by(first|exact rfl|exact trivial),by(first|exact rfl|exact trivial),by(first|exact rfl|exact trivial),fun j=>j≤l.length,fun j=>l.length-j,yYa _,fun j hj=>zK (fun c=> ?_) (fun c=> ?_)⟩
 ·have hj':j<l.length:=by omega
  obtain⟨x,hx⟩:=z6 (l:=l) (i:=j) hj'
  have bx:=hb x (yWu hx)
  have bs:=jL hb j
  refine⟨⟨by omega,by omega⟩,x,elI hx,⟨(l.take j).sum,x,0⟩,rfl,by rw[zMl (by omega)],rfl,⟨bs.1,bx.1,by dsimp only;omega,by dsimp only;omega⟩,fun _ _=>⟨by decide,j+1,?_,?_,wjn (by omega),hj',by dsimp only;omega,trivial⟩⟩
  ·rw[jQ hx];dsimp only;omega
  ·have e:sB IntKind.i64 x 63=x / 9223372036854775808:=by
    have:=zIm .i64 x 63 (by decide)
    rw[show((63:Nat):Int)=63 by rfl]at this
    exact this
   dsimp only
   rw[e,show x / 9223372036854775808=0 by omega,show((l.take j).sum+x+0) / 18446744073709551616=0 by omega]
   rfl
 ·have hj':j=l.length:=by omega
  subst hj'
  have bs:=jL hb l.length
  rw[yZz]at bs
  have e:sB IntKind.i64 l.sum 63=l.sum / 9223372036854775808:=by
   have:=zIm .i64 l.sum 63 (by decide)
   rw[show((63:Nat):Int)=63 by rfl]at this
   exact this
  rw[yZz,w64 (x:=l.sum) (by omega),e,show l.sum / 9223372036854775808=0 by omega]
  exact⟨by decide,Cv.cnd.mk (fun c=>absurd c (by decide)) (fun _=>⟨(),by(first|exact rfl|exact trivial),by(first|exact rfl|exact trivial),trivial⟩)⟩
theorem yHu:isumC.ok Tryz.prog 319:=okw mixed (gokc z5w gok0) 0 (fun _=>[]) (fun l=>yUi l) [] Tryz.func319 ySo
theorem yRe (i:LqI) (h:rightC.cnd i):z9l i:=by
 obtain⟨hl,hq⟩:i.l.length≤1000000∧yV i.q:=h
 unfold z9l wC dI
 simp only[xF]
 refine zK (fun c=>⟨(),?_,trivial⟩) (fun c1=>zK (fun c=>⟨(),?_,trivial⟩) (fun c2=> ?_))
 ·rw[yT,yWx (by omega:¬i.l.length≤250)];rfl
 ·rw[yT,yWx (by omega:¬0≤i.q)];simp
 refine⟨0,by(first|exact rfl|exact trivial),by(first|exact rfl|exact trivial),fun j=>j≤i.l.length∧∀k<j,∀x,i.l[k]? =some x→1≤x∧x≤1000000,fun j=>i.l.length-j,⟨yYa _,fun k hk=>absurd hk (Nat.not_lt_zero k)⟩,fun j hj=>zK (fun c=> ?_) (fun c=> ?_)⟩
 ·obtain⟨hj0,hjb⟩:=hj
  have hj':j<i.l.length:=by omega
  obtain⟨x,hx⟩:=z6 (l:=i.l) (i:=j) hj'
  have bad (hn:¬(1≤x∧x≤1000000)):yT i.l i.q=false:=by
   have:(i.l.all fun n=>decide (1≤n) && decide (n≤1000000))=false:=by
    rw[List.all_eq_false]
    exact⟨x,yWu hx,by simpa using hn⟩
   rw[yT,this];simp
  have bs:0≤(i.l.take j).sum∧(i.l.take j).sum≤1000000*j:=by
   have:=jL (l:=i.l.take j) (fun y hy=>by
    obtain⟨k,hk⟩:=yZd.1 hy
    have hkj:k<j:=by
     have:=(yWn.1 hk).1
     rw[yXg]at this;omega
    rw[List.getElem?_take_of_lt hkj]at hk
    have:=hjb k hkj y hk;omega) j
   rwa [List.take_take,Nat.min_self]at this
  refine⟨⟨by omega,by omega⟩,x,elI hx,zK (fun d=>⟨(),bad (by omega),trivial⟩) (fun d=>zK (fun e=>⟨(),bad (by omega),trivial⟩) (fun e=>⟨j+1,?_,wjn (by omega),⟨hj',fun k hk y hy=> ?_⟩,by dsimp only;omega,trivial⟩))⟩
  ·rw[jQ hx,w64 (by omega)]
  ·by_cases hkj:k=j
   ·rw[hkj,hx]at hy;cases hy;omega
   ·exact hjb k (by omega) y hy
 ·obtain⟨hj0,hjb⟩:=hj
  have hj':j=i.l.length:=by omega
  subst hj'
  have:(i.l.all fun n=>decide (1≤n) && decide (n≤1000000))=true:=by
   rw[yZu]
   intro y hy
   obtain⟨k,hk⟩:=yZd.1 hy
   have:=hjb k ((yWn.1 hk).1) y hk
   simpa using this
  refine⟨(),?_,trivial⟩
  rw[yT,this,yXb (by omega:i.l.length≤250),yXb (by omega:0≤i.q),yZz]
  rfl
theorem zCq:rightC.ok Tryz.prog 305:=okw mixed gok0 0 (fun _=>[]) (fun i=>yQo i) [] Tryz.func305 yRe
theorem kW {l:List Int} {q:Int} (h:yT l q=true):l.length≤250∧0≤q∧(∀x∈l,1≤x∧x≤1000000)∧q≤l.sum:=by
 simp only[yT,yXa,yYm,yZu]at h
 exact⟨h.1.1.1,h.1.1.2,h.1.2,h.2⟩
theorem zIj {l:List Int} {q:Int} (h:yT l q=true):q≤250000000:=by
 obtain⟨h1,h2,h3,h4⟩:=kW h
 have:=jL (l:=l) (fun x hx=>by have:=h3 x hx;omega) l.length
 rw[yZz]at this
 omega
theorem tG:∀(l:List Int) (q:Int),(uM l q).length=l.length
 |[],_=>rfl
 |n::l,q=>by rw[uM,yWs,yWs,tG l]
theorem zLw:∀(l:List Int) (q:Int) (j:Nat) (n:Int),l[j]? =some n→(uM l q)[j]? =some (min n (q-((uM l q).take j).sum))
 |[],_,_,_,h=>by simp at h
 |m::l,q,0,n,h=>by simp at h;subst h;simp[uM]
 |m::l,q,j+1,n,h=>by
  rw[yYe]at h
  rw[uM,yYe,zLw l _ j n h,yXv,yXy]
  congr 2;omega
theorem zEb:∀(l:List Int) (q:Int) (j:Nat),0≤q→(∀x∈l,0≤x)→0≤q-((uM l q).take j).sum∧q-((uM l q).take j).sum≤q
 |[],q,j,h,_=>by simp[uM,h]
 |m::l,q,0,h,_=>by simp[h]
 |m::l,q,j+1,h,hb=>by
  have hm:=hb m yWr
  have:=zEb l (q-min m q) j (by omega) (fun x hx=>hb x (yWq _ hx))
  rw[uM,yXv,yXy]
  omega
theorem ySg (i:LqI) (h:fifoC.cnd i):yKo i:=by
 obtain⟨hl,hq⟩:i.l.length≤1000000∧yV i.q:=h
 unfold yKo jZ j0 dI
 refine⟨i,rfl,rfl,⟨hl,hq⟩,fun _ _=>Cv.cnd.mk (fun c=> ?_) (fun c=> ?_)⟩
 ·have c:yT i.l i.q=false:=by simpa using c
  refine⟨(),?_,trivial⟩
  rw[uZ,yWk (by rw[c];decide)];rfl
 have c:yT i.l i.q=true:=by simpa using c
 obtain⟨h1,h2,h3,h4⟩:=kW c
 have hq2:=zIj c
 have h3':∀x∈i.l,0≤x:=fun x hx=>by have:=h3 x hx;omega
 simp only[xF]
 refine⟨0,by simp,rfl,rfl,fun j=>j≤i.l.length,fun j=>i.l.length-j,yYa _,fun j hj=>zK (fun d=> ?_) (fun d=> ?_)⟩
 ·have hj':j<i.l.length:=by omega
  obtain⟨x,hx⟩:=z6 (l:=i.l) (i:=j) hj'
  have bx:=h3 x (yWu hx)
  have g:=zLw i.l i.q j x hx
  have r:=zEb i.l i.q j h2 h3'
  refine⟨⟨by omega,by omega⟩,x,elI hx,by rw[yXg];omega,j+1,?_,wjn (by omega),?_,hj',by dsimp only;omega,trivial⟩
  ·rw[jQ g,w64 (by omega)];omega
  ·rw[yXw,g];simp[iE]
 ·have hj':j=i.l.length:=by omega
  subst hj'
  refine⟨(),?_,trivial⟩
  rw[uZ,yWl c,yXc (by rw[tG];omega)]
theorem z3s:fifoC.ok Tryz.prog 286:=okw mixed (gokc zCq gok0) 0 (fun _=>[]) (fun i=>yRo i) [] Tryz.func286 ySg
open Go Cv Go.Proofs
structure Ent where
 slot:Int
 id:Int
 qty:Int
 top:Bool
 deriving DecidableEq
def ySe:Ent:=⟨0,0,0,false⟩
def zHs (e:Ent):List D:=[.v (.int .i64 e.slot),.v (.int .i64 e.id),.v (.int .i64 e.qty),.v (.bool e.top)]
@[reducible] def yVv (e:Ent):V:= .agg [zA e.slot,zA e.id,zA e.qty,yG e.top]
def Slot.ent (s:Slot):Ent:=⟨s.n,s.id,s.qty,s.top⟩
def Arena.slotAt (a:Arena) (k:Nat):Slot:=a.slots.getD k slot0
def Arena.getF (a:Arena) (n:Int):Ent×Bool:=if a.usedAt n=true then((a.slotAt n.toNat).ent,true)else(ySe,false)
def agetC:Con:=con1 ArN (fun i=>[.nm 0 0,zA i.n]) (fun i=>[jP i.a]) (fun i=>i.a.slots.length≤1000000) (fun i=> .tup [yVv (i.a.getF i.n).1,yG (i.a.getF i.n).2]) (fun i=>[jP i.a])
def zXi (sl:List Slot):Int→List Nat→Prop
 |at_,[]=>at_= -1
 |at_,k::l=>at_=k∧k<sl.length∧zXi sl (sl.getD k slot0).back l
structure ArL where
 a:Arena
 n:Int
 l:List Nat
def rZ (l:List Nat) (j:Nat):Int:=match l[j]? with
 |some k=>k
 |none=> -1
def Arena.ents (a:Arena) (l:List Nat):List Ent:=l.map fun k=>(a.slotAt k).ent
structure Arena.listOk (a:Arena) (n:Int) (l:List Nat):Prop where
 len:l.length≤1000000
 ch:if 0≤n∧n<a.queues.length then zXi a.slots (a.queues.getD n.toNat bL).first l else l=[]
def alistC:Con:=con1 ArL (fun i=>[.nm 0 0,zA i.n]) (fun i=>[jP i.a]) (fun i=>i.a.listOk i.n i.l) (fun _=> .own 1) (fun i=>[jP i.a,.own 326 4 ((i.a.ents i.l).map zHs)])
def yPi (i:ArL):List SAnn:=[{ι:=Nat,slots:=fun j=>[(5,.own 0),(6,zA (rZ i.l j))],rows:=fun j=>[.own 326 4 ((i.a.ents (i.l.take j)).map zHs)]}]
structure TkI where
 a:Arena
 n:Int
 qty:Int
def Arena.dropF (a:Arena) (k:Nat):Arena:=
 let s:=a.slotAt k
 let q:=a.queues.getD s.queue.toNat bL
 let sl1:=if s.ahead= -1 then a.slots else a.slots.modify s.ahead.toNat fun x=>{x with back:=s.back}
 let sl2:=if s.back= -1 then sl1 else sl1.modify s.back.toNat fun x=>{x with ahead:=s.ahead}
 ⟨sl2.set k slot0,a.queues.set s.queue.toNat ⟨if s.ahead= -1 then s.back else q.first,if s.back= -1 then s.ahead else q.last,q.total,IntKind.i64.wrap (q.count-1)⟩,IntKind.i64.wrap (a.free+1)⟩
def Arena.less (a:Arena) (k:Nat) (qty:Int):Arena:=
 {a with slots:=a.slots.modify k fun s=>{s with qty:=s.qty-qty},queues:=a.queues.modify (a.slotAt k).queue.toNat fun q=>{q with total:=IntKind.i64.wrap (q.total-qty)}}
def Arena.takeF (a:Arena) (n qty:Int):Arena×Int:=
 if a.usedAt n=false then(a,26)else if qty<1∨(a.slotAt n.toNat).qty<qty then(a,24)
 else if(a.slotAt n.toNat).qty=qty then((a.less n.toNat qty).dropF n.toNat,0)else(a.less n.toNat qty,0)
def Arena.okAt (a:Arena):Prop:=a.slots.length≤1000000∧∀(k:Nat) (s:Slot),a.slots[k]? =some s→s.used=true→(0≤s.queue∧s.queue<a.queues.length)∧s.qty≤1000000∧(s.ahead= -1∨(0≤s.ahead∧s.ahead<a.slots.length∧s.ahead≠k))∧(s.back= -1∨(0≤s.back∧s.back<a.slots.length∧s.back≠k))
def atakeC:Con:=con1 TkI (fun i=>[.nm 0 0,zA i.n,zA i.qty]) (fun i=>[jP i.a]) (fun i=>i.a.okAt) (fun i=>zA (i.a.takeF i.n i.qty).2) (fun i=>[jP (i.a.takeF i.n i.qty).1])
open Go Cv Go.Proofs
def lN (a:ArN):Prop:=∃(b:Unit),(a.a.getF a.n).fst.slot=0∧(a.a.getF a.n).fst.id=0∧(a.a.getF a.n).fst.qty=0∧(a.a.getF a.n).fst.top=false∧(a.a.getF a.n).snd=false∧jE a
def yKv (i:ArN):Prop:=
 cnd (decide (i.n<0)) (lN i) (cnd (decide (i.n≥(↑(List.map zR i.a.slots).length:Int))) (lN i) ((0≤i.n∧i.n<(↑(List.map zR i.a.slots).length:Int))∧∃(a:Bool),zF (List.map zR i.a.slots) i.n.toNat ((0:Nat)+(0:Nat)) 1=some [D.v (.bool a)]∧cnd (!a) (lN i) ((0≤i.n∧i.n<(↑(List.map zR i.a.slots).length:Int))∧∃(b:Int),∃(c:Int),∃(d:Int),∃(e:Bool),zF (List.map zR i.a.slots) i.n.toNat ((0:Nat)+(1:Nat)) 4=some [dI b,dI c,dI d,D.v (.bool e)]∧∃(f:Unit),(i.a.getF i.n).fst.slot=b∧(i.a.getF i.n).fst.id=c∧(i.a.getF i.n).fst.qty=d∧(i.a.getF i.n).fst.top=e∧(i.a.getF i.n).snd=true∧jE i)))
def zAa (a:ArL):Prop:=∃(b:Unit),a.a.free=a.a.free∧List.map zR a.a.slots=List.map zR a.a.slots∧List.map zQ a.a.queues=List.map zQ a.a.queues∧List.map zHs (a.a.ents a.l)=[]∧True
def yAa (i:ArL):Prop:=
 cnd (decide (i.n≥0)) (cnd (!decide (i.n<(↑(List.map zQ i.a.queues).length:Int))) (zAa i) ((0≤i.n∧i.n<(↑(List.map zQ i.a.queues).length:Int))∧∃(a:Int),zF (List.map zQ i.a.queues) i.n.toNat ((0:Nat)+(0:Nat)) 1=some [dI a]∧∃(b:Nat),rZ i.l b=a∧List.map zHs (i.a.ents (List.take b i.l))=[]∧∃(c:Nat→Prop),∃(d:Nat→Nat),c b∧∀(e:Nat),c e→cnd (rZ i.l e !=(-1)) ((0≤rZ i.l e∧rZ i.l e<(↑(List.map zR i.a.slots).length:Int))∧∃(f:Int),∃(g:Int),∃(h:Int),∃(j:Bool),zF (List.map zR i.a.slots) (rZ i.l e).toNat ((0:Nat)+(1:Nat)) 4=some [dI f,dI g,dI h,D.v (.bool j)]∧((List.map zHs (i.a.ents (List.take e i.l))).length+1)*(32:Nat)≤(140737488355328:Nat)∧(0≤rZ i.l e∧rZ i.l e<(↑(List.map zR i.a.slots).length:Int))∧∃(k:Int),zF (List.map zR i.a.slots) (rZ i.l e).toNat ((0:Nat)+(7:Nat)) 1=some [dI k]∧∃(l:Nat),rZ i.l l=k∧List.map zHs (i.a.ents (List.take l i.l))=List.map zHs (i.a.ents (List.take e i.l))++[[dI f,dI g,dI h,D.v (.bool j)]]∧c l∧d l<d e∧Sx.AObj.cells (vK (jB 0 1 3) [V.own 1,V.own 2,zA i.a.free]) (355:TypeId)=Sx.AObj.cells (vK (jB 0 1 3) [V.own 1,V.own 2,zA i.a.free]) (355:TypeId)∧AObj.own 362 8 (List.map zR i.a.slots)=AObj.own 362 8 (List.map zR i.a.slots)∧AObj.own 365 4 (List.map zQ i.a.queues)=AObj.own 365 4 (List.map zQ i.a.queues)) (∃(f:Unit),i.a.free=i.a.free∧List.map zR i.a.slots=List.map zR i.a.slots∧List.map zQ i.a.queues=List.map zQ i.a.queues∧List.map zHs (i.a.ents i.l)=List.map zHs (i.a.ents (List.take e i.l))∧True))) (zAa i)
def zBf (a:TkI):Prop:=(a.a.takeF a.n a.qty).fst.free=a.a.free∧List.map zR (a.a.takeF a.n a.qty).fst.slots=List.map zR a.a.slots∧List.map zQ (a.a.takeF a.n a.qty).fst.queues=List.map zQ a.a.queues∧True
def rP (a:TkI):Prop:=∃(b:Unit),(a.a.takeF a.n a.qty).snd=26∧zBf a
def zAz (a:TkI):Prop:=∃(b:Unit),(a.a.takeF a.n a.qty).snd=24∧zBf a
def y5 (a:TkI) (b:Int):=(zH (List.map zR a.a.slots) a.n.toNat ((0:Nat)+(1:Nat)+2) [dI (IntKind.i64.wrap (b-a.qty))])
def jS (a:TkI) (b:Int) (c:Int) (d:Int):=(zH (y5 a b) c.toNat ((0:Nat)+(7:Nat)) [dI d])
def zAs (a:TkI) (b:Int) (c:Int) (d:Int) (e:Int) (f:Int):=(zH (jS a b c d) e.toNat ((0:Nat)+(6:Nat)) [dI f])
def wK (a:TkI) (b:Int) (c:Int):=(zH (List.map zQ a.a.queues) b.toNat ((0:Nat)+(2:Nat)) [dI (IntKind.i64.wrap (c-a.qty))])
def dA (a:TkI) (b:Int) (c:Int) (d:Int) (e:Int):=(zH (wK a b c) d.toNat ((0:Nat)+(0:Nat)) [dI e])
def nW (a:TkI) (b:Int) (c:Int) (d:Int) (e:Int) (f:Int):=(zH (dA a b c d e) d.toNat ((0:Nat)+(1:Nat)) [dI f])
def zBq (a:TkI) (b:Int) (c:Int) (d:Int):=(zH (y5 a b) c.toNat ((0:Nat)+(6:Nat)) [dI d])
def zBo (a:Int) (b:TkI) (c:Int):Prop:=0≤a∧a<(↑(y5 b c).length:Int)
def rM (a:TkI) (b:Int) (c:Int) (d:Int) (e:Int):=(zH (wK a b c) d.toNat ((0:Nat)+(1:Nat)) [dI e])
def z9j (i:TkI):Prop:=
 cnd (decide (i.n<0)) (rP i) (cnd (decide (i.n≥(↑(List.map zR i.a.slots).length:Int))) (rP i) ((0≤i.n∧i.n<(↑(List.map zR i.a.slots).length:Int))∧∃(a:Bool),zF (List.map zR i.a.slots) i.n.toNat ((0:Nat)+(0:Nat)) 1=some [D.v (.bool a)]∧cnd (!a) (rP i) ((0≤i.n∧i.n<(↑(List.map zR i.a.slots).length:Int))∧cnd (decide (i.qty<1)) (zAz i) (∃(b:Int),zF (List.map zR i.a.slots) i.n.toNat ((0:Nat)+(1:Nat)+2) 1=some [dI b]∧cnd (decide (i.qty>b)) (zAz i) (∃(c:Int),zF (List.map zR i.a.slots) i.n.toNat ((0:Nat)+(1:Nat)+2) 1=some [dI c]∧i.n.toNat<(List.map zR i.a.slots).length∧∃(d:Int),zF (y5 i c) i.n.toNat ((0:Nat)+(5:Nat)) 1=some [dI d]∧(0≤d∧d<(↑(List.map zQ i.a.queues).length:Int))∧∃(e:Int),zF (List.map zQ i.a.queues) d.toNat ((0:Nat)+(2:Nat)) 1=some [dI e]∧(0≤d∧d<(↑(List.map zQ i.a.queues).length:Int))∧d.toNat<(List.map zQ i.a.queues).length∧∃(f:Int),zF (y5 i c) i.n.toNat ((0:Nat)+(1:Nat)+2) 1=some [dI f]∧cnd (f==0) (∃(g:Int),zF (y5 i c) i.n.toNat ((0:Nat)+(5:Nat)) 1=some [dI g]∧(0≤g∧g<(↑(wK i d e).length:Int))∧∃(h:Int),zF (y5 i c) i.n.toNat ((0:Nat)+(6:Nat)) 1=some [dI h]∧cnd (h==(-1)) (∃(j:Int),zF (y5 i c) i.n.toNat ((0:Nat)+(7:Nat)) 1=some [dI j]∧g.toNat<(wK i d e).length∧∃(k:Int),zF (y5 i c) i.n.toNat ((0:Nat)+(7:Nat)) 1=some [dI k]∧cnd (k==(-1)) (∃(l:Int),zF (y5 i c) i.n.toNat ((0:Nat)+(6:Nat)) 1=some [dI l]∧g.toNat<(dA i d e g j).length∧∃(m:Int),zF (nW i d e g j l) g.toNat ((0:Nat)+(3:Nat)) 1=some [dI m]∧g.toNat<(nW i d e g j l).length∧i.n.toNat<(y5 i c).length∧∃(n:Unit),(i.a.takeF i.n i.qty).snd=0∧(i.a.takeF i.n i.qty).fst.free=IntKind.i64.wrap (i.a.free+1)∧List.map zR (i.a.takeF i.n i.qty).fst.slots=zH (y5 i c) i.n.toNat 0 [D.v (.bool false),dI 0,dI 0,dI 0,D.v (.bool false),dI 0,dI 0,dI 0]∧List.map zQ (i.a.takeF i.n i.qty).fst.queues=zH (nW i d e g j l) g.toNat ((0:Nat)+(3:Nat)) [dI (IntKind.i64.wrap (m-1))]∧True) (∃(l:Int),zF (y5 i c) i.n.toNat ((0:Nat)+(7:Nat)) 1=some [dI l]∧∃(m:Int),zF (y5 i c) i.n.toNat ((0:Nat)+(6:Nat)) 1=some [dI m]∧(zBo l i c)∧l.toNat<(y5 i c).length∧∃(n:Int),zF (dA i d e g j) g.toNat ((0:Nat)+(3:Nat)) 1=some [dI n]∧g.toNat<(dA i d e g j).length∧i.n.toNat<(zBq i c l m).length∧∃(p:Unit),(i.a.takeF i.n i.qty).snd=0∧(i.a.takeF i.n i.qty).fst.free=IntKind.i64.wrap (i.a.free+1)∧List.map zR (i.a.takeF i.n i.qty).fst.slots=zH (zBq i c l m) i.n.toNat 0 [D.v (.bool false),dI 0,dI 0,dI 0,D.v (.bool false),dI 0,dI 0,dI 0]∧List.map zQ (i.a.takeF i.n i.qty).fst.queues=zH (dA i d e g j) g.toNat ((0:Nat)+(3:Nat)) [dI (IntKind.i64.wrap (n-1))]∧True)) (∃(j:Int),zF (y5 i c) i.n.toNat ((0:Nat)+(6:Nat)) 1=some [dI j]∧∃(k:Int),zF (y5 i c) i.n.toNat ((0:Nat)+(7:Nat)) 1=some [dI k]∧(zBo j i c)∧j.toNat<(y5 i c).length∧∃(l:Int),zF (jS i c j k) i.n.toNat ((0:Nat)+(7:Nat)) 1=some [dI l]∧cnd (l==(-1)) (∃(m:Int),zF (jS i c j k) i.n.toNat ((0:Nat)+(6:Nat)) 1=some [dI m]∧g.toNat<(wK i d e).length∧∃(n:Int),zF (rM i d e g m) g.toNat ((0:Nat)+(3:Nat)) 1=some [dI n]∧g.toNat<(rM i d e g m).length∧i.n.toNat<(jS i c j k).length∧∃(p:Unit),(i.a.takeF i.n i.qty).snd=0∧(i.a.takeF i.n i.qty).fst.free=IntKind.i64.wrap (i.a.free+1)∧List.map zR (i.a.takeF i.n i.qty).fst.slots=zH (jS i c j k) i.n.toNat 0 [D.v (.bool false),dI 0,dI 0,dI 0,D.v (.bool false),dI 0,dI 0,dI 0]∧List.map zQ (i.a.takeF i.n i.qty).fst.queues=zH (rM i d e g m) g.toNat ((0:Nat)+(3:Nat)) [dI (IntKind.i64.wrap (n-1))]∧True) (∃(m:Int),zF (jS i c j k) i.n.toNat ((0:Nat)+(7:Nat)) 1=some [dI m]∧∃(n:Int),zF (jS i c j k) i.n.toNat ((0:Nat)+(6:Nat)) 1=some [dI n]∧(0≤m∧m<(↑(jS i c j k).length:Int))∧m.toNat<(jS i c j k).length∧∃(p:Int),zF (wK i d e) g.toNat ((0:Nat)+(3:Nat)) 1=some [dI p]∧g.toNat<(wK i d e).length∧i.n.toNat<(zAs i c j k m n).length∧∃(q:Unit),(i.a.takeF i.n i.qty).snd=0∧(i.a.takeF i.n i.qty).fst.free=IntKind.i64.wrap (i.a.free+1)∧List.map zR (i.a.takeF i.n i.qty).fst.slots=zH (zAs i c j k m n) i.n.toNat 0 [D.v (.bool false),dI 0,dI 0,dI 0,D.v (.bool false),dI 0,dI 0,dI 0]∧List.map zQ (i.a.takeF i.n i.qty).fst.queues=zH (wK i d e) g.toNat ((0:Nat)+(3:Nat)) [dI (IntKind.i64.wrap (p-1))]∧True))) (∃(g:Unit),(i.a.takeF i.n i.qty).snd=0∧(i.a.takeF i.n i.qty).fst.free=i.a.free∧List.map zR (i.a.takeF i.n i.qty).fst.slots=zH (List.map zR i.a.slots) i.n.toNat ((0:Nat)+(1:Nat)+2) [dI (IntKind.i64.wrap (c-i.qty))]∧List.map zQ (i.a.takeF i.n i.qty).fst.queues=zH (List.map zQ i.a.queues) d.toNat ((0:Nat)+(2:Nat)) [dI (IntKind.i64.wrap (e-i.qty))]∧True))))))
open Go Cv Go.Proofs
theorem zId {a:Arena} {n:Int} (h:n<0∨(a.slots.length:Int)≤n):a.usedAt n=false:=by
 rcases h with h|h
 ·rw[Arena.usedAt,yWx (by omega),yZy]
 ·rw[Arena.usedAt,yWx (show ¬n<(a.slots.length:Int)by omega),yZy,y1t]
theorem z3h {a:Arena} {n:Int} {s:Slot} (h0:0≤n) (hs:a.slots[n.toNat]? =some s):a.usedAt n=s.used:=by
 have hl:=(yWn.1 hs).1
 rw[Arena.usedAt,yXb h0,yXb (show n<(a.slots.length:Int)by omega),zT hs];simp
theorem xJ {a:Arena} {k:Nat} {s:Slot} (hs:a.slots[k]? =some s):a.slotAt k=s:=zT hs
theorem yTy (i:ArN) (h:agetC.cnd i):yKv i:=by
 have h:i.a.slots.length≤1000000:=h
 unfold yKv lN jE dI
 simp only[yWm]
 have no (e:i.a.usedAt i.n=false):i.a.getF i.n=(ySe,false):=by rw[Arena.getF,yWk (by rw[e];decide)]
 refine zK (fun c=> ?_) (fun c=>zK (fun d=> ?_) (fun d=> ?_))
 ·rw[no (zId (.inl c))];(repeat'(first|exact rfl|exact trivial|assumption|apply And.intro|refine fun(_:Unit) (_:True)=>?_|refine Exists.intro () ?_|omega|(dsimp only;omega)))
 ·rw[no (zId (.inr (by omega)))];(repeat'(first|exact rfl|exact trivial|assumption|apply And.intro|refine fun(_:Unit) (_:True)=>?_|refine Exists.intro () ?_|omega|(dsimp only;omega)))
 ·obtain⟨s,hs⟩:=z6 (l:=i.a.slots) (i:=i.n.toNat) (by omega)
  have eu:=z3h (a:=i.a) (n:=i.n) (by omega) hs
  refine⟨⟨by omega,by omega⟩,s.used,elA hs (by simp[zR]) rfl,Cv.cnd.mk (fun u=> ?_) (fun u=> ?_)⟩
  ·rw[no (by rw[eu];simpa using u)];(repeat'(first|exact rfl|exact trivial|assumption|apply And.intro|refine fun(_:Unit) (_:True)=>?_|refine Exists.intro () ?_|omega|(dsimp only;omega)))
  ·have e:i.a.usedAt i.n=true:=by rw[eu];simpa using u
   have et:i.a.getF i.n=(s.ent,true):=by rw[Arena.getF,yWl e,xJ hs]
   rw[et]
   refine⟨⟨by omega,by omega⟩,s.n,s.id,s.qty,s.top,elA hs (by simp[zR]) rfl,?_⟩
   (repeat'(first|exact rfl|exact trivial|assumption|apply And.intro|refine fun(_:Unit) (_:True)=>?_|refine Exists.intro () ?_|omega|(dsimp only;omega)))
theorem z4y:agetC.ok Tryz.prog 210:=okw mixed gok0 1 (fun _=>[]) (fun _=>[]) [0] Tryz.func210 yTy
theorem zPg:∀{sl:List Slot} {at_:Int} {l:List Nat},zXi sl at_ l→rZ l 0=at_∧∀j k,l[j]? =some k→k<sl.length∧rZ l (j+1)=(sl.getD k slot0).back
 |sl,at_,[],h=>⟨h.symm,fun j k hk=>by simp at hk⟩
 |sl,at_,x::l,h=>by
  obtain⟨h1,h2,h3⟩:=h
  have ih:=zPg h3
  refine⟨h1.symm,fun j k hk=> ?_⟩
  cases j with
  |zero=>
   simp at hk;subst hk
   exact⟨h2,by rw[← ih.1];rfl⟩
  |succ j=>
   rw[yYe]at hk
   obtain⟨a,b⟩:=ih.2 j k hk
   exact⟨a,by rw[← b];rfl⟩
theorem yNi (i:ArL) (h:alistC.cnd i):yAa i:=by
 obtain⟨hl,h⟩:i.l.length≤1000000∧(if 0≤i.n∧i.n<i.a.queues.length then zXi i.a.slots (i.a.queues.getD i.n.toNat bL).first i.l else i.l=[]):=⟨h.len,h.ch⟩
 unfold yAa zAa dI
 simp only[yWm]
 have out (e:¬(0≤i.n∧i.n<(i.a.queues.length:Int))):i.l=[]:=by rw[yWk e]at h;exact h
 refine zK (fun c=>Cv.cnd.mk (fun d=> ?_) (fun d=> ?_)) (fun c=> ?_)
 ·have d:¬i.n<(i.a.queues.length:Int):=by simpa using d
  rw[out (by omega)];(repeat'(first|exact rfl|exact trivial|assumption|apply And.intro|refine fun(_:Unit) (_:True)=>?_|refine Exists.intro () ?_|omega|(dsimp only;omega)))
 ·have d:i.n<(i.a.queues.length:Int):=by simpa using d
  rw[yWl ⟨by omega,d⟩]at h
  obtain⟨q,hq⟩:=z6 (l:=i.a.queues) (i:=i.n.toNat) (by omega)
  rw[zT hq]at h
  obtain⟨n0,nx⟩:=zPg h
  refine⟨⟨by omega,by omega⟩,q.first,elA hq (by simp[zQ]) rfl,0,n0,rfl,fun j=>j≤i.l.length,fun j=>i.l.length-j,yYa _,fun j hj=>Cv.cnd.mk (fun e=> ?_) (fun e=> ?_)⟩
  ·have e:rZ i.l j≠-1:=by simpa using e
   obtain⟨k,hk⟩:∃k,i.l[j]? =some k:=by
    cases hk:i.l[j]? with
    |none=>rw[rZ,hk]at e;exact absurd rfl e
    |some k=>exact⟨k,rfl⟩
   have hjl:=(yWn.1 hk).1
   obtain⟨hkl,hnx⟩:=nx j k hk
   have en:rZ i.l j=k:=by rw[rZ,hk]
   obtain⟨s,hs⟩:=z6 (l:=i.a.slots) (i:=k) hkl
   rw[en,yXf]
   refine⟨⟨by omega,by omega⟩,s.n,s.id,s.qty,s.top,elA hs (by simp[zR]) rfl,?_,⟨by omega,by omega⟩,s.back,elA hs (by simp[zR]) rfl,j+1,by rw[hnx,zT hs],?_,hjl,by dsimp only;omega,by(repeat'(first|exact trivial|exact rfl|apply And.intro))⟩
   ·simp only[Arena.ents,yWm,yXg];omega
   ·rw[yXw,hk]
    simp only[Arena.ents,Option.toList,yWw,yWy,y0d,xJ hs]
    rfl
  ·have e:rZ i.l j= -1:=by simpa using e
   have hj':i.l.length≤j:=by
    apply Classical.byContradiction
    intro hn
    obtain⟨k,hk⟩:=z6 (l:=i.l) (i:=j) (by omega)
    rw[rZ,hk]at e
    simp only at e;omega
   rw[yXc hj']
   (repeat'(first|exact rfl|exact trivial|assumption|apply And.intro|refine fun(_:Unit) (_:True)=>?_|refine Exists.intro () ?_|omega|(dsimp only;omega)))
 ·rw[out (by omega)];(repeat'(first|exact rfl|exact trivial|assumption|apply And.intro|refine fun(_:Unit) (_:True)=>?_|refine Exists.intro () ?_|omega|(dsimp only;omega)))
theorem yFj:alistC.ok Tryz.prog 304:=okw mixed gok0 1 (fun _=>[]) (fun i=>yPi i) [0] Tryz.func304 yNi
theorem zZs {α:Type} {l:List α} {i k:Nat} {x y:α} (h:i≠k) (hk:l[k]? =some x):(l.set i y)[k]? =some x:=by
 rw[List.getElem?_set_ne h];exact hk
theorem yOp (i:TkI) (h:atakeC.cnd i):z9j i:=by
 obtain⟨hl,hok⟩:i.a.okAt:=h
 unfold z9j rM zBo zBq nW dA wK zAs jS y5 zAz rP zBf dI
 simp only[yWm]
 have no (e:i.a.usedAt i.n=false):i.a.takeF i.n i.qty=(i.a,26):=by rw[Arena.takeF,yWl e]
 refine zK (fun c=> ?_) (fun c=>zK (fun d=> ?_) (fun d=> ?_))
 ·rw[no (zId (.inl c))];(repeat'(first|exact rfl|exact trivial|assumption|apply And.intro|refine fun(_:Unit) (_:True)=>?_|refine Exists.intro () ?_|omega|(dsimp only;omega)))
 ·rw[no (zId (.inr (by omega)))];(repeat'(first|exact rfl|exact trivial|assumption|apply And.intro|refine fun(_:Unit) (_:True)=>?_|refine Exists.intro () ?_|omega|(dsimp only;omega)))
 obtain⟨k,hk⟩:∃k,k=i.n.toNat:=⟨_,rfl⟩
 rw[← hk]
 obtain⟨s,hs⟩:=z6 (l:=i.a.slots) (i:=k) (by omega)
 have hs':i.a.slots[i.n.toNat]? =some s:=by rw[← hk];exact hs
 have eu:=z3h (a:=i.a) (n:=i.n) (by omega) hs'
 refine⟨⟨by omega,by omega⟩,s.used,elA hs (by simp[zR]) rfl,Cv.cnd.mk (fun u=> ?_) (fun u=> ?_)⟩
 ·rw[no (by rw[eu];simpa using u)];(repeat'(first|exact rfl|exact trivial|assumption|apply And.intro|refine fun(_:Unit) (_:True)=>?_|refine Exists.intro () ?_|omega|(dsimp only;omega)))
 have u:s.used=true:=by simpa using u
 have e:¬i.a.usedAt i.n=false:=by rw[eu,u];decide
 obtain⟨⟨q0,q1⟩,sq,sa,sb⟩:=hok k s hs u
 have esl:i.a.slotAt i.n.toNat=s:=xJ hs'
 have bad (hq:i.qty<1∨s.qty<i.qty):i.a.takeF i.n i.qty=(i.a,24):=by rw[Arena.takeF,yWk e,esl,yWl hq]
 refine⟨⟨by omega,by omega⟩,zK (fun c1=>by rw[bad (.inl c1)];(repeat'(first|exact rfl|exact trivial|assumption|apply And.intro|refine fun(_:Unit) (_:True)=>?_|refine Exists.intro () ?_|omega|(dsimp only;omega)))) (fun c1=>⟨s.qty,elA hs (by simp[zR]) rfl,zK (fun c2=>by rw[bad (.inr (by omega))];(repeat'(first|exact rfl|exact trivial|assumption|apply And.intro|refine fun(_:Unit) (_:True)=>?_|refine Exists.intro () ?_|omega|(dsimp only;omega)))) (fun c2=>⟨s.qty,elA hs (by simp[zR]) rfl,by omega,?_⟩)⟩)⟩
 obtain⟨q,hq⟩:=z6 (l:=i.a.queues) (i:=s.queue.toNat) (by omega)
 have hs1:(i.a.slots.set k {s with qty:=s.qty-i.qty})[k]? =some {s with qty:=s.qty-i.qty}:=uL hs
 have hq1:(i.a.queues.set s.queue.toNat {q with total:=IntKind.i64.wrap (q.total-i.qty)})[s.queue.toNat]? =some {q with total:=IntKind.i64.wrap (q.total-i.qty)}:=uL hq
 have hle:i.a.less i.n.toNat i.qty=⟨i.a.slots.set k {s with qty:=s.qty-i.qty},i.a.queues.set s.queue.toNat {q with total:=IntKind.i64.wrap (q.total-i.qty)},i.a.free⟩:=by
  rw[Arena.less,esl,dZ hs',dZ hq,hk]
 have hL:(i.a.slots.set k {s with qty:=s.qty-i.qty}).length=i.a.slots.length:=yXp
 have hQ:(i.a.queues.set s.queue.toNat {q with total:=IntKind.i64.wrap (q.total-i.qty)}).length=i.a.queues.length:=yXp
 have tk:i.a.takeF i.n i.qty=if s.qty=i.qty then((i.a.less i.n.toNat i.qty).dropF i.n.toNat,0)else(i.a.less i.n.toNat i.qty,0):=by rw[Arena.takeF,yWk e,esl,yWk (by omega)]
 rw[hle,← hk]at tk
 rw[w64 (x:=s.qty-i.qty) (by omega),yI hs (y:={s with qty:=s.qty-i.qty}) rfl]
 refine⟨s.queue,elA hs1 (by simp[zR]) rfl,⟨q0,q1⟩,q.total,elA hq (by simp[zQ]) rfl,⟨q0,q1⟩,by omega,s.qty-i.qty,elA hs1 (by simp[zR]) rfl,?_⟩
 rw[yI hq (y:={q with total:=IntKind.i64.wrap (q.total-i.qty)}) rfl]
 simp only[yWm]
 generalize hL1:i.a.slots.set k {s with qty:=s.qty-i.qty}=L1 at*
 generalize hQ1:i.a.queues.set s.queue.toNat {q with total:=IntKind.i64.wrap (q.total-i.qty)}=Q1 at*
 refine Cv.cnd.mk (fun z=> ?_) (fun z=> ?_)
 ·have z:s.qty=i.qty:=by have:s.qty-i.qty=0:=by simpa using z
                         omega
  rw[yWl z]at tk
  have esl1:(⟨L1,Q1,i.a.free⟩:Arena).slotAt k={s with qty:=s.qty-i.qty}:=xJ hs1
  have eq1:Q1.getD s.queue.toNat bL={q with total:=IntKind.i64.wrap (q.total-i.qty)}:=zT hq1
  rw[Arena.dropF,esl1]at tk
  dsimp only at tk
  rw[eq1]at tk
  dsimp only at tk
  rw[tk]
  refine⟨s.queue,elA hs1 (by simp[zR]) rfl,⟨q0,by omega⟩,s.ahead,elA hs1 (by simp[zR]) rfl,Cv.cnd.mk (fun ea=> ?_) (fun ea=> ?_)⟩
  ·have ea:s.ahead= -1:=by simpa using ea
   refine⟨s.back,elA hs1 (by simp[zR]) rfl,by omega,s.back,elA hs1 (by simp[zR]) rfl,?_⟩
   rw[yI hq1 (y:=⟨s.back,q.last,IntKind.i64.wrap (q.total-i.qty),q.count⟩) rfl]
   have hq2:(Q1.set s.queue.toNat ⟨s.back,q.last,IntKind.i64.wrap (q.total-i.qty),q.count⟩)[s.queue.toNat]? =some ⟨s.back,q.last,IntKind.i64.wrap (q.total-i.qty),q.count⟩:=uL hq1
   simp only[yWm,yXp]
   refine Cv.cnd.mk (fun eb=> ?_) (fun eb=> ?_)
   ·have eb:s.back= -1:=by simpa using eb
    refine⟨s.ahead,elA hs1 (by simp[zR]) rfl,by omega,q.count,?_,?_⟩
    ·rw[yI hq2 (y:=⟨s.back,s.ahead,IntKind.i64.wrap (q.total-i.qty),q.count⟩) rfl]
     exact elA (uL hq2) (by simp[zQ]) rfl
    rw[yI hq2 (y:=⟨s.back,s.ahead,IntKind.i64.wrap (q.total-i.qty),q.count⟩) rfl,yI (uL hq2) (y:=⟨s.back,s.ahead,IntKind.i64.wrap (q.total-i.qty),IntKind.i64.wrap (q.count-1)⟩) rfl,yI hs1 (y:=slot0) rfl]
    simp only[yWm,yXp,y0p,yWl ea,yWl eb]
    refine⟨by omega,by omega,(),by(first|exact rfl|exact trivial),by(first|exact rfl|exact trivial),by(first|exact rfl|exact trivial),by(first|exact rfl|exact trivial),trivial⟩
   ·have eb:s.back≠-1:=by simpa using eb
    obtain⟨b0,b1,b2⟩:0≤s.back∧s.back<i.a.slots.length∧s.back≠k:=by omega
    obtain⟨x,hx⟩:=z6 (l:=L1) (i:=s.back.toNat) (by omega)
    refine⟨s.back,elA hs1 (by simp[zR]) rfl,s.ahead,elA hs1 (by simp[zR]) rfl,⟨b0,by omega⟩,by omega,q.count,elA hq2 (by simp[zQ]) rfl,?_⟩
    rw[yI hx (y:={x with ahead:=s.ahead}) rfl,yI hq2 (y:=⟨s.back,q.last,IntKind.i64.wrap (q.total-i.qty),IntKind.i64.wrap (q.count-1)⟩) rfl,yI (zZs (by omega) hs1) (y:=slot0) rfl]
    simp only[yWm,yXp,y0p,yWl ea,yWk eb,dZ hx]
    refine⟨by omega,by omega,(),by(first|exact rfl|exact trivial),by(first|exact rfl|exact trivial),by(first|exact rfl|exact trivial),by(first|exact rfl|exact trivial),trivial⟩
  ·have ea:s.ahead≠-1:=by simpa using ea
   obtain⟨a0,a1,a2⟩:0≤s.ahead∧s.ahead<i.a.slots.length∧s.ahead≠k:=by omega
   obtain⟨x,hx⟩:=z6 (l:=L1) (i:=s.ahead.toNat) (by omega)
   have hs2:(L1.set s.ahead.toNat {x with back:=s.back})[k]? =some {s with qty:=s.qty-i.qty}:=zZs (by omega) hs1
   refine⟨s.ahead,elA hs1 (by simp[zR]) rfl,s.back,elA hs1 (by simp[zR]) rfl,⟨a0,by omega⟩,by omega,s.back,?_,?_⟩
   ·rw[yI hx (y:={x with back:=s.back}) rfl]
    exact elA hs2 (by simp[zR]) rfl
   rw[yI hx (y:={x with back:=s.back}) rfl]
   simp only[yWm,yXp]
   refine Cv.cnd.mk (fun eb=> ?_) (fun eb=> ?_)
   ·have eb:s.back= -1:=by simpa using eb
    refine⟨s.ahead,elA hs2 (by simp[zR]) rfl,by omega,q.count,?_,?_⟩
    ·rw[yI hq1 (y:=⟨q.first,s.ahead,IntKind.i64.wrap (q.total-i.qty),q.count⟩) rfl]
     exact elA (uL hq1) (by simp[zQ]) rfl
    rw[yI hq1 (y:=⟨q.first,s.ahead,IntKind.i64.wrap (q.total-i.qty),q.count⟩) rfl,yI (uL hq1) (y:=⟨q.first,s.ahead,IntKind.i64.wrap (q.total-i.qty),IntKind.i64.wrap (q.count-1)⟩) rfl,yI hs2 (y:=slot0) rfl]
    simp only[yWm,yXp,y0p,yWk ea,yWl eb,dZ hx]
    refine⟨by omega,by omega,(),by(first|exact rfl|exact trivial),by(first|exact rfl|exact trivial),by(first|exact rfl|exact trivial),by(first|exact rfl|exact trivial),trivial⟩
   ·have eb:s.back≠-1:=by simpa using eb
    obtain⟨b0,b1,b2⟩:0≤s.back∧s.back<i.a.slots.length∧s.back≠k:=by omega
    obtain⟨y,hy⟩:=z6 (l:=L1.set s.ahead.toNat {x with back:=s.back}) (i:=s.back.toNat) (by rw[yXp];omega)
    refine⟨s.back,elA hs2 (by simp[zR]) rfl,s.ahead,elA hs2 (by simp[zR]) rfl,⟨b0,by omega⟩,by omega,q.count,elA hq1 (by simp[zQ]) rfl,?_⟩
    rw[yI hy (y:={y with ahead:=s.ahead}) rfl,yI hq1 (y:=⟨q.first,q.last,IntKind.i64.wrap (q.total-i.qty),IntKind.i64.wrap (q.count-1)⟩) rfl,yI (zZs (by omega) hs2) (y:=slot0) rfl]
    simp only[yWm,yXp,y0p,yWk ea,yWk eb,dZ hx,dZ hy]
    refine⟨by omega,by omega,(),by(first|exact rfl|exact trivial),by(first|exact rfl|exact trivial),by(first|exact rfl|exact trivial),by(first|exact rfl|exact trivial),trivial⟩
 ·have z:¬s.qty=i.qty:=by have:¬s.qty-i.qty=0:=by simpa using z
                          omega
  rw[yWk z]at tk
  rw[tk]
  exact⟨(),rfl,rfl,rfl,rfl,trivial⟩
theorem yCk:atakeC.ok Tryz.prog 242:=okw mixed gok0 1 (fun _=>[]) (fun _=>[]) [0] Tryz.func242 yOp
open Go Cv Go.Proofs
structure PlI where
 l:List Int
 least:Int
 q:Int
def z0j (l:List Int) (least q:Int):List Int:=l.map fun k=>if least≤k*q / l.sum then k*q / l.sum else 0
def jY:List (Int×Int)→Int→List Int
 |[],_=>[]
 |(n,x)::r,q=>(x+min (n-x) q)::jY r (q-min (n-x) q)
def PlI.p0 (i:PlI):List Int:=z0j i.l i.least i.q
def PlI.p1 (i:PlI):List Int:=jY (i.l.zip i.p0) (i.q-i.p0.sum)
def kR (i:PlI):List Int:=if yT i.l i.q=true∧1≤i.least then i.p1 else[]
def plainC:Con:=con1 PlI (fun i=>[iV i.l,zA i.least,zA i.q]) (fun _=>[]) (fun i=>i.l.length≤1000000∧yV i.q∧yV i.least) (fun _=> .own 0) (fun i=>[.own 2 1 (iE (kR i))])
def yNu (i:PlI):List SAnn:=[
 {ι:=Nat,slots:=fun j=>[(9,.own 0),(36,zA j)],rows:=fun j=>[.own 2 1 (iE (i.p0.take j++List.replicate (i.l.length-j) 0))]},
 {ι:=Nat,slots:=fun j=>[(2,zA (i.q-(i.p0.take j).sum)),(58,zA j)],rows:=fun _=>[]},
 {ι:=Nat,slots:=fun j=>[(9,.own 0),(2,zA (i.q-i.p0.sum+(i.p0.take j).sum-(i.p1.take j).sum)),(68,zA j)],rows:=fun j=>[.own 2 1 (iE (i.p1.take j++i.p0.drop j))]}]
open Go Cv Go.Proofs
def dL (a:Nat) (b:PlI):=(iE (List.take a b.p1++List.drop a b.p0))
def rO (a:Nat) (b:PlI):Prop:=0≤(↑a:Int)∧(↑a:Int)<(↑(dL a b).length:Int)
def h8 (a:Nat) (b:PlI):=(List.take a b.p0++List.replicate (b.l.length-a) 0)
def gI (a:Nat) (b:PlI):=(iE (h8 a b))
def b8 (a:Nat) (b:PlI):=(↑(gI a b).length:Int)
def yEv (i:PlI):Prop:=
 ∃(a:LqI),iE a.l=iE i.l∧a.q=i.q∧(j0 a)∧∀(b:Unit),True→cnd (!yT a.l a.q) (∃(c:Unit),iE (kR i)=[]∧True) (cnd (decide (i.least<1)) (∃(c:Unit),iE (kR i)=[]∧True) (∃(c:List Int),iE c=iE i.l∧(c.length≤1000∧∀(d:Int),d∈c→0≤d∧d≤1000000)∧∀(d:Unit),True→(0≤(↑(iE i.l).length:Int)∧(↑(iE i.l).length:Int)≤(↑(iE i.l).length:Int)∧(↑(iE i.l).length:Int)≤9223372036854775807∧(↑(8:Nat):Int)*(↑(iE i.l).length:Int)≤2 ^ (48:Nat))∧∃(e:Nat),(↑e:Int)=0∧iE (h8 e i)=List.replicate (↑(iE i.l).length:Int).toNat [dI 0]∧∃(f:Nat→Prop),∃(g:Nat→Nat),f e∧∀(h:Nat),f h→cnd (decide ((↑h:Int)<(↑(iE i.l).length:Int))) ((0≤(↑h:Int)∧(↑h:Int)<(↑(iE i.l).length:Int))∧∃(j:Int),zF (iE i.l) (↑h:Int).toNat 0 1=some [dI j]∧∃(k:ShI),k.a=j∧k.b=i.q∧k.c=c.sum∧(0≤k.a∧k.a≤(2000000000:Int)∧(0:Int)≤k.b∧k.b≤(2000000000:Int)∧(1:Int)≤k.c∧k.c≤2000000000)∧∀(l:Unit),True→cnd (decide (k.a*k.b / k.c≥i.least)) ((0≤(↑h:Int)∧(↑h:Int)<(b8 h i))∧(↑h:Int).toNat<(gI h i).length∧∃(m:Nat),(↑m:Int)=IntKind.i64.wrap ((↑h:Int)+1)∧iE (h8 m i)=zH (gI h i) (↑h:Int).toNat 0 [dI (k.a*k.b / k.c)]∧f m∧g m<g h∧True) (∃(m:Nat),(↑m:Int)=IntKind.i64.wrap ((↑h:Int)+1)∧iE (h8 m i)=iE (h8 h i)∧f m∧g m<g h∧True)) (∃(j:Nat),i.q-(List.take j i.p0).sum=i.q∧(↑j:Int)=0∧∃(k:Nat→Prop),∃(l:Nat→Nat),k j∧∀(m:Nat),k m→cnd (decide ((↑m:Int)<(b8 h i))) ((0≤(↑m:Int)∧(↑m:Int)<(b8 h i))∧∃(n:Int),zF (gI h i) (↑m:Int).toNat 0 1=some [dI n]∧∃(p:Nat),i.q-(List.take p i.p0).sum=IntKind.i64.wrap (i.q-(List.take m i.p0).sum-n)∧(↑p:Int)=IntKind.i64.wrap ((↑m:Int)+1)∧k p∧l p<l m∧AObj.own 2 1 (gI h i)=AObj.own 2 1 (gI h i)) (∃(n:Nat),i.q-i.p0.sum+(List.take n i.p0).sum-(List.take n i.p1).sum=i.q-(List.take m i.p0).sum∧(↑n:Int)=0∧iE (List.take n i.p1++List.drop n i.p0)=iE (h8 h i)∧∃(p:Nat→Prop),∃(q:Nat→Nat),p n∧∀(r:Nat),p r→cnd (decide ((↑r:Int)<(b8 h i))) ((0≤(↑r:Int)∧(↑r:Int)<(↑(iE i.l).length:Int))∧∃(s:Int),zF (iE i.l) (↑r:Int).toNat 0 1=some [dI s]∧(rO r i)∧∃(t:Int),zF (dL r i) (↑r:Int).toNat 0 1=some [dI t]∧(rO r i)∧∃(u:Int),zF (dL r i) (↑r:Int).toNat 0 1=some [dI u]∧(rO r i)∧(↑r:Int).toNat<(dL r i).length∧∃(v:Nat),i.q-i.p0.sum+(List.take v i.p0).sum-(List.take v i.p1).sum=IntKind.i64.wrap (i.q-i.p0.sum+(List.take r i.p0).sum-(List.take r i.p1).sum-min (IntKind.i64.wrap (s-t)) (i.q-i.p0.sum+(List.take r i.p0).sum-(List.take r i.p1).sum))∧(↑v:Int)=IntKind.i64.wrap ((↑r:Int)+1)∧iE (List.take v i.p1++List.drop v i.p0)=zH (dL r i) (↑r:Int).toNat 0 [dI (IntKind.i64.wrap (u+min (IntKind.i64.wrap (s-t)) (i.q-i.p0.sum+(List.take r i.p0).sum-(List.take r i.p1).sum)))]∧p v∧q v<q r∧True) (∃(s:Unit),iE (kR i)=iE (List.take r i.p1++List.drop r i.p0)∧True)))))
open Go Cv Go.Proofs
theorem l8:∀(z:List (Int×Int)) (q:Int),(jY z q).length=z.length
 |[],_=>rfl
 |(n,x)::z,q=>by rw[jY,yWs,yWs,l8 z]
theorem zNn:∀(z:List (Int×Int)) (q:Int) (j:Nat) (n x:Int),z[j]? =some (n,x)→(jY z q)[j]? =some (x+min (n-x) (q+((z.map (·.2)).take j).sum-((jY z q).take j).sum))
 |[],_,_,_,_,h=>by simp at h
 |(m,y)::z,q,0,n,x,h=>by simp at h;obtain⟨rfl,rfl⟩:=h;simp[jY]
 |(m,y)::z,q,j+1,n,x,h=>by
  rw[yYe]at h
  rw[jY,yYe,zNn z _ j n x h,yXv,yXy,yWy,yXv,yXy]
  congr 3;dsimp only;omega
theorem zHj:∀(z:List (Int×Int)) (q:Int) (j:Nat),0≤q→(∀y∈z,y.2≤y.1)→0≤q+((z.map (·.2)).take j).sum-((jY z q).take j).sum∧q+((z.map (·.2)).take j).sum-((jY z q).take j).sum≤q
 |[],q,j,h,_=>by simp[jY,h]
 |(m,y)::z,q,0,h,_=>by simp[h]
 |(m,y)::z,q,j+1,h,hb=>by
  have hm:=hb (m,y) yWr
  have:=zHj z (q-min (m-y) q) j (by dsimp only at hm;omega) (fun x hx=>hb x (yWq _ hx))
  rw[jY,yXv,yXy,yWy,yXv,yXy]
  dsimp only at hm ⊢
  omega
theorem yDn {k q S:Int} (hk:0≤k) (hq:0≤q) (hS:1≤S) (hqS:q≤S):0≤k*q / S∧k*q / S≤k:=by
 refine⟨Int.ediv_nonneg (y2s hk hq) (by omega),?_⟩
 have:k*q≤k*S:=y1m hqS hk
 exact Int.ediv_le_of_le_mul (by omega) this
theorem zPn {q S least:Int} (hq:0≤q) (hS:1≤S):∀(l:List Int),(∀x∈l,0≤x)→S*(l.map fun k=>if least≤k*q / S then k*q / S else 0).sum≤q*l.sum
 |[],_=>by simp
 |k::l,h=>by
  have ih:=zPn (least:=least) hq hS l (fun x hx=>h x (yWq _ hx))
  have hk:=h k yWr
  rw[yWy,yXy,yXy,Int.mul_add,Int.mul_add]
  have h1:S*(k*q / S)≤k*q:=by
   have:=Int.mul_ediv_add_emod (k*q) S
   have:=Int.emod_nonneg (k*q) (show S≠0 by omega)
   omega
  have h2:0≤k*q:=y2s hk hq
  have h3:S*(if least≤k*q / S then k*q / S else 0)≤q*k:=by
   rw[Int.mul_comm q k]
   split
   ·exact h1
   ·simpa using h2
  omega
theorem yDe {i:PlI} {j:Nat} {n:Int} (h:i.l[j]? =some n):i.p0[j]? =some (if i.least≤n*i.q / i.l.sum then n*i.q / i.l.sum else 0):=by
 rw[PlI.p0,z0j,yXj,h];rfl
theorem zYn (i:PlI):i.p0.length=i.l.length:=by simp[PlI.p0,z0j]
theorem z3a {l:List Int} {j m:Nat} {n:Int} (hl:l.length=m) (h:l[j]? =some n):(l.take j++List.replicate (m-j) 0).set j n=l.take (j+1)++List.replicate (m-(j+1)) 0:=by
 have hj:=(yWn.1 h).1
 rw[List.set_append_right _ _ (by rw[yXg];omega),yXg,show j-min j l.length=0 by omega,show m-j=(m-(j+1))+1 by omega,y0z,y2m,yXw,h]
 simp
theorem yEz {l:List Int} {j m:Nat} (hl:l.length=m) (hj:j<m):(l.take j++List.replicate (m-j) 0)[j]? =some 0:=by
 rw[yYd (by rw[yXg];omega),yXg,show j-min j l.length=0 by omega,show m-j=(m-(j+1))+1 by omega,y0z];rfl
theorem yEj {α:Type} {l:List α} {j:Nat} {x:α} (h:l[j]? =some x):l.set j x=l:=by
 obtain⟨h1,h2⟩:=yWn.1 h
 rw[← h2];exact List.set_getElem_self h1
theorem yQt {a b:List Int} {j:Nat} {x:Int} (ha:a.length=b.length) (h:b[j]? =some x):(a.take j++b.drop j)[j]? =some x:=by
 have hj:=(yWn.1 h).1
 rw[yYd (by rw[yXg];omega),yXg,show j-min j a.length=0 by omega,yYy]
 exact h
theorem yIh {a b:List Int} {j:Nat} {y:Int} (ha:a.length=b.length) (h:a[j]? =some y):(a.take j++b.drop j).set j y=a.take (j+1)++b.drop (j+1):=by
 have hj:=(yWn.1 h).1
 rw[List.set_append_right _ _ (by rw[yXg];omega),yXg,show j-min j a.length=0 by omega,yZk (by omega),y2m,yXw,h]
 simp
theorem zSw {l:List Int} {j:Nat} {x y:Int} (h:l[j]? =some x):zH (iE l) j 0 [D.v (.int .i64 y)]=iE (l.set j y):=yI (f:=fun n:Int=>[D.v (.int .i64 n)]) h rfl
theorem zDm {i:PlI} (h:yT i.l i.q=true) (hne:0<i.l.length):1≤i.l.sum∧i.l.sum≤250000000∧(∀(j:Nat) (n x:Int),i.l[j]? =some n→i.p0[j]? =some x→0≤x∧x≤n)∧i.p0.sum≤i.q:=by
 obtain⟨h1,h2,h3,h4⟩:=kW h
 have hb:=jL (l:=i.l) (fun x hx=>by have:=h3 x hx;omega) i.l.length
 rw[yZz]at hb
 have hS:1≤i.l.sum:=by
  obtain⟨x,hx⟩:=z6 (l:=i.l) (i:=0) hne
  have:=h3 x (yWu hx)
  cases hl:i.l with
  |nil=>rw[hl]at hne;exact absurd hne (Nat.lt_irrefl 0)
  |cons a r=>
   rw[hl]at hx;simp at hx;subst hx
   have hr:=jL (l:=r) (fun y hy=>by have:=h3 y (by rw[hl];exact yWq _ hy);omega) r.length
   rw[yZz]at hr
   rw[yXy];omega
 refine⟨hS,by omega,fun j n x hn hx=> ?_,?_⟩
 ·have hn1:=h3 n (yWu hn)
  have:=yDn (k:=n) (by omega) h2 hS h4
  rw[yDe hn]at hx
  cases hx
  split<;>omega
 ·have:=zPn (least:=i.least) h2 hS i.l (fun x hx=>by have:=h3 x hx;omega)
  have e:i.l.sum*i.p0.sum≤i.l.sum*i.q:=by rw[Int.mul_comm i.l.sum i.q];exact this
  exact Int.le_of_mul_le_mul_left e (by omega)
theorem yQv (i:PlI) (h:plainC.cnd i):yEv i:=by
 obtain⟨hl,hq,hle⟩:i.l.length≤1000000∧yV i.q∧yV i.least:=h
 unfold yEv b8 gI h8 rO dL j0 dI
 refine⟨⟨i.l,i.q⟩,rfl,rfl,⟨hl,hq⟩,fun _ _=>Cv.cnd.mk (fun c=> ?_) (fun c=>zK (fun d=> ?_) (fun d=> ?_))⟩
 ·have c:yT i.l i.q=false:=by simpa using c
  refine⟨(),?_,trivial⟩
  rw[kR,yWk (by rw[c];simp)];rfl
 ·refine⟨(),?_,trivial⟩
  rw[kR,yWk (by omega)];rfl
 have c:yT i.l i.q=true:=by simpa using c
 have eS:kR i=i.p1:=by rw[kR,yWl ⟨c,by omega⟩]
 obtain⟨h1,h2,h3,h4⟩:=kW c
 have hq2:=zIj c
 have hp0:=zYn i
 have hzl:(i.l.zip i.p0).length=i.l.length:=by rw[List.length_zip,hp0];simp
 have hp1:i.p1.length=i.l.length:=by rw[PlI.p1,l8,hzl]
 have hz2:(i.l.zip i.p0).map (·.2)=i.p0:=by rw[List.map_snd_zip];omega
 have h64:i.l.length≤250:=h1
 have hrl:∀j,j≤i.l.length→(List.take j i.p0++List.replicate (i.l.length-j) 0).length=i.l.length:=by
  intro j hj;rw[yWp,yXg,yZt];omega
 simp only[xF]
 refine⟨i.l,rfl,⟨by omega,fun x hx=>by have:=h3 x hx;omega⟩,fun _ _=>⟨⟨by omega,by omega,by omega,by omega⟩,0,by(first|exact rfl|exact trivial),?_,fun j=>j≤i.l.length,fun j=>i.l.length-j,yYa _,fun j hj=>zK (fun e=> ?_) (fun e=> ?_)⟩⟩
 ·simp[iE]
 ·have hj':j<i.l.length:=by omega
  obtain⟨n,hn⟩:=z6 (l:=i.l) (i:=j) hj'
  have bn:=h3 n (yWu hn)
  obtain⟨f1,f2,f3,f4⟩:=zDm c (by omega)
  have g:=yDe hn
  refine⟨⟨by omega,by omega⟩,n,elI hn,⟨n,i.q,i.l.sum⟩,rfl,rfl,rfl,⟨by dsimp only;omega,by dsimp only;omega,by dsimp only;omega,by dsimp only;omega,by dsimp only;omega,by dsimp only;omega⟩,fun _ _=>zK (fun a=> ?_) (fun a=> ?_)⟩
  ·have a:n*i.q / i.l.sum≥i.least:=a
   rw[yWl (by omega)]at g
   refine⟨⟨by omega,by rw[hrl j (by omega)];omega⟩,by rw[hrl j (by omega)];omega,j+1,wjn (by omega),?_,hj',by dsimp only;omega,trivial⟩
   rw[yXf,zSw (yEz hp0 hj'),z3a hp0 g]
  ·have a:¬n*i.q / i.l.sum≥i.least:=a
   rw[yWk (by omega)]at g
   refine⟨j+1,wjn (by omega),?_,hj',by dsimp only;omega,trivial⟩
   rw[← z3a hp0 g,yEj (yEz hp0 hj')]
 have hje:j=i.l.length:=by omega
 subst hje
 have eP:List.take i.l.length i.p0++List.replicate (i.l.length-i.l.length) 0=i.p0:=by rw[yXc (by omega)];simp
 rw[eP,hp0]
 have px:∀(k:Nat) (n x:Int),i.l[k]? =some n→i.p0[k]? =some x→0≤x∧x≤n:=fun k n x hn hx=>(zDm c (by have:=(yWn.1 hn).1;omega)).2.2.1 k n x hn hx
 have pb:∀x∈i.p0,0≤x∧x≤1000000:=by
  intro x hx
  obtain⟨k,hk⟩:=yZd.1 hx
  obtain⟨n,hn⟩:=z6 (l:=i.l) (i:=k) (by have:=(yWn.1 hk).1;omega)
  have:=px k n x hn hk
  have:=h3 n (yWu hn)
  omega
 have pq:i.p0.sum≤i.q:=by
  by_cases hz:0<i.l.length
  ·exact(zDm c hz).2.2.2
  ·have:i.p0=[]:=yXn (by omega)
   rw[this];simpa using h2
 refine⟨0,by simp,by(first|exact rfl|exact trivial),fun k=>k≤i.l.length,fun k=>i.l.length-k,yYa _,fun k hk=>zK (fun e=> ?_) (fun e=> ?_)⟩
 ·have hk':k<i.l.length:=by omega
  obtain⟨x,hx⟩:=z6 (l:=i.p0) (i:=k) (by omega)
  have bx:=pb x (yWu hx)
  have bs:=jL pb k
  refine⟨⟨by omega,by omega⟩,x,elI hx,k+1,?_,wjn (by omega),hk',by dsimp only;omega,by(repeat'(first|exact trivial|exact rfl|apply And.intro))⟩
  rw[jQ hx,w64 (by omega)];omega
 have hke:k=i.l.length:=by omega
 subst hke
 rw[yXc (l:=i.p0) (by omega)]
 refine⟨0,by simp,by(first|exact rfl|exact trivial),by simp,fun j=>j≤i.l.length,fun j=>i.l.length-j,yYa _,fun j hj=>zK (fun e=> ?_) (fun e=> ?_)⟩
 ·have hj':j<i.l.length:=by omega
  obtain⟨n,hn⟩:=z6 (l:=i.l) (i:=j) hj'
  obtain⟨x,hx⟩:=z6 (l:=i.p0) (i:=j) (by omega)
  have bn:=h3 n (yWu hn)
  have bx:=px j n x hn hx
  have hz:(i.l.zip i.p0)[j]? =some (n,x):=by rw[y1h];exact⟨hn,hx⟩
  have g:=zNn (i.l.zip i.p0) (i.q-i.p0.sum) j n x hz
  have r:=zHj (i.l.zip i.p0) (i.q-i.p0.sum) j (by omega) (fun y hy=>by
   obtain⟨k,hk⟩:=yZd.1 hy
   rw[y1h]at hk
   exact(px k y.1 y.2 hk.1 hk.2).2)
  rw[hz2]at g r
  have b0:=jL pb i.p0.length
  rw[yZz]at b0
  have hml:(List.take j i.p1++List.drop j i.p0).length=i.l.length:=by rw[yWp,yXg,yXk];omega
  have hma:=yQt (a:=i.p1) (b:=i.p0) (by omega) hx
  change i.p1[j]? =_ at g
  change 0≤_-(List.take j i.p1).sum∧_-(List.take j i.p1).sum≤_ at r
  change i.p1[j]? =some (x+min (n-x) (_-(List.take j i.p1).sum))at g
  rw[hml]
  refine⟨⟨by omega,by omega⟩,n,elI hn,⟨by omega,by omega⟩,x,elI hma,⟨by omega,by omega⟩,x,elI hma,⟨by omega,by omega⟩,by omega,?_⟩
  rw[w64 (x:=n-x) (by omega),w64 (x:=x+min (n-x) (i.q-i.p0.sum+(List.take j i.p0).sum-(List.take j i.p1).sum)) (by omega)]
  refine⟨j+1,?_,wjn (by omega),?_,hj',by dsimp only;omega,trivial⟩
  ·rw[jQ hx,jQ g,w64 (by omega)];omega
  ·rw[yXf,zSw hma,yIh (by omega) g]
 ·have hje:j=i.l.length:=by omega
  subst hje
  refine⟨(),?_,trivial⟩
  rw[eS,yXc (by omega),y0e (by omega),yXi]
theorem yFi:plainC.ok Tryz.prog 312:=okw mixed (gokc zCq (gokc yHu (gokc zPi gok0))) 0 (fun _=>[]) (fun i=>yNu i) [] Tryz.func312 yQv
open Go Cv Go.Proofs
structure RsI where
 l:List Int
 out:List Int
 least:Int
 q:Int
def RsI.idx (i:RsI) (k:Nat):List Nat:=(List.range k).filter fun n=>decide (i.out.getD n 0<i.l.getD n 0)
def RsI.left (i:RsI) (k:Nat):List Int:=(i.idx k).map fun n=>i.l.getD n 0-i.out.getD n 0
def RsI.pl (i:RsI):List Int:=kR ⟨i.left i.l.length,i.least,i.q⟩
def RsI.add (i:RsI) (k:Nat):List Int:=(((i.idx i.l.length).zip i.pl).take k).foldl (fun o y=>o.set y.1 (IntKind.i64.wrap (o.getD y.1 0+y.2))) i.out
def m9 (i:RsI):List Int:=i.add i.pl.length
@[reducible] def RsI.ok (i:RsI):Prop:=i.l.length≤250∧i.out.length=i.l.length∧yV i.q∧yV i.least∧∀n,0≤i.out.getD n 0∧i.out.getD n 0≤i.l.getD n 0∧i.l.getD n 0≤1000000
def restC:Con:=con1 RsI (fun i=>[iV i.l,.own 0,zA i.least,zA i.q]) (fun i=>[.own 2 1 (iE i.out)]) RsI.ok (fun _=> .own 1) (fun i=>[.gone,.own 2 1 (iE (m9 i))])
def yTl (i:RsI):List SAnn:=[
 {ι:=Nat,slots:=fun j=>[(9,.own 0),(10,.own 1),(16,zA j)],rows:=fun j=>[.own 2 1 (iE (i.left j)),.own 3 1 (iE ((i.idx j).map fun(n:Nat)=>(n:Int)))]},
 {ι:=Nat,slots:=fun k=>[(1,.own 0),(50,zA k)],rows:=fun k=>[.own 2 1 (iE (i.add k))]}]
structure zJ where
 id:Int
 side:Int
 price:Int
 qty:Int
 top:Bool
 deriving DecidableEq
def wT (o:zJ):List D:=[.v (.int .i64 o.id),.v (.int .i64 o.side),.v (.int .i64 o.price),.v (.int .i64 o.qty),.v (.bool o.top)]
@[reducible] def z6s (o:zJ):V:= .agg [zA o.id,zA o.side,zA o.price,zA o.qty,yG o.top]
def topFC:Con:=con1 zJ (fun o=>[z6s o]) (fun _=>[]) (fun _=>True) (fun o=>yG o.top) (fun _=>[])
def topI (l:List zJ):Int:=zHg (l.findIdx? fun o=>o.top)
def idxOrdC:Con:=con1 (List zJ) (fun l=>[roV 5 (l.map wT),.fn 288 [] []]) (fun _=>[]) (fun l=>l.length≤1000000) (fun l=>zA (topI l)) (fun _=>[])
def yJu (l:List zJ):List SAnn:=[{ι:=Nat,slots:=fun j=>[(8,zA j)],rows:=fun _=>[]}]
open Go Cv Go.Proofs
def yLc (i:RsI):Prop:=
 ∃(a:Nat),(↑a:Int)=0∧iE (i.left a)=[]∧iE (List.map (fun(n:Nat) ↦ (↑n:Int)) (i.idx a))=[]∧∃(b:Nat→Prop),∃(c:Nat→Nat),b a∧∀(d:Nat),b d→cnd (decide ((↑d:Int)<(↑(iE i.l).length:Int))) ((0≤(↑d:Int)∧(↑d:Int)<(↑(iE i.l).length:Int))∧∃(e:Int),zF (iE i.l) (↑d:Int).toNat 0 1=some [dI e]∧(0≤(↑d:Int)∧(↑d:Int)<(↑(iE i.out).length:Int))∧∃(f:Int),zF (iE i.out) (↑d:Int).toNat 0 1=some [dI f]∧cnd (decide (e>f)) ((0≤(↑d:Int)∧(↑d:Int)<(↑(iE i.l).length:Int))∧∃(g:Int),zF (iE i.l) (↑d:Int).toNat 0 1=some [dI g]∧(0≤(↑d:Int)∧(↑d:Int)<(↑(iE i.out).length:Int))∧∃(h:Int),zF (iE i.out) (↑d:Int).toNat 0 1=some [dI h]∧((iE (i.left d)).length+1)*(8:Nat)≤(140737488355328:Nat)∧((iE (List.map (fun(g:Nat) ↦ (↑g:Int)) (i.idx d))).length+1)*(8:Nat)≤(140737488355328:Nat)∧∃(j:Nat),(↑j:Int)=IntKind.i64.wrap ((↑d:Int)+1)∧iE (i.left j)=iE (i.left d)++[[dI (IntKind.i64.wrap (g-h))]]∧iE (List.map (fun(g:Nat) ↦ (↑g:Int)) (i.idx j))=iE (List.map (fun(g:Nat) ↦ (↑g:Int)) (i.idx d))++[[dI (↑d:Int)]]∧b j∧c j<c d∧AObj.own 2 1 (iE i.out)=AObj.own 2 1 (iE i.out)) (∃(g:Nat),(↑g:Int)=IntKind.i64.wrap ((↑d:Int)+1)∧iE (i.left g)=iE (i.left d)∧iE (List.map (fun(e:Nat) ↦ (↑e:Int)) (i.idx g))=iE (List.map (fun(e:Nat) ↦ (↑e:Int)) (i.idx d))∧b g∧c g<c d∧AObj.own 2 1 (iE i.out)=AObj.own 2 1 (iE i.out))) (∃(e:PlI),iE e.l=iE (i.left d)∧e.least=i.least∧e.q=i.q∧(e.l.length≤1000000∧((-9223372036854775808)≤e.q∧e.q≤9223372036854775807)∧(-9223372036854775808)≤e.least∧e.least≤9223372036854775807)∧∀(f:Unit),True→∃(g:Nat),(↑g:Int)=0∧iE (i.add g)=iE i.out∧∃(h:Nat→Prop),∃(j:Nat→Nat),h g∧∀(k:Nat),h k→cnd (decide ((↑k:Int)<(↑(iE (kR e)).length:Int))) ((0≤(↑k:Int)∧(↑k:Int)<(↑(iE (kR e)).length:Int))∧∃(l:Int),zF (iE (kR e)) (↑k:Int).toNat 0 1=some [dI l]∧(0≤(↑k:Int)∧(↑k:Int)<(↑(iE (List.map (fun(l:Nat) ↦ (↑l:Int)) (i.idx d))).length:Int))∧∃(m:Int),zF (iE (List.map (fun(l:Nat) ↦ (↑l:Int)) (i.idx d))) (↑k:Int).toNat 0 1=some [dI m]∧(0≤m∧m<(↑(iE (i.add k)).length:Int))∧∃(n:Int),zF (iE (i.add k)) m.toNat 0 1=some [dI n]∧(0≤m∧m<(↑(iE (i.add k)).length:Int))∧m.toNat<(iE (i.add k)).length∧∃(p:Nat),(↑p:Int)=IntKind.i64.wrap ((↑k:Int)+1)∧iE (i.add p)=zH (iE (i.add k)) m.toNat 0 [dI (IntKind.i64.wrap (n+l))]∧h p∧j p<j k∧AObj.own 2 1 (iE (kR e))=AObj.own 2 1 (iE (kR e))∧AObj.fro 1 (iE (i.left d))=AObj.fro 1 (iE (i.left d))∧AObj.own 3 1 (iE (List.map (fun(l:Nat) ↦ (↑l:Int)) (i.idx d)))=AObj.own 3 1 (iE (List.map (fun(l:Nat) ↦ (↑l:Int)) (i.idx d)))) (∃(l:Unit),iE (m9 i)=iE (i.add k)∧True))
def yKa (o:zJ):Prop:=
 ∃(a:Unit),o.top=o.top∧True
def z3f (l:List zJ):Prop:=
 ∃(a:Nat),(↑a:Int)=0∧∃(b:Nat→Prop),∃(c:Nat→Nat),b a∧∀(d:Nat),b d→cnd (decide ((↑d:Int)<(↑(List.map wT l).length:Int))) ((0≤(↑d:Int)∧(↑d:Int)<(↑(List.map wT l).length:Int))∧∃(e:Int),∃(f:Int),∃(g:Int),∃(h:Int),∃(j:Bool),zF (List.map wT l) (↑d:Int).toNat 0 5=some [dI e,dI f,dI g,dI h,D.v (.bool j)]∧∃(k:zJ),k.id=e∧k.side=f∧k.price=g∧k.qty=h∧k.top=j∧True∧∀(m:Unit),True→cnd k.top (∃(n:Unit),topI l=(↑d:Int)∧True) (jK d b c)) (∃(e:Unit),topI l=(-1)∧True)
open Go Cv Go.Proofs
theorem yHb:topFC.ok Tryz.prog 288:=okw (V:=yKa) mixed gok0 0 (fun _=>[]) (fun _=>[]) [] Tryz.func288 fun(o:zJ) _=>by
 unfold yKa
 exact⟨(),rfl,trivial⟩
theorem z0e (i:PlI):(kR i).length=i.l.length∨kR i=[]:=by
 rw[kR]
 split
 ·left;rw[PlI.p1,l8,List.length_zip,zYn];simp
 ·exact .inr rfl
theorem yPm {l:List zJ} {k:Nat} {o:zJ} (h:l[k]? =some o):zF (l.map wT) k 0 5=some [D.v (.int .i64 o.id),.v (.int .i64 o.side),.v (.int .i64 o.price),.v (.int .i64 o.qty),.v (.bool o.top)]:=elA h (by simp[wT]) rfl
theorem yHl (l:List zJ) (h:idxOrdC.cnd l):z3f l:=by
 have h:l.length≤1000000:=h
 unfold z3f jK wC dI
 simp only[yWm]
 refine⟨0,rfl,fun j=>j≤l.length∧∀k<j,∀x,l[k]? =some x→x.top=false,fun j=>l.length-j,⟨by omega,fun k hk=>by omega⟩,?_⟩
 rintro j ⟨h3,h4⟩
 refine zK (fun hj=> ?_) (fun hj=> ?_)
 ·obtain⟨s,hs⟩:=z6 (l:=l) (i:=j) (by omega)
  refine⟨⟨by omega,by omega⟩,s.id,s.side,s.price,s.qty,s.top,yPm hs,s,rfl,rfl,rfl,rfl,rfl,trivial,fun _ _=>Cv.cnd.mk (fun e=> ?_) (fun e=> ?_)⟩
  ·rw[topI,zFn hs e h4];(repeat'(first|exact rfl|exact trivial|assumption|apply And.intro|refine fun(_:Unit) (_:True)=>?_|refine Exists.intro () ?_|omega|(dsimp only;omega)))
  ·refine⟨j+1,by rw[w64 (by omega)];rfl,⟨by omega,fun k hk x hx=> ?_⟩,by(first|omega|(dsimp only;omega)),by(repeat'(first|exact trivial|exact rfl|apply And.intro))⟩
   rcases yZi k j with hk'|hk'
   ·exact h4 k hk' x hx
   ·obtain rfl:k=j:=by omega
    rw[hs]at hx;cases hx;exact e
 ·rw[topI,zFm fun k x hx=>h4 k (by have:=(yWn.1 hx).1;omega) x hx];(repeat'(first|exact rfl|exact trivial|assumption|apply And.intro|refine fun(_:Unit) (_:True)=>?_|refine Exists.intro () ?_|omega|(dsimp only;omega)))
theorem z5s:idxOrdC.ok Tryz.prog 287:=okw mixed (gokc yHb gok0) 0 (fun _=>[]) (fun l=>yJu l) [] Tryz.func287 yHl
theorem yBu (i:RsI) (j:Nat):i.idx (j+1)=i.idx j++if i.out.getD j 0<i.l.getD j 0 then[j]else[]:=by
 rw[RsI.idx,y1k,yZj]
 by_cases h:i.out.getD j 0<i.l.getD j 0
 ·rw[yWl h,y1n (by simpa using h)];rfl
 ·rw[yWk h,y1o (by simpa using h)];rfl
theorem yPt (i:RsI) {k n:Nat} (h:n∈i.idx k):n<k:=by
 have:=(yYp.1 h).1
 exact yZr.1 this
theorem z4p (i:RsI) (k:Nat):(i.idx k).length≤k:=by
 have:=y0a (fun n=>decide (i.out.getD n 0<i.l.getD n 0)) (List.range k)
 rw[List.length_range]at this
 exact this
theorem zWx:∀(z:List (Nat×Int)) (o:List Int),(z.foldl (fun o y=>o.set y.1 (IntKind.i64.wrap (o.getD y.1 0+y.2))) o).length=o.length
 |[],_=>rfl
 |y::z,o=>by rw[yZh,zWx z,yXp]
theorem yTb (i:RsI) (h:restC.cnd i):yLc i:=by
 obtain⟨hl,ho,hq,hle,hb⟩:i.ok:=h
 unfold yLc dI
 simp only[xF,yWm]
 have hil:∀j,(i.left j).length=(i.idx j).length:=fun j=>yWm _
 refine⟨0,by(first|exact rfl|exact trivial),by(first|exact rfl|exact trivial),by(first|exact rfl|exact trivial),fun j=>j≤i.l.length,fun j=>i.l.length-j,yYa _,fun j hj=>zK (fun c=> ?_) (fun c=> ?_)⟩
 ·have hj':j<i.l.length:=by omega
  obtain⟨n,hn⟩:=z6 (l:=i.l) (i:=j) hj'
  obtain⟨o,hoo⟩:=z6 (l:=i.out) (i:=j) (by omega)
  have bj:=hb j
  rw[zT hn,zT hoo]at bj
  have is:=yBu i j
  rw[zT hn,zT hoo]at is
  have il:=z4p i j
  refine⟨⟨by omega,by omega⟩,n,elI hn,⟨by omega,by omega⟩,o,elI hoo,zK (fun a=> ?_) (fun a=> ?_)⟩
  ·rw[yWl (by omega)]at is
   refine⟨⟨by omega,by omega⟩,n,elI hn,⟨by omega,by omega⟩,o,elI hoo,by rw[hil];omega,by omega,j+1,wjn (by omega),?_,?_,hj',by dsimp only;omega,by(repeat'(first|exact trivial|exact rfl|apply And.intro))⟩
   ·rw[w64 (by omega),RsI.left,is,yWw]
    simp[iE,RsI.left,hn,hoo]
   ·rw[is];simp[iE]
  ·rw[yWk (by omega),yXi]at is
   exact⟨j+1,wjn (by omega),by rw[RsI.left,is];rfl,by rw[is],hj',by dsimp only;omega,by(repeat'(first|exact trivial|exact rfl|apply And.intro))⟩
 have hje:j=i.l.length:=by omega
 subst hje
 have il:=z4p i i.l.length
 refine⟨⟨i.left i.l.length,i.least,i.q⟩,rfl,rfl,rfl,⟨by dsimp only;rw[hil];omega,hq,hle⟩,fun _ _=> ?_⟩
 have epl:kR ⟨i.left i.l.length,i.least,i.q⟩=i.pl:=rfl
 rw[epl]
 have hpl:i.pl.length≤(i.idx i.l.length).length:=by
  rcases z0e ⟨i.left i.l.length,i.least,i.q⟩with e|e
  ·rw[epl]at e;rw[e];dsimp only;rw[hil];exact yXs _
  ·rw[epl]at e;rw[e];exact yYa _
 have hal:∀k,(i.add k).length=i.out.length:=fun k=>zWx _ _
 refine⟨0,by(first|exact rfl|exact trivial),by(first|exact rfl|exact trivial),fun k=>k≤i.pl.length,fun k=>i.pl.length-k,yYa _,fun k hk=>zK (fun c=> ?_) (fun c=> ?_)⟩
 ·have hk':k<i.pl.length:=by omega
  obtain⟨x,hx⟩:=z6 (l:=i.pl) (i:=k) hk'
  obtain⟨n,hn⟩:=z6 (l:=i.idx i.l.length) (i:=k) (by omega)
  have hnl:=yPt i (yWu hn)
  obtain⟨y,hy⟩:=z6 (l:=i.add k) (i:=n) (by rw[hal];omega)
  have ea:i.add (k+1)=(i.add k).set n (IntKind.i64.wrap (y+x)):=by
   have hz:((i.idx i.l.length).zip i.pl)[k]? =some (n,x):=by rw[y1h];exact⟨hn,hx⟩
   have ey:(i.add k).getD n 0=y:=zT hy
   rw[RsI.add,yXw,hz,y1l]
   show(i.add k).set n (IntKind.i64.wrap ((i.add k).getD n 0+x))=_
   rw[ey]
  have hnm:((i.idx i.l.length).map fun(n:Nat)=>(n:Int))[k]? =some (n:Int):=by rw[yXj,hn];rfl
  rw[hal]
  refine⟨⟨by omega,by omega⟩,x,elI hx,⟨by omega,by omega⟩,n,elI hnm,⟨by omega,by omega⟩,y,elI hy,⟨by omega,by omega⟩,by omega,k+1,wjn (by omega),?_,hk',by dsimp only;omega,by(repeat'(first|exact trivial|exact rfl|apply And.intro))⟩
  rw[ea,yXf,zSw hy]
 ·have hke:k=i.pl.length:=by omega
  subst hke
  exact⟨(),rfl,trivial⟩
theorem z5f:restC.ok Tryz.prog 306:=okw mixed (gokc yFi gok0) 0 (fun _=>[]) (fun i=>yTl i) [] Tryz.func306 yTb
open Go Cv Go.Proofs
structure PsI where
 l:List Int
 top:Int
 most:Int
 least:Int
 q:Int
def PsI.first (i:PsI):Int:=min (min (i.l.getD i.top.toNat 0) i.most) i.q
def PsI.rs (i:PsI):RsI:=if 0≤i.top∧i.top<i.l.length then⟨i.l,(List.replicate i.l.length 0).set i.top.toNat i.first,i.least,i.q-i.first⟩else⟨i.l,List.replicate i.l.length 0,i.least,i.q⟩
def zCm (i:PsI):List Int:=if yT i.l i.q=true∧1≤i.least∧0≤i.most then m9 i.rs else[]
def proC:Con:=con1 PsI (fun i=>[iV i.l,zA i.top,zA i.most,zA i.least,zA i.q]) (fun _=>[]) (fun i=>i.l.length≤1000000∧yV i.q∧yV i.least∧yV i.most) (fun _=> .own 0) (fun i=>[.own 2 1 (iE (zCm i))])
structure SpI where
 l:List Int
 part:Int
 least:Int
 q:Int
def SpI.rs (i:SpI):RsI:=⟨i.l,uZ i.l (i.q*i.part / 100),i.least,i.q-i.q*i.part / 100⟩
def zBh (i:SpI):List Int:=if yT i.l i.q=true∧0≤i.part∧i.part≤100∧1≤i.least then m9 i.rs else[]
def splC:Con:=con1 SpI (fun i=>[iV i.l,zA i.part,zA i.least,zA i.q]) (fun _=>[]) (fun i=>i.l.length≤1000000∧yV i.q∧yV i.least∧yV i.part) (fun _=> .own 0) (fun i=>[.own 2 1 (iE (zBh i))])
open Go Cv Go.Proofs
def zCj (a:RsI):Prop:=a.l.length≤250∧a.out.length=a.l.length∧((-9223372036854775808)≤a.q∧a.q≤9223372036854775807)∧((-9223372036854775808)≤a.least∧a.least≤9223372036854775807)∧∀(b:Nat),0≤a.out.getD b 0∧a.out.getD b 0≤a.l.getD b 0∧a.l.getD b (0:Int)≤(1000000:Int)
def zMg (a:RsI) (b:PsI):Prop:=(zCj a)∧∀(c:Unit),True→∃(d:Unit),iE (zCm b)=iE (m9 a)∧True
def zTe (a:PsI):Prop:=∃(b:RsI),iE b.l=iE a.l∧b.least=a.least∧b.q=a.q∧iE b.out=List.replicate (↑(iE a.l).length:Int).toNat [dI 0]∧zMg b a
def sF (a:PsI):=(List.replicate (↑(iE a.l).length:Int).toNat [dI 0])
def zKi (a:PsI) (b:Int):=(zH (sF a) a.top.toNat 0 [dI (min (min b a.most) a.q)])
def ySz (i:PsI):Prop:=
 ∃(a:LqI),iE a.l=iE i.l∧a.q=i.q∧(j0 a)∧∀(b:Unit),True→cnd (!yT a.l a.q) (∃(c:Unit),iE (zCm i)=[]∧True) (cnd (decide (i.least<1)) (∃(c:Unit),iE (zCm i)=[]∧True) (cnd (decide (i.most<0)) (∃(c:Unit),iE (zCm i)=[]∧True) ((0≤(↑(iE i.l).length:Int)∧(↑(iE i.l).length:Int)≤(↑(iE i.l).length:Int)∧(↑(iE i.l).length:Int)≤9223372036854775807∧(↑(8:Nat):Int)*(↑(iE i.l).length:Int)≤2 ^ (48:Nat))∧cnd (decide (i.top≥0)) (cnd (decide (i.top<(↑(iE i.l).length:Int))) ((0≤i.top∧i.top<(↑(iE i.l).length:Int))∧∃(c:Int),zF (iE i.l) i.top.toNat 0 1=some [dI c]∧(0≤i.top∧i.top<(↑(sF i).length:Int))∧i.top.toNat<(sF i).length∧(0≤i.top∧i.top<(↑(zKi i c).length:Int))∧∃(d:Int),zF (zKi i c) i.top.toNat 0 1=some [dI d]∧∃(e:RsI),iE e.l=iE i.l∧e.least=i.least∧e.q=IntKind.i64.wrap (i.q-d)∧iE e.out=zH (sF i) i.top.toNat 0 [dI (min (min c i.most) i.q)]∧zMg e i) (zTe i)) (zTe i))))
def yRw (i:SpI):Prop:=
 ∃(a:LqI),iE a.l=iE i.l∧a.q=i.q∧(j0 a)∧∀(b:Unit),True→cnd (!yT a.l a.q) (∃(c:Unit),iE (zBh i)=[]∧True) (cnd (decide (i.part<0)) (∃(c:Unit),iE (zBh i)=[]∧True) (cnd (decide (i.part>100)) (∃(c:Unit),iE (zBh i)=[]∧True) (cnd (decide (i.least<1)) (∃(c:Unit),iE (zBh i)=[]∧True) (∃(c:ShI),c.a=i.q∧c.b=i.part∧c.c=100∧(0≤c.a∧c.a≤(2000000000:Int)∧(0:Int)≤c.b∧c.b≤(2000000000:Int)∧(1:Int)≤c.c∧c.c≤2000000000)∧∀(d:Unit),True→∃(e:LqI),iE e.l=iE i.l∧e.q=c.a*c.b / c.c∧(j0 e)∧∀(f:Unit),True→∃(g:RsI),iE g.l=iE i.l∧g.least=i.least∧g.q=IntKind.i64.wrap (i.q-c.a*c.b / c.c)∧iE g.out=iE (uZ e.l e.q)∧(zCj g)∧∀(h:Unit),True→∃(j:Unit),iE (zBh i)=iE (m9 g)∧True))))
end Sx
