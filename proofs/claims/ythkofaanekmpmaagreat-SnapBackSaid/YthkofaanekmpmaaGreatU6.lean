/- Texts of ours, one behind the other: a walk that the kernel reckons, and contracts of functions. No condition. -/
import Derived.Laws.Externs
import Derived.Test.YthkofaanekmpmaaGreatU5
namespace Sx
set_option linter.unusedVariables false
set_option maxRecDepth 100000
open Go Cv Go.Proofs
def aC (a:Bool→Prop) (b:Bool) (c:List UInt8) (d:Nat×Nat):Prop:=a b∧Sx.AObj.iter (sb c) (d.fst+(Utf8.decode (sb c) d.fst).snd)=Sx.AObj.iter (sb c) (d.fst+(Utf8.decode (sb c) d.fst).snd)
def x4 (a:List UInt8) (b:Nat×Nat):=(↑(Utf8.decode (sb a) b.fst).fst:Int)
def sE (a:List UInt8) (b:Nat×Nat) (c:Bool→Prop):Prop:=∃(d:Bool),d=!(x4 a b) !=930∧aC c d a b
def dE (a:Bool→Prop) (b:List UInt8) (c:Nat×Nat):Prop:=∃(d:Bool),d=!false∧aC a d b c
def z1j (s:List UInt8):Prop:=
 ∃(a:Nat×Nat),(↑a.snd:Int)=0∧sb s=sb s∧a.fst=0∧∃(b:Nat×Nat→Prop),∃(c:Nat×Nat→Nat),b a∧∀(d:Nat×Nat),b d→cnd (d.fst.blt (sb s).size) (∃(e:Bool),∃(f:Bool→Prop),cnd (decide ((x4 s d)≥65)) (cnd (decide ((x4 s d)≤90)) (∃(g:Bool),g=!true∧aC f g s d) (cnd (decide ((x4 s d)≥913)) (cnd (decide ((x4 s d)≤937)) (sE s d f) (dE f s d)) (dE f s d))) (cnd (decide ((x4 s d)≥913)) (cnd (decide ((x4 s d)≤937)) (sE s d f) (dE f s d)) (dE f s d))∧∀(g:Bool),f g→cnd g (∃(h:Unit),j7 s=false∧True) (fF d s b c)) (cnd (decide ((↑d.snd:Int)≥1)) (∃(e:Unit),j7 s=decide ((↑d.snd:Int)≤4)∧True) (∃(e:Unit),j7 s=false∧True))
def mR (a:Prd):Prop:=Sx.AObj.cells [V.d (vR a),V.own 0,V.d (dI a.tick),V.d (dI a.low),V.d (dI a.high),V.d (dI a.wide),V.d (dI a.rule),V.d (dI a.top),V.d (dI a.least),V.d (dI a.part),V.own ((0:Nat)+(1:Nat))] 25=Sx.AObj.cells [V.d (vR a),V.own 0,V.d (dI a.tick),V.d (dI a.low),V.d (dI a.high),V.d (dI a.wide),V.d (dI a.rule),V.d (dI a.top),V.d (dI a.least),V.d (dI a.part),V.own ((0:Nat)+(1:Nat))] 25∧cK a
def rK (a:Nat) (b:Nat→Prop) (c:Nat→Nat) (d:Prd):Prop:=∃(e:Nat),(↑e:Int)=IntKind.i64.wrap ((↑a:Int)+1)∧b e∧c e<c a∧mR d
def rP (a:Bool→Prop) (b:Prd) (c:Nat) (d:Nat→Prop) (e:Nat→Nat):Prop:=∀(f:Bool),a f→cnd f (∃(g:Unit),b.check=1∧True) (rK c d e b)
def qZ (a:Bool→Prop) (b:Bool) (c:Prd):Prop:=a b∧mR c
def yV (a:Bool→Prop) (b:Prd):Prop:=∃(c:Bool),c=true∧qZ a c b
def zVy (p:Prd):Prop:=
 ∃(a:List UInt8),sb a=sb p.code∧a.length≤1099511627776∧∀(b:Unit),True→cnd (!j7 a) (∃(c:Unit),p.check=12∧True) (∃(c:Bool),∃(d:Bool→Prop),cnd (decide ((xB p)<2)) (yV d p) (∃(e:Bool),e=decide ((xB p)>6)∧qZ d e p)∧∀(e:Bool),d e→cnd e (∃(f:Unit),p.check=1∧True) (∃(f:Nat),(↑f:Int)=0∧∃(g:Nat→Prop),∃(h:Nat→Nat),g f∧∀(j:Nat),g j→cnd (decide ((↑j:Int)<(xB p))) (∃(k:Bool),∃(l:Bool→Prop),((0≤(↑j:Int)∧(↑j:Int)<(xB p))∧∃(m:Int),zE (iE p.months) (↑j:Int).toNat 0 1=some [dI m]∧cnd (decide (m<0)) (yV l p) ((0≤(↑j:Int)∧(↑j:Int)<(xB p))∧∃(n:Int),zE (iE p.months) (↑j:Int).toNat 0 1=some [dI n]∧cnd (decide (n>1199)) (yV l p) (cnd (decide ((↑j:Int)>0)) ((0≤IntKind.i64.wrap ((↑j:Int)-1)∧IntKind.i64.wrap ((↑j:Int)-1)<(xB p))∧∃(q:Int),zE (iE p.months) (IntKind.i64.wrap ((↑j:Int)-1)).toNat 0 1=some [dI q]∧(0≤(↑j:Int)∧(↑j:Int)<(xB p))∧∃(r:Int),zE (iE p.months) (↑j:Int).toNat 0 1=some [dI r]∧∃(s:Bool),s=decide (q≥r)∧qZ l s p) (∃(q:Bool),q=false∧qZ l q p))))∧rP l p j g h) (∃(k:Bool),∃(l:Bool→Prop),cnd (decide (p.tick<1)) (yV l p) (cnd (decide (p.tick>1000)) (yV l p) (IntKind.i64=IntKind.i64∧p.tick≠0∧cnd (p.low.tmod p.tick !=0) (yV l p) (IntKind.i64=IntKind.i64∧p.tick≠0∧cnd (p.high.tmod p.tick !=0) (yV l p) (IntKind.i64=IntKind.i64∧p.tick≠0∧∃(m:Bool),m=(p.wide.tmod p.tick !=0)∧qZ l m p))))∧∀(m:Bool),l m→cnd m (∃(n:Unit),p.check=22∧True) (∃(n:Nat),(↑n:Int)=0∧∃(q:Nat→Prop),∃(r:Nat→Nat),q n∧∀(s:Nat),q s→cnd (decide ((↑s:Int)<(wM p))) ((0≤(↑s:Int)∧(↑s:Int)<(wM p))∧∃(t:Int),zE (iE p.settle) (↑s:Int).toNat 0 1=some [dI t]∧IntKind.i64=IntKind.i64∧p.tick≠0∧cnd (t.tmod p.tick !=0) (∃(u:Unit),p.check=22∧True) (rK s q r p)) (∃(t:Bool),∃(u:Bool→Prop),cnd (decide (p.low<(-1000000))) (yV u p) (cnd (decide (p.low≥p.high)) (yV u p) (cnd (decide (p.high>1000000)) (yV u p) (cnd (decide (p.wide<0)) (yV u p) (∃(v:Bool),v=decide (p.wide>IntKind.i64.wrap (p.high-p.low))∧qZ u v p))))∧∀(v:Bool),u v→cnd v (∃(w:Unit),p.check=23∧True) (cnd ((wM p) !=(xB p)) (∃(w:Unit),p.check=1∧True) (∃(w:Nat),(↑w:Int)=0∧∃(x:Nat→Prop),∃(y:Nat→Nat),x w∧∀(z:Nat),x z→cnd (decide ((↑z:Int)<(wM p))) (∃(a_1:Bool),∃(a_2:Bool→Prop),((0≤(↑z:Int)∧(↑z:Int)<(wM p))∧∃(a_3:Int),zE (iE p.settle) (↑z:Int).toNat 0 1=some [dI a_3]∧cnd (decide (a_3<p.low)) (yV a_2 p) ((0≤(↑z:Int)∧(↑z:Int)<(wM p))∧∃(a_4:Int),zE (iE p.settle) (↑z:Int).toNat 0 1=some [dI a_4]∧∃(a_5:Bool),a_5=decide (a_4>p.high)∧qZ a_2 a_5 p))∧rP a_2 p z x y) (∃(a_1:Bool),∃(a_2:Bool→Prop),cnd (decide (p.rule<1)) (yV a_2 p) (∃(a_3:Bool),a_3=decide (p.rule>3)∧qZ a_2 a_3 p)∧∀(a_3:Bool),a_2 a_3→cnd a_3 (∃(a_4:Unit),p.check=31∧True) (∃(a_4:Bool),∃(a_5:Bool→Prop),cnd (decide (p.top<0)) (yV a_5 p) (cnd (decide (p.top>1000000)) (yV a_5 p) (cnd (decide (p.least<1)) (yV a_5 p) (cnd (decide (p.least>1000)) (yV a_5 p) (cnd (decide (p.part<0)) (yV a_5 p) (∃(a_6:Bool),a_6=decide (p.part>100)∧qZ a_5 a_6 p)))))∧∀(a_6:Bool),a_5 a_6→cnd a_6 (∃(a_7:Unit),p.check=24∧True) (∃(a_7:Unit),p.check=0∧True))))))))))
def zVq (p:Prd):Prop:=
 ∃(a:Prd),mV a p
def gJ (a:dC) (b:Nat×Nat):=(↑(yL a.p.months.length b.fst+b.snd):Int)
def z0u (i:dC):Prop:=
 ∃(a:Prd),sb a.code=sb i.p.code∧iE a.months=iE i.p.months∧a.tick=i.p.tick∧a.low=i.p.low∧a.high=i.p.high∧a.wide=i.p.wide∧a.rule=i.p.rule∧a.top=i.p.top∧a.least=i.p.least∧a.part=i.p.part∧iE a.settle=iE i.p.settle∧(z7 a)∧∀(b:Unit),True→cnd (a.check !=0) (hU i) (cnd (decide (i.n<0)) (hU i) (cnd (decide (i.n<(wQ i))) (eN i) (∃(c:Nat),(v9 i c)=(wQ i)∧(↑c:Int)=0∧∃(d:Nat→Prop),∃(e:Nat→Nat),d c∧∀(f:Nat),d f→cnd (decide ((↑f:Int)<(wQ i))) (∃(g:Nat×Nat),(gJ i g)=(v9 i f)∧(↑g.fst:Int)=(↑f:Int)∧(↑(g.fst+1+g.snd):Int)=IntKind.i64.wrap ((↑f:Int)+1)∧∃(h:Nat×Nat→Prop),∃(j:Nat×Nat→Nat),h g∧∀(k:Nat×Nat),h k→cnd (decide ((↑(k.fst+1+k.snd):Int)<(wQ i))) (cnd ((gJ i k)==i.n) (∃(l:Unit),(i.p.legs i.n).fst=(↑k.fst:Int)∧(i.p.legs i.n).snd.fst=(↑(k.fst+1+k.snd):Int)∧(i.p.legs i.n).snd.snd=true∧True) (∃(l:Nat×Nat),(gJ i l)=IntKind.i64.wrap ((gJ i k)+1)∧(↑l.fst:Int)=(↑k.fst:Int)∧(↑(l.fst+1+l.snd):Int)=IntKind.i64.wrap ((↑(k.fst+1+k.snd):Int)+1)∧h l∧j l<j k∧nH i)) (∃(l:Nat),(v9 i l)=(gJ i k)∧(↑l:Int)=IntKind.i64.wrap ((↑k.fst:Int)+1)∧zCh d l e f i)) (hU i))))
def y6 (a:WiI):Prop:=((-9223372036854775808)≤a.n∧a.n≤9223372036854775807)∧(-1000000)≤a.lo∧a.lo≤a.hi∧a.hi≤1000000
def xW (a:WiI):=(1+zG a.n a.lo a.hi)
def qS:=(D.v (Value.slice none 0 0))
def fP:=(D.v (Value.string (ByteArray.mk #[])))
def zEi (a:Prd):Prop:=Sx.AObj.cells (Sx.V.agg [V.d fP,V.d qS,V.d (dI 0),V.d (dI 0),V.d (dI 0),V.d (dI 0),V.d (dI 0),V.d (dI 0),V.d (dI 0),V.d (dI 0),V.d qS]).cl 25=Sx.AObj.cells (Sx.V.agg [V.d fP,V.d qS,V.d (dI 0),V.d (dI 0),V.d (dI 0),V.d (dI 0),V.d (dI 0),V.d (dI 0),V.d (dI 0),V.d (dI 0),V.d qS]).cl 25∧mR a
def zDy (a:Prd) (b:WiI) (c:WiI) (d:WiI) (e:WiI) (f:Unit→Prop):Prop:=∃(g:WiI),g.n=a.part∧g.lo=0∧g.hi=100∧(y6 g)∧∀(h:Unit),True→∃(j:Unit),sb [(206:UInt8),(169:UInt8)]=ByteArray.mk #[(206:UInt8),(169:UInt8)]∧True∧zV a=IntKind.i64.wrap (xW b)∧(-20)*zV a=IntKind.i64.wrap ((-20)*IntKind.i64.wrap (xW b))∧100*zV a=IntKind.i64.wrap (100*IntKind.i64.wrap (xW b))∧(0:Int)=(0:Int)∧1+zG a.rule 0 2=IntKind.i64.wrap (xW c)∧zG a.top 0 9=zG d.n d.lo d.hi∧1+zG a.least 0 4=IntKind.i64.wrap (xW e)∧zG a.part 0 100=zG g.n g.lo g.hi∧True∧f j∧zEi a
def zFf (a:Prd) (b:WiI) (c:WiI) (d:WiI) (e:WiI) (f:Unit→Prop):Prop:=a.part=a.part∧zDy a b c d e f
def zEe (a:Prd) (b:WiI) (c:WiI) (d:WiI) (e:Unit→Prop):Prop:=a.part=a.part∧a.least=a.least∧∃(f:WiI),f.n=a.least∧f.lo=0∧f.hi=4∧(y6 f)∧∀(g:Unit),True→zFf a b c d f e
def zEs (a:Prd) (b:WiI) (c:WiI) (d:Unit→Prop):Prop:=a.part=a.part∧a.least=a.least∧a.top=a.top∧∃(e:WiI),e.n=a.top∧e.lo=0∧e.hi=9∧(y6 e)∧∀(f:Unit),True→zEe a b c e d
def xX (a:Prd):=(5+zG a.wide 0 60)
def vH (a:Prd):=(kM (zV a) (kN a).toNat)
def yEg (x:Prd):Prop:=
 ∃(a:WiI),a.n=(xB x)∧a.lo=0∧a.hi=3∧(y6 a)∧∀(b:Unit),True→∃(c:WiI),c.n=x.tick∧c.lo=0∧c.hi=9∧(y6 c)∧∀(d:Unit),True→∃(e:Unit),∃(f:Unit→Prop),((∃(g:WiI),g.n=x.rule∧g.lo=0∧g.hi=2∧(y6 g)∧∀(h:Unit),True→x.part=x.part∧x.least=x.least∧x.top=x.top∧(∃(j:WiI),j.n=x.top∧j.lo=0∧j.hi=9∧(y6 j)∧∀(k:Unit),True→x.part=x.part∧x.least=x.least∧(∃(l:WiI),l.n=x.least∧l.lo=0∧l.hi=4∧(y6 l)∧∀(m:Unit),True→x.part=x.part∧(zDy x c g j l f)∧zFf x c g j l f)∧zEe x c g j f)∧zEs x c g f)∧x.part=x.part∧x.least=x.least∧x.top=x.top∧x.rule=x.rule∧∃(g:WiI),g.n=x.rule∧g.lo=0∧g.hi=2∧(y6 g)∧∀(h:Unit),True→zEs x c g f)∧∀(g:Unit),f g→∃(h:WiI),h.n=x.wide∧h.lo=0∧h.hi=60∧(y6 h)∧∀(j:Unit),True→∃(k:Nat),(↑k:Int)=0∧sb [(206:UInt8),(169:UInt8)]=sb [(206:UInt8),(169:UInt8)]∧zV x=zV x∧(-20)*zV x=(-20)*zV x∧100*zV x=100*zV x∧zV x*(xX x)=IntKind.i64.wrap (IntKind.i64.wrap (xW c)*IntKind.i64.wrap (5+zG h.n h.lo h.hi))∧1+zG x.rule 0 (2:Int)=(1:Int)+zG x.rule 0 2∧zG x.top 0 9=zG x.top 0 (9:Int)∧(1:Int)+zG x.least 0 (4:Int)=(1:Int)+zG x.least 0 4∧zG x.part 0 100=zG x.part 0 100∧iE (qF k)=[]∧iE (kM (zV x) k)=[]∧∃(l:Nat→Prop),∃(m:Nat→Nat),l k∧∀(n:Nat),l n→cnd (decide ((↑n:Int)<IntKind.i64.wrap (2+zG a.n a.lo a.hi))) (((iE (qF n)).length+1)*(8:Nat)≤(140737488355328:Nat)∧((iE (kM (zV x) n)).length+1)*(8:Nat)≤(140737488355328:Nat)∧∃(p:Nat),(↑p:Int)=IntKind.i64.wrap ((↑n:Int)+1)∧sb [(206:UInt8),(169:UInt8)]=sb [(206:UInt8),(169:UInt8)]∧zV x=zV x∧(-20)*zV x=(-20)*zV x∧100*zV x=100*zV x∧zV x*(xX x)=zV x*(xX x)∧1+zG x.rule 0 (2:Int)=(1:Int)+zG x.rule 0 2∧zG x.top 0 9=zG x.top 0 (9:Int)∧(1:Int)+zG x.least 0 (4:Int)=(1:Int)+zG x.least 0 4∧zG x.part 0 100=zG x.part 0 100∧iE (qF p)=iE (qF n)++[[dI (IntKind.i64.wrap (IntKind.i64.wrap (10*(↑n:Int))+3))]]∧iE (kM (zV x) p)=iE (kM (zV x) n)++[[dI (IntKind.i64.wrap (IntKind.i64.wrap (xW c)*IntKind.i64.wrap (10+(↑n:Int))))]]∧l p∧m p<m n∧zEi x) (∃(p:Unit),sb [(206:UInt8),(169:UInt8)]=sb [(206:UInt8),(169:UInt8)]∧iE (qF (kN x).toNat)=iE (qF n)∧zV x=zV x∧(-20)*zV x=(-20)*zV x∧100*zV x=100*zV x∧zV x*(xX x)=zV x*(xX x)∧1+zG x.rule 0 (2:Int)=(1:Int)+zG x.rule 0 2∧zG x.top 0 9=zG x.top 0 (9:Int)∧(1:Int)+zG x.least 0 (4:Int)=(1:Int)+zG x.least 0 4∧zG x.part 0 100=zG x.part 0 100∧iE (vH x)=iE (kM (zV x) n)∧True)
set_option linter.unusedSimpArgs false
open Go Cv Go.Proofs
theorem yEz (s:List UInt8) (h:r3prodC.cnd s):z1j s:=by
 have h:s.length≤1099511627776:=h
 have hr:=zEq s
 unfold z1j dE sE x4 aC fF
 refine⟨(0,0),rfl,rfl,rfl,fun x=>x.1≤s.length∧x.2+(uX s x.1).length=(kQ s).length∧(kQ s).all uP=((uX s x.1).all fun y=>uP y.2),fun x=>s.length-x.1,⟨by omega,by rw[kQ,yWk];simp,by rw[kQ,List.all_map];rfl⟩,?_⟩
 rintro⟨p,n⟩ ⟨h1,h2,h3⟩
 dsimp only at h1 h2 h3 ⊢
 refine Cv.cnd.mk (fun hp=> ?_) (fun hp=> ?_)
 ·have hp:p<s.length:=by simpa[yZj]using hp
  have hw:=cT s hp
  rw[wE hp,yWr]at h2
  rw[wE hp,List.all_cons]at h3
  generalize hc:(Utf8.decode (sb s) p).1=c at h2 h3 ⊢
  generalize hww:(Utf8.decode (sb s) p).2=w at h2 h3 hw ⊢
  dsimp only at h3
  have g0:∀b:Bool,(b=true→uP c=true)→(b=false→uP c=false)→b=uP c:=fun b e1 e2=>by cases b<;>simp_all
  refine⟨true,fun b=>b= !uP c,?_,fun b hb=> ?_⟩
  ·refine zI (fun c1=>zI (fun c2=>⟨_,rfl,?_,k0q⟩) (fun c2=>zI (fun c3=>zI (fun c4=>⟨_,rfl,?_,k0q⟩) (fun c4=>⟨_,rfl,?_,k0q⟩)) (fun c3=>⟨_,rfl,?_,k0q⟩))) (fun c1=>zI (fun c3=>zI (fun c4=>⟨_,rfl,?_,k0q⟩) (fun c4=>⟨_,rfl,?_,k0q⟩)) (fun c3=>⟨_,rfl,?_,k0q⟩))
   all_goals congr 1
   all_goals refine g0 _ (fun e=> ?_) (fun e=> ?_)
   all_goals first|(simp[uP]at*;done)|(simp[uP]at*;omega)
  ·subst hb
   refine Cv.cnd.mk (fun e=>⟨(),?_,trivial⟩) (fun e=>⟨(p+w,n+1),?_,rfl,rfl,⟨hw.2,by(first|omega|(dsimp only;omega)),?_⟩,by(first|omega|(dsimp only;omega)),trivial⟩)
   ·have e:uP c=false:=by simpa using e
    rw[j7,h3,e];rfl
   ·rw[w64 (by omega)];rfl
   ·have e:uP c=true:=by simpa using e
    rw[h3,e];rfl
 ·have hp:s.length≤p:=by have:=z3x hp;simpa using this
  rw[fJ hp]at h2 h3
  have h3:(kQ s).all uP=true:=h3
  have hn:n=(kQ s).length:=by simpa using h2
  have hne:(s=[])↔(kQ s).length=0:=by
   constructor
   ·intro e;subst e;rfl
   ·intro e
    cases s with
    |nil=>rfl
    |cons b l=>
     rw[kQ,yWk,wE (by simp)]at e
     simp at e
  refine zI (fun c=>⟨(),?_,trivial⟩) (fun c=>⟨(),?_,trivial⟩)
  ·have:¬s=[]:=by rw[hne];omega
   rw[j7,h3,yXc this,hn]
   simp only[yZe]
   congr 1
   simp only[eq_iff_iff];omega
  ·have:s=[]:=by rw[hne];omega
   rw[j7,this];rfl
theorem z6l:r3prodC.ok Tryz.prog 212:=okw mixed gok0 0 (fun _=>yHf) (fun s=>yHc s) [] Tryz.func212 yEz
theorem nM:∀(l:List Int) (a:Int),l.foldl min a≤a∧∀x∈l,l.foldl min a≤x
 |[],a=>⟨y1f _,by simp⟩
 |b::l,a=>by
  obtain⟨h1,h2⟩:=nM l (min a b)
  rw[yZw]
  refine⟨by omega,fun x hx=> ?_⟩
  rcases yXe.1 hx with rfl|hx
  ·omega
  ·exact h2 x hx
theorem nV:∀(l:List Int) (a:Int),a≤l.foldl max a∧∀x∈l,x≤l.foldl max a
 |[],a=>⟨y1f _,by simp⟩
 |b::l,a=>by
  obtain⟨h1,h2⟩:=nV l (max a b)
  rw[yZw]
  refine⟨by omega,fun x hx=> ?_⟩
  rcases yXe.1 hx with rfl|hx
  ·omega
  ·exact h2 x hx
theorem lH:∀(l:List Int) (a:Int),l.foldl min a=a∨l.foldl min a∈l
 |[],a=> .inl rfl
 |b::l,a=>by
  rw[yZw]
  rcases lH l (min a b)with h|h
  ·rcases Int.le_total a b with e|e
   ·left;rw[h];omega
   ·right;rw[h,show min a b=b by omega];exact yWp
  ·exact .inr (yWq _ h)
theorem lG:∀(l:List Int) (a:Int),l.foldl max a=a∨l.foldl max a∈l
 |[],a=> .inl rfl
 |b::l,a=>by
  rw[yZw]
  rcases lG l (max a b)with h|h
  ·rcases Int.le_total a b with e|e
   ·right;rw[h,show max a b=b by omega];exact yWp
   ·left;rw[h];omega
  ·exact .inr (yWq _ h)
theorem z0x {l:List Int} {x:Int} (h:x∈l):m5 l≤x:=by
 cases l with
 |nil=>cases h
 |cons a l=>
  rw[m5,List.tail_cons,List.headD_cons]
  rcases yXe.1 h with rfl|h
  ·exact(nM l x).1
  ·exact(nM l a).2 x h
theorem z2d {l:List Int} {x:Int} (h:x∈l):x≤rC l:=by
 cases l with
 |nil=>cases h
 |cons a l=>
  rw[rC,List.tail_cons,List.headD_cons]
  rcases yXe.1 h with rfl|h
  ·exact(nV l x).1
  ·exact(nV l a).2 x h
theorem zUm {l:List Int} (h:l≠[]):m5 l∈l:=by
 cases l with
 |nil=>exact absurd rfl h
 |cons a l=>
  rw[m5,List.tail_cons,List.headD_cons]
  rcases lH l a with h|h
  ·rw[h];exact yWp
  ·exact yWq _ h
theorem zTo {l:List Int} (h:l≠[]):rC l∈l:=by
 cases l with
 |nil=>exact absurd rfl h
 |cons a l=>
  rw[rC,List.tail_cons,List.headD_cons]
  rcases lG l a with h|h
  ·rw[h];exact yWp
  ·exact yWq _ h
theorem yEh (p:Prd) (h:r5checkC.cnd p):zVy p:=by
 obtain⟨h1,h2,h3⟩:p.small:=h
 unfold zVy yV qZ rP rK mR vR cK xB wM dI
 simp only[xF]
 refine⟨p.code,rfl,h1,fun _ _=>Cv.cnd.mk (fun c1=>⟨(),by rw[Prd.check,yWl c1],trivial⟩) fun c1=> ?_⟩
 have c1:j7 p.code=true:=by simpa using c1
 have e1:p.check=if !xD p.months then 1 else if !qD p then 22 else if qE p then 23 else if xG p then 1 else if qY p then 31 else if xV p then 24 else 0:=by
  rw[Prd.check,yWj (by simp[c1])]
 refine⟨true,fun b=>b=(decide (p.months.length<2)||decide (p.months.length>6)),zI (fun c=>⟨true,rfl,?_,k0q⟩) (fun c=>⟨_,rfl,?_,k0q⟩),fun b hb=> ?_⟩
 ·rw[yXc (show p.months.length<2 by omega)];rfl
 ·rw[yWx (show ¬p.months.length<2 by omega),y2m]
  congr 1;simp only[eq_iff_iff];omega
 subst hb
 refine Cv.cnd.mk (fun c2=> ?_) (fun c2=> ?_)
 ·have:xD p.months=false:=by
   simp only[Bool.or_eq_true,yYe]at c2
   rw[xD]
   rcases c2 with c2|c2
   ·rw[yWx (show ¬2≤p.months.length by omega)];simp
   ·rw[yWx (show ¬p.months.length≤6 by omega)];simp
  exact⟨(),by rw[e1,yWl (by rw[this];rfl)],trivial⟩
 have c2:2≤p.months.length∧p.months.length≤6:=by
  simp only[y0p,decide_eq_false_iff_not]at c2;omega
 have em:xD p.months=(List.range p.months.length).all (qP p.months):=by
  rw[xD,yXc c2.1,yXc c2.2];simp
 refine⟨0,rfl,fun j=>j≤p.months.length∧∀k<j,qP p.months k=true,fun j=>p.months.length-j,⟨by omega,fun k hk=>by omega⟩,?_⟩
 rintro j ⟨g1,g2⟩
 refine zI (fun hj=> ?_) (fun hj=> ?_)
 ·obtain⟨m,hm⟩:=yD (l:=p.months) (i:=j) (by omega)
  have hmj:p.months.getD j 0=m:=zR hm
  refine⟨true,fun b=>b= !qP p.months j,⟨⟨by omega,by omega⟩,m,elI hm,zI (fun c=>⟨true,rfl,?_,k0q⟩) (fun c=>⟨⟨by omega,by omega⟩,m,elI hm,zI (fun d=>⟨true,rfl,?_,k0q⟩) (fun d=>zI (fun e=> ?_) (fun e=>⟨false,rfl,?_,k0q⟩))⟩)⟩,fun b hb=> ?_⟩
  ·rw[qP,hmj,yWx (show ¬0≤m by omega)];rfl
  ·rw[qP,hmj,yWx (show ¬m≤1199 by omega)];simp
  ·obtain⟨m',hm'⟩:=yD (l:=p.months) (i:=j-1) (by omega)
   rw[w64 (by omega),show((j:Int)-1).toNat=j-1 by omega]
   refine⟨⟨by omega,by omega⟩,m',elI hm',⟨by omega,by omega⟩,m,elI hm,_,rfl,?_,k0q⟩
   rw[qP,hmj,zR hm',yXc (show 0≤m by omega),yXc (show m≤1199 by omega),yWx (show ¬j=0 by omega)]
   simp only[yZe,y2m]
   by_cases hlt:m'<m
   ·rw[yXc hlt,yWx (by omega)];rfl
   ·rw[yWx hlt,yXc (by omega)];rfl
  ·rw[qP,hmj,yXc (show 0≤m by omega),yXc (show m≤1199 by omega),yXc (show j=0 by omega)];rfl
  ·subst hb
   refine Cv.cnd.mk (fun c=>⟨(),?_,trivial⟩) (fun c=>⟨j+1,by rw[w64 (by omega)];rfl,⟨by omega,fun k hk=> ?_⟩,by(first|omega|(dsimp only;omega)),k0q⟩)
   ·have c:qP p.months j=false:=by simpa using c
    rw[e1,yWl (by rw[em,zOt (k:=j) (by omega) c];rfl)]
   ·have c:qP p.months j=true:=by simpa using c
    rcases yYy k j with h|h
    ·exact g2 k h
    ·obtain rfl:k=j:=by omega
     exact c
 have em:xD p.months=true:=by rw[em];exact zUh fun k hk=>g2 k (by omega)
 have e2:p.check=if !qD p then 22 else if qE p then 23 else if xG p then 1 else if qY p then 31 else if xV p then 24 else 0:=by
  rw[e1,yWj (by simp[em])]
 have et:qD p=((decide (1≤p.tick) && decide (p.tick≤1000) && !qH p.tick p.low && !qH p.tick p.high && !qH p.tick p.wide) && !p.settle.any (qH p.tick)):=rfl
 refine⟨true,fun b=>b= !(decide (1≤p.tick) && decide (p.tick≤1000) && !qH p.tick p.low && !qH p.tick p.high && !qH p.tick p.wide),zI (fun d1=>⟨true,rfl,?_,k0q⟩) (fun d1=>zI (fun d2=>⟨true,rfl,?_,k0q⟩) (fun d2=>⟨trivial,by omega,Cv.cnd.mk (fun d3=>⟨true,rfl,?_,k0q⟩) (fun d3=>⟨trivial,by omega,Cv.cnd.mk (fun d4=>⟨true,rfl,?_,k0q⟩) (fun d4=>⟨trivial,by omega,_,rfl,?_,k0q⟩)⟩)⟩)),fun b hb=> ?_⟩
 ·rw[yWx (show ¬1≤p.tick by omega)];rfl
 ·rw[yWx (show ¬p.tick≤1000 by omega)];simp
 ·have d3:qH p.tick p.low=true:=d3
  rw[d3];simp
 ·have d4:qH p.tick p.high=true:=d4
  rw[d4];simp
 ·have d3:qH p.tick p.low=false:=d3
  have d4:qH p.tick p.high=false:=d4
  rw[d3,d4,yXc (show 1≤p.tick by omega),yXc (show p.tick≤1000 by omega)]
  show qH p.tick p.wide=_
  simp
 subst hb
 refine Cv.cnd.mk (fun c3=> ?_) (fun c3=> ?_)
 ·have c3:(decide (1≤p.tick) && decide (p.tick≤1000) && !qH p.tick p.low && !qH p.tick p.high && !qH p.tick p.wide)=false:=by
   rw[yZh]at c3
   exact c3
  exact⟨(),by rw[e2,yWl (by rw[et,c3];rfl)],trivial⟩
 have c3:(decide (1≤p.tick) && decide (p.tick≤1000) && !qH p.tick p.low && !qH p.tick p.high && !qH p.tick p.wide)=true:=by simpa using c3
 have ht1:1≤p.tick:=by
  simp only[yWw,yYe]at c3;exact c3.1.1.1.1
 rw[c3,yZe]at et
 refine⟨0,rfl,fun j=>j≤p.settle.length∧∀k<j,∀x,p.settle[k]? =some x→qH p.tick x=false,fun j=>p.settle.length-j,⟨by omega,fun k hk=>by omega⟩,?_⟩
 rintro j ⟨g1,g2⟩
 refine zI (fun hj=> ?_) (fun hj=> ?_)
 ·obtain⟨m,hm⟩:=yD (l:=p.settle) (i:=j) (by omega)
  refine⟨⟨by omega,by omega⟩,m,elI hm,trivial,by omega,Cv.cnd.mk (fun c=>⟨(),?_,trivial⟩) (fun c=>⟨j+1,by rw[w64 (by omega)];rfl,⟨by omega,fun k hk x hx=> ?_⟩,by(first|omega|(dsimp only;omega)),k0q⟩)⟩
  ·have c:qH p.tick m=true:=c
   have:p.settle.any (qH p.tick)=true:=by rw[List.any_eq_true];exact⟨m,yWt hm,c⟩
   rw[e2,yWl (by rw[et,this];rfl)]
  ·rcases yYy k j with h|h
   ·exact g2 k h x hx
   ·obtain rfl:k=j:=by omega
    rw[hm]at hx;cases hx;exact c
 have et:qD p=true:=by
  rw[et]
  have:p.settle.any (qH p.tick)=false:=by
   rw[y2r]
   intro x hx
   obtain⟨k,hk⟩:=y2d hx
   rw[g2 k (by have:=(yWn.1 hk).1;omega) x hk];simp
  rw[this];rfl
 have e3:p.check=if qE p then 23 else if xG p then 1 else if qY p then 31 else if xV p then 24 else 0:=by
  rw[e2,yWj (by simp[et])]
 refine⟨true,fun b=>b=qE p,zI (fun d1=>⟨true,rfl,?_,k0q⟩) (fun d1=>zI (fun d2=>⟨true,rfl,?_,k0q⟩) (fun d2=>zI (fun d3=>⟨true,rfl,?_,k0q⟩) (fun d3=>zI (fun d4=>⟨true,rfl,?_,k0q⟩) (fun d4=>⟨_,rfl,?_,k0q⟩)))),fun b hb=> ?_⟩
 ·simp[qE,d1]
 ·simp[qE,d2]
 ·simp[qE,d3]
 ·simp[qE,d4]
 ·rw[w64 (by omega)];simp[qE,d1,d2,d3,d4]
 subst hb
 refine Cv.cnd.mk (fun c4=>⟨(),by rw[e3,yWl c4],trivial⟩) (fun c4=> ?_)
 have e4:p.check=if xG p then 1 else if qY p then 31 else if xV p then 24 else 0:=by
  rw[e3,yWj (by simp[c4])]
 refine Cv.cnd.mk (fun d6=>⟨(),?_,trivial⟩) (fun d6=> ?_)
 ·have d6:¬(p.settle.length:Int)=p.months.length:=by simpa using d6
  rw[e4,yWl (by simp[xG];omega)]
 have d6:p.settle.length=p.months.length:=by
  have:(p.settle.length:Int)=p.months.length:=by simpa using d6
  omega
 have hne:p.settle≠[]:=by intro e;rw[e]at d6;simp at d6;omega
 refine⟨0,rfl,fun j=>j≤p.settle.length∧∀k<j,∀x,p.settle[k]? =some x→p.low≤x∧x≤p.high,fun j=>p.settle.length-j,⟨by omega,fun k hk=>by omega⟩,?_⟩
 rintro j ⟨g3,g4⟩
 refine zI (fun hj=> ?_) (fun hj=> ?_)
 ·obtain⟨m,hm⟩:=yD (l:=p.settle) (i:=j) (by omega)
  have hmm:=yWt hm
  refine⟨true,fun b=>b=(decide (m<p.low)||decide (m>p.high)),⟨⟨by omega,by omega⟩,m,elI hm,zI (fun c=>⟨true,rfl,?_,k0q⟩) (fun c=>⟨⟨by omega,by omega⟩,m,elI hm,_,rfl,?_,k0q⟩)⟩,fun b hb=> ?_⟩
  ·rw[yXc c];rfl
  ·rw[yWx c,y2m]
  ·subst hb
   refine Cv.cnd.mk (fun c=>⟨(),?_,trivial⟩) (fun c=>⟨j+1,by rw[w64 (by omega)];rfl,⟨by omega,fun k hk x hx=> ?_⟩,by(first|omega|(dsimp only;omega)),k0q⟩)
   ·have l1:=z0x hmm
    have l2:=z2d hmm
    rw[e4,yWl (by
     simp only[Bool.or_eq_true,yYe]at c
     simp only[xG,Bool.or_eq_true,yYe]
     rcases c with c|c
     ·left;right;omega
     ·right;omega)]
   ·rcases yYy k j with h|h
    ·exact g4 k h x hx
    ·obtain rfl:k=j:=by omega
     rw[hm]at hx;cases hx
     simp only[y0p,decide_eq_false_iff_not]at c
     omega
 have hset:xG p=false:=by
  have all:∀x∈p.settle,p.low≤x∧x≤p.high:=fun x hx=>by
   obtain⟨k,hk⟩:=y2d hx
   exact g4 k (by have:=(yWn.1 hk).1;omega) x hk
  have a1:=all _ (zUm hne)
  have a2:=all _ (zTo hne)
  simp only[xG,y0p,decide_eq_false_iff_not]
  omega
 have e5:p.check=if qY p then 31 else if xV p then 24 else 0:=by
  rw[e4,yWj (by simp[hset])]
 refine⟨true,fun b=>b=qY p,zI (fun d1=>⟨true,rfl,?_,k0q⟩) (fun d1=>⟨_,rfl,?_,k0q⟩),fun b hb=> ?_⟩
 ·simp[qY,d1]
 ·simp[qY,d1]
 subst hb
 refine Cv.cnd.mk (fun c6=>⟨(),by rw[e5,yWl c6],trivial⟩) (fun c6=> ?_)
 have e6:p.check=if xV p then 24 else 0:=by rw[e5,yWj (by simp[c6])]
 refine⟨true,fun b=>b=xV p,zI (fun d1=>⟨true,rfl,?_,k0q⟩) (fun d1=>zI (fun d2=>⟨true,rfl,?_,k0q⟩) (fun d2=>zI (fun d3=>⟨true,rfl,?_,k0q⟩) (fun d3=>zI (fun d4=>⟨true,rfl,?_,k0q⟩) (fun d4=>zI (fun d5=>⟨true,rfl,?_,k0q⟩) (fun d5=>⟨_,rfl,?_,k0q⟩))))),fun b hb=> ?_⟩
 ·simp[xV,d1]
 ·simp[xV,d2]
 ·simp[xV,d3]
 ·simp[xV,d4]
 ·simp[xV,d5]
 ·simp[xV,d1,d2,d3,d4,d5]
 subst hb
 exact Cv.cnd.mk (fun c7=>⟨(),by rw[e6,yWl c7],trivial⟩) (fun c7=>⟨(),by rw[e6,yWj (by simp[c7])],trivial⟩)
theorem zIc:r5checkC.ok Tryz.prog 172:=okw mixed (gokc z6l gok0) 0 (fun _=>z7k) (fun _=>z9o) [] Tryz.func172 yEh
theorem aO {p:Prd} (h:p.check=0):p.count=p.months.length+p.months.length*(p.months.length-1) / 2:=by rw[Prd.count,yWl h]
theorem zLw {p:Prd} (h:p.check≠0):p.count=0:=by rw[Prd.count,yWj h]
theorem z7r (p:Prd) (h:r5countC.cnd p):zVq p:=by
 have hs:p.small:=h
 unfold zVq mV xB z7
 simp only[xF]
 refine⟨p,rfl,rfl,rfl,rfl,rfl,rfl,rfl,rfl,rfl,rfl,rfl,hs,fun _ _=>Cv.cnd.mk (fun c=>⟨(),?_,trivial⟩) (fun c=>⟨trivial,by decide,(),?_,trivial⟩)⟩
 ·rw[zLw (by simpa using c)];rfl
 ·have c:p.check=0:=by simpa using c
  have m6:=(jP c).m6
  have m2:=(jP c).m2
  rw[aO c]
  generalize p.months.length=n at*
  have:n=2∨n=3∨n=4∨n=5∨n=6:=by omega
  rcases this with rfl|rfl|rfl|rfl|rfl<;>decide
theorem zYt:r5countC.ok Tryz.prog 118:=okw mixed (gokc zIc gok0) 0 (fun _=>[]) (fun _=>[]) [] Tryz.func118 z7r
theorem yBr:∀n≤6,∀a<n,∀b<n-1-a,kL n (yL n a+b) n 0=((a:Int),((a+1+b:Nat):Int),true)∧yL n a+b<n+n*(n-1) / 2∧n≤yL n a+b:=by decide
theorem z7f:∀n≤6,yL n n=n+n*(n-1) / 2:=by decide
theorem yFw {p:Prd} (h:p.check=0) {a b:Nat} (ha:a<p.months.length) (hb:b<p.months.length-1-a):p.legs ((yL p.months.length a+b:Nat):Int)=((a:Int),((a+1+b:Nat):Int),true):=by
 obtain⟨h1,h2,h3⟩:=yBr _ (jP h).m6 a ha b hb
 rw[Prd.legs,yWj (by rw[aO h];omega),yWj (by omega),yXa]
 exact h1
theorem yIc (i:dC) (h:r5legsC.cnd i):z0u i:=by
 have hs:i.p.small:=h
 unfold z0u gJ zCh nH wQ v9 eN hU z7 dI
 simp only[xF]
 refine⟨i.p,rfl,rfl,rfl,rfl,rfl,rfl,rfl,rfl,rfl,rfl,rfl,hs,fun _ _=>Cv.cnd.mk (fun c=> ?_) (fun c=>zI (fun c1=> ?_) (fun c1=>zI (fun c2=> ?_) (fun c2=> ?_)))⟩
 ·rw[Prd.legs,yWl (by rw[zLw (by simpa using c)];omega)];(repeat'(first|exact rfl|exact trivial|assumption|apply And.intro|refine fun(_:Unit) (_:True)=>?_|refine Exists.intro () ?_|omega|(dsimp only;omega)))
 ·rw[Prd.legs,yWl (.inl c1)];(repeat'(first|exact rfl|exact trivial|assumption|apply And.intro|refine fun(_:Unit) (_:True)=>?_|refine Exists.intro () ?_|omega|(dsimp only;omega)))
 ·have c:i.p.check=0:=by simpa using c
  rw[Prd.legs,yWj (by rw[aO c];omega),yWl c2];(repeat'(first|exact rfl|exact trivial|assumption|apply And.intro|refine fun(_:Unit) (_:True)=>?_|refine Exists.intro () ?_|omega|(dsimp only;omega)))
 ·have c:i.p.check=0:=by simpa using c
  have m6:=(jP c).m6
  obtain⟨k,hk⟩:∃k:Nat,i.n=k:=⟨i.n.toNat,by omega⟩
  have sp:=fun(a b:Nat) ha hb=>yFw (p:=i.p) c (a:=a) (b:=b) ha hb
  have fe:=z7f _ m6
  have out:i.p.count≤k→i.p.legs (k:Int)=(0,0,false):=fun e=>by rw[Prd.legs,yWl (by omega)]
  rw[aO c,← fe]at out
  rw[hk]at c2 ⊢
  generalize hn:i.p.months.length=n at*
  refine⟨0,rfl,rfl,fun m=>m≤n∧yL n m≤k,fun m=>n-m,⟨by omega,by show n≤k;omega⟩,?_⟩
  rintro m ⟨g1,g2⟩
  have hf:=zKw m6 g1
  refine zI (fun c4=> ?_) (fun c4=> ?_)
  ·refine⟨(m,0),rfl,rfl,by rw[w64 (by omega)];simp,fun x=>x.1=m∧x.2≤n-1-m∧yL n m+x.2≤k,fun x=>n-1-m-x.2,⟨rfl,by(first|omega|(dsimp only;omega)),by(first|omega|(dsimp only;omega))⟩,?_⟩
   rintro⟨a,b⟩ ⟨g3,g4,g5⟩
   dsimp only at g3 g4 g5 ⊢
   subst g3
   refine zI (fun c5=>Cv.cnd.mk (fun e=> ?_) (fun e=> ?_)) (fun c5=> ?_)
   ·have e:((yL n a+b:Nat):Int)=(k:Int):=by simpa using e
    have:=sp a b (by omega) (by omega)
    rw[e]at this
    rw[this];(repeat'(first|exact rfl|exact trivial|assumption|apply And.intro|refine fun(_:Unit) (_:True)=>?_|refine Exists.intro () ?_|omega|(dsimp only;omega)))
   ·have e:¬((yL n a+b:Nat):Int)=(k:Int):=by simpa using e
    refine⟨(a,b+1),?_,rfl,?_,⟨rfl,by(first|omega|(dsimp only;omega)),by(first|omega|(dsimp only;omega))⟩,by(first|omega|(dsimp only;omega)),k0q⟩
    ·rw[w64 (by omega)];dsimp only;omega
    ·rw[w64 (by omega)];dsimp only;omega
   ·refine⟨a+1,?_,by rw[w64 (by omega)];rfl,⟨by omega,?_⟩,by(first|omega|(dsimp only;omega)),k0q⟩
    ·rw[yL];omega
    ·rw[yL];omega
  ·obtain rfl:m=n:=by omega
   rw[out g2];(repeat'(first|exact rfl|exact trivial|assumption|apply And.intro|refine fun(_:Unit) (_:True)=>?_|refine Exists.intro () ?_|omega|(dsimp only;omega)))
theorem z6d:r5legsC.ok Tryz.prog 119:=okw mixed (gokc zIc gok0) 0 (fun _=>[]) (fun i=>yIi i) [] Tryz.func119 yIc
theorem zVg (x:Prd):1≤zV x∧zV x≤10:=by
 have:=xI (n:=x.tick) (lo:=0) (hi:=9) (by omega)
 rw[zV];omega
theorem yEf (x:Prd):2≤kN x∧kN x≤5:=by
 have:=xI (n:=(x.months.length:Int)) (lo:=0) (hi:=3) (by omega)
 rw[kN];omega
theorem zMd {a b m n:Int} (ha:0≤a∧a≤m) (hb:0≤b∧b≤n):0≤a*b∧a*b≤m*n:=by
 refine⟨y2u ha.1 hb.1,?_⟩
 exact Int.le_trans (Int.mul_le_mul_of_nonneg_right ha.2 hb.1) (y1k hb.2 (by omega))
theorem zQz (j:Nat):iE (qF (j+1))=iE (qF j)++[[D.v (.int .i64 (10*(j:Int)+3))]]:=by
 rw[qF,y1i,yWv,iE,yWv];rfl
theorem zQx (t:Int) (j:Nat):iE (kM t (j+1))=iE (kM t j)++[[D.v (.int .i64 (t*(10+(j:Int))))]]:=by
 rw[kM,y1i,yWv,iE,yWv];rfl
theorem rI (j:Nat):(qF j).length=j:=by simp[qF]
theorem b8 (t:Int) (j:Nat):(kM t j).length=j:=by simp[kM]
theorem yOi (x:Prd) (h:kprodC.cnd x):yEg x:=by
 obtain⟨h1,h2,h3,h4,h5,h6,h7⟩:x.raw:=h
 have hw: -1000000≤(0:Int):=by decide
 have bt:=xI (n:=x.tick) (lo:=0) (hi:=9) (by omega)
 have bw:=xI (n:=x.wide) (lo:=0) (hi:=60) (by omega)
 have br:=xI (n:=x.rule) (lo:=0) (hi:=2) (by omega)
 have bl:=xI (n:=x.least) (lo:=0) (hi:=4) (by omega)
 have bn:=xI (n:=(x.months.length:Int)) (lo:=0) (hi:=3) (by omega)
 have kt:=zVg x
 have kn:=yEf x
 have w1:IntKind.i64.wrap (1+zG x.tick 0 9)=zV x:=w64 (by omega)
 have w2:IntKind.i64.wrap (-20*IntKind.i64.wrap (1+zG x.tick 0 9))= -20*zV x:=by rw[w1];exact w64 (by omega)
 have w3:IntKind.i64.wrap (100*IntKind.i64.wrap (1+zG x.tick 0 9))=100*zV x:=by rw[w1];exact w64 (by omega)
 have w4:IntKind.i64.wrap (1+zG x.rule 0 2)=1+zG x.rule 0 2:=w64 (by omega)
 have w5:IntKind.i64.wrap (1+zG x.least 0 4)=1+zG x.least 0 4:=w64 (by omega)
 have w6:IntKind.i64.wrap (2+zG x.months.length 0 3)=kN x:=w64 (by omega)
 have mb:=zMd (a:=zV x) (b:=5+zG x.wide 0 60) (m:=10) (n:=65) (by omega) (by omega)
 have w7:IntKind.i64.wrap (IntKind.i64.wrap (1+zG x.tick 0 9)*IntKind.i64.wrap (5+zG x.wide 0 60))=zV x*(5+zG x.wide 0 60):=by
  rw[w1,w64 (x:=5+zG x.wide 0 60) (by omega)];exact w64 (by omega)
 unfold yEg vH xX zEs zEe zFf zDy zEi mR vR cK fP qS xW y6 xB dI
 simp only[xF]
 refine⟨⟨x.months.length,0,3⟩,rfl,rfl,rfl,⟨⟨by dsimp only;omega,by dsimp only;omega⟩,by dsimp only;omega,by dsimp only;omega,by dsimp only;omega⟩,fun _ _=>⟨⟨x.tick,0,9⟩,rfl,rfl,rfl,⟨h1,by dsimp only;omega,by dsimp only;omega,by dsimp only;omega⟩,fun _ _=> ?_⟩⟩
 dsimp only
 refine⟨(),fun _=>True,?_,fun _ _=> ?_⟩
 ·repeat'(first|exact trivial|exact rfl|exact w1.symm|exact w2.symm|exact w3.symm|exact w4.symm|exact w5.symm|apply And.intro|refine⟨⟨x.rule,0,2⟩,rfl,rfl,rfl,⟨h3,by dsimp only;omega,by dsimp only;omega,by dsimp only;omega⟩,fun _ _=> ?_⟩|refine⟨⟨x.top,0,9⟩,rfl,rfl,rfl,⟨h4,by dsimp only;omega,by dsimp only;omega,by dsimp only;omega⟩,fun _ _=> ?_⟩|refine⟨⟨x.least,0,4⟩,rfl,rfl,rfl,⟨h5,by dsimp only;omega,by dsimp only;omega,by dsimp only;omega⟩,fun _ _=> ?_⟩|refine⟨⟨x.part,0,100⟩,rfl,rfl,rfl,⟨h6,by dsimp only;omega,by dsimp only;omega,by dsimp only;omega⟩,fun _ _=> ?_⟩|refine⟨(),?_⟩)
 ·refine⟨⟨x.wide,0,60⟩,rfl,rfl,rfl,⟨h2,by dsimp only;omega,by dsimp only;omega,by dsimp only;omega⟩,fun _ _=> ?_⟩
  dsimp only
  rw[w7,w6]
  refine⟨0,by(first|exact rfl|exact trivial),by(first|exact rfl|exact trivial),by(first|exact rfl|exact trivial),by(first|exact rfl|exact trivial),by(first|exact rfl|exact trivial),by(first|exact rfl|exact trivial),by(first|exact rfl|exact trivial),by(first|exact rfl|exact trivial),by(first|exact rfl|exact trivial),by(first|exact rfl|exact trivial),by(first|exact rfl|exact trivial),by(first|exact rfl|exact trivial),fun j=>j≤(kN x).toNat,fun j=>(kN x).toNat-j,by omega,?_⟩
  intro j hj
  rw[rI,b8]
  refine zI (fun c=>⟨by omega,by omega,j+1,by rw[w64 (by omega)];rfl,by(first|exact rfl|exact trivial),by(first|exact rfl|exact trivial),by(first|exact rfl|exact trivial),by(first|exact rfl|exact trivial),by(first|exact rfl|exact trivial),by(first|exact rfl|exact trivial),by(first|exact rfl|exact trivial),by(first|exact rfl|exact trivial),by(first|exact rfl|exact trivial),?_,?_,by(first|omega|(dsimp only;omega)),by(first|omega|(dsimp only;omega)),k0q⟩) (fun c=>⟨(),?_⟩)
  ·rw[zQz,w64 (x:=10*(j:Int)) (by omega),w64 (by omega)]
  ·have mj:=zMd (a:=zV x) (b:=10+(j:Int)) (m:=10) (n:=20) (by omega) (by omega)
   rw[zQx,w1,w64 (x:=10+(j:Int)) (by omega),w64 (by omega)]
  ·have e:(kN x).toNat=j:=by omega
   rw[e];(repeat'(first|exact trivial|exact rfl|apply And.intro))
theorem yCd:kprodC.ok Tryz.prog 12:=okw mixed (gokc zNv gok0) 0 (fun x=>yNm x) (fun x=>yNs x) [] Tryz.func12 yOi
open Go Cv Go.Proofs
structure Cmd where
 kind:Int
 id:Int
 inst:Int
 side:Int
 price:Int
 qty:Int
 least:Int
 time:Int
 label:List UInt8
 deriving DecidableEq
@[reducible] def Cmd.cells (c:Cmd):List V:=[zA c.kind,zA c.id,zA c.inst,zA c.side,zA c.price,zA c.qty,zA c.least,zA c.time,sV c.label]
@[reducible] def zMt (c:Cmd):V:= .agg c.cells
def cmdE (c:Cmd):List D:=[.v (.int .i64 c.kind),.v (.int .i64 c.id),.v (.int .i64 c.inst),.v (.int .i64 c.side),.v (.int .i64 c.price),.v (.int .i64 c.qty),.v (.int .i64 c.least),.v (.int .i64 c.time),.v (.string (sb c.label))]
@[reducible] def Cmd.raw (c:Cmd):Prop:=yU c.kind∧yU c.id∧yU c.inst∧yU c.side∧yU c.price∧yU c.qty∧yU c.least∧yU c.time
structure TmI where
 p:Prd
 c:Cmd
 i:Int
def aH (c:Cmd):Int:=if 4<1+zG c.kind 0 8 then 1 else 1+zG c.kind 0 8
def xC (t:TmI):Cmd:=⟨aH t.c,1+zG t.c.id 0 30,zG t.c.inst 0 (t.p.count-1),1+zG t.c.side 0 1,t.p.tick*zG t.c.price 0 9,1+zG t.c.qty 0 11,0,0,[]⟩
def aK (c:Cmd):Int:=if c.time.tmod 5=3 then 3 else if c.time.tmod 5=2 then 2 else 1
def tO (c:Cmd) (q:Int):Int:=if c.least.tmod 4=1 then zG c.least 0 q else 0
def qT (t:TmI):Cmd:=
 let h:=xC t
 if h.kind=1 then{h with id:=t.i+1,time:=aK t.c,least:=tO t.c h.qty,price:=if(t.p.legs h.inst).2.2=true then h.price-4*t.p.tick else h.price+8*t.p.tick}
 else{h with price:=if h.kind=4 then h.price+5*t.p.tick else h.price,side:=0,inst:=0}
def tameC:Con:=con1 TmI (fun t=>[prdV t.p,zMt t.c,zA t.i]) (fun _=>[]) (fun t=>t.p.check=0∧t.p.small∧t.c.raw∧0≤t.i∧t.i≤1000000) (fun t=>zMt (qT t)) (fun _=>[])
def cj (k:Nat):Nat×SAnn:=(k,{ι:=Cmd,slots:=fun _=>[(7,.nm 0 0)],slots0:=fun _=>[(7,.nm 0 0)],rows0:=fun c=>[.cells c.cells 80],rows:=fun c=>[.cells c.cells 80]})
def yTx:List (Nat×SAnn):=[cj 14,cj 54,cj 62,cj 70]
open Go Cv Go.Proofs
def zDh (a:Cmd) (b:Cmd) (c:Cmd→Prop) (d:TmI):Prop:=sb a.label=sb b.label∧c a∧Sx.AObj.cells (Sx.V.agg [V.d (dI 0),V.d (dI 0),V.d (dI 0),V.d (dI 0),V.d (dI 0),V.d (dI 0),V.d (dI 0),V.d (dI 0),V.d fP]).cl 80=Sx.AObj.cells (Sx.V.agg [V.d (dI 0),V.d (dI 0),V.d (dI 0),V.d (dI 0),V.d (dI 0),V.d (dI 0),V.d (dI 0),V.d (dI 0),V.d fP]).cl 80∧Sx.AObj.cells [V.d (dI d.c.kind),V.d (dI d.c.id),V.d (dI d.c.inst),V.d (dI d.c.side),V.d (dI d.c.price),V.d (dI d.c.qty),V.d (dI d.c.least),V.d (dI d.c.time),V.d (D.v (Value.string (sb d.c.label)))] 80=Sx.AObj.cells [V.d (dI d.c.kind),V.d (dI d.c.id),V.d (dI d.c.inst),V.d (dI d.c.side),V.d (dI d.c.price),V.d (dI d.c.qty),V.d (dI d.c.least),V.d (dI d.c.time),V.d (D.v (Value.string (sb d.c.label)))] 80∧Sx.AObj.cells [V.d (D.v (Value.string (sb d.p.code))),V.own 0,V.d (dI d.p.tick),V.d (dI d.p.low),V.d (dI d.p.high),V.d (dI d.p.wide),V.d (dI d.p.rule),V.d (dI d.p.top),V.d (dI d.p.least),V.d (dI d.p.part),V.own ((0:Nat)+(1:Nat))] 25=Sx.AObj.cells [V.d (D.v (Value.string (sb d.p.code))),V.own 0,V.d (dI d.p.tick),V.d (dI d.p.low),V.d (dI d.p.high),V.d (dI d.p.wide),V.d (dI d.p.rule),V.d (dI d.p.top),V.d (dI d.p.least),V.d (dI d.p.part),V.own ((0:Nat)+(1:Nat))] 25∧AObj.fro 1 (iE d.p.settle)=AObj.fro 1 (iE d.p.settle)∧AObj.fro 1 (iE d.p.months)=AObj.fro 1 (iE d.p.months)
def zLr (a:Cmd) (b:Cmd) (c:Cmd→Prop) (d:TmI):Prop:=a.time=b.time∧zDh a b c d
def zKz (a:Cmd) (b:Cmd) (c:Cmd→Prop) (d:TmI):Prop:=a.id=b.id∧a.inst=b.inst∧a.side=b.side∧a.price=b.price∧a.qty=b.qty∧a.least=b.least∧zLr a b c d
def tC (a:Cmd) (b:Cmd→Prop) (c:TmI):Prop:=∃(d:Cmd),d.kind=a.kind∧zKz d a b c
def zEo (a:TmI) (b:WiI) (c:Cmd):Prop:=(qT a).qty=IntKind.i64.wrap (xW b)∧(qT a).least=c.least∧(qT a).time=c.time∧sb (qT a).label=sb c.label∧True
def zFs (a:TmI) (b:Cmd):Prop:=(qT a).qty=b.qty∧(qT a).least=b.least∧(qT a).time=b.time∧sb (qT a).label=sb b.label∧True
def yKj (t:TmI):Prop:=
 ∃(a:WiI),a.n=t.c.kind∧a.lo=0∧a.hi=8∧(y6 a)∧∀(b:Unit),True→∃(c:WiI),c.n=t.c.id∧c.lo=0∧c.hi=30∧(y6 c)∧∀(d:Unit),True→∃(e:Cmd),e.kind=IntKind.i64.wrap (xW a)∧e.id=IntKind.i64.wrap (xW c)∧e.inst=0∧e.side=0∧e.price=0∧e.qty=0∧e.least=0∧e.time=0∧sb e.label=ByteArray.mk #[]∧∃(f:Cmd→Prop),cnd (decide (e.kind>4)) (∃(g:Cmd),g.kind=1∧zKz g e f t) (tC e f t)∧∀(g:Cmd),f g→∃(h:Prd),sb h.code=sb t.p.code∧iE h.months=iE t.p.months∧h.tick=t.p.tick∧h.low=t.p.low∧h.high=t.p.high∧h.wide=t.p.wide∧h.rule=t.p.rule∧h.top=t.p.top∧h.least=t.p.least∧h.part=t.p.part∧iE h.settle=iE t.p.settle∧(z7 h)∧∀(j:Unit),True→∃(k:WiI),k.n=t.c.inst∧k.lo=0∧k.hi=IntKind.i64.wrap ((↑h.count:Int)-1)∧(y6 k)∧∀(l:Unit),True→∃(m:WiI),m.n=t.c.side∧m.lo=0∧m.hi=1∧(y6 m)∧∀(n:Unit),True→∃(p:WiI),p.n=t.c.qty∧p.lo=0∧p.hi=11∧(y6 p)∧∀(q:Unit),True→∃(r:WiI),r.n=t.c.price∧r.lo=0∧r.hi=9∧(y6 r)∧∀(s:Unit),True→t.p.tick=t.p.tick∧cnd (g.kind==1) (∃(u:Cmd),u.kind=g.kind∧u.id=IntKind.i64.wrap (t.i+1)∧u.inst=zG k.n k.lo k.hi∧u.side=IntKind.i64.wrap (xW m)∧u.price=IntKind.i64.wrap (t.p.tick*zG r.n r.lo r.hi)∧u.qty=IntKind.i64.wrap (xW p)∧u.least=g.least∧u.time=1∧sb u.label=sb g.label∧∃(v:Cmd→Prop),(IntKind.i64=IntKind.i64∧(5:Int)≠(0:Int)∧cnd (t.c.time.tmod (5:Int)==(2:Int)) (∃(w:Cmd),w.kind=u.kind∧w.id=u.id∧w.inst=u.inst∧w.side=u.side∧w.price=u.price∧w.qty=u.qty∧w.least=u.least∧w.time=2∧zDh w u v t) (tC u v t))∧∀(w:Cmd),v w→∃(x:Cmd),x.kind=w.kind∧x.id=w.id∧x.inst=w.inst∧x.side=w.side∧x.price=w.price∧x.qty=w.qty∧x.least=w.least∧x.time=w.time∧sb x.label=sb w.label∧∃(y:Cmd→Prop),(IntKind.i64=IntKind.i64∧(5:Int)≠(0:Int)∧cnd (t.c.time.tmod (5:Int)==(3:Int)) (∃(z:Cmd),z.kind=x.kind∧z.id=x.id∧z.inst=x.inst∧z.side=x.side∧z.price=x.price∧z.qty=x.qty∧z.least=x.least∧z.time=3∧zDh z x y t) (tC x y t))∧∀(z:Cmd),y z→∃(a_1:Cmd),a_1.kind=z.kind∧a_1.id=z.id∧a_1.inst=z.inst∧a_1.side=z.side∧a_1.price=z.price∧a_1.qty=z.qty∧a_1.least=z.least∧a_1.time=z.time∧sb a_1.label=sb z.label∧∃(a_2:Cmd→Prop),(IntKind.i64=IntKind.i64∧(4:Int)≠(0:Int)∧cnd (t.c.least.tmod (4:Int)==(1:Int)) (∃(a_3:WiI),a_3.n=t.c.least∧a_3.lo=0∧a_3.hi=a_1.qty∧(y6 a_3)∧∀(a_4:Unit),True→∃(a_5:Cmd),a_5.kind=a_1.kind∧a_5.id=a_1.id∧a_5.inst=a_1.inst∧a_5.side=a_1.side∧a_5.price=a_1.price∧a_5.qty=a_1.qty∧a_5.least=zG a_3.n a_3.lo a_3.hi∧zLr a_5 a_1 a_2 t) (tC a_1 a_2 t))∧∀(a_3:Cmd),a_2 a_3→∃(a_4:dC),sb a_4.p.code=sb t.p.code∧iE a_4.p.months=iE t.p.months∧a_4.p.tick=t.p.tick∧a_4.p.low=t.p.low∧a_4.p.high=t.p.high∧a_4.p.wide=t.p.wide∧a_4.p.rule=t.p.rule∧a_4.p.top=t.p.top∧a_4.p.least=t.p.least∧a_4.p.part=t.p.part∧iE a_4.p.settle=iE t.p.settle∧a_4.n=a_3.inst∧(kU a_4)∧∀(a_5:Unit),True→cnd (!(a_4.p.legs a_4.n).snd.snd) (∃(a_6:Unit),(qT t).kind=a_3.kind∧(qT t).id=a_3.id∧(qT t).inst=a_3.inst∧(qT t).side=a_3.side∧(qT t).price=IntKind.i64.wrap (a_3.price+IntKind.i64.wrap (8*t.p.tick))∧zFs t a_3) (∃(a_6:Unit),(qT t).kind=a_3.kind∧(qT t).id=a_3.id∧(qT t).inst=a_3.inst∧(qT t).side=a_3.side∧(qT t).price=IntKind.i64.wrap (a_3.price-IntKind.i64.wrap (4*t.p.tick))∧zFs t a_3)) (cnd (g.kind==4) (∃(u:Unit),(qT t).kind=g.kind∧(qT t).id=g.id∧(qT t).inst=0∧(qT t).side=0∧(qT t).price=IntKind.i64.wrap (IntKind.i64.wrap (t.p.tick*zG r.n r.lo r.hi)+IntKind.i64.wrap (5*t.p.tick))∧zEo t p g) (∃(u:Unit),(qT t).kind=g.kind∧(qT t).id=g.id∧(qT t).inst=0∧(qT t).side=0∧(qT t).price=IntKind.i64.wrap (t.p.tick*zG r.n r.lo r.hi)∧zEo t p g))
open Go Cv Go.Proofs
theorem yQe (t:TmI) (h:tameC.cnd t):yKj t:=by
 obtain⟨hc,hs,⟨r1,r2,r3,r4,r5,r6,r7,r8⟩,i0,i1⟩:t.p.check=0∧t.p.small∧t.c.raw∧0≤t.i∧t.i≤1000000:=h
 have ok:=jP hc
 have t1:=ok.t1
 have t2:=ok.t2
 have m2:=ok.m2
 have hcl:=x5 t.p
 have hcd:=aO hc
 have bk:=xI (n:=t.c.kind) (lo:=0) (hi:=8) (by omega)
 have bi:=xI (n:=t.c.id) (lo:=0) (hi:=30) (by omega)
 have bs:=xI (n:=t.c.side) (lo:=0) (hi:=1) (by omega)
 have bq:=xI (n:=t.c.qty) (lo:=0) (hi:=11) (by omega)
 have bp:=xI (n:=t.c.price) (lo:=0) (hi:=9) (by omega)
 have mb:=zMd (a:=t.p.tick) (b:=zG t.c.price 0 9) (m:=1000) (n:=9) (by omega) (by omega)
 have wp:IntKind.i64.wrap (t.p.tick*zG t.c.price 0 9)=t.p.tick*zG t.c.price 0 9:=w64 (by omega)
 unfold yKj tC zKz zLr zDh fP zFs zEo xW y6 z7 kU dI
 refine⟨⟨t.c.kind,0,8⟩,rfl,rfl,rfl,⟨r1,by dsimp only;omega,by dsimp only;omega,by dsimp only;omega⟩,fun _ _=>⟨⟨t.c.id,0,30⟩,rfl,rfl,rfl,⟨r2,by dsimp only;omega,by dsimp only;omega,by dsimp only;omega⟩,fun _ _=> ?_⟩⟩
 dsimp only
 rw[w64 (x:=1+zG t.c.kind 0 8) (by omega),w64 (x:=1+zG t.c.id 0 30) (by omega)]
 refine⟨⟨1+zG t.c.kind 0 8,1+zG t.c.id 0 30,0,0,0,0,0,0,[]⟩,rfl,rfl,rfl,rfl,rfl,rfl,rfl,rfl,rfl,fun c=>c=⟨aH t.c,1+zG t.c.id 0 30,0,0,0,0,0,0,[]⟩,zI (fun e=>⟨⟨aH t.c,1+zG t.c.id 0 30,0,0,0,0,0,0,[]⟩,?_,rfl,rfl,rfl,rfl,rfl,rfl,rfl,rfl,rfl,k0q⟩) (fun e=>⟨⟨aH t.c,1+zG t.c.id 0 30,0,0,0,0,0,0,[]⟩,?_,rfl,rfl,rfl,rfl,rfl,rfl,rfl,rfl,rfl,k0q⟩),fun c hcc=> ?_⟩
 ·dsimp only at e ⊢;rw[aH,yWl (by omega)]
 ·dsimp only at e ⊢;rw[aH,yWj (by omega)]
 subst hcc
 refine⟨t.p,rfl,rfl,rfl,rfl,rfl,rfl,rfl,rfl,rfl,rfl,rfl,hs,fun _ _=> ?_⟩
 rw[w64 (x:=(t.p.count:Int)-1) (by omega)]
 refine⟨⟨t.c.inst,0,(t.p.count:Int)-1⟩,rfl,rfl,rfl,⟨r3,by dsimp only;omega,by dsimp only;omega,by dsimp only;omega⟩,fun _ _=>⟨⟨t.c.side,0,1⟩,rfl,rfl,rfl,⟨r4,by dsimp only;omega,by dsimp only;omega,by dsimp only;omega⟩,fun _ _=>⟨⟨t.c.qty,0,11⟩,rfl,rfl,rfl,⟨r6,by dsimp only;omega,by dsimp only;omega,by dsimp only;omega⟩,fun _ _=>⟨⟨t.c.price,0,9⟩,rfl,rfl,rfl,⟨r5,by dsimp only;omega,by dsimp only;omega,by dsimp only;omega⟩,fun _ _=>⟨rfl,?_⟩⟩⟩⟩⟩
 dsimp only
 rw[wp,w64 (x:=1+zG t.c.side 0 1) (by omega),w64 (x:=1+zG t.c.qty 0 11) (by omega),w64 (x:=t.i+1) (by omega)]
 refine Cv.cnd.mk (fun k=> ?_) (fun k=> ?_)
 ·have k:aH t.c=1:=by simpa using k
  refine⟨{xC t with id:=t.i+1,time:=1},rfl,rfl,rfl,rfl,rfl,rfl,rfl,rfl,rfl,fun c=>c={xC t with id:=t.i+1,time:=if t.c.time.tmod 5=2 then 2 else 1},⟨rfl,by decide,Cv.cnd.mk (fun e=>⟨{xC t with id:=t.i+1,time:=2},rfl,rfl,rfl,rfl,rfl,rfl,rfl,rfl,rfl,?_,k0q⟩) (fun e=>⟨{xC t with id:=t.i+1,time:=1},rfl,rfl,rfl,rfl,rfl,rfl,rfl,rfl,rfl,?_,k0q⟩)⟩,fun c hcc=> ?_⟩
  ·have e:t.c.time.tmod 5=2:=by simpa using e
   rw[yWl e]
  ·have e:¬t.c.time.tmod 5=2:=by simpa using e
   rw[yWj e]
  subst hcc
  refine⟨{xC t with id:=t.i+1,time:=if t.c.time.tmod 5=2 then 2 else 1},rfl,rfl,rfl,rfl,rfl,rfl,rfl,rfl,rfl,fun c=>c={xC t with id:=t.i+1,time:=aK t.c},⟨rfl,by decide,Cv.cnd.mk (fun e=>⟨{xC t with id:=t.i+1,time:=3},rfl,rfl,rfl,rfl,rfl,rfl,rfl,rfl,rfl,?_,k0q⟩) (fun e=>⟨{xC t with id:=t.i+1,time:=if t.c.time.tmod 5=2 then 2 else 1},rfl,rfl,rfl,rfl,rfl,rfl,rfl,rfl,rfl,?_,k0q⟩)⟩,fun c hcc=> ?_⟩
  ·have e:t.c.time.tmod 5=3:=by simpa using e
   rw[aK,yWl e]
  ·have e:¬t.c.time.tmod 5=3:=by simpa using e
   rw[aK,yWj e]
  subst hcc
  have hq:(xC t).qty=1+zG t.c.qty 0 11:=rfl
  refine⟨{xC t with id:=t.i+1,time:=aK t.c},rfl,rfl,rfl,rfl,rfl,rfl,rfl,rfl,rfl,fun c=>c={xC t with id:=t.i+1,time:=aK t.c,least:=tO t.c (xC t).qty},⟨rfl,by decide,Cv.cnd.mk (fun e=>⟨⟨t.c.least,0,(xC t).qty⟩,rfl,rfl,rfl,⟨r7,by dsimp only;omega,by dsimp only;omega,by dsimp only;omega⟩,fun _ _=>⟨{xC t with id:=t.i+1,time:=aK t.c,least:=zG t.c.least 0 (xC t).qty},rfl,rfl,rfl,rfl,rfl,rfl,rfl,rfl,rfl,?_,k0q⟩⟩) (fun e=>⟨{xC t with id:=t.i+1,time:=aK t.c},rfl,rfl,rfl,rfl,rfl,rfl,rfl,rfl,rfl,?_,k0q⟩)⟩,fun c hcc=> ?_⟩
  ·have e:t.c.least.tmod 4=1:=by simpa using e
   rw[tO,yWl e]
  ·have e:¬t.c.least.tmod 4=1:=by simpa using e
   rw[tO,yWj e];rfl
  subst hcc
  refine⟨⟨t.p,(xC t).inst⟩,rfl,rfl,rfl,rfl,rfl,rfl,rfl,rfl,rfl,rfl,rfl,rfl,hs,fun _ _=> ?_⟩
  dsimp only
  have hp:(xC t).price=t.p.tick*zG t.c.price 0 9:=rfl
  have hk1:(xC t).kind=1:=k
  rw[w64 (x:=8*t.p.tick) (by omega),w64 (x:=4*t.p.tick) (by omega),w64 (x:=(xC t).price+8*t.p.tick) (by omega),w64 (x:=(xC t).price-4*t.p.tick) (by omega)]
  refine Cv.cnd.mk (fun e=>⟨(),?_⟩) (fun e=>⟨(),?_⟩)
  ·have e:(t.p.legs (xC t).inst).2.2=false:=by simpa using e
   have:qT t={xC t with id:=t.i+1,time:=aK t.c,least:=tO t.c (xC t).qty,price:=(xC t).price+8*t.p.tick}:=by
    simp only[qT,hk1,if_true,e,yXb,if_false]
   rw[this];(repeat'(first|exact trivial|exact rfl|apply And.intro))
  ·have e:(t.p.legs (xC t).inst).2.2=true:=by simpa using e
   have:qT t={xC t with id:=t.i+1,time:=aK t.c,least:=tO t.c (xC t).qty,price:=(xC t).price-4*t.p.tick}:=by
    simp only[qT,hk1,if_true,e]
   rw[this];(repeat'(first|exact trivial|exact rfl|apply And.intro))
 ·have k:¬aH t.c=1:=by simpa using k
  have k:¬(xC t).kind=1:=k
  rw[w64 (x:=5*t.p.tick) (by omega),w64 (x:=t.p.tick*zG t.c.price 0 9+5*t.p.tick) (by omega)]
  have et:qT t={xC t with price:=if(xC t).kind=4 then(xC t).price+5*t.p.tick else(xC t).price,side:=0,inst:=0}:=by
   simp only[qT,k,if_false]
  rw[et]
  refine Cv.cnd.mk (fun e=>⟨(),?_⟩) (fun e=>⟨(),?_⟩)
  ·have e:aH t.c=4:=by simpa using e
   have e:(xC t).kind=4:=e
   simp only[yWl e];(repeat'(first|exact trivial|exact rfl|apply And.intro))
  ·have e:¬aH t.c=4:=by simpa using e
   have e:¬(xC t).kind=4:=e
   simp only[yWj e];(repeat'(first|exact trivial|exact rfl|apply And.intro))
theorem yId:tameC.ok Tryz.prog 51:=okw mixed (gokc zNv (gokc zYt (gokc z6d gok0))) 0 (fun _=>yTx) (fun _=>[]) [] Tryz.func51 yQe
open Go Cv Go.Proofs
structure ShI where
 a:Int
 b:Int
 c:Int
def add64C:Con:=con1 ShI (fun i=>[sJ i.a,sJ i.b,sJ i.c]) (fun _=>[]) (fun i=>0≤i.a∧0≤i.b∧0≤i.c∧i.c≤1) (fun i=> .tup [sJ ((i.a+i.b+i.c) % 18446744073709551616),sJ ((i.a+i.b+i.c) / 18446744073709551616)]) (fun _=>[])
theorem z4s {P : Program} {f : FuncId} {fn : Func} (hf : P.funcs[f]? = some fn) (hname : (fn.name == "runtime.NumGoroutine") = false) (hb : fn.body.isNone = true) (hn : Extern.findNext fn = none) (he : Extern.find fn = some add64Entry) : add64C.ok P f := by
 intro i hc k L E w ys R hv
 obtain⟨h1,h2,h3,h4⟩:0≤i.a∧0≤i.b∧0≤i.c∧i.c≤1:=hc
 simp only[add64C,con1,VRL,VR,DR]at hv
 obtain⟨_,_,rfl,⟨rfl,_⟩,_,_,rfl,⟨rfl,_⟩,_,_,rfl,⟨rfl,_⟩,rfl⟩:=hv
 unfold Does
 rw[run_callFunc_extern hf hname hb hn he,run_add64 i.a i.b i.c h1 h2 h3 h4]
 simp only[Result.andThen]
 refine⟨_,yYc.2 rfl,(),trivial,E,Ev.le.refl _,?_,R⟩
 simp only[add64C,con1,VR,VRL,DR]
 exact⟨_,rfl,_,_,rfl,⟨rfl,rfl⟩,_,_,rfl,⟨rfl,rfl⟩,rfl⟩
theorem z5w:add64C.ok Tryz.prog 328:=by
 refine z4s (P:=Tryz.prog) (f:=328) (fn:=Tryz.f328) Tryz.func328 ?_ ?_ ?_ ?_
 ·kernel_rfl
 ·kernel_rfl
 ·kernel_rfl
 ·kernel_rfl
structure M2 where
 a:Int
 b:Int
def mul64C:Con:=con1 M2 (fun i=>[sJ i.a,sJ i.b]) (fun _=>[]) (fun i=>0≤i.a∧i.a≤2000000000∧0≤i.b∧i.b≤2000000000) (fun i=> .tup [sJ 0,sJ (i.a*i.b)]) (fun _=>[])
def div64C:Con:=con1 M2 (fun i=>[sJ 0,sJ i.a,sJ i.b]) (fun _=>[]) (fun i=>0≤i.a∧i.a≤4000000000000000000∧1≤i.b∧i.b≤2000000000) (fun i=> .tup [sJ (i.a / i.b),sJ (i.a % i.b)]) (fun _=>[])
def ishareC:Con:=con1 ShI (fun i=>[zA i.a,zA i.b,zA i.c]) (fun _=>[]) (fun i=>0≤i.a∧i.a≤2000000000∧0≤i.b∧i.b≤2000000000∧1≤i.c∧i.c≤2000000000) (fun i=> .tup [zA (i.a*i.b / i.c),yF true]) (fun _=>[])
def isumC:Con:=con1 (List Int) (fun l=>[iV l]) (fun _=>[]) (fun l=>l.length≤1000∧∀x∈l,0≤x∧x≤1000000) (fun l=> .tup [zA l.sum,yF true]) (fun _=>[])
def yTr (l:List Int):List SAnn:=[{ι:=Nat,slots:=fun j=>[(4,sJ (l.take j).sum),(5,zA 0),(11,zA j)],rows:=fun _=>[]}]
structure LqI where
 l:List Int
 q:Int
def yS (l:List Int) (q:Int):Bool:=decide (l.length≤250) && decide (0≤q) && l.all (fun n=>decide (1≤n) && decide (n≤1000000)) && decide (q≤l.sum)
def rightC:Con:=con1 LqI (fun i=>[iV i.l,zA i.q]) (fun _=>[]) (fun i=>i.l.length≤1000000∧yU i.q) (fun i=>yF (yS i.l i.q)) (fun _=>[])
def yMm (i:LqI):List SAnn:=[{ι:=Nat,slots:=fun j=>[(5,zA (i.l.take j).sum),(17,zA j)],rows:=fun _=>[]}]
def uD:List Int→Int→List Int
 |[],_=>[]
 |n::l,q=>min n q::uD l (q-min n q)
def uK (l:List Int) (q:Int):List Int:=if yS l q=true then uD l q else[]
def fifoC:Con:=con1 LqI (fun i=>[iV i.l,zA i.q]) (fun _=>[]) (fun i=>i.l.length≤1000000∧yU i.q) (fun _=> .own 0) (fun i=>[.own 2 1 (iE (uK i.l i.q))])
def yTh (i:LqI):List SAnn:=[{ι:=Nat,slots:=fun j=>[(5,.own 0),(1,zA (i.q-((uD i.l i.q).take j).sum)),(15,zA j)],rows:=fun j=>[.own 2 1 (iE ((uD i.l i.q).take j))]}]
open Go Cv Go.Proofs
def zAc (a:M2):=(IntKind.u64.wrap (IntKind.u64.wrap (dN IntKind.u64 a.a 32*sW IntKind.u64 a.b 4294967295)+dN IntKind.u64 (IntKind.u64.wrap (sW IntKind.u64 a.a 4294967295*sW IntKind.u64 a.b 4294967295)) 32))
def z9f (i:M2):Prop:=
 (0:Int)≤(32:Int)∧(0:Int)≤(32:Int)∧(0:Int)≤(32:Int)∧(0:Int)≤(32:Int)∧(0:Int)≤(32:Int)∧∃(a:Unit),0=IntKind.u64.wrap (IntKind.u64.wrap (IntKind.u64.wrap (dN IntKind.u64 i.a 32*dN IntKind.u64 i.b 32)+dN IntKind.u64 (zAc i) 32)+dN IntKind.u64 (IntKind.u64.wrap (sW IntKind.u64 (zAc i) 4294967295+IntKind.u64.wrap (sW IntKind.u64 i.a 4294967295*dN IntKind.u64 i.b 32))) 32)∧i.a*i.b=IntKind.u64.wrap (i.a*i.b)∧True
def yCo (i:M2):Prop:=
 cnd (i.b==0) False (cnd (decide (i.b≤0)) False (IntKind.u64=IntKind.u64∧i.b≠0∧IntKind.u64=IntKind.u64∧i.b≠0∧∃(a:Unit),i.a / i.b=IntKind.u64.wrap (i.a.tdiv i.b)∧i.a % i.b=i.a.tmod i.b∧True))
def z3k (i:ShI):Prop:=
 cnd (decide (i.a<0)) (∃(a:Unit),i.a*i.b / i.c=0∧true=false∧True) (cnd (decide (i.b<0)) (∃(a:Unit),i.a*i.b / i.c=0∧true=false∧True) (cnd (decide (i.c<1)) (∃(a:Unit),i.a*i.b / i.c=0∧true=false∧True) (∃(a:M2),a.a=IntKind.u64.wrap i.a∧a.b=IntKind.u64.wrap i.b∧(0≤a.a∧a.a≤(2000000000:Int)∧(0:Int)≤a.b∧a.b≤2000000000)∧∀(b:Unit),True→cnd (decide (0≥IntKind.u64.wrap i.c)) (∃(c:Unit),i.a*i.b / i.c=0∧true=false∧True) (∃(c:M2),(0:Int)=(0:Int)∧c.a=a.a*a.b∧c.b=IntKind.u64.wrap i.c∧(0≤c.a∧c.a≤(4000000000000000000:Int)∧(1:Int)≤c.b∧c.b≤2000000000)∧∀(d:Unit),True→cnd (decide (c.a / c.b>9223372036854775807)) (∃(e:Unit),i.a*i.b / i.c=0∧true=false∧True) (∃(e:Unit),i.a*i.b / i.c=IntKind.i64.wrap (c.a / c.b)∧true=true∧True)))))
def yKo (l:List Int):Prop:=
 ∃(a:Nat),(List.take a l).sum=(0:Int)∧(0:Int)=0∧(↑a:Int)=0∧∃(b:Nat→Prop),∃(c:Nat→Nat),b a∧∀(d:Nat),b d→cnd (decide ((↑d:Int)<(↑(iE l).length:Int))) ((0≤(↑d:Int)∧(↑d:Int)<(↑(iE l).length:Int))∧∃(e:Int),zE (iE l) (↑d:Int).toNat 0 1=some [dI e]∧∃(f:ShI),f.a=(List.take d l).sum∧f.b=IntKind.u64.wrap e∧f.c=0∧(0≤f.a∧0≤f.b∧0≤f.c∧f.c≤1)∧∀(g:Unit),True→(0:Int)≤(63:Int)∧∃(h:Nat),(List.take h l).sum=(f.a+f.b+f.c) % (18446744073709551616:Int)∧(0:Int)=IntKind.i64.wrap (0+IntKind.i64.wrap (dN IntKind.i64 e 63+IntKind.i64.wrap ((f.a+f.b+f.c) / (18446744073709551616:Int))))∧kI h d b c) ((0:Int)≤(63:Int)∧cnd (0 !=dN IntKind.i64 (IntKind.i64.wrap (List.take d l).sum) 63) (∃(e:Unit),l.sum=0∧true=false∧True) (∃(e:Unit),l.sum=IntKind.i64.wrap (List.take d l).sum∧true=true∧True))
def yCe (i:LqI):Prop:=
 cnd (decide ((↑(iE i.l).length:Int)>250)) (∃(a:Unit),yS i.l i.q=false∧True) (cnd (decide (i.q<0)) (∃(a:Unit),yS i.l i.q=false∧True) (∃(a:Nat),(List.take a i.l).sum=0∧(↑a:Int)=0∧∃(b:Nat→Prop),∃(c:Nat→Nat),b a∧∀(d:Nat),b d→cnd (decide ((↑d:Int)<(↑(iE i.l).length:Int))) ((0≤(↑d:Int)∧(↑d:Int)<(↑(iE i.l).length:Int))∧∃(e:Int),zE (iE i.l) (↑d:Int).toNat 0 1=some [dI e]∧cnd (decide (e<1)) (∃(f:Unit),yS i.l i.q=false∧True) (cnd (decide (e>1000000)) (∃(f:Unit),yS i.l i.q=false∧True) (∃(f:Nat),(List.take f i.l).sum=IntKind.i64.wrap ((List.take d i.l).sum+e)∧kI f d b c))) (∃(e:Unit),yS i.l i.q=decide (i.q≤(List.take d i.l).sum)∧True)))
def j0 (a:LqI):Prop:=a.l.length≤(1000000:Nat)∧(-9223372036854775808:Int)≤a.q∧a.q≤9223372036854775807
def j5 (a:Nat) (b:LqI):=(List.take a (uD b.l b.q))
def yJh (i:LqI):Prop:=
 ∃(a:LqI),iE a.l=iE i.l∧a.q=i.q∧(j0 a)∧∀(b:Unit),True→cnd (!yS a.l a.q) (∃(c:Unit),iE (uK i.l i.q)=[]∧True) (∃(c:Nat),i.q-(j5 c i).sum=i.q∧(↑c:Int)=0∧iE (j5 c i)=[]∧∃(d:Nat→Prop),∃(e:Nat→Nat),d c∧∀(f:Nat),d f→cnd (decide ((↑f:Int)<(↑(iE i.l).length:Int))) ((0≤(↑f:Int)∧(↑f:Int)<(↑(iE i.l).length:Int))∧∃(g:Int),zE (iE i.l) (↑f:Int).toNat 0 1=some [dI g]∧((iE (j5 f i)).length+1)*(8:Nat)≤(140737488355328:Nat)∧∃(h:Nat),i.q-(j5 h i).sum=IntKind.i64.wrap (i.q-(j5 f i).sum-min g (i.q-(j5 f i).sum))∧(↑h:Int)=IntKind.i64.wrap ((↑f:Int)+1)∧iE (j5 h i)=iE (j5 f i)++[[dI (min g (i.q-(j5 f i).sum))]]∧d h∧e h<e f∧True) (∃(g:Unit),iE (uK i.l i.q)=iE (j5 f i)∧True))
open Go Cv Go.Proofs
theorem zRo {x:Int} (h0:0≤x) (h1:x<4294967296):sW .u64 x 4294967295=x:=by
 have e:sW .u64 x 4294967295=IntKind.u64.wrap ((BitVec.ofInt 64 x &&& BitVec.ofInt 64 4294967295).toNat:Int):=rfl
 obtain⟨n,rfl⟩:=Int.eq_ofNat_of_zero_le h0
 have hn:n<4294967296:=by omega
 rw[e,BitVec.toNat_and,BitVec.ofInt_natCast,BitVec.toNat_ofNat,show(BitVec.ofInt 64 4294967295).toNat=2 ^ 32-1 by decide,Nat.and_two_pow_sub_one_eq_mod]
 rw[show n % 2 ^ 64 % 2 ^ 32=n by omega,zAu (by omega)]
theorem zHh {x:Int} (h0:0≤x) (h1:x<4294967296):dN .u64 x 32=0:=by
 have:=zCl .u64 x 32 (by decide)
 rw[show((32:Nat):Int)=32 by rfl]at this
 rw[this];omega
theorem z1m {a b m n:Int} (ha:0≤a∧a≤m) (hb:0≤b∧b≤n):0≤a*b∧a*b≤m*n:=
 ⟨y2u ha.1 hb.1,Int.mul_le_mul ha.2 hb.2 hb.1 (by omega)⟩
theorem yNu (i:M2) (h:mul64C.cnd i):z9f i:=by
 obtain⟨h1,h2,h3,h4⟩:0≤i.a∧i.a≤2000000000∧0≤i.b∧i.b≤2000000000:=h
 have hm:=z1m ⟨h1,h2⟩ ⟨h3,h4⟩
 have hs:dN IntKind.u64 (i.a*i.b) 32=(i.a*i.b) / 4294967296:=by
  have:=zCl .u64 (i.a*i.b) 32 (by decide)
  rw[show((32:Nat):Int)=32 by rfl]at this
  exact this
 unfold z9f zAc
 refine⟨by decide,by decide,by decide,by decide,by decide,(),?_,?_,trivial⟩
 ·rw[zRo h1 (by omega),zRo h3 (by omega),zHh h1 (by omega),zHh h3 (by omega),zAu (x:=i.a*i.b) (by omega),hs]
  simp only[Int.zero_mul,Int.mul_zero,Int.zero_add,Int.add_zero]
  rw[zAu (x:=0) (by omega)]
  simp only[Int.zero_add,Int.add_zero]
  rw[zAu (x:=i.a*i.b / 4294967296) (by omega),zHh (x:=i.a*i.b / 4294967296) (by omega) (by omega),zRo (x:=i.a*i.b / 4294967296) (by omega) (by omega),zAu (x:=i.a*i.b / 4294967296) (by omega),zHh (x:=i.a*i.b / 4294967296) (by omega) (by omega)]
  rfl
 ·rw[zAu (by omega)]
theorem z8s:mul64C.ok Tryz.prog 313:=okw mixed gok0 0 (fun _=>[]) (fun _=>[]) [] Tryz.func313 yNu
theorem yLd (i:M2) (h:div64C.cnd i):yCo i:=by
 obtain⟨h1,h2,h3,h4⟩:0≤i.a∧i.a≤4000000000000000000∧1≤i.b∧i.b≤2000000000:=h
 unfold yCo
 have hd:0≤i.a / i.b∧i.a / i.b≤i.a:=⟨Int.ediv_nonneg h1 (by omega),Int.ediv_le_self _ h1⟩
 refine Cv.cnd.mk (fun c=>absurd (eq_of_beq c) (by omega)) (fun _=>zI (fun c=>by omega) (fun _=>⟨rfl,by omega,rfl,by omega,(),?_,?_,trivial⟩))
 ·rw[Int.tdiv_eq_ediv_of_nonneg h1,zAu (by omega)]
 ·rw[y0v h1]
theorem z7g:div64C.ok Tryz.prog 314:=okw mixed gok0 0 (fun _=>[]) (fun _=>[]) [] Tryz.func314 yLd
theorem yEx (i:ShI) (h:ishareC.cnd i):z3k i:=by
 obtain⟨h1,h2,h3,h4,h5,h6⟩:0≤i.a∧i.a≤2000000000∧0≤i.b∧i.b≤2000000000∧1≤i.c∧i.c≤2000000000:=h
 have hm:=z1m ⟨h1,h2⟩ ⟨h3,h4⟩
 have hd:0≤i.a*i.b / i.c∧i.a*i.b / i.c≤i.a*i.b:=⟨Int.ediv_nonneg hm.1 (by omega),Int.ediv_le_self _ hm.1⟩
 unfold z3k
 rw[zAu (x:=i.a) (by omega),zAu (x:=i.b) (by omega),zAu (x:=i.c) (by omega)]
 refine zI (fun c=>by omega) (fun _=>zI (fun c=>by omega) (fun _=>zI (fun c=>by omega) (fun _=>⟨⟨i.a,i.b⟩,rfl,rfl,⟨h1,h2,h3,h4⟩,fun _ _=>zI (fun c=>by omega) (fun _=>⟨⟨i.a*i.b,i.c⟩,rfl,rfl,rfl,⟨hm.1,by dsimp only;omega,h5,h6⟩,fun _ _=>zI (fun c=>by dsimp only at c;omega) (fun _=>⟨(),?_,rfl,trivial⟩)⟩)⟩)))
 rw[w64 (by dsimp only;omega)]
theorem zOa:ishareC.ok Tryz.prog 307:=okw mixed (gokc z8s (gokc z7g gok0)) 0 (fun _=>[]) (fun _=>[]) [] Tryz.func307 yEx
theorem wjn {j:Nat} (h:j≤1000000):((j+1:Nat):Int)=IntKind.i64.wrap ((j:Int)+1):=by rw[w64 (by omega)];rfl
theorem jO {l:List Int} {j:Nat} {x:Int} (h:l[j]? =some x):(l.take (j+1)).sum=(l.take j).sum+x:=by
 rw[yXt,h];simp
theorem jA {l:List Int} (h:∀x∈l,0≤x∧x≤1000000):∀j:Nat,0≤(l.take j).sum∧(l.take j).sum≤1000000*j
 |0=>by simp
 |j+1=>by
  have ih:=jA h j
  cases hx:l[j]? with
  |none=>
   have:l.take (j+1)=l.take j:=by
    rw[yXt,hx];simp
   rw[this];omega
  |some x=>
   have:=h x (yWt hx)
   rw[jO hx];omega
theorem yRo (l:List Int) (h:isumC.cnd l):yKo l:=by
 obtain⟨hl,hb⟩:l.length≤1000∧∀x∈l,0≤x∧x≤1000000:=h
 unfold yKo kI dI
 simp only[xF]
 refine⟨0,by(first|exact rfl|exact trivial),by(first|exact rfl|exact trivial),by(first|exact rfl|exact trivial),fun j=>j≤l.length,fun j=>l.length-j,yYh _,fun j hj=>zI (fun c=> ?_) (fun c=> ?_)⟩
 ·have hj':j<l.length:=by omega
  obtain⟨x,hx⟩:=yD (l:=l) (i:=j) hj'
  have bx:=hb x (yWt hx)
  have bs:=jA hb j
  refine⟨⟨by omega,by omega⟩,x,elI hx,⟨(l.take j).sum,x,0⟩,rfl,by rw[zAu (by omega)],rfl,⟨bs.1,bx.1,by dsimp only;omega,by dsimp only;omega⟩,fun _ _=>⟨by decide,j+1,?_,?_,wjn (by omega),hj',by dsimp only;omega,trivial⟩⟩
  ·rw[jO hx];dsimp only;omega
  ·have e:dN IntKind.i64 x 63=x / 9223372036854775808:=by
    have:=zCl .i64 x 63 (by decide)
    rw[show((63:Nat):Int)=63 by rfl]at this
    exact this
   dsimp only
   rw[e,show x / 9223372036854775808=0 by omega,show((l.take j).sum+x+0) / 18446744073709551616=0 by omega]
   rfl
 ·have hj':j=l.length:=by omega
  subst hj'
  have bs:=jA hb l.length
  rw[y0a]at bs
  have e:dN IntKind.i64 l.sum 63=l.sum / 9223372036854775808:=by
   have:=zCl .i64 l.sum 63 (by decide)
   rw[show((63:Nat):Int)=63 by rfl]at this
   exact this
  rw[y0a,w64 (x:=l.sum) (by omega),e,show l.sum / 9223372036854775808=0 by omega]
  exact⟨by decide,Cv.cnd.mk (fun c=>absurd c (by decide)) (fun _=>⟨(),by(first|exact rfl|exact trivial),by(first|exact rfl|exact trivial),trivial⟩)⟩
theorem yFy:isumC.ok Tryz.prog 319:=okw mixed (gokc z5w gok0) 0 (fun _=>[]) (fun l=>yTr l) [] Tryz.func319 yRo
theorem yLr (i:LqI) (h:rightC.cnd i):yCe i:=by
 obtain⟨hl,hq⟩:i.l.length≤1000000∧yU i.q:=h
 unfold yCe kI dI
 simp only[xF]
 refine zI (fun c=>⟨(),?_,trivial⟩) (fun c1=>zI (fun c=>⟨(),?_,trivial⟩) (fun c2=> ?_))
 ·rw[yS,yWx (by omega:¬i.l.length≤250)];rfl
 ·rw[yS,yWx (by omega:¬0≤i.q)];simp
 refine⟨0,by(first|exact rfl|exact trivial),by(first|exact rfl|exact trivial),fun j=>j≤i.l.length∧∀k<j,∀x,i.l[k]? =some x→1≤x∧x≤1000000,fun j=>i.l.length-j,⟨yYh _,fun k hk=>absurd hk (Nat.not_lt_zero k)⟩,fun j hj=>zI (fun c=> ?_) (fun c=> ?_)⟩
 ·obtain⟨hj0,hjb⟩:=hj
  have hj':j<i.l.length:=by omega
  obtain⟨x,hx⟩:=yD (l:=i.l) (i:=j) hj'
  have bad (hn:¬(1≤x∧x≤1000000)):yS i.l i.q=false:=by
   have:(i.l.all fun n=>decide (1≤n) && decide (n≤1000000))=false:=by
    rw[List.all_eq_false]
    exact⟨x,yWt hx,by simpa using hn⟩
   rw[yS,this];simp
  have bs:0≤(i.l.take j).sum∧(i.l.take j).sum≤1000000*j:=by
   have:=jA (l:=i.l.take j) (fun y hy=>by
    obtain⟨k,hk⟩:=yZd.1 hy
    have hkj:k<j:=by
     have:=(yWn.1 hk).1
     rw[yXd]at this;omega
    rw[List.getElem?_take_of_lt hkj]at hk
    have:=hjb k hkj y hk;omega) j
   rwa [List.take_take,Nat.min_self]at this
  refine⟨⟨by omega,by omega⟩,x,elI hx,zI (fun d=>⟨(),bad (by omega),trivial⟩) (fun d=>zI (fun e=>⟨(),bad (by omega),trivial⟩) (fun e=>⟨j+1,?_,wjn (by omega),⟨hj',fun k hk y hy=> ?_⟩,by dsimp only;omega,trivial⟩))⟩
  ·rw[jO hx,w64 (by omega)]
  ·by_cases hkj:k=j
   ·rw[hkj,hx]at hy;cases hy;omega
   ·exact hjb k (by omega) y hy
 ·obtain⟨hj0,hjb⟩:=hj
  have hj':j=i.l.length:=by omega
  subst hj'
  have:(i.l.all fun n=>decide (1≤n) && decide (n≤1000000))=true:=by
   rw[yZn]
   intro y hy
   obtain⟨k,hk⟩:=yZd.1 hy
   have:=hjb k ((yWn.1 hk).1) y hk
   simpa using this
  refine⟨(),?_,trivial⟩
  rw[yS,this,yXc (by omega:i.l.length≤250),yXc (by omega:0≤i.q),y0a]
  rfl
theorem zBk:rightC.ok Tryz.prog 305:=okw mixed gok0 0 (fun _=>[]) (fun i=>yMm i) [] Tryz.func305 yLr
theorem kW {l:List Int} {q:Int} (h:yS l q=true):l.length≤250∧0≤q∧(∀x∈l,1≤x∧x≤1000000)∧q≤l.sum:=by
 simp only[yS,yWw,yYe,yZn]at h
 exact⟨h.1.1.1,h.1.1.2,h.1.2,h.2⟩
theorem zHn {l:List Int} {q:Int} (h:yS l q=true):q≤250000000:=by
 obtain⟨h1,h2,h3,h4⟩:=kW h
 have:=jA (l:=l) (fun x hx=>by have:=h3 x hx;omega) l.length
 rw[y0a]at this
 omega
theorem rN:∀(l:List Int) (q:Int),(uD l q).length=l.length
 |[],_=>rfl
 |n::l,q=>by rw[uD,yWr,yWr,rN l]
theorem zJg:∀(l:List Int) (q:Int) (j:Nat) (n:Int),l[j]? =some n→(uD l q)[j]? =some (min n (q-((uD l q).take j).sum))
 |[],_,_,_,h=>by simp at h
 |m::l,q,0,n,h=>by simp at h;subst h;simp[uD]
 |m::l,q,j+1,n,h=>by
  rw[yYf]at h
  rw[uD,yYf,zJg l _ j n h,yXw,yXx]
  congr 2;omega
theorem zEx:∀(l:List Int) (q:Int) (j:Nat),0≤q→(∀x∈l,0≤x)→0≤q-((uD l q).take j).sum∧q-((uD l q).take j).sum≤q
 |[],q,j,h,_=>by simp[uD,h]
 |m::l,q,0,h,_=>by simp[h]
 |m::l,q,j+1,h,hb=>by
  have hm:=hb m yWp
  have:=zEx l (q-min m q) j (by omega) (fun x hx=>hb x (yWq _ hx))
  rw[uD,yXw,yXx]
  omega
theorem yQw (i:LqI) (h:fifoC.cnd i):yJh i:=by
 obtain⟨hl,hq⟩:i.l.length≤1000000∧yU i.q:=h
 unfold yJh j5 j0 dI
 refine⟨i,rfl,rfl,⟨hl,hq⟩,fun _ _=>Cv.cnd.mk (fun c=> ?_) (fun c=> ?_)⟩
 ·have c:yS i.l i.q=false:=by simpa using c
  refine⟨(),?_,trivial⟩
  rw[uK,yWj (by rw[c];decide)];rfl
 have c:yS i.l i.q=true:=by simpa using c
 obtain⟨h1,h2,h3,h4⟩:=kW c
 have hq2:=zHn c
 have h3':∀x∈i.l,0≤x:=fun x hx=>by have:=h3 x hx;omega
 simp only[xF]
 refine⟨0,by simp,rfl,rfl,fun j=>j≤i.l.length,fun j=>i.l.length-j,yYh _,fun j hj=>zI (fun d=> ?_) (fun d=> ?_)⟩
 ·have hj':j<i.l.length:=by omega
  obtain⟨x,hx⟩:=yD (l:=i.l) (i:=j) hj'
  have bx:=h3 x (yWt hx)
  have g:=zJg i.l i.q j x hx
  have r:=zEx i.l i.q j h2 h3'
  refine⟨⟨by omega,by omega⟩,x,elI hx,by rw[yXd];omega,j+1,?_,wjn (by omega),?_,hj',by dsimp only;omega,trivial⟩
  ·rw[jO g,w64 (by omega)];omega
  ·rw[yXt,g];simp[iE]
 ·have hj':j=i.l.length:=by omega
  subst hj'
  refine⟨(),?_,trivial⟩
  rw[uK,yWl c,yWu (by rw[rN];omega)]
theorem z0r:fifoC.ok Tryz.prog 286:=okw mixed (gokc zBk gok0) 0 (fun _=>[]) (fun i=>yTh i) [] Tryz.func286 yQw
open Go Cv Go.Proofs
structure Ent where
 slot:Int
 id:Int
 qty:Int
 top:Bool
 deriving DecidableEq
def yQn:Ent:=⟨0,0,0,false⟩
def zGr (e:Ent):List D:=[.v (.int .i64 e.slot),.v (.int .i64 e.id),.v (.int .i64 e.qty),.v (.bool e.top)]
@[reducible] def yUn (e:Ent):V:= .agg [zA e.slot,zA e.id,zA e.qty,yF e.top]
def Slot.ent (s:Slot):Ent:=⟨s.n,s.id,s.qty,s.top⟩
def Arena.slotAt (a:Arena) (k:Nat):Slot:=a.slots.getD k slot0
def Arena.getF (a:Arena) (n:Int):Ent×Bool:=if a.usedAt n=true then((a.slotAt n.toNat).ent,true)else(yQn,false)
def agetC:Con:=con1 ArN (fun i=>[.nm 0 0,zA i.n]) (fun i=>[jL i.a]) (fun i=>i.a.slots.length≤1000000) (fun i=> .tup [yUn (i.a.getF i.n).1,yF (i.a.getF i.n).2]) (fun i=>[jL i.a])
def zVr (sl:List Slot):Int→List Nat→Prop
 |at_,[]=>at_= -1
 |at_,k::l=>at_=k∧k<sl.length∧zVr sl (sl.getD k slot0).back l
structure ArL where
 a:Arena
 n:Int
 l:List Nat
def pZ (l:List Nat) (j:Nat):Int:=match l[j]? with
 |some k=>k
 |none=> -1
def Arena.ents (a:Arena) (l:List Nat):List Ent:=l.map fun k=>(a.slotAt k).ent
structure Arena.listOk (a:Arena) (n:Int) (l:List Nat):Prop where
 len:l.length≤1000000
 ch:if 0≤n∧n<a.queues.length then zVr a.slots (a.queues.getD n.toNat bR).first l else l=[]
def alistC:Con:=con1 ArL (fun i=>[.nm 0 0,zA i.n]) (fun i=>[jL i.a]) (fun i=>i.a.listOk i.n i.l) (fun _=> .own 1) (fun i=>[jL i.a,.own 326 4 ((i.a.ents i.l).map zGr)])
def yLe (i:ArL):List SAnn:=[{ι:=Nat,slots:=fun j=>[(5,.own 0),(6,zA (pZ i.l j))],rows:=fun j=>[.own 326 4 ((i.a.ents (i.l.take j)).map zGr)]}]
structure TkI where
 a:Arena
 n:Int
 qty:Int
def Arena.dropF (a:Arena) (k:Nat):Arena:=
 let s:=a.slotAt k
 let q:=a.queues.getD s.queue.toNat bR
 let sl1:=if s.ahead= -1 then a.slots else a.slots.modify s.ahead.toNat fun x=>{x with back:=s.back}
 let sl2:=if s.back= -1 then sl1 else sl1.modify s.back.toNat fun x=>{x with ahead:=s.ahead}
 ⟨sl2.set k slot0,a.queues.set s.queue.toNat ⟨if s.ahead= -1 then s.back else q.first,if s.back= -1 then s.ahead else q.last,q.total,IntKind.i64.wrap (q.count-1)⟩,IntKind.i64.wrap (a.free+1)⟩
def Arena.less (a:Arena) (k:Nat) (qty:Int):Arena:=
 {a with slots:=a.slots.modify k fun s=>{s with qty:=s.qty-qty},queues:=a.queues.modify (a.slotAt k).queue.toNat fun q=>{q with total:=IntKind.i64.wrap (q.total-qty)}}
def Arena.takeF (a:Arena) (n qty:Int):Arena×Int:=
 if a.usedAt n=false then(a,26)else if qty<1∨(a.slotAt n.toNat).qty<qty then(a,24)
 else if(a.slotAt n.toNat).qty=qty then((a.less n.toNat qty).dropF n.toNat,0)else(a.less n.toNat qty,0)
def Arena.okAt (a:Arena):Prop:=a.slots.length≤1000000∧∀(k:Nat) (s:Slot),a.slots[k]? =some s→s.used=true→(0≤s.queue∧s.queue<a.queues.length)∧s.qty≤1000000∧(s.ahead= -1∨(0≤s.ahead∧s.ahead<a.slots.length∧s.ahead≠k))∧(s.back= -1∨(0≤s.back∧s.back<a.slots.length∧s.back≠k))
def atakeC:Con:=con1 TkI (fun i=>[.nm 0 0,zA i.n,zA i.qty]) (fun i=>[jL i.a]) (fun i=>i.a.okAt) (fun i=>zA (i.a.takeF i.n i.qty).2) (fun i=>[jL (i.a.takeF i.n i.qty).1])
open Go Cv Go.Proofs
def eH (a:ArN):Prop:=∃(b:Unit),(a.a.getF a.n).fst.slot=0∧(a.a.getF a.n).fst.id=0∧(a.a.getF a.n).fst.qty=0∧(a.a.getF a.n).fst.top=false∧(a.a.getF a.n).snd=false∧jD a
def yKn (i:ArN):Prop:=
 cnd (decide (i.n<0)) (eH i) (cnd (decide (i.n≥(↑(List.map zP i.a.slots).length:Int))) (eH i) ((0≤i.n∧i.n<(↑(List.map zP i.a.slots).length:Int))∧∃(a:Bool),zE (List.map zP i.a.slots) i.n.toNat ((0:Nat)+(0:Nat)) 1=some [D.v (.bool a)]∧cnd (!a) (eH i) ((0≤i.n∧i.n<(↑(List.map zP i.a.slots).length:Int))∧∃(b:Int),∃(c:Int),∃(d:Int),∃(e:Bool),zE (List.map zP i.a.slots) i.n.toNat ((0:Nat)+(1:Nat)) 4=some [dI b,dI c,dI d,D.v (.bool e)]∧∃(f:Unit),(i.a.getF i.n).fst.slot=b∧(i.a.getF i.n).fst.id=c∧(i.a.getF i.n).fst.qty=d∧(i.a.getF i.n).fst.top=e∧(i.a.getF i.n).snd=true∧jD i)))
def zAv (a:ArL):Prop:=∃(b:Unit),a.a.free=a.a.free∧List.map zP a.a.slots=List.map zP a.a.slots∧List.map zO a.a.queues=List.map zO a.a.queues∧List.map zGr (a.a.ents a.l)=[]∧True
def z8r (i:ArL):Prop:=
 cnd (decide (i.n≥0)) (cnd (!decide (i.n<(↑(List.map zO i.a.queues).length:Int))) (zAv i) ((0≤i.n∧i.n<(↑(List.map zO i.a.queues).length:Int))∧∃(a:Int),zE (List.map zO i.a.queues) i.n.toNat ((0:Nat)+(0:Nat)) 1=some [dI a]∧∃(b:Nat),pZ i.l b=a∧List.map zGr (i.a.ents (List.take b i.l))=[]∧∃(c:Nat→Prop),∃(d:Nat→Nat),c b∧∀(e:Nat),c e→cnd (pZ i.l e !=(-1)) ((0≤pZ i.l e∧pZ i.l e<(↑(List.map zP i.a.slots).length:Int))∧∃(f:Int),∃(g:Int),∃(h:Int),∃(j:Bool),zE (List.map zP i.a.slots) (pZ i.l e).toNat ((0:Nat)+(1:Nat)) 4=some [dI f,dI g,dI h,D.v (.bool j)]∧((List.map zGr (i.a.ents (List.take e i.l))).length+1)*(32:Nat)≤(140737488355328:Nat)∧(0≤pZ i.l e∧pZ i.l e<(↑(List.map zP i.a.slots).length:Int))∧∃(k:Int),zE (List.map zP i.a.slots) (pZ i.l e).toNat ((0:Nat)+(7:Nat)) 1=some [dI k]∧∃(l:Nat),pZ i.l l=k∧List.map zGr (i.a.ents (List.take l i.l))=List.map zGr (i.a.ents (List.take e i.l))++[[dI f,dI g,dI h,D.v (.bool j)]]∧c l∧d l<d e∧Sx.AObj.cells (gX (jG 0 1 3) [V.own 1,V.own 2,zA i.a.free]) (355:TypeId)=Sx.AObj.cells (gX (jG 0 1 3) [V.own 1,V.own 2,zA i.a.free]) (355:TypeId)∧AObj.own 362 8 (List.map zP i.a.slots)=AObj.own 362 8 (List.map zP i.a.slots)∧AObj.own 365 4 (List.map zO i.a.queues)=AObj.own 365 4 (List.map zO i.a.queues)) (∃(f:Unit),i.a.free=i.a.free∧List.map zP i.a.slots=List.map zP i.a.slots∧List.map zO i.a.queues=List.map zO i.a.queues∧List.map zGr (i.a.ents i.l)=List.map zGr (i.a.ents (List.take e i.l))∧True))) (zAv i)
def zAr (a:TkI):Prop:=(a.a.takeF a.n a.qty).fst.free=a.a.free∧List.map zP (a.a.takeF a.n a.qty).fst.slots=List.map zP a.a.slots∧List.map zO (a.a.takeF a.n a.qty).fst.queues=List.map zO a.a.queues∧True
def nO (a:TkI):Prop:=∃(b:Unit),(a.a.takeF a.n a.qty).snd=26∧zAr a
def zAf (a:TkI):Prop:=∃(b:Unit),(a.a.takeF a.n a.qty).snd=24∧zAr a
def y8 (a:TkI) (b:Int):=(zT (List.map zP a.a.slots) a.n.toNat ((0:Nat)+(1:Nat)+2) [dI (IntKind.i64.wrap (b-a.qty))])
def jN (a:TkI) (b:Int) (c:Int) (d:Int):=(zT (y8 a b) c.toNat ((0:Nat)+(7:Nat)) [dI d])
def zAw (a:TkI) (b:Int) (c:Int) (d:Int) (e:Int) (f:Int):=(zT (jN a b c d) e.toNat ((0:Nat)+(6:Nat)) [dI f])
def wL (a:TkI) (b:Int) (c:Int):=(zT (List.map zO a.a.queues) b.toNat ((0:Nat)+(2:Nat)) [dI (IntKind.i64.wrap (c-a.qty))])
def fS (a:TkI) (b:Int) (c:Int) (d:Int) (e:Int):=(zT (wL a b c) d.toNat ((0:Nat)+(0:Nat)) [dI e])
def pA (a:TkI) (b:Int) (c:Int) (d:Int) (e:Int) (f:Int):=(zT (fS a b c d e) d.toNat ((0:Nat)+(1:Nat)) [dI f])
def lJ (a:TkI) (b:Int) (c:Int) (d:Int):=(zT (y8 a b) c.toNat ((0:Nat)+(6:Nat)) [dI d])
def zAs (a:Int) (b:TkI) (c:Int):Prop:=0≤a∧a<(↑(y8 b c).length:Int)
def pQ (a:TkI) (b:Int) (c:Int) (d:Int) (e:Int):=(zT (wL a b c) d.toNat ((0:Nat)+(1:Nat)) [dI e])
def z8k (i:TkI):Prop:=
 cnd (decide (i.n<0)) (nO i) (cnd (decide (i.n≥(↑(List.map zP i.a.slots).length:Int))) (nO i) ((0≤i.n∧i.n<(↑(List.map zP i.a.slots).length:Int))∧∃(a:Bool),zE (List.map zP i.a.slots) i.n.toNat ((0:Nat)+(0:Nat)) 1=some [D.v (.bool a)]∧cnd (!a) (nO i) ((0≤i.n∧i.n<(↑(List.map zP i.a.slots).length:Int))∧cnd (decide (i.qty<1)) (zAf i) (∃(b:Int),zE (List.map zP i.a.slots) i.n.toNat ((0:Nat)+(1:Nat)+2) 1=some [dI b]∧cnd (decide (i.qty>b)) (zAf i) (∃(c:Int),zE (List.map zP i.a.slots) i.n.toNat ((0:Nat)+(1:Nat)+2) 1=some [dI c]∧i.n.toNat<(List.map zP i.a.slots).length∧∃(d:Int),zE (y8 i c) i.n.toNat ((0:Nat)+(5:Nat)) 1=some [dI d]∧(0≤d∧d<(↑(List.map zO i.a.queues).length:Int))∧∃(e:Int),zE (List.map zO i.a.queues) d.toNat ((0:Nat)+(2:Nat)) 1=some [dI e]∧(0≤d∧d<(↑(List.map zO i.a.queues).length:Int))∧d.toNat<(List.map zO i.a.queues).length∧∃(f:Int),zE (y8 i c) i.n.toNat ((0:Nat)+(1:Nat)+2) 1=some [dI f]∧cnd (f==0) (∃(g:Int),zE (y8 i c) i.n.toNat ((0:Nat)+(5:Nat)) 1=some [dI g]∧(0≤g∧g<(↑(wL i d e).length:Int))∧∃(h:Int),zE (y8 i c) i.n.toNat ((0:Nat)+(6:Nat)) 1=some [dI h]∧cnd (h==(-1)) (∃(j:Int),zE (y8 i c) i.n.toNat ((0:Nat)+(7:Nat)) 1=some [dI j]∧g.toNat<(wL i d e).length∧∃(k:Int),zE (y8 i c) i.n.toNat ((0:Nat)+(7:Nat)) 1=some [dI k]∧cnd (k==(-1)) (∃(l:Int),zE (y8 i c) i.n.toNat ((0:Nat)+(6:Nat)) 1=some [dI l]∧g.toNat<(fS i d e g j).length∧∃(m:Int),zE (pA i d e g j l) g.toNat ((0:Nat)+(3:Nat)) 1=some [dI m]∧g.toNat<(pA i d e g j l).length∧i.n.toNat<(y8 i c).length∧∃(n:Unit),(i.a.takeF i.n i.qty).snd=0∧(i.a.takeF i.n i.qty).fst.free=IntKind.i64.wrap (i.a.free+1)∧List.map zP (i.a.takeF i.n i.qty).fst.slots=zT (y8 i c) i.n.toNat 0 [D.v (.bool false),dI 0,dI 0,dI 0,D.v (.bool false),dI 0,dI 0,dI 0]∧List.map zO (i.a.takeF i.n i.qty).fst.queues=zT (pA i d e g j l) g.toNat ((0:Nat)+(3:Nat)) [dI (IntKind.i64.wrap (m-1))]∧True) (∃(l:Int),zE (y8 i c) i.n.toNat ((0:Nat)+(7:Nat)) 1=some [dI l]∧∃(m:Int),zE (y8 i c) i.n.toNat ((0:Nat)+(6:Nat)) 1=some [dI m]∧(zAs l i c)∧l.toNat<(y8 i c).length∧∃(n:Int),zE (fS i d e g j) g.toNat ((0:Nat)+(3:Nat)) 1=some [dI n]∧g.toNat<(fS i d e g j).length∧i.n.toNat<(lJ i c l m).length∧∃(p:Unit),(i.a.takeF i.n i.qty).snd=0∧(i.a.takeF i.n i.qty).fst.free=IntKind.i64.wrap (i.a.free+1)∧List.map zP (i.a.takeF i.n i.qty).fst.slots=zT (lJ i c l m) i.n.toNat 0 [D.v (.bool false),dI 0,dI 0,dI 0,D.v (.bool false),dI 0,dI 0,dI 0]∧List.map zO (i.a.takeF i.n i.qty).fst.queues=zT (fS i d e g j) g.toNat ((0:Nat)+(3:Nat)) [dI (IntKind.i64.wrap (n-1))]∧True)) (∃(j:Int),zE (y8 i c) i.n.toNat ((0:Nat)+(6:Nat)) 1=some [dI j]∧∃(k:Int),zE (y8 i c) i.n.toNat ((0:Nat)+(7:Nat)) 1=some [dI k]∧(zAs j i c)∧j.toNat<(y8 i c).length∧∃(l:Int),zE (jN i c j k) i.n.toNat ((0:Nat)+(7:Nat)) 1=some [dI l]∧cnd (l==(-1)) (∃(m:Int),zE (jN i c j k) i.n.toNat ((0:Nat)+(6:Nat)) 1=some [dI m]∧g.toNat<(wL i d e).length∧∃(n:Int),zE (pQ i d e g m) g.toNat ((0:Nat)+(3:Nat)) 1=some [dI n]∧g.toNat<(pQ i d e g m).length∧i.n.toNat<(jN i c j k).length∧∃(p:Unit),(i.a.takeF i.n i.qty).snd=0∧(i.a.takeF i.n i.qty).fst.free=IntKind.i64.wrap (i.a.free+1)∧List.map zP (i.a.takeF i.n i.qty).fst.slots=zT (jN i c j k) i.n.toNat 0 [D.v (.bool false),dI 0,dI 0,dI 0,D.v (.bool false),dI 0,dI 0,dI 0]∧List.map zO (i.a.takeF i.n i.qty).fst.queues=zT (pQ i d e g m) g.toNat ((0:Nat)+(3:Nat)) [dI (IntKind.i64.wrap (n-1))]∧True) (∃(m:Int),zE (jN i c j k) i.n.toNat ((0:Nat)+(7:Nat)) 1=some [dI m]∧∃(n:Int),zE (jN i c j k) i.n.toNat ((0:Nat)+(6:Nat)) 1=some [dI n]∧(0≤m∧m<(↑(jN i c j k).length:Int))∧m.toNat<(jN i c j k).length∧∃(p:Int),zE (wL i d e) g.toNat ((0:Nat)+(3:Nat)) 1=some [dI p]∧g.toNat<(wL i d e).length∧i.n.toNat<(zAw i c j k m n).length∧∃(q:Unit),(i.a.takeF i.n i.qty).snd=0∧(i.a.takeF i.n i.qty).fst.free=IntKind.i64.wrap (i.a.free+1)∧List.map zP (i.a.takeF i.n i.qty).fst.slots=zT (zAw i c j k m n) i.n.toNat 0 [D.v (.bool false),dI 0,dI 0,dI 0,D.v (.bool false),dI 0,dI 0,dI 0]∧List.map zO (i.a.takeF i.n i.qty).fst.queues=zT (wL i d e) g.toNat ((0:Nat)+(3:Nat)) [dI (IntKind.i64.wrap (p-1))]∧True))) (∃(g:Unit),(i.a.takeF i.n i.qty).snd=0∧(i.a.takeF i.n i.qty).fst.free=i.a.free∧List.map zP (i.a.takeF i.n i.qty).fst.slots=zT (List.map zP i.a.slots) i.n.toNat ((0:Nat)+(1:Nat)+2) [dI (IntKind.i64.wrap (c-i.qty))]∧List.map zO (i.a.takeF i.n i.qty).fst.queues=zT (List.map zO i.a.queues) d.toNat ((0:Nat)+(2:Nat)) [dI (IntKind.i64.wrap (e-i.qty))]∧True))))))
open Go Cv Go.Proofs
theorem zHi {a:Arena} {n:Int} (h:n<0∨(a.slots.length:Int)≤n):a.usedAt n=false:=by
 rcases h with h|h
 ·rw[Arena.usedAt,yWx (by omega),yZp]
 ·rw[Arena.usedAt,yWx (show ¬n<(a.slots.length:Int)by omega),yZp,y1s]
theorem z2i {a:Arena} {n:Int} {s:Slot} (h0:0≤n) (hs:a.slots[n.toNat]? =some s):a.usedAt n=s.used:=by
 have hl:=(yWn.1 hs).1
 rw[Arena.usedAt,yXc h0,yXc (show n<(a.slots.length:Int)by omega),zR hs];simp
theorem xJ {a:Arena} {k:Nat} {s:Slot} (hs:a.slots[k]? =some s):a.slotAt k=s:=zR hs
theorem ySw (i:ArN) (h:agetC.cnd i):yKn i:=by
 have h:i.a.slots.length≤1000000:=h
 unfold yKn eH jD dI
 simp only[yWk]
 have no (e:i.a.usedAt i.n=false):i.a.getF i.n=(yQn,false):=by rw[Arena.getF,yWj (by rw[e];decide)]
 refine zI (fun c=> ?_) (fun c=>zI (fun d=> ?_) (fun d=> ?_))
 ·rw[no (zHi (.inl c))];(repeat'(first|exact rfl|exact trivial|assumption|apply And.intro|refine fun(_:Unit) (_:True)=>?_|refine Exists.intro () ?_|omega|(dsimp only;omega)))
 ·rw[no (zHi (.inr (by omega)))];(repeat'(first|exact rfl|exact trivial|assumption|apply And.intro|refine fun(_:Unit) (_:True)=>?_|refine Exists.intro () ?_|omega|(dsimp only;omega)))
 ·obtain⟨s,hs⟩:=yD (l:=i.a.slots) (i:=i.n.toNat) (by omega)
  have eu:=z2i (a:=i.a) (n:=i.n) (by omega) hs
  refine⟨⟨by omega,by omega⟩,s.used,elA hs (by simp[zP]) rfl,Cv.cnd.mk (fun u=> ?_) (fun u=> ?_)⟩
  ·rw[no (by rw[eu];simpa using u)];(repeat'(first|exact rfl|exact trivial|assumption|apply And.intro|refine fun(_:Unit) (_:True)=>?_|refine Exists.intro () ?_|omega|(dsimp only;omega)))
  ·have e:i.a.usedAt i.n=true:=by rw[eu];simpa using u
   have et:i.a.getF i.n=(s.ent,true):=by rw[Arena.getF,yWl e,xJ hs]
   rw[et]
   refine⟨⟨by omega,by omega⟩,s.n,s.id,s.qty,s.top,elA hs (by simp[zP]) rfl,?_⟩
   (repeat'(first|exact rfl|exact trivial|assumption|apply And.intro|refine fun(_:Unit) (_:True)=>?_|refine Exists.intro () ?_|omega|(dsimp only;omega)))
theorem z3c:agetC.ok Tryz.prog 210:=okw mixed gok0 1 (fun _=>[]) (fun _=>[]) [0] Tryz.func210 ySw
theorem zNp:∀{sl:List Slot} {at_:Int} {l:List Nat},zVr sl at_ l→pZ l 0=at_∧∀j k,l[j]? =some k→k<sl.length∧pZ l (j+1)=(sl.getD k slot0).back
 |sl,at_,[],h=>⟨h.symm,fun j k hk=>by simp at hk⟩
 |sl,at_,x::l,h=>by
  obtain⟨h1,h2,h3⟩:=h
  have ih:=zNp h3
  refine⟨h1.symm,fun j k hk=> ?_⟩
  cases j with
  |zero=>
   simp at hk;subst hk
   exact⟨h2,by rw[← ih.1];rfl⟩
  |succ j=>
   rw[yYf]at hk
   obtain⟨a,b⟩:=ih.2 j k hk
   exact⟨a,by rw[← b];rfl⟩
theorem yOo (i:ArL) (h:alistC.cnd i):z8r i:=by
 obtain⟨hl,h⟩:i.l.length≤1000000∧(if 0≤i.n∧i.n<i.a.queues.length then zVr i.a.slots (i.a.queues.getD i.n.toNat bR).first i.l else i.l=[]):=⟨h.len,h.ch⟩
 unfold z8r zAv dI
 simp only[yWk]
 have out (e:¬(0≤i.n∧i.n<(i.a.queues.length:Int))):i.l=[]:=by rw[yWj e]at h;exact h
 refine zI (fun c=>Cv.cnd.mk (fun d=> ?_) (fun d=> ?_)) (fun c=> ?_)
 ·have d:¬i.n<(i.a.queues.length:Int):=by simpa using d
  rw[out (by omega)];(repeat'(first|exact rfl|exact trivial|assumption|apply And.intro|refine fun(_:Unit) (_:True)=>?_|refine Exists.intro () ?_|omega|(dsimp only;omega)))
 ·have d:i.n<(i.a.queues.length:Int):=by simpa using d
  rw[yWl ⟨by omega,d⟩]at h
  obtain⟨q,hq⟩:=yD (l:=i.a.queues) (i:=i.n.toNat) (by omega)
  rw[zR hq]at h
  obtain⟨n0,nx⟩:=zNp h
  refine⟨⟨by omega,by omega⟩,q.first,elA hq (by simp[zO]) rfl,0,n0,rfl,fun j=>j≤i.l.length,fun j=>i.l.length-j,yYh _,fun j hj=>Cv.cnd.mk (fun e=> ?_) (fun e=> ?_)⟩
  ·have e:pZ i.l j≠-1:=by simpa using e
   obtain⟨k,hk⟩:∃k,i.l[j]? =some k:=by
    cases hk:i.l[j]? with
    |none=>rw[pZ,hk]at e;exact absurd rfl e
    |some k=>exact⟨k,rfl⟩
   have hjl:=(yWn.1 hk).1
   obtain⟨hkl,hnx⟩:=nx j k hk
   have en:pZ i.l j=k:=by rw[pZ,hk]
   obtain⟨s,hs⟩:=yD (l:=i.a.slots) (i:=k) hkl
   rw[en,yXa]
   refine⟨⟨by omega,by omega⟩,s.n,s.id,s.qty,s.top,elA hs (by simp[zP]) rfl,?_,⟨by omega,by omega⟩,s.back,elA hs (by simp[zP]) rfl,j+1,by rw[hnx,zR hs],?_,hjl,by dsimp only;omega,k0q⟩
   ·simp only[Arena.ents,yWk,yXd];omega
   ·rw[yXt,hk]
    simp only[Arena.ents,Option.toList,yWv,yWz,y0h,xJ hs]
    rfl
  ·have e:pZ i.l j= -1:=by simpa using e
   have hj':i.l.length≤j:=by
    apply Classical.byContradiction
    intro hn
    obtain⟨k,hk⟩:=yD (l:=i.l) (i:=j) (by omega)
    rw[pZ,hk]at e
    simp only at e;omega
   rw[yWu hj']
   (repeat'(first|exact rfl|exact trivial|assumption|apply And.intro|refine fun(_:Unit) (_:True)=>?_|refine Exists.intro () ?_|omega|(dsimp only;omega)))
 ·rw[out (by omega)];(repeat'(first|exact rfl|exact trivial|assumption|apply And.intro|refine fun(_:Unit) (_:True)=>?_|refine Exists.intro () ?_|omega|(dsimp only;omega)))
theorem yBa:alistC.ok Tryz.prog 304:=okw mixed gok0 1 (fun _=>[]) (fun i=>yLe i) [0] Tryz.func304 yOo
theorem zYe {α:Type} {l:List α} {i k:Nat} {x y:α} (h:i≠k) (hk:l[k]? =some x):(l.set i y)[k]? =some x:=by
 rw[List.getElem?_set_ne h];exact hk
theorem yLq (i:TkI) (h:atakeC.cnd i):z8k i:=by
 obtain⟨hl,hok⟩:i.a.okAt:=h
 unfold z8k pQ zAs lJ pA fS wL zAw jN y8 zAf nO zAr dI
 simp only[yWk]
 have no (e:i.a.usedAt i.n=false):i.a.takeF i.n i.qty=(i.a,26):=by rw[Arena.takeF,yWl e]
 refine zI (fun c=> ?_) (fun c=>zI (fun d=> ?_) (fun d=> ?_))
 ·rw[no (zHi (.inl c))];(repeat'(first|exact rfl|exact trivial|assumption|apply And.intro|refine fun(_:Unit) (_:True)=>?_|refine Exists.intro () ?_|omega|(dsimp only;omega)))
 ·rw[no (zHi (.inr (by omega)))];(repeat'(first|exact rfl|exact trivial|assumption|apply And.intro|refine fun(_:Unit) (_:True)=>?_|refine Exists.intro () ?_|omega|(dsimp only;omega)))
 obtain⟨k,hk⟩:∃k,k=i.n.toNat:=⟨_,rfl⟩
 rw[← hk]
 obtain⟨s,hs⟩:=yD (l:=i.a.slots) (i:=k) (by omega)
 have hs':i.a.slots[i.n.toNat]? =some s:=by rw[← hk];exact hs
 have eu:=z2i (a:=i.a) (n:=i.n) (by omega) hs'
 refine⟨⟨by omega,by omega⟩,s.used,elA hs (by simp[zP]) rfl,Cv.cnd.mk (fun u=> ?_) (fun u=> ?_)⟩
 ·rw[no (by rw[eu];simpa using u)];(repeat'(first|exact rfl|exact trivial|assumption|apply And.intro|refine fun(_:Unit) (_:True)=>?_|refine Exists.intro () ?_|omega|(dsimp only;omega)))
 have u:s.used=true:=by simpa using u
 have e:¬i.a.usedAt i.n=false:=by rw[eu,u];decide
 obtain⟨⟨q0,q1⟩,sq,sa,sb⟩:=hok k s hs u
 have esl:i.a.slotAt i.n.toNat=s:=xJ hs'
 have bad (hq:i.qty<1∨s.qty<i.qty):i.a.takeF i.n i.qty=(i.a,24):=by rw[Arena.takeF,yWj e,esl,yWl hq]
 refine⟨⟨by omega,by omega⟩,zI (fun c1=>by rw[bad (.inl c1)];(repeat'(first|exact rfl|exact trivial|assumption|apply And.intro|refine fun(_:Unit) (_:True)=>?_|refine Exists.intro () ?_|omega|(dsimp only;omega)))) (fun c1=>⟨s.qty,elA hs (by simp[zP]) rfl,zI (fun c2=>by rw[bad (.inr (by omega))];(repeat'(first|exact rfl|exact trivial|assumption|apply And.intro|refine fun(_:Unit) (_:True)=>?_|refine Exists.intro () ?_|omega|(dsimp only;omega)))) (fun c2=>⟨s.qty,elA hs (by simp[zP]) rfl,by omega,?_⟩)⟩)⟩
 obtain⟨q,hq⟩:=yD (l:=i.a.queues) (i:=s.queue.toNat) (by omega)
 have hs1:(i.a.slots.set k {s with qty:=s.qty-i.qty})[k]? =some {s with qty:=s.qty-i.qty}:=uC hs
 have hq1:(i.a.queues.set s.queue.toNat {q with total:=IntKind.i64.wrap (q.total-i.qty)})[s.queue.toNat]? =some {q with total:=IntKind.i64.wrap (q.total-i.qty)}:=uC hq
 have hle:i.a.less i.n.toNat i.qty=⟨i.a.slots.set k {s with qty:=s.qty-i.qty},i.a.queues.set s.queue.toNat {q with total:=IntKind.i64.wrap (q.total-i.qty)},i.a.free⟩:=by
  rw[Arena.less,esl,f8 hs',f8 hq,hk]
 have hL:(i.a.slots.set k {s with qty:=s.qty-i.qty}).length=i.a.slots.length:=yXf
 have hQ:(i.a.queues.set s.queue.toNat {q with total:=IntKind.i64.wrap (q.total-i.qty)}).length=i.a.queues.length:=yXf
 have tk:i.a.takeF i.n i.qty=if s.qty=i.qty then((i.a.less i.n.toNat i.qty).dropF i.n.toNat,0)else(i.a.less i.n.toNat i.qty,0):=by rw[Arena.takeF,yWj e,esl,yWj (by omega)]
 rw[hle,← hk]at tk
 rw[w64 (x:=s.qty-i.qty) (by omega),yJ hs (y:={s with qty:=s.qty-i.qty}) rfl]
 refine⟨s.queue,elA hs1 (by simp[zP]) rfl,⟨q0,q1⟩,q.total,elA hq (by simp[zO]) rfl,⟨q0,q1⟩,by omega,s.qty-i.qty,elA hs1 (by simp[zP]) rfl,?_⟩
 rw[yJ hq (y:={q with total:=IntKind.i64.wrap (q.total-i.qty)}) rfl]
 simp only[yWk]
 generalize hL1:i.a.slots.set k {s with qty:=s.qty-i.qty}=L1 at*
 generalize hQ1:i.a.queues.set s.queue.toNat {q with total:=IntKind.i64.wrap (q.total-i.qty)}=Q1 at*
 refine Cv.cnd.mk (fun z=> ?_) (fun z=> ?_)
 ·have z:s.qty=i.qty:=by have:s.qty-i.qty=0:=by simpa using z
                         omega
  rw[yWl z]at tk
  have esl1:(⟨L1,Q1,i.a.free⟩:Arena).slotAt k={s with qty:=s.qty-i.qty}:=xJ hs1
  have eq1:Q1.getD s.queue.toNat bR={q with total:=IntKind.i64.wrap (q.total-i.qty)}:=zR hq1
  rw[Arena.dropF,esl1]at tk
  dsimp only at tk
  rw[eq1]at tk
  dsimp only at tk
  rw[tk]
  refine⟨s.queue,elA hs1 (by simp[zP]) rfl,⟨q0,by omega⟩,s.ahead,elA hs1 (by simp[zP]) rfl,Cv.cnd.mk (fun ea=> ?_) (fun ea=> ?_)⟩
  ·have ea:s.ahead= -1:=by simpa using ea
   refine⟨s.back,elA hs1 (by simp[zP]) rfl,by omega,s.back,elA hs1 (by simp[zP]) rfl,?_⟩
   rw[yJ hq1 (y:=⟨s.back,q.last,IntKind.i64.wrap (q.total-i.qty),q.count⟩) rfl]
   have hq2:(Q1.set s.queue.toNat ⟨s.back,q.last,IntKind.i64.wrap (q.total-i.qty),q.count⟩)[s.queue.toNat]? =some ⟨s.back,q.last,IntKind.i64.wrap (q.total-i.qty),q.count⟩:=uC hq1
   simp only[yWk,yXf]
   refine Cv.cnd.mk (fun eb=> ?_) (fun eb=> ?_)
   ·have eb:s.back= -1:=by simpa using eb
    refine⟨s.ahead,elA hs1 (by simp[zP]) rfl,by omega,q.count,?_,?_⟩
    ·rw[yJ hq2 (y:=⟨s.back,s.ahead,IntKind.i64.wrap (q.total-i.qty),q.count⟩) rfl]
     exact elA (uC hq2) (by simp[zO]) rfl
    rw[yJ hq2 (y:=⟨s.back,s.ahead,IntKind.i64.wrap (q.total-i.qty),q.count⟩) rfl,yJ (uC hq2) (y:=⟨s.back,s.ahead,IntKind.i64.wrap (q.total-i.qty),IntKind.i64.wrap (q.count-1)⟩) rfl,yJ hs1 (y:=slot0) rfl]
    simp only[yWk,yXf,y0m,yWl ea,yWl eb]
    refine⟨by omega,by omega,(),by(first|exact rfl|exact trivial),by(first|exact rfl|exact trivial),by(first|exact rfl|exact trivial),by(first|exact rfl|exact trivial),trivial⟩
   ·have eb:s.back≠-1:=by simpa using eb
    obtain⟨b0,b1,b2⟩:0≤s.back∧s.back<i.a.slots.length∧s.back≠k:=by omega
    obtain⟨x,hx⟩:=yD (l:=L1) (i:=s.back.toNat) (by omega)
    refine⟨s.back,elA hs1 (by simp[zP]) rfl,s.ahead,elA hs1 (by simp[zP]) rfl,⟨b0,by omega⟩,by omega,q.count,elA hq2 (by simp[zO]) rfl,?_⟩
    rw[yJ hx (y:={x with ahead:=s.ahead}) rfl,yJ hq2 (y:=⟨s.back,q.last,IntKind.i64.wrap (q.total-i.qty),IntKind.i64.wrap (q.count-1)⟩) rfl,yJ (zYe (by omega) hs1) (y:=slot0) rfl]
    simp only[yWk,yXf,y0m,yWl ea,yWj eb,f8 hx]
    refine⟨by omega,by omega,(),by(first|exact rfl|exact trivial),by(first|exact rfl|exact trivial),by(first|exact rfl|exact trivial),by(first|exact rfl|exact trivial),trivial⟩
  ·have ea:s.ahead≠-1:=by simpa using ea
   obtain⟨a0,a1,a2⟩:0≤s.ahead∧s.ahead<i.a.slots.length∧s.ahead≠k:=by omega
   obtain⟨x,hx⟩:=yD (l:=L1) (i:=s.ahead.toNat) (by omega)
   have hs2:(L1.set s.ahead.toNat {x with back:=s.back})[k]? =some {s with qty:=s.qty-i.qty}:=zYe (by omega) hs1
   refine⟨s.ahead,elA hs1 (by simp[zP]) rfl,s.back,elA hs1 (by simp[zP]) rfl,⟨a0,by omega⟩,by omega,s.back,?_,?_⟩
   ·rw[yJ hx (y:={x with back:=s.back}) rfl]
    exact elA hs2 (by simp[zP]) rfl
   rw[yJ hx (y:={x with back:=s.back}) rfl]
   simp only[yWk,yXf]
   refine Cv.cnd.mk (fun eb=> ?_) (fun eb=> ?_)
   ·have eb:s.back= -1:=by simpa using eb
    refine⟨s.ahead,elA hs2 (by simp[zP]) rfl,by omega,q.count,?_,?_⟩
    ·rw[yJ hq1 (y:=⟨q.first,s.ahead,IntKind.i64.wrap (q.total-i.qty),q.count⟩) rfl]
     exact elA (uC hq1) (by simp[zO]) rfl
    rw[yJ hq1 (y:=⟨q.first,s.ahead,IntKind.i64.wrap (q.total-i.qty),q.count⟩) rfl,yJ (uC hq1) (y:=⟨q.first,s.ahead,IntKind.i64.wrap (q.total-i.qty),IntKind.i64.wrap (q.count-1)⟩) rfl,yJ hs2 (y:=slot0) rfl]
    simp only[yWk,yXf,y0m,yWj ea,yWl eb,f8 hx]
    refine⟨by omega,by omega,(),by(first|exact rfl|exact trivial),by(first|exact rfl|exact trivial),by(first|exact rfl|exact trivial),by(first|exact rfl|exact trivial),trivial⟩
   ·have eb:s.back≠-1:=by simpa using eb
    obtain⟨b0,b1,b2⟩:0≤s.back∧s.back<i.a.slots.length∧s.back≠k:=by omega
    obtain⟨y,hy⟩:=yD (l:=L1.set s.ahead.toNat {x with back:=s.back}) (i:=s.back.toNat) (by rw[yXf];omega)
    refine⟨s.back,elA hs2 (by simp[zP]) rfl,s.ahead,elA hs2 (by simp[zP]) rfl,⟨b0,by omega⟩,by omega,q.count,elA hq1 (by simp[zO]) rfl,?_⟩
    rw[yJ hy (y:={y with ahead:=s.ahead}) rfl,yJ hq1 (y:=⟨q.first,q.last,IntKind.i64.wrap (q.total-i.qty),IntKind.i64.wrap (q.count-1)⟩) rfl,yJ (zYe (by omega) hs2) (y:=slot0) rfl]
    simp only[yWk,yXf,y0m,yWj ea,yWj eb,f8 hx,f8 hy]
    refine⟨by omega,by omega,(),by(first|exact rfl|exact trivial),by(first|exact rfl|exact trivial),by(first|exact rfl|exact trivial),by(first|exact rfl|exact trivial),trivial⟩
 ·have z:¬s.qty=i.qty:=by have:¬s.qty-i.qty=0:=by simpa using z
                          omega
  rw[yWj z]at tk
  rw[tk]
  exact⟨(),rfl,rfl,rfl,rfl,trivial⟩
theorem yAe:atakeC.ok Tryz.prog 242:=okw mixed gok0 1 (fun _=>[]) (fun _=>[]) [0] Tryz.func242 yLq
open Go Cv Go.Proofs
structure PlI where
 l:List Int
 least:Int
 q:Int
def zZe (l:List Int) (least q:Int):List Int:=l.map fun k=>if least≤k*q / l.sum then k*q / l.sum else 0
def j6:List (Int×Int)→Int→List Int
 |[],_=>[]
 |(n,x)::r,q=>(x+min (n-x) q)::j6 r (q-min (n-x) q)
def PlI.p0 (i:PlI):List Int:=zZe i.l i.least i.q
def PlI.p1 (i:PlI):List Int:=j6 (i.l.zip i.p0) (i.q-i.p0.sum)
def kR (i:PlI):List Int:=if yS i.l i.q=true∧1≤i.least then i.p1 else[]
def plainC:Con:=con1 PlI (fun i=>[iV i.l,zA i.least,zA i.q]) (fun _=>[]) (fun i=>i.l.length≤1000000∧yU i.q∧yU i.least) (fun _=> .own 0) (fun i=>[.own 2 1 (iE (kR i))])
def yOr (i:PlI):List SAnn:=[
 {ι:=Nat,slots:=fun j=>[(9,.own 0),(36,zA j)],rows:=fun j=>[.own 2 1 (iE (i.p0.take j++List.replicate (i.l.length-j) 0))]},
 {ι:=Nat,slots:=fun j=>[(2,zA (i.q-(i.p0.take j).sum)),(58,zA j)],rows:=fun _=>[]},
 {ι:=Nat,slots:=fun j=>[(9,.own 0),(2,zA (i.q-i.p0.sum+(i.p0.take j).sum-(i.p1.take j).sum)),(68,zA j)],rows:=fun j=>[.own 2 1 (iE (i.p1.take j++i.p0.drop j))]}]
open Go Cv Go.Proofs
def g8 (a:Nat) (b:PlI):=(iE (List.take a b.p1++List.drop a b.p0))
def mU (a:Nat) (b:PlI):Prop:=0≤(↑a:Int)∧(↑a:Int)<(↑(g8 a b).length:Int)
def u7 (a:Nat) (b:PlI):=(List.take a b.p0++List.replicate (b.l.length-a) 0)
def uY (a:Nat) (b:PlI):=(iE (u7 a b))
def bU (a:Nat) (b:PlI):=(↑(uY a b).length:Int)
def z8c (i:PlI):Prop:=
 ∃(a:LqI),iE a.l=iE i.l∧a.q=i.q∧(j0 a)∧∀(b:Unit),True→cnd (!yS a.l a.q) (∃(c:Unit),iE (kR i)=[]∧True) (cnd (decide (i.least<1)) (∃(c:Unit),iE (kR i)=[]∧True) (∃(c:List Int),iE c=iE i.l∧(c.length≤1000∧∀(d:Int),d∈c→0≤d∧d≤1000000)∧∀(d:Unit),True→(0≤(↑(iE i.l).length:Int)∧(↑(iE i.l).length:Int)≤(↑(iE i.l).length:Int)∧(↑(iE i.l).length:Int)≤9223372036854775807∧(↑(8:Nat):Int)*(↑(iE i.l).length:Int)≤2 ^ (48:Nat))∧∃(e:Nat),(↑e:Int)=0∧iE (u7 e i)=List.replicate (↑(iE i.l).length:Int).toNat [dI 0]∧∃(f:Nat→Prop),∃(g:Nat→Nat),f e∧∀(h:Nat),f h→cnd (decide ((↑h:Int)<(↑(iE i.l).length:Int))) ((0≤(↑h:Int)∧(↑h:Int)<(↑(iE i.l).length:Int))∧∃(j:Int),zE (iE i.l) (↑h:Int).toNat 0 1=some [dI j]∧∃(k:ShI),k.a=j∧k.b=i.q∧k.c=c.sum∧(0≤k.a∧k.a≤(2000000000:Int)∧(0:Int)≤k.b∧k.b≤(2000000000:Int)∧(1:Int)≤k.c∧k.c≤2000000000)∧∀(l:Unit),True→cnd (decide (k.a*k.b / k.c≥i.least)) ((0≤(↑h:Int)∧(↑h:Int)<(bU h i))∧(↑h:Int).toNat<(uY h i).length∧∃(m:Nat),(↑m:Int)=IntKind.i64.wrap ((↑h:Int)+1)∧iE (u7 m i)=zT (uY h i) (↑h:Int).toNat 0 [dI (k.a*k.b / k.c)]∧f m∧g m<g h∧True) (∃(m:Nat),(↑m:Int)=IntKind.i64.wrap ((↑h:Int)+1)∧iE (u7 m i)=iE (u7 h i)∧f m∧g m<g h∧True)) (∃(j:Nat),i.q-(List.take j i.p0).sum=i.q∧(↑j:Int)=0∧∃(k:Nat→Prop),∃(l:Nat→Nat),k j∧∀(m:Nat),k m→cnd (decide ((↑m:Int)<(bU h i))) ((0≤(↑m:Int)∧(↑m:Int)<(bU h i))∧∃(n:Int),zE (uY h i) (↑m:Int).toNat 0 1=some [dI n]∧∃(p:Nat),i.q-(List.take p i.p0).sum=IntKind.i64.wrap (i.q-(List.take m i.p0).sum-n)∧(↑p:Int)=IntKind.i64.wrap ((↑m:Int)+1)∧k p∧l p<l m∧AObj.own 2 1 (uY h i)=AObj.own 2 1 (uY h i)) (∃(n:Nat),i.q-i.p0.sum+(List.take n i.p0).sum-(List.take n i.p1).sum=i.q-(List.take m i.p0).sum∧(↑n:Int)=0∧iE (List.take n i.p1++List.drop n i.p0)=iE (u7 h i)∧∃(p:Nat→Prop),∃(q:Nat→Nat),p n∧∀(r:Nat),p r→cnd (decide ((↑r:Int)<(bU h i))) ((0≤(↑r:Int)∧(↑r:Int)<(↑(iE i.l).length:Int))∧∃(s:Int),zE (iE i.l) (↑r:Int).toNat 0 1=some [dI s]∧(mU r i)∧∃(t:Int),zE (g8 r i) (↑r:Int).toNat 0 1=some [dI t]∧(mU r i)∧∃(u:Int),zE (g8 r i) (↑r:Int).toNat 0 1=some [dI u]∧(mU r i)∧(↑r:Int).toNat<(g8 r i).length∧∃(v:Nat),i.q-i.p0.sum+(List.take v i.p0).sum-(List.take v i.p1).sum=IntKind.i64.wrap (i.q-i.p0.sum+(List.take r i.p0).sum-(List.take r i.p1).sum-min (IntKind.i64.wrap (s-t)) (i.q-i.p0.sum+(List.take r i.p0).sum-(List.take r i.p1).sum))∧(↑v:Int)=IntKind.i64.wrap ((↑r:Int)+1)∧iE (List.take v i.p1++List.drop v i.p0)=zT (g8 r i) (↑r:Int).toNat 0 [dI (IntKind.i64.wrap (u+min (IntKind.i64.wrap (s-t)) (i.q-i.p0.sum+(List.take r i.p0).sum-(List.take r i.p1).sum)))]∧p v∧q v<q r∧True) (∃(s:Unit),iE (kR i)=iE (List.take r i.p1++List.drop r i.p0)∧True)))))
open Go Cv Go.Proofs
theorem lT:∀(z:List (Int×Int)) (q:Int),(j6 z q).length=z.length
 |[],_=>rfl
 |(n,x)::z,q=>by rw[j6,yWr,yWr,lT z]
theorem zLk:∀(z:List (Int×Int)) (q:Int) (j:Nat) (n x:Int),z[j]? =some (n,x)→(j6 z q)[j]? =some (x+min (n-x) (q+((z.map (·.2)).take j).sum-((j6 z q).take j).sum))
 |[],_,_,_,_,h=>by simp at h
 |(m,y)::z,q,0,n,x,h=>by simp at h;obtain⟨rfl,rfl⟩:=h;simp[j6]
 |(m,y)::z,q,j+1,n,x,h=>by
  rw[yYf]at h
  rw[j6,yYf,zLk z _ j n x h,yXw,yXx,yWz,yXw,yXx]
  congr 3;dsimp only;omega
theorem zGp:∀(z:List (Int×Int)) (q:Int) (j:Nat),0≤q→(∀y∈z,y.2≤y.1)→0≤q+((z.map (·.2)).take j).sum-((j6 z q).take j).sum∧q+((z.map (·.2)).take j).sum-((j6 z q).take j).sum≤q
 |[],q,j,h,_=>by simp[j6,h]
 |(m,y)::z,q,0,h,_=>by simp[h]
 |(m,y)::z,q,j+1,h,hb=>by
  have hm:=hb (m,y) yWp
  have:=zGp z (q-min (m-y) q) j (by dsimp only at hm;omega) (fun x hx=>hb x (yWq _ hx))
  rw[j6,yXw,yXx,yWz,yXw,yXx]
  dsimp only at hm ⊢
  omega
theorem z8x {k q S:Int} (hk:0≤k) (hq:0≤q) (hS:1≤S) (hqS:q≤S):0≤k*q / S∧k*q / S≤k:=by
 refine⟨Int.ediv_nonneg (y2u hk hq) (by omega),?_⟩
 have:k*q≤k*S:=y1k hqS hk
 exact Int.ediv_le_of_le_mul (by omega) this
theorem zNq {q S least:Int} (hq:0≤q) (hS:1≤S):∀(l:List Int),(∀x∈l,0≤x)→S*(l.map fun k=>if least≤k*q / S then k*q / S else 0).sum≤q*l.sum
 |[],_=>by simp
 |k::l,h=>by
  have ih:=zNq (least:=least) hq hS l (fun x hx=>h x (yWq _ hx))
  have hk:=h k yWp
  rw[yWz,yXx,yXx,Int.mul_add,Int.mul_add]
  have h1:S*(k*q / S)≤k*q:=by
   have:=Int.mul_ediv_add_emod (k*q) S
   have:=y1j (k*q) (show S≠0 by omega)
   omega
  have h2:0≤k*q:=y2u hk hq
  have h3:S*(if least≤k*q / S then k*q / S else 0)≤q*k:=by
   rw[y1w q k]
   split
   ·exact h1
   ·simpa using h2
  omega
theorem yCl {i:PlI} {j:Nat} {n:Int} (h:i.l[j]? =some n):i.p0[j]? =some (if i.least≤n*i.q / i.l.sum then n*i.q / i.l.sum else 0):=by
 rw[PlI.p0,zZe,yXr,h];rfl
theorem zYm (i:PlI):i.p0.length=i.l.length:=by simp[PlI.p0,zZe]
theorem z4b {l:List Int} {j m:Nat} {n:Int} (hl:l.length=m) (h:l[j]? =some n):(l.take j++List.replicate (m-j) 0).set j n=l.take (j+1)++List.replicate (m-(j+1)) 0:=by
 have hj:=(yWn.1 h).1
 rw[List.set_append_right _ _ (by rw[yXd];omega),yXd,show j-min j l.length=0 by omega,show m-j=(m-(j+1))+1 by omega,y0s,y2o,yXt,h]
 simp
theorem yDs {l:List Int} {j m:Nat} (hl:l.length=m) (hj:j<m):(l.take j++List.replicate (m-j) 0)[j]? =some 0:=by
 rw[yYg (by rw[yXd];omega),yXd,show j-min j l.length=0 by omega,show m-j=(m-(j+1))+1 by omega,y0s];rfl
theorem z8p {α:Type} {l:List α} {j:Nat} {x:α} (h:l[j]? =some x):l.set j x=l:=by
 obtain⟨h1,h2⟩:=yWn.1 h
 rw[← h2];exact List.set_getElem_self h1
theorem yPx {a b:List Int} {j:Nat} {x:Int} (ha:a.length=b.length) (h:b[j]? =some x):(a.take j++b.drop j)[j]? =some x:=by
 have hj:=(yWn.1 h).1
 rw[yYg (by rw[yXd];omega),yXd,show j-min j a.length=0 by omega,yYt]
 exact h
theorem yEt {a b:List Int} {j:Nat} {y:Int} (ha:a.length=b.length) (h:a[j]? =some y):(a.take j++b.drop j).set j y=a.take (j+1)++b.drop (j+1):=by
 have hj:=(yWn.1 h).1
 rw[List.set_append_right _ _ (by rw[yXd];omega),yXd,show j-min j a.length=0 by omega,yYo (by omega),y2o,yXt,h]
 simp
theorem zQv {l:List Int} {j:Nat} {x y:Int} (h:l[j]? =some x):zT (iE l) j 0 [D.v (.int .i64 y)]=iE (l.set j y):=yJ (f:=fun n:Int=>[D.v (.int .i64 n)]) h rfl
theorem zCm {i:PlI} (h:yS i.l i.q=true) (hne:0<i.l.length):1≤i.l.sum∧i.l.sum≤250000000∧(∀(j:Nat) (n x:Int),i.l[j]? =some n→i.p0[j]? =some x→0≤x∧x≤n)∧i.p0.sum≤i.q:=by
 obtain⟨h1,h2,h3,h4⟩:=kW h
 have hb:=jA (l:=i.l) (fun x hx=>by have:=h3 x hx;omega) i.l.length
 rw[y0a]at hb
 have hS:1≤i.l.sum:=by
  obtain⟨x,hx⟩:=yD (l:=i.l) (i:=0) hne
  have:=h3 x (yWt hx)
  cases hl:i.l with
  |nil=>rw[hl]at hne;exact absurd hne (Nat.lt_irrefl 0)
  |cons a r=>
   rw[hl]at hx;simp at hx;subst hx
   have hr:=jA (l:=r) (fun y hy=>by have:=h3 y (by rw[hl];exact yWq _ hy);omega) r.length
   rw[y0a]at hr
   rw[yXx];omega
 refine⟨hS,by omega,fun j n x hn hx=> ?_,?_⟩
 ·have hn1:=h3 n (yWt hn)
  have:=z8x (k:=n) (by omega) h2 hS h4
  rw[yCl hn]at hx
  cases hx
  split<;>omega
 ·have:=zNq (least:=i.least) h2 hS i.l (fun x hx=>by have:=h3 x hx;omega)
  have e:i.l.sum*i.p0.sum≤i.l.sum*i.q:=by rw[y1w i.l.sum i.q];exact this
  exact Int.le_of_mul_le_mul_left e (by omega)
theorem yNh (i:PlI) (h:plainC.cnd i):z8c i:=by
 obtain⟨hl,hq,hle⟩:i.l.length≤1000000∧yU i.q∧yU i.least:=h
 unfold z8c bU uY u7 mU g8 j0 dI
 refine⟨⟨i.l,i.q⟩,rfl,rfl,⟨hl,hq⟩,fun _ _=>Cv.cnd.mk (fun c=> ?_) (fun c=>zI (fun d=> ?_) (fun d=> ?_))⟩
 ·have c:yS i.l i.q=false:=by simpa using c
  refine⟨(),?_,trivial⟩
  rw[kR,yWj (by rw[c];simp)];rfl
 ·refine⟨(),?_,trivial⟩
  rw[kR,yWj (by omega)];rfl
 have c:yS i.l i.q=true:=by simpa using c
 have eS:kR i=i.p1:=by rw[kR,yWl ⟨c,by omega⟩]
 obtain⟨h1,h2,h3,h4⟩:=kW c
 have hq2:=zHn c
 have hp0:=zYm i
 have hzl:(i.l.zip i.p0).length=i.l.length:=by rw[List.length_zip,hp0];simp
 have hp1:i.p1.length=i.l.length:=by rw[PlI.p1,lT,hzl]
 have hz2:(i.l.zip i.p0).map (·.2)=i.p0:=by rw[List.map_snd_zip];omega
 have h64:i.l.length≤250:=h1
 have hrl:∀j,j≤i.l.length→(List.take j i.p0++List.replicate (i.l.length-j) 0).length=i.l.length:=by
  intro j hj;rw[yWi,yXd,yZm];omega
 simp only[xF]
 refine⟨i.l,rfl,⟨by omega,fun x hx=>by have:=h3 x hx;omega⟩,fun _ _=>⟨⟨by omega,by omega,by omega,by omega⟩,0,by(first|exact rfl|exact trivial),?_,fun j=>j≤i.l.length,fun j=>i.l.length-j,yYh _,fun j hj=>zI (fun e=> ?_) (fun e=> ?_)⟩⟩
 ·simp[iE]
 ·have hj':j<i.l.length:=by omega
  obtain⟨n,hn⟩:=yD (l:=i.l) (i:=j) hj'
  have bn:=h3 n (yWt hn)
  obtain⟨f1,f2,f3,f4⟩:=zCm c (by omega)
  have g:=yCl hn
  refine⟨⟨by omega,by omega⟩,n,elI hn,⟨n,i.q,i.l.sum⟩,rfl,rfl,rfl,⟨by dsimp only;omega,by dsimp only;omega,by dsimp only;omega,by dsimp only;omega,by dsimp only;omega,by dsimp only;omega⟩,fun _ _=>zI (fun a=> ?_) (fun a=> ?_)⟩
  ·have a:n*i.q / i.l.sum≥i.least:=a
   rw[yWl (by omega)]at g
   refine⟨⟨by omega,by rw[hrl j (by omega)];omega⟩,by rw[hrl j (by omega)];omega,j+1,wjn (by omega),?_,hj',by dsimp only;omega,trivial⟩
   rw[yXa,zQv (yDs hp0 hj'),z4b hp0 g]
  ·have a:¬n*i.q / i.l.sum≥i.least:=a
   rw[yWj (by omega)]at g
   refine⟨j+1,wjn (by omega),?_,hj',by dsimp only;omega,trivial⟩
   rw[← z4b hp0 g,z8p (yDs hp0 hj')]
 have hje:j=i.l.length:=by omega
 subst hje
 have eP:List.take i.l.length i.p0++List.replicate (i.l.length-i.l.length) 0=i.p0:=by rw[yWu (by omega)];simp
 rw[eP,hp0]
 have px:∀(k:Nat) (n x:Int),i.l[k]? =some n→i.p0[k]? =some x→0≤x∧x≤n:=fun k n x hn hx=>(zCm c (by have:=(yWn.1 hn).1;omega)).2.2.1 k n x hn hx
 have pb:∀x∈i.p0,0≤x∧x≤1000000:=by
  intro x hx
  obtain⟨k,hk⟩:=yZd.1 hx
  obtain⟨n,hn⟩:=yD (l:=i.l) (i:=k) (by have:=(yWn.1 hk).1;omega)
  have:=px k n x hn hk
  have:=h3 n (yWt hn)
  omega
 have pq:i.p0.sum≤i.q:=by
  by_cases hz:0<i.l.length
  ·exact(zCm c hz).2.2.2
  ·have:i.p0=[]:=yXn (by omega)
   rw[this];simpa using h2
 refine⟨0,by simp,by(first|exact rfl|exact trivial),fun k=>k≤i.l.length,fun k=>i.l.length-k,yYh _,fun k hk=>zI (fun e=> ?_) (fun e=> ?_)⟩
 ·have hk':k<i.l.length:=by omega
  obtain⟨x,hx⟩:=yD (l:=i.p0) (i:=k) (by omega)
  have bx:=pb x (yWt hx)
  have bs:=jA pb k
  refine⟨⟨by omega,by omega⟩,x,elI hx,k+1,?_,wjn (by omega),hk',by dsimp only;omega,k0q⟩
  rw[jO hx,w64 (by omega)];omega
 have hke:k=i.l.length:=by omega
 subst hke
 rw[yWu (l:=i.p0) (by omega)]
 refine⟨0,by simp,by(first|exact rfl|exact trivial),by simp,fun j=>j≤i.l.length,fun j=>i.l.length-j,yYh _,fun j hj=>zI (fun e=> ?_) (fun e=> ?_)⟩
 ·have hj':j<i.l.length:=by omega
  obtain⟨n,hn⟩:=yD (l:=i.l) (i:=j) hj'
  obtain⟨x,hx⟩:=yD (l:=i.p0) (i:=j) (by omega)
  have bn:=h3 n (yWt hn)
  have bx:=px j n x hn hx
  have hz:(i.l.zip i.p0)[j]? =some (n,x):=by rw[y1d];exact⟨hn,hx⟩
  have g:=zLk (i.l.zip i.p0) (i.q-i.p0.sum) j n x hz
  have r:=zGp (i.l.zip i.p0) (i.q-i.p0.sum) j (by omega) (fun y hy=>by
   obtain⟨k,hk⟩:=yZd.1 hy
   rw[y1d]at hk
   exact(px k y.1 y.2 hk.1 hk.2).2)
  rw[hz2]at g r
  have b0:=jA pb i.p0.length
  rw[y0a]at b0
  have hml:(List.take j i.p1++List.drop j i.p0).length=i.l.length:=by rw[yWi,yXd,yXg];omega
  have hma:=yPx (a:=i.p1) (b:=i.p0) (by omega) hx
  change i.p1[j]? =_ at g
  change 0≤_-(List.take j i.p1).sum∧_-(List.take j i.p1).sum≤_ at r
  change i.p1[j]? =some (x+min (n-x) (_-(List.take j i.p1).sum))at g
  rw[hml]
  refine⟨⟨by omega,by omega⟩,n,elI hn,⟨by omega,by omega⟩,x,elI hma,⟨by omega,by omega⟩,x,elI hma,⟨by omega,by omega⟩,by omega,?_⟩
  rw[w64 (x:=n-x) (by omega),w64 (x:=x+min (n-x) (i.q-i.p0.sum+(List.take j i.p0).sum-(List.take j i.p1).sum)) (by omega)]
  refine⟨j+1,?_,wjn (by omega),?_,hj',by dsimp only;omega,trivial⟩
  ·rw[jO hx,jO g,w64 (by omega)];omega
  ·rw[yXa,zQv hma,yEt (by omega) g]
 ·have hje:j=i.l.length:=by omega
  subst hje
  refine⟨(),?_,trivial⟩
  rw[eS,yWu (by omega),yZz (by omega),yXi]
theorem yCm:plainC.ok Tryz.prog 312:=okw mixed (gokc zBk (gokc yFy (gokc zOa gok0))) 0 (fun _=>[]) (fun i=>yOr i) [] Tryz.func312 yNh
open Go Cv Go.Proofs
structure RsI where
 l:List Int
 out:List Int
 least:Int
 q:Int
def RsI.idx (i:RsI) (k:Nat):List Nat:=(List.range k).filter fun n=>decide (i.out.getD n 0<i.l.getD n 0)
def RsI.left (i:RsI) (k:Nat):List Int:=(i.idx k).map fun n=>i.l.getD n 0-i.out.getD n 0
def RsI.pl (i:RsI):List Int:=kR ⟨i.left i.l.length,i.least,i.q⟩
def RsI.add (i:RsI) (k:Nat):List Int:=(((i.idx i.l.length).zip i.pl).take k).foldl (fun o y=>o.set y.1 (IntKind.i64.wrap (o.getD y.1 0+y.2))) i.out
def aP (i:RsI):List Int:=i.add i.pl.length
@[reducible] def RsI.ok (i:RsI):Prop:=i.l.length≤250∧i.out.length=i.l.length∧yU i.q∧yU i.least∧∀n,0≤i.out.getD n 0∧i.out.getD n 0≤i.l.getD n 0∧i.l.getD n 0≤1000000
def restC:Con:=con1 RsI (fun i=>[iV i.l,.own 0,zA i.least,zA i.q]) (fun i=>[.own 2 1 (iE i.out)]) RsI.ok (fun _=> .own 1) (fun i=>[.gone,.own 2 1 (iE (aP i))])
def yTj (i:RsI):List SAnn:=[
 {ι:=Nat,slots:=fun j=>[(9,.own 0),(10,.own 1),(16,zA j)],rows:=fun j=>[.own 2 1 (iE (i.left j)),.own 3 1 (iE ((i.idx j).map fun(n:Nat)=>(n:Int)))]},
 {ι:=Nat,slots:=fun k=>[(1,.own 0),(50,zA k)],rows:=fun k=>[.own 2 1 (iE (i.add k))]}]
structure zH where
 id:Int
 side:Int
 price:Int
 qty:Int
 top:Bool
 deriving DecidableEq
def wP (o:zH):List D:=[.v (.int .i64 o.id),.v (.int .i64 o.side),.v (.int .i64 o.price),.v (.int .i64 o.qty),.v (.bool o.top)]
@[reducible] def z5l (o:zH):V:= .agg [zA o.id,zA o.side,zA o.price,zA o.qty,yF o.top]
def topFC:Con:=con1 zH (fun o=>[z5l o]) (fun _=>[]) (fun _=>True) (fun o=>yF o.top) (fun _=>[])
def topI (l:List zH):Int:=zFw (l.findIdx? fun o=>o.top)
def idxOrdC:Con:=con1 (List zH) (fun l=>[roV 5 (l.map wP),.fn 288 [] []]) (fun _=>[]) (fun l=>l.length≤1000000) (fun l=>zA (topI l)) (fun _=>[])
def yIk (l:List zH):List SAnn:=[{ι:=Nat,slots:=fun j=>[(8,zA j)],rows:=fun _=>[]}]
open Go Cv Go.Proofs
def yJu (i:RsI):Prop:=
 ∃(a:Nat),(↑a:Int)=0∧iE (i.left a)=[]∧iE (List.map (fun(n:Nat) ↦ (↑n:Int)) (i.idx a))=[]∧∃(b:Nat→Prop),∃(c:Nat→Nat),b a∧∀(d:Nat),b d→cnd (decide ((↑d:Int)<(↑(iE i.l).length:Int))) ((0≤(↑d:Int)∧(↑d:Int)<(↑(iE i.l).length:Int))∧∃(e:Int),zE (iE i.l) (↑d:Int).toNat 0 1=some [dI e]∧(0≤(↑d:Int)∧(↑d:Int)<(↑(iE i.out).length:Int))∧∃(f:Int),zE (iE i.out) (↑d:Int).toNat 0 1=some [dI f]∧cnd (decide (e>f)) ((0≤(↑d:Int)∧(↑d:Int)<(↑(iE i.l).length:Int))∧∃(g:Int),zE (iE i.l) (↑d:Int).toNat 0 1=some [dI g]∧(0≤(↑d:Int)∧(↑d:Int)<(↑(iE i.out).length:Int))∧∃(h:Int),zE (iE i.out) (↑d:Int).toNat 0 1=some [dI h]∧((iE (i.left d)).length+1)*(8:Nat)≤(140737488355328:Nat)∧((iE (List.map (fun(g:Nat) ↦ (↑g:Int)) (i.idx d))).length+1)*(8:Nat)≤(140737488355328:Nat)∧∃(j:Nat),(↑j:Int)=IntKind.i64.wrap ((↑d:Int)+1)∧iE (i.left j)=iE (i.left d)++[[dI (IntKind.i64.wrap (g-h))]]∧iE (List.map (fun(g:Nat) ↦ (↑g:Int)) (i.idx j))=iE (List.map (fun(g:Nat) ↦ (↑g:Int)) (i.idx d))++[[dI (↑d:Int)]]∧b j∧c j<c d∧AObj.own 2 1 (iE i.out)=AObj.own 2 1 (iE i.out)) (∃(g:Nat),(↑g:Int)=IntKind.i64.wrap ((↑d:Int)+1)∧iE (i.left g)=iE (i.left d)∧iE (List.map (fun(e:Nat) ↦ (↑e:Int)) (i.idx g))=iE (List.map (fun(e:Nat) ↦ (↑e:Int)) (i.idx d))∧b g∧c g<c d∧AObj.own 2 1 (iE i.out)=AObj.own 2 1 (iE i.out))) (∃(e:PlI),iE e.l=iE (i.left d)∧e.least=i.least∧e.q=i.q∧(e.l.length≤1000000∧((-9223372036854775808)≤e.q∧e.q≤9223372036854775807)∧(-9223372036854775808)≤e.least∧e.least≤9223372036854775807)∧∀(f:Unit),True→∃(g:Nat),(↑g:Int)=0∧iE (i.add g)=iE i.out∧∃(h:Nat→Prop),∃(j:Nat→Nat),h g∧∀(k:Nat),h k→cnd (decide ((↑k:Int)<(↑(iE (kR e)).length:Int))) ((0≤(↑k:Int)∧(↑k:Int)<(↑(iE (kR e)).length:Int))∧∃(l:Int),zE (iE (kR e)) (↑k:Int).toNat 0 1=some [dI l]∧(0≤(↑k:Int)∧(↑k:Int)<(↑(iE (List.map (fun(l:Nat) ↦ (↑l:Int)) (i.idx d))).length:Int))∧∃(m:Int),zE (iE (List.map (fun(l:Nat) ↦ (↑l:Int)) (i.idx d))) (↑k:Int).toNat 0 1=some [dI m]∧(0≤m∧m<(↑(iE (i.add k)).length:Int))∧∃(n:Int),zE (iE (i.add k)) m.toNat 0 1=some [dI n]∧(0≤m∧m<(↑(iE (i.add k)).length:Int))∧m.toNat<(iE (i.add k)).length∧∃(p:Nat),(↑p:Int)=IntKind.i64.wrap ((↑k:Int)+1)∧iE (i.add p)=zT (iE (i.add k)) m.toNat 0 [dI (IntKind.i64.wrap (n+l))]∧h p∧j p<j k∧AObj.own 2 1 (iE (kR e))=AObj.own 2 1 (iE (kR e))∧AObj.fro 1 (iE (i.left d))=AObj.fro 1 (iE (i.left d))∧AObj.own 3 1 (iE (List.map (fun(l:Nat) ↦ (↑l:Int)) (i.idx d)))=AObj.own 3 1 (iE (List.map (fun(l:Nat) ↦ (↑l:Int)) (i.idx d)))) (∃(l:Unit),iE (aP i)=iE (i.add k)∧True))
def yKg (o:zH):Prop:=
 ∃(a:Unit),o.top=o.top∧True
def z2p (l:List zH):Prop:=
 ∃(a:Nat),(↑a:Int)=0∧∃(b:Nat→Prop),∃(c:Nat→Nat),b a∧∀(d:Nat),b d→cnd (decide ((↑d:Int)<(↑(List.map wP l).length:Int))) ((0≤(↑d:Int)∧(↑d:Int)<(↑(List.map wP l).length:Int))∧∃(e:Int),∃(f:Int),∃(g:Int),∃(h:Int),∃(j:Bool),zE (List.map wP l) (↑d:Int).toNat 0 5=some [dI e,dI f,dI g,dI h,D.v (.bool j)]∧∃(k:zH),k.id=e∧k.side=f∧k.price=g∧k.qty=h∧k.top=j∧True∧∀(m:Unit),True→cnd k.top (∃(n:Unit),topI l=(↑d:Int)∧True) (jB d b c)) (∃(e:Unit),topI l=(-1)∧True)
open Go Cv Go.Proofs
theorem yGh:topFC.ok Tryz.prog 288:=okw (V:=yKg) mixed gok0 0 (fun _=>[]) (fun _=>[]) [] Tryz.func288 fun(o:zH) _=>by
 unfold yKg
 exact⟨(),rfl,trivial⟩
theorem zYp (i:PlI):(kR i).length=i.l.length∨kR i=[]:=by
 rw[kR]
 split
 ·left;rw[PlI.p1,lT,List.length_zip,zYm];simp
 ·exact .inr rfl
theorem yMj {l:List zH} {k:Nat} {o:zH} (h:l[k]? =some o):zE (l.map wP) k 0 5=some [D.v (.int .i64 o.id),.v (.int .i64 o.side),.v (.int .i64 o.price),.v (.int .i64 o.qty),.v (.bool o.top)]:=elA h (by simp[wP]) rfl
theorem yFv (l:List zH) (h:idxOrdC.cnd l):z2p l:=by
 have h:l.length≤1000000:=h
 unfold z2p jB kI dI
 simp only[yWk]
 refine⟨0,rfl,fun j=>j≤l.length∧∀k<j,∀x,l[k]? =some x→x.top=false,fun j=>l.length-j,⟨by omega,fun k hk=>by omega⟩,?_⟩
 rintro j ⟨h3,h4⟩
 refine zI (fun hj=> ?_) (fun hj=> ?_)
 ·obtain⟨s,hs⟩:=yD (l:=l) (i:=j) (by omega)
  refine⟨⟨by omega,by omega⟩,s.id,s.side,s.price,s.qty,s.top,yMj hs,s,rfl,rfl,rfl,rfl,rfl,trivial,fun _ _=>Cv.cnd.mk (fun e=> ?_) (fun e=> ?_)⟩
  ·rw[topI,zFc hs e h4];(repeat'(first|exact rfl|exact trivial|assumption|apply And.intro|refine fun(_:Unit) (_:True)=>?_|refine Exists.intro () ?_|omega|(dsimp only;omega)))
  ·refine⟨j+1,by rw[w64 (by omega)];rfl,⟨by omega,fun k hk x hx=> ?_⟩,by(first|omega|(dsimp only;omega)),k0q⟩
   rcases yYy k j with hk'|hk'
   ·exact h4 k hk' x hx
   ·obtain rfl:k=j:=by omega
    rw[hs]at hx;cases hx;exact e
 ·rw[topI,zEc fun k x hx=>h4 k (by have:=(yWn.1 hx).1;omega) x hx];(repeat'(first|exact rfl|exact trivial|assumption|apply And.intro|refine fun(_:Unit) (_:True)=>?_|refine Exists.intro () ?_|omega|(dsimp only;omega)))
theorem z7d:idxOrdC.ok Tryz.prog 287:=okw mixed (gokc yGh gok0) 0 (fun _=>[]) (fun l=>yIk l) [] Tryz.func287 yFv
theorem z9u (i:RsI) (j:Nat):i.idx (j+1)=i.idx j++if i.out.getD j 0<i.l.getD j 0 then[j]else[]:=by
 rw[RsI.idx,y1i,y0n]
 by_cases h:i.out.getD j 0<i.l.getD j 0
 ·rw[yWl h,y1l (by simpa using h)];rfl
 ·rw[yWj h,y1m (by simpa using h)];rfl
theorem yMs (i:RsI) {k n:Nat} (h:n∈i.idx k):n<k:=by
 have:=(yYn.1 h).1
 exact yZl.1 this
theorem z2q (i:RsI) (k:Nat):(i.idx k).length≤k:=by
 have:=yZr (fun n=>decide (i.out.getD n 0<i.l.getD n 0)) (List.range k)
 rw[List.length_range]at this
 exact this
theorem zWy:∀(z:List (Nat×Int)) (o:List Int),(z.foldl (fun o y=>o.set y.1 (IntKind.i64.wrap (o.getD y.1 0+y.2))) o).length=o.length
 |[],_=>rfl
 |y::z,o=>by rw[yZw,zWy z,yXf]
theorem yRp (i:RsI) (h:restC.cnd i):yJu i:=by
 obtain⟨hl,ho,hq,hle,hb⟩:i.ok:=h
 unfold yJu dI
 simp only[xF,yWk]
 have hil:∀j,(i.left j).length=(i.idx j).length:=fun j=>yWk _
 refine⟨0,by(first|exact rfl|exact trivial),by(first|exact rfl|exact trivial),by(first|exact rfl|exact trivial),fun j=>j≤i.l.length,fun j=>i.l.length-j,yYh _,fun j hj=>zI (fun c=> ?_) (fun c=> ?_)⟩
 ·have hj':j<i.l.length:=by omega
  obtain⟨n,hn⟩:=yD (l:=i.l) (i:=j) hj'
  obtain⟨o,hoo⟩:=yD (l:=i.out) (i:=j) (by omega)
  have bj:=hb j
  rw[zR hn,zR hoo]at bj
  have is:=z9u i j
  rw[zR hn,zR hoo]at is
  have il:=z2q i j
  refine⟨⟨by omega,by omega⟩,n,elI hn,⟨by omega,by omega⟩,o,elI hoo,zI (fun a=> ?_) (fun a=> ?_)⟩
  ·rw[yWl (by omega)]at is
   refine⟨⟨by omega,by omega⟩,n,elI hn,⟨by omega,by omega⟩,o,elI hoo,by rw[hil];omega,by omega,j+1,wjn (by omega),?_,?_,hj',by dsimp only;omega,k0q⟩
   ·rw[w64 (by omega),RsI.left,is,yWv]
    simp[iE,RsI.left,hn,hoo]
   ·rw[is];simp[iE]
  ·rw[yWj (by omega),yXi]at is
   exact⟨j+1,wjn (by omega),by rw[RsI.left,is];rfl,by rw[is],hj',by dsimp only;omega,k0q⟩
 have hje:j=i.l.length:=by omega
 subst hje
 have il:=z2q i i.l.length
 refine⟨⟨i.left i.l.length,i.least,i.q⟩,rfl,rfl,rfl,⟨by dsimp only;rw[hil];omega,hq,hle⟩,fun _ _=> ?_⟩
 have epl:kR ⟨i.left i.l.length,i.least,i.q⟩=i.pl:=rfl
 rw[epl]
 have hpl:i.pl.length≤(i.idx i.l.length).length:=by
  rcases zYp ⟨i.left i.l.length,i.least,i.q⟩with e|e
  ·rw[epl]at e;rw[e];dsimp only;rw[hil];exact yXl _
  ·rw[epl]at e;rw[e];exact yYh _
 have hal:∀k,(i.add k).length=i.out.length:=fun k=>zWy _ _
 refine⟨0,by(first|exact rfl|exact trivial),by(first|exact rfl|exact trivial),fun k=>k≤i.pl.length,fun k=>i.pl.length-k,yYh _,fun k hk=>zI (fun c=> ?_) (fun c=> ?_)⟩
 ·have hk':k<i.pl.length:=by omega
  obtain⟨x,hx⟩:=yD (l:=i.pl) (i:=k) hk'
  obtain⟨n,hn⟩:=yD (l:=i.idx i.l.length) (i:=k) (by omega)
  have hnl:=yMs i (yWt hn)
  obtain⟨y,hy⟩:=yD (l:=i.add k) (i:=n) (by rw[hal];omega)
  have ea:i.add (k+1)=(i.add k).set n (IntKind.i64.wrap (y+x)):=by
   have hz:((i.idx i.l.length).zip i.pl)[k]? =some (n,x):=by rw[y1d];exact⟨hn,hx⟩
   have ey:(i.add k).getD n 0=y:=zR hy
   rw[RsI.add,yXt,hz,y0r]
   show(i.add k).set n (IntKind.i64.wrap ((i.add k).getD n 0+x))=_
   rw[ey]
  have hnm:((i.idx i.l.length).map fun(n:Nat)=>(n:Int))[k]? =some (n:Int):=by rw[yXr,hn];rfl
  rw[hal]
  refine⟨⟨by omega,by omega⟩,x,elI hx,⟨by omega,by omega⟩,n,elI hnm,⟨by omega,by omega⟩,y,elI hy,⟨by omega,by omega⟩,by omega,k+1,wjn (by omega),?_,hk',by dsimp only;omega,k0q⟩
  rw[ea,yXa,zQv hy]
 ·have hke:k=i.pl.length:=by omega
  subst hke
  exact⟨(),rfl,trivial⟩
theorem z3l:restC.ok Tryz.prog 306:=okw mixed (gokc yCm gok0) 0 (fun _=>[]) (fun i=>yTj i) [] Tryz.func306 yRp
open Go Cv Go.Proofs
structure PsI where
 l:List Int
 top:Int
 most:Int
 least:Int
 q:Int
def PsI.first (i:PsI):Int:=min (min (i.l.getD i.top.toNat 0) i.most) i.q
def PsI.rs (i:PsI):RsI:=if 0≤i.top∧i.top<i.l.length then⟨i.l,(List.replicate i.l.length 0).set i.top.toNat i.first,i.least,i.q-i.first⟩else⟨i.l,List.replicate i.l.length 0,i.least,i.q⟩
def zBf (i:PsI):List Int:=if yS i.l i.q=true∧1≤i.least∧0≤i.most then aP i.rs else[]
def proC:Con:=con1 PsI (fun i=>[iV i.l,zA i.top,zA i.most,zA i.least,zA i.q]) (fun _=>[]) (fun i=>i.l.length≤1000000∧yU i.q∧yU i.least∧yU i.most) (fun _=> .own 0) (fun i=>[.own 2 1 (iE (zBf i))])
structure SpI where
 l:List Int
 part:Int
 least:Int
 q:Int
def SpI.rs (i:SpI):RsI:=⟨i.l,uK i.l (i.q*i.part / 100),i.least,i.q-i.q*i.part / 100⟩
def lU (i:SpI):List Int:=if yS i.l i.q=true∧0≤i.part∧i.part≤100∧1≤i.least then aP i.rs else[]
def splC:Con:=con1 SpI (fun i=>[iV i.l,zA i.part,zA i.least,zA i.q]) (fun _=>[]) (fun i=>i.l.length≤1000000∧yU i.q∧yU i.least∧yU i.part) (fun _=> .own 0) (fun i=>[.own 2 1 (iE (lU i))])
open Go Cv Go.Proofs
def zBi (a:RsI):Prop:=a.l.length≤250∧a.out.length=a.l.length∧((-9223372036854775808)≤a.q∧a.q≤9223372036854775807)∧((-9223372036854775808)≤a.least∧a.least≤9223372036854775807)∧∀(b:Nat),0≤a.out.getD b 0∧a.out.getD b 0≤a.l.getD b 0∧a.l.getD b (0:Int)≤(1000000:Int)
def zRp (a:RsI) (b:PsI):Prop:=(zBi a)∧∀(c:Unit),True→∃(d:Unit),iE (zBf b)=iE (aP a)∧True
def zRs (a:PsI):Prop:=∃(b:RsI),iE b.l=iE a.l∧b.least=a.least∧b.q=a.q∧iE b.out=List.replicate (↑(iE a.l).length:Int).toNat [dI 0]∧zRp b a
def sB (a:PsI):=(List.replicate (↑(iE a.l).length:Int).toNat [dI 0])
def zJq (a:PsI) (b:Int):=(zT (sB a) a.top.toNat 0 [dI (min (min b a.most) a.q)])
def yQk (i:PsI):Prop:=
 ∃(a:LqI),iE a.l=iE i.l∧a.q=i.q∧(j0 a)∧∀(b:Unit),True→cnd (!yS a.l a.q) (∃(c:Unit),iE (zBf i)=[]∧True) (cnd (decide (i.least<1)) (∃(c:Unit),iE (zBf i)=[]∧True) (cnd (decide (i.most<0)) (∃(c:Unit),iE (zBf i)=[]∧True) ((0≤(↑(iE i.l).length:Int)∧(↑(iE i.l).length:Int)≤(↑(iE i.l).length:Int)∧(↑(iE i.l).length:Int)≤9223372036854775807∧(↑(8:Nat):Int)*(↑(iE i.l).length:Int)≤2 ^ (48:Nat))∧cnd (decide (i.top≥0)) (cnd (decide (i.top<(↑(iE i.l).length:Int))) ((0≤i.top∧i.top<(↑(iE i.l).length:Int))∧∃(c:Int),zE (iE i.l) i.top.toNat 0 1=some [dI c]∧(0≤i.top∧i.top<(↑(sB i).length:Int))∧i.top.toNat<(sB i).length∧(0≤i.top∧i.top<(↑(zJq i c).length:Int))∧∃(d:Int),zE (zJq i c) i.top.toNat 0 1=some [dI d]∧∃(e:RsI),iE e.l=iE i.l∧e.least=i.least∧e.q=IntKind.i64.wrap (i.q-d)∧iE e.out=zT (sB i) i.top.toNat 0 [dI (min (min c i.most) i.q)]∧zRp e i) (zRs i)) (zRs i))))
def yTc (i:SpI):Prop:=
 ∃(a:LqI),iE a.l=iE i.l∧a.q=i.q∧(j0 a)∧∀(b:Unit),True→cnd (!yS a.l a.q) (∃(c:Unit),iE (lU i)=[]∧True) (cnd (decide (i.part<0)) (∃(c:Unit),iE (lU i)=[]∧True) (cnd (decide (i.part>100)) (∃(c:Unit),iE (lU i)=[]∧True) (cnd (decide (i.least<1)) (∃(c:Unit),iE (lU i)=[]∧True) (∃(c:ShI),c.a=i.q∧c.b=i.part∧c.c=100∧(0≤c.a∧c.a≤(2000000000:Int)∧(0:Int)≤c.b∧c.b≤(2000000000:Int)∧(1:Int)≤c.c∧c.c≤2000000000)∧∀(d:Unit),True→∃(e:LqI),iE e.l=iE i.l∧e.q=c.a*c.b / c.c∧(j0 e)∧∀(f:Unit),True→∃(g:RsI),iE g.l=iE i.l∧g.least=i.least∧g.q=IntKind.i64.wrap (i.q-c.a*c.b / c.c)∧iE g.out=iE (uK e.l e.q)∧(zBi g)∧∀(h:Unit),True→∃(j:Unit),iE (lU i)=iE (aP g)∧True))))
end Sx
