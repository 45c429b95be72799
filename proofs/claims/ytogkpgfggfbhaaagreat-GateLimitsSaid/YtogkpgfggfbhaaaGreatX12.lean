/- Texts of ours, one behind the other: a walk that the kernel reckons, and contracts of functions. No condition. -/
import Derived.Test.YtogkpgfggfbhaaaGreatX11
namespace Sx
set_option linter.unusedVariables false
set_option maxRecDepth 100000
open Go Cv Go.Proofs
def wI (a:GdI):Prop:=(a.g.m.Rep a.p a.B a.U∧BOk a.p a.B)∧a.b.length≤1099511627776∧a.X=dX a.p a.B a.U a.g.W a.s a.b
def jB (a:GdI):=(↑(List.map uI a.X.O).length:Int)
def xJ (a:GdI):Prop:=(0:Int)≤(0:Int)∧0<(jB a)
def zRu (u:Unit):Prop:=
 ∃(a:Int),a=1∧True∧∀(b:Unit),True→∃(c:Prd),sb c.code=sb [(67:UInt8),(76:UInt8)]∧iE c.months=iE [(320:Int),(321:Int),(323:Int)]∧c.tick=5∧c.low=0∧c.high=1000∧c.wide=200∧c.rule=a∧c.top=4∧c.least=2∧c.part=40∧iE c.settle=iE [(500:Int),(505:Int),(490:Int)]∧(yC c)∧(∀(d:Unit),c.check=0→(1:Nat)≤(7:Nat)∧∃(e:GdI),e.s=0∧bE e.b=[[D.v (.int .u8 114)],[D.v (.int .u8 117)],[D.v (.int .u8 98)],[D.v (.int .u8 98)],[D.v (.int .u8 105)],[D.v (.int .u8 115)],[D.v (.int .u8 104)]]∧GtR e.g=GtR (Gt.mk (Mkt.mk c (gY c) []) [])∧(wI e)∧∀(f:Mkt),f.Rep e.p e.X.B e.X.U→∃(g:Cmd),g.kind=1∧g.id=7∧g.inst=0∧g.side=1∧g.price=5∧g.qty=3∧g.least=0∧g.time=1∧sb g.label=ByteArray.mk #[]∧(g.label=[]∧g.right=0)∧∀(h:Unit),True→∃(j:GdI),j.s=3∧bE j.b=bE g.enc∧GtR j.g=GtR (Gt.mk f e.X.W)∧(wI j)∧∀(k:Mkt),k.Rep j.p j.X.B j.X.U→∃(l:GtI),l.s=7∧GtR l.g=GtR (Gt.mk k j.X.W)∧True∧∀(m:Unit),True→cnd ((jB e)==1) ((xJ e)∧∃(n:Int),zE (List.map uI e.X.O) (Int.toNat 0) ((0:Nat)+(1:Nat)+0) 1=some [dI n]∧cnd (n==2) ((xJ e)∧∃(p:Int),zE (List.map uI e.X.O) (Int.toNat 0) ((0:Nat)+(1:Nat)+7) 1=some [dI p]∧cnd (p==31) (cnd ((jB j)==1) ((xJ j)∧∃(q:Int),zE (List.map uI j.X.O) (Int.toNat 0) ((0:Nat)+(0:Nat)) 1=some [dI q]∧cnd (q==3) ((xJ j)∧∃(r:Int),zE (List.map uI j.X.O) (Int.toNat 0) ((0:Nat)+(1:Nat)+0) 1=some [dI r]∧cnd (r==1) (cnd ((qU l.g.W l.s).fst==3) (cnd (qU l.g.W l.s).snd (∃(s:GtI),s.s=3∧GtR s.g=GtR l.g∧(s.g.m.Rep s.p s.B s.U∧BOk s.p s.B)∧∀(t:Unit),True→∃(v:Unit),true=((↑(fB s.B s.g.W s.s):Int)==1)∧True) (∃(s:Unit),true=false∧True)) (∃(s:Unit),true=false∧True)) (∃(s:Unit),true=false∧True)) (∃(r:Unit),true=false∧True)) (∃(q:Unit),true=false∧True)) (∃(q:Unit),true=false∧True)) (∃(p:Unit),true=false∧True)) (∃(n:Unit),true=false∧True))∧∀(d:Unit),c.check≠0→∃(e:Unit),true=false∧True
def zEq (a:Int):Prop:=AObj.fro 1 (iE [(500:Int),(505:Int),(490:Int)])=AObj.fro 1 (iE [(500:Int),(505:Int),(490:Int)])∧AObj.fro 1 (iE [(320:Int),(321:Int),(323:Int)])=AObj.fro 1 (iE [(320:Int),(321:Int),(323:Int)])∧Sx.AObj.cells [V.d (D.v (Value.string (sb [(67:UInt8),(76:UInt8)]))),V.own (0+((0:Nat)-(0:Nat))+1),V.d (dI 5),V.d (dI 0),V.d (dI 1000),V.d (dI 200),V.d (dI a),V.d (dI 4),V.d (dI 2),V.d (dI 40),V.own (0+((0:Nat)-(0:Nat))+(1:Nat)+(1:Nat))] 26=Sx.AObj.cells [V.d (D.v (Value.string (sb [(67:UInt8),(76:UInt8)]))),V.own (0+((0:Nat)-(0:Nat))+1),V.d (dI 5),V.d (dI 0),V.d (dI 1000),V.d (dI 200),V.d (dI a),V.d (dI 4),V.d (dI 2),V.d (dI 40),V.own (0+((0:Nat)-(0:Nat))+(1:Nat)+(1:Nat))] 26
def zUf (a:GdI) (b:Cmd) (c:Cmd) (d:Int):Prop:=AObj.own zUj 9 (List.map uI a.X.O)=AObj.own zUj 9 (List.map uI a.X.O)∧Sx.AObj.cells (jD (zHx (0+((0:Nat)-(0:Nat))+(1:Nat)+(1:Nat)+1+((1:Nat)-(0:Nat))+(1:Nat)+(1:Nat)+0+((0:Nat)-(0:Nat))+1) (kF [((0:Nat),0+((0:Nat)-(0:Nat))+(1:Nat)+(1:Nat)+1+((1:Nat)-(0:Nat))+(1:Nat)+(1:Nat)+0+((0:Nat)-(0:Nat)))] 0 [Sx.AObj.cells b.cells (36:TypeId)]) 1) c.cells) (36:TypeId)=Sx.AObj.cells (jD (zHx (0+((0:Nat)-(0:Nat))+(1:Nat)+(1:Nat)+1+((1:Nat)-(0:Nat))+(1:Nat)+(1:Nat)+0+((0:Nat)-(0:Nat))+1) (kF [((0:Nat),0+((0:Nat)-(0:Nat))+(1:Nat)+(1:Nat)+1+((1:Nat)-(0:Nat))+(1:Nat)+(1:Nat)+0+((0:Nat)-(0:Nat)))] 0 [Sx.AObj.cells b.cells (36:TypeId)]) 1) c.cells) (36:TypeId)∧zEq d
def zMv (a:Bool→Prop) (b:Bool) (c:GtI) (d:Mkt) (e:GdI) (f:Cmd) (g:Cmd) (h:Int):Prop:=a b∧GtR c.g=GtR (Gt.mk d e.X.W)∧zUf e f g h
def zTn (a:Bool→Prop) (b:GtI) (c:Mkt) (d:GdI) (e:Cmd) (f:Cmd) (g:Int):Prop:=∃(h:Bool),h=true∧zMv a h b c d e f g
def zNf (a:Int→Prop) (b:Int) (c:Mkt) (d:GdI) (e:Cmd) (f:Cmd) (g:Int):Prop:=a b∧GtR (Gt.mk c d.X.W)=GtR (Gt.mk c d.X.W)∧zUf d e f g
def zMd (a:Bool→Prop) (b:Bool) (c:Mkt) (d:GdI) (e:Int):Prop:=a b∧GtR (Gt.mk c d.X.W)=GtR (Gt.mk c d.X.W)∧AObj.own zUj 9 (List.map uI d.X.O)=AObj.own zUj 9 (List.map uI d.X.O)∧zEq e
def zUy (a:Bool→Prop) (b:Mkt) (c:GdI) (d:Int):Prop:=∃(e:Bool),e=true∧zMd a e b c d
def zTf (a:GnJ) (b:GnJ) (c:Mkt) (d:GdI) (e:GnJ→Prop) (f:GnJ→Nat) (g:Int):Prop:=(↑a.k:Int)=IntKind.i64.wrap ((↑b.k:Int)+1)∧GtR a.g=GtR (Gt.mk c d.X.W)∧e a∧f a<f b∧zEq g
def zVc (a:GnJ) (b:Int):Prop:=GtR a.g=GtR a.g∧zEq b
def zUb (a:Cmd→Prop) (b:Cmd) (c:GnJ) (d:Int):Prop:=a b∧zVc c d
def zSw (a:Bool→Prop) (b:Bool) (c:GnJ) (d:Int):Prop:=a b∧zVc c d
def Vgl (l:List AskM):Prop:=
 ∃(a:Int),a=1∧True∧∀(b:Unit),True→∃(c:Prd),sb c.code=sb [(67:UInt8),(76:UInt8)]∧iE c.months=iE [(320:Int),(321:Int),(323:Int)]∧c.tick=5∧c.low=0∧c.high=1000∧c.wide=200∧c.rule=a∧c.top=4∧c.least=2∧c.part=40∧iE c.settle=iE [(500:Int),(505:Int),(490:Int)]∧(yC c)∧(∀(d:Unit),c.check=0→∃(e:GnJ),(↑e.k:Int)=0∧GtR e.g=GtR (Gt.mk (Mkt.mk c (gY c) []) [])∧∃(f:GnJ→Prop),∃(g:GnJ→Nat),f e∧∀(h:GnJ),f h→cnd (decide ((↑h.k:Int)<69)) (∃(j:Cmd),j.kind=1∧j.id=IntKind.i64.wrap (1000+(↑h.k:Int))∧j.inst=0∧j.side=1∧j.price=5∧j.qty=1∧j.least=0∧j.time=1∧sb j.label=ByteArray.mk #[]∧(j.label=[]∧j.right=0)∧∀(k:Unit),True→∃(m:GdI),m.s=1∧bE m.b=bE j.enc∧GtR m.g=GtR h.g∧(wI m)∧∀(n:Mkt),n.Rep m.p m.X.B m.X.U→∃(p:Bool),∃(q:Bool→Prop),cnd ((jB m) !=1) (zUy q n m a) ((xJ m)∧∃(r:Int),zE (List.map uI m.X.O) (Int.toNat 0) ((0:Nat)+(1:Nat)+0) 1=some [dI r]∧cnd (!(r==1)==decide ((↑h.k:Int)<64)) (zUy q n m a) (cnd (decide ((↑h.k:Int)≥64)) ((xJ m)∧∃(s:Int),zE (List.map uI m.X.O) (Int.toNat 0) ((0:Nat)+(1:Nat)+7) 1=some [dI s]∧∃(t:Bool),t=(s !=30)∧zMd q t n m a) (∃(s:Bool),s=false∧zMd q s n m a)))∧∀(r:Bool),q r→cnd r (∃(s:Unit),true=false∧True) (∃(s:GnJ),zTf s h n m f g a)) (∃(j:GnJ),j.n=64∧(↑j.k:Int)=0∧GtR j.g=GtR h.g∧∃(k:GnJ→Prop),∃(m:GnJ→Nat),k j∧∀(n:GnJ),k n→∃(p:Bool),∃(q:Bool→Prop),cnd (decide ((↑n.k:Int)<(↑(List.map gaskE l).length:Int))) (∃(r:Bool),r=decide ((↑n.k:Int)<40)∧zSw q r n a) (∃(r:Bool),r=false∧zSw q r n a)∧∀(r:Bool),q r→cnd r ((0≤(↑n.k:Int)∧(↑n.k:Int)<(↑(List.map gaskE l).length:Int))∧∃(s:Int),zE (List.map gaskE l) (↑n.k:Int).toNat ((0:Nat)+(1:Nat)+1) 1=some [dI s]∧∃(t:WiI),t.n=s∧t.lo=0∧t.hi=63∧(((-9223372036854775808)≤t.n∧t.n≤9223372036854775807)∧(-1000000)≤t.lo∧t.lo≤t.hi∧t.hi≤1000000)∧∀(u:Unit),True→∃(v:Cmd),v.kind=2∧v.id=IntKind.i64.wrap (1000+kJ t.n t.lo t.hi)∧v.inst=0∧v.side=0∧v.price=0∧v.qty=0∧v.least=0∧v.time=0∧sb v.label=ByteArray.mk #[]∧∃(w:Cmd→Prop),((0≤(↑n.k:Int)∧(↑n.k:Int)<(↑(List.map gaskE l).length:Int))∧∃(x:Bool),zE (List.map gaskE l) (↑n.k:Int).toNat ((0:Nat)+(10:Nat)) 1=some [D.v (.bool x)]∧cnd x (∃(y:Cmd),y.kind=1∧y.id=IntKind.i64.wrap (5000+(↑n.k:Int))∧y.inst=0∧y.side=1∧y.price=5∧y.qty=1∧y.least=0∧y.time=1∧sb y.label=ByteArray.mk #[]∧zUb w y n a) (∃(y:Cmd),y.kind=v.kind∧y.id=v.id∧y.inst=v.inst∧y.side=v.side∧y.price=v.price∧y.qty=v.qty∧y.least=v.least∧y.time=v.time∧sb y.label=sb v.label∧zUb w y n a))∧∀(x:Cmd),w x→∃(y:Cmd),y.kind=x.kind∧y.id=x.id∧y.inst=x.inst∧y.side=x.side∧y.price=x.price∧y.qty=x.qty∧y.least=x.least∧y.time=x.time∧sb y.label=sb x.label∧(y.label=[]∧y.right=0)∧∀(z:Unit),True→∃(a_1:GdI),a_1.s=1∧bE a_1.b=bE y.enc∧GtR a_1.g=GtR n.g∧(wI a_1)∧∀(a_2:Mkt),a_2.Rep a_1.p a_1.X.B a_1.X.U→cnd ((jB a_1) !=1) (∃(a_3:Unit),true=false∧True) (∃(a_3:Int),∃(a_4:Int→Prop),((xJ a_1)∧∃(a_5:Int),zE (List.map uI a_1.X.O) (Int.toNat 0) ((0:Nat)+(1:Nat)+0) 1=some [dI a_5]∧cnd (a_5==1) (∃(a_6:Int),a_6=IntKind.i64.wrap (n.n+1)∧zNf a_4 a_6 a_2 a_1 v x a) (cnd (a_5==4) (∃(a_6:Int),a_6=IntKind.i64.wrap (n.n-1)∧zNf a_4 a_6 a_2 a_1 v x a) (∃(a_6:Int),a_6=n.n∧zNf a_4 a_6 a_2 a_1 v x a)))∧∀(a_5:Int),a_4 a_5→∃(a_6:Bool),∃(a_7:Bool→Prop),(∃(a_8:GtI),a_8.s=1∧GtR a_8.g=GtR (Gt.mk a_2 a_1.X.W)∧(a_8.g.m.Rep a_8.p a_8.B a_8.U∧BOk a_8.p a_8.B)∧∀(a_9:Unit),True→cnd ((↑(fB a_8.B a_8.g.W a_8.s):Int) !=a_5) (zTn a_7 a_8 a_2 a_1 v x a) (cnd (decide (a_5>64)) (zTn a_7 a_8 a_2 a_1 v x a) (cnd (x.kind==1) ((xJ a_1)∧∃(a_10:Int),zE (List.map uI a_1.X.O) (Int.toNat 0) ((0:Nat)+(1:Nat)+7) 1=some [dI a_10]∧(xJ a_1)∧∃(a_11:Int),zE (List.map uI a_1.X.O) (Int.toNat 0) ((0:Nat)+(1:Nat)+0) 1=some [dI a_11]∧∃(a_12:Bool),a_12=((a_10==30)==(a_11==1))∧zMv a_7 a_12 a_8 a_2 a_1 v x a) (∃(a_10:Bool),a_10=false∧zMv a_7 a_10 a_8 a_2 a_1 v x a))))∧∀(a_8:Bool),a_7 a_8→cnd a_8 (∃(a_9:Unit),true=false∧True) (∃(a_9:GnJ),a_9.n=a_5∧zTf a_9 n a_2 a_1 k m a))) (∃(s:GtI),s.s=0∧GtR s.g=GtR n.g∧(s.g.m.Rep s.p s.B s.U∧BOk s.p s.B)∧∀(t:Unit),True→cnd ((↑(fB s.B s.g.W s.s):Int)==0) (∃(u:Unit),True∧∀(v:Unit),True→∃(w:Unit),true=true∧True) (∃(u:Unit),true=false∧True))))∧∀(d:Unit),c.check≠0→∃(e:Unit),true=false∧True
theorem eqgl (l:List AskM):Vgl l=walk Tryz.prog ([(13,threeC),(14,newGC),(16,gdoC),(15,r6encC),(17,withinC),(18,gopenC),(19,known18C)]) 0 (glJ) (glA) [] Tryz.f3 (Tryz.f3.body.getD .skip) (glC.pat l) (glC.pre l) (glC.alts l):=by kernel_rfl
set_option linter.unusedSimpArgs false
open Go Cv Go.Proofs
theorem zOn {c:Cmd} (h:c.right=0):c.enc.length≤1099511627776:=by
 have e:c.enc=lob c.kind::(le c.id 8++c.tail):=by rw[Cmd.enc,yOh (by simp[h])]
 have ht:c.tail.length≤300:=by
  rw[Cmd.tail]
  split
  ·simp only[yOw,yOl,wB,pC,yPc];omega
  split
  ·rw[wB];omega
  split
  ·rw[yOl,wB,wB];omega
  ·exact yPv _
 rw[e,yOw,yOl,wB];omega
theorem zKk (id:Int):(fJ id).asks=fJ id:=rfl
theorem z1u (id:Int):(cD id).asks=cD id:=rfl
theorem zDn {p:Prd} {B:List (List zG)} (h:BWf p B) (U:List Int) {W:List (Int×Int)} {s:Int} {b:List UInt8}:BOk p (dX p B U W s b).B:=by
 rw[dX]
 split
 ·exact h.ok
 split
 ·exact h.ok
 rw[bY]
 split
 ·exact h.ok
 split
 ·exact h.ok
 ·exact yJn h U _
def kb18:Cmd:=⟨1,7,0,1,5,3,0,1,[]⟩
def kG1:GtX:=dX (vE 1) (List.replicate (vE 1).count []) [] [] 0 [114,117,98,98,105,115,104]
def kG2:GtX:=dX (vE 1) kG1.B kG1.U kG1.W 3 kb18.enc
theorem yOb:kG1.O=[(0,⟨2,0,0,0,0,0,0,31⟩)]:=by kernel_rfl
theorem yMr:kG2.O=[(3,⟨1,7,0,1,5,3,3,0⟩)]:=by kernel_rfl
theorem yNw:qU kG2.W 7=(3,true):=by kernel_rfl
theorem yNm:fB kG2.B kG2.W 3=1:=by kernel_rfl
theorem z4d (u:Unit) (h:known18C.cnd u):zRu u:=by
 have hc:(vE 1).check=0:=by decide+kernel
 have hp:(vE 1).small:=by refine⟨?_,?_,?_⟩<;>decide
 have hB0:=BOk.new hc hp
 have hM0:=zYu (vE 1)
 have hB1:BOk (vE 1) kG1.B:=zDn (hM0.s.wf hB0) _
 have hr:kb18.right=0:=by decide+kernel
 unfold zRu xJ jB wI yC dI
 refine⟨1,rfl,trivial,fun _ _=>⟨vE 1,rfl,rfl,rfl,rfl,rfl,rfl,rfl,rfl,rfl,rfl,rfl,hp,fun _ _=>⟨by decide,⟨⟨mk0 (vE 1),[]⟩,vE 1,List.replicate (vE 1).count [],[],0,[114,117,98,98,105,115,104],kG1⟩,rfl,rfl,rfl,⟨⟨hM0,hB0⟩,by dsimp only;decide,by dsimp only;rw[kG1]⟩,fun o1 ho1=>⟨kb18,rfl,rfl,rfl,rfl,rfl,rfl,rfl,rfl,rfl,⟨rfl,hr⟩,fun _ _=> ?_⟩⟩,fun _ hx=>absurd hc hx⟩⟩
 have hB2:BOk (vE 1) kG2.B:=zDn (ho1.s.wf hB1) _
 refine⟨⟨⟨o1,kG1.W⟩,vE 1,kG1.B,kG1.U,3,kb18.enc,kG2⟩,rfl,rfl,rfl,⟨⟨ho1,hB1⟩,zOn hr,by dsimp only;rw[kG2]⟩,fun o2 ho2=> ?_⟩
 dsimp only at ho2 ⊢
 rw[yOb,yMr]
 refine⟨⟨⟨o2,kG2.W⟩,vE 1,kG2.B,kG2.U,7⟩,rfl,rfl,trivial,fun _ _=> ?_⟩
 dsimp only
 rw[yNw]
 refine Cv.cnd.mk (fun _=>⟨⟨by decide,by decide⟩,_,rfl,Cv.cnd.mk (fun _=>⟨⟨by decide,by decide⟩,_,rfl,Cv.cnd.mk (fun _=>Cv.cnd.mk (fun _=>⟨⟨by decide,by decide⟩,_,rfl,Cv.cnd.mk (fun _=>⟨⟨by decide,by decide⟩,_,rfl,Cv.cnd.mk (fun _=>Cv.cnd.mk (fun _=>Cv.cnd.mk (fun _=>⟨⟨⟨o2,kG2.W⟩,vE 1,kG2.B,kG2.U,3⟩,rfl,rfl,⟨ho2,hB2⟩,fun _ _=>⟨(),?_,trivial⟩⟩) (fun e=>absurd e (by decide))) (fun e=>absurd e (by decide))) (fun e=>absurd e (by decide))⟩) (fun e=>absurd e (by decide))⟩) (fun e=>absurd e (by decide))) (fun e=>absurd e (by decide))⟩) (fun e=>absurd e (by decide))⟩) (fun e=>absurd e (by decide))
 dsimp only
 rw[yNm];rfl
theorem known18_ok:known18C.ok Tryz.prog 19:=okw mixed (gokc three_ok (gokc newG_ok (gokc gdo_ok (gokc r6enc_ok (gokc z2b (gokc gopen_ok gok0)))))) 0 (fun _=>[]) (fun _=>[]) [] Tryz.func19 z4d
theorem ol1 (o:Int×Rep):(0:Int)≤0∧(0:Int)<((List.map uI [o]).length:Nat):=⟨by decide,by simp⟩
theorem ol2 {o:Int×Rep} (h:((((List.map uI [o]).length:Nat):Int) !=1)=true):False:=by simp at h
theorem yEw {k:Nat} {lb:List (Int×Bool)} {U:List Int} {W:List (Int×Int)} (h:GL (min k 64) 0 lb U W) (hl:lb.length=min k 64) (hk:k<69):
 ∃lb' U' W' r,dX pp (BP (yO lb)) U W 1 (fJ (1000+k)).enc=⟨BP (yO lb'),U',W',[(1,r)]⟩∧GL (min (k+1) 64) 0 lb' U' W'∧lb'.length=min (k+1) 64∧(k<64∧r.kind=1∨64≤k∧r.kind=2∧r.why=30):=by
 rw[zEp (by omega) (mU (by omega)),zKk]
 by_cases c:k<64
 ·have e:min k 64=k:=by omega
  have e2:min (k+1) 64=k+1:=by omega
  rw[e]at h hl
  have hf:=h.fresh (id:=1000+k) (by omega) (.inr rfl)
  obtain⟨b,hb⟩:=h.room (by omega) (id:=1000+k) (by omega) hf
  exact⟨_,_,_,_,hb,by rw[e2];exact h.add (by omega) hf (.inr ⟨rfl,rfl,rfl⟩),by rw[yOl,hl,e2];rfl,.inl ⟨c,rfl⟩⟩
 ·have e:min k 64=64:=by omega
  have e2:min (k+1) 64=64:=by omega
  rw[e]at h hl
  exact⟨lb,U,W,_,h.full hl (1000+k),by rw[e2];exact h,by rw[hl,e2],.inr ⟨by omega,rfl,rfl⟩⟩
def m5 (a:AskM) (k:Nat):Cmd:=if a.raw=true then fJ (5000+k)else cD (1000+kJ a.c.id 0 63)
theorem yHo {a:AskM} {k:Nat} {lb:List (Int×Bool)} {U:List Int} {W:List (Int×Int)} (h:GL 64 k lb U W) (hk:k<40):
 ((m5 a k).label=[]∧(m5 a k).right=0)∧∃lb' U' W' r,dX pp (BP (yO lb)) U W 1 (m5 a k).enc=⟨BP (yO lb'),U',W',[(1,r)]⟩∧GL 64 (k+1) lb' U' W'∧
   (lb'.length:Int)=(if r.kind=1 then(lb.length:Int)+1 else if r.kind=4 then(lb.length:Int)-1 else(lb.length:Int))∧((m5 a k).kind=1→(r.why=30↔r.kind≠1)):=by
 rw[m5]
 split
 ·have hr:=mU (id:=5000+k) (by omega)
  refine⟨⟨rfl,hr⟩,?_⟩
  rw[zEp (by omega) hr,zKk]
  by_cases c:lb.length<64
  ·have hf:=h.fresh (id:=5000+k) (by omega) (.inl rfl)
   obtain⟨b,hb⟩:=h.room c (id:=5000+k) (by omega) hf
   exact⟨_,_,_,_,hb,h.add c hf (.inl ⟨rfl,rfl,rfl⟩),by rw[yOl];rfl,fun _=>by simp⟩
  ·have:=h.le
   exact⟨lb,U,W,_,h.full (by omega) _,h.later,rfl,fun _=>by simp⟩
 ·have hw:0≤kJ a.c.id 0 63∧kJ a.c.id 0 63≤63:=by rw[kJ];omega
  have hr:=tL (id:=1000+kJ a.c.id 0 63) (by omega)
  refine⟨⟨rfl,hr⟩,?_⟩
  rw[zEp (by omega) hr,z1u]
  rcases h.can (id:=1000+kJ a.c.id 0 63) (by omega) (by omega)with⟨lb',e1,e2,e3⟩|e1
  ·exact⟨lb',U,W,_,e1,e3.later,by dsimp only;rw[yOh (by decide),yOi rfl];omega,fun x=>absurd (show(2:Int)=1 from x) (by decide)⟩
  ·exact⟨lb,U,W,_,e1,h.later,rfl,fun x=>absurd (show(2:Int)=1 from x) (by decide)⟩
theorem elG {l:List AskM} {k:Nat} {a:AskM} (h:l[k]? =some a):zE (l.map gaskE) k 2 1=some [D.v (.int .i64 a.c.id)]∧zE (l.map gaskE) k 10 1=some [D.v (.bool a.raw)]:=⟨elA h (by simp[gaskE,cmdE]) rfl,elA h (by simp[gaskE,cmdE]) rfl⟩
theorem GL0:GL 0 0 [] [] []:=⟨List.nodup_nil,fun a h=>(by cases h),fun a h=>(by cases h),fun u h=>(by cases h),fun u h=>(by omega),yPv _⟩
theorem vgl (l:List AskM) (h:glC.cnd l):Vgl l:=by
 obtain⟨hok,hlen⟩:(∀a∈l,a.ok)∧l.length≤9223372036854775807:=h
 have hc:(vE 1).check=0:=by decide+kernel
 have hp:(vE 1).small:=by refine⟨?_,?_,?_⟩<;>decide
 have hB0:BOk pp (BP (yO [])):=by have:=BOk.new hc hp;rwa [show List.replicate (vE 1).count []=BP (yO [])from z7e]at this
 have hM0:(mk0 pp).Rep pp (BP (yO [])) []:=by have:=zYu pp;rwa [z7e]at this
 have hml:(List.map gaskE l).length=l.length:=yOm _
 unfold Vgl xJ jB wI zSw zUb zVc zTf zUy zMd zNf zTn zMv zUf zEq yC dI
 rw[hml]
 refine⟨1,rfl,trivial,fun _ _=>⟨vE 1,rfl,rfl,rfl,rfl,rfl,rfl,rfl,rfl,rfl,rfl,rfl,hp,fun _ _=> ?_,fun _ hx=>absurd hc hx⟩⟩
 refine⟨⟨⟨mk0 pp,[]⟩,0,0⟩,rfl,rfl,fun j=>j.k≤69∧∃lb U,j.g.m.Rep pp (BP (yO lb)) U∧BOk pp (BP (yO lb))∧GL (min j.k 64) 0 lb U j.g.W∧lb.length=min j.k 64,fun j=>69-j.k,⟨yPv _,[],[],hM0,hB0,GL0,rfl⟩,?_⟩
 rintro⟨⟨m,W⟩,k,n⟩ ⟨j1,lb,U,j2,j3,j4,j5⟩
 dsimp only at j1 j2 j4 j5 ⊢
 refine zI (fun e=> ?_) (fun e=> ?_)
 ·obtain⟨lb',U',W',r,e1,e2,e3,e4⟩:=yEw j4 j5 (by omega)
  have hr:=mU (id:=1000+k) (by omega)
  have hw:IntKind.i64.wrap (1000+(k:Int))=1000+k:=w64 (by omega)
  have hwf':BOk pp (BP (yO lb')):=by
   have:=(zDn (s:=1) (b:=(fJ (1000+k)).enc) (W:=W) (j2.s.wf j3) U)
   rwa [e1]at this
  refine⟨fJ (1000+k),rfl,hw.symm,rfl,rfl,rfl,rfl,rfl,rfl,rfl,⟨rfl,hr⟩,fun _ _=>⟨⟨⟨m,W⟩,pp,BP (yO lb),U,1,(fJ (1000+k)).enc,dX pp (BP (yO lb)) U W 1 (fJ (1000+k)).enc⟩,rfl,rfl,rfl,⟨⟨j2,j3⟩,zOn hr,rfl⟩,fun o ho=> ?_⟩⟩
  dsimp only at ho ⊢
  rw[e1]at ho ⊢
  dsimp only at ho ⊢
  refine⟨false,fun b=>b=false,Cv.cnd.mk (fun e5=>(ol2 e5).elim) (fun _=>⟨ol1 _,r.kind,rfl,?_⟩),?_⟩
  ·rcases e4 with⟨c1,c2⟩|⟨c1,c2,c3⟩
   ·rw[c2,yPd (by omega)]
    refine Cv.cnd.mk (fun e5=>absurd e5 (by decide)) (fun _=>zI (fun e6=>by omega) (fun _=>⟨false,rfl,rfl,by(repeat'(first|exact trivial|exact rfl|apply And.intro))⟩))
   ·rw[c2,yPa (by omega)]
    refine Cv.cnd.mk (fun e5=>absurd e5 (by decide)) (fun _=>zI (fun e6=>⟨ol1 _,r.why,rfl,_,rfl,by rw[c3];rfl,by(repeat'(first|exact trivial|exact rfl|apply And.intro))⟩) (fun e6=>by omega))
  ·rintro _ rfl
   exact Cv.cnd.mk (fun e5=>absurd e5 (by decide)) (fun _=>⟨⟨⟨o,W'⟩,k+1,n⟩,wjn (by omega),rfl,⟨by dsimp only;omega,lb',U',ho,hwf',e2,e3⟩,by dsimp only;omega,by(repeat'(first|exact trivial|exact rfl|apply And.intro))⟩)
 have hk:k=69:=by omega
 subst hk
 refine⟨⟨⟨m,W⟩,0,64⟩,rfl,rfl,rfl,fun j=>j.k≤40∧j.k≤l.length∧∃lb U,j.g.m.Rep pp (BP (yO lb)) U∧BOk pp (BP (yO lb))∧GL 64 j.k lb U j.g.W∧j.n=lb.length,fun j=>40-j.k,⟨yPv _,yPv _,lb,U,j2,j3,j4,by rw[j5];rfl⟩,?_⟩
 clear j1 j2 j3 j4 j5 e
 rintro⟨⟨m,W⟩,k,n⟩ ⟨j1,j0,lb,U,j2,j3,j4,j5⟩
 dsimp only at j0 j1 j2 j4 j5 ⊢
 refine⟨true,fun b=>b=decide (k<l.length∧k<40),zI (fun e=>⟨_,rfl,decide_eq_decide.2 ⟨fun x=>⟨by omega,by omega⟩,fun x=>by omega⟩,by(repeat'(first|exact trivial|exact rfl|apply And.intro))⟩) (fun e=>⟨false,rfl,(yPa fun x=>e (by omega)).symm,by(repeat'(first|exact trivial|exact rfl|apply And.intro))⟩),?_⟩
 rintro _ rfl
 refine zI (fun e=> ?_) (fun e=> ?_)
 ·obtain⟨e1,e2⟩:=e
  obtain⟨a,ha⟩:=z9 (l:=l) (i:=k) e1
  obtain⟨g1,g2⟩:=elG ha
  have hid:=(hok a (yOv ha)).2.2.1
  have hw:0≤kJ a.c.id 0 63∧kJ a.c.id 0 63≤63:=by rw[kJ];omega
  have hw1:IntKind.i64.wrap (1000+kJ a.c.id 0 63)=1000+kJ a.c.id 0 63:=w64 (by omega)
  have hw2:IntKind.i64.wrap (5000+(k:Int))=5000+k:=w64 (by omega)
  obtain⟨⟨q1,q2⟩,lb',U',W',r,q3,q4,q5,q6⟩:=yHo (a:=a) j4 e2
  have hwf':BOk pp (BP (yO lb')):=by
   have:=(zDn (s:=1) (b:=(m5 a k).enc) (W:=W) (j2.s.wf j3) U)
   rwa [q3]at this
  refine⟨⟨by omega,by omega⟩,a.c.id,g1,⟨a.c.id,0,63⟩,rfl,rfl,rfl,⟨hid,by dsimp only;decide,by dsimp only;decide,by dsimp only;decide⟩,fun _ _=> ?_⟩
  dsimp only
  rw[hw1]
  refine⟨cD (1000+kJ a.c.id 0 63),rfl,rfl,rfl,rfl,rfl,rfl,rfl,rfl,rfl,fun c=>c=m5 a k,⟨⟨by omega,by omega⟩,a.raw,g2,Cv.cnd.mk (fun e3=>⟨fJ (5000+k),rfl,hw2.symm,rfl,rfl,rfl,rfl,rfl,rfl,rfl,by rw[m5,yOi e3],by(repeat'(first|exact trivial|exact rfl|apply And.intro))⟩) (fun e3=>⟨cD (1000+kJ a.c.id 0 63),rfl,rfl,rfl,rfl,rfl,rfl,rfl,rfl,rfl,by rw[m5,yOh (by rw[e3];decide)],by(repeat'(first|exact trivial|exact rfl|apply And.intro))⟩)⟩,?_⟩
  rintro _ rfl
  refine⟨m5 a k,rfl,rfl,rfl,rfl,rfl,rfl,rfl,rfl,rfl,⟨q1,q2⟩,fun _ _=>⟨⟨⟨m,W⟩,pp,BP (yO lb),U,1,(m5 a k).enc,dX pp (BP (yO lb)) U W 1 (m5 a k).enc⟩,rfl,rfl,rfl,⟨⟨j2,j3⟩,zOn q2,rfl⟩,fun o ho=> ?_⟩⟩
  dsimp only at ho ⊢
  rw[q3]at ho ⊢
  dsimp only at ho ⊢
  refine Cv.cnd.mk (fun e5=>(ol2 e5).elim) (fun _=>⟨0,fun x=>x=lb'.length,⟨ol1 _,r.kind,rfl,?_⟩,?_⟩)
  ·have:=j4.le
   rw[j5]
   refine Cv.cnd.mk (fun e5=> ?_) (fun e5=>Cv.cnd.mk (fun e6=> ?_) (fun e6=> ?_))
   ·rw[yOi (by simpa using e5)]at q5
    exact⟨_,rfl,by rw[q5];exact w64 (by omega),by(repeat'(first|exact trivial|exact rfl|apply And.intro))⟩
   ·rw[yOh (by simpa using e5),yOi (by simpa using e6)]at q5
    exact⟨_,rfl,by rw[q5];exact w64 (by omega),by(repeat'(first|exact trivial|exact rfl|apply And.intro))⟩
   ·rw[yOh (by simpa using e5),yOh (by simpa using e6)]at q5
    exact⟨_,rfl,q5.symm,by(repeat'(first|exact trivial|exact rfl|apply And.intro))⟩
  rintro _ rfl
  have hle:=q4.le
  refine⟨false,fun b=>b=false,⟨⟨⟨o,W'⟩,pp,BP (yO lb'),U',1⟩,rfl,rfl,⟨ho,hwf'⟩,fun _ _=> ?_⟩,?_⟩
  ·dsimp only
   rw[q4.open1]
   refine Cv.cnd.mk (fun e5=>absurd e5 (by simp)) (fun _=>zI (fun e6=>by omega) (fun _=>Cv.cnd.mk (fun e6=>⟨ol1 _,r.why,rfl,ol1 _,r.kind,rfl,_,rfl,?_,by(repeat'(first|exact trivial|exact rfl|apply And.intro))⟩) (fun _=>⟨false,rfl,rfl,by(repeat'(first|exact trivial|exact rfl|apply And.intro))⟩)))
   have q7:=q6 (by simpa using e6)
   by_cases c:r.kind=1
   ·have:¬r.why=30:=fun x=>(q7.1 x) c
    simp[c,this]
   ·simp[c,q7.2 c]
  ·rintro _ rfl
   exact Cv.cnd.mk (fun e5=>absurd e5 (by decide)) (fun _=>⟨⟨⟨o,W'⟩,k+1,lb'.length⟩,rfl,wjn (by omega),rfl,⟨by dsimp only;omega,by dsimp only;omega,lb',U',ho,hwf',q4,rfl⟩,by dsimp only;omega,by(repeat'(first|exact trivial|exact rfl|apply And.intro))⟩)
 ·refine⟨⟨⟨m,W⟩,pp,BP (yO lb),U,0⟩,rfl,rfl,⟨j2,j3⟩,fun _ _=> ?_⟩
  dsimp only
  rw[j4.open0]
  exact Cv.cnd.mk (fun _=>⟨(),trivial,fun _ _=>⟨(),rfl,trivial⟩⟩) (fun e5=>absurd e5 (by decide))
end Sx
