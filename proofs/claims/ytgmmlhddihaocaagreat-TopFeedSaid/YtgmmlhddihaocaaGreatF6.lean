/- Texts of ours. No condition. -/
import Derived.Test.YtgmmlhddihaocaaGreatF5
set_option linter.all false
open Go.IntKind renaming i64->ab
open List renaming map->ac,take->ae,headD_cons->af,tail_cons->ag,drop->aj,range->ak
open Sx.fj renaming ra->am,cells->ao,own->ap,jz->aq,kg->ar,iter->au,map->av
open Exists renaming intro->aw
open And renaming intro->ax
open Bool renaming true->ay,false->az
open Go.Value renaming int->ba,string->bc
open Option renaming some->be,none->bg
open Go.Utf8 renaming decode->bo
namespace Sx
set_option maxRecDepth 100000
open Go Cv Go.Proofs
def He:fy:=fi Ej (λi=>[zB i.side,zB i.x,zB i.y]) (λ_=>[]) (λ_=>True) (λi=>yL (je i.side i.x i.y)) (λ_=>[])
@[reducible] def xDd (s:Slot):V:= .agg [yL s.used,zB s.n,zB s.id,zB s.dr,yL s.top,zB s.queue,zB s.ahead,zB s.back]
def MN:fy:=fi Slot (λs=>[xDd s]) (λ_=>[]) (λ_=>True) (λs=>yL (!s.used)) (λ_=>[])
def jL (l:List Slot):Int:=Jn (l.findIdx? λs=> !s.used)
def B4:fy:=fi (List Slot) (λ_=>[.own 0,.fn 255 [] []]) (λl=>[.own 314 8 (l.map zT)]) (λl=>l.length<=1000000) (λl=>zB (jL l)) (λl=>[.own 314 8 (l.map zT)])
def yMu (l:List Slot):List gm:=[{ι:=Nat,du:=λj=>[(8,zB j)],rows:=λ_=>[]}]
def nX:aK:=⟨-1,-1,0,0⟩
def dv.rq (a:dv):dv:={a with dy:=a.dy++[nX]}
def Nb:fy:=fi dv (λ_=>[.nm 0 0]) (λa=>[wR a]) (λa=>a.dy.length<=1000000) (λa=>zB a.dy.length) (λa=>[wR a.rq])
structure NO where
 a:dv
 n:Int
 t:Bool
def dv.iu (a:dv) (n:Int):Bool:=decide (0<=n) && (decide (n<a.du.length) && (a.du.getD n.toNat iB).used)
def dv.mf (a:dv) (n:Int) (t:Bool):dv:=if a.iu n=ay then{a with du:=a.du.modify n.toNat λs=>{s with top:=t}}else a
def KU:fy:=fi NO (λi=>[.nm 0 0,zB i.n,yL i.t]) (λi=>[wR i.a]) (λi=>i.a.du.length<=1000000) (λi=>zB (if i.a.iu i.n=ay then 0 else 26)) (λi=>[wR (i.a.mf i.n i.t)])
structure DB where
 a:dv
 n:Int
 id:Int
 dr:Int
 top:Bool
def dv.put (a:dv) (n id dr:Int) (top:Bool):dv:=
 let q:=a.dy.getD n.toNat nX
 let k:=jL a.du
 let sl:=a.du.set k.toNat ⟨ay,k,id,dr,top,n,q.last,-1⟩
 ⟨if q.last= -1 then sl else sl.modify q.last.toNat λs=>{s with back:=k},a.dy.set n.toNat ⟨if q.last= -1 then k else q.first,k,ab.wrap (q.total+dr),ab.wrap (q.count+1)⟩,ab.wrap (a.free-1)⟩
def dv.push (a:dv) (n id dr:Int) (top:Bool):dv×Int×Int:=
 if n<0\/a.dy.length<=n then(a,0,26)else if dr<1\/1000000<dr then(a,0,24)else if a.free=0 then(a,0,13)else(a.put n id dr top,jL a.du,0)
def dv.fit (a:dv):Prop:=a.du.length<=1000000/\(a.free≠0->∃s∈a.du,s.used=az)/\∀q∈a.dy,q.last= -1\/(0<=q.last/\q.last<a.du.length)
def G0:fy:=fi DB (λi=>[.nm 0 0,zB i.n,zB i.id,zB i.dr,yL i.top]) (λi=>[wR i.a]) (λi=>i.a.fit) (λi=> .iZ [zB (i.a.push i.n i.id i.dr i.top).2.1,zB (i.a.push i.n i.id i.dr i.top).2.2]) (λi=>[wR (i.a.push i.n i.id i.dr i.top).1])
@[reducible] def Jl (b:dq):List fj:=[zS b 0,zS b 1,zS b 2,zS b 3,zS b 4,zS b 5]
structure oH where
 b:dq
 dm:Int
def z8 (s:Int) (l:List xV) (dm:Int):Nat:=(l.takeWhile λr=>je s r.dm dm).length
def jV (s:Int) (l:List xV) (dm:Int):Bool:=match l[z8 s l dm]? with
 |some r=>decide (r.dm=dm)
 |none=>az
def dq.dz (b:dq) (s:Int):List xV:=if s=1 then b.fm else b.ej
def yUa (s:Int):fy:=fi oH (λi=>[.nm 0 0,zB s,zB i.dm]) (λi=>Jl i.b) (λi=>i.b.small) (λi=> .iZ [zB (z8 s (i.b.dz s) i.dm),yL (jV s (i.b.dz s) i.dm)]) (λi=>Jl i.b)
def GH:fy:=yUa 1
def GG:fy:=yUa 2
def y0y:List gm:=[{ι:=Nat,du:=λj=>[(9,zB j)],rows:=λ_=>[]}]
def km (l:List (Int×Place)) (k:Int):Option Place:=(l.find? λx=>decide (x.1=k)).map (·.2)
def tF (k:Int) (v:Place):List (Int×Place)->List (Int×Place)
 |[]=>[(k,v)]
 |(a,b)::l=>if k=a then(a,v)::l else(a,b)::tF k v l
structure CK where
 b:dq
 id:Int
def dq.ml (b:dq) (s:Int):Bool:=if s=1 then b.gp else b.gl
def dq.iX (b:dq) (s:Int):Int:=if s=1 then b.iH else b.iG
def dq.iQ (b:dq) (s:Int):dv:=if b.ml s=ay then(match km b.at_ (b.iX s)with
 |some o=>if o.side=s then b.a.mf o.slot az else b.a
 |none=>b.a)else b.a
def dq.jd (b:dq) (id s:Int):dq:=if s=1 then{b with a:=b.iQ s,iH:=id,gp:=ay}else{b with a:=b.iQ s,iG:=id,gl:=ay}
def yQc (s:Int):fy:=fi CK (λi=>[.nm 0 0,zB i.id,zB s]) (λi=>Jl i.b) (λi=>i.b.small) (λ_=>pL) (λi=>Jl (i.b.jd i.id s))
def GB:fy:=yQc 1
def GA:fy:=yQc 2
def dq.iO (b:dq):Int×List Int×dv:=if b.spare.length=0 then(b.a.dy.length,b.spare,b.a.rq)else(b.spare.getD (b.spare.length-1) 0,b.spare.take (b.spare.length-1),b.a)
def dq.ins (b:dq) (s dm:Int):List xV:=(b.dz s).take (z8 s (b.dz s) dm)++⟨dm,b.iO.1⟩::(b.dz s).drop (z8 s (b.dz s) dm)
def dq.fw (b:dq) (s dm:Int):dq×Int:=
 if jV s (b.dz s) dm=ay then(b,((b.dz s).getD (z8 s (b.dz s) dm) ⟨0,0⟩).queue)
 else(if s=1 then{b with a:=b.iO.2.2,fm:=b.ins s dm,spare:=b.iO.2.1}else{b with a:=b.iO.2.2,ej:=b.ins s dm,spare:=b.iO.2.1},b.iO.1)
def yXn (b:dq):fj:= .cells [.nm 1 0,.own 6,.own 3,.mp 4,zB b.iH,zB b.iG,.own 7,yL b.gp,yL b.gl] 273
def yYu (b:dq):fj:= .cells [.nm 1 0,.own 2,.own 6,.mp 4,zB b.iH,zB b.iG,.own 7,yL b.gp,yL b.gl] 273
@[reducible] def y5k (b:dq):List fj:=[yXn b,zS b 1,.gone,zS b 3,zS b 4,.gone,zS b 2,zS b 5]
@[reducible] def y5v (b:dq):List fj:=[yYu b,zS b 1,zS b 2,.gone,zS b 4,.gone,zS b 3,zS b 5]
@[reducible] def dq.fit (b:dq):Prop:=b.a.fit/\b.a.dy.length<=100000/\b.fm.length<=100000/\b.ej.length<=100000/\b.spare.length<=100000
def DQ:fy:=fi oH (λi=>[.nm 0 0,zB 1,zB i.dm]) (λi=>Jl i.b) (λi=>i.b.fit) (λi=>zB (i.b.fw 1 i.dm).2) (λi=>y5k (i.b.fw 1 i.dm).1)
def DP:fy:=fi oH (λi=>[.nm 0 0,zB 2,zB i.dm]) (λi=>Jl i.b) (λi=>i.b.fit) (λi=>zB (i.b.fw 2 i.dm).2) (λi=>y5v (i.b.fw 2 i.dm).1)
def TN:fy:=NS 276 2 16
def z5f (i:Ej):Prop:=
 dp (i.side==1) (dx (je i.side i.x i.y=decide (i.x>i.y)/\True)) (dx (je i.side i.x i.y=decide (i.x<i.y)/\True))
def yTk (s:Slot):Prop:=
 dx ((!s.used)=!s.used/\True)
def z3h (l:List Slot):Prop:=
 ∃(a:Nat),(↑a:Int)=0/\∃(b:Nat->Prop),∃(c:Nat->Nat),b a/\∀(d:Nat),b d->dp (decide ((↑d:Int)<(↑(ac zT l).length:Int))) ((0<=(↑d:Int)/\(↑d:Int)<(↑(ac zT l).length:Int))/\∃(e:Bool),∃(f:Int),∃(g:Int),∃(h:Int),∃(j:Bool),∃(k:Int),∃(m:Int),∃(n:Int),zD (ac zT l) (↑d:Int).toNat 0 8=be [D.v (.bool e),dI f,dI g,dI h,D.v (.bool j),dI k,dI m,dI n]/\∃(p:Slot),p.used=e/\p.n=f/\p.id=g/\p.dr=h/\p.top=j/\p.queue=k/\p.ahead=m/\p.back=n/\True/\fa (dp (!p.used) (dx (jL l=(↑d:Int)/\dl (ac zT l)/\True)) (∃(r:Nat),QP r d b c (dl (ap 314 8 (ac zT l)))))) (dx (jL l=(-1)/\dl (ac zT l)/\True))
def yLn (a:dv):Prop:=
 ((ac zR a.dy).length+1)*(32:Nat)<=(140737488355328:Nat)/\dx ((↑a.dy.length:Int)=ab.wrap ((↑(ac zR a.dy++[[dI (-1),dI (-1),dI 0,dI 0]]).length:Int)-1)/\dl a.free/\dl (ac zT a.du)/\ac zR (a.dy++[nX])=ac zR a.dy++[[dI (-1),dI (-1),dI 0,dI 0]]/\True)
def VQ (a:NO):Prop:=dx ((if a.a.iu a.n=ay then(0:Int)else(26:Int))=26/\(a.a.mf a.n a.t).free=a.a.free/\ac zT (a.a.mf a.n a.t).du=ac zT a.a.du/\ac zR (a.a.mf a.n a.t).dy=ac zR a.a.dy/\True)
def y1b (i:NO):Prop:=
 dp (decide (i.n<0)) (VQ i) (dp (decide (i.n>=(↑(ac zT i.a.du).length:Int))) (VQ i) ((0<=i.n/\i.n<(↑(ac zT i.a.du).length:Int))/\∃(a:Bool),zD (ac zT i.a.du) i.n.toNat 0 1=be [D.v (.bool a)]/\dp (!a) (VQ i) ((0<=i.n/\i.n<(↑(ac zT i.a.du).length:Int))/\i.n.toNat<(ac zT i.a.du).length/\dx ((if i.a.iu i.n=ay then(0:Int)else(26:Int))=0/\(i.a.mf i.n i.t).free=i.a.free/\ac zT (i.a.mf i.n i.t).du=zJ (ac zT i.a.du) i.n.toNat 4 [D.v (.bool i.t)]/\ac zR (i.a.mf i.n i.t).dy=ac zR i.a.dy/\True))))
def yN (a:DB):=(a.a.push a.n a.id a.dr a.top)
def tT (a:DB):Prop:=(yN a).fst.free=a.a.free/\ac zT (yN a).fst.du=ac zT a.a.du/\ac zR (yN a).fst.dy=ac zR a.a.dy/\True
def zFo (a:DB):Prop:=dx ((yN a).snd.fst=0/\(yN a).snd.snd=26/\tT a)
def zFt (a:DB):Prop:=dx ((yN a).snd.fst=0/\(yN a).snd.snd=24/\tT a)
def lZ (a:DB) (b:List Slot):=(zJ (zJ (ac zR a.a.dy) a.n.toNat 0 [dI (jL b)]) a.n.toNat 1 [dI (jL b)])
def lY (a:DB) (b:List Slot) (c:Int):=(zJ (lZ a b) a.n.toNat 2 [dI (ab.wrap (c+a.dr))])
def lE (a:DB) (b:List Slot):=(zJ (ac zR a.a.dy) a.n.toNat 1 [dI (jL b)])
def lN (a:DB) (b:List Slot) (c:Int):=(zJ (lE a b) a.n.toNat 2 [dI (ab.wrap (c+a.dr))])
def yLx (i:DB):Prop:=
 dp (decide (i.n>=0)) (dp (!decide (i.n<(↑(ac zR i.a.dy).length:Int))) (zFo i) (dp (decide (i.dr<1)) (zFt i) (dp (decide (i.dr>1000000)) (zFt i) (dp (i.a.free==0) (dx ((yN i).snd.fst=0/\(yN i).snd.snd=13/\tT i)) (∃(a:List Slot),ac zT a=ac zT i.a.du/\a.length<=1000000/\fa ((0<=i.n/\i.n<(↑(ac zR i.a.dy).length:Int))/\∃(c:Int),zD (ac zR i.a.dy) i.n.toNat 1 1=be [dI c]/\(0<=jL a/\jL a<(↑(ac zT a).length:Int))/\(jL a).toNat<(ac zT a).length/\∃(d:Int),zD (ac zR i.a.dy) i.n.toNat 1 1=be [dI d]/\dp (d==(-1)) (i.n.toNat<(ac zR i.a.dy).length/\i.n.toNat<(zJ (ac zR i.a.dy) i.n.toNat 0 [dI (jL a)]).length/\∃(e:Int),zD (lZ i a) i.n.toNat 2 1=be [dI e]/\i.n.toNat<(lZ i a).length/\∃(f:Int),zD (lY i a e) i.n.toNat 3 1=be [dI f]/\i.n.toNat<(lY i a e).length/\dx ((yN i).snd.fst=jL a/\(yN i).snd.snd=0/\(yN i).fst.free=ab.wrap (i.a.free-1)/\ac zT (yN i).fst.du=zJ (ac zT a) (jL a).toNat 0 [D.v (.bool ay),dI (jL a),dI i.id,dI i.dr,D.v (.bool i.top),dI i.n,dI c,dI (-1)]/\ac zR (yN i).fst.dy=zJ (lY i a e) i.n.toNat 3 [dI (ab.wrap (f+1))]/\True)) (∃(e:Int),zD (ac zR i.a.dy) i.n.toNat 1 1=be [dI e]/\(0<=e/\e<(↑(zJ (ac zT a) (jL a).toNat 0 [D.v (.bool ay),dI (jL a),dI i.id,dI i.dr,D.v (.bool i.top),dI i.n,dI c,dI (-1)]).length:Int))/\e.toNat<(zJ (ac zT a) (jL a).toNat 0 [D.v (.bool ay),dI (jL a),dI i.id,dI i.dr,D.v (.bool i.top),dI i.n,dI c,dI (-1)]).length/\i.n.toNat<(ac zR i.a.dy).length/\∃(f:Int),zD (lE i a) i.n.toNat 2 1=be [dI f]/\i.n.toNat<(lE i a).length/\∃(g:Int),zD (lN i a f) i.n.toNat 3 1=be [dI g]/\i.n.toNat<(lN i a f).length/\dx ((yN i).snd.fst=jL a/\(yN i).snd.snd=0/\(yN i).fst.free=ab.wrap (i.a.free-1)/\ac zT (yN i).fst.du=zJ (zJ (ac zT a) (jL a).toNat 0 [D.v (.bool ay),dI (jL a),dI i.id,dI i.dr,D.v (.bool i.top),dI i.n,dI c,dI (-1)]) e.toNat 7 [dI (jL a)]/\ac zR (yN i).fst.dy=zJ (lN i a f) i.n.toNat 3 [dI (ab.wrap (g+1))]/\True)))))))) (zFo i)
def qC (a:oH):=(↑(z8 1 (a.b.dz 1) a.dm):Int)
def uW (a:oH):=(↑(ac zC a.b.fm).length:Int)
@[reducible] def QR (a:dq)(R:Prop):Prop:=ac zC a.fm=ac zC a.fm/\ac zC a.ej=ac zC a.ej/\jm a.at_=jm a.at_/\iE a.spare=iE a.spare/\R
@[reducible] def IC (a:dq)(R:Prop):Prop:=a.iH=a.iH/\a.iG=a.iG/\a.gp=a.gp/\a.gl=a.gl/\R
def bH (a:oH):Prop:=IC a.b (am dv 3 zI a.b.a=zS a.b 1/\QR a.b (True))
def zGv (a:Nat) (b:oH):Prop:=(0<=(↑a:Int)/\(↑a:Int)<(uW b))/\∃(c:Int),zD (ac zC b.b.fm) (↑a:Int).toNat 0 1=be [dI c]/\dx ((qC b)=(↑a:Int)/\jV 1 (b.b.dz 1) b.dm=(c==b.dm)/\bH b)
def zFq (a:oH) (b:Nat):Prop:=dx ((qC a)=(↑b:Int)/\jV 1 (a.b.dz 1) a.dm=az/\bH a)
def tK (a:Nat) (b:Nat->Prop) (c:Nat->Nat) (d:oH):Prop:=∃(e:Nat),QP e a b c (dl (zS d.b 0)/\dl (zS d.b 1)/\dl (zS d.b 2)/\dl (zS d.b 3)/\dl (zS d.b 4)/\dl (zS d.b 5))
def lC (a:Nat) (b:oH):=(decide ((↑a:Int)<(uW b)))
def yQl (i:oH):Prop:=
 ∃(a:Nat),(↑a:Int)=0/\∃(b:Nat->Prop),∃(c:Nat->Nat),b a/\∀(d:Nat),b d->dp (lC d i) ((0<=(↑d:Int)/\(↑d:Int)<(uW i))/\∃(e:Int),zD (ac zC i.b.fm) (↑d:Int).toNat 0 1=be [dI e]/\∃(f:Ej),f.side=1/\f.x=e/\f.y=i.dm/\True/\fa (dp (je f.side f.x f.y) (tK d b c i) (dp (lC d i) (zGv d i) (zFq i d)))) (dp (lC d i) (zGv d i) (zFq i d))
def qB (a:oH):=(↑(z8 2 (a.b.dz 2) a.dm):Int)
def uY (a:oH):=(↑(ac zC a.b.ej).length:Int)
def zGb (a:Nat) (b:oH):Prop:=(0<=(↑a:Int)/\(↑a:Int)<(uY b))/\∃(c:Int),zD (ac zC b.b.ej) (↑a:Int).toNat 0 1=be [dI c]/\dx ((qB b)=(↑a:Int)/\jV 2 (b.b.dz 2) b.dm=(c==b.dm)/\bH b)
def zFr (a:oH) (b:Nat):Prop:=dx ((qB a)=(↑b:Int)/\jV 2 (a.b.dz 2) a.dm=az/\bH a)
def lJ (a:Nat) (b:oH):=(decide ((↑a:Int)<(uY b)))
def yQj (i:oH):Prop:=
 ∃(a:Nat),(↑a:Int)=0/\∃(b:Nat->Prop),∃(c:Nat->Nat),b a/\∀(d:Nat),b d->dp (lJ d i) ((0<=(↑d:Int)/\(↑d:Int)<(uY i))/\∃(e:Int),zD (ac zC i.b.ej) (↑d:Int).toNat 0 1=be [dI e]/\∃(f:Ej),f.side=2/\f.x=e/\f.y=i.dm/\True/\fa (dp (je f.side f.x f.y) (tK d b c i) (dp (lJ d i) (zGb d i) (zFr i d)))) (dp (lJ d i) (zGb d i) (zFr i d))
def bC (a:CK):Prop:=QR a.b (True)
def Wl (a:CK):Prop:=dx (dl a.id/\dl a.b.iG/\ay=ay/\dl a.b.gl/\am dv 3 zI (a.b.iQ 1)=zS a.b 1/\bC a)
def zHp (a:CK) (b:Int) (c:Int) (d:Int) (e:Bool):Prop:=jH (ba ab a.b.iH) (jm a.b.at_)=be [dI b,dI c,dI d]/\e=ay\/jH (ba ab a.b.iH) (jm a.b.at_)=bg/\[dI b,dI c,dI d]=[dI 0,dI 0,dI 0]/\e=az
def zHo (a:CK):Prop:=∀(b:Value×List D),b∈jm a.b.at_->lr (ba ab a.b.iH) b.fst=ay
def yMz (i:CK):Prop:=
 dp i.b.gp ((zHo i)/\∃(a:Bool),∃(b:Int),∃(c:Int),∃(d:Int),(zHp i b c d a)/\((zHo i)/\∃(e:Bool),∃(f:Int),∃(g:Int),∃(h:Int),(zHp i f g h e)/\(f=b/\g=c/\h=d/\True)/\e=a/\True)/\dl i.b.iH/\True/\dp a (dp (b==1) (∃(e:NO),e.n=d/\e.t=az/\am dv 3 zI e.a=zS i.b 1/\e.a.du.length<=1000000/\fa (dx (dl i.id/\dl i.b.iG/\ay=ay/\dl i.b.gl/\am dv 3 zI (i.b.iQ 1)=am dv 3 zI (e.a.mf e.n e.t)/\bC i))) (Wl i)) (Wl i)) (Wl i)
def eW (a:CK):Prop:=dx (dl a.b.iH/\dl a.id/\dl a.b.gp/\ay=ay/\am dv 3 zI (a.b.iQ 2)=zS a.b 1/\bC a)
def zFm (a:CK) (b:Int) (c:Int) (d:Int) (e:Bool):Prop:=jH (ba ab a.b.iG) (jm a.b.at_)=be [dI b,dI c,dI d]/\e=ay\/jH (ba ab a.b.iG) (jm a.b.at_)=bg/\[dI b,dI c,dI d]=[dI 0,dI 0,dI 0]/\e=az
def zHf (a:CK):Prop:=∀(b:Value×List D),b∈jm a.b.at_->lr (ba ab a.b.iG) b.fst=ay
def yPq (i:CK):Prop:=
 dp i.b.gl ((zHf i)/\∃(a:Bool),∃(b:Int),∃(c:Int),∃(d:Int),(zFm i b c d a)/\((zHf i)/\∃(e:Bool),∃(f:Int),∃(g:Int),∃(h:Int),(zFm i f g h e)/\(f=b/\g=c/\h=d/\True)/\e=a/\True)/\dl i.b.iG/\True/\dp a (dp (b==2) (∃(e:NO),e.n=d/\e.t=az/\am dv 3 zI e.a=zS i.b 1/\e.a.du.length<=1000000/\fa (dx (dl i.b.iH/\dl i.id/\dl i.b.gp/\ay=ay/\am dv 3 zI (i.b.iQ 2)=am dv 3 zI (e.a.mf e.n e.t)/\bC i))) (eW i)) (eW i)) (eW i)
@[reducible] def Q2 (a:dv)(b:dq)(R:Prop):Prop:=(a.du.length<=1000000/\a.dy.length<=1000000)/\b.fm.length<=1000000/\b.ej.length<=1000000/\R
def qS (a:oH):Prop:=Q2 a.b.a a.b (a.b.spare.length<=1000000)
def fY (a:oH):Prop:=0<=(qC a)/\(qC a)<(uW a)
def uQ (a:oH):=((↑(iE a.b.spare).length:Int)-1)
def pX (a:oH):Prop:=0<=ab.wrap (uQ a)/\ab.wrap (uQ a)<=(↑(iE a.b.spare).length:Int)
def pP (a:oH):Prop:=0<=ab.wrap (uQ a)/\ab.wrap (uQ a)<(↑(iE a.b.spare).length:Int)
def f7 (a:Bp):Prop:=a.i<=a.ez.length/\(a.ez.length+1)*(16:Nat)<=(140737488355328:Nat)
def dG (a:oH):=(ab.wrap (uQ a))
def zQ (a:oH):=(a.b.fw 1 a.dm)
@[reducible] def QA (a b:dq)(R:Prop):Prop:=a.iH=b.iH/\a.iG=b.iG/\a.gp=b.gp/\a.gl=b.gl/\am dv 3 zI a.a=zS b 1/\ac zC a.fm=ac zC b.fm/\ac zC a.ej=ac zC b.ej/\jm a.at_=jm b.at_/\iE a.spare=iE b.spare/\R
@[reducible] def QC (a:oH)(b:dq)(R:Prop):Prop:=(zQ a).fst.iH=b.iH/\(zQ a).fst.iG=b.iG/\(zQ a).fst.gp=b.gp/\(zQ a).fst.gl=b.gl/\am dv 3 zI (zQ a).fst.a=am dv 3 zI b.a/\ac zC (zQ a).fst.ej=ac zC b.ej/\jm (zQ a).fst.at_=jm b.at_/\R
def yGw (i:oH):Prop:=
 ∃(a:oH),dl ((1:Int))/\a.dm=i.dm/\QA a.b i.b ((qS a)/\fa (dp (jV 1 (a.b.dz 1) a.dm) ((fY a)/\∃(c:Int),zD (ac zC a.b.fm) (qC a).toNat 1 1=be [dI c]/\dx ((zQ i).snd=c/\QC i a.b (ac zC (zQ i).fst.fm=ac zC a.b.fm/\iE (zQ i).fst.spare=iE a.b.spare/\True))) (dp (decide ((↑(iE a.b.spare).length:Int)>0)) ((pP a)/\∃(c:Int),zD (iE a.b.spare) (dG a).toNat 0 1=be [dI c]/\(pX a)/\True/\∃(d:Bp),(↑d.i:Int)=(qC a)/\d.ez=ac zC a.b.fm/\[d.el]=[[dI i.dm,dI c]]/\(f7 d)/\fa (dx ((zQ i).snd=c/\QC i a.b (ac zC (zQ i).fst.fm=ae d.i d.ez++d.el::aj d.i d.ez/\iE (zQ i).fst.spare=ae (dG a).toNat (iE a.b.spare)/\True)))) (∃(c:dv),am dv 3 zI c=am dv 3 zI a.b.a/\c.dy.length<=1000000/\fa (True/\∃(e:Bp),(↑e.i:Int)=(qC a)/\e.ez=ac zC a.b.fm/\[e.el]=[[dI i.dm,dI (↑c.dy.length:Int)]]/\(f7 e)/\fa (dx ((zQ i).snd=(↑c.dy.length:Int)/\(zQ i).fst.iH=a.b.iH/\(zQ i).fst.iG=a.b.iG/\(zQ i).fst.gp=a.b.gp/\(zQ i).fst.gl=a.b.gl/\am dv 3 zI (zQ i).fst.a=am dv 3 zI c.rq/\ac zC (zQ i).fst.ej=ac zC a.b.ej/\jm (zQ i).fst.at_=jm a.b.at_/\ac zC (zQ i).fst.fm=ae e.i e.ez++e.el::aj e.i e.ez/\iE (zQ i).fst.spare=iE a.b.spare/\True)))))))
def fX (a:oH):Prop:=0<=(qB a)/\(qB a)<(uY a)
def zP (a:oH):=(a.b.fw 2 a.dm)
@[reducible] def QD (a:oH)(b:dq)(R:Prop):Prop:=(zP a).fst.iH=b.iH/\(zP a).fst.iG=b.iG/\(zP a).fst.gp=b.gp/\(zP a).fst.gl=b.gl/\am dv 3 zI (zP a).fst.a=am dv 3 zI b.a/\ac zC (zP a).fst.fm=ac zC b.fm/\jm (zP a).fst.at_=jm b.at_/\R
def yDc (i:oH):Prop:=
 ∃(a:oH),dl ((2:Int))/\a.dm=i.dm/\QA a.b i.b ((qS a)/\fa (dp (jV 2 (a.b.dz 2) a.dm) ((fX a)/\∃(c:Int),zD (ac zC a.b.ej) (qB a).toNat 1 1=be [dI c]/\dx ((zP i).snd=c/\QD i a.b (ac zC (zP i).fst.ej=ac zC a.b.ej/\iE (zP i).fst.spare=iE a.b.spare/\True))) (dp (decide ((↑(iE a.b.spare).length:Int)>0)) ((pP a)/\∃(c:Int),zD (iE a.b.spare) (dG a).toNat 0 1=be [dI c]/\(pX a)/\True/\∃(d:Bp),(↑d.i:Int)=(qB a)/\d.ez=ac zC a.b.ej/\[d.el]=[[dI i.dm,dI c]]/\(f7 d)/\fa (dx ((zP i).snd=c/\QD i a.b (ac zC (zP i).fst.ej=ae d.i d.ez++d.el::aj d.i d.ez/\iE (zP i).fst.spare=ae (dG a).toNat (iE a.b.spare)/\True)))) (∃(c:dv),am dv 3 zI c=am dv 3 zI a.b.a/\c.dy.length<=1000000/\fa (True/\∃(e:Bp),(↑e.i:Int)=(qB a)/\e.ez=ac zC a.b.ej/\[e.el]=[[dI i.dm,dI (↑c.dy.length:Int)]]/\(f7 e)/\fa (dx ((zP i).snd=(↑c.dy.length:Int)/\(zP i).fst.iH=a.b.iH/\(zP i).fst.iG=a.b.iG/\(zP i).fst.gp=a.b.gp/\(zP i).fst.gl=a.b.gl/\am dv 3 zI (zP i).fst.a=am dv 3 zI c.rq/\ac zC (zP i).fst.fm=ac zC a.b.fm/\jm (zP i).fst.at_=jm a.b.at_/\ac zC (zP i).fst.ej=ae e.i e.ez++e.el::aj e.i e.ez/\iE (zP i).fst.spare=iE a.b.spare/\True)))))))
def m8:He.ok Tryz.prog 187:=gu (V:=z5f) mixed fg 0 (λ_=>[]) (λ_=>[]) [] Tryz.func187 λ(i:Ej) _=>by
 unfold z5f dx;refine Cv.dp.mk (λc=> ?_) (λc=> ?_)
 ·have c:i.side=1:=by simpa using c
  rw[je,fc c];exact kp
 ·have c:¬i.side=1:=by simpa using c
  rw[je,eg c];exact kp
def yQx:MN.ok Tryz.prog 255:=gu (V:=yTk) mixed fg 0 (λ_=>[]) (λ_=>[]) [] Tryz.func255 λ(s:Slot) _=>by
 unfold yTk dx;exact kp
def xHy {l:List Slot} {k:Nat} {s:Slot} (h:l[k]? =be s):zD (l.map zT) k 0 8=be [D.v (.bool s.used),.v (.int .i64 s.n),.v (.int .i64 s.id),.v (.int .i64 s.dr),.v (.bool s.top),.v (.int .i64 s.queue),.v (.int .i64 s.ahead),.v (.int .i64 s.back)]:=ju h (by simp[zT]) rfl
def yTf (l:List Slot) (h:B4.dp l):z3h l:=by
 have h:l.length<=1000000:=h;unfold z3h QP fa dx dI;simp only[gy];refine⟨0,rfl,λj=>j<=l.length/\∀k<j,∀x,l[k]? =be x->(!x.used)=az,λj=>l.length-j,⟨oM,λk hk=>by omega⟩,?_⟩;rintro j ⟨h3,h4⟩;refine zH (λhj=> ?_) (λhj=> ?_)
 ·obtain⟨s,hs⟩:=z6 (l:=l) (i:=j) oM;refine⟨⟨oM,oM⟩,s.used,s.n,s.id,s.dr,s.top,s.queue,s.ahead,s.back,xHy hs,s,oF ⟨rfl,trivial,λ_ _=>Cv.dp.mk (λe=> ?_) (λe=> ?_)⟩⟩
  ·rw[jL,ZS hs e h4];exact kp
  ·refine⟨j+1,by rw[iq (by omega)];rfl,⟨oM,λk hk x hx=> ?_⟩,by(first|omega|(dsimp only;omega)),gg⟩;rcases vh k j with pj|pj
   ·exact h4 k pj x hx
   ·obtain rfl:k=j:=by omega
    rw[hs]at hx;cases hx;exact e
 ·rw[jL,zLw λk x hx=>h4 k (by have:=(jf.1 hx).1;omega) x hx];exact kp
def z7o:B4.ok Tryz.prog 254:=gu mixed (dw yQx fg) 0 (λ_=>[]) (λl=>yMu l) [] Tryz.func254 yTf
def z5b:Nb.ok Tryz.prog 256:=gu (V:=yLn) mixed fg 0 (λ_=>[]) (λ_=>[]) [0] Tryz.func256 λ(a:dv) h=>by
 have h:a.dy.length<=1000000:=h;unfold yLn dx dI;rw[iv,gy,iq (by simp only[iC,rn];omega)];refine⟨oM,(),?_,rfl,rfl,?_,trivial⟩
 ·simp
 ·rw[jl];rfl
def bS {α:Type} {f:α->α}:∀{l:List α} {i:Nat} {x:α},l[i]? =be x->l.modify i f=l.set i (f x)
 |[],i,x,h=>by simp at h
 |a::l,0,x,h=>by simp at h;subst h;rfl
 |a::l,i+1,x,h=>by
  simp only[Bd]at h;simp only[Rl,Rg,bS h]
def yM {α:Type} {f:α->List D} {l:List α} {i g:Nat} {x y:α} {ds:List D} (hi:l[i]? =be x) (hh:(f x).take g++(ds++(f x).drop (g+ds.length))=f y):zJ (l.map f) i g ds=(l.set i y).map f:=by
 have gn:=(jf.1 hi).1;rw[zJ,bS (by rw[rf,hi];rfl),hh,List.map_set]
def gL {α:Type} {l:List α} {i:Nat} {x y:α} (hi:l[i]? =be x):(l.set i y)[i]? =be y:=List.getElem?_set_self (jf.1 hi).1
def zY {α:Type} {l:List α} {i:Nat} {x d:α} (h:l[i]? =be x):l.getD i d=x:=by rw[oc,h];rfl
def xDi (i:NO) (h:KU.dp i):y1b i:=by
 have h:i.a.du.length<=1000000:=h;unfold y1b dx VQ dx;simp only[gy];have no (e:i.a.iu i.n=az):i.a.mf i.n i.t=i.a:=by rw[dv.mf,eg (by rw[e];decide)]
 refine zH (λc=> ?_) (λc=>zH (λd=> ?_) (λd=> ?_))
 ·have e:i.a.iu i.n=az:=by rw[dv.iu,jt (by omega),Da]
  rw[no e,e];exact kp
 ·have e:i.a.iu i.n=az:=by rw[dv.iu,jt (show ¬i.n<(i.a.du.length:Int)by omega),Da,JG]
  rw[no e,e];exact kp
 ·obtain⟨s,hs⟩:=z6 (l:=i.a.du) (i:=i.n.toNat) oM;have eu:i.a.iu i.n=s.used:=by rw[dv.iu,jk (show 0<=i.n by omega),jk (show i.n<(i.a.du.length:Int)by omega),zY hs];simp
  refine⟨⟨oM,oM⟩,s.used,ju hs (by simp[zT]) rfl,Cv.dp.mk (λu=> ?_) (λu=> ?_)⟩
  ·have e:i.a.iu i.n=az:=by rw[eu];simpa using u
   rw[no e,e];exact kp
  ·have e:i.a.iu i.n=ay:=by rw[eu];simpa using u
   have et:i.a.mf i.n i.t={i.a with du:=i.a.du.set i.n.toNat {s with top:=i.t}}:=by
    rw[dv.mf,fc e,bS hs]
   rw[et,e,yM hs (y:={s with top:=i.t}) rfl];refine⟨⟨oM,oM⟩,oM,(),mn trivial⟩
def yDz:KU.ok Tryz.prog 253:=gu mixed fg 1 (λ_=>[]) (λ_=>[]) [0] Tryz.func253 xDi
def yTa {l:List Slot} (h:∃s∈l,s.used=az):∃k:Nat,jL l=k/\k<l.length:=by
 obtain⟨s,hs,hu⟩:=h;cases hf:l.findIdx? λs=> !s.used with
 |none=>
  rw[N9]at hf;have:=hf s hs;rw[hu]at this;cases this
 |some k=>
  rw[LJ]at hf;exact⟨k,by rw[jL,show(l.findIdx? λs=> !s.used)=be k by rw[LJ];exact hf];rfl,hf.1⟩
def y4v (i:DB) (h:G0.dp i):yLx i:=by
 obtain⟨h1,h2,h3⟩:i.a.fit:=h;unfold yLx fa dx lN lE lY lZ zFt dx zFo dx tT yN dI;simp only[gy];have out (e:i.n<0\/i.a.dy.length<=i.n):i.a.push i.n i.id i.dr i.top=(i.a,0,26):=by rw[dv.push,fc e]
 refine zH (λc=>Cv.dp.mk (λd=> ?_) (λd=> ?_)) (λc=> ?_)
 ·have d:¬i.n<(i.a.dy.length:Int):=by simpa using d
  rw[out (.inr (by omega))];exact kp
 ·have d:i.n<(i.a.dy.length:Int):=by simpa using d
  have hn:¬(i.n<0\/(i.a.dy.length:Int)<=i.n):=by omega
  refine zH (λq1=> ?_) (λq1=>zH (λq2=> ?_) (λq2=>Cv.dp.mk (λfr=> ?_) (λfr=> ?_)))
  ·rw[dv.push,eg hn,fc (.inl q1)];exact kp
  ·rw[dv.push,eg hn,fc (.inr q2)];exact kp
  ·rw[dv.push,eg hn,eg (by omega),fc (by simpa using fr)];exact kp
  ·have fr:i.a.free≠0:=by simpa using fr
   have ep:i.a.push i.n i.id i.dr i.top=(i.a.put i.n i.id i.dr i.top,jL i.a.du,0):=by rw[dv.push,eg hn,eg (by omega),eg fr]
   obtain⟨k,hk,o6⟩:=yTa (h2 fr);obtain⟨q,hq⟩:=z6 (l:=i.a.dy) (i:=i.n.toNat) oM;have hqm:=ku hq;have hl:=h3 q hqm;obtain⟨s,hs⟩:=z6 o6;refine⟨i.a.du,rfl,h1,λ_ _=>⟨⟨oM,oM⟩,q.last,ju hq (by simp[zR]) rfl,⟨oM,oM⟩,by rw[hk];exact o6,q.last,ju hq (by simp[zR]) rfl,?_⟩⟩;rw[ep];have aaX:i.a.put i.n i.id i.dr i.top=⟨if q.last= -1 then i.a.du.set k ⟨ay,k,i.id,i.dr,i.top,i.n,q.last,-1⟩else(i.a.du.set k ⟨ay,k,i.id,i.dr,i.top,i.n,q.last,-1⟩).modify q.last.toNat λs=>{s with back:=k},i.a.dy.set i.n.toNat ⟨if q.last= -1 then k else q.first,k,ab.wrap (q.total+i.dr),ab.wrap (q.count+1)⟩,ab.wrap (i.a.free-1)⟩:=by
    simp only[dv.put,zY hq,hk,om]
   rw[aaX,hk];simp only[om];have es:zJ (ac zT i.a.du) k 0 [D.v (.bool ay),D.v (.int .i64 k),D.v (.int .i64 i.id),D.v (.int .i64 i.dr),D.v (.bool i.top),D.v (.int .i64 i.n),D.v (.int .i64 q.last),D.v (.int .i64 (-1))]=ac zT (i.a.du.set k ⟨ay,k,i.id,i.dr,i.top,i.n,q.last,-1⟩):=yM hs rfl;rw[es];refine Cv.dp.mk (λe=> ?_) (λe=> ?_)
   ·have e:q.last= -1:=by simpa using e
    have e1:zJ (ac zR i.a.dy) i.n.toNat (0+0) [D.v (.int .i64 k)]=ac zR (i.a.dy.set i.n.toNat {q with first:=k}):=yM hq rfl;have g1:=gL (y:={q with first:=(k:Int)}) hq;have e2:zJ (ac zR (i.a.dy.set i.n.toNat {q with first:=k})) i.n.toNat (0+1) [D.v (.int .i64 k)]=ac zR (i.a.dy.set i.n.toNat {q with first:=k,last:=k}):=by
     rw[yM g1 (y:={q with first:=(k:Int),last:=(k:Int)}) rfl,D8]
    have g2:=gL (y:={q with first:=(k:Int),last:=(k:Int)}) hq;have e3:zJ (ac zR (i.a.dy.set i.n.toNat {q with first:=k,last:=k})) i.n.toNat (0+2) [D.v (.int .i64 (ab.wrap (q.total+i.dr)))]=ac zR (i.a.dy.set i.n.toNat {q with first:=k,last:=k,total:=ab.wrap (q.total+i.dr)}):=by
     rw[yM g2 (y:={q with first:=(k:Int),last:=(k:Int),total:=ab.wrap (q.total+i.dr)}) rfl,D8]
    have g3:=gL (y:={q with first:=(k:Int),last:=(k:Int),total:=ab.wrap (q.total+i.dr)}) hq;have e4:zJ (ac zR (i.a.dy.set i.n.toNat {q with first:=k,last:=k,total:=ab.wrap (q.total+i.dr)})) i.n.toNat (0+3) [D.v (.int .i64 (ab.wrap (q.count+1)))]=ac zR (i.a.dy.set i.n.toNat ⟨k,k,ab.wrap (q.total+i.dr),ab.wrap (q.count+1)⟩):=by
     rw[yM g3 (y:=⟨k,k,ab.wrap (q.total+i.dr),ab.wrap (q.count+1)⟩) rfl,D8]
    rw[e1,e2];simp only[fc e];refine⟨oM,by simp only[gy,qm];omega,q.total,ju g2 (by simp[zR]) rfl,by simp only[gy,qm];omega,q.count,?_,by rw[e3];simp only[gy,qm];omega,(),?_⟩
    ·rw[e3];exact ju g3 (by simp[zR]) rfl
    ·rw[e3,e4];exact kp
   ·have e:¬q.last= -1:=by simpa using e
    have hl:0<=q.last/\q.last<i.a.du.length:=hl.resolve_left e;have e2:zJ (ac zR i.a.dy) i.n.toNat (0+1) [D.v (.int .i64 k)]=ac zR (i.a.dy.set i.n.toNat {q with last:=k}):=yM hq rfl;have g2:=gL (y:={q with last:=(k:Int)}) hq;have e3:zJ (ac zR (i.a.dy.set i.n.toNat {q with last:=k})) i.n.toNat (0+2) [D.v (.int .i64 (ab.wrap (q.total+i.dr)))]=ac zR (i.a.dy.set i.n.toNat {q with last:=k,total:=ab.wrap (q.total+i.dr)}):=by
     rw[yM g2 (y:={q with last:=(k:Int),total:=ab.wrap (q.total+i.dr)}) rfl,D8]
    have g3:=gL (y:={q with last:=(k:Int),total:=ab.wrap (q.total+i.dr)}) hq;have e4:zJ (ac zR (i.a.dy.set i.n.toNat {q with last:=k,total:=ab.wrap (q.total+i.dr)})) i.n.toNat (0+3) [D.v (.int .i64 (ab.wrap (q.count+1)))]=ac zR (i.a.dy.set i.n.toNat ⟨q.first,k,ab.wrap (q.total+i.dr),ab.wrap (q.count+1)⟩):=by
     rw[yM g3 (y:=⟨q.first,k,ab.wrap (q.total+i.dr),ab.wrap (q.count+1)⟩) rfl,D8]
    obtain⟨s2,yp⟩:=z6 (l:=i.a.du.set k ⟨ay,k,i.id,i.dr,i.top,i.n,q.last,-1⟩) (i:=q.last.toNat) (by rw[qm];omega);have e5:zJ (ac zT (i.a.du.set k ⟨ay,k,i.id,i.dr,i.top,i.n,q.last,-1⟩)) q.last.toNat (0+7) [D.v (.int .i64 k)]=ac zT ((i.a.du.set k ⟨ay,k,i.id,i.dr,i.top,i.n,q.last,-1⟩).modify q.last.toNat λs=>{s with back:=k}):=by
     rw[yM yp (y:={s2 with back:=(k:Int)}) rfl,bS yp]
    rw[e2];simp only[eg e];refine⟨q.last,ju hq (by simp[zR]) rfl,⟨oM,by simp only[gy,qm];omega⟩,by simp only[gy,qm];omega,oM,q.total,ju g2 (by simp[zR]) rfl,by simp only[gy,qm];omega,q.count,?_,by rw[e3];simp only[gy,qm];omega,(),?_⟩
    ·rw[e3];exact ju g3 (by simp[zR]) rfl
    ·rw[e3,e4,e5];exact kp
 ·rw[out (.inl (by omega))];exact kp
def z4l:G0.ok Tryz.prog 242:=gu mixed (dw z7o fg) 1 (λ_=>[]) (λ_=>[]) [0] Tryz.func242 y4v
def sU {s dm:Int}:∀{l:List xV} {j:Nat},j<=l.length->(∀k<j,∀r,l[k]? =be r->je s r.dm dm=ay)->(∀r,l[j]? =be r->je s r.dm dm=az)->z8 s l dm=j
 |[],j,hj,_,_=>by
  obtain rfl:j=0:=by simpa using hj
  rfl
 |r::l,0,_,_,he=>by
  have:=he r rfl;rw[z8,List.takeWhile_cons,this];rfl
 |r::l,j+1,hj,h,he=>by
  have h0:=h 0 oM r rfl;have ih:=sU (l:=l) (j:=j) (by simpa using hj) (λk hk x hx=>h (k+1) oM x (by simpa using hx)) (λx hx=>he x (by simpa using hx));rw[z8]at ih ⊢;rw[List.takeWhile_cons,h0,fc rfl,iC,ih]
def Vn (s dm:Int) (l:List xV):z8 s l dm<=l.length:=(List.takeWhile_sublist _).length_le
def eQ (b:dq):b.dz 1=b.fm:=rfl
def l8 (b:dq):b.dz 2=b.ej:=rfl
def y5e (i:oH) (h:GH.dp i):yQl i:=by
 obtain⟨_,h1,h2,_⟩:i.b.small:=h;unfold yQl fa lC tK QP zFq dx zGv dx bH QR IC uW qC dI;simp only[gy,eQ];refine⟨0,rfl,λj=>j<=i.b.fm.length/\∀k<j,∀r,i.b.fm[k]? =be r->je 1 r.dm i.dm=ay,λj=>i.b.fm.length-j,⟨oM,λk hk=>by omega⟩,?_⟩;rintro j ⟨h3,h4⟩;refine zH (λhj=> ?_) (λhj=> ?_)
 ·obtain⟨r,hr⟩:=z6 (l:=i.b.fm) (i:=j) oM;refine⟨⟨oM,oM⟩,r.dm,ju hr (by simp[zC]) rfl,⟨1,r.dm,i.dm⟩,rfl,rfl,rfl,trivial,λ_ _=> ?_⟩;dsimp only;refine Cv.dp.mk (λe=>⟨j+1,by rw[iq (by omega)];rfl,⟨oM,λk hk x hx=> ?_⟩,by(first|omega|(dsimp only;omega)),gg⟩) (λe=>zH (λ_=> ?_) (λc=>absurd hj c))
  ·rcases vh k j with pj|pj
   ·exact h4 k pj x hx
   ·obtain rfl:k=j:=by omega
    rw[hr]at hx;cases hx;exact e
  ·have en:z8 1 i.b.fm i.dm=j:=sU h3 h4 λx hx=>by rw[hr]at hx;cases hx;exact e
   have eb:jV 1 i.b.fm i.dm=(r.dm==i.dm):=by rw[jV,en,hr];exact(z3s _ _).symm
   refine⟨⟨oM,oM⟩,r.dm,ju hr (by simp[zC]) rfl,(),by rw[en],eb,?_⟩
   (repeat'(first|exact trivial|exact rfl|apply ax))
 ·have en:z8 1 i.b.fm i.dm=j:=sU h3 h4 λx hx=>by have:=(jf.1 hx).1;omega
  have eb:jV 1 i.b.fm i.dm=az:=by rw[jV,en,ud (by omega)]
  refine zH (λc=>absurd c hj) (λ_=>⟨(),by rw[en],eb,?_⟩)
  (repeat'(first|exact trivial|exact rfl|apply ax))
def YX:GH.ok Tryz.prog 245:=gu mixed (dw m8 fg) 0 (λ_=>[]) (λ_=>y0y) [] Tryz.func245 y5e
def wU (l:List (Int×Place)) (k:Int):∀(p:Value×List D),p∈jm l->lr (ba ab k) p.1=ay:=by
 intro p hp;obtain⟨x,_,rfl⟩:=oe.1 hp;rfl
def Ns (k:Int):∀l:List (Int×Place),jH (ba ab k) (jm l)=(km l k).map z9o
 |[]=>rfl
 |(a,v)::l=>by
  have ih:=Ns k l;show(bif (xa .i64 .i64 && decide (k=a))then _ else jH _ (jm l))=_;by_cases h:k=a
  ·subst h;simp[km,xa]
  ·have h':¬a=k:=λe=>h e.symm
   rw[show(xa .i64 .i64 && decide (k=a))=az by simp[h],cond_false,ih];simp[km,LA,h']
def Nr:Place:=⟨0,0,0⟩
def Nc (l:List (Int×Place)) (k:Int):jH (ba ab k) (jm l)=be [D.v (.int .i64 ((km l k).getD Nr).side),D.v (.int .i64 ((km l k).getD Nr).dm),D.v (.int .i64 ((km l k).getD Nr).slot)]/\(km l k).isSome=ay\/jH (ba ab k) (jm l)=bg/\[D.v (.int .i64 ((km l k).getD Nr).side),D.v (.int .i64 ((km l k).getD Nr).dm),D.v (.int .i64 ((km l k).getD Nr).slot)]=[D.v (.int .i64 0),D.v (.int .i64 0),D.v (.int .i64 0)]/\(km l k).isSome=az:=by
 rw[Ns];cases km l k with
 |none=>exact .inr ⟨rfl,rfl,rfl⟩
 |some v=>exact .inl ⟨rfl,rfl⟩
def Yq (k:Int) (v:Place):∀l,u7 (ba ab k) (z9o v) (jm l)=jm (tF k v l)
 |[]=>rfl
 |(a,b)::l=>by
  have ih:=Yq k v l;show(bif (xa .i64 .i64 && decide (k=a))then _ else _::u7 _ _ (jm l))=_;rw[ih,tF];by_cases h:k=a
  ·subst h;simp[xa,jm]
  ·simp[h,jm]
def y3x (i:CK) (h:GB.dp i):yMz i:=by
 obtain⟨⟨ha,_⟩,h1,h2,_⟩:i.b.small:=h;unfold yMz fa dx zHo zHp Wl dx bC QR dI;have no (e:i.b.iQ 1=i.b.a):am dv 3 zI (i.b.iQ 1)=zS i.b 1:=by rw[e];rfl
 refine Cv.dp.mk (λc=> ?_) (λc=>⟨(),?_⟩)
 ·have c:i.b.ml 1=ay:=c;refine⟨wU _ _,(km i.b.at_ i.b.iH).isSome,_,_,_,Nc _ _,⟨wU _ _,(km i.b.at_ i.b.iH).isSome,_,_,_,Nc _ _,(iJ trivial),rfl,trivial⟩,rfl,trivial,Cv.dp.mk (λd=>Cv.dp.mk (λe=> ?_) (λe=>⟨(),?_⟩)) (λd=>⟨(),?_⟩)⟩
  ·obtain⟨o,ho⟩:=Xm.1 d;have e:o.side=1:=by rw[ho]at e;simpa using e
   have eu:i.b.iQ 1=i.b.a.mf o.slot az:=by
    have ht:km i.b.at_ (i.b.iX 1)=be o:=ho;rw[dq.iQ,fc c,ht];dsimp only;rw[fc e]
   refine⟨⟨i.b.a,o.slot,az⟩,by rw[ho];rfl,rfl,rfl,ha,λ_ _=>⟨(),?_⟩⟩;rw[eu];(repeat'(first|exact trivial|exact rfl|apply ax))
  ·obtain⟨o,ho⟩:=Xm.1 d;have e:¬o.side=1:=by rw[ho]at e;simpa using e
   have ht:km i.b.at_ (i.b.iX 1)=be o:=ho;rw[no (by rw[dq.iQ,fc c,ht];dsimp only;rw[eg e])];(repeat'(first|exact trivial|exact rfl|apply ax))
  ·have ht:km i.b.at_ (i.b.iX 1)=bg:=by
    show km i.b.at_ i.b.iH=bg;simpa using d
   rw[no (by rw[dq.iQ,fc c,ht])];(repeat'(first|exact trivial|exact rfl|apply ax))
 ·have c:¬i.b.ml 1=ay:=by rw[show i.b.ml 1=i.b.gp from rfl,c];decide
  rw[no (by rw[dq.iQ,eg c])];(repeat'(first|exact trivial|exact rfl|apply ax))
def yMm:GB.ok Tryz.prog 241:=gu mixed (dw yDz fg) 0 (λ_=>[]) (λ_=>[]) [] Tryz.func241 y3x
def z4i {s dm:Int} {l:List xV} (h:jV s l dm=ay):∃r,l[z8 s l dm]? =be r:=by
 rw[jV]at h;split at h
 ·rename_i r hr;exact⟨r,hr⟩
 ·cases h
def yYt (i:oH) (h:DQ.dp i):yGw i:=by
 obtain⟨⟨ha,_⟩,ha',h1,h2,h3⟩:i.b.fit:=h;have hle:=Vn 1 i.dm i.b.fm;unfold yGw QA QC fa dx zQ dG f7 pP pX uQ fY uW qS Q2 qC dI;refine⟨i,oF (iJ ⟨rfl,⟨⟨ha,oM⟩,oM,oM,oM⟩,λ_ _=> ?_⟩)⟩;simp only[gy,y8,eQ];refine Cv.dp.mk (λc=> ?_) (λc=> ?_)
 ·obtain⟨r,hr⟩:=z4i c;have gn:=(jf.1 hr).1;have e:i.b.fw 1 i.dm=(i.b,r.queue):=by rw[dq.fw,fc (by rw[eQ];exact c),eQ,zY hr]
  rw[e];refine⟨⟨oM,oM⟩,r.queue,ju (by simpa using hr) (by simp[zC]) rfl,(),?_⟩
  (repeat'(first|exact trivial|exact rfl|apply ax))
 ·have e:i.b.fw 1 i.dm=({i.b with a:=i.b.iO.2.2,fm:=i.b.ins 1 i.dm,spare:=i.b.iO.2.1},i.b.iO.1):=by
   rw[dq.fw,eg (by rw[eQ,c];decide),fc rfl]
  have BM:ac zC (i.b.ins 1 i.dm)=ae (z8 1 i.b.fm i.dm) (ac zC i.b.fm)++zC ⟨i.dm,i.b.iO.1⟩::aj (z8 1 i.b.fm i.dm) (ac zC i.b.fm):=by
   rw[dq.ins,eQ,jl,jj,D9,Fx]
  rw[e];refine zH (λd=> ?_) (λd=> ?_)
  ·have w:ab.wrap ((i.b.spare.length:Int)-1)=((i.b.spare.length-1:Nat):Int):=by rw[iq (by omega)];omega
   rw[w];simp only[om];obtain⟨q,hq⟩:=z6 (l:=i.b.spare) (i:=i.b.spare.length-1) oM;have eq:i.b.iO=(q,i.b.spare.take (i.b.spare.length-1),i.b.a):=by rw[dq.iO,eg (by omega),zY hq]
   rw[eq]at BM ⊢;refine⟨⟨oM,oM⟩,q,rm hq,⟨oM,oM⟩,trivial,⟨i.b.fm.map zC,zC ⟨i.dm,q⟩,z8 1 i.b.fm i.dm⟩,rfl,rfl,rfl,⟨by rw[gy];exact hle,by rw[gy];omega⟩,λ_ _=>⟨(),?_⟩⟩;have hs:iE (i.b.spare.take (i.b.spare.length-1))=(iE i.b.spare).take (i.b.spare.length-1):=by simp only[iE,D9]
   exact kp
  ·have eq:i.b.iO=((i.b.a.dy.length:Int),i.b.spare,i.b.a.rq):=by rw[dq.iO,fc (by omega)]
   rw[eq]at BM ⊢;refine⟨i.b.a,rfl,oM,λ_ _=>⟨trivial,⟨i.b.fm.map zC,zC ⟨i.dm,i.b.a.dy.length⟩,z8 1 i.b.fm i.dm⟩,rfl,rfl,rfl,⟨by rw[gy];exact hle,by rw[gy];omega⟩,λ_ _=>⟨(),?_⟩⟩⟩
   exact kp
def zLx:vS Tryz.prog 268=be (276,2,16,#[.int .i64 0,.int .i64 0]):=by kernel_rfl
def yDi:TN.ok Tryz.prog 257:=
 AV (tS:=268) (tI:=3) (fO:=262) (fR:=263) (z:= #[.int .i64 0,.int .i64 0]) mixed Tryz.func257 rfl (by kernel_rfl) (by kernel_rfl) (by kernel_rfl) (by kernel_rfl) zLx rfl Z8 Z8 (by kernel_rfl) Tryz.underlying3
  (z2j (tS:=268) (tB:=4) Tryz.func262 (by kernel_rfl) (by kernel_rfl) (by kernel_rfl) (by kernel_rfl) zLx) (λs sn sk i v vn vk w R=>by kernel_rfl)
def yIz:DQ.ok Tryz.prog 243:=gu mixed (dw YX (dw z5b (dw yDi fg))) 0 (λ_=>[]) (λ_=>[]) [] Tryz.func243 yYt
def y5z (i:oH) (h:GG.dp i):yQj i:=by
 obtain⟨_,h1,h2,_⟩:i.b.small:=h;unfold yQj fa lJ zFr dx zGb dx uY qB bH QR IC tK QP dI;simp only[gy,l8];refine⟨0,rfl,λj=>j<=i.b.ej.length/\∀k<j,∀r,i.b.ej[k]? =be r->je 2 r.dm i.dm=ay,λj=>i.b.ej.length-j,⟨oM,λk hk=>by omega⟩,?_⟩;rintro j ⟨h3,h4⟩;refine zH (λhj=> ?_) (λhj=> ?_)
 ·obtain⟨r,hr⟩:=z6 (l:=i.b.ej) (i:=j) oM;refine⟨⟨oM,oM⟩,r.dm,ju hr (by simp[zC]) rfl,⟨2,r.dm,i.dm⟩,rfl,rfl,rfl,trivial,λ_ _=> ?_⟩;dsimp only;refine Cv.dp.mk (λe=>⟨j+1,by rw[iq (by omega)];rfl,⟨oM,λk hk x hx=> ?_⟩,by(first|omega|(dsimp only;omega)),gg⟩) (λe=>zH (λ_=> ?_) (λc=>absurd hj c))
  ·rcases vh k j with pj|pj
   ·exact h4 k pj x hx
   ·obtain rfl:k=j:=by omega
    rw[hr]at hx;cases hx;exact e
  ·have en:z8 2 i.b.ej i.dm=j:=sU h3 h4 λx hx=>by rw[hr]at hx;cases hx;exact e
   have eb:jV 2 i.b.ej i.dm=(r.dm==i.dm):=by rw[jV,en,hr];exact(z3s _ _).symm
   refine⟨⟨oM,oM⟩,r.dm,ju hr (by simp[zC]) rfl,(),by rw[en],eb,?_⟩
   (repeat'(first|exact trivial|exact rfl|apply ax))
 ·have en:z8 2 i.b.ej i.dm=j:=sU h3 h4 λx hx=>by have:=(jf.1 hx).1;omega
  have eb:jV 2 i.b.ej i.dm=az:=by rw[jV,en,ud (by omega)]
  refine zH (λc=>absurd c hj) (λ_=>⟨(),by rw[en],eb,?_⟩)
  (repeat'(first|exact trivial|exact rfl|apply ax))
def YZ:GG.ok Tryz.prog 245:=gu mixed (dw m8 fg) 0 (λ_=>[]) (λ_=>y0y) [] Tryz.func245 y5z
def y4y (i:CK) (h:GA.dp i):yPq i:=by
 obtain⟨⟨ha,_⟩,h1,h2,_⟩:i.b.small:=h;unfold yPq fa dx zHf zFm eW dx bC QR dI;have no (e:i.b.iQ 2=i.b.a):am dv 3 zI (i.b.iQ 2)=zS i.b 1:=by rw[e];rfl
 refine Cv.dp.mk (λc=> ?_) (λc=>⟨(),?_⟩)
 ·have c:i.b.ml 2=ay:=c;refine⟨wU _ _,(km i.b.at_ i.b.iG).isSome,_,_,_,Nc _ _,⟨wU _ _,(km i.b.at_ i.b.iG).isSome,_,_,_,Nc _ _,(iJ trivial),rfl,trivial⟩,rfl,trivial,Cv.dp.mk (λd=>Cv.dp.mk (λe=> ?_) (λe=>⟨(),?_⟩)) (λd=>⟨(),?_⟩)⟩
  ·obtain⟨o,ho⟩:=Xm.1 d;have e:o.side=2:=by rw[ho]at e;simpa using e
   have eu:i.b.iQ 2=i.b.a.mf o.slot az:=by
    have ht:km i.b.at_ (i.b.iX 2)=be o:=ho;rw[dq.iQ,fc c,ht];dsimp only;rw[fc e]
   refine⟨⟨i.b.a,o.slot,az⟩,by rw[ho];rfl,rfl,rfl,ha,λ_ _=>⟨(),?_⟩⟩;rw[eu];(repeat'(first|exact trivial|exact rfl|apply ax))
  ·obtain⟨o,ho⟩:=Xm.1 d;have e:¬o.side=2:=by rw[ho]at e;simpa using e
   have ht:km i.b.at_ (i.b.iX 2)=be o:=ho;rw[no (by rw[dq.iQ,fc c,ht];dsimp only;rw[eg e])];(repeat'(first|exact trivial|exact rfl|apply ax))
  ·have ht:km i.b.at_ (i.b.iX 2)=bg:=by
    show km i.b.at_ i.b.iG=bg;simpa using d
   rw[no (by rw[dq.iQ,fc c,ht])];(repeat'(first|exact trivial|exact rfl|apply ax))
 ·have c:¬i.b.ml 2=ay:=by rw[show i.b.ml 2=i.b.gl from rfl,c];decide
  rw[no (by rw[dq.iQ,eg c])];(repeat'(first|exact trivial|exact rfl|apply ax))
def yUl:GA.ok Tryz.prog 241:=gu mixed (dw yDz fg) 0 (λ_=>[]) (λ_=>[]) [] Tryz.func241 y4y
def yWi (i:oH) (h:DP.dp i):yDc i:=by
 obtain⟨⟨ha,_⟩,ha',h1,h2,h3⟩:i.b.fit:=h;have hle:=Vn 2 i.dm i.b.ej;unfold yDc QA QD fa dx zP fX uY dG f7 pP pX uQ qS Q2 qB dI;refine⟨i,oF (iJ ⟨rfl,⟨⟨ha,oM⟩,oM,oM,oM⟩,λ_ _=> ?_⟩)⟩;simp only[gy,y8,l8];refine Cv.dp.mk (λc=> ?_) (λc=> ?_)
 ·obtain⟨r,hr⟩:=z4i c;have gn:=(jf.1 hr).1;have e:i.b.fw 2 i.dm=(i.b,r.queue):=by rw[dq.fw,fc (by rw[l8];exact c),l8,zY hr]
  rw[e];refine⟨⟨oM,oM⟩,r.queue,ju (by simpa using hr) (by simp[zC]) rfl,(),?_⟩
  (repeat'(first|exact trivial|exact rfl|apply ax))
 ·have e:i.b.fw 2 i.dm=({i.b with a:=i.b.iO.2.2,ej:=i.b.ins 2 i.dm,spare:=i.b.iO.2.1},i.b.iO.1):=by
   rw[dq.fw,eg (by rw[l8,c];decide),eg (by decide)]
  have BM:ac zC (i.b.ins 2 i.dm)=ae (z8 2 i.b.ej i.dm) (ac zC i.b.ej)++zC ⟨i.dm,i.b.iO.1⟩::aj (z8 2 i.b.ej i.dm) (ac zC i.b.ej):=by
   rw[dq.ins,l8,jl,jj,D9,Fx]
  rw[e];refine zH (λd=> ?_) (λd=> ?_)
  ·have w:ab.wrap ((i.b.spare.length:Int)-1)=((i.b.spare.length-1:Nat):Int):=by rw[iq (by omega)];omega
   rw[w];simp only[om];obtain⟨q,hq⟩:=z6 (l:=i.b.spare) (i:=i.b.spare.length-1) oM;have eq:i.b.iO=(q,i.b.spare.take (i.b.spare.length-1),i.b.a):=by rw[dq.iO,eg (by omega),zY hq]
   rw[eq]at BM ⊢;refine⟨⟨oM,oM⟩,q,rm hq,⟨oM,oM⟩,trivial,⟨i.b.ej.map zC,zC ⟨i.dm,q⟩,z8 2 i.b.ej i.dm⟩,rfl,rfl,rfl,⟨by rw[gy];exact hle,by rw[gy];omega⟩,λ_ _=>⟨(),?_⟩⟩;have hs:iE (i.b.spare.take (i.b.spare.length-1))=(iE i.b.spare).take (i.b.spare.length-1):=by simp only[iE,D9]
   exact kp
  ·have eq:i.b.iO=((i.b.a.dy.length:Int),i.b.spare,i.b.a.rq):=by rw[dq.iO,fc (by omega)]
   rw[eq]at BM ⊢;refine⟨i.b.a,rfl,oM,λ_ _=>⟨trivial,⟨i.b.ej.map zC,zC ⟨i.dm,i.b.a.dy.length⟩,z8 2 i.b.ej i.dm⟩,rfl,rfl,rfl,⟨by rw[gy];exact hle,by rw[gy];omega⟩,λ_ _=>⟨(),?_⟩⟩⟩
   exact kp
def yId:DP.ok Tryz.prog 243:=gu mixed (dw YZ (dw z5b (dw yDi fg))) 0 (λ_=>[]) (λ_=>[]) [] Tryz.func243 yWi
structure Bo where
 b:dq
 id:Int
 dm:Int
 dr:Int
def dq.leads (b:dq) (s dm:Int):Bool:=match b.dz s with
 |[]=>ay
 |r::_=>je s dm r.dm
def dq.qq (b:dq) (id s dm:Int):dq:=if b.leads s dm=ay then b.jd id s else b
def dq.pn (b:dq) (s id dm dr:Int):dq:=
 let b2:=(b.qq id s dm).fw s dm
 let x:=b2.1.a.push b2.2 id dr (b.leads s dm)
 {b2.1 with a:=x.1,at_:=tF id ⟨s,dm,x.2.1⟩ b2.1.at_}
def dq.iz (b:dq) (s id dm dr:Int):dq×Int:=
 if dr<1\/1000000<dr then(b,24)else if(km b.at_ id).isSome=ay then(b,25)else if 250<=b.at_.length then(b,13)else(b.pn s id dm dr,0)
def yLr (s:Int):fy:=fi Bo (λi=>[.nm 0 0,zB i.id,zB s,zB i.dm,zB i.dr]) (λi=>[yE i.b]) (λi=>i.b.fit) (λi=>zB (i.b.iz s i.id i.dm i.dr).2) (λi=>[yE (i.b.iz s i.id i.dm i.dr).1])
def y0t:List (Nat×gm):=[(44,bj 14)]
def GX:fy:=yLr 1
def GW:fy:=yLr 2
structure BaJ where
 i:Bo
 s:Bool
def Um:fy:=fi BaJ (λj=>[.nm 0 0,zB j.i.id,zB (zE j.s),zB j.i.dm,zB j.i.dr]) (λj=>[yE j.i.b]) (λj=>j.i.b.fit) (λj=>zB (j.i.b.iz (zE j.s) j.i.id j.i.dm j.i.dr).2) (λj=>[yE (j.i.b.iz (zE j.s) j.i.id j.i.dm j.i.dr).1])
structure HN where
 s:gv
 inst:Int
 id:Int
 sd:Bool
 dm:Int
 dr:Int
def gv.AQ (s:gv) (n:Int):dq:=s.ei.getD n.toNat nu
def gv.iz (i:HN):gv×Int:=
 if i.inst<0\/i.s.ei.length<=i.inst then(i.s,20)else if(Cy i.s.wh i.id).isSome=ay then(i.s,25)else if 250<=i.s.wh.length then(i.s,13)else if i.s.p.dm i.inst i.dm≠0 then(i.s,i.s.p.dm i.inst i.dm)
 else
  let x:=(i.s.AQ i.inst).iz (zE i.sd) i.id i.dm i.dr
  ({i.s with ei:=i.s.ei.set i.inst.toNat x.1,wh:=if x.2=0 then Ju i.id i.inst i.s.wh else i.s.wh},x.2)
@[reducible] def gv.fit (s:gv):Prop:=s.p.small/\s.ei.length<=1000000/\∀b∈s.ei,b.fit
def Kn:fy:=fi HN (λi=>[.nm 0 0,zB i.inst,zB i.id,zB (zE i.sd),zB i.dm,zB i.dr]) (λi=>[zF i.s]) (λi=>i.s.fit) (λi=>zB (gv.iz i).2) (λi=>[zF (gv.iz i).1])
def tO (a:oH):Prop:=(a.b.a.du.length<=1000000/\(a.b.a.free≠0->∃(b:Slot),b∈a.b.a.du/\b.used=az)/\∀(b:aK),b∈a.b.a.dy->b.last=(-1)\/0<=b.last/\b.last<(↑a.b.a.du.length:Int))/\a.b.a.dy.length<=100000/\a.b.fm.length<=100000/\a.b.ej.length<=100000/\a.b.spare.length<=100000
def lS (a:DB):Prop:=a.a.du.length<=1000000/\(a.a.free≠0->∃(b:Slot),b∈a.a.du/\b.used=az)/\∀(b:aK),b∈a.a.dy->b.last=(-1)\/0<=b.last/\b.last<(↑a.a.du.length:Int)
def yS (a:Bo):=(a.b.iz 1 a.id a.dm a.dr)
def zKn (a:oH) (b:Bo) (c:Bool):Prop:=(tO a)/\fa (True/\∃(e:DB),e.n=(zQ a).snd/\e.id=b.id/\e.dr=b.dr/\e.top=c/\am dv 3 zI e.a=am dv 3 zI (zQ a).fst.a/\(lS e)/\fa ((∀(g:Value×List D),g∈jm (zQ a).fst.at_->lr (ba ab b.id) g.fst=ay)/\dx ((yS b).snd=0/\(yS b).fst.iH=(zQ a).fst.iH/\(yS b).fst.iG=(zQ a).fst.iG/\(yS b).fst.gp=(zQ a).fst.gp/\(yS b).fst.gl=(zQ a).fst.gl/\am dv 3 zI (yS b).fst.a=am dv 3 zI (yN e).fst/\ac zC (yS b).fst.fm=ac zC (zQ a).fst.fm/\ac zC (yS b).fst.ej=ac zC (zQ a).fst.ej/\jm (yS b).fst.at_=u7 (ba ab b.id) [dI 1,dI b.dm,dI ((yN e).snd.fst)] (jm (zQ a).fst.at_)/\iE (yS b).fst.spare=iE (zQ a).fst.spare/\True)))
@[reducible] def QQ (a:dq)(R:Prop):Prop:=ap 276 2 (ac zC a.fm)=ap 276 2 (ac zC a.fm)/\ap 276 2 (ac zC a.ej)=ap 276 2 (ac zC a.ej)/\av (jm a.at_)=av (jm a.at_)/\R
def V' (a:Bool->Prop) (b:Bool) (c:Int) (d:Int) (e:Int) (f:Bo):Prop:=a b/\dl (ao [V.d (dI c),V.d (dI d),V.d (dI e)] 286)/\dl (ao [V.nm 1 0,V.own 2,V.own 3,V.mp 4,V.d (dI f.b.iH),V.d (dI f.b.iG),V.own 5,V.d (D.v (.bool f.b.gp)),V.d (D.v (.bool f.b.gl))] (273:TypeId))/\dl (am dv 3 zI f.b.a)/\QQ f.b (dl (ap 3 1 (iE f.b.spare)))
def Wh (a:Ej) (b:Bo) (c:Int) (d:Bool->Prop) (e:Int) (f:Int) (g:Int):Prop:=a.x=b.dm/\a.y=c/\True/\fa (∃(j:Bool),j=je a.side a.x a.y/\V' d j e f g b)
def VU (a:Bool->Prop) (b:Int) (c:Int) (d:Int) (e:Bo):Prop:=∃(f:Bool),f=ay/\V' a f b c d e
def mT (a:Bo):Prop:=(yS a).fst.iH=a.b.iH/\(yS a).fst.iG=a.b.iG/\(yS a).fst.gp=a.b.gp/\(yS a).fst.gl=a.b.gl/\am dv 3 zI (yS a).fst.a=am dv 3 zI a.b.a/\ac zC (yS a).fst.fm=ac zC a.b.fm/\ac zC (yS a).fst.ej=ac zC a.b.ej/\jm (yS a).fst.at_=jm a.b.at_/\iE (yS a).fst.spare=iE a.b.spare/\True
def zMh (a:Bo):Prop:=dx ((yS a).snd=24/\mT a)
def tR (a:Bo) (b:Int) (c:Int) (d:Int) (e:Bool):Prop:=jH (ba ab a.id) (jm a.b.at_)=be [dI b,dI c,dI d]/\e=ay\/jH (ba ab a.id) (jm a.b.at_)=bg/\[dI b,dI c,dI d]=[dI 0,dI 0,dI 0]/\e=az
def tM (a:CK):Prop:=Q2 a.b.a a.b (a.b.spare.length<=1000000)
def kU (a:Int):=(!(decide (a=1)||decide (a=2)))
@[reducible] def Qe (a b:dq)(R:Prop):Prop:=a.iH=b.iH/\a.iG=b.iG/\a.gp=b.gp/\a.gl=b.gl/\am dv 3 zI a.a=am dv 3 zI b.a/\ac zC a.fm=ac zC b.fm/\ac zC a.ej=ac zC b.ej/\jm a.at_=jm b.at_/\iE a.spare=iE b.spare/\R
@[reducible] def QT (a b:dq)(R:Prop):Prop:=ac zC a.fm=ac zC b.fm/\ac zC a.ej=ac zC b.ej/\jm a.at_=jm b.at_/\iE a.spare=iE b.spare/\R
def yTi (i:Bo):Prop:=
 (∀(a:Value×List D),a∈jm i.b.at_->lr (ba ab i.id) a.fst=ay)/\∃(a:Bool),∃(b:Int),∃(c:Int),∃(d:Int),(tR i b c d a)/\∃(e:Int),e=1/\True/\fa (dp (kU e) (dx ((yS i).snd=21/\mT i)) (dp (decide (i.dr<1)) (zMh i) (dp (decide (i.dr>1000000)) (zMh i) (dp a (dx ((yS i).snd=25/\mT i)) (dp (decide ((↑(jm i.b.at_).length:Int)>=250)) (dx ((yS i).snd=13/\mT i)) (∃(g:Bool),∃(h:Bool->Prop),dp ((↑(ac zC i.b.fm).length:Int)==0) (VU h b c d i) (((0:Int)<=(0:Int)/\0<(↑(ac zC i.b.fm).length:Int))/\∃(j:Int),zD (ac zC i.b.fm) (Int.toNat 0) 0 1=be [dI j]/\∃(k:Ej),k.side=1/\Wh k i j h b c d)/\∀(j:Bool),h j->dp j (∃(k:CK),k.id=i.id/\dl ((1:Int))/\Qe k.b i.b ((tM k)/\fa (∃(m:oH),dl ((1:Int))/\m.dm=i.dm/\m.b.iH=k.id/\m.b.iG=k.b.iG/\m.b.gp=ay/\m.b.gl=k.b.gl/\am dv 3 zI m.b.a=am dv 3 zI (k.b.iQ 1)/\QT m.b k.b (zKn m i j)))) (∃(k:oH),dl ((1:Int))/\k.dm=i.dm/\Qe k.b i.b (zKn k i j))))))))
def yR (a:Bo):=(a.b.iz 2 a.id a.dm a.dr)
def ZX (a:oH) (b:Bo) (c:Bool):Prop:=(tO a)/\fa (True/\∃(e:DB),e.n=(zP a).snd/\e.id=b.id/\e.dr=b.dr/\e.top=c/\am dv 3 zI e.a=am dv 3 zI (zP a).fst.a/\(lS e)/\fa ((∀(g:Value×List D),g∈jm (zP a).fst.at_->lr (ba ab b.id) g.fst=ay)/\dx ((yR b).snd=0/\(yR b).fst.iH=(zP a).fst.iH/\(yR b).fst.iG=(zP a).fst.iG/\(yR b).fst.gp=(zP a).fst.gp/\(yR b).fst.gl=(zP a).fst.gl/\am dv 3 zI (yR b).fst.a=am dv 3 zI (yN e).fst/\ac zC (yR b).fst.fm=ac zC (zP a).fst.fm/\ac zC (yR b).fst.ej=ac zC (zP a).fst.ej/\jm (yR b).fst.at_=u7 (ba ab b.id) [dI 2,dI b.dm,dI ((yN e).snd.fst)] (jm (zP a).fst.at_)/\iE (yR b).fst.spare=iE (zP a).fst.spare/\True)))
def mW (a:Bo):Prop:=(yR a).fst.iH=a.b.iH/\(yR a).fst.iG=a.b.iG/\(yR a).fst.gp=a.b.gp/\(yR a).fst.gl=a.b.gl/\am dv 3 zI (yR a).fst.a=am dv 3 zI a.b.a/\ac zC (yR a).fst.fm=ac zC a.b.fm/\ac zC (yR a).fst.ej=ac zC a.b.ej/\jm (yR a).fst.at_=jm a.b.at_/\iE (yR a).fst.spare=iE a.b.spare/\True
def zLz (a:Bo):Prop:=dx ((yR a).snd=24/\mW a)
def ySy (i:Bo):Prop:=
 (∀(a:Value×List D),a∈jm i.b.at_->lr (ba ab i.id) a.fst=ay)/\∃(a:Bool),∃(b:Int),∃(c:Int),∃(d:Int),(tR i b c d a)/\∃(e:Int),e=2/\True/\fa (dp (kU e) (dx ((yR i).snd=21/\mW i)) (dp (decide (i.dr<1)) (zLz i) (dp (decide (i.dr>1000000)) (zLz i) (dp a (dx ((yR i).snd=25/\mW i)) (dp (decide ((↑(jm i.b.at_).length:Int)>=250)) (dx ((yR i).snd=13/\mW i)) (∃(g:Bool),∃(h:Bool->Prop),dp ((↑(ac zC i.b.ej).length:Int)==0) (VU h b c d i) (((0:Int)<=(0:Int)/\0<(↑(ac zC i.b.ej).length:Int))/\∃(j:Int),zD (ac zC i.b.ej) (Int.toNat 0) 0 1=be [dI j]/\∃(k:Ej),k.side=2/\Wh k i j h b c d)/\∀(j:Bool),h j->dp j (∃(k:CK),k.id=i.id/\dl ((2:Int))/\Qe k.b i.b ((tM k)/\fa (∃(m:oH),dl ((2:Int))/\m.dm=i.dm/\m.b.iH=k.b.iH/\m.b.iG=k.id/\m.b.gp=k.b.gp/\m.b.gl=ay/\am dv 3 zI m.b.a=am dv 3 zI (k.b.iQ 2)/\QT m.b k.b (ZX m i j)))) (∃(k:oH),dl ((2:Int))/\k.dm=i.dm/\Qe k.b i.b (ZX k i j))))))))
def zMf (a:HN):Prop:=ar 1 (iE (gv.iz a).fst.p.dt)=ar 1 (iE a.s.p.dt)/\ar 1 (iE (gv.iz a).fst.p.settle)=ar 1 (iE a.s.p.settle)/\True
def zMg (a:HN):Prop:=yY (gv.iz a).fst.wh=yY a.s.wh/\zMf a
@[reducible] def Qk (a:HN)(R:Prop):Prop:=sb (gv.iz a).fst.p.code=sb a.s.p.code/\(gv.iz a).fst.p.tick=a.s.p.tick/\(gv.iz a).fst.p.low=a.s.p.low/\(gv.iz a).fst.p.high=a.s.p.high/\(gv.iz a).fst.p.wide=a.s.p.wide/\(gv.iz a).fst.p.gi=a.s.p.gi/\(gv.iz a).fst.p.top=a.s.p.top/\(gv.iz a).fst.p.least=a.s.p.least/\(gv.iz a).fst.p.part=a.s.p.part/\R
def rR (a:HN):Prop:=Qk a (aq 211 dq 6 zS (gv.iz a).fst.ei bg=aq 211 dq 6 zS a.s.ei bg/\zMg a)
def Zi (a:HN):Prop:=dx ((gv.iz a).snd=20/\rR a)
def rJ (a:BaJ):=(a.i.b.iz (zE a.s) a.i.id a.i.dm a.i.dr)
@[reducible] def Fa (a:Int)(b:List dq)(R:Prop):Prop:=a.toNat=a.toNat/\a.toNat<b.length/\R
def y2w (i:HN):Prop:=
 (∀(a:Value×List D),a∈yY i.s.wh->lr (ba ab i.id) a.fst=ay)/\∃(a:Bool),∃(b:Int),(jH (ba ab i.id) (yY i.s.wh)=be [dI b]/\a=ay\/jH (ba ab i.id) (yY i.s.wh)=bg/\[dI b]=[dI 0]/\a=az)/\dp (decide (i.inst>=0)) (dp (!decide (i.inst<(↑i.s.ei.length:Int))) (Zi i) (dp a (dx ((gv.iz i).snd=25/\rR i)) (dp (decide ((↑(yY i.s.wh).length:Int)>=250)) (dx ((gv.iz i).snd=13/\rR i)) (∃(c:AX),Qb c.p i.s.p (c.a=i.inst/\c.b=i.dm/\(qQ c)/\fa (dp (c.p.dm c.a c.b !=0) (dx ((gv.iz i).snd=c.p.dm c.a c.b/\rR i)) ((0<=i.inst/\i.inst<(↑i.s.ei.length:Int))/\i.inst.toNat<i.s.ei.length/\∃(e:dq),i.s.ei[i.inst.toNat]?=be e/\∃(f:BaJ),f.i.id=i.id/\zE f.s=zE i.sd/\f.i.dm=i.dm/\f.i.dr=i.dr/\yE f.i.b=yE e/\((f.i.b.a.du.length<=1000000/\(f.i.b.a.free≠0->∃(g:Slot),g∈f.i.b.a.du/\g.used=az)/\∀(g:aK),g∈f.i.b.a.dy->g.last=(-1)\/0<=g.last/\g.last<(↑f.i.b.a.du.length:Int))/\f.i.b.a.dy.length<=100000/\f.i.b.fm.length<=100000/\f.i.b.ej.length<=100000/\f.i.b.spare.length<=100000)/\fa (∃(h:dq),yE (rJ f).fst=yE h/\Fa i.inst i.s.ei (dp ((rJ f).snd==0) ((∀(j:Value×List D),j∈yY i.s.wh->lr (ba ab i.id) j.fst=ay)/\dx ((gv.iz i).snd=(rJ f).snd/\Qk i (aq 211 dq 6 zS (gv.iz i).fst.ei bg=aq 211 dq 6 zS (i.s.ei.set i.inst.toNat h) bg/\yY (gv.iz i).fst.wh=u7 (ba ab i.id) [dI i.inst] (yY i.s.wh)/\zMf i))) (dx ((gv.iz i).snd=(rJ f).snd/\Qk i (aq 211 dq 6 zS (gv.iz i).fst.ei bg=aq 211 dq 6 zS (i.s.ei.set i.inst.toNat h) bg/\zMg i)))))))))))) (Zi i)
def zRa {α:Type} {f:α->α} {Q:α->Prop} (hf:∀x,Q x->Q (f x)):∀{l:List α} (i:Nat),(∃x∈l,Q x)->∃x∈l.modify i f,Q x
 |[],i,⟨x,hx,_⟩=>by cases hx
 |a::l,0,⟨x,hx,q⟩=>by
  rcases jq.1 hx with rfl|hx
  ·exact⟨f x,iS,hf x q⟩
  ·exact⟨x,jc _ hx,q⟩
 |a::l,i+1,⟨x,hx,q⟩=>by
  rw[Rl];rcases jq.1 hx with rfl|hx
  ·exact⟨x,iS,q⟩
  ·obtain⟨y,hy,hq⟩:=zRa hf (l:=l) i ⟨x,hx,q⟩;exact⟨y,jc _ hy,hq⟩
def yMb {a:dv} (h:a.fit) (n:Int) (t:Bool):(a.mf n t).fit:=by
 obtain⟨h1,h2,h3⟩:=h;rw[dv.mf];split
 ·refine⟨by simpa using h1,λhf=> ?_,by simpa using h3⟩;exact zRa (f:=λs:Slot=>{s with top:=t}) (Q:=λs=>s.used=az) (λx hx=>hx) _ (h2 hf)
 ·exact⟨h1,h2,h3⟩
def yIu {b:dq} (h:b.a.fit) (s:Int):(b.iQ s).fit:=by
 rw[dq.iQ]
 repeat' split
 all_goals first|exact h|exact yMb h _ _
def yJa {a:dv} (h:a.fit):a.rq.fit:=by
 obtain⟨h1,h2,h3⟩:=h;refine⟨h1,h2,λq hq=> ?_⟩;rcases oK.1 hq with hq|hq
 ·exact h3 q hq
 ·rw[uc.1 hq];exact .inl rfl
def z3b {b:dq} (h:b.a.fit):b.iO.2.2.fit:=by
 rw[dq.iO];split
 ·exact yJa h
 ·exact h
def lO {b:dq} (h:b.a.fit) (s p:Int):(b.fw s p).1.a.fit:=by
 rw[dq.fw]
 repeat' split
 ·exact h
 ·exact z3b h
 ·exact z3b h
def yIr (b:dq) (s:Int):(b.iQ s).du.length=b.a.du.length/\(b.iQ s).dy=b.a.dy:=by
 have ht:∀n t,(b.a.mf n t).du.length=b.a.du.length/\(b.a.mf n t).dy=b.a.dy:=by
  intro n t;rw[dv.mf];split
  ·exact⟨by simp,rfl⟩
  ·exact⟨rfl,rfl⟩
 rw[dq.iQ]
 repeat' split
 all_goals first|exact⟨rfl,rfl⟩|exact ht _ _
def zVq {b:dq} (h:b.fit) (id s:Int):(b.jd id s).fit:=by
 obtain⟨h1,h2,h3,h4,h5⟩:=h;have hl:=yIr b s;rw[dq.jd];split
 all_goals exact⟨yIu h1 s,by rw[hl.2];exact h2,h3,h4,h5⟩
def zVo {b:dq} (h:b.fit):b.small:=by
 obtain⟨⟨h1,_⟩,h2,h3,h4,h5⟩:=h;exact⟨⟨h1,oM⟩,oM,oM,oM⟩
def y3v (i:Bo) (h:GX.dp i):yTi i:=by
 have te:i.b.fit:=h;have qf:=zVo te;unfold yTi QT fa dx Qe zMh dx VU Wh fa V' QQ zKn fa dx zQ lS tO yN kU tM Q2 tR mT yS dI;have FF:∀(b:dq) (x:Int),u7 (ba ab i.id) [D.v (.int .i64 1),D.v (.int .i64 i.dm),D.v (.int .i64 x)] (jm b.at_)=jm (tF i.id ⟨1,i.dm,x⟩ b.at_):=λb x=>Yq i.id ⟨1,i.dm,x⟩ b.at_
 refine⟨wU _ _,(km i.b.at_ i.id).isSome,_,_,_,Nc _ _,1,rfl,trivial,λ_ _=> ?_⟩;refine Cv.dp.mk (λc=>absurd c Z8) λ_=> ?_
 refine zH (λc=> ?_) (λc=>zH (λd=> ?_) (λd=> ?_))
 ·have ha:i.b.iz 1 i.id i.dm i.dr=(i.b,24):=by rw[dq.iz,fc (.inl c)]
  rw[ha];exact kp
 ·have ha:i.b.iz 1 i.id i.dm i.dr=(i.b,24):=by rw[dq.iz,fc (.inr d)]
  rw[ha];exact kp
 have hq:¬(i.dr<1\/1000000<i.dr):=by omega
 refine Cv.dp.mk (λe=> ?_) (λe=> ?_)
 ·have ha:i.b.iz 1 i.id i.dm i.dr=(i.b,25):=by rw[dq.iz,eg hq,fc e]
  rw[ha];exact kp
 have hlen:(jm i.b.at_).length=i.b.at_.length:=by simp[jm]
 rw[hlen];refine zH (λf=> ?_) (λf=> ?_)
 ·have ha:i.b.iz 1 i.id i.dm i.dr=(i.b,13):=by rw[dq.iz,eg hq,eg (by rw[e];decide),fc (by omega)]
  rw[ha];exact kp
 have ha:i.b.iz 1 i.id i.dm i.dr=(i.b.pn 1 i.id i.dm i.dr,0):=by rw[dq.iz,eg hq,eg (by rw[e];decide),eg (by omega)]
 rw[ha];simp only[gy];refine⟨ay,λx=>x=i.b.leads 1 i.dm,Cv.dp.mk (λg=>⟨ay,rfl,?_,gg⟩) (λg=> ?_),λx hx=> ?_⟩
 ·have:i.b.fm=[]:=xu (by have:(i.b.fm.length:Int)=0:=(by simpa using g);omega);rw[dq.leads,eQ,this]
 ·obtain⟨r,l,hl⟩:∃r l,i.b.fm=r::l:=by
   cases hb:i.b.fm with
   |nil=>rw[hb]at g;exact absurd g Z8
   |cons r l=>exact⟨r,l,rfl⟩
  refine⟨⟨oM,by rw[hl,iC];omega⟩,r.dm,ju (x:=r) (by rw[hl];rfl) (by simp[zC]) rfl,⟨1,i.dm,r.dm⟩,rfl,rfl,rfl,trivial,λ_ _=>⟨_,rfl,?_,gg⟩⟩;rw[dq.leads,eQ,hl]
 subst hx;refine Cv.dp.mk (λg=> ?_) (λg=> ?_)
 ·have CU:i.b.qq i.id 1 i.dm=i.b.jd i.id 1:=by rw[dq.qq,fc g]
  have Sf:=zVq te i.id 1;have kr:i.b.pn 1 i.id i.dm i.dr={((i.b.jd i.id 1).fw 1 i.dm).1 with a:=(((i.b.jd i.id 1).fw 1 i.dm).1.a.push ((i.b.jd i.id 1).fw 1 i.dm).2 i.id i.dr (i.b.leads 1 i.dm)).1,at_:=tF i.id ⟨1,i.dm,(((i.b.jd i.id 1).fw 1 i.dm).1.a.push ((i.b.jd i.id 1).fw 1 i.dm).2 i.id i.dr (i.b.leads 1 i.dm)).2.1⟩ ((i.b.jd i.id 1).fw 1 i.dm).1.at_}:=by
   simp only[dq.pn,CU]
  refine⟨⟨i.b,i.id⟩,rfl,trivial,iw ⟨rfl,qf,λ_ _=>⟨⟨i.b.jd i.id 1,i.dm⟩,trivial,ni (iJ ⟨rfl,Sf,λ_ _=>⟨trivial,?_⟩⟩)⟩⟩⟩;refine⟨⟨((i.b.jd i.id 1).fw 1 i.dm).1.a,((i.b.jd i.id 1).fw 1 i.dm).2,i.id,i.dr,i.b.leads 1 i.dm⟩,mn ⟨rfl,lO Sf.1 1 i.dm,λ_ _=>⟨wU _ _,(),?_⟩⟩⟩;dsimp only;rw[kr,FF]
  exact kp
 ·have CU:i.b.qq i.id 1 i.dm=i.b:=by rw[dq.qq,eg (by rw[g];decide)]
  have kr:i.b.pn 1 i.id i.dm i.dr={(i.b.fw 1 i.dm).1 with a:=((i.b.fw 1 i.dm).1.a.push (i.b.fw 1 i.dm).2 i.id i.dr (i.b.leads 1 i.dm)).1,at_:=tF i.id ⟨1,i.dm,((i.b.fw 1 i.dm).1.a.push (i.b.fw 1 i.dm).2 i.id i.dr (i.b.leads 1 i.dm)).2.1⟩ (i.b.fw 1 i.dm).1.at_}:=by
   simp only[dq.pn,CU]
  refine⟨⟨i.b,i.dm⟩,trivial,ni (iJ ⟨rfl,te,λ_ _=>⟨trivial,?_⟩⟩)⟩;refine⟨⟨(i.b.fw 1 i.dm).1.a,(i.b.fw 1 i.dm).2,i.id,i.dr,i.b.leads 1 i.dm⟩,mn ⟨rfl,lO te.1 1 i.dm,λ_ _=>⟨wU _ _,(),?_⟩⟩⟩;dsimp only;rw[kr,FF]
  exact kp
def yLt:GX.ok Tryz.prog 232:=gu mixed (dw Jr (dw m8 (dw yMm (dw yIz (dw z4l fg))))) 0 (λ_=>y0t) (λ_=>[]) [0] Tryz.func232 y3v
def y6v (i:Bo) (h:GW.dp i):ySy i:=by
 have te:i.b.fit:=h;have qf:=zVo te;unfold ySy QT fa dx Qe zLz dx ZX fa dx zP lS tO yN mW yR VU Wh fa V' QQ kU tM Q2 tR dI;have FF:∀(b:dq) (x:Int),u7 (ba ab i.id) [D.v (.int .i64 2),D.v (.int .i64 i.dm),D.v (.int .i64 x)] (jm b.at_)=jm (tF i.id ⟨2,i.dm,x⟩ b.at_):=λb x=>Yq i.id ⟨2,i.dm,x⟩ b.at_
 refine⟨wU _ _,(km i.b.at_ i.id).isSome,_,_,_,Nc _ _,2,rfl,trivial,λ_ _=> ?_⟩;refine Cv.dp.mk (λc=>absurd c Z8) λ_=> ?_
 refine zH (λc=> ?_) (λc=>zH (λd=> ?_) (λd=> ?_))
 ·have ha:i.b.iz 2 i.id i.dm i.dr=(i.b,24):=by rw[dq.iz,fc (.inl c)]
  rw[ha];exact kp
 ·have ha:i.b.iz 2 i.id i.dm i.dr=(i.b,24):=by rw[dq.iz,fc (.inr d)]
  rw[ha];exact kp
 have hq:¬(i.dr<1\/1000000<i.dr):=by omega
 refine Cv.dp.mk (λe=> ?_) (λe=> ?_)
 ·have ha:i.b.iz 2 i.id i.dm i.dr=(i.b,25):=by rw[dq.iz,eg hq,fc e]
  rw[ha];exact kp
 have hlen:(jm i.b.at_).length=i.b.at_.length:=by simp[jm]
 rw[hlen];refine zH (λf=> ?_) (λf=> ?_)
 ·have ha:i.b.iz 2 i.id i.dm i.dr=(i.b,13):=by rw[dq.iz,eg hq,eg (by rw[e];decide),fc (by omega)]
  rw[ha];exact kp
 have ha:i.b.iz 2 i.id i.dm i.dr=(i.b.pn 2 i.id i.dm i.dr,0):=by rw[dq.iz,eg hq,eg (by rw[e];decide),eg (by omega)]
 rw[ha];simp only[gy];refine⟨ay,λx=>x=i.b.leads 2 i.dm,Cv.dp.mk (λg=>⟨ay,rfl,?_,gg⟩) (λg=> ?_),λx hx=> ?_⟩
 ·have:i.b.ej=[]:=xu (by have:(i.b.ej.length:Int)=0:=(by simpa using g);omega);rw[dq.leads,l8,this]
 ·obtain⟨r,l,hl⟩:∃r l,i.b.ej=r::l:=by
   cases hb:i.b.ej with
   |nil=>rw[hb]at g;exact absurd g Z8
   |cons r l=>exact⟨r,l,rfl⟩
  refine⟨⟨oM,by rw[hl,iC];omega⟩,r.dm,ju (x:=r) (by rw[hl];rfl) (by simp[zC]) rfl,⟨2,i.dm,r.dm⟩,rfl,rfl,rfl,trivial,λ_ _=>⟨_,rfl,?_,gg⟩⟩;rw[dq.leads,l8,hl]
 subst hx;refine Cv.dp.mk (λg=> ?_) (λg=> ?_)
 ·have CU:i.b.qq i.id 2 i.dm=i.b.jd i.id 2:=by rw[dq.qq,fc g]
  have Sf:=zVq te i.id 2;have kr:i.b.pn 2 i.id i.dm i.dr={((i.b.jd i.id 2).fw 2 i.dm).1 with a:=(((i.b.jd i.id 2).fw 2 i.dm).1.a.push ((i.b.jd i.id 2).fw 2 i.dm).2 i.id i.dr (i.b.leads 2 i.dm)).1,at_:=tF i.id ⟨2,i.dm,(((i.b.jd i.id 2).fw 2 i.dm).1.a.push ((i.b.jd i.id 2).fw 2 i.dm).2 i.id i.dr (i.b.leads 2 i.dm)).2.1⟩ ((i.b.jd i.id 2).fw 2 i.dm).1.at_}:=by
   simp only[dq.pn,CU]
  refine⟨⟨i.b,i.id⟩,rfl,trivial,iw ⟨rfl,qf,λ_ _=>⟨⟨i.b.jd i.id 2,i.dm⟩,trivial,ni (iJ ⟨rfl,Sf,λ_ _=>⟨trivial,?_⟩⟩)⟩⟩⟩;refine⟨⟨((i.b.jd i.id 2).fw 2 i.dm).1.a,((i.b.jd i.id 2).fw 2 i.dm).2,i.id,i.dr,i.b.leads 2 i.dm⟩,mn ⟨rfl,lO Sf.1 2 i.dm,λ_ _=>⟨wU _ _,(),?_⟩⟩⟩;dsimp only;rw[kr,FF]
  exact kp
 ·have CU:i.b.qq i.id 2 i.dm=i.b:=by rw[dq.qq,eg (by rw[g];decide)]
  have kr:i.b.pn 2 i.id i.dm i.dr={(i.b.fw 2 i.dm).1 with a:=((i.b.fw 2 i.dm).1.a.push (i.b.fw 2 i.dm).2 i.id i.dr (i.b.leads 2 i.dm)).1,at_:=tF i.id ⟨2,i.dm,((i.b.fw 2 i.dm).1.a.push (i.b.fw 2 i.dm).2 i.id i.dr (i.b.leads 2 i.dm)).2.1⟩ (i.b.fw 2 i.dm).1.at_}:=by
   simp only[dq.pn,CU]
  refine⟨⟨i.b,i.dm⟩,trivial,ni (iJ ⟨rfl,te,λ_ _=>⟨trivial,?_⟩⟩)⟩;refine⟨⟨(i.b.fw 2 i.dm).1.a,(i.b.fw 2 i.dm).2,i.id,i.dr,i.b.leads 2 i.dm⟩,mn ⟨rfl,lO te.1 2 i.dm,λ_ _=>⟨wU _ _,(),?_⟩⟩⟩;dsimp only;rw[kr,FF]
  exact kp
def yRs:GW.ok Tryz.prog 232:=gu mixed (dw Jr (dw m8 (dw yUl (dw yId (dw z4l fg))))) 0 (λ_=>y0t) (λ_=>[]) [0] Tryz.func232 y6v
def y0f:Um.ok Tryz.prog 232:=λj=>match j with
 |⟨i,az⟩=>yLt i
 |⟨i,ay⟩=>yRs i
def xBb (i:HN) (h:Kn.dp i):y2w i:=by
 obtain⟨hp,Ax,hb⟩:i.s.fit:=h;unfold y2w Qb Fa fa dx Qk Zi dx rJ rR Qk zMg zMf qQ o7 dI;simp only[z6u];have uk:(yY i.s.wh).length=i.s.wh.length:=by simp[yY]
 rw[uk];have out (e:i.inst<0\/i.s.ei.length<=i.inst):gv.iz i=(i.s,20):=by rw[gv.iz,fc e]
 refine⟨cX _ _,(Cy i.s.wh i.id).isSome,_,y4p _ _,zH (λc=>Cv.dp.mk (λd=> ?_) (λd=> ?_)) (λc=> ?_)⟩
 ·have d:¬i.inst<(i.s.ei.length:Int):=by simpa using d
  rw[out (.inr (by omega))];exact kp
 ·have d:i.inst<(i.s.ei.length:Int):=by simpa using d
  have hn:¬(i.inst<0\/(i.s.ei.length:Int)<=i.inst):=by omega
  refine Cv.dp.mk (λe=> ?_) (λe=>zH (λf=> ?_) (λf=> ?_))
  ·rw[gv.iz,eg hn,fc e];exact kp
  ·rw[gv.iz,eg hn,eg (by rw[e];decide),fc (by omega)];exact kp
  ·refine⟨⟨i.s.p,i.inst,i.dm⟩,iw (mn ⟨rfl,hp,λ_ _=>Cv.dp.mk (λg=> ?_) (λg=> ?_)⟩)⟩
   ·have g:i.s.p.dm i.inst i.dm≠0:=by simpa using g
    rw[gv.iz,eg hn,eg (by rw[e];decide),eg (by omega),fc g];exact kp
   ·have g:i.s.p.dm i.inst i.dm=0:=by simpa using g
    obtain⟨x,hx⟩:=z6 (l:=i.s.ei) (i:=i.inst.toNat) oM;have hba:i.s.AQ i.inst=x:=zY hx;have ha:gv.iz i=({i.s with ei:=i.s.ei.set i.inst.toNat (x.iz (zE i.sd) i.id i.dm i.dr).1,wh:=if(x.iz (zE i.sd) i.id i.dm i.dr).2=0 then Ju i.id i.inst i.s.wh else i.s.wh},(x.iz (zE i.sd) i.id i.dm i.dr).2):=by
     rw[gv.iz,eg hn,eg (by rw[e];decide),eg (by omega),eg (by simp[g])];simp only[hba]
    refine⟨⟨oM,oM⟩,oM,x,hx,⟨⟨x,i.id,i.dm,i.dr⟩,i.sd⟩,mn ⟨rfl,hb x (ku hx),λ_ _=>⟨(x.iz (zE i.sd) i.id i.dm i.dr).1,rfl,trivial,oM,Cv.dp.mk (λz=>⟨cX _ _,?_⟩) (λz=> ?_)⟩⟩⟩
    ·have z:(x.iz (zE i.sd) i.id i.dm i.dr).2=0:=by simpa using z
     rw[ha,z];simp only[if_true]
     exact kp
    ·have z:¬(x.iz (zE i.sd) i.id i.dm i.dr).2=0:=by simpa using z
     rw[ha,eg z]
     exact kp
 ·rw[out (.inl (by omega))];exact kp
def yXo:Kn.ok Tryz.prog 220:=gu mixed (dw Pt (dw y0f fg)) 1 (λ_=>[]) (λ_=>[]) [0] Tryz.func220 xBb
def DN:fy:=fi (List UInt8) (λs=>[sV s]) (λ_=>[]) (λs=>s.length<=1099511627776) (λs=>yL (vB s)) (λ_=>[])
def y0e (s:List UInt8):List gm:=[{ι:=Nat×Nat,du:=λx=>[(3,zB x.2),(7,.nm 0 0)],rows:=λx=>[.iter (sb s) x.1]}]
def y0i:List (Nat×gm):=[(20,bj 29)]
def BZ:fy:=fi ff (λp=>[nk p]) (λ_=>[]) ff.small (λp=>zB p.check) (λ_=>[])
def yMe:List gm:=[{ι:=Nat,du:=λj=>[(3,zB j)],rows:=λ_=>[]},{ι:=Nat,du:=λj=>[(4,zB j)],rows:=λ_=>[]},{ι:=Nat,du:=λj=>[(5,zB j)],rows:=λ_=>[]}]
def yMr:List (Nat×gm):=[(12,bj 19),(32,bj 58),(40,bj 90),(68,bj 136),(96,bj 168),(104,bj 176),(112,bj 204)]
def BY:fy:=fi ff (λp=>[nk p]) (λ_=>[]) ff.small (λp=>zB p.count) (λ_=>[])
def DM:fy:=fi aL (λi=>[nk i.p,zB i.n]) (λ_=>[]) (λi=>i.p.small) (λi=> .iZ [zB (i.p.gj i.n).1,zB (i.p.gj i.n).2.1,yL (i.p.gj i.n).2.2]) (λ_=>[])
def yUn (i:aL):List gm:=[{ι:=Nat,du:=λm=>[(8,zB (yP i.p.dt.length m)),(9,zB m)],rows:=λ_=>[]},
 {ι:=Nat×Nat,du:=λm=>[(8,zB ((yP i.p.dt.length m.1+m.2:Nat):Int)),(9,zB m.1),(10,zB ((m.1+1+m.2:Nat):Int))],rows:=λ_=>[]}]
def kN (x:ff):Int:=2+zG x.dt.length 0 3
def zV (x:ff):Int:=1+zG x.tick 0 9
def qO (n:Nat):List Int:=(ak n).map λ(i:Nat)=>10*(i:Int)+3
def kZ (t:Int) (n:Nat):List Int:=(ak n).map λ(i:Nat)=>t*(10+(i:Int))
def ib (x:ff):ff:=⟨[206,169],qO (kN x).toNat,zV x,-20*zV x,100*zV x,zV x*(5+zG x.wide 0 60),1+zG x.gi 0 2,zG x.top 0 9,1+zG x.least 0 4,zG x.part 0 100,kZ (zV x) (kN x).toNat⟩
@[reducible] def ff.raw (x:ff):Prop:=gr x.tick/\gr x.wide/\gr x.gi/\gr x.top/\gr x.least/\gr x.part/\x.dt.length<=9223372036854775807
def C0:fy:=fi ff (λx=>[nk x]) (λ_=>[]) ff.raw (λx=>nk (ib x)) (λ_=>[])
def xGm (x:ff) (w:Int) (j:Nat):List fj:=[.cells [sV [206,169],.own 1,zB (zV x),zB (-20*zV x),zB (100*zV x),zB w,zB (1+zG x.gi 0 2),zB (zG x.top 0 9),zB (1+zG x.least 0 4),zB (zG x.part 0 100),.own 2] 25,.own 3 1 (iE (qO j)),.own 2 1 (iE (kZ (zV x) j))]
def xFe (x:ff):List fj:=[.cells [sV [206,169],.d (.v (.slice bg 0 0)),zB (zV x),zB (-20*zV x),zB (100*zV x),zB 0,zB (1+zG x.gi 0 2),zB (zG x.top 0 9),zB (1+zG x.least 0 4),zB (zG x.part 0 100),.d (.v (.slice bg 0 0))] 25]
def y3j (x:ff):List gm:=[{ι:=Nat,du:=λj=>[(5,.nm 0 0),(6,zB j)],rows:=λj=>xGm x (zV x*(5+zG x.wide 0 60)) j}]
def y5i (x:ff):List (Nat×gm):=[(12,{ι:=Unit,du:=λ_=>[(5,.nm 0 0)],oZ:=λ_=>[],lu:=λ_=>[],rows:=λ_=>xFe x})]
def pW (a:Bool->Prop) (b:Bool) (c:List UInt8) (d:Nat×Nat):Prop:=a b/\dl (au (sb c) (d.fst+(bo (sb c) d.fst).snd))
def qR (a:List UInt8) (b:Nat×Nat):=(↑(bo (sb a) b.fst).fst:Int)
def zCh (a:List UInt8) (b:Nat×Nat) (c:Bool->Prop):Prop:=∃(d:Bool),d=!(qR a b) !=930/\pW c d a b
def aC (a:Bool->Prop) (b:List UInt8) (c:Nat×Nat):Prop:=∃(d:Bool),d=!false/\pW a d b c
def yEc (s:List UInt8):Prop:=
 ∃(a:Nat×Nat),(↑a.snd:Int)=0/\sb s=sb s/\a.fst=0/\∃(b:Nat×Nat->Prop),∃(c:Nat×Nat->Nat),b a/\∀(d:Nat×Nat),b d->dp (d.fst.blt (sb s).size) (∃(e:Bool),∃(f:Bool->Prop),dp (decide ((qR s d)>=65)) (dp (decide ((qR s d)<=90)) (∃(g:Bool),g=!true/\pW f g s d) (dp (decide ((qR s d)>=913)) (dp (decide ((qR s d)<=937)) (zCh s d f) (aC f s d)) (aC f s d))) (dp (decide ((qR s d)>=913)) (dp (decide ((qR s d)<=937)) (zCh s d f) (aC f s d)) (aC f s d))/\∀(g:Bool),f g->dp g (dx (vB s=az/\True)) (c9 d s b c)) (dp (decide ((↑d.snd:Int)>=1)) (dx (vB s=decide ((↑d.snd:Int)<=4)/\True)) (dx (vB s=az/\True)))
def nV (a:ff):Prop:=ao [V.d (gI a),V.own 0,V.d (dI a.tick),V.d (dI a.low),V.d (dI a.high),V.d (dI a.wide),V.d (dI a.gi),V.d (dI a.top),V.d (dI a.least),V.d (dI a.part),V.own 1] 25=ao [V.d (gI a),V.own 0,V.d (dI a.tick),V.d (dI a.low),V.d (dI a.high),V.d (dI a.wide),V.d (dI a.gi),V.d (dI a.top),V.d (dI a.least),V.d (dI a.part),V.own 1] 25/\mM a
def eD (a:Nat) (b:Nat->Prop) (c:Nat->Nat) (d:ff):Prop:=∃(e:Nat),QP e a b c (nV d)
def zBa (a:Bool->Prop) (b:ff) (c:Nat) (d:Nat->Prop) (e:Nat->Nat):Prop:=∀(f:Bool),a f->dp f (dx (b.check=1/\True)) (eD c d e b)
def kE (a:Bool->Prop) (b:Bool) (c:ff):Prop:=a b/\nV c
def yT (a:Bool->Prop) (b:ff):Prop:=∃(c:Bool),c=ay/\kE a c b
def z6x (p:ff):Prop:=
 ∃(a:List UInt8),sb a=sb p.code/\a.length<=1099511627776/\fa (dp (!vB a) (dx (p.check=12/\True)) (∃(c:Bool),∃(d:Bool->Prop),dp (decide ((xM p)<2)) (yT d p) (∃(e:Bool),e=decide ((xM p)>6)/\kE d e p)/\∀(e:Bool),d e->dp e (dx (p.check=1/\True)) (∃(f:Nat),(↑f:Int)=0/\∃(g:Nat->Prop),∃(h:Nat->Nat),g f/\∀(j:Nat),g j->dp (decide ((↑j:Int)<(xM p))) (∃(k:Bool),∃(l:Bool->Prop),((0<=(↑j:Int)/\(↑j:Int)<(xM p))/\∃(m:Int),zD (iE p.dt) (↑j:Int).toNat 0 1=be [dI m]/\dp (decide (m<0)) (yT l p) ((0<=(↑j:Int)/\(↑j:Int)<(xM p))/\∃(n:Int),zD (iE p.dt) (↑j:Int).toNat 0 1=be [dI n]/\dp (decide (n>1199)) (yT l p) (dp (decide ((↑j:Int)>0)) ((0<=ab.wrap ((↑j:Int)-1)/\ab.wrap ((↑j:Int)-1)<(xM p))/\∃(q:Int),zD (iE p.dt) (ab.wrap ((↑j:Int)-1)).toNat 0 1=be [dI q]/\(0<=(↑j:Int)/\(↑j:Int)<(xM p))/\∃(r:Int),zD (iE p.dt) (↑j:Int).toNat 0 1=be [dI r]/\∃(s:Bool),s=decide (q>=r)/\kE l s p) (∃(q:Bool),q=az/\kE l q p))))/\zBa l p j g h) (∃(k:Bool),∃(l:Bool->Prop),dp (decide (p.tick<1)) (yT l p) (dp (decide (p.tick>1000)) (yT l p) (IB p (dp (p.low.tmod p.tick !=0) (yT l p) (IB p (dp (p.high.tmod p.tick !=0) (yT l p) (IB p (∃(m:Bool),m=(p.wide.tmod p.tick !=0)/\kE l m p)))))))/\∀(m:Bool),l m->dp m (dx (p.check=22/\True)) (∃(n:Nat),(↑n:Int)=0/\∃(q:Nat->Prop),∃(r:Nat->Nat),q n/\∀(s:Nat),q s->dp (decide ((↑s:Int)<(vT p))) ((0<=(↑s:Int)/\(↑s:Int)<(vT p))/\∃(t:Int),zD (iE p.settle) (↑s:Int).toNat 0 1=be [dI t]/\IB p (dp (t.tmod p.tick !=0) (dx (p.check=22/\True)) (eD s q r p))) (∃(t:Bool),∃(u:Bool->Prop),dp (decide (p.low<(-1000000))) (yT u p) (dp (decide (p.low>=p.high)) (yT u p) (dp (decide (p.high>1000000)) (yT u p) (dp (decide (p.wide<0)) (yT u p) (∃(v:Bool),v=decide (p.wide>ab.wrap (p.high-p.low))/\kE u v p))))/\∀(v:Bool),u v->dp v (dx (p.check=23/\True)) (dp ((vT p) !=(xM p)) (dx (p.check=1/\True)) (∃(w:Nat),(↑w:Int)=0/\∃(x:Nat->Prop),∃(y:Nat->Nat),x w/\∀(z:Nat),x z->dp (decide ((↑z:Int)<(vT p))) (∃(ow:Bool),∃(og:Bool->Prop),((0<=(↑z:Int)/\(↑z:Int)<(vT p))/\∃(iW:Int),zD (iE p.settle) (↑z:Int).toNat 0 1=be [dI iW]/\dp (decide (iW<p.low)) (yT og p) ((0<=(↑z:Int)/\(↑z:Int)<(vT p))/\∃(qh:Int),zD (iE p.settle) (↑z:Int).toNat 0 1=be [dI qh]/\∃(jg:Bool),jg=decide (qh>p.high)/\kE og jg p))/\zBa og p z x y) (∃(ow:Bool),∃(og:Bool->Prop),dp (decide (p.gi<1)) (yT og p) (∃(iW:Bool),iW=decide (p.gi>3)/\kE og iW p)/\∀(iW:Bool),og iW->dp iW (dx (p.check=31/\True)) (∃(qh:Bool),∃(jg:Bool->Prop),dp (decide (p.top<0)) (yT jg p) (dp (decide (p.top>1000000)) (yT jg p) (dp (decide (p.least<1)) (yT jg p) (dp (decide (p.least>1000)) (yT jg p) (dp (decide (p.part<0)) (yT jg p) (∃(mq:Bool),mq=decide (p.part>100)/\kE jg mq p)))))/\∀(mq:Bool),jg mq->dp mq (dx (p.check=24/\True)) (dx (p.check=0/\True))))))))))))
def z3t (p:ff):Prop:=
 ∃(a:ff),Wm a p
def dJ (a:aL) (b:Nat×Nat):=(↑(yP a.p.dt.length b.fst+b.snd):Int)
def yFr (i:aL):Prop:=
 ∃(a:ff),Qb a i.p ((zW a)/\fa (dp (a.check !=0) (dL i) (dp (decide (i.n<0)) (dL i) (dp (decide (i.n<(uH i))) (VS i) (∃(c:Nat),(gR i c)=(uH i)/\(↑c:Int)=0/\∃(d:Nat->Prop),∃(e:Nat->Nat),d c/\∀(f:Nat),d f->dp (decide ((↑f:Int)<(uH i))) (∃(g:Nat×Nat),(dJ i g)=(gR i f)/\(↑g.fst:Int)=(↑f:Int)/\(↑(g.fst+1+g.snd):Int)=ab.wrap ((↑f:Int)+1)/\∃(h:Nat×Nat->Prop),∃(j:Nat×Nat->Nat),h g/\∀(k:Nat×Nat),h k->dp (decide ((↑(k.fst+1+k.snd):Int)<(uH i))) (dp ((dJ i k)==i.n) (dx ((i.p.gj i.n).fst=(↑k.fst:Int)/\(i.p.gj i.n).snd.fst=(↑(k.fst+1+k.snd):Int)/\(i.p.gj i.n).snd.snd=ay/\True)) (∃(l:Nat×Nat),(dJ i l)=ab.wrap ((dJ i k)+1)/\(↑l.fst:Int)=(↑k.fst:Int)/\(↑(l.fst+1+l.snd):Int)=ab.wrap ((↑(k.fst+1+k.snd):Int)+1)/\h l/\j l<j k/\pO i)) (∃(l:Nat),(gR i l)=(dJ i k)/\(↑l:Int)=ab.wrap ((↑k.fst:Int)+1)/\VZ d l e f i)) (dL i))))))
def yX (a:qu):Prop:=((-9223372036854775808)<=a.n/\a.n<=9223372036854775807)/\(-1000000)<=a.lo/\a.lo<=a.hi/\a.hi<=1000000
def qL (a:qu):=(1+zG a.n a.lo a.hi)
def qN:=(D.v (Value.slice bg 0 0))
def jR:=(D.v (bc (ByteArray.mk #[])))
def Z3 (a:ff):Prop:=ao (Sx.V.agg [V.d jR,V.d qN,V.d (dI 0),V.d (dI 0),V.d (dI 0),V.d (dI 0),V.d (dI 0),V.d (dI 0),V.d (dI 0),V.d (dI 0),V.d qN]).cl 25=ao (Sx.V.agg [V.d jR,V.d qN,V.d (dI 0),V.d (dI 0),V.d (dI 0),V.d (dI 0),V.d (dI 0),V.d (dI 0),V.d (dI 0),V.d (dI 0),V.d qN]).cl 25/\nV a
def ZN (a:ff) (b:qu) (c:qu) (d:qu) (e:qu) (f:Unit->Prop):Prop:=∃(g:qu),g.n=a.part/\g.lo=0/\g.hi=100/\(yX g)/\fa (∃(j:Unit),sb [(206:UInt8),(169:UInt8)]=ByteArray.mk #[(206:UInt8),(169:UInt8)]/\True/\zV a=ab.wrap (qL b)/\(-20)*zV a=ab.wrap ((-20)*ab.wrap (qL b))/\100*zV a=ab.wrap (100*ab.wrap (qL b))/\dl ((0:Int))/\1+zG a.gi 0 2=ab.wrap (qL c)/\zG a.top 0 9=zG d.n d.lo d.hi/\1+zG a.least 0 4=ab.wrap (qL e)/\zG a.part 0 100=zG g.n g.lo g.hi/\True/\f j/\Z3 a)
def Z2 (a:ff) (b:qu) (c:qu) (d:qu) (e:qu) (f:Unit->Prop):Prop:=a.part=a.part/\ZN a b c d e f
def zLf (a:ff) (b:qu) (c:qu) (d:qu) (e:Unit->Prop):Prop:=a.part=a.part/\dl a.least/\∃(f:qu),f.n=a.least/\f.lo=0/\f.hi=4/\(yX f)/\fa (Z2 a b c d f e)
def zKq (a:ff) (b:qu) (c:qu) (d:Unit->Prop):Prop:=a.part=a.part/\dl a.least/\dl a.top/\∃(e:qu),e.n=a.top/\e.lo=0/\e.hi=9/\(yX e)/\fa (zLf a b c e d)
def jU (a:ff):=(5+zG a.wide 0 60)
def vR (a:ff):=(kZ (zV a) (kN a).toNat)
@[reducible] def QE (a:ff)(R:Prop):Prop:=zV a=zV a/\(-20)*zV a=(-20)*zV a/\100*zV a=100*zV a/\zV a*(jU a)=zV a*(jU a)/\1+zG a.gi 0 (2:Int)=(1:Int)+zG a.gi 0 2/\zG a.top 0 9=zG a.top 0 (9:Int)/\(1:Int)+zG a.least 0 (4:Int)=(1:Int)+zG a.least 0 4/\zG a.part 0 100=zG a.part 0 100/\R
def yRw (x:ff):Prop:=
 ∃(a:qu),a.n=(xM x)/\a.lo=0/\a.hi=3/\(yX a)/\fa (∃(c:qu),c.n=x.tick/\c.lo=0/\c.hi=9/\(yX c)/\fa (dx (∃(f:Unit->Prop),((∃(g:qu),g.n=x.gi/\g.lo=0/\g.hi=2/\(yX g)/\fa (dl x.part/\dl x.least/\dl x.top/\(∃(j:qu),j.n=x.top/\j.lo=0/\j.hi=9/\(yX j)/\fa (dl x.part/\dl x.least/\(∃(l:qu),l.n=x.least/\l.lo=0/\l.hi=4/\(yX l)/\fa (dl x.part/\(ZN x c g j l f)/\Z2 x c g j l f))/\zLf x c g j f))/\zKq x c g f))/\dl x.part/\dl x.least/\dl x.top/\dl x.gi/\∃(g:qu),g.n=x.gi/\g.lo=0/\g.hi=2/\(yX g)/\fa (zKq x c g f))/\∀(g:Unit),f g->∃(h:qu),h.n=x.wide/\h.lo=0/\h.hi=60/\(yX h)/\fa (∃(k:Nat),(↑k:Int)=0/\dl (sb [(206:UInt8),(169:UInt8)])/\zV x=zV x/\dl ((-20)*zV x)/\dl (100*zV x)/\zV x*(jU x)=ab.wrap (ab.wrap (qL c)*ab.wrap (5+zG h.n h.lo h.hi))/\1+zG x.gi 0 (2:Int)=(1:Int)+zG x.gi 0 2/\zG x.top 0 9=zG x.top 0 (9:Int)/\(1:Int)+zG x.least 0 (4:Int)=(1:Int)+zG x.least 0 4/\dl (zG x.part 0 100)/\iE (qO k)=[]/\iE (kZ (zV x) k)=[]/\∃(l:Nat->Prop),∃(m:Nat->Nat),l k/\∀(n:Nat),l n->dp (decide ((↑n:Int)<ab.wrap (2+zG a.n a.lo a.hi))) (((iE (qO n)).length+1)*(8:Nat)<=(140737488355328:Nat)/\((iE (kZ (zV x) n)).length+1)*(8:Nat)<=(140737488355328:Nat)/\∃(p:Nat),(↑p:Int)=ab.wrap ((↑n:Int)+1)/\dl (sb [(206:UInt8),(169:UInt8)])/\QE x (iE (qO p)=iE (qO n)++[[dI (ab.wrap (ab.wrap (10*(↑n:Int))+3))]]/\iE (kZ (zV x) p)=iE (kZ (zV x) n)++[[dI (ab.wrap (ab.wrap (qL c)*ab.wrap (10+(↑n:Int))))]]/\l p/\m p<m n/\Z3 x)) (dx (dl (sb [(206:UInt8),(169:UInt8)])/\iE (qO (kN x).toNat)=iE (qO n)/\QE x (iE (vR x)=iE (kZ (zV x) n)/\True)))))))
def yVt (s:List UInt8) (h:DN.dp s):yEc s:=by
 have h:s.length<=1099511627776:=h;have hr:=zLb s;unfold yEc dx aC zCh qR pW c9;refine⟨(0,0),rfl,rfl,rfl,λx=>x.1<=s.length/\x.2+(gW s x.1).length=(jO s).length/\(jO s).all fC=((gW s x.1).all λy=>fC y.2),λx=>s.length-x.1,⟨oM,by rw[jO,gy];simp,by rw[jO,List.all_map];rfl⟩,?_⟩;rintro⟨p,n⟩ ⟨h1,h2,h3⟩;dsimp only at h1 h2 h3 ⊢;refine Cv.dp.mk (λhp=> ?_) (λhp=> ?_)
 ·have hp:p<s.length:=by simpa[yj]using hp
  have hw:=aJ s hp;rw[wG hp,iC]at h2;rw[wG hp,List.all_cons]at h3;generalize hc:(bo (sb s) p).1=c at h2 h3 ⊢;generalize hww:(bo (sb s) p).2=w at h2 h3 hw ⊢;dsimp only at h3;have g0:∀b:Bool,(b=ay->fC c=ay)->(b=az->fC c=az)->b=fC c:=λb e1 e2=>by cases b<;>simp_all
  refine⟨ay,λb=>b= !fC c,?_,λb hb=> ?_⟩
  ·refine zH (λc1=>zH (λc2=>⟨_,rfl,?_,gg⟩) (λc2=>zH (λc3=>zH (λc4=>⟨_,rfl,?_,gg⟩) (λc4=>⟨_,rfl,?_,gg⟩)) (λc3=>⟨_,rfl,?_,gg⟩))) (λc1=>zH (λc3=>zH (λc4=>⟨_,rfl,?_,gg⟩) (λc4=>⟨_,rfl,?_,gg⟩)) (λc3=>⟨_,rfl,?_,gg⟩))
   all_goals congr 1
   all_goals refine g0 _ (λe=> ?_) (λe=> ?_)
   all_goals first|(simp[fC]at*;done)|(simp[fC]at*;omega)
  ·subst hb;refine Cv.dp.mk (λe=>⟨(),?_,trivial⟩) (λe=>⟨(p+w,n+1),?_,rfl,rfl,⟨hw.2,by(first|omega|(dsimp only;omega)),?_⟩,by(first|omega|(dsimp only;omega)),trivial⟩)
   ·have e:fC c=az:=by simpa using e
    rw[vB,h3,e];rfl
   ·rw[iq (by omega)];rfl
   ·have e:fC c=ay:=by simpa using e
    rw[h3,e];rfl
 ·have hp:s.length<=p:=by have:=Xg hp;simpa using this
  rw[uP hp]at h2 h3;have h3:(jO s).all fC=ay:=h3;have hn:n=(jO s).length:=by simpa using h2
  have jr:(s=[])↔(jO s).length=0:=by
   constructor
   ·intro e;subst e;rfl
   ·intro e;cases s with
    |nil=>rfl
    |cons b l=>
     rw[jO,gy,wG (by simp)]at e;simp at e
  refine zH (λc=>⟨(),?_,trivial⟩) (λc=>⟨(),?_,trivial⟩)
  ·have:¬s=[]:=by rw[jr];omega
   rw[vB,h3,jk this,hn];simp only[Ao];congr 1;simp only[eq_iff_iff];omega
  ·have:s=[]:=by rw[jr];omega
   rw[vB,this];rfl
def yKj:DN.ok Tryz.prog 202:=gu mixed fg 0 (λ_=>y0i) (λs=>y0e s) [] Tryz.func202 yVt
def lW:∀(l:List Int) (a:Int),l.foldl min a<=a/\∀x∈l,l.foldl min a<=x
 |[],a=>⟨xq _,by simp⟩
 |b::l,a=>by
  obtain⟨h1,h2⟩:=lW l (min a b);rw[A7];refine⟨oM,λx hx=> ?_⟩;rcases jq.1 hx with rfl|hx
  ·omega
  ·exact h2 x hx
def tV:∀(l:List Int) (a:Int),a<=l.foldl max a/\∀x∈l,x<=l.foldl max a
 |[],a=>⟨xq _,by simp⟩
 |b::l,a=>by
  obtain⟨h1,h2⟩:=tV l (max a b);rw[A7];refine⟨oM,λx hx=> ?_⟩;rcases jq.1 hx with rfl|hx
  ·omega
  ·exact h2 x hx
def zEv:∀(l:List Int) (a:Int),l.foldl min a=a\/l.foldl min a∈l
 |[],a=> .inl rfl
 |b::l,a=>by
  rw[A7];rcases zEv l (min a b)with h|h
  ·rcases Int.le_total a b with e|e
   ·left;rw[h];omega
   ·right;rw[h,show min a b=b by omega];exact iS
  ·exact .inr (jc _ h)
def zEu:∀(l:List Int) (a:Int),l.foldl max a=a\/l.foldl max a∈l
 |[],a=> .inl rfl
 |b::l,a=>by
  rw[A7];rcases zEu l (max a b)with h|h
  ·rcases Int.le_total a b with e|e
   ·right;rw[h,show max a b=b by omega];exact iS
   ·left;rw[h];omega
  ·exact .inr (jc _ h)
def yDe {l:List Int} {x:Int} (h:x∈l):eT l<=x:=by
 cases l with
 |nil=>cases h
 |cons a l=>
  rw[eT,ag,af];rcases jq.1 h with rfl|h
  ·exact(lW l x).1
  ·exact(lW l a).2 x h
def yDs {l:List Int} {x:Int} (h:x∈l):x<=AY l:=by
 cases l with
 |nil=>cases h
 |cons a l=>
  rw[AY,ag,af];rcases jq.1 h with rfl|h
  ·exact(tV l x).1
  ·exact(tV l a).2 x h
def z6e {l:List Int} (h:l≠[]):eT l∈l:=by
 cases l with
 |nil=>exact absurd rfl h
 |cons a l=>
  rw[eT,ag,af];rcases zEv l a with h|h
  ·rw[h];exact iS
  ·exact jc _ h
def z3d {l:List Int} (h:l≠[]):AY l∈l:=by
 cases l with
 |nil=>exact absurd rfl h
 |cons a l=>
  rw[AY,ag,af];rcases zEu l a with h|h
  ·rw[h];exact iS
  ·exact jc _ h
def yNz (p:ff) (h:BZ.dp p):z6x p:=by
 obtain⟨h1,h2,h3⟩:p.small:=h;unfold z6x IB fa dx zBa dx yT kE eD QP nV gI mM xM vT dI;simp only[y8];refine⟨p.code,rfl,h1,λ_ _=>Cv.dp.mk (λc1=>⟨(),by rw[ff.check,fc c1],trivial⟩) λc1=> ?_⟩;have c1:vB p.code=ay:=by simpa using c1
 have e1:p.check=if !xP p.dt then 1 else if !kD p then 22 else if kF p then 23 else if xS p then 1 else if k0 p then 31 else if qJ p then 24 else 0:=by
  rw[ff.check,eg (by simp[c1])]
 refine⟨ay,λb=>b=(decide (p.dt.length<2)||decide (p.dt.length>6)),zH (λc=>⟨ay,rfl,?_,gg⟩) (λc=>⟨_,rfl,?_,gg⟩),λb hb=> ?_⟩
 ·rw[jk (show p.dt.length<2 by omega)];rfl
 ·rw[jt (show ¬p.dt.length<2 by omega),Ly];congr 1;simp only[eq_iff_iff];omega
 subst hb;refine Cv.dp.mk (λc2=> ?_) (λc2=> ?_)
 ·have:xP p.dt=az:=by
   simp only[NZ,tq]at c2;rw[xP];rcases c2 with c2|c2
   ·rw[jt (show ¬2<=p.dt.length by omega)];simp
   ·rw[jt (show ¬p.dt.length<=6 by omega)];simp
  exact⟨(),by rw[e1,fc (by rw[this];rfl)],trivial⟩
 have c2:2<=p.dt.length/\p.dt.length<=6:=by
  simp only[Hu,decide_eq_false_iff_not]at c2;omega
 have em:xP p.dt=(ak p.dt.length).all (kP p.dt):=by
  rw[xP,jk c2.1,jk c2.2];simp
 refine⟨0,rfl,λj=>j<=p.dt.length/\∀k<j,kP p.dt k=ay,λj=>p.dt.length-j,⟨oM,λk hk=>by omega⟩,?_⟩;rintro j ⟨g1,g2⟩;refine zH (λhj=> ?_) (λhj=> ?_)
 ·obtain⟨m,hm⟩:=z6 (l:=p.dt) (i:=j) oM;have XT:p.dt.getD j 0=m:=zY hm;refine⟨ay,λb=>b= !kP p.dt j,⟨⟨oM,oM⟩,m,rm hm,zH (λc=>⟨ay,rfl,?_,gg⟩) (λc=>⟨⟨oM,oM⟩,m,rm hm,zH (λd=>⟨ay,rfl,?_,gg⟩) (λd=>zH (λe=> ?_) (λe=>⟨az,rfl,?_,gg⟩))⟩)⟩,λb hb=> ?_⟩
  ·rw[kP,XT,jt (show ¬0<=m by omega)];rfl
  ·rw[kP,XT,jt (show ¬m<=1199 by omega)];simp
  ·obtain⟨m',At⟩:=z6 (l:=p.dt) (i:=j-1) oM;rw[iq (by omega),show((j:Int)-1).toNat=j-1 by omega];refine⟨⟨oM,oM⟩,m',rm At,⟨oM,oM⟩,m,rm hm,_,rfl,?_,gg⟩;rw[kP,XT,zY At,jk (show 0<=m by omega),jk (show m<=1199 by omega),jt (show ¬j=0 by omega)];simp only[Ao,Ly];by_cases gn:m'<m
   ·rw[jk gn,jt (by omega)];rfl
   ·rw[jt gn,jk (by omega)];rfl
  ·rw[kP,XT,jk (show 0<=m by omega),jk (show m<=1199 by omega),jk (show j=0 by omega)];rfl
  ·subst hb;refine Cv.dp.mk (λc=>⟨(),?_,trivial⟩) (λc=>⟨j+1,by rw[iq (by omega)];rfl,⟨oM,λk hk=> ?_⟩,by(first|omega|(dsimp only;omega)),gg⟩)
   ·have c:kP p.dt j=az:=by simpa using c
    rw[e1,fc (by rw[em,zWa (k:=j) (by omega) c];rfl)]
   ·have c:kP p.dt j=ay:=by simpa using c
    rcases vh k j with h|h
    ·exact g2 k h
    ·obtain rfl:k=j:=by omega
     exact c
 have em:xP p.dt=ay:=by rw[em];exact z7a λk hk=>g2 k oM
 have e2:p.check=if !kD p then 22 else if kF p then 23 else if xS p then 1 else if k0 p then 31 else if qJ p then 24 else 0:=by
  rw[e1,eg (by simp[em])]
 have et:kD p=((decide (1<=p.tick) && decide (p.tick<=1000) && !kH p.tick p.low && !kH p.tick p.high && !kH p.tick p.wide) && !p.settle.any (kH p.tick)):=rfl;refine⟨ay,λb=>b= !(decide (1<=p.tick) && decide (p.tick<=1000) && !kH p.tick p.low && !kH p.tick p.high && !kH p.tick p.wide),zH (λd1=>⟨ay,rfl,?_,gg⟩) (λd1=>zH (λd2=>⟨ay,rfl,?_,gg⟩) (λd2=>⟨trivial,oM,Cv.dp.mk (λd3=>⟨ay,rfl,?_,gg⟩) (λd3=>⟨trivial,oM,Cv.dp.mk (λd4=>⟨ay,rfl,?_,gg⟩) (λd4=>⟨trivial,oM,_,rfl,?_,gg⟩)⟩)⟩)),λb hb=> ?_⟩
 ·rw[jt (show ¬1<=p.tick by omega)];rfl
 ·rw[jt (show ¬p.tick<=1000 by omega)];simp
 ·have d3:kH p.tick p.low=ay:=d3;rw[d3];simp
 ·have d4:kH p.tick p.high=ay:=d4;rw[d4];simp
 ·have d3:kH p.tick p.low=az:=d3;have d4:kH p.tick p.high=az:=d4;rw[d3,d4,jk (show 1<=p.tick by omega),jk (show p.tick<=1000 by omega)];show kH p.tick p.wide=_;simp
 subst hb;refine Cv.dp.mk (λc3=> ?_) (λc3=> ?_)
 ·have c3:(decide (1<=p.tick) && decide (p.tick<=1000) && !kH p.tick p.low && !kH p.tick p.high && !kH p.tick p.wide)=az:=by
   rw[De]at c3;exact c3
  exact⟨(),by rw[e2,fc (by rw[et,c3];rfl)],trivial⟩
 have c3:(decide (1<=p.tick) && decide (p.tick<=1000) && !kH p.tick p.low && !kH p.tick p.high && !kH p.tick p.wide)=ay:=by simpa using c3
 have ht1:1<=p.tick:=by
  simp only[lj,tq]at c3;exact c3.1.1.1.1
 rw[c3,Ao]at et;refine⟨0,rfl,λj=>j<=p.settle.length/\∀k<j,∀x,p.settle[k]? =be x->kH p.tick x=az,λj=>p.settle.length-j,⟨oM,λk hk=>by omega⟩,?_⟩;rintro j ⟨g1,g2⟩;refine zH (λhj=> ?_) (λhj=> ?_)
 ·obtain⟨m,hm⟩:=z6 (l:=p.settle) (i:=j) oM;refine⟨⟨oM,oM⟩,m,rm hm,trivial,oM,Cv.dp.mk (λc=>⟨(),?_,trivial⟩) (λc=>⟨j+1,by rw[iq (by omega)];rfl,⟨oM,λk hk x hx=> ?_⟩,by(first|omega|(dsimp only;omega)),gg⟩)⟩
  ·have c:kH p.tick m=ay:=c;have:p.settle.any (kH p.tick)=ay:=by rw[List.any_eq_true];exact⟨m,ku hm,c⟩
   rw[e2,fc (by rw[et,this];rfl)]
  ·rcases vh k j with h|h
   ·exact g2 k h x hx
   ·obtain rfl:k=j:=by omega
    rw[hm]at hx;cases hx;exact c
 have et:kD p=ay:=by
  rw[et];have:p.settle.any (kH p.tick)=az:=by
   rw[N0];intro x hx;obtain⟨k,hk⟩:=N7 hx;rw[g2 k (by have:=(jf.1 hk).1;omega) x hk];simp
  rw[this];rfl
 have e3:p.check=if kF p then 23 else if xS p then 1 else if k0 p then 31 else if qJ p then 24 else 0:=by
  rw[e2,eg (by simp[et])]
 refine⟨ay,λb=>b=kF p,zH (λd1=>⟨ay,rfl,?_,gg⟩) (λd1=>zH (λd2=>⟨ay,rfl,?_,gg⟩) (λd2=>zH (λd3=>⟨ay,rfl,?_,gg⟩) (λd3=>zH (λd4=>⟨ay,rfl,?_,gg⟩) (λd4=>⟨_,rfl,?_,gg⟩)))),λb hb=> ?_⟩
 ·simp[kF,d1]
 ·simp[kF,d2]
 ·simp[kF,d3]
 ·simp[kF,d4]
 ·rw[iq (by omega)];simp[kF,d1,d2,d3,d4]
 subst hb;refine Cv.dp.mk (λc4=>⟨(),by rw[e3,fc c4],trivial⟩) (λc4=> ?_);have e4:p.check=if xS p then 1 else if k0 p then 31 else if qJ p then 24 else 0:=by
  rw[e3,eg (by simp[c4])]
 refine Cv.dp.mk (λd6=>⟨(),?_,trivial⟩) (λd6=> ?_)
 ·have d6:¬(p.settle.length:Int)=p.dt.length:=by simpa using d6
  rw[e4,fc (by simp[xS];omega)]
 have d6:p.settle.length=p.dt.length:=by
  have:(p.settle.length:Int)=p.dt.length:=by simpa using d6
  omega
 have jr:p.settle≠[]:=by intro e;rw[e]at d6;simp at d6;omega
 refine⟨0,rfl,λj=>j<=p.settle.length/\∀k<j,∀x,p.settle[k]? =be x->p.low<=x/\x<=p.high,λj=>p.settle.length-j,⟨oM,λk hk=>by omega⟩,?_⟩;rintro j ⟨g3,g4⟩;refine zH (λhj=> ?_) (λhj=> ?_)
 ·obtain⟨m,hm⟩:=z6 (l:=p.settle) (i:=j) oM;have RV:=ku hm;refine⟨ay,λb=>b=(decide (m<p.low)||decide (m>p.high)),⟨⟨oM,oM⟩,m,rm hm,zH (λc=>⟨ay,rfl,?_,gg⟩) (λc=>⟨⟨oM,oM⟩,m,rm hm,_,rfl,?_,gg⟩)⟩,λb hb=> ?_⟩
  ·rw[jk c];rfl
  ·rw[jt c,Ly]
  ·subst hb;refine Cv.dp.mk (λc=>⟨(),?_,trivial⟩) (λc=>⟨j+1,by rw[iq (by omega)];rfl,⟨oM,λk hk x hx=> ?_⟩,by(first|omega|(dsimp only;omega)),gg⟩)
   ·have l1:=yDe RV;have l2:=yDs RV;rw[e4,fc (by
     simp only[NZ,tq]at c;simp only[xS,NZ,tq];rcases c with c|c
     ·left;right;omega
     ·right;omega)]
   ·rcases vh k j with h|h
    ·exact g4 k h x hx
    ·obtain rfl:k=j:=by omega
     rw[hm]at hx;cases hx;simp only[Hu,decide_eq_false_iff_not]at c;omega
 have qj:xS p=az:=by
  have all:∀x∈p.settle,p.low<=x/\x<=p.high:=λx hx=>by
   obtain⟨k,hk⟩:=N7 hx;exact g4 k (by have:=(jf.1 hk).1;omega) x hk
  have a1:=all _ (z6e jr);have a2:=all _ (z3d jr);simp only[xS,Hu,decide_eq_false_iff_not];omega
 have e5:p.check=if k0 p then 31 else if qJ p then 24 else 0:=by
  rw[e4,eg (by simp[qj])]
 refine⟨ay,λb=>b=k0 p,zH (λd1=>⟨ay,rfl,?_,gg⟩) (λd1=>⟨_,rfl,?_,gg⟩),λb hb=> ?_⟩
 ·simp[k0,d1]
 ·simp[k0,d1]
 subst hb;refine Cv.dp.mk (λc6=>⟨(),by rw[e5,fc c6],trivial⟩) (λc6=> ?_);have e6:p.check=if qJ p then 24 else 0:=by rw[e5,eg (by simp[c6])]
 refine⟨ay,λb=>b=qJ p,zH (λd1=>⟨ay,rfl,?_,gg⟩) (λd1=>zH (λd2=>⟨ay,rfl,?_,gg⟩) (λd2=>zH (λd3=>⟨ay,rfl,?_,gg⟩) (λd3=>zH (λd4=>⟨ay,rfl,?_,gg⟩) (λd4=>zH (λd5=>⟨ay,rfl,?_,gg⟩) (λd5=>⟨_,rfl,?_,gg⟩))))),λb hb=> ?_⟩
 ·simp[qJ,d1]
 ·simp[qJ,d2]
 ·simp[qJ,d3]
 ·simp[qJ,d4]
 ·simp[qJ,d5]
 ·simp[qJ,d1,d2,d3,d4,d5]
 subst hb;exact Cv.dp.mk (λc7=>⟨(),by rw[e6,fc c7],trivial⟩) (λc7=>⟨(),by rw[e6,eg (by simp[c7])],trivial⟩)
def zSv:BZ.ok Tryz.prog 168:=gu mixed (dw yKj fg) 0 (λ_=>yMr) (λ_=>yMe) [] Tryz.func168 yNz
def rS {p:ff} (h:p.check=0):p.count=p.dt.length+p.dt.length*(p.dt.length-1) / 2:=by rw[ff.count,fc h]
def zRp {p:ff} (h:p.check≠0):p.count=0:=by rw[ff.count,eg h]
def yTo (p:ff) (h:BY.dp p):z3t p:=by
 have hs:p.small:=h;unfold z3t Wm Qb fa dx xM zW o7;simp only[y8];refine⟨p,oF (iJ ⟨rfl,hs,λ_ _=>Cv.dp.mk (λc=>⟨(),?_,trivial⟩) (λc=>⟨trivial,Z8,(),?_,trivial⟩)⟩)⟩
 ·rw[zRp (by simpa using c)];rfl
 ·have c:p.check=0:=by simpa using c
  have m6:=(jE c).m6;have m2:=(jE c).m2;rw[rS c];generalize p.dt.length=n at*;have:n=2\/n=3\/n=4\/n=5\/n=6:=by omega
  rcases this with rfl|rfl|rfl|rfl|rfl<;>decide
def z7x:BY.ok Tryz.prog 117:=gu mixed (dw zSv fg) 0 (λ_=>[]) (λ_=>[]) [] Tryz.func117 yTo
def yRu:∀n≤6,∀a<n,∀b<n-1-a,jS n (yP n a+b) n 0=((a:Int),((a+1+b:Nat):Int),ay)/\yP n a+b<n+n*(n-1) / 2/\n<=yP n a+b:=by decide
def yJk:∀n≤6,yP n n=n+n*(n-1) / 2:=by decide
def yZw {p:ff} (h:p.check=0) {a b:Nat} (ha:a<p.dt.length) (hb:b<p.dt.length-1-a):p.gj ((yP p.dt.length a+b:Nat):Int)=((a:Int),((a+1+b:Nat):Int),ay):=by
 obtain⟨h1,h2,h3⟩:=yRu _ (jE h).m6 a ha b hb;rw[ff.gj,eg (by rw[rS h];omega),eg (by omega),om];exact h1
def yUu (i:aL) (h:DM.dp i):yFr i:=by
 have hs:i.p.small:=h;unfold yFr Qb fa dx dJ uH gR VS dx dL dx VZ pO Bi zW o7 dI;simp only[y8];refine⟨i.p,oF (iJ ⟨rfl,hs,λ_ _=>Cv.dp.mk (λc=> ?_) (λc=>zH (λc1=> ?_) (λc1=>zH (λc2=> ?_) (λc2=> ?_)))⟩)⟩
 ·rw[ff.gj,fc (by rw[zRp (by simpa using c)];omega)];exact kp
 ·rw[ff.gj,fc (.inl c1)];exact kp
 ·have c:i.p.check=0:=by simpa using c
  rw[ff.gj,eg (by rw[rS c];omega),fc c2];exact kp
 ·have c:i.p.check=0:=by simpa using c
  have m6:=(jE c).m6;obtain⟨k,hk⟩:∃k:Nat,i.n=k:=⟨i.n.toNat,oM⟩
  have sp:=λ(a b:Nat) ha hb=>yZw (p:=i.p) c (a:=a) (b:=b) ha hb
  have fe:=yJk _ m6;have out:i.p.count<=k->i.p.gj (k:Int)=(0,0,az):=λe=>by rw[ff.gj,fc (by omega)]
  rw[rS c,<- fe]at out;rw[hk]at c2 ⊢;generalize hn:i.p.dt.length=n at*;refine⟨0,rfl,rfl,λm=>m<=n/\yP n m<=k,λm=>n-m,⟨oM,by show n<=k;omega⟩,?_⟩;rintro m ⟨g1,g2⟩;have hf:=YS m6 g1;refine zH (λc4=> ?_) (λc4=> ?_)
  ·refine⟨(m,0),rfl,rfl,by rw[iq (by omega)];simp,λx=>x.1=m/\x.2<=n-1-m/\yP n m+x.2<=k,λx=>n-1-m-x.2,⟨rfl,by(first|omega|(dsimp only;omega)),by(first|omega|(dsimp only;omega))⟩,?_⟩;rintro⟨a,b⟩ ⟨g3,g4,g5⟩;dsimp only at g3 g4 g5 ⊢;subst g3;refine zH (λc5=>Cv.dp.mk (λe=> ?_) (λe=> ?_)) (λc5=> ?_)
   ·have e:((yP n a+b:Nat):Int)=(k:Int):=by simpa using e
    have:=sp a b oM oM;rw[e]at this;rw[this];exact kp
   ·have e:¬((yP n a+b:Nat):Int)=(k:Int):=by simpa using e
    refine⟨(a,b+1),?_,rfl,?_,⟨rfl,by(first|omega|(dsimp only;omega)),by(first|omega|(dsimp only;omega))⟩,by(first|omega|(dsimp only;omega)),gg⟩
    ·rw[iq (by omega)];dsimp only;omega
    ·rw[iq (by omega)];dsimp only;omega
   ·refine⟨a+1,?_,by rw[iq (by omega)];rfl,⟨oM,?_⟩,by(first|omega|(dsimp only;omega)),gg⟩
    ·rw[yP];omega
    ·rw[yP];omega
  ·obtain rfl:m=n:=by omega
   rw[out g2];exact kp
def yJi:DM.ok Tryz.prog 118:=gu mixed (dw zSv fg) 0 (λ_=>[]) (λi=>yUn i) [] Tryz.func118 yUu
def U8 (x:ff):1<=zV x/\zV x<=10:=by
 have:=y3 (n:=x.tick) (lo:=0) (hi:=9) oM;rw[zV];omega
def yOy (x:ff):2<=kN x/\kN x<=5:=by
 have:=y3 (n:=(x.dt.length:Int)) (lo:=0) (hi:=3) oM;rw[kN];omega
def Jp {a b m n:Int} (ha:0<=a/\a<=m) (hb:0<=b/\b<=n):0<=a*b/\a*b<=m*n:=by
 refine⟨NW ha.1 hb.1,?_⟩;exact Int.le_trans (Int.mul_le_mul_of_nonneg_right ha.2 hb.1) (Xq hb.2 oM)
def z2b (j:Nat):iE (qO (j+1))=iE (qO j)++[[D.v (.int .i64 (10*(j:Int)+3))]]:=by
 rw[qO,JI,jl,iE,jl];rfl
def z0b (t:Int) (j:Nat):iE (kZ t (j+1))=iE (kZ t j)++[[D.v (.int .i64 (t*(10+(j:Int))))]]:=by
 rw[kZ,JI,jl,iE,jl];rfl
def zBi (j:Nat):(qO j).length=j:=by simp[qO]
def pU (t:Int) (j:Nat):(kZ t j).length=j:=by simp[kZ]
def y8t (x:ff) (h:C0.dp x):yRw x:=by
 obtain⟨h1,h2,h3,h4,h5,h6,h7⟩:x.raw:=h;have hw: -1000000<=(0:Int):=by decide
 have bt:=y3 (n:=x.tick) (lo:=0) (hi:=9) oM;have bw:=y3 (n:=x.wide) (lo:=0) (hi:=60) oM;have br:=y3 (n:=x.gi) (lo:=0) (hi:=2) oM;have bl:=y3 (n:=x.least) (lo:=0) (hi:=4) oM;have bn:=y3 (n:=(x.dt.length:Int)) (lo:=0) (hi:=3) oM;have kt:=U8 x;have kn:=yOy x;have w1:ab.wrap (1+zG x.tick 0 9)=zV x:=iq oM;have w2:ab.wrap (-20*ab.wrap (1+zG x.tick 0 9))= -20*zV x:=by rw[w1];exact iq oM
 have w3:ab.wrap (100*ab.wrap (1+zG x.tick 0 9))=100*zV x:=by rw[w1];exact iq oM
 have w4:ab.wrap (1+zG x.gi 0 2)=1+zG x.gi 0 2:=iq oM;have w5:ab.wrap (1+zG x.least 0 4)=1+zG x.least 0 4:=iq oM;have w6:ab.wrap (2+zG x.dt.length 0 3)=kN x:=iq oM;have mb:=Jp (a:=zV x) (b:=5+zG x.wide 0 60) (m:=10) (n:=65) oM oM;have w7:ab.wrap (ab.wrap (1+zG x.tick 0 9)*ab.wrap (5+zG x.wide 0 60))=zV x*(5+zG x.wide 0 60):=by
  rw[w1,iq (x:=5+zG x.wide 0 60) (by omega)];exact iq oM
 unfold yRw QE fa dx vR jU zKq fa zLf fa Z2 ZN fa Z3 jR qN nV gI mM qL yX xM dI;simp only[y8];refine⟨⟨x.dt.length,0,3⟩,rfl,rfl,rfl,⟨⟨Z9,Z9⟩,Z9,Z9,Z9⟩,λ_ _=>⟨⟨x.tick,0,9⟩,rfl,rfl,rfl,⟨h1,Z9,Z9,Z9⟩,λ_ _=> ?_⟩⟩;dsimp only;refine⟨(),λ_=>True,?_,λ_ _=> ?_⟩
 ·repeat'(first|exact trivial|exact rfl|exact w1.symm|exact w2.symm|exact w3.symm|exact w4.symm|exact w5.symm|apply ax|refine⟨⟨x.gi,0,2⟩,rfl,rfl,rfl,⟨h3,Z9,Z9,Z9⟩,λ_ _=> ?_⟩|refine⟨⟨x.top,0,9⟩,rfl,rfl,rfl,⟨h4,Z9,Z9,Z9⟩,λ_ _=> ?_⟩|refine⟨⟨x.least,0,4⟩,rfl,rfl,rfl,⟨h5,Z9,Z9,Z9⟩,λ_ _=> ?_⟩|refine⟨⟨x.part,0,100⟩,rfl,rfl,rfl,⟨h6,Z9,Z9,Z9⟩,λ_ _=> ?_⟩|refine⟨(),?_⟩)
 ·refine⟨⟨x.wide,0,60⟩,rfl,rfl,rfl,⟨h2,Z9,Z9,Z9⟩,λ_ _=> ?_⟩;dsimp only;rw[w7,w6];refine⟨0,by(first|exact rfl|exact trivial),by(first|exact rfl|exact trivial),by(first|exact rfl|exact trivial),by(first|exact rfl|exact trivial),by(first|exact rfl|exact trivial),by(first|exact rfl|exact trivial),by(first|exact rfl|exact trivial),by(first|exact rfl|exact trivial),by(first|exact rfl|exact trivial),by(first|exact rfl|exact trivial),by(first|exact rfl|exact trivial),by(first|exact rfl|exact trivial),λj=>j<=(kN x).toNat,λj=>(kN x).toNat-j,oM,?_⟩;intro j hj;rw[zBi,pU];refine zH (λc=>⟨oM,oM,j+1,by rw[iq (by omega)];rfl,by(first|exact rfl|exact trivial),by(first|exact rfl|exact trivial),by(first|exact rfl|exact trivial),by(first|exact rfl|exact trivial),by(first|exact rfl|exact trivial),by(first|exact rfl|exact trivial),by(first|exact rfl|exact trivial),by(first|exact rfl|exact trivial),by(first|exact rfl|exact trivial),?_,?_,by(first|omega|(dsimp only;omega)),by(first|omega|(dsimp only;omega)),gg⟩) (λc=>⟨(),?_⟩)
  ·rw[z2b,iq (x:=10*(j:Int)) (by omega),iq (by omega)]
  ·have mj:=Jp (a:=zV x) (b:=10+(j:Int)) (m:=10) (n:=20) oM oM;rw[z0b,w1,iq (x:=10+(j:Int)) (by omega),iq (by omega)]
  ·have e:(kN x).toNat=j:=by omega
   rw[e];(repeat'(first|exact trivial|exact rfl|apply ax))
def G8:C0.ok Tryz.prog 7:=gu mixed (dw sy fg) 0 (λx=>y5i x) (λx=>y3j x) [] Tryz.func7 y8t
structure ie where
 kind:Int
 id:Int
 inst:Int
 side:Int
 dm:Int
 dr:Int
 least:Int
 time:Int
 label:List UInt8
 deriving DecidableEq
@[reducible] def ie.cells (c:ie):List V:=[zB c.kind,zB c.id,zB c.inst,zB c.side,zB c.dm,zB c.dr,zB c.least,zB c.time,sV c.label]
@[reducible] def C8 (c:ie):V:= .agg c.cells
def zk (c:ie):List D:=[.v (.int .i64 c.kind),.v (.int .i64 c.id),.v (.int .i64 c.inst),.v (.int .i64 c.side),.v (.int .i64 c.dm),.v (.int .i64 c.dr),.v (.int .i64 c.least),.v (.int .i64 c.time),.v (.string (sb c.label))]
def HV:ie:=⟨0,0,0,0,0,0,0,0,[]⟩
@[reducible] def ie.raw (c:ie):Prop:=gr c.kind/\gr c.id/\gr c.inst/\gr c.side/\gr c.dm/\gr c.dr/\gr c.least/\gr c.time
structure zc where
 p:ff
 c:ie
 i:Int
def uS (c:ie):Int:=if 4<1+zG c.kind 0 8 then 1 else 1+zG c.kind 0 8
def y9 (t:zc):ie:=⟨uS t.c,1+zG t.c.id 0 30,zG t.c.inst 0 (t.p.count-1),1+zG t.c.side 0 1,t.p.tick*zG t.c.dm 0 9,1+zG t.c.dr 0 11,0,0,[]⟩
def cM (c:ie):Int:=if c.time.tmod 5=3 then 3 else if c.time.tmod 5=2 then 2 else 1
def bZ (c:ie) (q:Int):Int:=if c.least.tmod 4=1 then zG c.least 0 q else 0
def xE (t:zc):ie:=
 let h:=y9 t
 if h.kind=1 then{h with id:=t.i+1,time:=cM t.c,least:=bZ t.c h.dr,dm:=if(t.p.gj h.inst).2.2=ay then h.dm-4*t.p.tick else h.dm+8*t.p.tick}
 else{h with dm:=if h.kind=4 then h.dm+5*t.p.tick else h.dm,side:=0,inst:=0}
def Kh:fy:=fi zc (λt=>[nk t.p,C8 t.c,zB t.i]) (λ_=>[]) (λt=>t.p.check=0/\t.p.small/\t.c.raw/\0<=t.i/\t.i<=1000000) (λt=>C8 (xE t)) (λ_=>[])
def cj (k:Nat):Nat×gm:=(k,{ι:=ie,du:=λ_=>[(7,.nm 0 0)],oZ:=λ_=>[(7,.nm 0 0)],lu:=λc=>[.cells c.cells 46],rows:=λc=>[.cells c.cells 46]})
def xBu:List (Nat×gm):=[cj 14,cj 54,cj 62,cj 70]
def U4 (a:ie) (b:ie) (c:ie->Prop) (d:zc):Prop:=sb a.label=sb b.label/\c a/\dl (ao (Sx.V.agg [V.d (dI 0),V.d (dI 0),V.d (dI 0),V.d (dI 0),V.d (dI 0),V.d (dI 0),V.d (dI 0),V.d (dI 0),V.d jR]).cl 46)/\dl (ao [V.d (dI d.c.kind),V.d (dI d.c.id),V.d (dI d.c.inst),V.d (dI d.c.side),V.d (dI d.c.dm),V.d (dI d.c.dr),V.d (dI d.c.least),V.d (dI d.c.time),V.d (D.v (bc (sb d.c.label)))] 46)/\Bi d.p (dl (ar 1 (iE d.p.dt)))
def Y3 (a:ie) (b:ie) (c:ie->Prop) (d:zc):Prop:=a.time=b.time/\U4 a b c d
@[reducible] def OO (a b:ie)(R:Prop):Prop:=a.id=b.id/\a.inst=b.inst/\a.side=b.side/\a.dm=b.dm/\a.dr=b.dr/\R
def ZC (a:ie) (b:ie) (c:ie->Prop) (d:zc):Prop:=OO a b (a.least=b.least/\Y3 a b c d)
def PD (a:ie) (b:ie->Prop) (c:zc):Prop:=∃(d:ie),d.kind=a.kind/\ZC d a b c
def zLy (a:zc) (b:qu) (c:ie):Prop:=(xE a).dr=ab.wrap (qL b)/\(xE a).least=c.least/\(xE a).time=c.time/\sb (xE a).label=sb c.label/\True
def zMc (a:zc) (b:ie):Prop:=(xE a).dr=b.dr/\(xE a).least=b.least/\(xE a).time=b.time/\sb (xE a).label=sb b.label/\True
@[reducible] def Qd (a b:ie)(R:Prop):Prop:=a.kind=b.kind/\a.id=b.id/\a.inst=b.inst/\a.side=b.side/\a.dm=b.dm/\a.dr=b.dr/\a.least=b.least/\a.time=b.time/\sb a.label=sb b.label/\R
def y0z (t:zc):Prop:=
 ∃(a:qu),a.n=t.c.kind/\a.lo=0/\a.hi=8/\(yX a)/\fa (∃(c:qu),c.n=t.c.id/\c.lo=0/\c.hi=30/\(yX c)/\fa (∃(e:ie),e.kind=ab.wrap (qL a)/\e.id=ab.wrap (qL c)/\e.inst=0/\e.side=0/\e.dm=0/\e.dr=0/\e.least=0/\e.time=0/\sb e.label=ByteArray.mk #[]/\∃(f:ie->Prop),dp (decide (e.kind>4)) (∃(g:ie),g.kind=1/\ZC g e f t) (PD e f t)/\∀(g:ie),f g->∃(h:ff),Qb h t.p ((zW h)/\fa (∃(k:qu),k.n=t.c.inst/\k.lo=0/\k.hi=ab.wrap ((↑h.count:Int)-1)/\(yX k)/\fa (∃(m:qu),m.n=t.c.side/\m.lo=0/\m.hi=1/\(yX m)/\fa (∃(p:qu),p.n=t.c.dr/\p.lo=0/\p.hi=11/\(yX p)/\fa (∃(r:qu),r.n=t.c.dm/\r.lo=0/\r.hi=9/\(yX r)/\fa (dl t.p.tick/\dp (g.kind==1) (∃(u:ie),u.kind=g.kind/\u.id=ab.wrap (t.i+1)/\u.inst=zG k.n k.lo k.hi/\u.side=ab.wrap (qL m)/\u.dm=ab.wrap (t.p.tick*zG r.n r.lo r.hi)/\u.dr=ab.wrap (qL p)/\u.least=g.least/\u.time=1/\sb u.label=sb g.label/\∃(v:ie->Prop),(ab=ab/\(5:Int)≠(0:Int)/\dp (t.c.time.tmod (5:Int)==(2:Int)) (∃(w:ie),w.kind=u.kind/\OO w u (w.least=u.least/\w.time=2/\U4 w u v t)) (PD u v t))/\∀(w:ie),v w->∃(x:ie),Qd x w (∃(y:ie->Prop),(ab=ab/\(5:Int)≠(0:Int)/\dp (t.c.time.tmod (5:Int)==(3:Int)) (∃(z:ie),z.kind=x.kind/\OO z x (z.least=x.least/\z.time=3/\U4 z x y t)) (PD x y t))/\∀(z:ie),y z->∃(ow:ie),Qd ow z (∃(og:ie->Prop),(ab=ab/\(4:Int)≠(0:Int)/\dp (t.c.least.tmod (4:Int)==(1:Int)) (∃(iW:qu),iW.n=t.c.least/\iW.lo=0/\iW.hi=ow.dr/\(yX iW)/\fa (∃(jg:ie),jg.kind=ow.kind/\OO jg ow (jg.least=zG iW.n iW.lo iW.hi/\Y3 jg ow og t))) (PD ow og t))/\∀(iW:ie),og iW->∃(qh:aL),Qb qh.p t.p (qh.n=iW.inst/\(j8 qh)/\fa (dp (!(qh.p.gj qh.n).snd.snd) (dx ((xE t).kind=iW.kind/\(xE t).id=iW.id/\(xE t).inst=iW.inst/\(xE t).side=iW.side/\(xE t).dm=ab.wrap (iW.dm+ab.wrap (8*t.p.tick))/\zMc t iW)) (dx ((xE t).kind=iW.kind/\(xE t).id=iW.id/\(xE t).inst=iW.inst/\(xE t).side=iW.side/\(xE t).dm=ab.wrap (iW.dm-ab.wrap (4*t.p.tick))/\zMc t iW))))))) (dp (g.kind==4) (dx ((xE t).kind=g.kind/\(xE t).id=g.id/\(xE t).inst=0/\(xE t).side=0/\(xE t).dm=ab.wrap (ab.wrap (t.p.tick*zG r.n r.lo r.hi)+ab.wrap (5*t.p.tick))/\zLy t p g)) (dx ((xE t).kind=g.kind/\(xE t).id=g.id/\(xE t).inst=0/\(xE t).side=0/\(xE t).dm=ab.wrap (t.p.tick*zG r.n r.lo r.hi)/\zLy t p g)))))))))))
end Sx
