/- Texts of ours, one behind the other: a walk that the kernel reckons, and contracts of functions. No condition. -/
import Derived.Test.YtmkgajpdangkaaaM8
namespace Sx
set_option linter.unusedVariables false
set_option linter.unusedSimpArgs false
set_option maxRecDepth 100000
open Go Cv Go.Proofs
def eM (s : Int) (F : List zH) : Prop := F.Pairwise fun o o' => btr s o'.price o.price=false
def vW (L : List zH) (s : Int) : List zH := L.filter fun o => decide (o.side = s)
structure BWf (p : Prd) (B : List (List zH)) : Prop where
  ok : BOk p B
  od : zZp B
  ub : ((whL 0 B).map (·.1)).Nodup
  srt : ∀ (k : Nat) (L : List zH),B[k]? = some L → ∀ s,s = 1 ∨ s = 2 → eM s (vW L s)
theorem z7z {s x y : Int} (h : btr s y x = false) (h2 : btr s x y = false) : x = y := by
  rw [btr] at h h2
  split at h
  · rename_i e; rw [if_pos e] at h2; have := of_decide_eq_false h; have := of_decide_eq_false h2; omega
  · rename_i e; rw [if_neg e] at h2; have := of_decide_eq_false h; have := of_decide_eq_false h2; omega
theorem zFo {s : Int} {b : Book} {Q : List (List Nat)} : ∀ {R : List yX},(R.Pairwise fun r r' => btr s r.price r'.price = true) → eM s (R.flatMap (b.rOrds Q s))
  | [],_ => List.Pairwise.nil
  | r :: R,h => by
    rw [List.pairwise_cons] at h
    rw [List.flatMap_cons,eM,List.pairwise_append]
    refine ⟨List.pairwise_of_forall_mem_list fun o ho o' ho' => ?_,zFo h.2,fun o ho o' ho' => ?_⟩
    · rw [(xH ho).2,(xH ho').2]; exact u9 _ _
    · obtain ⟨r',hr',ho'⟩ := List.mem_flatMap.1 ho'
      rw [(xH ho).2,(xH ho').2]; exact zId (h.1 r' hr')
theorem Book.Rep.srt {b : Book} {L : List zH} (h : b.Rep L) {s : Int} (hs : s = 1 ∨ s = 2) : eM s (vW L s) := by
  obtain ⟨Q,c,ht,rfl⟩ := h
  rw [vW,zAf hs]
  exact zFo (c.srt s hs)
theorem MSt.Rep.wf {s : MSt} {p : Prd} {B : List (List zH)} (h : s.Rep p B) (hb : BOk p B) : BWf p B := by
  refine ⟨hb,h.ords,h.ids,fun k L hL => ?_⟩
  obtain ⟨b,hb⟩ := z9 (l := s.books) (i := k) (by rw [h.bl]; exact (List.getElem?_eq_some_iff.1 hL).1)
  exact fun s hs => (h.bk k b L hb hL).srt hs
theorem zWl {L : List zH} (h : ∀ o ∈ L,zAd o) (hn : (L.map (·.id)).Nodup) (id q : Int) : ∀ o ∈ (y6 L id q).1,zAd o := by
  intro o ho
  rw [y6] at ho
  split at ho
  · exact h o ho
  split at ho
  · exact h o ho
  rename_i hb
  obtain ⟨o',ho',e⟩ := List.mem_filterMap.1 ho
  have h0 := h o' ho'
  split at e
  · rename_i e1
    have hg := dI hn ho'
    rw [e1] at hg
    rw [hg] at hb
    split at e
    · cases e
    · rename_i e2
      cases e
      have := h0.q
      exact ⟨h0.s,by dsimp only;omega⟩
  · cases e; exact h0
theorem zWu (L : List zH) (id q : Int) : (y6 L id q).1.length ≤ L.length := by
  rw [y6]
  split
  · exact Nat.le_refl _
  split
  · exact Nat.le_refl _
  exact List.length_filterMap_le _ _
theorem zUg {L : List zH} {s : Int} (h : eM s (vW L s)) (id q : Int) : eM s (vW (y6 L id q).1 s) := by
  rw [y6]
  split
  · exact h
  split
  · exact h
  have e : vW (kZ L id q) s = kZ (vW L s) id q := by
    rw [vW,vW,kZ,kZ,List.filter_filterMap,List.filterMap_filter]
    refine wX fun o _ => ?_
    by_cases e1 : o.id = id
    · rw [if_pos e1]
      by_cases e2 : o.qty = q
      · rw [if_pos e2]; simp
      · rw [if_neg e2]; by_cases e3 : o.side = s <;> simp [Option.filter,e3]
    · rw [if_neg e1]; by_cases e3 : o.side = s <;> simp [Option.filter,e3]
  rw [e,kZ]
  refine List.Pairwise.filterMap _ (fun a a' haa b hb b' hb' => ?_) h
  have g : ∀ {a b : zH},(if a.id = id then (if a.qty = q then none else some { a with qty := a.qty - q }) else some a) = some b → b.price = a.price := by
    intro a b e
    split at e
    · split at e
      · cases e
      · cases e; rfl
    · cases e; rfl
  rw [g hb,g hb']; exact haa
theorem zYv {B : List (List zH)} (h : ((whL 0 B).map (·.1)).Nodup) {k : Nat} {L L' : List zH} (hL : B[k]? = some L) (hs : (L'.map (·.id)).Sublist (L.map (·.id))) : ((whL 0 (B.set k L')).map (·.1)).Nodup := by
  have hk := (List.getElem?_eq_some_iff.1 hL).1
  obtain ⟨rest,hr⟩ := pA (B := B) 0 k hk
  have h0 := hr L
  rw [jP hL] at h0
  have h1 := (h0.map (·.1)).nodup_iff.1 h
  refine ((hr L').map (·.1)).nodup_iff.2 ?_
  rw [List.map_append,List.map_map] at h1 ⊢
  exact h1.sublist (List.Sublist.append hs (List.Sublist.refl _))
theorem BWf.take {p : Prd} {B : List (List zH)} (h : BWf p B) (id q : Int) : BWf p (qW B id q).1 := by
  refine ⟨h.ok.take id q,?_,?_,?_⟩
  all_goals
    rw [qW]
    cases hi : vN B id with
    | none => first | exact h.od | exact h.ub | exact h.srt
    | some k =>
      obtain ⟨L,hL,hh⟩ := jJ hi
      have ho := h.od k L hL
      dsimp only
      rw [zU hL]
      first
      | (intro j M hM
         rcases wO hM with ⟨rfl,rfl⟩ | ⟨_,hM⟩
         · refine ⟨zWl ho.1 ho.2.1 id q,?_,Nat.le_trans (zWu L id q) ho.2.2⟩
           rcases p8 ho.2.1 id q with ⟨e,_⟩ | ⟨e,_⟩
           · rw [e]; exact ho.2.1
           · rw [e]; exact ho.2.1.sublist (List.Sublist.map _ List.filter_sublist)
         · exact h.od j M hM)
      | (refine zYv h.ub hL ?_
         rcases p8 ho.2.1 id q with ⟨e,_⟩ | ⟨e,_⟩
         · rw [e]; exact List.Sublist.refl _
         · rw [e]; exact List.Sublist.map _ List.filter_sublist)
      | (intro j M hM s hs
         rcases wO hM with ⟨rfl,rfl⟩ | ⟨_,hM⟩
         · exact zUg (h.srt _ L hL s hs) id q
         · exact h.srt j M hM s hs)
theorem BWf.takes {p : Prd} : ∀ {fs : List jT} {B : List (List zH)},BWf p B → BWf p (xF B fs)
  | [],B,h => h
  | f :: fs,B,h => BWf.takes (fs := fs) (h.take f.id f.qty)
theorem BWf.inst {p : Prd} {B : List (List zH)} (h : BWf p B) {k : Nat} {L : List zH} (hL : B[k]? = some L) {id : Int} (hid : id ∈ L.map (·.id)) : vN B id = some k := by
  cases hi : vN B id with
  | none =>
    have := pT hi L (List.mem_of_getElem? hL)
    rw [hasId_iff.2 hid] at this; cases this
  | some j =>
    obtain ⟨M,hM,hh⟩ := jJ hi
    rw [zXo h.ub hM hL (hasId_iff.1 hh) hid]
theorem zPv {s : Int} {F : List zH} (hs : eM s F) {v : Lv} {vs : List Lv} (h : grp F = v :: vs) :
    v = eK v.price (F.filter fun o => decide (o.price = v.price)) ∧ vs = grp (F.filter fun o => !decide (o.price = v.price)) ∧ ∀ o ∈ F,btr s o.price v.price = false := by
  obtain ⟨o,r,rfl,he⟩ := rO h
  rw [eM,List.pairwise_cons] at hs
  have key : ∀ (r : List zH),(∀ x ∈ r,btr s x.price o.price = false) → eM s r → r = r.filter (fun x => decide (x.price = o.price)) ++ r.filter fun x => !decide (x.price = o.price) := by
    intro r
    induction r with
    | nil => intro _ _; rfl
    | cons x r ih =>
      intro h1 h2
      rw [eM,List.pairwise_cons] at h2
      by_cases e : x.price = o.price
      · rw [List.filter_cons_of_pos (by simpa using e),List.filter_cons_of_neg (by simpa using e),List.cons_append,← ih (fun y hy => h1 y (List.mem_cons_of_mem _ hy)) h2.2]
      · have h3 : ∀ y ∈ r,¬ y.price = o.price := by
          intro y hy e2
          have a := h2.1 y hy
          have b := h1 x List.mem_cons_self
          rw [e2] at a
          exact e (z7z a b)
        rw [List.filter_cons_of_neg (by simpa using e),List.filter_cons_of_pos (by simpa using e)]
        have e1 : r.filter (fun x => decide (x.price = o.price)) = [] := by
          rw [List.filter_eq_nil_iff]; intro y hy; simpa using h3 y hy
        have e2 : r.filter (fun x => !decide (x.price = o.price)) = r := by
          rw [List.filter_eq_self]; intro y hy; simpa using h3 y hy
        rw [e1,e2,List.nil_append]
  have hk := key r hs.1 hs.2
  rw [← he]
  have hf1 : (o :: r).filter (fun x => decide (x.price = o.price)) = o :: r.filter fun x => decide (x.price = o.price) := List.filter_cons_of_pos (by simp)
  have hf2 : (o :: r).filter (fun x => !decide (x.price = o.price)) = r.filter fun x => !decide (x.price = o.price) := List.filter_cons_of_neg (by simp)
  rw [hf1,hf2]
  have hg : grp (o :: r) = eK o.price (o :: r.filter fun x => decide (x.price = o.price)) :: grp (r.filter fun x => !decide (x.price = o.price)) := by
    conv => lhs; rw [hk]
    refine zBy (l := o :: r.filter fun x => decide (x.price = o.price)) (by simp) (fun x hx => ?_) (fun x y e => ?_)
    · rcases List.mem_cons.1 hx with rfl | hx
      · rfl
      · simpa using (List.mem_filter.1 hx).2
    · have : x ∈ r.filter fun x => !decide (x.price = o.price) := by rw [e]; exact List.mem_cons_self
      simpa using (List.mem_filter.1 this).2
  rw [h] at hg
  cases hg
  refine ⟨rfl,rfl,fun x hx => ?_⟩
  rcases List.mem_cons.1 hx with rfl | hx
  · exact u9 _ _
  · exact hs.1 x hx
theorem zTs (L : List zH) (s p : Int) : atL L s p = (vW L s).filter fun o => decide (o.price = p) := by
  rw [atL,vW,List.filter_filter]
  refine List.filter_congr fun o _ => ?_
  exact Bool.and_comm _ _
open Go Cv Go.Proofs
open Go Cv Go.Proofs
theorem yAk {l : List Ask} {k : Nat} {c : Ask} (h : l[k]? = some c) : zG (l.map askE) k 0 6 = some [D.v (.int .i64 c.kind),.v (.int .i64 c.inst),.v (.int .i64 c.side),.v (.int .i64 c.id),.v (.int .i64 c.price),.v (.int .i64 c.qty)] := elA h (by simp [askE]) rfl
theorem tW (t : SmI) : (wL t).side = 1 ∨ (wL t).side = 2 := by
  have := yV (n := t.x.side) (lo := 0) (hi := 1) (by omega)
  show 1 + zD t.x.side 0 1 = 1 ∨ 1 + zD t.x.side 0 1 = 2
  omega
theorem BOk.ask {p : Prd} {B : List (List zH)} (h : BOk p B) (y : Ask) : BOk p (zEc p B y) := h.add _ _ _ _ _
theorem MSt.Rep.ask {s : MSt} {p : Prd} {B : List (List zH)} (h : s.Rep p B) {y : Ask} (hs : y.side = 1 ∨ y.side = 2) : (MSt.addF ⟨s,y.inst,y.id,decide (y.side = 2),y.price,y.qty⟩).1.Rep p (zEc p B y) := by
  have := (h.add y.inst y.id (decide (y.side = 2)) y.price y.qty).1
  rw [uU hs] at this
  exact this
theorem yBj {l : List wY} {k : Nat} {t : wY} (h : l[k]? = some t) : zG (l.map yA) k (0 + 0) 1 = some [D.v (.int .i64 t.price)] ∧ zG (l.map yA) k (0 + 1) 1 = some [D.v (.int .i64 t.qty)] ∧ zG (l.map yA) k (0 + 2) 1 = some [D.v (.bool t.implied)] := ⟨elA h (by simp [yA]) rfl,elA h (by simp [yA]) rfl,elA h (by simp [yA]) rfl⟩
open Go Cv Go.Proofs
def MmI.fst (i : MmI) : Nat → List (List zH)
  | 0 => noB i.p
  | j + 1 => zEc i.p (i.fst j) (i.ask j)
def MmI.fl (i : MmI) : Ask := wL ⟨i.p,⟨0,i.inst,i.side,0,i.price,i.qty⟩,0⟩
def MmI.fB (i : MmI) : List (List zH) := i.fst i.n
def mfC : Con := con1 MmI (fun i => [prdV i.x,roV 6 (i.l.map askE),zF i.inst,zF i.side,zF i.price,zF i.qty]) (fun _ => []) (fun i => i.raw) (fun _ => yG true) (fun _ => [])
def mfA (i : MmI) : List SAnn := [
  { ι := Nat × MSt,slots := fun j => [(14,.nm 0 0),(16,zF j.1)],rows := fun j => [zR j.2] },
  { ι := Nat,slots := fun j => [(19,.own 0),(20,zF j)],rows := fun j => [.own 48 1 ((i.fB.take j).map fun L => [D.ro 5 (L.map zX)])] },
  { ι := Nat,slots := fun j => [(24,zF j)],rows := fun _ => [] },
  { ι := Nat × List zH,slots := fun j => [(28,.own 0),(29,zF j.1)],rows := fun j => [.own 51 5 (j.2.map zX)] },
  { ι := Nat × Nat,slots := fun j => [(24,zF j.1),(31,zF j.2)],rows := fun _ => [] }]
def ij2 (t u : Nat) : SAnn := { ι := Int × Int,slots := fun n => [(t,zF n.1),(u,zF n.2)],rows := fun _ => [] }
def shJ (t u : Nat) : SAnn := { ι := List Int × List zH,slots := fun _ => [(t,.own 1),(u,.own 0)],rows := fun j => [.fro 5 (j.2.map zX),.own 2 1 (iE j.1)],slots0 := fun _ => [(u,.own 0)],rows0 := fun j => [.own 51 5 (j.2.map zX)] }
def mfJ : List (Nat × SAnn) := [(4,yBp 13),(24,bj 52),(32,z9n 17),(40,z9n 18),(92,ij2 26 27),(96,bj 136),(120,bj 171),(128,shJ 30 28),(132,bj 198),(156,bj 247)]
open Go Cv Go.Proofs
@[reducible] def yY (i : MmI) : AObj := Sx.AObj.cells [V.d (D.v (Value.string (sb i.x.code))),V.own (0 : Nat),V.d (D.v (.int .i64 i.x.tick)),V.d (D.v (.int .i64 i.x.low)),V.d (D.v (.int .i64 i.x.high)),V.d (D.v (.int .i64 i.x.wide)),V.d (D.v (.int .i64 i.x.rule)),V.d (D.v (.int .i64 i.x.top)),V.d (D.v (.int .i64 i.x.least)),V.d (D.v (.int .i64 i.x.part)),V.own ((0 : Nat) + (1 : Nat))] (25 : Nat)
@[reducible] def y9 (i_1 : Prd) : AObj := Sx.AObj.cells (wP (rL ((0 : Nat) + (1 : Nat) + (1 : Nat) + (1 : Nat)) (qJ [] (0 : Nat) []) (3 : Nat)) [sV i_1.code,V.own (1 : Nat),zF i_1.tick,zF i_1.low,zF i_1.high,zF i_1.wide,zF i_1.rule,zF i_1.top,zF i_1.least,zF i_1.part,V.own (2 : Nat)]) (25 : TypeId)
@[reducible] def xU (i_5 : Sx.Ask) : AObj := Sx.AObj.cells (wP (rL ((0 : Nat) + (1 : Nat) + (1 : Nat) + (1 : Nat) + (3 : Nat) + ((1 : Nat) - (0 : Nat)) + (1 : Nat) + (0 : Nat)) (qJ [] (0 : Nat) []) (1 : Nat)) i_5.cells) (33 : TypeId)
@[reducible] def x7 (i : MmI) (i_6 : Nat) : AObj := AObj.own (48 : Nat) (1 : Nat) (List.map (fun (L : List zH) ↦ [D.ro 5 (List.map zX L)]) (List.take i_6 i.fB))
@[reducible] def zSn (i : MmI) (i_1 : Prd) (o : Unit) (i_3 : Nat × MSt) (I_2 : Sx.Ask→Prop) (n : Int) (n_1 : Int) (n_2 : Int) (n_3 : Int) (n_4 : Int) (n_5 : Int) : Prop := ∃ (i_5:SmI),sb i_5.p.code=sb i_1.code∧iE i_5.p.months=iE i_1.months∧i_5.p.tick=i_1.tick∧i_5.p.low=i_1.low∧i_5.p.high=i_1.high∧i_5.p.wide=i_1.wide∧i_5.p.rule=i_1.rule∧i_5.p.top=i_1.top∧i_5.p.least=i_1.least∧i_5.p.part=i_1.part∧iE i_5.p.settle=iE i_1.settle∧i_5.x.kind=n∧i_5.x.inst=n_1∧i_5.x.side=n_2∧i_5.x.id=n_3∧i_5.x.price=n_4∧i_5.x.qty=n_5∧i_5.i=(↑i_3.fst:Int)∧(i_5.p.check=0∧(i_5.p.code.length≤1099511627776∧i_5.p.months.length≤1099511627776∧i_5.p.settle.length≤1099511627776)∧(((-9223372036854775808)≤i_5.x.kind∧i_5.x.kind≤9223372036854775807)∧((-9223372036854775808)≤i_5.x.inst∧i_5.x.inst≤9223372036854775807)∧((-9223372036854775808)≤i_5.x.side∧i_5.x.side≤9223372036854775807)∧((-9223372036854775808)≤i_5.x.id∧i_5.x.id≤9223372036854775807)∧((-9223372036854775808)≤i_5.x.price∧i_5.x.price≤9223372036854775807)∧(-9223372036854775808)≤i_5.x.qty∧i_5.x.qty≤9223372036854775807)∧0≤i_5.i∧i_5.i≤1000000)∧∀ (o:Unit),True→∃ (i':Sx.Ask),i'.kind=jL i_5.x∧i'.inst=zD i_5.x.inst 0 ((↑i_5.p.count:Int) - 1)∧i'.side=1+zD i_5.x.side 0 1∧(i'.id=if jL i_5.x=1 then i_5.i else zD i_5.x.id 0 i_5.i)∧(i'.price=if (i_5.p.legs (zD i_5.x.inst 0 ((↑i_5.p.count:Int) - 1))).snd.snd=true then i_5.p.tick * (zD i_5.x.price 0 (7:Int) - (4:Int)) else i_5.p.tick * (zD i_5.x.price 0 (7:Int)+(8:Int)))∧i'.qty=1+zD i_5.x.qty 0 11∧I_2 i'∧zR i_3.snd=zR i_3.snd∧y9 i_1=y9 i_1∧AObj.fro 1 (iE i_1.months)=AObj.fro 1 (iE i_1.months)∧AObj.fro 1 (iE i_1.settle)=AObj.fro 1 (iE i_1.settle)∧yY i=yY i∧AObj.fro 1 (iE i.x.settle)=AObj.fro 1 (iE i.x.settle)∧AObj.fro 1 (iE i.x.months)=AObj.fro 1 (iE i.x.months)
def Vmf (i : MmI) : Prop :=
  ∃ (i0:Prd),∃ (I:Prd→Prop),(∃ (i_1:Prd),sb i_1.code=sb i.x.code∧iE i_1.months=iE i.x.months∧i_1.tick=i.x.tick∧i_1.low=i.x.low∧i_1.high=i.x.high∧i_1.wide=i.x.wide∧i_1.rule=i.x.rule∧i_1.top=i.x.top∧i_1.least=i.x.least∧i_1.part=i.x.part∧iE i_1.settle=iE i.x.settle∧(((-9223372036854775808)≤i_1.tick∧i_1.tick≤9223372036854775807)∧((-9223372036854775808)≤i_1.wide∧i_1.wide≤9223372036854775807)∧((-9223372036854775808)≤i_1.rule∧i_1.rule≤9223372036854775807)∧((-9223372036854775808)≤i_1.top∧i_1.top≤9223372036854775807)∧((-9223372036854775808)≤i_1.least∧i_1.least≤9223372036854775807)∧((-9223372036854775808)≤i_1.part∧i_1.part≤9223372036854775807)∧i_1.months.length≤9223372036854775807)∧∀ (o:Unit),True→∃ (i':Prd),sb i'.code=sb [(206:UInt8),(169:UInt8)]∧i'.tick=yB i_1∧i'.low=(-20) * yB i_1∧i'.high=100 * yB i_1∧i'.wide=yB i_1 * (5+zD i_1.wide 0 60)∧i'.rule=1+zD i_1.rule 0 2∧i'.top=zD i_1.top 0 9∧i'.least=1+zD i_1.least 0 4∧i'.part=zD i_1.part 0 100∧AObj.fro 1 (iE i'.months)=AObj.fro 1 (iE (qD (kN i_1).toNat))∧AObj.fro 1 (iE i'.settle)=AObj.fro 1 (iE (xS (yB i_1) (kN i_1).toNat))∧I i'∧yY i=yY i∧AObj.fro 1 (iE i.x.settle)=AObj.fro 1 (iE i.x.settle)∧AObj.fro 1 (iE i.x.months)=AObj.fro 1 (iE i.x.months))∧∀ (i_1:Prd),I i_1→∃ (i_2:Prd),sb i_2.code=sb i_1.code∧iE i_2.months=iE i_1.months∧i_2.tick=i_1.tick∧i_2.low=i_1.low∧i_2.high=i_1.high∧i_2.wide=i_1.wide∧i_2.rule=i_1.rule∧i_2.top=i_1.top∧i_2.least=i_1.least∧i_2.part=i_1.part∧iE i_2.settle=iE i_1.settle∧(i_2.code.length≤1099511627776∧i_2.months.length≤1099511627776∧i_2.settle.length≤1099511627776)∧(∀ (o:Unit),i_2.check=0→∃ (i0:Nat × MSt),(↑i0.fst:Int)=0∧zR i0.snd=zR (gC i_2)∧∃ (I:Nat × MSt→Prop),∃ (μ:Nat × MSt→Nat),I i0∧∀ (i_3:Nat × MSt),I i_3→∃ (i0:Bool),∃ (I_1:Bool→Prop),cnd (decide ((↑i_3.fst:Int)<(↑(List.map askE i.l).length:Int))) (∃ (i':Bool),i'=decide ((↑i_3.fst:Int)<40)∧I_1 i'∧zR i_3.snd=zR i_3.snd∧y9 i_1=y9 i_1∧AObj.fro 1 (iE i_1.months)=AObj.fro 1 (iE i_1.months)∧AObj.fro 1 (iE i_1.settle)=AObj.fro 1 (iE i_1.settle)∧yY i=yY i∧AObj.fro 1 (iE i.x.settle)=AObj.fro 1 (iE i.x.settle)∧AObj.fro 1 (iE i.x.months)=AObj.fro 1 (iE i.x.months)) (∃ (i':Bool),i'=false∧I_1 i'∧zR i_3.snd=zR i_3.snd∧y9 i_1=y9 i_1∧AObj.fro 1 (iE i_1.months)=AObj.fro 1 (iE i_1.months)∧AObj.fro 1 (iE i_1.settle)=AObj.fro 1 (iE i_1.settle)∧yY i=yY i∧AObj.fro 1 (iE i.x.settle)=AObj.fro 1 (iE i.x.settle)∧AObj.fro 1 (iE i.x.months)=AObj.fro 1 (iE i.x.months))∧∀ (i_4:Bool),I_1 i_4→cnd i_4 (∃ (i0:Sx.Ask),∃ (I_2:Sx.Ask→Prop),((0≤(↑i_3.fst:Int)∧(↑i_3.fst:Int)<(↑(List.map askE i.l).length:Int))∧∃ (n:Int),∃ (n_1:Int),∃ (n_2:Int),∃ (n_3:Int),∃ (n_4:Int),∃ (n_5:Int),zG (List.map askE i.l) (↑i_3.fst:Int).toNat 0 6=some [D.v (.int .i64 n),D.v (.int .i64 n_1),D.v (.int .i64 n_2),D.v (.int .i64 n_3),D.v (.int .i64 n_4),D.v (.int .i64 n_5)]∧(zSn i i_1 o i_3 I_2 n n_1 n_2 n_3 n_4 n_5)∧True∧(sb i_1.code=sb i_1.code∧True∧i_1.tick=i_1.tick∧i_1.low=i_1.low∧i_1.high=i_1.high∧i_1.wide=i_1.wide∧i_1.rule=i_1.rule∧i_1.top=i_1.top∧i_1.least=i_1.least∧i_1.part=i_1.part∧True∧True)∧zSn i i_1 o i_3 I_2 n n_1 n_2 n_3 n_4 n_5)∧∀ (i_5:Sx.Ask),I_2 i_5→∃ (i_6:SaI),i_6.inst=i_5.inst∧i_6.id=i_5.id∧zB i_6.sd=i_5.side∧i_6.price=i_5.price∧i_6.qty=i_5.qty∧zR i_6.s=zR i_3.snd∧((i_6.s.p.code.length≤1099511627776∧i_6.s.p.months.length≤1099511627776∧i_6.s.p.settle.length≤1099511627776)∧i_6.s.books.length≤1000000∧∀ (b:Book),b ∈ i_6.s.books→(b.a.slots.length≤1000000∧(b.a.free ≠ 0→∃ (s:Slot),s ∈ b.a.slots∧s.used=false)∧∀ (q:kB),q ∈ b.a.queues→q.last=(-1) ∨ 0≤q.last∧q.last<(↑b.a.slots.length:Int))∧b.a.queues.length≤100000∧b.buys.length≤100000∧b.sells.length≤100000∧b.spare.length≤100000)∧∀ (o:Unit),True→∃ (i':Nat × MSt),(↑i'.fst:Int)=IntKind.i64.wrap ((↑i_3.fst:Int)+1)∧zR i'.snd=zR (MSt.addF i_6).fst∧I i'∧μ i'<μ i_3∧y9 i_1=y9 i_1∧AObj.fro 1 (iE i_1.months)=AObj.fro 1 (iE i_1.months)∧AObj.fro 1 (iE i_1.settle)=AObj.fro 1 (iE i_1.settle)∧yY i=yY i∧AObj.fro 1 (iE i.x.settle)=AObj.fro 1 (iE i.x.settle)∧AObj.fro 1 (iE i.x.months)=AObj.fro 1 (iE i.x.months)) (∃ (i0:Sx.Ask),∃ (I:Sx.Ask→Prop),(∃ (i_5:SmI),sb i_5.p.code=sb i_1.code∧iE i_5.p.months=iE i_1.months∧i_5.p.tick=i_1.tick∧i_5.p.low=i_1.low∧i_5.p.high=i_1.high∧i_5.p.wide=i_1.wide∧i_5.p.rule=i_1.rule∧i_5.p.top=i_1.top∧i_5.p.least=i_1.least∧i_5.p.part=i_1.part∧iE i_5.p.settle=iE i_1.settle∧i_5.x.kind=0∧i_5.x.inst=i.inst∧i_5.x.side=i.side∧i_5.x.id=0∧i_5.x.price=i.price∧i_5.x.qty=i.qty∧i_5.i=0∧(i_5.p.check=0∧(i_5.p.code.length≤1099511627776∧i_5.p.months.length≤1099511627776∧i_5.p.settle.length≤1099511627776)∧(((-9223372036854775808)≤i_5.x.kind∧i_5.x.kind≤9223372036854775807)∧((-9223372036854775808)≤i_5.x.inst∧i_5.x.inst≤9223372036854775807)∧((-9223372036854775808)≤i_5.x.side∧i_5.x.side≤9223372036854775807)∧((-9223372036854775808)≤i_5.x.id∧i_5.x.id≤9223372036854775807)∧((-9223372036854775808)≤i_5.x.price∧i_5.x.price≤9223372036854775807)∧(-9223372036854775808)≤i_5.x.qty∧i_5.x.qty≤9223372036854775807)∧0≤i_5.i∧i_5.i≤1000000)∧∀ (o:Unit),True→∃ (i':Sx.Ask),i'.kind=jL i_5.x∧i'.inst=zD i_5.x.inst 0 ((↑i_5.p.count:Int) - 1)∧i'.side=1+zD i_5.x.side 0 1∧(i'.id=if jL i_5.x=1 then i_5.i else zD i_5.x.id 0 i_5.i)∧(i'.price=if (i_5.p.legs (zD i_5.x.inst 0 ((↑i_5.p.count:Int) - 1))).snd.snd=true then i_5.p.tick * (zD i_5.x.price 0 (7:Int) - (4:Int)) else i_5.p.tick * (zD i_5.x.price 0 (7:Int)+(8:Int)))∧i'.qty=1+zD i_5.x.qty 0 11∧I i'∧zR i_3.snd=zR i_3.snd∧y9 i_1=y9 i_1∧AObj.fro 1 (iE i_1.months)=AObj.fro 1 (iE i_1.months)∧AObj.fro 1 (iE i_1.settle)=AObj.fro 1 (iE i_1.settle)∧yY i=yY i∧AObj.fro 1 (iE i.x.settle)=AObj.fro 1 (iE i.x.settle)∧AObj.fro 1 (iE i.x.months)=AObj.fro 1 (iE i.x.months))∧∀ (i_5:Sx.Ask),I i_5→∃ (i0:Nat),(↑i0:Int)=0∧List.map (fun (L:List zH) ↦ [D.ro 5 (List.map zX L)]) (List.take i0 i.fB)=[]∧∃ (I:Nat→Prop),∃ (μ:Nat→Nat),I i0∧∀ (i_6:Nat),I i_6→∃ (i_7:Prd),sb i_7.code=sb i_1.code∧iE i_7.months=iE i_1.months∧i_7.tick=i_1.tick∧i_7.low=i_1.low∧i_7.high=i_1.high∧i_7.wide=i_1.wide∧i_7.rule=i_1.rule∧i_7.top=i_1.top∧i_7.least=i_1.least∧i_7.part=i_1.part∧iE i_7.settle=iE i_1.settle∧(i_7.code.length≤1099511627776∧i_7.months.length≤1099511627776∧i_7.settle.length≤1099511627776)∧∀ (o:Unit),True→cnd (decide ((↑i_6:Int)<(↑i_7.count:Int))) (∃ (i_8:SoI),i_8.inst=(↑i_6:Int)∧zR i_8.s=zR i_3.snd∧(i_8.s.Rep i_8.p i_8.B∧i_8.B.length≤1000)∧∀ (o:Unit),True→((List.map (fun (L:List zH) ↦ [D.ro 5 (List.map zX L)]) (List.take i_6 i.fB)).length+1) * (24:Nat)≤(70368744177664:Nat)∧∃ (i':Nat),(↑i':Int)=IntKind.i64.wrap ((↑i_6:Int)+1)∧List.map (fun (L:List zH) ↦ [D.ro 5 (List.map zX L)]) (List.take i' i.fB)=List.map (fun (L:List zH) ↦ [D.ro 5 (List.map zX L)]) (List.take i_6 i.fB)++[[D.ro 5 (List.map zX (atB i_8.B i_8.inst))]]∧I i'∧μ i'<μ i_6∧xU i_5=xU i_5∧zR i_8.s=zR i_3.snd∧y9 i_1=y9 i_1∧AObj.fro 1 (iE i_1.months)=AObj.fro 1 (iE i_1.months)∧AObj.fro 1 (iE i_1.settle)=AObj.fro 1 (iE i_1.settle)∧yY i=yY i∧AObj.fro 1 (iE i.x.settle)=AObj.fro 1 (iE i.x.settle)∧AObj.fro 1 (iE i.x.months)=AObj.fro 1 (iE i.x.months)) (∃ (i_8:RunI),i_8.inst=i_5.inst∧zB i_8.sd=i_5.side∧i_8.price=i_5.price∧i_8.q=i_5.qty∧zR i_8.s=zR i_3.snd∧(i_8.s.Rep i_8.p i_8.B∧BOk i_8.p i_8.B∧(0≤i_8.inst∧i_8.inst<(↑i_8.B.length:Int))∧1≤i_8.q∧i_8.q≤1000000)∧∀ (o:MSt),o.Rep i_8.p i_8.r.B→cnd ((↑(List.map yA i_8.r.steps).length:Int)==0) (∃ (i:Unit),True∧∀ (o:Unit),True→∃ (o:Unit),true=true∧True) (((0:Int)≤(0:Int)∧0<(↑(List.map yA i_8.r.steps).length:Int))∧∃ (els:List (List D)),zG (List.map yA i_8.r.steps) (Int.toNat 0) ((0:Nat)+(3:Nat)) 1=some [D.ro 6 els]∧∃ (i0:Nat),(↑i0:Int)=0∧∃ (I:Nat→Prop),∃ (μ:Nat→Nat),I i0∧∀ (i_9:Nat),I i_9→cnd (decide ((↑i_9:Int)<(↑els.length:Int))) (∃ (i0:Int × Int),∃ (I_2:Int × Int→Prop),((0≤(↑i_9:Int)∧(↑i_9:Int)<(↑els.length:Int))∧∃ (n:Int),zG els (↑i_9:Int).toNat ((0:Nat)+(1:Nat)) 1=some [D.v (.int .i64 n)]∧(0≤(↑i_9:Int)∧(↑i_9:Int)<(↑els.length:Int))∧∃ (n_1:Int),zG els (↑i_9:Int).toNat ((0:Nat)+(2:Nat)) 1=some [D.v (.int .i64 n_1)]∧∃ (i':Int × Int),i'.fst=n∧i'.snd=n_1∧I_2 i'∧zR o=zR o∧AObj.own 41 4 (List.map yA i_8.r.steps)=AObj.own 41 4 (List.map yA i_8.r.steps)∧x7 i i_6=x7 i i_6∧xU i_5=xU i_5∧y9 i_1=y9 i_1∧AObj.fro 1 (iE i_1.months)=AObj.fro 1 (iE i_1.months)∧AObj.fro 1 (iE i_1.settle)=AObj.fro 1 (iE i_1.settle)∧yY i=yY i∧AObj.fro 1 (iE i.x.settle)=AObj.fro 1 (iE i.x.settle)∧AObj.fro 1 (iE i.x.months)=AObj.fro 1 (iE i.x.months))∧∀ (i_10:Int × Int),I_2 i_10→∃ (i0:Bool),∃ (I_3:Bool→Prop),cnd (decide (i_10.fst<0)) (∃ (i':Bool),i'=true∧I_3 i'∧zR o=zR o∧AObj.own 41 4 (List.map yA i_8.r.steps)=AObj.own 41 4 (List.map yA i_8.r.steps)∧x7 i i_6=x7 i i_6∧xU i_5=xU i_5∧y9 i_1=y9 i_1∧AObj.fro 1 (iE i_1.months)=AObj.fro 1 (iE i_1.months)∧AObj.fro 1 (iE i_1.settle)=AObj.fro 1 (iE i_1.settle)∧yY i=yY i∧AObj.fro 1 (iE i.x.settle)=AObj.fro 1 (iE i.x.settle)∧AObj.fro 1 (iE i.x.months)=AObj.fro 1 (iE i.x.months)) (∃ (i':Bool),i'=decide (i_10.fst ≥ (↑(List.map (fun (L:List zH) ↦ [D.ro 5 (List.map zX L)]) (List.take i_6 i.fB)).length:Int))∧I_3 i'∧zR o=zR o∧AObj.own 41 4 (List.map yA i_8.r.steps)=AObj.own 41 4 (List.map yA i_8.r.steps)∧x7 i i_6=x7 i i_6∧xU i_5=xU i_5∧y9 i_1=y9 i_1∧AObj.fro 1 (iE i_1.months)=AObj.fro 1 (iE i_1.months)∧AObj.fro 1 (iE i_1.settle)=AObj.fro 1 (iE i_1.settle)∧yY i=yY i∧AObj.fro 1 (iE i.x.settle)=AObj.fro 1 (iE i.x.settle)∧AObj.fro 1 (iE i.x.months)=AObj.fro 1 (iE i.x.months))∧∀ (i_11:Bool),I_3 i_11→cnd i_11 (∃ (o:Unit),true=false∧True) (∃ (i0:Nat × List zH),(↑i0.fst:Int)=0∧List.map zX i0.snd=[]∧∃ (I_4:Nat × List zH→Prop),∃ (μ_1:Nat × List zH→Nat),I_4 i0∧∀ (i_12:Nat × List zH),I_4 i_12→(0≤i_10.fst∧i_10.fst<(↑(List.map (fun (L:List zH) ↦ [D.ro 5 (List.map zX L)]) (List.take i_6 i.fB)).length:Int))∧∃ (els_1:List (List D)),zG (List.map (fun (L:List zH) ↦ [D.ro 5 (List.map zX L)]) (List.take i_6 i.fB)) i_10.fst.toNat 0 1=some [D.ro 5 els_1]∧cnd (decide ((↑i_12.fst:Int)<(↑els_1.length:Int))) (∃ (i0:Bool),∃ (I:Bool→Prop),((0≤i_10.fst∧i_10.fst<(↑(List.map (fun (L:List zH) ↦ [D.ro 5 (List.map zX L)]) (List.take i_6 i.fB)).length:Int))∧∃ (els_2:List (List D)),zG (List.map (fun (L:List zH) ↦ [D.ro 5 (List.map zX L)]) (List.take i_6 i.fB)) i_10.fst.toNat 0 1=some [D.ro 5 els_2]∧(0≤(↑i_12.fst:Int)∧(↑i_12.fst:Int)<(↑els_2.length:Int))∧∃ (n:Int),zG els_2 (↑i_12.fst:Int).toNat ((0:Nat)+(1:Nat)) 1=some [D.v (.int .i64 n)]∧cnd (n==i_10.snd) ((0≤i_10.fst∧i_10.fst<(↑(List.map (fun (L:List zH) ↦ [D.ro 5 (List.map zX L)]) (List.take i_6 i.fB)).length:Int))∧∃ (els_3:List (List D)),zG (List.map (fun (L:List zH) ↦ [D.ro 5 (List.map zX L)]) (List.take i_6 i.fB)) i_10.fst.toNat 0 1=some [D.ro 5 els_3]∧(0≤(↑i_12.fst:Int)∧(↑i_12.fst:Int)<(↑els_3.length:Int))∧∃ (n:Int),zG els_3 (↑i_12.fst:Int).toNat ((0:Nat)+(2:Nat)) 1=some [D.v (.int .i64 n)]∧(0≤(↑i_9:Int)∧(↑i_9:Int)<(↑els.length:Int))∧∃ (n_1:Int),zG els (↑i_9:Int).toNat ((0:Nat)+(3:Nat)) 1=some [D.v (.int .i64 n_1)]∧∃ (i':Bool),i'=(n==n_1)∧I i'∧AObj.own 51 5 (List.map zX i_12.snd)=AObj.own 51 5 (List.map zX i_12.snd)∧zR o=zR o∧AObj.own 41 4 (List.map yA i_8.r.steps)=AObj.own 41 4 (List.map yA i_8.r.steps)∧x7 i i_6=x7 i i_6∧xU i_5=xU i_5∧y9 i_1=y9 i_1∧AObj.fro 1 (iE i_1.months)=AObj.fro 1 (iE i_1.months)∧AObj.fro 1 (iE i_1.settle)=AObj.fro 1 (iE i_1.settle)∧yY i=yY i∧AObj.fro 1 (iE i.x.settle)=AObj.fro 1 (iE i.x.settle)∧AObj.fro 1 (iE i.x.months)=AObj.fro 1 (iE i.x.months)) (∃ (i':Bool),i'=false∧I i'∧AObj.own 51 5 (List.map zX i_12.snd)=AObj.own 51 5 (List.map zX i_12.snd)∧zR o=zR o∧AObj.own 41 4 (List.map yA i_8.r.steps)=AObj.own 41 4 (List.map yA i_8.r.steps)∧x7 i i_6=x7 i i_6∧xU i_5=xU i_5∧y9 i_1=y9 i_1∧AObj.fro 1 (iE i_1.months)=AObj.fro 1 (iE i_1.months)∧AObj.fro 1 (iE i_1.settle)=AObj.fro 1 (iE i_1.settle)∧yY i=yY i∧AObj.fro 1 (iE i.x.settle)=AObj.fro 1 (iE i.x.settle)∧AObj.fro 1 (iE i.x.months)=AObj.fro 1 (iE i.x.months)))∧∀ (i_13:Bool),I i_13→cnd i_13 ((0≤i_10.fst∧i_10.fst<(↑(List.map (fun (L:List zH) ↦ [D.ro 5 (List.map zX L)]) (List.take i_6 i.fB)).length:Int))∧∃ (els:List (List D)),zG (List.map (fun (L:List zH) ↦ [D.ro 5 (List.map zX L)]) (List.take i_6 i.fB)) i_10.fst.toNat 0 1=some [D.ro 5 els]∧(0≤(↑i_12.fst:Int)∧(↑i_12.fst:Int)<(↑els.length:Int))∧∃ (n:Int),∃ (n_1:Int),∃ (n_2:Int),∃ (n_3:Int),∃ (b:Bool),zG els (↑i_12.fst:Int).toNat 0 5=some [D.v (.int .i64 n),D.v (.int .i64 n_1),D.v (.int .i64 n_2),D.v (.int .i64 n_3),D.v (.bool b)]∧((List.map zX i_12.snd).length+1) * (40:Nat)≤(70368744177664:Nat)∧∃ (i':Nat × List zH),(↑i'.fst:Int)=IntKind.i64.wrap ((↑i_12.fst:Int)+1)∧List.map zX i'.snd=List.map zX i_12.snd++[[D.v (.int .i64 n),D.v (.int .i64 n_1),D.v (.int .i64 n_2),D.v (.int .i64 n_3),D.v (.bool b)]]∧I_4 i'∧μ_1 i'<μ_1 i_12∧zR o=zR o∧AObj.own 41 4 (List.map yA i_8.r.steps)=AObj.own 41 4 (List.map yA i_8.r.steps)∧x7 i i_6=x7 i i_6∧xU i_5=xU i_5∧y9 i_1=y9 i_1∧AObj.fro 1 (iE i_1.months)=AObj.fro 1 (iE i_1.months)∧AObj.fro 1 (iE i_1.settle)=AObj.fro 1 (iE i_1.settle)∧yY i=yY i∧AObj.fro 1 (iE i.x.settle)=AObj.fro 1 (iE i.x.settle)∧AObj.fro 1 (iE i.x.months)=AObj.fro 1 (iE i.x.months)) (∃ (i':Nat × List zH),(↑i'.fst:Int)=IntKind.i64.wrap ((↑i_12.fst:Int)+1)∧List.map zX i'.snd=List.map zX i_12.snd∧I_4 i'∧μ_1 i'<μ_1 i_12∧zR o=zR o∧AObj.own 41 4 (List.map yA i_8.r.steps)=AObj.own 41 4 (List.map yA i_8.r.steps)∧x7 i i_6=x7 i i_6∧xU i_5=xU i_5∧y9 i_1=y9 i_1∧AObj.fro 1 (iE i_1.months)=AObj.fro 1 (iE i_1.months)∧AObj.fro 1 (iE i_1.settle)=AObj.fro 1 (iE i_1.settle)∧yY i=yY i∧AObj.fro 1 (iE i.x.settle)=AObj.fro 1 (iE i.x.settle)∧AObj.fro 1 (iE i.x.months)=AObj.fro 1 (iE i.x.months))) (∃ (i0:List Int × List zH),List.map zX i0.snd=List.map zX i_12.snd∧∃ (I_5:List Int × List zH→Prop),(((0:Int)≤(0:Int)∧0<(↑(List.map yA i_8.r.steps).length:Int))∧∃ (n:Int),zG (List.map yA i_8.r.steps) (Int.toNat 0) ((0:Nat)+(1:Nat)) 1=some [D.v (.int .i64 n)]∧∃ (i_13:AlI),sb i_13.p.code=sb i_1.code∧iE i_13.p.months=iE i_1.months∧i_13.p.tick=i_1.tick∧i_13.p.low=i_1.low∧i_13.p.high=i_1.high∧i_13.p.wide=i_1.wide∧i_13.p.rule=i_1.rule∧i_13.p.top=i_1.top∧i_13.p.least=i_1.least∧i_13.p.part=i_1.part∧iE i_13.p.settle=iE i_1.settle∧List.map zX i_13.l=List.map zX i0.snd∧i_13.q=n∧(i_13.l.length≤1000∧((-9223372036854775808)≤i_13.q∧i_13.q≤9223372036854775807)∧((-9223372036854775808)≤i_13.p.least∧i_13.p.least≤9223372036854775807)∧((-9223372036854775808)≤i_13.p.top∧i_13.p.top≤9223372036854775807)∧(-9223372036854775808)≤i_13.p.part∧i_13.p.part≤9223372036854775807)∧∀ (o_1:Unit),True→∃ (i':List Int × List zH),AObj.fro 5 (List.map zX i'.snd)=AObj.fro 5 (List.map zX i0.snd)∧iE i'.fst=iE (xA i_13)∧I_5 i'∧zR o=zR o∧AObj.own 41 4 (List.map yA i_8.r.steps)=AObj.own 41 4 (List.map yA i_8.r.steps)∧x7 i i_6=x7 i i_6∧xU i_5=xU i_5∧y9 i_1=y9 i_1∧AObj.fro 1 (iE i_1.months)=AObj.fro 1 (iE i_1.months)∧AObj.fro 1 (iE i_1.settle)=AObj.fro 1 (iE i_1.settle)∧yY i=yY i∧AObj.fro 1 (iE i.x.settle)=AObj.fro 1 (iE i.x.settle)∧AObj.fro 1 (iE i.x.months)=AObj.fro 1 (iE i.x.months))∧∀ (i_13:List Int × List zH),I_5 i_13→∃ (i0:Bool),∃ (I_6:Bool→Prop),cnd ((↑(iE i_13.fst).length:Int)!=(↑(List.map zX i_13.snd).length:Int)) (∃ (i':Bool),i'=true∧I_6 i'∧AObj.fro 5 (List.map zX i_13.snd)=AObj.fro 5 (List.map zX i_13.snd)∧AObj.own 2 1 (iE i_13.fst)=AObj.own 2 1 (iE i_13.fst)∧zR o=zR o∧AObj.own 41 4 (List.map yA i_8.r.steps)=AObj.own 41 4 (List.map yA i_8.r.steps)∧x7 i i_6=x7 i i_6∧xU i_5=xU i_5∧y9 i_1=y9 i_1∧AObj.fro 1 (iE i_1.months)=AObj.fro 1 (iE i_1.months)∧AObj.fro 1 (iE i_1.settle)=AObj.fro 1 (iE i_1.settle)∧yY i=yY i∧AObj.fro 1 (iE i.x.settle)=AObj.fro 1 (iE i.x.settle)∧AObj.fro 1 (iE i.x.months)=AObj.fro 1 (iE i.x.months)) (∃ (i':Bool),i'=((↑(List.map zX i_13.snd).length:Int)==0)∧I_6 i'∧AObj.fro 5 (List.map zX i_13.snd)=AObj.fro 5 (List.map zX i_13.snd)∧AObj.own 2 1 (iE i_13.fst)=AObj.own 2 1 (iE i_13.fst)∧zR o=zR o∧AObj.own 41 4 (List.map yA i_8.r.steps)=AObj.own 41 4 (List.map yA i_8.r.steps)∧x7 i i_6=x7 i i_6∧xU i_5=xU i_5∧y9 i_1=y9 i_1∧AObj.fro 1 (iE i_1.months)=AObj.fro 1 (iE i_1.months)∧AObj.fro 1 (iE i_1.settle)=AObj.fro 1 (iE i_1.settle)∧yY i=yY i∧AObj.fro 1 (iE i.x.settle)=AObj.fro 1 (iE i.x.settle)∧AObj.fro 1 (iE i.x.months)=AObj.fro 1 (iE i.x.months))∧∀ (i_14:Bool),I_6 i_14→cnd i_14 (∃ (o:Unit),true=false∧True) (∃ (i0:Nat × Nat),(↑i0.fst:Int)=(↑i_9:Int)∧(↑i0.snd:Int)=0∧∃ (I_7:Nat × Nat→Prop),∃ (μ_2:Nat × Nat→Nat),I_7 i0∧∀ (i_15:Nat × Nat),I_7 i_15→cnd (decide ((↑i_15.snd:Int)<(↑(List.map zX i_13.snd).length:Int))) ((0≤(↑i_15.snd:Int)∧(↑i_15.snd:Int)<(↑(iE i_13.fst).length:Int))∧∃ (n:Int),zG (iE i_13.fst) (↑i_15.snd:Int).toNat 0 1=some [D.v (.int .i64 n)]∧cnd (n==0) (∃ (i':Nat × Nat),(↑i'.fst:Int)=(↑i_15.fst:Int)∧(↑i'.snd:Int)=IntKind.i64.wrap ((↑i_15.snd:Int)+1)∧I_7 i'∧μ_2 i'<μ_2 i_15∧AObj.fro 5 (List.map zX i_13.snd)=AObj.fro 5 (List.map zX i_13.snd)∧AObj.own 2 1 (iE i_13.fst)=AObj.own 2 1 (iE i_13.fst)∧zR o=zR o∧AObj.own 41 4 (List.map yA i_8.r.steps)=AObj.own 41 4 (List.map yA i_8.r.steps)∧x7 i i_6=x7 i i_6∧xU i_5=xU i_5∧y9 i_1=y9 i_1∧AObj.fro 1 (iE i_1.months)=AObj.fro 1 (iE i_1.months)∧AObj.fro 1 (iE i_1.settle)=AObj.fro 1 (iE i_1.settle)∧yY i=yY i∧AObj.fro 1 (iE i.x.settle)=AObj.fro 1 (iE i.x.settle)∧AObj.fro 1 (iE i.x.months)=AObj.fro 1 (iE i.x.months)) (∃ (i0:Bool),∃ (I:Bool→Prop),cnd (decide ((↑i_15.fst:Int) ≥ (↑els.length:Int))) (∃ (i':Bool),i'=true∧I i'∧AObj.fro 5 (List.map zX i_13.snd)=AObj.fro 5 (List.map zX i_13.snd)∧AObj.own 2 1 (iE i_13.fst)=AObj.own 2 1 (iE i_13.fst)∧zR o=zR o∧AObj.own 41 4 (List.map yA i_8.r.steps)=AObj.own 41 4 (List.map yA i_8.r.steps)∧x7 i i_6=x7 i i_6∧xU i_5=xU i_5∧y9 i_1=y9 i_1∧AObj.fro 1 (iE i_1.months)=AObj.fro 1 (iE i_1.months)∧AObj.fro 1 (iE i_1.settle)=AObj.fro 1 (iE i_1.settle)∧yY i=yY i∧AObj.fro 1 (iE i.x.settle)=AObj.fro 1 (iE i.x.settle)∧AObj.fro 1 (iE i.x.months)=AObj.fro 1 (iE i.x.months)) ((0≤(↑i_15.fst:Int)∧(↑i_15.fst:Int)<(↑els.length:Int))∧∃ (n:Int),∃ (n_1:Int),∃ (n_2:Int),∃ (n_3:Int),∃ (n_4:Int),∃ (n_5:Int),zG els (↑i_15.fst:Int).toNat 0 6=some [D.v (.int .i64 n),D.v (.int .i64 n_1),D.v (.int .i64 n_2),D.v (.int .i64 n_3),D.v (.int .i64 n_4),D.v (.int .i64 n_5)]∧(0≤(↑i_15.snd:Int)∧(↑i_15.snd:Int)<(↑(List.map zX i_13.snd).length:Int))∧∃ (n_6:Int),zG (List.map zX i_13.snd) (↑i_15.snd:Int).toNat ((0:Nat)+(0:Nat)) 1=some [D.v (.int .i64 n_6)]∧(0≤(↑i_15.snd:Int)∧(↑i_15.snd:Int)<(↑(List.map zX i_13.snd).length:Int))∧∃ (n_7:Int),zG (List.map zX i_13.snd) (↑i_15.snd:Int).toNat ((0:Nat)+(2:Nat)) 1=some [D.v (.int .i64 n_7)]∧(0≤(↑i_15.snd:Int)∧(↑i_15.snd:Int)<(↑(iE i_13.fst).length:Int))∧∃ (n_8:Int),zG (iE i_13.fst) (↑i_15.snd:Int).toNat 0 1=some [D.v (.int .i64 n_8)]∧(0≤(↑i_15.snd:Int)∧(↑i_15.snd:Int)<(↑(List.map zX i_13.snd).length:Int))∧∃ (n_9:Int),zG (List.map zX i_13.snd) (↑i_15.snd:Int).toNat ((0:Nat)+(3:Nat)) 1=some [D.v (.int .i64 n_9)]∧(0≤(↑i_15.snd:Int)∧(↑i_15.snd:Int)<(↑(iE i_13.fst).length:Int))∧∃ (n_10:Int),zG (iE i_13.fst) (↑i_15.snd:Int).toNat 0 1=some [D.v (.int .i64 n_10)]∧∃ (i':Bool),i'=!(n==n_6 && (n_1==i_10.fst && (n_2==i_10.snd && (n_3==n_7 && (n_4==n_8 && (n_5==IntKind.i64.wrap (n_9 - n_10) && true))))))∧I i'∧AObj.fro 5 (List.map zX i_13.snd)=AObj.fro 5 (List.map zX i_13.snd)∧AObj.own 2 1 (iE i_13.fst)=AObj.own 2 1 (iE i_13.fst)∧zR o=zR o∧AObj.own 41 4 (List.map yA i_8.r.steps)=AObj.own 41 4 (List.map yA i_8.r.steps)∧x7 i i_6=x7 i i_6∧xU i_5=xU i_5∧y9 i_1=y9 i_1∧AObj.fro 1 (iE i_1.months)=AObj.fro 1 (iE i_1.months)∧AObj.fro 1 (iE i_1.settle)=AObj.fro 1 (iE i_1.settle)∧yY i=yY i∧AObj.fro 1 (iE i.x.settle)=AObj.fro 1 (iE i.x.settle)∧AObj.fro 1 (iE i.x.months)=AObj.fro 1 (iE i.x.months))∧∀ (i_16:Bool),I i_16→cnd i_16 (∃ (o:Unit),true=false∧True) (∃ (i':Nat × Nat),(↑i'.fst:Int)=IntKind.i64.wrap ((↑i_15.fst:Int)+1)∧(↑i'.snd:Int)=IntKind.i64.wrap ((↑i_15.snd:Int)+1)∧I_7 i'∧μ_2 i'<μ_2 i_15∧AObj.fro 5 (List.map zX i_13.snd)=AObj.fro 5 (List.map zX i_13.snd)∧AObj.own 2 1 (iE i_13.fst)=AObj.own 2 1 (iE i_13.fst)∧zR o=zR o∧AObj.own 41 4 (List.map yA i_8.r.steps)=AObj.own 41 4 (List.map yA i_8.r.steps)∧x7 i i_6=x7 i i_6∧xU i_5=xU i_5∧y9 i_1=y9 i_1∧AObj.fro 1 (iE i_1.months)=AObj.fro 1 (iE i_1.months)∧AObj.fro 1 (iE i_1.settle)=AObj.fro 1 (iE i_1.settle)∧yY i=yY i∧AObj.fro 1 (iE i.x.settle)=AObj.fro 1 (iE i.x.settle)∧AObj.fro 1 (iE i.x.months)=AObj.fro 1 (iE i.x.months)))) (cnd ((↑i_15.fst:Int)==(↑i_9:Int)) (∃ (o:Unit),true=false∧True) (∃ (i':Nat),(↑i':Int)=(↑i_15.fst:Int)∧I i'∧μ i'<μ i_9∧zR o=zR o∧AObj.own 41 4 (List.map yA i_8.r.steps)=AObj.own 41 4 (List.map yA i_8.r.steps)∧x7 i i_6=x7 i i_6∧xU i_5=xU i_5∧y9 i_1=y9 i_1∧AObj.fro 1 (iE i_1.months)=AObj.fro 1 (iE i_1.months)∧AObj.fro 1 (iE i_1.settle)=AObj.fro 1 (iE i_1.settle)∧yY i=yY i∧AObj.fro 1 (iE i.x.settle)=AObj.fro 1 (iE i.x.settle)∧AObj.fro 1 (iE i.x.months)=AObj.fro 1 (iE i.x.months))))))) (∃ (i:Unit),True∧∀ (o:Unit),True→∃ (o:Unit),true=true∧True)))))∧∀ (o:Unit),i_2.check ≠ 0→∃ (o:Unit),true=false∧True
theorem eqmf (i : MmI) : Vmf i = walk Try.prog ([(6,kprodC),(7,newSC),(8,smallC),(9,saddC),(12,r5countC),(13,sordersC),(10,runC),(14,allocC),(11,known16C)]) 0 (mfJ) (mfA i) [] Try.f4 (Try.f4.body.getD .skip) (mfC.pat i) (mfC.pre i) (mfC.alts i) := by kernel_rfl
open Go Cv Go.Proofs
def Two (L : List zH) : Prop := L=vW L 1++vW L 2
open Go Cv Go.Proofs
open Go Cv Go.Proofs
open Go Cv Go.Proofs
theorem vY {inst s : Int} {f : jT} : ∀ {os : List zH} {sh : List Int},f ∈ yK inst s os sh → f.side = s ∧ f.inst = inst ∧ ∃ o ∈ os,f.price = o.price
  | [],sh,h => by cases h
  | o :: os,[],h => by cases h
  | o :: os,k :: sh,h => by
    rw [yK] at h
    split at h
    · rcases List.mem_cons.1 h with rfl | h
      · exact ⟨rfl,rfl,o,List.mem_cons_self,rfl⟩
      · obtain ⟨a,b,o',c,d⟩ := vY h
        exact ⟨a,b,o',List.mem_cons_of_mem _ c,d⟩
    · obtain ⟨a,b,o',c,d⟩ := vY h
      exact ⟨a,b,o',List.mem_cons_of_mem _ c,d⟩
def FOk (f : jT) : Prop := (f.side=1 ∨ f.side=2)∧-2000000≤f.price∧f.price≤2000000
theorem mK {p : Prd} {B : List (List zH)} (h : BOk p B) (inst : Int) {s : Int} (hs : s = 1 ∨ s = 2) (q : Int) : ∀ f ∈ yH p B inst s q,FOk f := by
  intro f hf
  obtain ⟨a,_,o,ho,e⟩ := vY hf
  refine ⟨by rw [a]; exact hs,?_⟩
  rw [e]
  have ho := (List.mem_filter.1 ho).1
  by_cases hk : inst.toNat < B.length
  · obtain ⟨L,hL⟩ := z9 hk
    rw [zU hL] at ho
    exact h.prices hL o ho
  · rw [List.getD_eq_getElem?_getD,List.getElem?_eq_none (by omega)] at ho; cases ho
def SOk (t : wY) : Prop := (-2000000≤t.price∧t.price≤2000000)∧(∀ f ∈ t.fills,FOk f)∧t.fills.length≤500
theorem z0g {p : Prd} {B : List (List zH)} (h : BWf p B) {inst : Int} (hi : 0 ≤ inst ∧ inst < B.length) {s : Int} (hs : s = 1 ∨ s = 2) (hn : (zO p B inst s).2.2 = true) : -2000000 ≤ (zO p B inst s).1.price ∧ (zO p B inst s).1.price ≤ 2000000 := by
  rw [zO] at hn ⊢
  obtain ⟨L,hL⟩ := z9 (l := B) (i := inst.toNat) (by omega)
  rw [zU hL] at hn ⊢
  split
  · exact zBb (h.ok.prices hL)
  · rename_i c
    rw [if_neg c] at hn
    have hm := zAh hn
    have := (List.mem_filter.1 hm).2
    exact zFs h.ok.pc (of_decide_eq_true this)
theorem z0c {p : Prd} {B : List (List zH)} (h : BWf p B) {inst : Int} (hi : 0 ≤ inst ∧ inst < B.length) {sd : Bool} {price q : Int} {t : wY} {B' : List (List zH)} (e : vR p B inst sd price q = some (t,B')) : SOk t := by
  have hs : zB (!sd) = 1 ∨ zB (!sd) = 2 := c9 _
  have hb := z0g h hi hs
  have hin := zBi h.ok h.od hi hs
  rw [vR] at e
  dsimp only at e
  split at e
  · rename_i c
    have c1 : (zO p B inst (zB (!sd))).2.2 = true := by
      cases hx : (zO p B inst (zB (!sd))).2.2 with
      | false => rw [hx] at c; cases c
      | true => rfl
    have hb := hb c1
    obtain ⟨_,hin,_⟩ := hin c1
    split at e
    · rename_i c2
      obtain ⟨_,ok⟩ := hin c2
      cases e
      refine ⟨hb,fun f hf => ?_,?_⟩
      · rcases List.mem_append.1 hf with hf | hf
        · exact mK h.ok _ ok.sa _ f hf
        · exact mK h.ok.takes _ ok.sb _ f hf
      · dsimp only
        rw [List.length_append]
        have := uK (p := p) h.od (zO p B inst (zB (!sd))).1.a.inst (zO p B inst (zB (!sd))).1.a.side (min q (zO p B inst (zB (!sd))).1.qty)
        have := uK (p := p) (h.takes (fs := yH p B (zO p B inst (zB (!sd))).1.a.inst (zO p B inst (zB (!sd))).1.a.side (min q (zO p B inst (zB (!sd))).1.qty))).od (zO p B inst (zB (!sd))).1.b.inst (zO p B inst (zB (!sd))).1.b.side (min q (zO p B inst (zB (!sd))).1.qty)
        omega
    · cases e
      refine ⟨hb,fun f hf => mK h.ok _ hs _ f hf,?_⟩
      have := uK (p := p) h.od inst (zB (!sd)) (min q (zO p B inst (zB (!sd))).1.qty)
      dsimp only
      omega
  · cases e
open Go Cv Go.Proofs
structure zWm (p : Prd) (B : List (List zH)) (q : Int) (g : List jT) (k : Nat) (s pr : Int) : Prop where
  lt : k < B.length
  s12 : s = 1 ∨ s = 2
  eq : g = yK k s (atL (B.getD k []) s pr) (xA ⟨p,atL (B.getD k []) s pr,q⟩)
  sh : sH ((atL (B.getD k []) s pr).map (·.qty)) (xA ⟨p,atL (B.getD k []) s pr,q⟩) q
  ne : g ≠ []
theorem lE {inst s : Int} : ∀ {os : List zH} {sh : List Int},sh.length = os.length → yK inst s os sh = [] → (∀ n,0 ≤ sh.getD n 0) → sh.sum = 0
  | [],[],_,_,_ => rfl
  | [],_ :: _,h,_,_ => by cases h
  | _ :: _,[],h,_,_ => by cases h
  | o :: os,x :: sh,h,h2,h3 => by
    rw [yK] at h2
    split at h2
    · cases h2
    · have := lE (os := os) (sh := sh) (by simpa using h) h2 fun n => h3 (n + 1)
      have h0 : 0 ≤ x := h3 0
      rw [List.sum_cons]; omega
theorem zJw {p : Prd} {B : List (List zH)} (h : BWf p B) {k : Nat} {L : List zH} (hL : B[k]? = some L) {s : Int} (hs : s = 1 ∨ s = 2) {q : Int} (hb : (bestL L s).2 = true) (hq : 1 ≤ q ∧ q ≤ (bestL L s).1.qty) :
    zWm p B q (yH p B k s q) k s (bestL L s).1.price := by
  have ho := h.od k L hL
  have hsr := h.srt k L hL s hs
  have hlv : fH B k s = atL L s (bestL L s).1.price := by rw [fH,Int.toNat_natCast,zU hL]
  obtain ⟨v,vs,hl⟩ : ∃ v vs,pV L s = v :: vs := by
    cases e : pV L s with
    | nil => rw [bestL,e] at hb; cases hb
    | cons v vs => exact ⟨v,vs,rfl⟩
  have hv : (bestL L s).1 = v := by rw [bestL,hl]
  rw [hv] at hq hlv ⊢
  have hgs := zPv hsr (v := v) (vs := vs) (by rw [← hl]; rfl)
  have hat : atL L s v.price = (vW L s).filter fun o => decide (o.price = v.price) := zTs L s v.price
  have hvq : v.qty = ((atL L s v.price).map (·.qty)).sum := by
    have := congrArg Lv.qty hgs.1
    rw [hat]; exact this
  have hr : yI ((atL L s v.price).map (·.qty)) q = true := by
    refine zIi ?_ (by omega) (fun x hx => ?_) (by omega)
    · rw [List.length_map]; exact Nat.le_trans (List.length_filter_le _ _) ho.2.2
    · obtain ⟨o,hm,rfl⟩ := List.mem_map.1 hx
      exact (ho.1 o (List.mem_filter.1 hm).1).q
  have hS := bH h.ok.pc hr
  have e : yH p B k s q = yK k s (atL (B.getD k []) s v.price) (xA ⟨p,atL (B.getD k []) s v.price,q⟩) := by
    rw [yH,hlv,zU hL]
  refine ⟨(List.getElem?_eq_some_iff.1 hL).1,hs,e,by rw [zU hL]; exact hS,fun e2 => ?_⟩
  rw [e,zU hL] at e2
  have := lE (by rw [hS.len,List.length_map]) e2 fun n => (hS.bd n).1
  have := hS.sum
  omega
theorem m9 {j : Nat} {L : List zH} : ∀ {fs : List jT} {B : List (List zH)},B[j]? = some L → (∀ f ∈ fs,qL L f.id = false) → (xF B fs)[j]? = some L
  | [],B,h,_ => h
  | f :: fs,B,h,hf => by
    refine m9 (fs := fs) (B := (qW B f.id f.qty).1) ?_ fun g hg => hf g (List.mem_cons_of_mem _ hg)
    rw [qW]
    split
    · exact h
    · rename_i k hk
      dsimp only
      have hne : k ≠ j := by
        rintro rfl
        obtain ⟨L',hL',hh⟩ := jJ hk
        rw [h] at hL'
        cases hL'
        rw [hf f List.mem_cons_self] at hh
        cases hh
      rw [List.getElem?_set_ne hne]; exact h
theorem cL {inst s : Int} {f : jT} : ∀ {os : List zH} {sh : List Int},f ∈ yK inst s os sh → ∃ o ∈ os,f.id = o.id
  | [],sh,h => by cases h
  | o :: os,[],h => by cases h
  | o :: os,k :: sh,h => by
    rw [yK] at h
    split at h
    · rcases List.mem_cons.1 h with rfl | h
      · exact ⟨o,List.mem_cons_self,rfl⟩
      · obtain ⟨o',c,d⟩ := cL h
        exact ⟨o',List.mem_cons_of_mem _ c,d⟩
    · obtain ⟨o',c,d⟩ := cL h
      exact ⟨o',List.mem_cons_of_mem _ c,d⟩
theorem zGh {p : Prd} {B : List (List zH)} (h : BWf p B) {k j : Nat} (hne : k ≠ j) {L L' : List zH} (hL : B[k]? = some L) (hL' : B[j]? = some L') (s q : Int) : (xF B (yH p B k s q))[j]? = some L' := by
  refine m9 hL' fun f hf => ?_
  obtain ⟨o,ho,e⟩ := cL hf
  have ho := (List.mem_filter.1 ho).1
  rw [Int.toNat_natCast,zU hL] at ho
  cases hh : qL L' f.id with
  | false => rfl
  | true =>
    have a := h.inst hL' (hasId_iff.1 hh)
    have b := h.inst hL (id := f.id) (by rw [e]; exact List.mem_map.2 ⟨o,ho,rfl⟩)
    rw [a] at b
    cases b
    exact absurd rfl hne
theorem zKn {p : Prd} {B B' : List (List zH)} {k : Nat} {L : List zH} (hL : B[k]? = some L) (hL' : B'[k]? = some L) (s q : Int) : yH p B' k s q = yH p B k s q := by
  rw [yH,yH,fH,fH,Int.toNat_natCast,zU hL,zU hL']
theorem zFq {p : Prd} {B : List (List zH)} (h : BWf p B) {inst : Int} (hi : 0 ≤ inst ∧ inst < B.length) {sd : Bool} {price q : Int} (hq : 1 ≤ q) {t : wY} {B' : List (List zH)} (e : vR p B inst sd price q = some (t,B')) :
    ∃ g1 k1 s1 p1,zWm p B t.qty g1 k1 s1 p1 ∧ (t.fills = g1 ∨ ∃ g2 k2 s2 p2,zWm p B t.qty g2 k2 s2 p2 ∧ t.fills = g1 ++ g2) := by
  have hs : zB (!sd) = 1 ∨ zB (!sd) = 2 := c9 _
  have hin := zBi h.ok h.od hi hs
  rw [vR] at e
  dsimp only at e
  split at e
  · rename_i c
    have c1 : (zO p B inst (zB (!sd))).2.2 = true := by
      cases hx : (zO p B inst (zB (!sd))).2.2 with
      | false => rw [hx] at c; cases c
      | true => rfl
    obtain ⟨hq1,h1,h2⟩ := hin c1
    split at e
    · rename_i c2
      obtain ⟨_,ok⟩ := h1 c2
      generalize (zO p B inst (zB (!sd))).1 = n at *
      obtain ⟨np,nq,⟨ai,az⟩,⟨bi,bs⟩⟩ := n
      have a := ok.a
      have b := ok.b
      have ne := ok.ne
      rw [List.length_map] at a b
      dsimp only at a b ne hq1
      obtain ⟨ka,rfl⟩ : ∃ k : Nat,ai = k := ⟨ai.toNat,by omega⟩
      obtain ⟨kb,rfl⟩ : ∃ k : Nat,bi = k := ⟨bi.toNat,by omega⟩
      obtain ⟨La,hLa⟩ := z9 (l := B) (i := ka) (by omega)
      obtain ⟨Lb,hLb⟩ := z9 (l := B) (i := kb) (by omega)
      have e1 := ok.ha
      have e2 := ok.hb
      have e3 := ok.qty
      have sa : az = 1 ∨ az = 2 := ok.sa
      have bz : bs = 1 ∨ bs = 2 := ok.sb
      dsimp only at e1 e2 e3
      rw [Int.toNat_natCast,zBp hLa] at e1 e3
      rw [Int.toNat_natCast,zBp hLb] at e2 e3
      rw [(vT La sa).1] at e1
      rw [(vT Lb bz).1] at e2
      rw [(vT La sa).2.1,(vT Lb bz).2.1] at e3
      cases e
      dsimp only
      have hl := zGh h (k := ka) (j := kb) (by omega) hLa hLb az (min q nq)
      rw [zKn hLb hl]
      exact ⟨_,ka,az,_,zJw h hLa sa e1 (by omega),.inr ⟨_,kb,bs,_,zJw h hLb bz e2 (by omega),rfl⟩⟩
    · rename_i c2
      have c2 : (zO p B inst (zB (!sd))).2.1 = false := by simpa using c2
      obtain ⟨d1,d2,d3⟩ := h2 c2
      obtain ⟨k,rfl⟩ : ∃ k : Nat,inst = k := ⟨inst.toNat,by omega⟩
      obtain ⟨L,hL⟩ := z9 (l := B) (i := k) (by omega)
      rw [Int.toNat_natCast,zU hL] at d1 d3
      cases e
      dsimp only
      exact ⟨_,k,_,_,zJw h hL hs d1 (by omega),.inl rfl⟩
  · cases e
open Go Cv Go.Proofs
theorem zRf (t : SmI) : 1 ≤ (wL t).qty ∧ (wL t).qty ≤ 12 := by
  have w11 := yV (n := t.x.qty) (lo := 0) (hi := 11) (by omega)
  show 1 ≤ 1 + zD t.x.qty 0 11 ∧ 1 + zD t.x.qty 0 11 ≤ 12
  omega
theorem zJt {p : Prd} (hc : p.check = 0) (x : Ask) (i : Int) : 0 ≤ (wL ⟨p,x,i⟩).inst ∧ (wL ⟨p,x,i⟩).inst < p.count := by
  have hcb := pY hc
  have wi := yV (n := x.inst) (lo := 0) (hi := (p.count : Int) - 1) (by omega)
  show 0 ≤ zD x.inst 0 ((p.count : Int) - 1) ∧ zD x.inst 0 ((p.count : Int) - 1) < p.count
  omega
theorem z4h {l : List wY} {k : Nat} {t : wY} (h : l[k]? = some t) : zG (l.map yA) k (0 + 3) 1 = some [D.ro 6 (t.fills.map xD)] := elA h (by simp [yA]) rfl
theorem z9q {l : List jT} {k : Nat} {f : jT} (h : l[k]? = some f) : zG (l.map xD) k 0 6 = some [D.v (.int .i64 f.id),.v (.int .i64 f.inst),.v (.int .i64 f.side),.v (.int .i64 f.price),.v (.int .i64 f.qty),.v (.int .i64 f.left)] := elA h (by simp [xD]) rfl
theorem zPr {p : Prd} {inst : Int} {sd : Bool} {price : Int} {n : Nat} {B : List (List zH)} {q : Int} {t : wY} (h : (dQ p inst sd price n B q).steps[0]? = some t) : ∃ B',vR p B inst sd price q = some (t,B') := by
  cases n with
  | zero => cases h
  | succ n =>
    rw [dQ] at h
    split at h
    · cases h
    · split at h
      · cases h
      · rename_i u B' e
        have h : some u = some t := h
        cases h
        exact ⟨B',e⟩
theorem zWs {L : List zH} {m : Nat} {o : zH} (h : L[m]? = some o) (s pr : Int) : atL (L.take (m + 1)) s pr = atL (L.take m) s pr ++ if (decide (o.side = s) && decide (o.price = pr)) = true then [o] else [] := by
  rw [List.take_add_one,h]
  show atL (L.take m ++ [o]) s pr = _
  rw [nW]
  congr 1
  rw [atL,List.filter_cons]
  rfl
def yAn (p : Prd) (B : List (List zH)) (q : Int) (l : List jT) : Prop := ∃ gs:List (List jT),l=gs.flatten∧∀ g ∈ gs,∃ k s pr,zWm p B q g k s pr
theorem vmf (i : MmI) (h : mfC.cnd i) : Vmf i := by
  obtain ⟨hx,hl,hll,r1,r2,r3,r4⟩ : i.raw := h
  have hc : i.p.check = 0 := zEn i.x
  have hp : i.p.small := zGc i.x
  have ok := xV hc
  have q1 := ok.q1
  have q2 := ok.q2
  have q3 := ok.q3
  have q4 := ok.q4
  have q5 := ok.q5
  have q6 := ok.q6
  have hcb := pY hc
  unfold Vmf zSn
  refine ⟨i.p,fun q => q = i.p,⟨i.x,rfl,rfl,rfl,rfl,rfl,rfl,rfl,rfl,rfl,rfl,rfl,hx,fun _ _ => ⟨i.p,rfl,rfl,rfl,rfl,rfl,rfl,rfl,rfl,rfl,rfl,rfl,rfl,by (repeat' (first|exact trivial|exact rfl|apply And.intro))⟩⟩,?_⟩
  rintro _ rfl
  refine ⟨i.p,rfl,rfl,rfl,rfl,rfl,rfl,rfl,rfl,rfl,rfl,rfl,hp,fun _ _ => ?_,fun _ e => absurd hc e⟩
  refine ⟨(0,gC i.p),rfl,rfl,fun j => j.2.Rep i.p (i.fst j.1) ∧ BOk i.p (i.fst j.1) ∧ j.1 ≤ i.n,fun j => i.n - j.1,⟨tN _,BOk.new hc hp,Nat.zero_le _⟩,?_⟩
  rintro ⟨j,s⟩ ⟨g1,g2,g3⟩
  dsimp only at g1 g2 g3 ⊢
  have hn : i.n = min i.l.length 40 := rfl
  have e1 : (i.l.map askE).length = i.l.length := List.length_map ..
  refine ⟨true,fun b => b = decide (j < i.n),zT (fun c => ⟨_,rfl,decide_eq_decide.2 (by omega),by (repeat' (first|exact trivial|exact rfl|apply And.intro))⟩) (fun c => ⟨false,rfl,(decide_eq_false (by omega)).symm,by (repeat' (first|exact trivial|exact rfl|apply And.intro))⟩),fun b hb => ?_⟩
  subst hb
  refine zT (fun c => ?_) (fun c => ?_)
  · -- an ask
    obtain ⟨a,ha⟩ := z9 (l := i.l) (i := j) (by omega)
    have hask : i.ask j = wL ⟨i.p,a,j⟩ := by rw [MmI.ask,zU ha]
    refine ⟨z4u,fun y => y = i.ask j,⟨⟨by omega,by omega⟩,a.kind,a.inst,a.side,a.id,a.price,a.qty,yAk ha,?_⟩,?_⟩
    · refine (fun hT => ⟨hT,trivial,⟨rfl,trivial,rfl,rfl,rfl,rfl,rfl,rfl,rfl,rfl,trivial,trivial⟩,hT⟩) ?_
      exact ⟨⟨i.p,a,j⟩,rfl,rfl,rfl,rfl,rfl,rfl,rfl,rfl,rfl,rfl,rfl,rfl,rfl,rfl,rfl,rfl,rfl,rfl,⟨hc,hp,hl a (List.mem_of_getElem? ha),by dsimp only;omega,by dsimp only;omega⟩,fun _ _ => ⟨wL ⟨i.p,a,j⟩,rfl,rfl,rfl,rfl,rfl,rfl,hask.symm,by (repeat' (first|exact trivial|exact rfl|apply And.intro))⟩⟩
    · rintro y rfl
      have hys : (i.ask j).side = 1 ∨ (i.ask j).side = 2 := by rw [hask]; exact tW _
      exact ⟨⟨s,(i.ask j).inst,(i.ask j).id,decide ((i.ask j).side = 2),(i.ask j).price,(i.ask j).qty⟩,rfl,rfl,uU hys,rfl,rfl,rfl,g1.fit g2,fun _ _ => ⟨(j + 1,(MSt.addF ⟨s,(i.ask j).inst,(i.ask j).id,decide ((i.ask j).side = 2),(i.ask j).price,(i.ask j).qty⟩).1),wjn (by omega),rfl,⟨g1.ask hys,g2.ask _,by dsimp only;omega⟩,by dsimp only;omega,by (repeat' (first|exact trivial|exact rfl|apply And.intro))⟩⟩
  have hj : j = i.n := by omega
  subst hj
  have eB : i.fst i.n = i.fB := rfl
  rw [eB] at g1 g2
  have hwf := g1.wf g2
  have hBl : i.fB.length = i.p.count := g2.bl
  have hfs : i.fl.side = 1 ∨ i.fl.side = 2 := tW _
  have hfq : 1 ≤ i.fl.qty ∧ i.fl.qty ≤ 12 := zRf _
  have hfi : 0 ≤ i.fl.inst ∧ i.fl.inst < i.p.count := zJt hc _ _
  refine ⟨z4u,fun y => y = i.fl,⟨⟨i.p,⟨0,i.inst,i.side,0,i.price,i.qty⟩,0⟩,rfl,rfl,rfl,rfl,rfl,rfl,rfl,rfl,rfl,rfl,rfl,rfl,rfl,rfl,rfl,rfl,rfl,rfl,⟨hc,hp,⟨by dsimp only;omega,r1,r2,by dsimp only;omega,r3,r4⟩,by dsimp only;omega,by dsimp only;omega⟩,fun _ _ => ⟨i.fl,rfl,rfl,rfl,rfl,rfl,rfl,rfl,by (repeat' (first|exact trivial|exact rfl|apply And.intro))⟩⟩,?_⟩
  rintro _ rfl
  refine ⟨0,rfl,rfl,fun m => m ≤ i.fB.length,fun m => i.fB.length - m,Nat.zero_le _,fun m hm => ⟨i.p,rfl,rfl,rfl,rfl,rfl,rfl,rfl,rfl,rfl,rfl,rfl,hp,fun _ _ => zT (fun c2 => ?_) (fun c2 => ?_)⟩⟩
  · obtain ⟨L,hL⟩ := z9 (l := i.fB) (i := m) (by omega)
    refine ⟨⟨s,i.p,i.fB,m,true⟩,rfl,rfl,⟨g1,by dsimp only;omega⟩,fun _ _ => ⟨by rw [List.length_map,List.length_take]; omega,m + 1,wjn (by omega),?_,by dsimp only;omega,by dsimp only;omega,by (repeat' (first|exact trivial|exact rfl|apply And.intro))⟩⟩
    have : atB i.fB (m : Int) = L := zNw (by omega) hL
    dsimp only
    rw [this,List.take_add_one,hL,List.map_append]; rfl
  have hm : m = i.fB.length := by omega
  subst hm
  rw [List.take_of_length_le (Nat.le_refl _)]
  have hib : 0 ≤ i.fl.inst ∧ i.fl.inst < i.fB.length := by omega
  refine ⟨⟨s,i.p,i.fB,i.fl.inst,decide (i.fl.side = 2),i.fl.price,i.fl.qty⟩,rfl,uU hfs,rfl,rfl,rfl,⟨g1,g2,hib,by dsimp only;omega,by dsimp only;omega⟩,fun o _ => ?_⟩
  have er : RunI.r ⟨s,i.p,i.fB,i.fl.inst,decide (i.fl.side = 2),i.fl.price,i.fl.qty⟩ = dQ i.p i.fl.inst (decide (i.fl.side = 2)) i.fl.price i.fl.qty.toNat i.fB i.fl.qty := rfl
  rw [er]
  have hhd := fun t => zPr (t := t) (p := i.p) (inst := i.fl.inst) (sd := decide (i.fl.side = 2)) (price := i.fl.price) (n := i.fl.qty.toNat) (B := i.fB) (q := i.fl.qty)
  generalize (dQ i.p i.fl.inst (decide (i.fl.side = 2)) i.fl.price i.fl.qty.toNat i.fB i.fl.qty).steps = ts at *
  refine Cv.cnd.mk (fun _ => ⟨(),trivial,fun _ _ => ⟨(),rfl,trivial⟩⟩) (fun hne => ?_)
  have e4 : (ts.map yA).length = ts.length := List.length_map ..
  have hne : 0 < ts.length := by
    rw [e4] at hne
    cases ts with
    | nil => simp at hne
    | cons a b => simp
  obtain ⟨t,ht⟩ := z9 (l := ts) (i := 0) hne
  obtain ⟨B',hst⟩ := hhd t ht
  have hok := z0c hwf hib hst
  have hsq := zBq (by omega) hst
  have hff := zFq hwf hib (by omega) hst
  have hfl : t.fills.length ≤ 500 := hok.2.2
  obtain ⟨y1,y2,y3⟩ := yBj ht
  have y4 := z4h ht
  have i0' : (0 : Int) ≤ 0 ∧ (0 : Int) < ((ts.map yA).length : Int) := ⟨by omega,by omega⟩
  have hgs : yAn i.p i.fB t.qty t.fills := by
    obtain ⟨ga,ka,sa,pa,f1,f2⟩ := hff
    rcases f2 with f2 | ⟨gb,kb,sb',pb,f3,f4⟩
    · refine ⟨[ga],by rw [f2]; simp,fun g hg => ?_⟩
      rcases List.mem_singleton.1 hg with rfl
      exact ⟨_,_,_,f1⟩
    · refine ⟨[ga,gb],by rw [f4]; simp,fun g hg => ?_⟩
      rcases List.mem_cons.1 hg with rfl | hg
      · exact ⟨_,_,_,f1⟩
      · rcases List.mem_singleton.1 hg with rfl
        exact ⟨_,_,_,f3⟩
  have e5 : (t.fills.map xD).length = t.fills.length := List.length_map ..
  have e6 : (List.map (fun L : List zH => [D.ro 5 (List.map zX L)]) i.fB).length = i.fB.length := List.length_map ..
  refine ⟨i0',t.fills.map xD,y4,0,rfl,fun m => yAn i.p i.fB t.qty (t.fills.drop m) ∧ m ≤ t.fills.length,fun m => t.fills.length - m,⟨hgs,Nat.zero_le _⟩,fun m hm => ?_⟩
  obtain ⟨⟨gs,k1,k2⟩,hm⟩ := hm
  refine zT (fun c3 => ?_) (fun c3 => ⟨(),trivial,fun _ _ => ⟨(),rfl,trivial⟩⟩)
  cases gs with
  | nil =>
    have : t.fills.length ≤ m := List.drop_eq_nil_iff.1 k1
    omega
  | cons g gs =>
  obtain ⟨k,sd,pr,G⟩ := k2 g List.mem_cons_self
  have k2 : ∀ g ∈ gs,∃ k s pr,zWm i.p i.fB t.qty g k s pr := fun x hx => k2 x (List.mem_cons_of_mem _ hx)
  obtain ⟨L,hL⟩ := z9 (l := i.fB) (i := k) G.lt
  have Ge := G.eq
  have Gs := G.sh
  rw [zU hL] at Ge Gs
  obtain ⟨os,hos⟩ : ∃ os,atL L sd pr = os := ⟨_,rfl⟩
  obtain ⟨sh,hsh⟩ : ∃ sh,xA ⟨i.p,os,t.qty⟩ = sh := ⟨_,rfl⟩
  rw [hos,hsh] at Ge Gs
  have hsl : sh.length = os.length := by rw [Gs.len,List.length_map]
  have hLo := hwf.od k L hL
  have hosl : os.length ≤ 250 := by rw [← hos]; exact Nat.le_trans (List.length_filter_le _ _) hLo.2.2
  have hoin : ∀ o ∈ os,o ∈ L ∧ o.side = sd ∧ o.price = pr := by
    intro o hm
    rw [← hos] at hm
    obtain ⟨a,b⟩ := List.mem_filter.1 hm
    simp only [Bool.and_eq_true,decide_eq_true_eq] at b
    exact ⟨a,b⟩
  obtain ⟨f0,gr,hg⟩ : ∃ f0 gr,g = f0 :: gr := by
    cases g with
    | nil => exact absurd rfl G.ne
    | cons a b => exact ⟨a,b,rfl⟩
  have hf0 : t.fills[m]? = some f0 := by
    have : (t.fills.drop m)[0]? = some f0 := by rw [k1,hg]; rfl
    rw [List.getElem?_drop] at this
    exact this
  obtain ⟨fs,fi,o',ho',fp⟩ := vY (f := f0) (os := os) (sh := sh) (inst := (k : Int)) (s := sd) (by rw [← Ge,hg]; exact List.mem_cons_self)
  have fp : f0.price = pr := by rw [fp]; exact (hoin o' ho').2.2
  have hos0 : os ≠ [] := by
    rintro rfl
    cases ho'
  have hosp : 0 < os.length := List.length_pos_iff.2 hos0
  have i3 : (0 : Int) ≤ (m : Int) ∧ (m : Int) < ((t.fills.map xD).length : Int) := ⟨by omega,by omega⟩
  have hk := G.lt
  have i4 : (0 : Int) ≤ (k : Int) ∧ (k : Int) < ((List.map (fun L : List zH => [D.ro 5 (List.map zX L)]) i.fB).length : Int) := ⟨by omega,by omega⟩
  have yL : zG (List.map (fun L : List zH => [D.ro 5 (List.map zX L)]) i.fB) k 0 1 = some [D.ro 5 (L.map zX)] := elA hL (by simp) rfl
  have eL : (L.map zX).length = L.length := List.length_map ..
  refine ⟨(0,0),fun a => a = ((k : Int),sd),⟨i3,f0.inst,elA hf0 (by simp [xD]) rfl,i3,f0.side,elA hf0 (by simp [xD]) rfl,(f0.inst,f0.side),rfl,rfl,by dsimp only; rw [fi,fs],by (repeat' (first|exact trivial|exact rfl|apply And.intro))⟩,?_⟩
  rintro _ rfl
  refine ⟨true,fun b => b = false,zT (fun e => by dsimp only at e; omega) (fun e => ⟨_,rfl,decide_eq_false (by dsimp only;omega),by (repeat' (first|exact trivial|exact rfl|apply And.intro))⟩),?_⟩
  rintro _ rfl
  refine Cv.cnd.mk (fun x => by cases x) (fun _ => ?_)
  refine ⟨(0,[]),rfl,rfl,fun a => a.2 = atL (L.take a.1) sd pr ∧ a.1 ≤ L.length,fun a => L.length - a.1,⟨rfl,Nat.zero_le _⟩,?_⟩
  rintro ⟨u,A⟩ ⟨w1,w2⟩
  dsimp only at w1 w2 ⊢
  have hLl := hLo.2.2
  refine ⟨i4,_,yL,zT (fun c4 => ?_) (fun c4 => ?_)⟩
  · -- an order of the book
    obtain ⟨o,ho⟩ := z9 (l := L) (i := u) (by omega)
    have i5 : (0 : Int) ≤ (u : Int) ∧ (u : Int) < ((L.map zX).length : Int) := ⟨by omega,by omega⟩
    have hsn := zWs ho sd pr
    have hAl : A.length ≤ u := by
      rw [w1]
      refine Nat.le_trans (List.length_filter_le _ _) ?_
      rw [List.length_take]; omega
    refine ⟨true,fun b => b = (decide (o.side = sd) && decide (o.price = pr)),⟨i4,_,yL,i5,o.side,elA ho (by simp [zX]) rfl,Cv.cnd.mk (fun e => ?_) (fun e => ?_)⟩,?_⟩
    · have e : o.side = sd := by simpa using e
      refine ⟨i4,_,yL,i5,o.price,elA ho (by simp [zX]) rfl,i3,f0.price,elA hf0 (by simp [xD]) rfl,_,rfl,?_,by (repeat' (first|exact trivial|exact rfl|apply And.intro))⟩
      rw [fp,decide_eq_true e,Bool.true_and]; rfl
    · have e : ¬ o.side = sd := by simpa using e
      exact ⟨false,rfl,by rw [decide_eq_false e]; rfl,by (repeat' (first|exact trivial|exact rfl|apply And.intro))⟩
    · rintro _ rfl
      refine Cv.cnd.mk (fun e => ?_) (fun e => ?_)
      · rw [if_pos e] at hsn
        refine ⟨i4,_,yL,i5,o.id,o.side,o.price,o.qty,o.top,elA ho (by simp [zX]) rfl,by rw [List.length_map]; omega,(u + 1,A ++ [o]),wjn (by omega),?_,⟨?_,by dsimp only;omega⟩,by dsimp only;omega,by (repeat' (first|exact trivial|exact rfl|apply And.intro))⟩
        · dsimp only; rw [List.map_append]; rfl
        · dsimp only; rw [hsn,w1]
      · rw [if_neg (by rw [e]; decide)] at hsn
        refine ⟨(u + 1,A),wjn (by omega),rfl,⟨?_,by dsimp only;omega⟩,by dsimp only;omega,by (repeat' (first|exact trivial|exact rfl|apply And.intro))⟩
        dsimp only; rw [hsn,w1,List.append_nil]
  have hu : u = L.length := by omega
  subst hu
  rw [List.take_of_length_le (Nat.le_refl _),hos] at w1
  subst w1
  refine ⟨([],A),rfl,fun x => x = (sh,A),⟨i0',t.qty,y2,⟨i.p,A,t.qty⟩,rfl,rfl,rfl,rfl,rfl,rfl,rfl,rfl,rfl,rfl,rfl,rfl,rfl,⟨by dsimp only;omega,by dsimp only;omega,by dsimp only;omega,by dsimp only;omega,by dsimp only;omega⟩,fun _ _ => ⟨(sh,A),rfl,by rw [hsh],rfl,by (repeat' (first|exact trivial|exact rfl|apply And.intro))⟩⟩,?_⟩
  rintro _ rfl
  dsimp only
  have z1 : (iE sh).length = A.length := by rw [yU,hsl]
  have z2 : (A.map zX).length = A.length := List.length_map ..
  rw [z1,z2]
  refine ⟨true,fun b => b = false,Cv.cnd.mk (fun e => by simp at e) (fun _ => ⟨_,rfl,?_,by (repeat' (first|exact trivial|exact rfl|apply And.intro))⟩),?_⟩
  · cases hb : (((A.length : Nat) : Int) == 0) with
    | false => rfl
    | true =>
      have : ((A.length : Nat) : Int) = 0 := by simpa using hb
      omega
  rintro _ rfl
  refine Cv.cnd.mk (fun x => by cases x) (fun _ => ?_)
  refine ⟨(m,0),rfl,rfl,fun a => a.2 ≤ A.length ∧ a.1 ≤ t.fills.length ∧ t.fills.drop a.1 = yK k sd (A.drop a.2) (sh.drop a.2) ++ gs.flatten ∧ a.1 + (yK k sd (A.drop a.2) (sh.drop a.2)).length = m + g.length,fun a => A.length - a.2,⟨Nat.zero_le _,hm,by dsimp only; rw [k1,List.flatten_cons,Ge]; rfl,by dsimp only; rw [Ge]; rfl⟩,?_⟩
  rintro ⟨v,u⟩ ⟨v1,v2,v3,v4⟩
  dsimp only at v1 v2 v3 v4 ⊢
  refine zT (fun c4 => ?_) (fun c4 => ?_)
  · obtain ⟨o,ho⟩ := z9 (l := A) (i := u) (by omega)
    obtain ⟨x,hx⟩ := z9 (l := sh) (i := u) (by omega)
    have hAd : A.drop u = o :: A.drop (u + 1) := by
      rw [List.drop_eq_getElem_cons (by omega),(List.getElem?_eq_some_iff.1 ho).2]
    have hsd : sh.drop u = x :: sh.drop (u + 1) := by
      rw [List.drop_eq_getElem_cons (by omega),(List.getElem?_eq_some_iff.1 hx).2]
    have hb := Gs.bd u
    have hxg : sh.getD u 0 = x := zU hx
    have hqg : (A.map (·.qty)).getD u 0 = o.qty := zU (by rw [List.getElem?_map,ho]; rfl)
    rw [hxg,hqg] at hb
    have hoq := (hLo.1 o (hoin o (List.mem_of_getElem? ho)).1).q
    have i6 : (0 : Int) ≤ (u : Int) ∧ (u : Int) < ((A.length : Nat) : Int) := ⟨by omega,by omega⟩
    rw [hAd,hsd,yK] at v3 v4
    refine ⟨i6,x,elI hx,Cv.cnd.mk (fun e => ?_) (fun e => ?_)⟩
    · have e : x = 0 := by simpa using e
      rw [if_neg (by omega)] at v3 v4
      exact ⟨(v,u + 1),rfl,wjn (by omega),⟨by dsimp only;omega,v2,v3,v4⟩,by dsimp only;omega,by (repeat' (first|exact trivial|exact rfl|apply And.intro))⟩
    · have e : ¬ x = 0 := by simpa using e
      rw [if_pos (by omega)] at v3 v4
      have hF : t.fills[v]? = some ⟨o.id,k,sd,o.price,x,o.qty - x⟩ := by
        have : (t.fills.drop v)[0]? = some ⟨o.id,k,sd,o.price,x,o.qty - x⟩ := by rw [v3]; rfl
        rw [List.getElem?_drop] at this
        exact this
      have hvl := (List.getElem?_eq_some_iff.1 hF).1
      have v3' : t.fills.drop (v + 1) = yK k sd (A.drop (u + 1)) (sh.drop (u + 1)) ++ gs.flatten := by
        have : t.fills.drop (v + 1) = (t.fills.drop v).drop 1 := by rw [List.drop_drop]
        rw [this,v3]; rfl
      have ww : IntKind.i64.wrap (o.qty - x) = o.qty - x := w64 (by omega)
      refine ⟨true,fun b => b = false,zT (fun e => by omega) (fun _ => ⟨⟨by omega,by omega⟩,_,_,_,_,_,_,z9q hF,i6,o.id,elA ho (by simp [zX]) rfl,i6,o.price,elA ho (by simp [zX]) rfl,i6,x,elI hx,i6,o.qty,elA ho (by simp [zX]) rfl,i6,x,elI hx,_,rfl,by rw [ww]; simp,by (repeat' (first|exact trivial|exact rfl|apply And.intro))⟩),?_⟩
      rintro _ rfl
      exact Cv.cnd.mk (fun x => by cases x) (fun _ => ⟨(v + 1,u + 1),wjn (by omega),wjn (by omega),⟨by dsimp only;omega,by dsimp only;omega,v3',by dsimp only; rw [List.length_cons] at v4; omega⟩,by dsimp only;omega,by (repeat' (first|exact trivial|exact rfl|apply And.intro))⟩)
  have hu : u = A.length := by omega
  subst hu
  rw [List.drop_of_length_le (Nat.le_refl _)] at v3 v4
  have hnil : yK (k : Int) sd [] (sh.drop A.length) = [] := by rw [yK]; simp
  rw [hnil] at v3 v4
  have hgl : 0 < g.length := by rw [hg]; simp
  have v4 : v = m + g.length := v4
  refine Cv.cnd.mk (fun e => ?_) (fun _ => ⟨v,rfl,⟨⟨gs,v3,k2⟩,v2⟩,by omega,by (repeat' (first|exact trivial|exact rfl|apply And.intro))⟩)
  have : (v : Int) = (m : Int) := by simpa using e
  omega
end Sx
