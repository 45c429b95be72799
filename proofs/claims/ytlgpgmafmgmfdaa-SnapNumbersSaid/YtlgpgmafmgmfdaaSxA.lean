/- A symbolic walk, first part: data, values, rows of memory; what each is in a world. No condition. -/
import Derived.Test.YtlgpgmafmgmfdaaCvK
set_option linter.unusedSimpArgs false
set_option linter.unusedVariables false
namespace Sx
open Go Go.RowKit Cv

/-- Data that name no place: a cell; a slice that is looked at alone, element by element, each of so many cells. -/
inductive D where
  | v (x : Value)
  | ro (sz : Nat) (els : List (List D))

/-- Values of a walk. 'nm': a place in a row; 'el': in an element of a slice that is one's own; 're': of one that is looked at. -/
inductive V where
  | top
  | d (x : D)
  | nm (n off : Nat)
  | el (n sz i f : Nat)
  | re (sz : Nat) (els : List (List D)) (i f : Nat)
  | own (n : Nat)
  | mp (n : Nat)
  | sub (n i : Nat)
  | agg (l : List V)
  | tup (l : List V)
  | fn (f : Nat) (first cap : List V)
  | ifc (t : Nat) (x : V)

inductive AObj : Type 1 where
  | gone
  | nilo
  | cells (vs : List V) (t : TypeId)
  | own (t sz : Nat) (els : List (List D))
  | fro (sz : Nat) (els : List (List D))
  | map (es : List (Value × List D))
  | iter (s : ByteArray) (pos : Nat)
  | adt (T : Type) (m : Nat) (unf : T → Nat → AObj) (x : T)
  | objs (t : Nat) (T : Type) (m : Nat) (unf : T → Nat → AObj) (l : List T) (hole : Option Nat)

@[reducible] def Hd := Value × List Value

structure Ev where
  F : PH
  tab : List Hd

def FLe (F G : PH) : Prop := ∀ b o, F b = some o → G b = some o
def Ev.le (E E' : Ev) : Prop := FLe E.F E'.F ∧ E.tab <+: E'.tab

theorem FLe.refl (F : PH) : FLe F F := fun _ _ h => h
theorem FLe.trans {F G H : PH} (a : FLe F G) (b : FLe G H) : FLe F H := fun x o h => b x o (a x o h)
theorem Ev.le.refl (E : Ev) : E.le E := ⟨FLe.refl _, List.prefix_refl _⟩
theorem Ev.le.trans {E E' E2 : Ev} (a : E.le E') (b : E'.le E2) : E.le E2 := ⟨a.1.trans b.1, a.2.trans b.2⟩
theorem pre_get {α : Type} {l l' : List α} (h : l <+: l') {n : Nat} {x : α} (e : l[n]? = some x) : l'[n]? = some x := by
  obtain ⟨t, rfl⟩ := h
  rw [List.getElem?_append_left]
  · exact e
  · exact (List.getElem?_eq_some_iff.1 e).1
theorem Ev.le.get {E E' : Ev} (a : E.le E') {n : Nat} {x : Hd} (e : E.tab[n]? = some x) : E'.tab[n]? = some x := pre_get a.2 e

mutual
def DR (F : PH) : D → Value → Prop
  | .v x, y => y = x ∧ x.oneC = true
  | .ro sz els, y => ∃ a c, y = .slice a els.length c ∧ els.length ≤ c ∧ (∀ el ∈ els, el.length = sz) ∧
      (els = [] ∨ ∃ (b o : Nat) (l : List Value) (T : TypeId) (fr : Nat × Nat), a = some ⟨b, o, none⟩ ∧ F b = some (.cells l.toArray T fr) ∧ DRS F els (l.drop o))
def DRL (F : PH) : List D → List Value → Prop
  | [], l => l = []
  | d :: ds, l => ∃ x xs, l = x :: xs ∧ DR F d x ∧ DRL F ds xs
/-- The list begins with these. -/
def DRS (F : PH) : List (List D) → List Value → Prop
  | [], _ => True
  | el :: els, l => ∃ l1 l2, l = l1 ++ l2 ∧ DRL F el l1 ∧ DRS F els l2
end

mutual
theorem DR.mono {F G : PH} (h : FLe F G) : ∀ {d : D} {y : Value}, DR F d y → DR G d y
  | .v x, y, e => by simpa only [DR] using e
  | .ro sz els, y, e => by
    simp only [DR] at e ⊢
    obtain ⟨a, c, h1, h2, h3, h4⟩ := e
    refine ⟨a, c, h1, h2, h3, ?_⟩
    rcases h4 with h4 | ⟨b, o, l, T, fr, q1, q2, q3⟩
    · exact .inl h4
    · exact .inr ⟨b, o, l, T, fr, q1, h _ _ q2, DRS.mono h q3⟩
theorem DRL.mono {F G : PH} (h : FLe F G) : ∀ {ds : List D} {l : List Value}, DRL F ds l → DRL G ds l
  | [], l, e => by simpa only [DRL] using e
  | d :: ds, l, e => by
    simp only [DRL] at e ⊢
    obtain ⟨x, xs, h1, h2, h3⟩ := e
    exact ⟨x, xs, h1, DR.mono h h2, DRL.mono h h3⟩
theorem DRS.mono {F G : PH} (h : FLe F G) : ∀ {els : List (List D)} {l : List Value}, DRS F els l → DRS G els l
  | [], l, e => by simp only [DRS]
  | el :: els, l, e => by
    simp only [DRS] at e ⊢
    obtain ⟨x, xs, h1, h2, h3⟩ := e
    exact ⟨x, xs, h1, DRL.mono h h2, DRS.mono h h3⟩
end

mutual
def VR (E : Ev) : V → Value → Prop
  | .top, _ => True
  | .d d, y => DR E.F d y
  | .nm n o, y => ∃ (b oo : Nat) (l : List Value), E.tab[n]? = some (.pointer (some ⟨b, oo, none⟩), l) ∧ y = .pointer (some ⟨b, oo + o, none⟩)
  | .el n sz i f, y => ∃ (b oo m c : Nat) (l : List Value), E.tab[n]? = some (.slice (some ⟨b, oo, none⟩) m c, l) ∧ y = .pointer (some ⟨b, oo + i * sz + f, none⟩)
  | .re sz els i f, y => i < els.length ∧ (∀ el ∈ els, el.length = sz) ∧ ∃ (b o : Nat) (l : List Value) (T : TypeId) (fr : Nat × Nat), y = .pointer (some ⟨b, o + i * sz + f, none⟩) ∧ E.F b = some (.cells l.toArray T fr) ∧ DRS E.F els (l.drop o)
  | .own n, y => ∃ l, E.tab[n]? = some (y, l) ∧ ∃ a m c, y = .slice a m c
  | .mp n, y => ∃ b l, E.tab[n]? = some (y, l) ∧ y = .map (some b)
  | .sub n i, y => ∃ hd l b oo, E.tab[n]? = some (hd, l) ∧ l[i]? = some y ∧ y = .pointer (some ⟨b, oo, none⟩)
  | .agg l, y => ∃ ys, y = .agg ys.toArray ∧ VRL E l ys
  | .tup l, y => ∃ ys, y = .tuple ys.toArray ∧ VRL E l ys
  | .fn f a b, y => ∃ as bs, y = .func (.func f) as.toArray bs.toArray ∧ VRL E a as ∧ VRL E b bs
  | .ifc t x, y => ∃ z, y = .iface t z ∧ VR E x z
def VRL (E : Ev) : List V → List Value → Prop
  | [], l => l = []
  | v :: vs, l => ∃ x xs, l = x :: xs ∧ VR E v x ∧ VRL E vs xs
end

mutual
theorem VR.mono {E E' : Ev} (h : E.le E') : ∀ {v : V} {y : Value}, VR E v y → VR E' v y
  | .top, y, e => by simp only [VR]
  | .d d, y, e => by simp only [VR] at e ⊢; exact e.mono h.1
  | .nm n o, y, e => by
    simp only [VR] at e ⊢
    obtain ⟨b, oo, l, h1, h2⟩ := e
    exact ⟨b, oo, l, h.get h1, h2⟩
  | .el n sz i f, y, e => by
    simp only [VR] at e ⊢
    obtain ⟨b, oo, m, c, l, h1, h2⟩ := e
    exact ⟨b, oo, m, c, l, h.get h1, h2⟩
  | .re sz els i f, y, e => by
    simp only [VR] at e ⊢
    obtain ⟨h0, h1, b, o, l, T, fr, h2, h3, h4⟩ := e
    exact ⟨h0, h1, b, o, l, T, fr, h2, h.1 _ _ h3, h4.mono h.1⟩
  | .own n, y, e => by
    simp only [VR] at e ⊢
    obtain ⟨l, h1, h2⟩ := e
    exact ⟨l, h.get h1, h2⟩
  | .mp n, y, e => by
    simp only [VR] at e ⊢
    obtain ⟨b, l, h1, h2⟩ := e
    exact ⟨b, l, h.get h1, h2⟩
  | .sub n i, y, e => by
    simp only [VR] at e ⊢
    obtain ⟨hd, l, b, oo, h1, h2⟩ := e
    exact ⟨hd, l, b, oo, h.get h1, h2⟩
  | .agg l, y, e => by
    simp only [VR] at e ⊢
    obtain ⟨ys, h1, h2⟩ := e
    exact ⟨ys, h1, VRL.mono h h2⟩
  | .tup l, y, e => by
    simp only [VR] at e ⊢
    obtain ⟨ys, h1, h2⟩ := e
    exact ⟨ys, h1, VRL.mono h h2⟩
  | .fn f a b, y, e => by
    simp only [VR] at e ⊢
    obtain ⟨as, bs, h1, h2, h3⟩ := e
    exact ⟨as, bs, h1, VRL.mono h h2, VRL.mono h h3⟩
  | .ifc t x, y, e => by
    simp only [VR] at e ⊢
    obtain ⟨z, h1, h2⟩ := e
    exact ⟨z, h1, VR.mono h h2⟩
theorem VRL.mono {E E' : Ev} (h : E.le E') : ∀ {vs : List V} {l : List Value}, VRL E vs l → VRL E' vs l
  | [], l, e => by simpa only [VRL] using e
  | v :: vs, l, e => by
    simp only [VRL] at e ⊢
    obtain ⟨x, xs, h1, h2, h3⟩ := e
    exact ⟨x, xs, h1, VR.mono h h2, VRL.mono h h3⟩
end

/-- A value of an entry, of its cells. -/
def valOf : List Value → Value
  | [y] => y
  | ys => .agg ys.toArray

/-- A map's entries: keys as they are. -/
def MR (F : PH) : List (Value × List D) → List MapEntry → Prop
  | [], l => l = []
  | (k, ds) :: es, l => ∃ (m : MapEntry) (ms : List MapEntry), l = m :: ms ∧ m.key = k ∧ (∃ ys, DRL F ds ys ∧ m.val = valOf ys) ∧ MR F es ms

theorem MR.mono {F G : PH} (h : FLe F G) : ∀ {es : List (Value × List D)} {l : List MapEntry}, MR F es l → MR G es l
  | [], l, e => e
  | (k, ds) :: es, l, e => by
    obtain ⟨m, ms, h1, h2, ⟨ys, h3, h4⟩, h5⟩ := e
    exact ⟨m, ms, h1, h2, ⟨ys, h3.mono h, h4⟩, h5.mono h⟩

/-- What a row is in memory: in an environment, at what is known of its place. -/
def rowHP (F : PH) : AObj → List Hd → Hd → HP
  | .gone, _, _ => fun h => h = pe
  | .nilo, _, hd => fun h => h = pe ∧ hd.1 = .slice none 0 0
  | .cells vs t, tab, hd => fun h => ∃ b l, hd.1 = .pointer (some ⟨b, 0, none⟩) ∧ VRL ⟨F, tab⟩ vs l ∧ h = one b (.cells l.toArray t)
  | .own t sz els, tab, hd => fun h => ∃ a k xs, hd.1 = .slice a els.length k ∧ DRL F els.flatten xs ∧ (∀ el ∈ els, el.length = sz) ∧ slO t sz a els.length k xs h
  | .fro sz els, tab, hd => fun h => h = pe ∧ DR F (.ro sz els) hd.1
  | .map es, tab, hd => fun h => ∃ b ents ck, hd.1 = .map (some b) ∧ MR F es ents ∧ h = one b (.map ents.toArray ck)
  | .iter s pos, tab, hd => fun h => ∃ b, hd.1 = .pointer (some ⟨b, 0, none⟩) ∧ h = one b (.stringIter s pos)
  | .adt T m unf x, tab, hd => fun h => ∃ tab1, tab1[0]? = some hd ∧ tab1.length = m ∧ hS ((List.range m).map fun j => fun h => ∃ hd', tab1[j]? = some hd' ∧ rowHP F (unf x j) tab1 hd' h) h
  | .objs t T m unf l hole, tab, hd => fun h => ∃ a k b oo, hd.1 = .slice a l.length k ∧ hd.2.length = l.length ∧ (∀ p ∈ hd.2, ∃ b oo, p = .pointer (some ⟨b, oo, none⟩)) ∧ a = some ⟨b, oo, none⟩ ∧
      hS [slO t 1 a l.length k hd.2, hS ((List.range l.length).map fun i => fun h => if hole = some i then h = pe else ∃ x p tab1, l[i]? = some x ∧ hd.2[i]? = some p ∧ tab1[0]? = some (p, []) ∧ tab1.length = m ∧
        hS ((List.range m).map fun j => fun h => ∃ hd', tab1[j]? = some hd' ∧ rowHP F (unf x j) tab1 hd' h) h)] h

theorem hS_imp {α : Type} {f g : α → HP} (h : ∀ a x, f a x → g a x) : ∀ {l : List α} {x : PH}, hS (l.map f) x → hS (l.map g) x
  | [], x, e => e
  | [a], x, e => h a x e
  | a :: b :: l, x, e => by
    obtain ⟨g1, g2, h1, h2, h3, h4⟩ := e
    exact ⟨g1, g2, h a _ h1, hS_imp h (l := b :: l) h2, h3, h4⟩

theorem rowHP.mono {F G : PH} (hF : FLe F G) (o : AObj) : ∀ {tab tab' : List Hd} (ht : tab <+: tab') {hd : Hd} {h : PH}, rowHP F o tab hd h → rowHP G o tab' hd h := by
  induction o with
  | gone => intro _ _ _ _ _ e; exact e
  | nilo => intro _ _ _ _ _ e; exact e
  | cells vs t =>
    intro tab tab' ht hd h e
    simp only [rowHP] at e ⊢
    obtain ⟨b, l, h1, h2, h3⟩ := e
    exact ⟨b, l, h1, h2.mono ⟨hF, ht⟩, h3⟩
  | own t sz els =>
    intro tab tab' ht hd h e
    simp only [rowHP] at e ⊢
    obtain ⟨a, k, xs, h1, h2, h3⟩ := e
    exact ⟨a, k, xs, h1, h2.mono hF, h3⟩
  | fro sz els =>
    intro tab tab' ht hd h e
    simp only [rowHP] at e ⊢
    exact ⟨e.1, e.2.mono hF⟩
  | map es =>
    intro tab tab' ht hd h e
    simp only [rowHP] at e ⊢
    obtain ⟨b, l, ck, h1, h2, h3⟩ := e
    exact ⟨b, l, ck, h1, h2.mono hF, h3⟩
  | iter s pos => intro _ _ _ _ _ e; simpa only [rowHP] using e
  | adt T m unf x ih =>
    intro tab tab' ht hd h e
    simp only [rowHP] at e ⊢
    obtain ⟨tab1, h1, h2, h3⟩ := e
    refine ⟨tab1, h1, h2, hS_imp ?_ h3⟩
    rintro j y ⟨hd', q1, q2⟩
    exact ⟨hd', q1, ih x j (List.prefix_refl _) q2⟩
  | objs t T m unf l hole ih =>
    intro tab tab' ht hd h e
    simp only [rowHP] at e ⊢
    obtain ⟨a, k, b, oo, h1, h2, h3, h4, h5⟩ := e
    refine ⟨a, k, b, oo, h1, h2, h3, h4, ?_⟩
    obtain ⟨g1, g2, q1, q2, q3, q4⟩ := h5
    refine ⟨g1, g2, q1, hS_imp ?_ q2, q3, q4⟩
    intro i y hy
    split
    · rename_i hi; rw [if_pos hi] at hy; exact hy
    · rename_i hi
      rw [if_neg hi] at hy
      obtain ⟨x, p, tab1, r1, r2, r3, r4, r5⟩ := hy
      refine ⟨x, p, tab1, r1, r2, r3, r4, hS_imp ?_ r5⟩
      rintro j y ⟨hd', s1, s2⟩
      exact ⟨hd', s1, ih x j (List.prefix_refl _) s2⟩

/-- Rows by their names. -/
structure St where
  rows : List (Nat × AObj)
  nx : Nat

def rget (n : Nat) : List (Nat × AObj) → Option AObj
  | [] => none
  | (m, o) :: l => bif Nat.beq m n then some o else rget n l
def rdel (n : Nat) : List (Nat × AObj) → List (Nat × AObj)
  | [] => []
  | (m, o) :: l => bif Nat.beq m n then l else (m, o) :: rdel n l
def rset (n : Nat) (x : AObj) : List (Nat × AObj) → List (Nat × AObj)
  | [] => []
  | (m, o) :: l => bif Nat.beq m n then (m, x) :: l else (m, o) :: rset n x l
def St.get (s : St) (n : Nat) : Option AObj := rget n s.rows
def St.set (s : St) (n : Nat) (o : AObj) : St := ⟨rset n o s.rows, s.nx⟩
def St.del (s : St) (n : Nat) : St := ⟨rdel n s.rows, s.nx⟩
def St.new (s : St) (o : AObj) : St := ⟨(s.nx, o) :: s.rows, s.nx + 1⟩

theorem rget_perm {n : Nat} {o : AObj} : ∀ {l : List (Nat × AObj)}, rget n l = some o → l.Perm ((n, o) :: rdel n l) ∧ ∀ x, (rset n x l).Perm ((n, x) :: rdel n l)
  | [], h => by cases h
  | (m, p) :: l, h => by
    simp only [rget, rdel, rset] at h ⊢
    cases hb : Nat.beq m n
    · rw [hb] at h
      obtain ⟨h1, h2⟩ := rget_perm (l := l) h
      exact ⟨(h1.cons _).trans (.swap _ _ _), fun x => ((h2 x).cons _).trans (.swap _ _ _)⟩
    · rw [hb] at h
      have := Nat.eq_of_beq_eq_true hb
      subst this
      cases h
      exact ⟨.refl _, fun x => .refl _⟩

def rHP (E : Ev) (r : Nat × AObj) : HP := fun h => r.2 = .gone ∧ h = pe ∨ ∃ hd, E.tab[r.1]? = some hd ∧ rowHP E.F r.2 E.tab hd h

theorem rHP.mono {E E' : Ev} (h : E.le E') (r : Nat × AObj) {x : PH} (e : rHP E r x) : rHP E' r x := by
  rcases e with e | ⟨hd, h1, h2⟩
  · exact .inl e
  · exact .inr ⟨hd, h.get h1, h2.mono h.1 _ h.2⟩

def fz (F : PH) : HP := fun h => h = F

/-- The world holds the rows, and what is looked at alone, and a frame. -/
structure Rel (k : Ko) (L : List HP) (E : Ev) (s : St) (w : World) : Prop where
  nx : E.tab.length = s.nx
  hp : Hp k w (s.rows.map (rHP E) ++ fz E.F :: L)

end Sx
