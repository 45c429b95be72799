/- A symbolic walk, tenth part: contracts of functions, and calls by them. No condition. -/
import Derived.Test.YtlgpgmafmgmfdaaSxI
set_option linter.unusedSimpArgs false
set_option linter.unusedVariables false
namespace Sx
open Go Go.RowKit Cv

variable {k : Ko} {L : List HP} {w : World}

def rowsOf : Nat → List AObj → List (Nat × AObj)
  | _, [] => []
  | p, o :: os => (p, o) :: rowsOf (p + 1) os

def PQ (E : Ev) (π : NM) (r : Nat × AObj) : HP := fun h => (r.2 = .gone ∧ h = pe) ∨ ∃ n, plook r.1 π = some n ∧ PRow E π n r.2 h
theorem PQ.mono {E E' : Ev} {π π' : NM} (hle : E.le E') (hx : Ext π π') (r : Nat × AObj) {h : PH} (e : PQ E π r h) : PQ E' π' r h := by
  rcases e with e | ⟨n, h1, h2⟩
  · exact .inl e
  · exact .inr ⟨n, hx _ _ h1, h2.mono hle hx⟩

theorem mtR_ok : ∀ {os : List AObj} {p : Nat} {π : NM} {s : St} {K : NM → St → Prop} {E : Ev} {L : List HP}, mtR p os π s K → Rel k L E s w → WfM π E.tab →
    ∃ E' π' s', MtOk k ((rowsOf p os).map (PQ E' π') ++ L) w E π E' π' s' ∧ K π' s'
  | [], p, π, s, K, E, L, h, R, hw => ⟨E, π, s, ⟨Ev.le.refl _, Ext.refl _, hw, R⟩, h⟩
  | o :: os, p, π, s, K, E, L, h, R, hw => by
    have fin : ∀ {E1 : Ev} {π1 : NM} {s1 : St}, MtOk k (PQ E1 π1 (p, o) :: L) w E π E1 π1 s1 → mtR (p + 1) os π1 s1 K → ∃ E' π' s', MtOk k ((rowsOf p (o :: os)).map (PQ E' π') ++ L) w E π E' π' s' ∧ K π' s' := by
      intro E1 π1 s1 q1 q2
      obtain ⟨E2, π2, s2, r1, r2⟩ := mtR_ok q2 q1.rel q1.wf
      refine ⟨E2, π2, s2, ⟨q1.le.trans r1.le, q1.ext.trans r1.ext, r1.wf, ?_⟩, r2⟩
      have R3 := r1.rel
      have R4 : Rel k (PQ E1 π1 (p, o) :: ((rowsOf (p + 1) os).map (PQ E2 π2) ++ L)) E2 s2 w := ⟨R3.nx, R3.hp.perm (by
        refine List.Perm.append_left _ (.cons _ ?_)
        exact List.perm_middle)⟩
      exact R4.impL fun x hx => hx.mono r1.le r1.ext
    cases o with
    | gone =>
      simp only [mtR] at h
      refine fin ⟨Ev.le.refl _, Ext.refl _, hw, ?_⟩ h
      exact Rel.inn R.nx (((@hp_pure k w True _).2 ⟨trivial, R.hp⟩).imp fun x hx => .inl ⟨rfl, hx.2⟩)
    | _ =>
      simp only [mtR] at h
      split at h <;> first | exact h.elim | skip
      rename_i n hn
      split at h <;> first | exact h.elim | skip
      rename_i o' ho'
      obtain ⟨ho', hg⟩ := getg_some ho'
      obtain ⟨E1, π1, s1, q1, q2⟩ := mtO_ok _ h (R.take ho') hw hg
      exact fin ⟨q1.le, q1.ext, q1.wf, q1.rel.impL fun x hx => .inr ⟨n, q1.ext _ _ hn, hx⟩⟩ q2

/-- One of the ends of a call: what it hands back, and the rows behind it; what is told of them. -/
structure Alt where
  o : Type
  res : o → V
  post : o → List AObj
  rel : o → Prop

/-- A contract: the arguments and rows that it is for, by names of its own; what must hold; its ends. -/
structure Con where
  ι : Type
  pat : ι → List V
  pre : ι → List AObj
  cnd : ι → Prop
  alts : ι → List Alt

def newNM (m nx : Nat) : Nat → NM → NM
  | 0, π => π
  | q + 1, π => newNM m nx q ((m + q, nx + q) :: π)

def postRows (π : NM) : Nat → List AObj → List (Nat × AObj)
  | _, [] => []
  | p, .gone :: os => postRows π (p + 1) os
  | p, o :: os => match plook p π with
    | some n => (n, renO π o) :: postRows π (p + 1) os
    | none => postRows π (p + 1) os

def postSt (m : Nat) (π : NM) (s : St) (os : List AObj) : St := ⟨postRows (newNM m s.nx (os.length - m) π) 0 os ++ s.rows, s.nx + (os.length - m)⟩

def altK (m : Nat) (π : NM) (s : St) (K : V → St → Prop) (a : Alt) : Prop :=
  ∀ o, a.rel o → bif Nat.ble m (a.post o).length then K (renV (newNM m s.nx ((a.post o).length - m) π) (a.res o)) (postSt m π s (a.post o)) else False

def altsK (m : Nat) (π : NM) (s : St) (K : V → St → Prop) : List Alt → Prop
  | [] => True
  | [a] => altK m π s K a
  | a :: l => altK m π s K a ∧ altsK m π s K l

theorem altsK_out {m : Nat} {π : NM} {s : St} {K : V → St → Prop} : ∀ {l : List Alt}, altsK m π s K l → ∀ a ∈ l, altK m π s K a
  | [], _, a, ha => by cases ha
  | [b], h, a, ha => by rcases List.mem_singleton.1 ha with rfl; exact h
  | b :: c :: l, h, a, ha => by
    rcases List.mem_cons.1 ha with rfl | ha
    · exact h.1
    · exact altsK_out h.2 a ha

def Con.call (C : Con) (args : List V) (s : St) (K : V → St → Prop) : Prop :=
  ∃ i : C.ι, mtL (C.pat i) args [] s fun π s => mtR 0 (C.pre i) π s fun π s => bif namesLt (C.pre i).length π then C.cnd i ∧ altsK (C.pre i).length π s K (C.alts i) else False

def Con.ok (P : Program) (f : FuncId) (C : Con) : Prop := ∀ i, C.cnd i → ∀ (k : Ko) (L : List HP) (E : Ev) (w : World) (ys : List Value), Rel k L E ⟨rowsOf 0 (C.pre i), (C.pre i).length⟩ w → VRL E (C.pat i) ys →
  Does P (callFunc f ys.toArray) w fun y w' => ∃ a ∈ C.alts i, ∃ o, a.rel o ∧ ∃ E', E.le E' ∧ VR E' (a.res o) y ∧ Rel k L E' ⟨rowsOf 0 (a.post o), (a.post o).length⟩ w'

theorem plook_new_old {m nx : Nat} {p n : Nat} : ∀ {q : Nat} {π : NM}, (∀ p n, plook p π = some n → p < m ∨ True) → p < m → plook p (newNM m nx q π) = plook p π
  | 0, π, _, _ => rfl
  | q + 1, π, h, hp => by
    simp only [newNM]
    rw [plook_new_old (p := p) (n := n) (q := q) (fun _ _ _ => .inr trivial) hp]
    simp only [plook]
    cases hb : Nat.beq (m + q) p
    · rfl
    · have := Nat.eq_of_beq_eq_true hb; omega

theorem plook_new {m nx : Nat} {p n : Nat} : ∀ {q : Nat} {π : NM}, plook p (newNM m nx q π) = some n → plook p π = some n ∨ (m ≤ p ∧ n = nx + (p - m))
  | 0, π, h => .inl h
  | q + 1, π, h => by
    simp only [newNM] at h
    rcases plook_new (q := q) h with h | h
    · simp only [plook] at h
      cases hb : Nat.beq (m + q) p
      · rw [hb] at h; exact .inl h
      · rw [hb] at h
        have := Nat.eq_of_beq_eq_true hb
        simp only [cond_true, Option.some.injEq] at h
        exact .inr ⟨by omega, by omega⟩
    · exact .inr h

theorem postRows_ok {π : NM} {E E2 : Ev} (hF : E.F = E2.F) (hr : ∀ p n hd, plook p π = some n → E.tab[p]? = some hd → E2.tab[n]? = some hd) {M : List HP} : ∀ {os : List AObj} {p : Nat}, Hp k w ((rowsOf p os).map (rHP E) ++ M) → Hp k w ((postRows π p os).map (rHP E2) ++ M)
  | [], p, H => H
  | o :: os, p, H => by
    simp only [rowsOf, List.map_cons, List.cons_append] at H
    have drop : Hp k w ((postRows π (p + 1) os).map (rHP E2) ++ M) := postRows_ok hF hr H.drop
    have main : ∀ n, plook p π = some n → Hp k w (rHP E2 (n, renO π o) :: ((postRows π (p + 1) os).map (rHP E2) ++ M)) := by
      intro n hn
      have H1 : Hp k w ((rowsOf (p + 1) os).map (rHP E) ++ (rHP E (p, o) :: M)) := H.perm List.perm_middle.symm
      have H2 := postRows_ok hF hr H1
      refine (H2.perm List.perm_middle).imp fun x hx => ?_
      rcases hx with ⟨e, e2⟩ | ⟨hd, h1, h2⟩
      · left
        simp only at e; subst e
        exact ⟨rfl, e2⟩
      · right
        exact ⟨hd, hr _ _ _ hn h1, hF ▸ h2.ren hr⟩
    cases o with
    | gone => simpa only [postRows] using drop
    | _ =>
      simp only [postRows]
      split
      · rename_i n hn; exact main n hn
      · exact drop

theorem Con.call_sound {P : Program} {f : FuncId} {C : Con} (hC : C.ok P f) {args : List V} {s : St} {K : V → St → Prop} {E : Ev} {ys : List Value} (h : C.call args s K) (R : Rel k L E s w) (hv : VRL E args ys) :
    Does P (callFunc f ys.toArray) w (Outc k L E K) := by
  obtain ⟨i, h⟩ := h
  have hw0 : WfM [] E.tab := fun p n e => by cases e
  obtain ⟨E1, π1, s1, q1, q2, q3⟩ := mtL_ok h R hw0 hv
  obtain ⟨E2, π2, s2, r1, r2⟩ := mtR_ok q3 q1.rel q1.wf
  obtain ⟨hlt, hc, ha⟩ := bif_out r2
  have hlt := namesLt_ok hlt
  let m := (C.pre i).length
  let tl : List Hd := (List.range m).map fun p => (E2.tab[(plook p π2).getD 0]?).getD (undef, [])
  have hloc : Loc π2 E2.tab tl := by
    intro p n hp
    obtain ⟨hd, h'⟩ := r1.wf p n hp
    refine ⟨hd, h', ?_⟩
    show ((List.range m).map _)[p]? = _
    rw [List.getElem?_map, List.getElem?_range (hlt p n hp)]
    simp only [Option.map_some, hp, Option.getD_some, h']
  have htl : tl.length = m := by simp [tl]
  have H := r1.rel.frontL
  have H1 := hp_map (g := rHP ⟨E2.F, tl⟩) (fun r x hx => by
    rcases hx with ⟨e1, e2⟩ | ⟨n, h1, h2⟩
    · exact .inl ⟨e1, e2⟩
    · right
      obtain ⟨hd, h3, h4⟩ := h2 E2 π2 (Ev.le.refl _) (Ext.refl _) tl hloc
      obtain ⟨hd', h5, h6⟩ := hloc _ _ h1
      rw [h3] at h5; cases h5
      exact ⟨hd, h6, h4⟩) H
  have R0 : Rel k (s2.rows.map (rHP E2) ++ L) ⟨E2.F, tl⟩ ⟨rowsOf 0 (C.pre i), (C.pre i).length⟩ w := ⟨htl, H1.perm (List.Perm.append_left _ List.perm_middle)⟩
  have hv0 : VRL ⟨E2.F, tl⟩ (C.pat i) ys := q2 E2 π2 r1.le r1.ext tl hloc
  refine (hC i hc k _ _ w ys R0 hv0).mono ?_
  rintro y w' ⟨a, ha', o, hrel, E3, hle, hvr, R3⟩
  obtain ⟨hm, hk⟩ := bif_out (altsK_out ha a ha' o hrel)
  have hm := Nat.le_of_ble_eq_true hm
  let q := (a.post o).length
  have hlen : E3.tab.length = q := R3.nx
  let E4 : Ev := ⟨E3.F, E2.tab ++ E3.tab.drop m⟩
  have hle4 : E2.le E4 := ⟨hle.1, List.prefix_append _ _⟩
  have hren : ∀ p n hd, plook p (newNM m s2.nx (q - m) π2) = some n → E3.tab[p]? = some hd → E4.tab[n]? = some hd := by
    intro p n hd hp ht
    rcases plook_new hp with hp | ⟨h1, rfl⟩
    · obtain ⟨hd', h5, h6⟩ := hloc _ _ hp
      have := pre_get hle.2 h6
      rw [ht] at this; cases this
      exact hle4.get h5
    · show (E2.tab ++ E3.tab.drop m)[s2.nx + (p - m)]? = some hd
      rw [← r1.rel.nx, List.getElem?_append_right (by omega), List.getElem?_drop]
      rw [show m + (E2.tab.length + (p - m) - E2.tab.length) = p by omega]
      exact ht
  refine ⟨E4, _, _, (q1.le.trans r1.le).trans hle4, ?_, hvr.ren (F := E3.F) hren, hk⟩
  refine ⟨by show (E2.tab ++ E3.tab.drop m).length = s2.nx + (q - m); rw [List.length_append, List.length_drop, r1.rel.nx, hlen], ?_⟩
  have H2 := postRows_ok (E := E3) (E2 := E4) rfl hren R3.hp
  have H3 : Hp k w' (s2.rows.map (rHP E2) ++ ((postRows (newNM m s2.nx (q - m) π2) 0 (a.post o)).map (rHP E4) ++ fz E3.F :: L)) := by
    refine H2.perm ?_
    rw [← List.append_assoc]
    refine List.Perm.trans ?_ (List.perm_append_comm.append_right _)
    rw [List.append_assoc]
    exact List.Perm.append_left _ List.perm_middle.symm
  have H4 := hp_map (g := rHP E4) (fun r x => rHP.mono hle4 r) H3
  refine H4.perm ?_
  show (s2.rows.map (rHP E4) ++ ((postRows (newNM m s2.nx (q - m) π2) 0 (a.post o)).map (rHP E4) ++ fz E3.F :: L)).Perm ((postRows (newNM m s2.nx (q - m) π2) 0 (a.post o) ++ s2.rows).map (rHP E4) ++ fz E4.F :: L)
  rw [← List.append_assoc, List.map_append]
  exact List.perm_append_comm.append_right _

end Sx
