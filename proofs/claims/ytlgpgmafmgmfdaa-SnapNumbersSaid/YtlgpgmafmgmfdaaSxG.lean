/- A symbolic walk, seventh part: operations that turn memory are so in the world. No condition. -/
import Derived.Test.YtlgpgmafmgmfdaaSxF
set_option linter.unusedSimpArgs false
set_option linter.unusedVariables false
namespace Sx
open Go Go.RowKit Cv

variable {P : Program} {k : Ko} {L : List HP} {E : Ev} {s : St} {w : World}

theorem Ev.le.app {E : Ev} (hd : Hd) : E.le ⟨E.F, E.tab ++ [hd]⟩ := ⟨FLe.refl _, List.prefix_append _ _⟩

theorem Rel.ownOpen (R : Rel k L E s w) {n t sz : Nat} {els : List (List D)} (h : s.get n = some (.own t sz els)) :
    ∃ a c xs sub, E.tab[n]? = some (.slice a els.length c, sub) ∧ DRL E.F els.flatten xs ∧ (∀ el ∈ els, el.length = sz) ∧ Hp k w (slO t sz a els.length c xs :: ((rdel n s.rows).map (rHP E) ++ fz E.F :: L)) := by
  obtain ⟨hk, hs, hh⟩ := R.focus h
  cases hh with
  | cons ha hsub hd hr =>
    rcases ha with ⟨e, _⟩ | ⟨⟨hv, sub⟩, h1, h2⟩
    · cases e
    · simp only [rowHP] at h2
      obtain ⟨a, c, xs, rfl, q1, q2, q3⟩ := h2
      exact ⟨a, c, xs, sub, h1, q1, q2, hk, _, .cons q3 hsub hd hr⟩

theorem ownClose {rows : List (Nat × AObj)} {nx t sz : Nat} {els : List (List D)} {a : Option Addr} {c : Nat} {xs : List Value} (hn : E.tab.length = nx) (hx : DRL E.F els.flatten xs) (hu : ∀ el ∈ els, el.length = sz)
    (H : Hp k w (slO t sz a els.length c xs :: (rows.map (rHP E) ++ fz E.F :: L))) :
    ∃ E', E.le E' ∧ Rel k L E' ⟨(nx, .own t sz els) :: rows, nx + 1⟩ w ∧ VR E' (.own nx) (.slice a els.length c) := by
  have hle : E.le ⟨E.F, E.tab ++ [(.slice a els.length c, [])]⟩ := ⟨FLe.refl _, List.prefix_append _ _⟩
  have hget : (E.tab ++ [((.slice a els.length c, []) : Hd)])[nx]? = some (.slice a els.length c, []) := by rw [← hn]; simp
  refine ⟨⟨E.F, E.tab ++ [(.slice a els.length c, [])]⟩, hle, ⟨by simp [hn], ?_⟩, by simp only [VR]; exact ⟨[], hget, _, _, _, rfl⟩⟩
  have H1 : Hp k w (rows.map (rHP E) ++ (slO t sz a els.length c xs :: fz E.F :: L)) := H.perm (List.perm_middle (l₁ := rows.map (rHP E))).symm
  have H2 := hp_map (fun r x => rHP.mono hle r) H1
  have H3 : Hp k w (slO t sz a els.length c xs :: (rows.map (rHP ⟨E.F, E.tab ++ [(.slice a els.length c, [])]⟩) ++ fz E.F :: L)) := H2.perm List.perm_middle
  exact H3.imp fun x hx' => .inr ⟨_, hget, by simp only [rowHP]; exact ⟨a, c, xs, rfl, hx, hu, hx'⟩⟩

theorem outc_new (R : Rel k L E s w) {o : AObj} {O : Obj} {hd : Hd} {K : V → St → Prop} {v : V} {y : Value} (h : rowHP E.F o (E.tab ++ [hd]) hd (one w.heap.size O)) (hv : (E.tab ++ [hd])[s.nx]? = some hd → VR ⟨E.F, E.tab ++ [hd]⟩ v y) (hk : K v (s.new o)) :
    Outc k L E K y (w.alloc O) := by
  obtain ⟨h1, h2, h3⟩ := R.new h
  exact ⟨_, v, _, h1, h2, hv h3, hk⟩

theorem Rel.setCells (R : Rel k L E s w) {n : Nat} {vs vs' : List V} {T : TypeId} (h : s.get n = some (.cells vs T)) {b : Nat} {sub : List Value} (ht : E.tab[n]? = some (.pointer (some ⟨b, 0, none⟩), sub)) {l' : List Value} (hv : VRL E vs' l') :
    Rel k L E (s.set n (.cells vs' T)) (World.setB w b (.cells l'.toArray T)) := by
  obtain ⟨hk, hs, hh⟩ := R.focus h
  cases hh with
  | cons ha hsub hd hr =>
    rcases ha with ⟨e, _⟩ | ⟨hd', h1, h2⟩
    · cases e
    · rw [ht] at h1; cases h1
      simp only [rowHP] at h2
      obtain ⟨b', l, e1, e2, rfl⟩ := h2
      cases e1
      have H : Hp k w (pt b (.cells l.toArray T) :: ((rdel n s.rows).map (rHP E) ++ fz E.F :: L)) := ⟨hk, _, .cons rfl hsub hd hr⟩
      refine R.unfocus h ((H.upd (.cells l'.toArray T)).imp fun x hx => .inr ⟨_, ht, ?_⟩)
      simp only [rowHP]
      exact ⟨b, l', rfl, hv, hx⟩

theorem Rel.setMap (R : Rel k L E s w) {n : Nat} {es es' : List (Value × List D)} (h : s.get n = some (.map es)) {b : Nat} {sub : List Value} (ht : E.tab[n]? = some (.map (some b), sub)) :
    ∃ ents ck, MR E.F es ents ∧ w.heap[b]? = some (.map ents.toArray ck) ∧ ∀ ents' ck', MR E.F es' ents' → Rel k L E (s.set n (.map es')) (World.setB w b (.map ents'.toArray ck')) := by
  obtain ⟨hk, hs, hh⟩ := R.focus h
  cases hh with
  | cons ha hsub hd hr =>
    rcases ha with ⟨e, _⟩ | ⟨hd', h1, h2⟩
    · cases e
    · rw [ht] at h1; cases h1
      simp only [rowHP] at h2
      obtain ⟨b', ents, ck, e1, e2, rfl⟩ := h2
      cases e1
      have H : Hp k w (pt b (.map ents.toArray ck) :: ((rdel n s.rows).map (rHP E) ++ fz E.F :: L)) := ⟨hk, _, .cons rfl hsub hd hr⟩
      refine ⟨ents, ck, e2, H.get, fun ents' ck' hm => R.unfocus h ((H.upd (.map ents'.toArray ck')).imp fun x hx => .inr ⟨_, ht, ?_⟩)⟩
      simp only [rowHP]
      exact ⟨b, ents', ck', rfl, hm, hx⟩

theorem mr_push {F : PH} {x : Value} {ds : List D} {ys : List Value} (hd : DRL F ds ys) {e : MapEntry} (h1 : e.key = x) (h2 : e.val = valOf ys) : ∀ {es : List (Value × List D)} {ents : List MapEntry}, MR F es ents → MR F (es ++ [(x, ds)]) (ents ++ [e])
  | [], ents, h => by
    simp only [MR] at h
    subst h
    simp only [List.nil_append, MR]
    exact ⟨e, [], rfl, h1, ⟨ys, hd, h2⟩, rfl⟩
  | (y, d) :: es, ents, h => by
    simp only [MR] at h
    obtain ⟨m, ms, rfl, q1, q2, q3⟩ := h
    simp only [List.cons_append, MR]
    exact ⟨m, _, rfl, q1, q2, mr_push hd h1 h2 q3⟩

theorem sameBits_key {kd : TypeDesc} {x : Value} (hk : KeyT kd x) : Instr.sameBits 10000 x x = true := by
  rcases hk with ⟨ik, k, n, rfl, rfl⟩ | ⟨s, rfl, rfl⟩ <;> simp only [Instr.sameBits]
  · simp
  · rw [beq_dec]; simp

theorem mapV_val {E : Ev} {v : V} (hv : mapV v = true) {y : Value} (h : VR E v y) {ys : List Value} (hc : y.cells = ys.toArray) : y = valOf ys := by
  cases v <;> simp only [mapV, Bool.false_eq_true] at hv
  · rename_i d
    simp only [VR] at h
    have h1 : y.oneC = true := DRL.one (F := E.F) (vs := [d]) (l := [y]) (by simp only [DRL]; exact ⟨_, _, rfl, h, rfl⟩) y (by simp)
    have hcy : y.cells = #[y] := by cases y <;> first | rfl | cases h1
    rw [hcy] at hc
    have : ys = [y] := by
      have := congrArg Array.toList hc
      simpa using this.symm
    rw [this]; rfl
  · rename_i l
    simp only [VR] at h
    obtain ⟨zs, rfl, h2⟩ := h
    simp only [Value.cells] at hc
    have : ys = zs := by
      have := congrArg Array.toList hc
      simpa using this.symm
    subst this
    have hl := h2.length
    unfold valOf
    split
    · simp only [List.length_cons, List.length_nil] at hl
      rw [← hl] at hv
      exact absurd hv (by decide)
    · rfl

theorem Rel.setIter (R : Rel k L E s w) {n pos pos' : Nat} {str : ByteArray} (h : s.get n = some (.iter str pos)) {b : Nat} {sub : List Value} (ht : E.tab[n]? = some (.pointer (some ⟨b, 0, none⟩), sub)) :
    w.heap[b]? = some (.stringIter str pos) ∧ Rel k L E (s.set n (.iter str pos')) (World.setB w b (.stringIter str pos')) := by
  obtain ⟨hk, hs, hh⟩ := R.focus h
  cases hh with
  | cons ha hsub hd hr =>
    rcases ha with ⟨e, _⟩ | ⟨hd', h1, h2⟩
    · cases e
    · rw [ht] at h1; cases h1
      simp only [rowHP] at h2
      obtain ⟨b', e1, rfl⟩ := h2
      cases e1
      have H : Hp k w (pt b (.stringIter str pos) :: ((rdel n s.rows).map (rHP E) ++ fz E.F :: L)) := ⟨hk, _, .cons rfl hsub hd hr⟩
      refine ⟨H.get, R.unfocus h ((H.upd (.stringIter str pos')).imp fun x hx => .inr ⟨_, ht, ?_⟩)⟩
      simp only [rowHP]
      exact ⟨b, rfl, hx⟩

theorem Rel.setOwn (R : Rel k L E s w) {n T sz i f : Nat} {els : List (List D)} {ds : List D} (h : s.get n = some (.own T sz els)) (hi : i < els.length) (hf : f + ds.length ≤ sz) {b oo m c : Nat} {sub : List Value}
    (ht : E.tab[n]? = some (.slice (some ⟨b, oo, none⟩) m c, sub)) {ys : List Value} (hy : DRL E.F ds ys) :
    ∃ l : List Value, w.heap[b]? = some (.cells l.toArray T) ∧ oo + i * sz + f + ys.length ≤ l.length ∧ Rel k L E (s.set n (.own T sz (elSet els i f ds))) (World.setB w b (.cells (spl l (oo + i * sz + f) ys).toArray T)) := by
  obtain ⟨a, c', xs, sub', h1, hx, hu, H⟩ := R.ownOpen h
  rw [ht] at h1; cases h1
  rcases H.slcases with ⟨e, _⟩ | ⟨b', r, e, h2, h3, h4, H1⟩
  · cases e
  cases e
  obtain ⟨hfl, huu⟩ := flat_elSet i f ds hu hi hf
  have hin : i * sz + sz ≤ els.length * sz := by
    have := Nat.mul_le_mul_right sz (show i + 1 ≤ els.length by omega)
    rwa [Nat.succ_mul] at this
  have hyl := hy.length
  refine ⟨xs ++ r, H1.get, by rw [List.length_append]; omega, R.unfocus h ((H1.upd (.cells (spl (xs ++ r) (0 + i * sz + f) ys).toArray T)).imp fun x hx' => .inr ⟨_, ht, ?_⟩)⟩
  simp only [rowHP]
  have hlen : (elSet els i f ds).length = els.length := by simp [elSet]
  have hspl : spl (xs ++ r) (0 + i * sz + f) ys = spl xs (i * sz + f) ys ++ r := by
    simp only [spl, Nat.zero_add]
    rw [List.take_append_of_le_length (by omega), List.drop_append_of_le_length (by omega)]
    simp
  refine ⟨_, c, spl xs (i * sz + f) ys, by rw [hlen], ?_, huu, .inr ⟨b, r, rfl, by rw [hx', hspl], ?_, ?_, by rw [hlen]; exact h4⟩⟩
  · rw [hfl]; exact drl_spl hx hy _
  · rw [hlen, ← h2]; simp only [spl, List.length_append, List.length_take, List.length_drop]; omega
  · rw [← h3]; simp only [spl, List.length_append, List.length_take, List.length_drop]; omega

theorem srcData_ok (R : Rel k L E s w) {sz : Nat} {v : V} {els : List (List D)} (h : srcData s sz v = some els) {y : Value} (hv : VR E v y) :
    ∃ ys, Src sz w y els.length ys ∧ DRL E.F els.flatten ys ∧ ∀ el ∈ els, el.length = sz := by
  unfold srcData at h
  split at h
  · cases h
    simp only [VR, DR] at hv
    obtain ⟨rfl, _⟩ := hv
    exact ⟨[], .inl ⟨none, 0, rfl, pe, .inl ⟨rfl, rfl, rfl⟩, Sub.pe w⟩, by simp [DRL], by simp⟩
  · rename_i b
    obtain ⟨hb, h⟩ := cond_some' h
    have := Nat.eq_of_beq_eq_true hb
    subst this
    cases h
    simp only [VR, DR] at hv
    obtain ⟨rfl, _⟩ := hv
    refine ⟨b.data.toList.map fun b => .int .u8 b.toNat, .inr ⟨b, rfl, rfl, by simp [bytesE], rfl⟩, ?_, ?_⟩
    · unfold bytesE
      generalize b.data.toList = l
      induction l with
      | nil => simp [DRL]
      | cons a l ih => simp only [List.map_cons, List.flatten_cons, List.cons_append, List.nil_append, DRL, DR]; exact ⟨_, _, rfl, ⟨rfl, rfl⟩, ih⟩
    · intro el hel
      unfold bytesE at hel
      obtain ⟨x, _, rfl⟩ := List.mem_map.1 hel
      rfl
  · split at h <;> first | (cases h; done) | skip
    rename_i sz' els' hd
    obtain ⟨hb, hh⟩ := cond_some' h
    clear h
    have := Nat.eq_of_beq_eq_true hb
    subst this
    cases hh
    obtain ⟨a, c, xs, rfl, h2, h3, h4, h5⟩ := slData_ok R hv hd
    exact ⟨xs, .inl ⟨a, c, rfl, h5⟩, h3, h4⟩

theorem sappend_sound (R : Rel k L E s w) {t1 t2 rt : Nat} {x y : V} {xr yr : Value} (hx : VR E x xr) (hy : VR E y yr) {K : V → St → Prop} (h : sappend P t1 t2 s x y K) :
    ∃ v w', Runs P (Builtin.append_ #[t1, t2] rt #[xr, yr]) w v w' ∧ Outc k L E K v w' := by
  unfold sappend at h
  obtain ⟨i, hi, h⟩ := optK_out h
  obtain ⟨hb, h⟩ := bif_out h
  simp only [Bool.and_eq_true] at hb
  obtain ⟨els', hsrc, h⟩ := optK_out h
  obtain ⟨z, q1, q2, q3, q4⟩ := slInfoD_some hi
  obtain ⟨ys, hsrc', hys, huy⟩ := srcData_ok R hsrc hy
  have hby : 0 < i.by_ := by simpa [Nat.blt_eq] using hb.2
  split at h <;> first | exact h.elim | skip
  · obtain ⟨hlen, hk⟩ := h
    simp only [VR, DR] at hx
    obtain ⟨rfl, _⟩ := hx
    obtain ⟨a', c', w', hrun, H⟩ := (R.hp.nil i.e i.sz).append (P := P) (rt := rt) q1 hb.1 hsrc' hys.one (by rw [q2]) hby (by simpa using hlen)
    simp only [Nat.zero_add, List.nil_append] at hrun H
    obtain ⟨E', r1, r2, r3⟩ := ownClose R.nx hys huy H
    exact ⟨_, w', hrun, E', _, _, r1, r2, r3, hk⟩
  · rename_i n
    split at h <;> first | exact h.elim | skip
    rename_i T sz els hg
    obtain ⟨hb2, hlen, hk⟩ := bif_out h
    simp only [Bool.and_eq_true] at hb2
    have e1 := Nat.eq_of_beq_eq_true hb2.1
    have e2 := Nat.eq_of_beq_eq_true hb2.2
    subst e1 e2
    obtain ⟨a, c, xs, sub, h1, hxs, hu, H⟩ := R.ownOpen hg
    simp only [VR] at hx
    obtain ⟨l, hx, _⟩ := hx
    rw [h1] at hx; cases hx
    obtain ⟨a', c', w', hrun, H⟩ := H.append (P := P) (rt := rt) q1 hb.1 hsrc' hys.one (by rw [q2]) hby hlen
    obtain ⟨E', r1, r2, r3⟩ := ownClose (els := els ++ els') R.nx (by rw [List.flatten_append]; exact hxs.append hys) (fun el hel => by
      rcases List.mem_append.1 hel with h | h
      · exact hu el h
      · exact huy el h) (by rw [List.length_append]; exact H)
    rw [List.length_append] at r3
    exact ⟨_, w', hrun, E', _, _, r1, r2, r3, hk⟩

theorem Rel.newFro {E : Ev} {s : St} (R : Rel k L E s w) {sz : Nat} {els : List (List D)} {y : Value} (h : DR E.F (.ro sz els) y) : ∃ E', E.le E' ∧ Rel k L E' (s.new (.fro sz els)) w ∧ E'.tab[s.nx]? = some (y, []) := by
  have hle : E.le ⟨E.F, E.tab ++ [(y, [])]⟩ := Ev.le.app _
  have hget : (E.tab ++ [((y, []) : Hd)])[s.nx]? = some (y, []) := by rw [← R.nx]; simp
  refine ⟨_, hle, ⟨by simp [St.new, R.nx], ?_⟩, hget⟩
  have H2 := hp_map (fun r x => rHP.mono hle r) R.hp
  have := (@hp_pure k w True _).2 ⟨trivial, H2⟩
  exact this.imp fun x hx => .inr ⟨_, hget, by simp only [rowHP]; exact ⟨hx.2, h⟩⟩

theorem nameK_ok : ∀ {vs : List V} {s : St} {K : List V → St → Prop} {E : Ev} {l : List Value}, nameK vs s K → Rel k L E s w → VRL E vs l → ∃ E' vs' s', E.le E' ∧ Rel k L E' s' w ∧ VRL E' vs' l ∧ K vs' s'
  | [], s, K, E, l, h, R, hv => ⟨E, [], s, Ev.le.refl _, R, hv, h⟩
  | v :: vs, s, K, E, l, h, R, hv => by
    simp only [nameK] at h
    simp only [VRL] at hv
    obtain ⟨x, xs, rfl, h1, h2⟩ := hv
    split at h
    · rename_i sz els
      simp only [VR] at h1
      obtain ⟨E1, q1, q2, q3⟩ := R.newFro h1
      obtain ⟨E2, vs', s', r1, r2, r3, r4⟩ := nameK_ok h q2 (h2.mono q1)
      refine ⟨E2, _, s', q1.trans r1, r2, ?_, r4⟩
      simp only [VRL, VR]
      simp only [DR] at h1
      obtain ⟨a, c, e, _⟩ := h1
      exact ⟨x, xs, rfl, ⟨[], r1.get q3, a, _, c, e⟩, r3⟩
    · obtain ⟨E2, vs', s', r1, r2, r3, r4⟩ := nameK_ok h R h2
      exact ⟨E2, _, s', r1, r2, by simp only [VRL]; exact ⟨x, xs, rfl, h1.mono r1, r3⟩, r4⟩

theorem Outc.up {E E' : Ev} (h : E.le E') {K : V → St → Prop} {y : Value} {w' : World} : Outc k L E' K y w' → Outc k L E K y w' := fun ⟨E2, v, s', h1, h2⟩ => ⟨E2, v, s', h.trans h1, h2⟩

theorem se_sound {H : Hnd} (hH : HOk P H) (R : Rel k L E s w) {ρS : SEnv} {ρ : Env} (he : EnvR E ρS ρ) {o : Oper} {K : V → St → Prop} (h : se P H o ρS s K) : Does P (execOp (ev ρ) o) w (Outc k L E K) := by
  cases ho : o.op
  case alloc e =>
    simp only [se, ho] at h
    obtain ⟨z, hz, h⟩ := optK_out h
    obtain ⟨hb, hk⟩ := bif_out h
    obtain ⟨l, hl, hv⟩ := VR.cells (E := E) hb (toV_ok E z)
    simp only [execOp, ho]
    refine does_value (v := .pointer (some ⟨w.heap.size, 0, none⟩)) (w' := w.alloc (.cells z.cells e)) ?_ ?_
    · simp only [Instr.alloc, bind, pure, run_bind, zero_run (zeroS_some hz), Sem.run, run_newVar]
    · refine outc_new (hd := (.pointer (some ⟨w.heap.size, 0, none⟩), [])) R ?_ (fun hg => ?_) hk
      · simp only [rowHP]; exact ⟨_, l, rfl, VRL.mono (Ev.le.app _) hv, by rw [hl]⟩
      · simp only [VR]; exact ⟨_, 0, _, hg, rfl⟩
  case box e x =>
    simp only [se, ho] at h
    obtain ⟨hb, hk⟩ := bif_out h
    obtain ⟨l, hl, hv⟩ := VR.cells (E := E) hb (he.ev x)
    obtain ⟨E1, us, s1, hle1, R1, hv, hk⟩ := nameK_ok hk R hv
    simp only [execOp, ho]
    refine does_value (v := .pointer (some ⟨w.heap.size, 0, none⟩)) (w' := w.alloc (.cells (ev ρ x).cells e)) rfl (Outc.up hle1 ?_)
    refine outc_new (hd := (.pointer (some ⟨w.heap.size, 0, none⟩), [])) R1 ?_ (fun hg => ?_) hk
    · simp only [rowHP]; exact ⟨_, l, rfl, VRL.mono (Ev.le.app _) hv, by rw [hl]⟩
    · simp only [VR]; exact ⟨_, 0, _, hg, rfl⟩
  case buildSlice t len ps =>
    simp only [se, ho] at h
    obtain ⟨i, hi, h⟩ := optK_out h
    obtain ⟨hb, h⟩ := bif_out h
    split at h <;> first | exact h.elim | skip
    rename_i els s' hf
    obtain ⟨z, q1, q2, q3, q4⟩ := slInfoD_some hi
    obtain ⟨inf, zv, p1, p2, p3, p4, p5, p6⟩ := slInfo_some q1
    have hc0 : DRL E.F (List.replicate len i.z).flatten (rowOf z (len * i.sz)).toList := by
      rw [← q2, show z.size = z.toList.length by simp]
      have := rowOf_rep' (z := z.toList) len
      rw [Array.toArray_toList] at this
      rw [this]
      exact drl_rep (q4 E.F) len
    obtain ⟨E', cs', r1, r2, r3, r4, r5, r6, r7, r8⟩ := fillE_ok R hf (sparts_ok he ps.toList) (uni_rep q3) hc0
    have hbsl : bsl P t len (ps.map fun (i, x) => (i, ev ρ x)) = some (i.e, cs'.toArray) := by
      unfold bsl
      simp only [p1, p2]
      rw [if_neg (by rw [p3]; have := Nat.le_of_ble_eq_true hb; omega)]
      have hz : (if len * inf.size = 0 then some #[] else inf.zero.map Value.cells) = some (if len * inf.size = 0 then #[] else z) := by
        split
        · rfl
        · rw [p5, Option.map_some, p6]
      have hrow : rowOf (if len * inf.size = 0 then #[] else z) (len * inf.size) = rowOf z (len * i.sz) := by
        rw [p3]
        by_cases h0 : len * i.sz = 0
        · rw [if_pos h0, h0]; rfl
        · rw [if_neg h0]
      rw [hz]
      simp only
      rw [hrow]
      simp only [p3]
      rw [Array.toArray_toList] at r8
      have hps : (ps.map fun (x : Nat × Operand) => (x.1, ev ρ x.2)).toList = ps.toList.map fun p => (p.1, ev ρ p.2) := by simp
      rw [hps, r8]
      rfl
    simp only [execOp, ho]
    refine does_value (run_buildSlice hbsl w) ?_
    have hlen : els.length = len := by rw [r6, List.length_replicate]
    have hxl : cs'.length = els.length * i.sz := by rw [r7.length, flat_len r5]
    have H := (r3.hp.new (.cells cs'.toArray i.e)).lit hxl
    obtain ⟨E2, t1, t2, t3⟩ := ownClose r3.nx r7 r5 H
    rw [hlen] at t3
    exact ⟨E2, _, _, r1.trans t1, t2, t3, h⟩
  case makeMap t r =>
    cases r with
    | some r => simp only [se, ho] at h
    | none =>
      simp only [se, ho] at h
      simp only [execOp, ho]
      refine does_value (v := .map (some w.heap.size)) (w' := w.alloc (.map #[] 0)) rfl ?_
      refine outc_new (hd := (.map (some w.heap.size), [])) R ?_ (fun hg => ?_) h
      · simp only [rowHP]; exact ⟨_, [], 0, rfl, by simp only [MR], rfl⟩
      · simp only [VR]; exact ⟨_, _, hg, rfl⟩
  case makeSlice t l c =>
    simp only [se, ho] at h
    split at h <;> first | exact h.elim | skip
    rename_i kl l' kc c' hl hc
    obtain ⟨i, hi, hbd, hk⟩ := optK_out h
    obtain ⟨z, q1, q2, q3, q4⟩ := slInfoD_some hi
    have el := he.ev l
    have ec := he.ev c
    rw [hl] at el
    rw [hc] at ec
    simp only [execOp, ho, el.intv, ec.intv]
    refine does_value (run_makeSl q1 hbd w) ?_
    have hrow : (madeCells z (c'.toNat * i.sz)).toList = (List.replicate c'.toNat z.toList).flatten := by
      have := rowOf_rep' (z := z.toList) c'.toNat
      rw [Array.toArray_toList, show z.toList.length = i.sz by simp [q2]] at this
      rw [← this, ← rowOf_eq]
      rfl
    have hsplit : List.replicate c'.toNat z.toList = List.replicate l'.toNat z.toList ++ List.replicate (c'.toNat - l'.toNat) z.toList := by
      rw [List.replicate_append_replicate]
      congr 1; omega
    have hx : DRL E.F (List.replicate l'.toNat i.z).flatten (List.replicate l'.toNat z.toList).flatten := drl_rep (q4 E.F) _
    have hzl : z.toList.length = i.sz := by simp [q2]
    have H := R.hp.new (.cells (madeCells z (c'.toNat * i.sz)) i.e)
    have harr : madeCells z (c'.toNat * i.sz) = ((List.replicate l'.toNat z.toList).flatten ++ (List.replicate (c'.toNat - l'.toNat) z.toList).flatten).toArray := by
      apply Array.ext'
      rw [hrow, hsplit, List.flatten_append]
    rw [harr] at H ⊢
    have H2 := H.slmk (n := l'.toNat) (c := c'.toNat) (sz := i.sz) (by rw [flat_len (uni_rep hzl), List.length_replicate]) (by
      rw [List.length_append, flat_len (uni_rep hzl), flat_len (uni_rep hzl), List.length_replicate, List.length_replicate, ← Nat.add_mul]
      congr 1; omega) (by omega)
    obtain ⟨E2, t1, t2, t3⟩ := ownClose (els := List.replicate l'.toNat i.z) R.nx hx (uni_rep q3) (by rw [List.length_replicate]; exact H2)
    rw [List.length_replicate] at t3
    exact ⟨E2, _, _, t1, t2, t3, hk⟩
  case store t x v =>
    simp only [se, ho] at h
    have hx := he.ev x
    split at h <;> first | exact h.elim | skip
    · rename_i n off hxs
      rw [hxs] at hx; simp only [VR] at hx
      obtain ⟨b, oo, sub, e1, e2⟩ := hx
      obtain ⟨hnt, h⟩ := bif_out h
      obtain ⟨lv, hlv, hvv⟩ := VR.cells hnt (he.ev v)
      obtain ⟨E1, us, s1, hle1, R1, hvv, h⟩ := nameK_ok h R hvv
      have e1 := hle1.get e1
      split at h <;> first | exact h.elim | skip
      rename_i vs T hg
      obtain ⟨m, hm, h⟩ := optK_out h
      obtain ⟨hb, hk⟩ := bif_out h
      simp only [Bool.and_eq_true] at hb
      obtain ⟨⟨hb1, hb2⟩, hb3⟩ := hb
      have hb1 := Nat.eq_of_beq_eq_true hb1
      have hb2 := Nat.le_of_ble_eq_true hb2
      obtain ⟨b', l, sub', q1, q2, q3⟩ := R1.cells hg
      rw [e1] at q1; cases q1
      have h1 := q2.length
      have h2 := hvv.length
      have hst := run_storeVar (P := P) (o := 0 + off) hm hlv (by rw [h2, hb1]) (by omega) (onesV_ok hb3 hvv) q3
      simp only [execOp, ho, e2]
      refine does_skip hst ⟨E1, _, _, hle1, R1.setCells hg e1 (vs' := vs.take off ++ (us ++ vs.drop (off + m))) ?_, ?_, hk⟩
      · unfold spl
        rw [List.append_assoc, Nat.zero_add, h2, hb1]
        exact (q2.take off).append (hvv.append (q2.drop _))
      · simp only [VR]; exact ⟨[], rfl, VRL.nil⟩
    · rename_i n sz i f hxs
      split at h <;> first | exact h.elim | skip
      rename_i ds s' hd
      split at h <;> first | exact h.elim | skip
      rename_i T sz' els hg
      obtain ⟨m, hm, h⟩ := optK_out h
      obtain ⟨hb, hi, hk⟩ := bif_out h
      simp only [Bool.and_eq_true] at hb
      obtain ⟨⟨hb1, hb2⟩, hb3⟩ := hb
      have e := Nat.eq_of_beq_eq_true hb1
      subst e
      have hb2 := Nat.eq_of_beq_eq_true hb2
      have hb3 := Nat.le_of_ble_eq_true hb3
      obtain ⟨E', ys, q1, q2, q3, q4, q5, q6⟩ := elD_ok R hd (he.ev v)
      rw [hxs] at hx; simp only [VR] at hx
      obtain ⟨b, oo, mm, c, sub, e1, e2⟩ := hx
      obtain ⟨l, r1, r2, r3⟩ := q3.setOwn (ds := ds) (f := f) hg hi (by omega) (q1.get e1) q6
      have hst := run_storeVar (P := P) (o := oo + i * sz + f) hm q5 (by rw [q6.length, hb2]) (by rw [q6.length, hb2] at r2; exact r2) q6.one r1
      simp only [execOp, ho, e2]
      exact does_skip hst ⟨E', _, _, q1, r3, by simp only [VR]; exact ⟨[], rfl, VRL.nil⟩, hk⟩
  case slice t x lo hi mx =>
    cases mx with
    | some m => simp only [se, ho] at h
    | none =>
      simp only [se, ho] at h
      split at h <;> first | exact h.elim | skip
      rename_i n hxs
      have hx := he.ev x
      rw [hxs] at hx
      have ro : ∀ {E' : Ev} {s' : St} {sz : Nat} {els : List (List D)} {l u : Option Int} {K' : V → Prop}, E.le E' → Rel k L E' s' w → DR E'.F (.ro sz els) (ev ρ x) → slElem P t = some sz → bndS ρS lo = some l → bndS ρS hi = some u → roSl sz els l u K' → (∀ v, K' v → K v s') →
          Does P (execOp (ev ρ) o) w (Outc k L E K) := by
        intro E' s' sz els l u K' hle R' hdr hs h1 h2 hsl hk
        obtain ⟨a, c, v, e1, hkv, hcut⟩ := hdr.ro_cut hsl
        have hp : pval P o ρ (fun y => VR E' v y) := by
          simp only [pval, ho, e1, hs, bndS_some he h1, bndS_some he h2, bndN]
          exact slN_mono (fun p n c hh => hh E' rfl) hcut
        obtain ⟨y, hy, hf⟩ := pval_sound hp
        exact does_of_value (hf w) ⟨E', v, s', hle, R', hy, hk v hkv⟩
      split at h <;> first | exact h.elim | skip
      · rename_i T sz els hg
        obtain ⟨sz', hs, h⟩ := optK_out h
        obtain ⟨hb, hh⟩ := bif_out h
        clear h
        have e := Nat.eq_of_beq_eq_true hb
        subst e
        obtain ⟨l, u, h1, h2, h⟩ := bndN_out hh
        clear hh
        cases l with
        | none =>
          obtain ⟨a, c, xs, sub, q1, q2, q3, H⟩ := R.ownOpen hg
          have hx0 := hx
          simp only [VR] at hx
          obtain ⟨sub', hx, _⟩ := hx
          rw [q1] at hx
          have hev : ev ρ x = .slice a els.length c := ((Prod.mk.inj (Option.some.inj hx)).1).symm
          have hnc : els.length ≤ c := H.len.2
          cases u with
          | none =>
            have hp : pval P o ρ (fun y => VR E (.own n) y) := by
              simp only [pval, ho, hev, hs, bndS_some he h1, bndS_some he h2, bndN, slN]
              exact ⟨hnc, by rw [hev] at hx0; exact hx0⟩
            obtain ⟨y, hy, hf⟩ := pval_sound hp
            exact does_of_value (hf w) ⟨E, _, s, Ev.le.refl _, R, hy, h⟩
          | some u =>
            obtain ⟨⟨h3, h4⟩, hk⟩ := h
            have hux : (els.take u.toNat).length = u.toNat := by rw [List.length_take]; omega
            have H2 : Hp k w (slO T sz a (els.take u.toNat).length c (xs.take (u.toNat * sz)) :: ((rdel n s.rows).map (rHP E) ++ fz E.F :: L)) := by
              refine H.imp fun z hz => ?_
              rw [hux]
              rcases hz with ⟨rfl, z1, rfl, rfl, rfl⟩ | ⟨b, r, rfl, rfl, z2, z3, z4⟩
              · left
                exact ⟨rfl, by omega, rfl, by simp, rfl⟩
              · right
                have hle : u.toNat * sz ≤ els.length * sz := Nat.mul_le_mul_right _ (by omega)
                refine ⟨b, xs.drop (u.toNat * sz) ++ r, rfl, ?_, ?_, ?_, by omega⟩
                · rw [← List.append_assoc, List.take_append_drop]
                · rw [List.length_take]; omega
                · rw [← List.append_assoc, List.take_append_drop]; exact z3
            obtain ⟨E', r1, r2, r3⟩ := ownClose (els := els.take u.toNat) R.nx (by rw [← flat_take _ q3]; exact q2.take _) (fun el hel => q3 el (List.mem_of_mem_take hel)) H2
            have hp : pval P o ρ (fun y => VR E' (.own s.nx) y) := by
              simp only [pval, ho, hev, hs, bndS_some he h1, bndS_some he h2, bndN, slN]
              rw [hux] at r3
              exact ⟨⟨h3, by omega⟩, r3⟩
            obtain ⟨y, hy, hf⟩ := pval_sound hp
            exact does_of_value (hf w) ⟨E', _, _, r1, r2, hy, hk⟩
        | some l =>
          have hfr := frzV_ok R (v := .own n) (d := .ro sz els) (s' := s.set n (.fro sz els)) (by simp only [frzV, hg]) hx
          obtain ⟨E', r1, r2, r3, r4, r5⟩ := hfr
          exact ro r1 r3 r5 hs h1 h2 h (fun v hv => hv)
      · rename_i sz els hg
        obtain ⟨sz', hs, h⟩ := optK_out h
        obtain ⟨hb, hh⟩ := bif_out h
        clear h
        have e := Nat.eq_of_beq_eq_true hb
        subst e
        obtain ⟨l, u, h1, h2, h⟩ := bndN_out hh
        clear hh
        have hfr := frzV_ok R (v := .own n) (d := .ro sz els) (s' := s) (by simp only [frzV, hg]) hx
        obtain ⟨E', r1, r2, r3, r4, r5⟩ := hfr
        exact ro r1 r3 r5 hs h1 h2 h (fun v hv => hv)
  case mapUpdate t x i v =>
    simp only [se, ho] at h
    split at h <;> first | exact h.elim | skip
    rename_i n hx
    obtain ⟨ke, hke, h⟩ := optK_out h
    obtain ⟨kv, hkv, h⟩ := optK_out h
    obtain ⟨hb, h⟩ := bif_out h
    simp only [Bool.and_eq_true] at hb
    split at h <;> first | exact h.elim | skip
    rename_i ds s1 hd
    split at h <;> first | exact h.elim | skip
    rename_i es hg
    obtain ⟨hal, hk⟩ := h
    obtain ⟨E1, ys, q1, q2, q3, q4, q5, q6⟩ := elD_ok R hd (he.ev v)
    have hxv := he.ev x
    rw [hx] at hxv
    simp only [VR] at hxv
    obtain ⟨bm, sub, e1, e2⟩ := hxv
    have e1 := q1.get e1
    rw [e2] at e1
    obtain ⟨ents, ck, r1, r2, r3⟩ := q3.setMap (es' := mput kv ds es) hg e1
    have hi : ev ρ i = kv := leaf_ok hkv (he.ev i)
    obtain ⟨kd, hu, hkt⟩ := keyS_some hb.1
    have hval := mapV_val hb.2 (he.ev v) q5
    have run : ∃ ents' ck', MR E1.F (mput kv ds es) ents' ∧ (Instr.mapUpdate t (.map (some bm)) kv (ev ρ v)).run P w = .ok () (World.setB w bm (.map ents'.toArray ck')) := by
      rcases find_ok hkt 0 r1 hal with ⟨t1, t2, t3, t4⟩ | ⟨q, m, ds', ys', t1, t2, t3, t4, t5, t6, t7, t8⟩
      · refine ⟨ents ++ [{ key := kv, val := ev ρ v, born := ck }], ck + 1, by rw [t3]; exact mr_push q6 (e := { key := kv, val := ev ρ v, born := ck }) rfl hval r1, ?_⟩
        simp only [Instr.mapUpdate, bind, run_bind, Cv.run_underlying (mapT_some hke), run_getObj r2 trivial, pure, Sem.run, checkKey_run hu hkt, findKey_run hu t1]
        rw [run_setObj r2 trivial]
        simp
      · refine ⟨ents.set q { m with key := kv, val := ev ρ v }, ck, t7 _ _ _ q6 rfl hval, ?_⟩
        have hq : (ents.toArray[0 + q]?).map (·.key) = some kv := by simp [t2, t3]
        simp only [Instr.mapUpdate, bind, run_bind, Cv.run_underlying (mapT_some hke), run_getObj r2 trivial, pure, Sem.run, checkKey_run hu hkt, findKey_run hu t1, hq, Option.getD_some, Instr.keyThatStays, sameBits_key hkt, if_true]
        rw [run_setObj r2 trivial]
        congr 4
        rw [List.modify_toArray]
        congr 1
        rw [Nat.zero_add, List.modify_eq_set, t2]; rfl
    obtain ⟨ents', ck', u1, u2⟩ := run
    simp only [execOp, ho, e2, hi]
    exact does_skip u2 ⟨E1, .tup [], _, q1, r3 ents' ck' u1, by simp only [VR]; exact ⟨[], rfl, VRL.nil⟩, hk⟩
  case range t x =>
    simp only [se, ho] at h
    split at h <;> first | exact h.elim | skip
    rename_i b hx
    obtain ⟨hs, hk⟩ := bif_out h
    have hv := he.ev x
    rw [hx] at hv
    simp only [VR, DR] at hv
    simp only [execOp, ho, hv.1]
    refine does_value (v := .pointer (some ⟨w.heap.size, 0, none⟩)) (w' := w.alloc (.stringIter b 0)) ?_ ?_
    · simp only [Instr.range, bind, pure, run_bind, Sem.bind, Cv.run_underlying (isStrT_some hs)]
      rfl
    · refine outc_new (hd := (.pointer (some ⟨w.heap.size, 0, none⟩), [])) R ?_ (fun hg => ?_) hk
      · simp only [rowHP]; exact ⟨_, rfl, rfl⟩
      · simp only [VR]; exact ⟨_, 0, _, hg, rfl⟩
  case next x isS =>
    cases isS with
    | false => simp only [se, ho] at h
    | true =>
      simp only [se, ho] at h
      split at h <;> first | exact h.elim | skip
      rename_i n hx
      split at h <;> first | exact h.elim | skip
      rename_i b pos hg
      have hv := he.ev x
      rw [hx] at hv
      simp only [VR] at hv
      obtain ⟨bb, oo, sub, e1, e2⟩ := hv
      obtain ⟨hd, hh, e3, e4, _⟩ := R.row hg (by simp)
      rw [e1] at e3; cases e3
      simp only [rowHP] at e4
      obtain ⟨b2, e4, _⟩ := e4
      cases e4
      have hS := fun pos' => R.setIter (pos' := pos') hg e1
      have hget := (hS 0).1
      simp only [execOp, ho, e2]
      rcases cnd_out h with ⟨hb, hk⟩ | ⟨hb, hk⟩
      · have hlt : pos < b.size := by simpa [Nat.blt_eq] using hb
        refine does_value (v := .tuple #[.bool true, .int .i64 (pos : Nat), .int .i32 (Utf8.decode b pos).1]) (w' := World.setB w bb (.stringIter b (pos + (Utf8.decode b pos).2))) ?_
          ⟨E, _, _, Ev.le.refl _, (hS _).2, ?_, hk⟩
        · simp only [Instr.next, bind, pure, run_bind, Sem.bind, Sem.run, run_getObj hget trivial, if_pos hlt, run_setObj hget trivial]
          rfl
        · simp only [VR, VRL, DR]
          exact ⟨_, rfl, _, _, rfl, ⟨rfl, rfl⟩, _, _, rfl, ⟨rfl, rfl⟩, _, _, rfl, ⟨rfl, rfl⟩, rfl⟩
      · have hlt : ¬ pos < b.size := by
          intro h'
          have : Nat.blt pos b.size = true := by rw [Nat.blt_eq]; exact h'
          rw [this] at hb; cases hb
        refine does_value (v := .tuple #[.bool false]) (w' := w) ?_ ⟨E, _, _, Ev.le.refl _, R, ?_, hk⟩
        · simp only [Instr.next, bind, pure, run_bind, Sem.bind, Sem.run, run_getObj hget trivial, if_neg hlt]
        · simp only [VR, VRL, DR]
          exact ⟨_, rfl, _, _, rfl, ⟨rfl, rfl⟩, rfl⟩
  case call c =>
    simp only [se, ho] at h
    split at h <;> first | exact h.elim | skip
    · rename_i x hc
      split at h <;> first | exact h.elim | skip
      rename_i f a b hx
      have hv := he.ev x
      rw [hx] at hv
      simp only [VR] at hv
      obtain ⟨as, bs, e1, e2, e3⟩ := hv
      obtain ⟨ys, e4, e5⟩ := evs_arr he c.args
      have hrun : (execOp (ev ρ) o) = callFunc f (as ++ (ys ++ bs)).toArray := by
        have hexec : execOp (ev ρ) o = (resolve (ev ρ) c o.type).bind fun d => invoke d.target d.args := by
          simp only [execOp, ho]; rfl
        rw [hexec]
        unfold resolve
        rw [hc]
        simp only [e1, Deferred.ofValue, pure, Sem.bind, invoke, e4]
        congr 1
        apply Array.ext'
        simp
      rw [hrun]
      exact hH f _ s K h k L E w _ R (e2.append (e5.append e3))
    · rename_i hc
      split at h <;> first | exact h.elim | skip
      rename_i t1 t2 hts
      split at h <;> first | exact h.elim | skip
      rename_i x y hargs
      obtain ⟨ys, e1, e2⟩ := evs_arr he c.args
      rw [hargs] at e2
      simp only [VRL] at e2
      obtain ⟨xr, _, rfl, hx, yr, _, rfl, hy, rfl⟩ := e2
      have ht : c.argTypes = #[t1, t2] := by apply Array.ext'; simpa using hts
      rw [exec_builtin ho hc, e1, ht]
      obtain ⟨v, w', hr, hout⟩ := sappend_sound (rt := o.type) R hx hy h
      exact does_value hr hout
    · rename_i hc
      split at h <;> first | exact h.elim | skip
      rename_i n y hargs
      obtain ⟨t, ht, h⟩ := optK_out h
      obtain ⟨ke, hke, h⟩ := optK_out h
      obtain ⟨kv, hkv, h⟩ := optK_out h
      obtain ⟨hks, h⟩ := bif_out h
      split at h <;> first | exact h.elim | skip
      rename_i es hg
      obtain ⟨hal, hk⟩ := h
      obtain ⟨ys, e1, e2⟩ := evs_arr he c.args
      rw [hargs] at e2
      simp only [VRL, VR] at e2
      obtain ⟨mv, _, rfl, ⟨bm, sub, e3, rfl⟩, yv, _, rfl, hy, rfl⟩ := e2
      obtain rfl := leaf_ok hkv hy
      obtain ⟨ents, ck, r1, r2, r3⟩ := R.setMap (es' := mdel yv es) hg e3
      obtain ⟨kd, hu, hkt⟩ := keyS_some hks
      have run : ∃ ents' ck', MR E.F (mdel yv es) ents' ∧ (Builtin.delete_ c.argTypes o.type #[.map (some bm), yv]).run P w = .ok (.tuple #[]) (World.setB w bm (.map ents'.toArray ck')) := by
        rcases find_ok hkt 0 r1 hal with ⟨t1, t2, t3, t4⟩ | ⟨q, m, ds', ys', t1, t2, t3, t4, t5, t6, t7, t8⟩
        · refine ⟨ents, ck, by rw [t4]; exact r1, ?_⟩
          simp only [Builtin.delete_, ht, List.getElem?_toArray, List.getElem?_cons_zero, List.getElem?_cons_succ, bind, run_bind, Cv.run_underlying (mapT_some hke), run_getObj r2 trivial, pure, Sem.run, checkKey_run hu hkt, findKey_run hu t1]
          rw [run_setObj r2 trivial]
        · refine ⟨ents.eraseIdx q, ck, t8, ?_⟩
          simp only [Builtin.delete_, ht, List.getElem?_toArray, List.getElem?_cons_zero, List.getElem?_cons_succ, bind, run_bind, Cv.run_underlying (mapT_some hke), run_getObj r2 trivial, pure, Sem.run, checkKey_run hu hkt, findKey_run hu t1]
          rw [run_setObj r2 trivial]
          simp
      obtain ⟨ents', ck', u1, u2⟩ := run
      rw [exec_builtin ho hc, e1]
      exact does_value u2 ⟨E, .tup [], _, Ev.le.refl _, r3 ents' ck' u1, by simp only [VR]; exact ⟨[], rfl, VRL.nil⟩, hk⟩
  all_goals (simp only [se, ho] at h)

end Sx
