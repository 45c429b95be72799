/- The calculus, fourth part: the walk of a region that draws its order; code; calls. No condition. -/
import Derived.Test.YtlgpgmafmgmfdaaCvC
set_option linter.unusedSimpArgs false
set_option linter.unusedVariables false
namespace Cv
open Go

/-- That an operation says the same again. -/
def still (P : Program) (o : Oper) (ρ : Env) (v : Value) (w : World) : Prop :=
  match o.op with
  | .load t x =>
    match ev ρ x with
    | .pointer p => nilN p fun a => Holds P t a w v
    | _ => False
  | .lookup t m k ok => RunsTo P (Instr.lookup t (ev ρ m) (ev ρ k) ok) w v
  | .convert s d x => RunsTo P (convert s d (ev ρ x)) w v
  | .binOp op t x y _ => RunsTo P (do eqGuard op t x y (ev ρ x) (ev ρ y); binOp op t (ev ρ x) (ev ρ y)) w v
  | .call { callee := .builtin .len, args, argTypes } => RunsTo P (Builtin.len_ argTypes o.type (args.map (ev ρ))) w v
  | _ => False

theorem still_run {P : Program} {o : Oper} {ρ : Env} {v : Value} {w : World} (h : still P o ρ v w) : (execOp (ev ρ) o).run P w = .ok (.value v) w := by
  unfold still at h
  split at h
  · rename_i t x ho
    split at h
    · rename_i p hx
      obtain ⟨a, rfl, h⟩ := nilN_out h
      simp only [execOp, ho, hx]
      exact run_value1 h
    · exact h.elim
  · rename_i t m k ok ho; simp only [execOp, ho]; exact run_value1 h
  · rename_i s d x ho; simp only [execOp, ho]; exact run_value1 h
  · rename_i op t x y u ho; simp only [execOp, ho]; exact run_value1 h
  · rename_i args argTypes ho; simp only [execOp, ho]; exact run_value1 h
  · exact h.elim

theorem rval_still {P : Program} {ρ : Env} {o : Oper} {w : World} {K : Value → Prop} (h : rval P o ρ w K) : ∃ v, K v ∧ still P o ρ v w := by
  cases ho : o.op
  case load t x =>
    simp only [rval, ho] at h
    split at h
    · rename_i p hx
      obtain ⟨a, rfl, h⟩ := nilN_out h
      obtain ⟨v, hv, h⟩ := exV_out h
      refine ⟨v, h, ?_⟩
      simp only [still, ho, hx]
      exact hv
    · exact h.elim
  case lookup t m k ok =>
    simp only [rval, ho] at h
    split at h
    · rename_i e he
      obtain ⟨v, h⟩ := exV_out h
      obtain ⟨b, hb, h⟩ := exC_out h
      refine ⟨_, h, ?_⟩
      simp only [still, ho]
      cases ok
      · exact lookup_noOk hb
      · exact hb
    · exact h.elim
  case convert s d x =>
    simp only [rval, ho] at h
    obtain ⟨v, hv, h⟩ := exV_out h
    refine ⟨v, h, ?_⟩
    simp only [still, ho]
    exact hv
  case binOp op t x y u =>
    simp only [rval, ho] at h
    split at h
    · obtain ⟨v, h1, h2, h⟩ := exC_out h
      refine ⟨v, h, ?_⟩
      simp only [still, ho, RunsTo, bind, run_bind, h2]
      exact h1
    · obtain ⟨v, h1, h2, h⟩ := exC_out h
      refine ⟨v, h, ?_⟩
      simp only [still, ho, RunsTo, bind, run_bind, h2]
      exact h1
    · exact h.elim
  case call c =>
    simp only [rval, ho] at h
    split at h <;> first | exact h.elim | skip
    all_goals first | (exfalso; rename_i hh; cases hh; done) | skip
    rename_i args argTypes hh
    cases hh
    obtain ⟨v, hv, h⟩ := exC_out h
    refine ⟨v, h, ?_⟩
    simp only [still, ho]
    exact hv
  all_goals (simp only [rval, ho] at h)

def monAll : List Mon → World → Prop → Prop
  | [], _, X => X
  | m :: ms, w, X => m.2 w ∧ monAll ms w X

theorem monAll_out : ∀ {M : List Mon} {w : World} {X : Prop}, monAll M w X → AllM M w ∧ X
  | [], _, _, h => ⟨fun m hm => (by cases hm), h⟩
  | m :: ms, w, X, h => by
    obtain ⟨h1, h2⟩ := h
    obtain ⟨h3, h4⟩ := monAll_out h2
    refine ⟨fun m' hm => ?_, h4⟩
    rcases List.mem_cons.1 hm with rfl | hm
    · exact h1
    · exact h3 _ hm

def allV : List Nat → (Nat → Prop) → Prop
  | [], _ => True
  | [e], f => f e
  | e :: es, f => f e ∧ allV es f

theorem allV_out : ∀ {l : List Nat} {f : Nat → Prop}, allV l f → ∀ i ∈ l, f i
  | [], _, _, i, hi => by cases hi
  | [e], f, h, i, hi => by rcases List.mem_singleton.1 hi with rfl; exact h
  | e :: e' :: es, f, h, i, hi => by
    rcases List.mem_cons.1 hi with rfl | hi
    · exact h.1
    · exact allV_out h.2 i hi

def isQuiet (P : Program) (ops : List Oper) (i : Nat) : Bool :=
  match ops[i]? with
  | some o => match kindOf P o.op with
    | 2 => false
    | _ => true
  | none => true

def drawV (P : Program) (ops : List Oper) (bf : List Nat) : Nat → Array Bool → List Mon → Env → World → (Env → World → Prop) → Prop
  | 0, listed, _, ρ, w, K =>
    match Region.ready .any ops.toArray listed with
    | [] => K ρ w
    | _ => False
  | fuel + 1, listed, M, ρ, w, K =>
    match Region.ready .any ops.toArray listed with
    | [] => K ρ w
    | r :: rs =>
      match (r :: rs).find? (isQuiet P ops) with
      | some i =>
        match ops[i]? with
        | none => False
        | some o => guardV ops o.guard ρ
            (fun ρ' => match kindOf P o.op with
              | 0 => pval P o ρ' fun v => drawV P ops bf fuel (listed.setIfInBounds i true) M (put ρ' o.dst v) w K
              | _ => rval P o ρ' w fun v => drawV P ops bf fuel (listed.setIfInBounds i true) ((i, still P o ρ' v) :: M) (put ρ' o.dst v) w K)
            (fun ρ' => drawV P ops bf fuel (listed.setIfInBounds i true) M (put ρ' o.dst undef) w K)
      | none => allV (r :: rs) fun i =>
        match ops[i]? with
        | none => False
        | some o => guardV ops o.guard ρ
            (fun ρ' => evalE P o ρ' w fun v w' => monAll (keepM bf i M) w' (drawV P ops bf fuel (listed.setIfInBounds i true) (keepM bf i M) (put ρ' o.dst v) w' K))
            (fun ρ' => drawV P ops bf fuel (listed.setIfInBounds i true) (keepM bf i M) (put ρ' o.dst undef) w K)

theorem dst_at {n : Nat} {A : Nat → Bool} {l : List Oper} (h : DstOk n A l) {i : Nat} {o : Oper} (ho : l[i]? = some o) : ∀ d, o.dst = some d → d < n ∧ A d = true :=
  h o (List.mem_of_getElem? ho)

theorem anyM_watch {P : Program} {ops : Array Oper} {bf : List Nat} {Q : Act → World → Prop} {i : Nat} {f : World → Prop} (hf : ∀ w, f w) :
    ∀ (fuel : Nat) {M : List Mon} (listed : Array Bool) (a : Act) (w : World), anyM P ops bf Q fuel M listed a w → anyM P ops bf Q fuel ((i, f) :: M) listed a w
  | 0, _, _, _, _, h => h
  | fuel + 1, M, listed, a, w, h => ⟨h.1, fun j hj => upOp_mono (h.2 j hj) fun a' w' hh => by
      have hk : keepM bf j ((i, f) :: M) = if Bef bf j i then keepM bf j M else (i, f) :: keepM bf j M := by
        simp only [keepM, List.filter_cons]
        cases Bef bf j i <;> simp
      rw [hk]
      cases Bef bf j i
      · refine ⟨fun m hm => ?_, anyM_watch hf fuel _ _ _ hh.2⟩
        simp only [Bool.false_eq_true, if_false, List.mem_cons] at hm
        rcases hm with rfl | hm
        · exact hf w'
        · exact hh.1 m hm
      · exact hh⟩

/-- A watch may be weakened to what it is for. -/
theorem anyM_imp {P : Program} {ops : Array Oper} {bf : List Nat} {Q : Act → World → Prop} {i : Nat} {f g : World → Prop} (hfg : ∀ w, f w → g w) :
    ∀ (fuel : Nat) {M : List Mon} (listed : Array Bool) (a : Act) (w : World), anyM P ops bf Q fuel ((i, f) :: M) listed a w → anyM P ops bf Q fuel ((i, g) :: M) listed a w
  | 0, _, _, _, _, h => h
  | fuel + 1, M, listed, a, w, h => ⟨h.1, fun j hj => upOp_mono (h.2 j hj) fun a' w' hh => by
      have hk : ∀ f : World → Prop, keepM bf j ((i, f) :: M) = if Bef bf j i then keepM bf j M else (i, f) :: keepM bf j M := by
        intro f
        simp only [keepM, List.filter_cons]
        cases Bef bf j i <;> simp
      rw [hk] at hh ⊢
      cases hb : Bef bf j i
      · rw [hb] at hh
        simp only [Bool.false_eq_true, if_false] at hh ⊢
        refine ⟨fun m hm => ?_, anyM_imp hfg fuel _ _ _ hh.2⟩
        rcases List.mem_cons.1 hm with rfl | hm
        · exact hfg w' (hh.1 _ List.mem_cons_self)
        · exact hh.1 m (List.mem_cons_of_mem _ hm)
      · rw [hb] at hh; exact hh⟩

theorem draw_sound {P : Program} {ops : List Oper} {n : Nat} {A : Nat → Bool} {e0 : Env} {K : Env → World → Prop} {Q : Act → World → Prop} (hok : drawOk ops (befL ops []) = true) (hf : DstOk n A ops)
    (hQ : ∀ a w, Good n A e0 a → K (envOf a) w → Q a w) :
    ∀ (fuel : Nat) (listed : Array Bool) (M : List Mon) (a : Act) (w : World), Closed ops (IsListed listed) → AllM M w → Good n A e0 a →
      drawV P ops (befL ops []) fuel listed M (envOf a) w K → anyM P ops.toArray (befL ops []) Q fuel M listed a w := by
  intro fuel
  induction fuel with
  | zero =>
    intro listed M a w hc hM hgd h
    unfold drawV at h
    split at h
    · rename_i hr; exact ⟨hr, hQ a w hgd h⟩
    · exact h.elim
  | succ fuel ih =>
    intro listed M a w hc hM hgd h
    unfold drawV at h
    split at h
    · rename_i hr
      exact ⟨fun _ => hQ a w hgd h, fun i hi => by rw [hr] at hi; cases hi⟩
    · rename_i r rs hr
      have hne : Region.ready .any ops.toArray listed ≠ [] := by rw [hr]; simp
      split at h
      · rename_i i hfind
        have hi : i ∈ Region.ready .any ops.toArray listed := by rw [hr]; exact List.mem_of_find?_eq_some hfind
        split at h <;> first | exact h.elim | skip
        rename_i o ho
        have hput : ∀ v, envOf (a.put o.dst v) = put (envOf a) o.dst v := fun v => hgd.envOf_put (dst_at hf ho) v
        have hg := guardV_sound h
        have nx : ∀ {M : List Mon} {v : Value}, AllM M w → drawV P ops (befL ops []) fuel (listed.setIfInBounds i true) M (put (envOf a) o.dst v) w K →
            anyM P ops.toArray (befL ops []) Q fuel M (listed.setIfInBounds i true) (a.put o.dst v) w := fun {M v} hM hh =>
          ih _ _ _ _ (closed_set hc hi) hM (hgd.put (dst_at hf ho) _) (by rw [hput]; exact hh)
        by_cases hw : Region.wanted o (yielded ops.toArray a.tmps) = true
        · rw [if_pos hw] at hg
          split at hg
          · obtain ⟨v, hk, hfree⟩ := pval_sound hg
            rw [ev_envOf] at hfree
            have hs : ∀ w, Says P ops.toArray o v a w := fun w => .inl ⟨hw, hfree w⟩
            exact anyM_first hok ho fuel M listed a w hc hi (hs w) hM (anyM_watch hs fuel _ _ _ (nx hM hk))
          · obtain ⟨v, hk, hst⟩ := rval_still hg
            have hw' : ∀ w, still P o (envOf a) v w → Says P ops.toArray o v a w := fun w hst => .inl ⟨hw, by rw [← ev_envOf]; exact still_run hst⟩
            refine anyM_first hok ho fuel M listed a w hc hi (hw' w hst) hM (anyM_imp hw' fuel _ _ _ (nx ?_ hk))
            intro m hm
            rcases List.mem_cons.1 hm with rfl | hm
            · exact hst
            · exact hM m hm
        · rw [if_neg hw] at hg
          have hs : ∀ w, Says P ops.toArray o undef a w := fun w => .inr ⟨by simpa using hw, rfl⟩
          exact anyM_first hok ho fuel M listed a w hc hi (hs w) hM (anyM_watch hs fuel _ _ _ (nx hM hg))
      · refine ⟨fun h0 => absurd h0 hne, fun i hi => ?_⟩
        have h1 := allV_out h i (by rw [← hr]; exact hi)
        split at h1 <;> first | exact h1.elim | skip
        rename_i o ho
        have hput : ∀ v, envOf (a.put o.dst v) = put (envOf a) o.dst v := fun v => hgd.envOf_put (dst_at hf ho) v
        have hg := guardV_sound h1
        unfold upOp
        simp only [List.getElem?_toArray, ho]
        by_cases hw : Region.wanted o (yielded ops.toArray a.tmps) = true
        · rw [if_pos hw] at hg ⊢
          have hdoes := eff_sound hg
          rw [ev_envOf] at hdoes
          refine hdoes.mono fun v w' hh => ?_
          obtain ⟨hM', hh⟩ := monAll_out hh
          exact ⟨hM', ih _ _ _ _ (closed_set hc hi) hM' (hgd.put (dst_at hf ho) _) (by rw [hput]; exact hh)⟩
        · rw [if_neg hw] at hg ⊢
          have hM' : AllM (keepM (befL ops []) i M) w := fun m hm => hM m (by simp only [keepM, List.mem_filter] at hm; exact hm.1)
          exact ⟨hM', ih _ _ _ _ (closed_set hc hi) hM' (hgd.put (dst_at hf ho) _) (by rw [hput]; exact hg)⟩

end Cv
