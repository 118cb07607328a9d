/- The engine, part W: regions that draw their order. -/
import Derived.Test.YtklnffdjhoacoaaDoorEngN
import Derived.Still
set_option linter.unusedSimpArgs false
set_option linter.unusedVariables false
namespace Go.Eng
open Go Go.RowKit

section
variable {P : Program} {ops : Array Oper} {md : Region.Mode}

@[reducible] def noQ : Exit → Act → World → Prop := fun _ _ _ => False

/-- Operation number i comes up; nothing panics. -/
def wpO (P : Program) (ops : Array Oper) (i : Nat) (K : Act → World → Prop) (a : Act) (w : World) : Prop :=
  match ops[i]? with
  | none => K a w
  | some o => if Region.wanted o (yielded ops a.tmps) = true then o.wp P a w K noQ else K (a.put o.dst undef) w

theorem letsOut_no {Q : Exit → Act → World → Prop} (h : LetsOut noQ) : LetsOut Q := by
  unfold LetsOut at *
  obtain ⟨_, _, hh⟩ := h
  exact False.elim hh

theorem wp_noQ {o : Oper} {a : Act} {w : World} {K : Act → World → Prop} {Q : Exit → Act → World → Prop} (h : o.wp P a w K noQ) : o.wp P a w K Q := by
  unfold Oper.wp at *
  generalize (execOp a.eval o).run P w = r at *
  cases r with
  | ok n w' =>
    cases n <;> simp only [Oper.upon] at h ⊢
    case enter f args =>
      refine h.mono fun e w'' he => ?_
      cases e with
      | returned v => exact he
      | panicked c => exact False.elim he
      | outgrown => exact letsOut_no he
    all_goals first | exact h | exact h.elim
  | halt x w' => cases x <;> simp only [Oper.upon] at h ⊢ <;> exact False.elim h

theorem wpO_mono {i : Nat} {K K' : Act → World → Prop} {a : Act} {w : World} (h : ∀ a w, K a w → K' a w) (hh : wpO P ops i K a w) : wpO P ops i K' a w := by
  unfold wpO at *
  split
  · exact h _ _ (by simpa [*] using hh)
  · rename_i o ho
    simp only [ho] at hh
    split
    · rename_i hw; rw [if_pos hw] at hh; exact Oper.wp_mono h hh
    · rename_i hw; rw [if_neg hw] at hh; exact h _ _ hh

theorem wpO_op {i : Nat} {K : Act → World → Prop} {Q : Exit → Act → World → Prop} {a : Act} {w : World} (h : wpO P ops i K a w) : wpOp P ops Q i K a w := by
  unfold wpO at h
  unfold wpOp
  split
  · rename_i ho; simpa [ho] using h
  · rename_i o ho
    simp only [ho] at h
    split
    · rename_i hw; rw [if_pos hw] at h; exact .inl (wp_noQ h)
    · rename_i hw; rw [if_neg hw] at h; exact h

@[reducible] def sfe (ops : Array Oper) (i : Nat) : Bool := match ops[i]? with
  | some o => quietly o.op
  | none => true

/-- Whatever order is picked from here on; quiet operations only make the world grow. -/
def anyI (P : Program) (md : Region.Mode) (ops : Array Oper) (R : Act → World → Prop) : Nat → Array Bool → Act → World → Prop
  | 0, listed, a, w => Region.ready md ops listed = [] ∧ R a w
  | fuel + 1, listed, a, w => (Region.ready md ops listed = [] → R a w) ∧
    ∀ i ∈ Region.ready md ops listed, wpO P ops i (fun a' w' => (sfe ops i = true → Gro w w') ∧ anyI P md ops R fuel (listed.setIfInBounds i true) a' w') a w

theorem anyI_any {R : Act → World → Prop} {Q : Exit → Act → World → Prop} (hR : ∀ a w, R a w → Q .normal a w) : ∀ (fuel : Nat) (listed : Array Bool) (a : Act) (w : World),
    anyI P md ops R fuel listed a w → wpAny P md ops Q fuel listed a w
  | 0, _, _, _, h => ⟨h.1, hR _ _ h.2⟩
  | fuel + 1, _, _, _, h => ⟨fun e => hR _ _ (h.1 e), fun i hi => wpO_op (wpO_mono (fun a w hh => anyI_any hR fuel _ a w hh.2) (h.2 i hi))⟩

/-- The operation yields v here and in every world that grows from w0. -/
def YI (P : Program) (ops : Array Oper) (ld : Bool) (w0 : World) (o : Oper) (v : Value) (a : Act) : Prop :=
  (Region.wanted o (yielded ops a.tmps) = true ∧ ∀ w, (ld = true → Gro w0 w) → (execOp a.eval o).run P w = .ok (.value v) w) ∨
  (Region.wanted o (yielded ops a.tmps) = false ∧ v = undef)

theorem YI.of_same {ld : Bool} {w0 : World} {o : Oper} {v : Value} {a a' : Act} (hy : YI P ops ld w0 o v a) (he : execOp a'.eval o = execOp a.eval o)
    (hw : Region.wanted o (yielded ops a'.tmps) = Region.wanted o (yielded ops a.tmps)) : YI P ops ld w0 o v a' := by
  unfold YI at *
  rw [he, hw]
  exact hy

theorem YI.wpO {ld : Bool} {w0 : World} {i : Nat} {o : Oper} {v : Value} {a : Act} (hi : ops[i]? = some o) (hy : YI P ops ld w0 o v a) {K : Act → World → Prop} {w : World} (hg : ld = true → Gro w0 w)
    (h : K (a.put o.dst v) w) : wpO P ops i K a w := by
  unfold Go.Eng.wpO
  simp only [hi]
  rcases hy with ⟨hw, hv⟩ | ⟨hw, rfl⟩
  · rw [if_pos hw]; unfold Oper.wp; rw [hv w hg]; exact h
  · rw [if_neg (by rw [hw]; simp)]; exact h

theorem wpO_put {ld : Bool} {w0 : World} {j : Nat} {oi oj : Oper} {v : Value} (hj : ops[j]? = some oj) (hap : oi.apart ops oj = true)
    (hsi : ∀ cs b, oi.op ≠ .select cs b) (hsj : ∀ cs b, oj.op ≠ .select cs b) {K : Act → World → Prop} {a : Act} {w : World}
    (hy : YI P ops ld w0 oi v a) (h : wpO P ops j K (a.put oi.dst v) w) :
    wpO P ops j (fun a' w' => YI P ops ld w0 oi v a' ∧ K (a'.put oi.dst v) w') a w := by
  obtain ⟨h1, h2, h3⟩ := Oper.apart_spec hap
  have keep : ∀ (a : Act), YI P ops ld w0 oi v a → ∀ u, YI P ops ld w0 oi v (a.put oj.dst u) := fun a hy u =>
    hy.of_same (execOp_put oi hsi a oj.dst u h3) (wanted_put oi a oj.dst u h3)
  have keepD : ∀ d, YI P ops ld w0 oi v { a with defers := d :: a.defers } := fun d => hy.of_same rfl rfl
  unfold wpO at *
  simp only [hj] at *
  rw [wanted_put oj a oi.dst v h1] at h
  split
  · rename_i hw
    rw [if_pos hw] at h
    unfold Oper.wp at *
    rw [execOp_put oj hsj a oi.dst v h1] at h
    generalize (execOp a.eval oj).run P w = r at *
    cases r with
    | ok n w' =>
      cases n <;> simp only [Oper.upon] at h ⊢
      case value u => exact ⟨keep a hy u, by rw [← Act.put_comm a v u h2]; exact h⟩
      case skip => exact ⟨keep a hy _, by rw [← Act.put_comm a v undef h2]; exact h⟩
      case defer d =>
        refine ⟨(keep _ (keepD d) _), ?_⟩
        rw [← Act.put_comm _ v undef h2, ← Act.put_defers]
        exact h
      case enter f args =>
        refine h.mono fun e w'' he => ?_
        cases e with
        | returned u => exact ⟨keep a hy u, by rw [← Act.put_comm a v u h2]; exact he⟩
        | panicked c => exact he
        | outgrown => exact he
      case row r args =>
        refine Rows.mono h fun u w'' he => ?_
        exact ⟨keep a hy u, by rw [← Act.put_comm a v u h2]; exact he⟩
      all_goals exact h
    | halt x w' => cases x <;> simp only [Oper.upon] at h ⊢ <;> exact h
  · rename_i hw
    rw [if_neg hw] at h
    exact ⟨keep a hy _, by rw [← Act.put_comm a v undef h2]; exact h⟩

/-- What waits for i, through others too. -/
def Waits (md : Region.Mode) (ops : Array Oper) (listed : Array Bool) (i : Nat) (bl : List Nat) : Prop :=
  ∀ j ∈ bl, listed.getD j true = false ∧ ∃ o, ops[j]? = some o ∧ ∃ e ∈ o.after, Region.binds md e = true ∧ (e.on = i ∨ e.on ∈ bl)

theorem getD_dflt {listed : Array Bool} {i : Nat} (h : listed.getD i true = false) : listed.getD i false = false := by
  rcases Nat.lt_or_ge i listed.size with h' | h'
  · simp [h'] at h ⊢; exact h
  · simp [Array.getElem?_eq_none h'] at h

theorem not_ready {listed : Array Bool} {i j : Nat} {bl : List Nat} (hi : listed.getD i true = false) (hw : Waits md ops listed i bl) (hj : j ∈ bl) : j ∉ Region.ready md ops listed := by
  intro hr
  obtain ⟨_, oj, hoj, hall⟩ := mem_ready.1 hr
  obtain ⟨_, o, ho, e, he, hb, hh⟩ := hw j hj
  rw [hoj] at ho; cases ho
  have h1 := hall e he hb
  rcases hh with hh | hh
  · rw [hh, getD_dflt hi] at h1; cases h1
  · rw [getD_dflt (hw _ hh).1] at h1; cases h1

theorem anyI_first {R : Act → World → Prop} {ld : Bool} {w0 : World} {i : Nat} {oi : Oper} {v : Value} {bl : List Nat} (hi : ops[i]? = some oi) (hsel : ∀ (j : Nat) (o : Oper) cs b, ops[j]? = some o → o.op ≠ .select cs b)
    (hq : sfe ops i = true) :
    ∀ (fuel : Nat) (listed : Array Bool) (a : Act) (w : World),
      (∀ j oj, ops[j]? = some oj → j ≠ i → listed.getD j true = false → (∀ e ∈ oj.after, Region.binds md e = true → e.on ≠ i) → oi.apart ops oj = true) →
      (ld = true → Waits md ops listed i bl ∧ ∀ j, j ≠ i → listed.getD j true = false → sfe ops j = false → j ∈ bl) →
      i ∈ Region.ready md ops listed → YI P ops ld w0 oi v a → (ld = true → Gro w0 w) →
      anyI P md ops R fuel (listed.setIfInBounds i true) (a.put oi.dst v) w → anyI P md ops R (fuel + 1) listed a w := by
  intro fuel
  induction fuel with
  | zero =>
    intro listed a w _ _ hr hy hg H
    refine ⟨fun h => (by rw [h] at hr; cases hr), fun j hj => ?_⟩
    by_cases hji : j = i
    · subst hji; exact hy.wpO hi hg ⟨fun _ => Gro.refl w, H⟩
    · have := ready_mono hj hji
      rw [H.1] at this
      cases this
  | succ fuel ih =>
    intro listed a w hfree hbl hr hy hg H
    refine ⟨fun h => (by rw [h] at hr; cases hr), fun j hj => ?_⟩
    by_cases hji : j = i
    · subst hji; exact hy.wpO hi hg ⟨fun _ => Gro.refl w, H⟩
    · have h1 := H.2 j (ready_mono hj hji)
      obtain ⟨hjun, oj, hoj, hall⟩ := mem_ready.1 hj
      have hiun := (mem_ready.1 hr).1
      have hnot : ∀ e ∈ oj.after, Region.binds md e = true → e.on ≠ i := fun e he hb heq => by
        have h1 := hall e he hb
        rw [heq, getD_dflt hiun] at h1; cases h1
      have h2 := wpO_put hoj (hfree j oj hoj hji hjun hnot) (fun cs b => hsel i oi cs b hi) (fun cs b => hsel j oj cs b hoj) hy h1
      have hfree' : ∀ k ok, ops[k]? = some ok → k ≠ i → (listed.setIfInBounds j true).getD k true = false →
          (∀ e ∈ ok.after, Region.binds md e = true → e.on ≠ i) → oi.apart ops ok = true := fun k ok hk hki hun hno => by
        refine hfree k ok hk hki ?_ hno
        by_cases hjk : j = k
        · subst hjk; exact hjun
        · rw [getD_set_ne true hjk] at hun; exact hun
      have hjbl : ld = true → j ∉ bl := fun e hm => not_ready hiun (hbl e).1 hm hj
      have hsj : ld = true → sfe ops j = true := fun e => by
        cases hs : sfe ops j with
        | true => rfl
        | false => exact absurd ((hbl e).2 j hji hjun hs) (hjbl e)
      have hbl' : ld = true → Waits md ops (listed.setIfInBounds j true) i bl ∧ ∀ k, k ≠ i → (listed.setIfInBounds j true).getD k true = false → sfe ops k = false → k ∈ bl := fun e => by
        refine ⟨fun k hk => ?_, fun k hki hun hs => ?_⟩
        · obtain ⟨g1, g2⟩ := (hbl e).1 k hk
          refine ⟨?_, g2⟩
          rw [getD_set_ne true (fun hh => hjbl e (by rw [hh]; exact hk))]; exact g1
        · refine (hbl e).2 k hki ?_ hs
          by_cases hjk : j = k
          · subst hjk; exact hjun
          · rw [getD_set_ne true hjk] at hun; exact hun
      refine wpO_mono (fun a' w' h3 => ⟨h3.2.1, ih (listed.setIfInBounds j true) a' w' hfree' hbl' (ready_mono hr (Ne.symm hji)) h3.1 (fun e => (hg e).trans (h3.2.1 (hsj e))) ?_⟩) h2
      rw [Array.setIfInBounds_comm _ _ hji]
      exact h3.2.2
end
end Go.Eng
