/- The Program chapter: plain laws of the functions that threads can reach. Conditions: none. -/
import Derived.Test.YtiikkjlghfhgcaaDoorPV11
set_option linter.unusedSimpArgs false
set_option linter.unusedVariables false
namespace Go.Proofs.YtiikkjlghfhgcaaDoor
open Go Go.Eng

theorem stepG_mem (l : List Int) : ∀ (ds : List (dens [shS, shI])) (o : List Int) (y : Int),
    y ∈ ds.foldl (fun nx d => if d.2.1.1 = 21 ∧ hasI l d.1.1 = true then makeI (nx ++ [d.2.1.2.2.2.2.1]) else nx) o ↔ y ∈ o ∨ ∃ d ∈ ds, d.2.1.1 = 21 ∧ d.1.1 ∈ l ∧ d.2.1.2.2.2.2.1 = y
  | [], o, y => by simp
  | d :: ds, o, y => by
    rw [List.foldl_cons, stepG_mem l ds]
    by_cases hc : d.2.1.1 = 21 ∧ hasI l d.1.1 = true
    · rw [if_pos hc, make_mem, List.mem_append, List.mem_singleton]
      have h2 := hasI_iff.1 hc.2
      constructor
      · rintro ((q | q) | ⟨e, q1, q2⟩)
        · exact .inl q
        · exact .inr ⟨d, by simp, hc.1, h2, q.symm⟩
        · exact .inr ⟨e, by simp [q1], q2⟩
      · rintro (q | ⟨e, q1, q2, q3, q4⟩)
        · exact .inl (.inl q)
        · rcases List.mem_cons.1 q1 with rfl | q1
          · exact .inl (.inr q4.symm)
          · exact .inr ⟨e, q1, q2, q3, q4⟩
    · rw [if_neg hc]
      constructor
      · rintro (q | ⟨e, q1, q2⟩)
        · exact .inl q
        · exact .inr ⟨e, by simp [q1], q2⟩
      · rintro (q | ⟨e, q1, q2, q3, q4⟩)
        · exact .inl q
        · rcases List.mem_cons.1 q1 with rfl | q1
          · exact absurd ⟨q2, hasI_iff.2 q3⟩ hc
          · exact .inr ⟨e, q1, q2, q3, q4⟩
theorem init_mem : ∀ (ts : List SD) (o : List Int) (y : Int), y ∈ ts.foldl (fun o t => makeI (o ++ [t.1])) o ↔ y ∈ o ∨ ∃ t ∈ ts, t.1 = y
  | [], o, y => by simp
  | t :: ts, o, y => by
    rw [List.foldl_cons, init_mem ts, make_mem, List.mem_append, List.mem_singleton]
    constructor
    · rintro ((q | q) | ⟨e, q1, q2⟩)
      · exact .inl q
      · exact .inr ⟨t, by simp, q.symm⟩
      · exact .inr ⟨e, by simp [q1], q2⟩
    · rintro (q | ⟨e, q1, q2⟩)
      · exact .inl (.inl q)
      · rcases List.mem_cons.1 q1 with rfl | q1
        · exact .inl (.inr q2.symm)
        · exact .inr ⟨e, q1, q2⟩
theorem initR_mem {ts : List SD} {y : Int} : y ∈ initR ts ↔ ∃ t ∈ ts, t.1 = y := by
  unfold initR
  rw [init_mem]; simp
/-- Closed under spawning. -/
def clo (fs : List FD) (M : Int → Prop) : Prop := ∀ d ∈ instL fs, d.2.1.1 = 21 → M d.1.1 → M d.2.1.2.2.2.2.1
theorem reach_all {fs : List FD} (hd : ∀ d ∈ instL fs, d.2.1.1 = 21 → 0 ≤ d.2.1.2.2.2.2.1 ∧ d.2.1.2.2.2.2.1 < (fs.length : Int)) :
    ∀ (n : Nat) (l : List Int), SS l → (∀ y ∈ l, 0 ≤ y ∧ y < (fs.length : Int)) → fs.length < n + l.length →
      SS (reachF n fs l) ∧ (∀ y ∈ reachF n fs l, 0 ≤ y ∧ y < (fs.length : Int)) ∧ (∀ y ∈ l, y ∈ reachF n fs l) ∧ clo fs (fun y => y ∈ reachF n fs l) ∧ ∀ M : Int → Prop, (∀ y ∈ l, M y) → clo fs M → ∀ y ∈ reachF n fs l, M y
  | 0, l, hs, hb, hf => absurd (ss_short hs hb) (by omega)
  | n + 1, l, hs, hb, hf => by
    obtain ⟨s1, s2, s3⟩ : SS (stepR l (instL fs)) ∧ (∀ y ∈ stepR l (instL fs), 0 ≤ y ∧ y < (fs.length : Int)) ∧ l.length ≤ (stepR l (instL fs)).length := step_inv (l := l) (n := fs.length) (instL fs) l hs hb hd
    have hm : ∀ y, y ∈ stepR l (instL fs) ↔ y ∈ l ∨ ∃ d ∈ instL fs, d.2.1.1 = 21 ∧ d.1.1 ∈ l ∧ d.2.1.2.2.2.2.1 = y := fun y => stepG_mem l (instL fs) l y
    unfold reachF
    split
    · rename_i he
      have e : l = stepR l (instL fs) := (ss_sub s1 hs fun y hy => (hm y).2 (.inl hy)).eq_of_length he.symm
      refine ⟨hs, hb, fun y hy => hy, fun d hd1 h21 hdl => ?_, fun M h1 _ => h1⟩
      have := (hm _).2 (.inr ⟨d, hd1, h21, hdl, rfl⟩)
      rw [← e] at this
      exact this
    · rename_i he
      obtain ⟨a1, a2, a3, a4, a5⟩ := reach_all hd n _ s1 s2 (by omega)
      refine ⟨a1, a2, fun y hy => a3 y ((hm y).2 (.inl hy)), a4, fun M h1 h2 => a5 M (fun y hy => ?_) h2⟩
      rcases (hm y).1 hy with q | ⟨d, q1, q2, q3, rfl⟩
      · exact h1 y q
      · exact h2 d q1 q2 (h1 _ q3)
theorem spw_iff {l : List ID} {g : Int} : spwS l g = true ↔ ∃ i ∈ l, i.1 = 21 ∧ i.2.2.2.2.1 = g := by
  unfold spwS
  rw [List.any_eq_true]
  simp
theorem clo_iff {fs : List FD} {M : Int → Prop} : clo fs M ↔ ∀ (k : Nat) (x : FD) (g : Int), fs[k]? = some x → spwS x.2.1 g = true → M k → M g := by
  constructor
  · intro h k x g hx hs hM
    obtain ⟨i, hi, h1, h2⟩ := spw_iff.1 hs
    obtain ⟨j, hj⟩ := List.getElem?_of_mem hi
    have := h _ (List.mem_of_getElem? (instL_get hx hj)) h1 hM
    rw [← h2]; exact this
  · intro h d hd h1 h2
    obtain ⟨k, x, j, e, q1, q2, rfl⟩ := instG_mem _ _ hd
    rw [show (0 + k : Nat) = k by omega] at h2
    exact h k x _ q1 (spw_iff.2 ⟨e, List.mem_of_getElem? q2, h1, rfl⟩) h2
/-- What program.Reachable answers for a valid program. -/
theorem reach_valid {vs : List VD} {ms cs : List ByteArray} {fs : List FD} {ts : List SD} (h : (chkP vs ms cs fs ts).1 = 0) :
    ∃ R, reachS vs ms cs fs ts = (R, 0) ∧ SS R ∧ (∀ y ∈ R, 0 ≤ y ∧ y < (fs.length : Int)) ∧ (∀ t ∈ ts, t.1 ∈ R) ∧ clo fs (fun y => y ∈ R) ∧ ∀ M : Int → Prop, (∀ t ∈ ts, M t.1) → clo fs M → ∀ y ∈ R, M y := by
  obtain ⟨z1, z2, z3⟩ := chk_zero h
  have hth := th_all z3
  have hd : ∀ d ∈ instL fs, d.2.1.1 = 21 → 0 ≤ d.2.1.2.2.2.2.1 ∧ d.2.1.2.2.2.2.1 < (fs.length : Int) := fun d hd => ce_obj (cc_all z2 d hd)
  obtain ⟨i1, i2⟩ := init_inv (n := fs.length) ts [] List.Pairwise.nil (fun y hy => by cases hy) hth
  obtain ⟨a1, a2, a3, a4, a5⟩ := reach_all hd (fs.length + 1) (initR ts) i1 i2 (by omega)
  refine ⟨reachF (fs.length + 1) fs (initR ts), by unfold reachS; rw [if_neg (fun q => q h)], a1, a2, fun t ht => a3 _ (initR_mem.2 ⟨t, ht, rfl⟩), a4, fun M h1 h2 => a5 M (fun y hy => ?_) h2⟩
  obtain ⟨t, ht, rfl⟩ := initR_mem.1 hy
  exact h1 t ht
end Go.Proofs.YtiikkjlghfhgcaaDoor
