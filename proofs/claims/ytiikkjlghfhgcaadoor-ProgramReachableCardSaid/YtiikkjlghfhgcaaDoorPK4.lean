/- The Program chapter: plain laws of a row of marks that grows until it is closed. Conditions: none. -/
import Derived.Test.YtiikkjlghfhgcaaDoorPK3
set_option linter.unusedSimpArgs false
set_option linter.unusedVariables false
namespace Go.Proofs.YtiikkjlghfhgcaaDoor
open Go Go.Eng
def cntB (b : List Bool) : Nat := b.countP id
/-- A pair of functions at which a row is closed under spawning. -/
def okP (fs : List FD) (b : List Bool) (k g : Nat) : Prop := ∀ x, fs[k]? = some x → spwS x.2.1 g = true → b.getD k false = true → b.getD g false = true
def cloB (fs : List FD) (b : List Bool) : Prop := ∀ k g, g < fs.length → okP fs b k g
def sndB (R : List Int) (b : List Bool) : Prop := ∀ k, b.getD k false = true → (k : Int) ∈ R
def hasT (ts : List SD) (b : List Bool) : Prop := ∀ t ∈ ts, b.getD t.1.toNat false = true
def outB (b : List Bool) : List Int := ((List.range b.length).filter fun k => b.getD k false).map Int.ofNat
theorem outB_take {b : List Bool} {k : Nat} {d : Bool} (h : b[k]? = some d) : outB (b.take (k + 1)) = if d then outB (b.take k) ++ [(k : Int)] else outB (b.take k) := by
  have hk := (List.getElem?_eq_some_iff.1 h).1
  have l1 : (b.take (k + 1)).length = k + 1 := by simp; omega
  have l0 : (b.take k).length = k := by simp; omega
  unfold outB
  rw [l1, l0, List.range_succ, List.filter_append, List.map_append]
  have e : (List.range k).filter (fun j => (b.take (k + 1)).getD j false) = (List.range k).filter (fun j => (b.take k).getD j false) := by
    apply List.filter_congr
    intro j hj
    have hj : j < k := by simpa using hj
    rw [List.getD_eq_getElem?_getD, List.getD_eq_getElem?_getD, List.getElem?_take_of_lt (by omega), List.getElem?_take_of_lt hj]
  rw [e]
  have e2 : (b.take (k + 1)).getD k false = d := by rw [List.getD_eq_getElem?_getD, List.getElem?_take_of_lt (by omega), h]; rfl
  rw [show (List.filter (fun j => (b.take (k + 1)).getD j false) [k]) = if d then [k] else [] by rw [List.filter_cons, e2]; cases d <;> rfl]
  cases d <;> simp
theorem cntB_set {b : List Bool} {k : Nat} (h : b[k]? = some false) : cntB (b.set k true) = cntB b + 1 := by
  induction b generalizing k with
  | nil => simp at h
  | cons x b ih =>
    cases k with
    | zero => simp at h; subst h; simp [cntB]
    | succ k =>
      have := ih (k := k) (by simpa using h)
      unfold cntB at this ⊢
      simp only [List.set_cons_succ, List.countP_cons]
      omega
theorem getD_set {b : List Bool} {k j : Nat} (hk : k < b.length) : (b.set k true).getD j false = if j = k then true else b.getD j false := by
  rw [List.getD_eq_getElem?_getD, List.getElem?_set]
  by_cases h : k = j
  · subst h; simp [hk]
  · rw [if_neg h, if_neg (fun q => h q.symm), List.getD_eq_getElem?_getD]
theorem snd_set {R : List Int} {b : List Bool} {k : Nat} (hk : k < b.length) (h : sndB R b) (hm : (k : Int) ∈ R) : sndB R (b.set k true) := by
  intro j hj
  rw [getD_set hk] at hj
  by_cases q : j = k
  · rw [q]; exact hm
  · rw [if_neg q] at hj; exact h j hj
theorem hasT_set {ts : List SD} {b : List Bool} {k : Nat} (hk : k < b.length) (h : hasT ts b) : hasT ts (b.set k true) := by
  intro t ht
  rw [getD_set hk]
  split
  · rfl
  · exact h t ht
theorem set_same {b : List Bool} {k : Nat} (h : b[k]? = some true) : b.set k true = b := by
  apply List.ext_getElem?
  intro j
  rw [List.getElem?_set]
  by_cases q : k = j
  · subst q; rw [if_pos rfl, h]; simp [(List.getElem?_eq_some_iff.1 h).1]
  · rw [if_neg q]
theorem in_step {fs : List FD} {b : List Bool} {r f g : Nat} {x : FD} (hlen : b.length = fs.length) (hx : fs[f]? = some x) (hg : g < fs.length) (hf : b[f]? = some true) (hs : spwS x.2.1 g = true)
    (inv : cloB fs b ∨ r + 2 ≤ cntB b ∨ (r + 1 ≤ cntB b ∧ (∀ k < f, ∀ g < fs.length, okP fs b k g) ∧ ∀ g' < g, okP fs b f g')) :
    cloB fs (b.set g true) ∨ r + 2 ≤ cntB (b.set g true) ∨ (r + 1 ≤ cntB (b.set g true) ∧ (∀ k < f, ∀ u < fs.length, okP fs (b.set g true) k u) ∧ ∀ g' < g + 1, okP fs (b.set g true) f g') := by
  have hbg : b[g]? = some b[g] := List.getElem?_eq_getElem (by omega)
  cases hv : b[g]'(by omega) with
  | true =>
    rw [hv] at hbg
    rw [set_same hbg]
    rcases inv with i | i | ⟨i1, i2, i3⟩
    · exact .inl i
    · exact .inr (.inl i)
    · refine .inr (.inr ⟨i1, i2, fun g' hg' => ?_⟩)
      by_cases q : g' = g
      · subst q
        intro y hy h1 h2
        rw [List.getD_eq_getElem?_getD, hbg]; rfl
      · exact i3 g' (by omega)
  | false =>
    rw [hv] at hbg
    rw [cntB_set hbg]
    rcases inv with i | i | ⟨i1, _, _⟩
    · have := i f g hg x hx hs (by rw [List.getD_eq_getElem?_getD, hf]; rfl)
      rw [List.getD_eq_getElem?_getD, hbg] at this
      cases this
    · exact .inr (.inl (by omega))
    · exact .inr (.inl (by omega))
theorem in_skip {fs : List FD} {b : List Bool} {r f g : Nat} {x : FD} (hx : fs[f]? = some x) (hn : ¬ (b.getD f false = true ∧ spwS x.2.1 g = true))
    (inv : cloB fs b ∨ r + 2 ≤ cntB b ∨ (r + 1 ≤ cntB b ∧ (∀ k < f, ∀ g < fs.length, okP fs b k g) ∧ ∀ g' < g, okP fs b f g')) :
    cloB fs b ∨ r + 2 ≤ cntB b ∨ (r + 1 ≤ cntB b ∧ (∀ k < f, ∀ g < fs.length, okP fs b k g) ∧ ∀ g' < g + 1, okP fs b f g') := by
  rcases inv with i | i | ⟨i1, i2, i3⟩
  · exact .inl i
  · exact .inr (.inl i)
  · refine .inr (.inr ⟨i1, i2, fun g' hg' => ?_⟩)
    by_cases q : g' = g
    · subst q
      intro y hy h1 h2
      rw [hx] at hy; cases hy
      exact absurd ⟨h2, h1⟩ hn
    · exact i3 g' (by omega)
theorem f_step {fs : List FD} {b : List Bool} {r f g : Nat} (hg : ¬ g < fs.length)
    (inv : cloB fs b ∨ r + 2 ≤ cntB b ∨ (r + 1 ≤ cntB b ∧ (∀ k < f, ∀ g < fs.length, okP fs b k g) ∧ ∀ g' < g, okP fs b f g')) :
    cloB fs b ∨ r + 2 ≤ cntB b ∨ (r + 1 ≤ cntB b ∧ ∀ k < f + 1, ∀ g < fs.length, okP fs b k g) := by
  rcases inv with i | i | ⟨i1, i2, i3⟩
  · exact .inl i
  · exact .inr (.inl i)
  · refine .inr (.inr ⟨i1, fun k hk u hu => ?_⟩)
    by_cases q : k = f
    · subst q; exact i3 u (by omega)
    · exact i2 k (by omega) u hu
theorem r_step {fs : List FD} {b : List Bool} {r f : Nat} (hf : ¬ f < fs.length)
    (inv : cloB fs b ∨ r + 2 ≤ cntB b ∨ (r + 1 ≤ cntB b ∧ ∀ k < f, ∀ g < fs.length, okP fs b k g)) :
    cloB fs b ∨ (r + 1) + 1 ≤ cntB b := by
  rcases inv with i | i | ⟨i1, i2⟩
  · exact .inl i
  · exact .inr i
  · refine .inl fun k g hg x hx => ?_
    have := (List.getElem?_eq_some_iff.1 hx).1
    exact i2 k (by omega) g hg x hx
theorem r_end {fs : List FD} {b : List Bool} {r : Nat} (hl : b.length = fs.length) (hr : ¬ r < fs.length) (inv : cloB fs b ∨ r + 1 ≤ cntB b) : cloB fs b := by
  rcases inv with i | i
  · exact i
  · have := List.countP_le_length (p := id) (l := b)
    unfold cntB at i
    omega
theorem cnt_pos {b : List Bool} {k : Nat} (h : b.getD k false = true) : 1 ≤ cntB b := by
  unfold cntB
  have : true ∈ b := by
    rw [List.getD_eq_getElem?_getD] at h
    cases hk : b[k]? with
    | none => rw [hk] at h; cases h
    | some v =>
      rw [hk] at h
      have h : v = true := h
      rw [h] at hk
      exact List.mem_of_getElem? hk
  exact List.countP_pos_iff.2 ⟨true, this, rfl⟩
theorem outB_mem {b : List Bool} {y : Int} : y ∈ outB b ↔ ∃ k : Nat, y = k ∧ b.getD k false = true := by
  unfold outB
  rw [List.mem_map]
  constructor
  · rintro ⟨k, hk, rfl⟩
    rw [List.mem_filter] at hk
    exact ⟨k, rfl, hk.2⟩
  · rintro ⟨k, rfl, hk⟩
    refine ⟨k, List.mem_filter.2 ⟨List.mem_range.2 ?_, hk⟩, rfl⟩
    rw [List.getD_eq_getElem?_getD] at hk
    by_cases q : k < b.length
    · exact q
    · rw [List.getElem?_eq_none (by omega)] at hk; cases hk
theorem outB_ss (b : List Bool) : SS (outB b) := by
  unfold outB SS
  rw [List.pairwise_map]
  exact (List.pairwise_lt_range.filter _).imp fun h => by
    show (_ : Int) < _
    simp only [Int.ofNat_eq_natCast]; omega
theorem outB_len (b : List Bool) : (outB b).length ≤ b.length := by
  unfold outB
  rw [List.length_map]
  exact Nat.le_trans (List.length_filter_le _ _) (by simp)
theorem out_eq {fs : List FD} {ts : List SD} {R : List Int} {b : List Bool} (hl : b.length = fs.length) (r1 : SS R) (r2 : ∀ y ∈ R, 0 ≤ y ∧ y < (fs.length : Int)) (r3 : ∀ t ∈ ts, t.1 ∈ R) (r4 : clo fs (fun y => y ∈ R))
    (r5 : ∀ M : Int → Prop, (∀ t ∈ ts, M t.1) → clo fs M → ∀ y ∈ R, M y) (hs : sndB R b) (ht : hasT ts b) (hc : cloB fs b) : outB b = R := by
  refine ss_ext (outB_ss b) r1 fun y => ?_
  rw [outB_mem]
  constructor
  · rintro ⟨k, rfl, hk⟩; exact hs k hk
  · intro hy
    refine r5 (fun y => ∃ k : Nat, y = k ∧ b.getD k false = true) (fun t ht' => ?_) (clo_iff.2 fun k x g hx hg hM => ?_) y hy
    · have := r2 _ (r3 t ht')
      exact ⟨t.1.toNat, by omega, ht t ht'⟩
    · obtain ⟨k', e, hk⟩ := hM
      obtain rfl : k' = k := by omega
      have hgR := clo_iff.1 r4 k' x g hx hg (hs _ hk)
      have := r2 _ hgR
      exact ⟨g.toNat, by omega, hc k' g.toNat (by omega) x hx (by rw [Int.toNat_of_nonneg this.1]; exact hg) hk⟩
theorem th_len {fs : List FD} {ts : List SD} (h : thS fs ts = 0) : 1 ≤ ts.length := by
  unfold thS at h
  split at h
  · cases h
  · omega
end Go.Proofs.YtiikkjlghfhgcaaDoor
