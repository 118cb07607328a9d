/- The sets chapter, plain laws, part 3: levels. -/
import Derived.Test.YtkndekaioeifdaaPK2
set_option linter.unusedSimpArgs false
set_option linter.unusedVariables false
set_option maxRecDepth 100000
namespace Go.Proofs.Ytkndekaioeifdaa
open Go Go.Eng

def extB (x : List Int) (y : Int) : Bool := decide (x.length = 0) || decide (x.getLastD 0 < y)
def gstep (x s : List Int) : List (List Int) := (s.filter (extB x)).map fun y => x ++ [y]
def growI (l : List (List Int)) (s : List Int) : List (List Int) := l.flatMap fun x => gstep x s
def levelI (m : List Int) : Nat → List (List Int)
  | 0 => [[]]
  | n + 1 => growI (levelI m n) m
def levsI (m : List Int) : Nat → List (List Int)
  | 0 => []
  | n + 1 => levsI m n ++ levelI m n
def rsubsI (l : List Int) : List (List Int) := if 12 < (makeI l).length then [] else levsI (makeI l) ((makeI l).length + 1)

theorem ss_snoc {p : List Int} {y : Int} : SS (p ++ [y]) ↔ SS p ∧ ∀ z ∈ p, z < y := by
  unfold SS
  rw [List.pairwise_append]
  constructor
  · intro ⟨a, _, c⟩; exact ⟨a, fun z hz => c z hz y (by simp)⟩
  · intro ⟨a, c⟩; exact ⟨a, by simp, fun z hz w hw => by simp at hw; subst hw; exact c z hz⟩
theorem snoc_cases (p : List Int) : p = [] ∨ ∃ q a, p = q ++ [a] := by
  rcases List.eq_nil_or_concat p with h | ⟨q, a, h⟩
  · exact .inl h
  · exact .inr ⟨q, a, by rw [h, List.concat_eq_append]⟩
theorem ext_iff {p : List Int} {y : Int} (hp : SS p) : extB p y = true ↔ ∀ z ∈ p, z < y := by
  rcases snoc_cases p with rfl | ⟨q, a, rfl⟩
  · simp [extB]
  · have := (ss_snoc.1 hp).2
    unfold extB
    simp only [Bool.or_eq_true, decide_eq_true_eq, List.length_append, List.length_singleton]
    rw [show (q ++ [a]).getLastD 0 = a by simp]
    constructor
    · intro h z hz
      simp only [List.mem_append, List.mem_singleton] at hz
      rcases hz with hz | rfl
      · have := this z hz; omega
      · omega
    · intro h; right; exact h a (by simp)
theorem level_mem {m : List Int} : ∀ {n : Nat} {x : List Int}, x ∈ levelI m n ↔ x.length = n ∧ SS x ∧ ∀ y ∈ x, y ∈ m
  | 0, x => by
    simp only [levelI, List.mem_singleton, List.length_eq_zero_iff]
    constructor
    · rintro rfl; exact ⟨rfl, List.Pairwise.nil, by simp⟩
    · exact fun h => h.1
  | n + 1, x => by
    have ih := @level_mem m n
    simp only [levelI, growI, gstep, List.mem_flatMap, List.mem_map, List.mem_filter]
    constructor
    · rintro ⟨p, hp, y, ⟨hy, he⟩, rfl⟩
      obtain ⟨h1, h2, h3⟩ := ih.1 hp
      refine ⟨by simp [h1], ss_snoc.2 ⟨h2, (ext_iff h2).1 he⟩, fun z hz => ?_⟩
      simp only [List.mem_append, List.mem_singleton] at hz
      rcases hz with hz | rfl
      · exact h3 z hz
      · exact hy
    · rintro ⟨h1, h2, h3⟩
      rcases snoc_cases x with rfl | ⟨q, a, rfl⟩
      · simp at h1
      · obtain ⟨s1, s2⟩ := ss_snoc.1 h2
        exact ⟨q, ih.2 ⟨by simpa using h1, s1, fun z hz => h3 z (by simp [hz])⟩, a, ⟨h3 a (by simp), (ext_iff s1).2 s2⟩, rfl⟩
theorem lex_pre : ∀ (p a b : List Int), lexI (p ++ a) (p ++ b) = lexI a b
  | [], _, _ => rfl
  | x :: p, a, b => by
    have : lexI (x :: (p ++ a)) (x :: (p ++ b)) = if x < x then -1 else if x < x then 1 else lexI (p ++ a) (p ++ b) := rfl
    rw [List.cons_append, List.cons_append, this, if_neg (by omega), if_neg (by omega), lex_pre p a b]
theorem lex_app : ∀ {p q : List Int} (a b : List Int), p.length = q.length → lexI p q < 0 → lexI (p ++ a) (q ++ b) < 0
  | [], [], _, _, _, h => by simp [lexI] at h
  | x :: p, y :: q, a, b, hl, h => by
    have e : ∀ p q, lexI (x :: p) (y :: q) = if x < y then -1 else if y < x then 1 else lexI p q := fun _ _ => rfl
    rw [e] at h
    rw [List.cons_append, List.cons_append, e]
    by_cases h1 : x < y
    · rw [if_pos h1]; omega
    · rw [if_neg h1] at h ⊢
      by_cases h2 : y < x
      · rw [if_pos h2] at h; omega
      · rw [if_neg h2] at h ⊢
        exact lex_app a b (by simpa using hl) h
theorem cmp_lex {x y : List Int} (h : x.length = y.length) : cmpI x y = lexI x y := by
  unfold cmpI; rw [if_neg (by omega), if_neg (by omega)]
/-- Ordered by the comparison. -/
def CS (l : List (List Int)) : Prop := l.Pairwise fun x y => cmpI x y < 0
theorem level_cs {m : List Int} (hm : SS m) : ∀ n, CS (levelI m n)
  | 0 => by unfold CS levelI; simp
  | n + 1 => by
    have ih := level_cs hm n
    unfold CS levelI growI
    rw [List.pairwise_flatMap]
    refine ⟨fun p hp => ?_, ?_⟩
    · unfold gstep
      rw [List.pairwise_map]
      refine List.Pairwise.imp (R := fun a b : Int => a < b) (fun {a b} h => ?_) (List.Pairwise.filter _ hm)
      rw [cmp_lex (by simp), lex_pre]
      simp [lexI, h]
    · refine List.Pairwise.imp_of_mem (fun {p q} hp hq h => ?_) ih
      intro x hx y hy
      obtain ⟨l1, _⟩ := level_mem.1 hp
      obtain ⟨l2, _⟩ := level_mem.1 hq
      unfold gstep at hx hy
      obtain ⟨a, _, rfl⟩ := List.mem_map.1 hx
      obtain ⟨b, _, rfl⟩ := List.mem_map.1 hy
      rw [cmp_lex (by simp [l1, l2])]
      rw [cmp_lex (by rw [l1, l2])] at h
      exact lex_app _ _ (by rw [l1, l2]) h
theorem levs_mem {m : List Int} : ∀ {n : Nat} {x : List Int}, x ∈ levsI m n ↔ x.length < n ∧ SS x ∧ ∀ y ∈ x, y ∈ m
  | 0, x => by simp [levsI]
  | n + 1, x => by
    have ih := @levs_mem m n x
    simp only [levsI, List.mem_append, ih, level_mem]
    constructor
    · rintro (⟨a, b⟩ | ⟨a, b⟩)
      · exact ⟨by omega, b⟩
      · exact ⟨by omega, b⟩
    · rintro ⟨a, b⟩
      by_cases h : x.length = n
      · exact .inr ⟨h, b⟩
      · exact .inl ⟨by omega, b⟩
theorem levs_cs {m : List Int} (hm : SS m) : ∀ n, CS (levsI m n)
  | 0 => List.Pairwise.nil
  | n + 1 => by
    unfold CS levsI
    rw [List.pairwise_append]
    refine ⟨levs_cs hm n, level_cs hm n, fun x hx y hy => ?_⟩
    have h1 := (levs_mem.1 hx).1
    have h2 := (level_mem.1 hy).1
    unfold cmpI
    rw [if_pos (by omega)]; omega
theorem ss_sub : ∀ {m x : List Int}, SS m → SS x → (∀ y ∈ x, y ∈ m) → x.Sublist m
  | [], [], _, _, _ => .slnil
  | [], y :: x, _, _, h => by have := h y (by simp); simp at this
  | b :: m, [], _, _, _ => List.nil_sublist _
  | b :: m, a :: x, hm, hx, h => by
    obtain ⟨m1, m2⟩ := List.pairwise_cons.1 hm
    obtain ⟨x1, x2⟩ := List.pairwise_cons.1 hx
    rcases List.mem_cons.1 (h a (by simp)) with rfl | ha
    · refine List.cons_sublist_cons.2 (ss_sub m2 x2 fun y hy => ?_)
      rcases List.mem_cons.1 (h y (by simp [hy])) with rfl | h2
      · have := x1 _ hy; omega
      · exact h2
    · refine List.Sublist.cons _ (ss_sub m2 hx fun y hy => ?_)
      rcases List.mem_cons.1 (h y hy) with rfl | h2
      · have := m1 a ha
        rcases List.mem_cons.1 hy with rfl | hy
        · omega
        · have := x1 _ hy; omega
      · exact h2
theorem get_of {α : Type} {l : List α} {j : Nat} (h : j < l.length) : ∃ d, l[j]? = some d := ⟨l[j], List.getElem?_eq_getElem h⟩
theorem setI_sub (l : List Int) (k : Nat) : ∀ j, j ≤ l.length → (setI l k j).Sublist (l.take j)
  | 0, _ => by simp [setI]
  | j + 1, h => by
    obtain ⟨d, hd⟩ := get_of (l := l) (j := j) (by omega)
    rw [setI_step hd, List.take_add_one, hd, Option.toList_some]
    refine List.Sublist.append (setI_sub l k j (by omega)) ?_
    split
    · exact List.Sublist.refl _
    · exact List.nil_sublist _
theorem setI_congr {l : List Int} {a b : Nat} : ∀ {j : Nat}, j ≤ l.length → (∀ i < j, a.testBit i = b.testBit i) → setI l a j = setI l b j
  | 0, _, _ => rfl
  | j + 1, h, hb => by
    obtain ⟨d, hd⟩ := get_of (l := l) (j := j) (by omega)
    rw [setI_step hd, setI_step hd, setI_congr (j := j) (by omega) (fun i hi => hb i (by omega)), hb j (by omega)]
theorem setI_all {l : List Int} : ∀ {j : Nat} {x : List Int}, j ≤ l.length → x.Sublist (l.take j) → ∃ k < 2 ^ j, setI l k j = x
  | 0, x, _, h => by
    have : x = [] := by simpa using h
    exact ⟨0, by simp, by rw [this]; rfl⟩
  | j + 1, x, hj, h => by
    obtain ⟨d, hd⟩ := get_of (l := l) (j := j) (by omega)
    rw [List.take_add_one, hd, Option.toList_some, List.sublist_append_iff] at h
    obtain ⟨x1, x2, rfl, h1, h2⟩ := h
    obtain ⟨k, hk, e⟩ := setI_all (j := j) (by omega) h1
    have hp : 2 ^ j < 2 ^ (j + 1) := Nat.pow_lt_pow_right (by omega) (by omega)
    have hx2 : x2 = [] ∨ x2 = [d] := by
      cases h2 with
      | cons _ h => left; simpa using h
      | cons_cons _ h => right; simpa using h
    rcases hx2 with rfl | rfl
    · refine ⟨k, by omega, ?_⟩
      rw [setI_step hd, e, Nat.testBit_lt_two_pow hk]; rfl
    · refine ⟨k ||| 2 ^ j, Nat.or_lt_two_pow (by omega) hp, ?_⟩
      have e1 : setI l (k ||| 2 ^ j) j = setI l k j := setI_congr (by omega) fun i hi => by
        rw [Nat.testBit_or, Nat.testBit_two_pow]
        have : ¬ j = i := by omega
        simp [this]
      rw [setI_step hd, e1, e, Nat.testBit_or, Nat.testBit_two_pow_self]
      simp
theorem setI_inj {l : List Int} (hl : SS l) {a b : Nat} : ∀ {j : Nat}, j ≤ l.length → setI l a j = setI l b j → ∀ i < j, a.testBit i = b.testBit i
  | 0, _, _, i, hi => by omega
  | j + 1, hj, h, i, hi => by
    obtain ⟨d, hd⟩ := get_of (l := l) (j := j) (by omega)
    have hs : SS (l.take (j + 1)) := List.Pairwise.sublist (List.take_sublist _ _) hl
    rw [List.take_add_one, hd, Option.toList_some] at hs
    have hlt := (ss_snoc.1 hs).2
    have nm : ∀ k, d ∉ setI l k j := fun k hm => by
      have := hlt d ((setI_sub l k j (by omega)).subset hm); omega
    rw [setI_step hd, setI_step hd] at h
    have hbit : a.testBit j = b.testBit j := by
      cases qa : a.testBit j <;> cases qb : b.testBit j <;> simp only [qa, qb, if_true, if_false, List.append_nil, Bool.false_eq_true] at h
      · rfl
      · exact absurd (by rw [h]; simp) (nm a)
      · exact absurd (by rw [← h]; simp) (nm b)
      · rfl
    rw [hbit] at h
    have h2 := List.append_cancel_right h
    by_cases q : i = j
    · rw [q]; exact hbit
    · exact setI_inj hl (j := j) (by omega) h2 i (by omega)
theorem masks_mem {m : List Int} (hm : SS m) {x : List Int} : x ∈ masksI m (2 ^ m.length) ↔ SS x ∧ ∀ y ∈ x, y ∈ m := by
  have et : m.take m.length = m := List.take_length
  unfold masksI
  rw [List.mem_map]
  constructor
  · rintro ⟨k, _, rfl⟩
    have := setI_sub m k m.length (Nat.le_refl _)
    rw [et] at this
    exact ⟨List.Pairwise.sublist this hm, fun y hy => this.subset hy⟩
  · rintro ⟨a, b⟩
    obtain ⟨k, hk, e⟩ := setI_all (l := m) (j := m.length) (Nat.le_refl _) (by rw [et]; exact ss_sub hm a b)
    exact ⟨k, List.mem_range.2 hk, e⟩
theorem masks_nodup {m : List Int} (hm : SS m) : (masksI m (2 ^ m.length)).Nodup := by
  unfold masksI List.Nodup
  rw [List.pairwise_map]
  refine List.Pairwise.imp_of_mem (fun {a b} ha hb hab => ?_) List.pairwise_lt_range
  intro e
  have hbits := setI_inj hm (Nat.le_refl _) e
  have : a = b := Nat.eq_of_testBit_eq fun i => by
    by_cases hi : i < m.length
    · exact hbits i hi
    · have h2 : 2 ^ m.length ≤ 2 ^ i := Nat.pow_le_pow_right (by omega) (by omega)
      rw [Nat.testBit_lt_two_pow (Nat.lt_of_lt_of_le (List.mem_range.1 ha) h2), Nat.testBit_lt_two_pow (Nat.lt_of_lt_of_le (List.mem_range.1 hb) h2)]
  omega
theorem sort_cs {l : List (List Int)} (hn : l.Nodup) : CS (sortLL cmpI l) := by
  have hp : (sortLL cmpI l).Perm l := List.mergeSort_perm l _
  have hn2 : (sortLL cmpI l).Nodup := hp.nodup_iff.2 hn
  have co := co_cmp
  have h := List.pairwise_mergeSort (le := fun x y => !decide (cmpI y x < 0)) (fun a b q h1 h2 => by
            simp at *
            have := co.ntrans q b a (by omega) (by omega)
            omega) (fun a b => by
            simp
            by_cases hab : cmpI b a < 0
            · right
              have := co.trans a b a
              have := co.irr a
              omega
            · left; omega) l
  unfold CS
  refine (h.and hn2).imp fun {a b} ⟨h1, h2⟩ => ?_
  have h1 : ¬ cmpI b a < 0 := by simpa using h1
  have := cmp_anti a b
  by_cases q : cmpI a b = 0
  · exact absurd (cmp_zero _ _ q) h2
  · omega
theorem cs_ext {l m : List (List Int)} (hl : CS l) (hm : CS m) (h : ∀ x, x ∈ l ↔ x ∈ m) : l = m := by
  have nd : ∀ {l}, CS l → l.Nodup := fun {l} hl => List.Pairwise.imp (fun {a b} h e => by subst e; exact co_cmp.irr _ h) hl
  refine List.Perm.eq_of_pairwise (le := fun x y => cmpI x y < 0) (fun a b _ _ h1 h2 => ?_) hl hm ((List.perm_ext_iff_of_nodup (nd hl) (nd hm)).2 fun x => h x)
  have := cmp_anti a b; omega
theorem sortLL_perm (l : List (List Int)) : (sortLL cmpI l).Perm l := List.mergeSort_perm l _
theorem levs_all {m : List Int} (hm : SS m) : sortLL cmpI (masksI m (2 ^ m.length)) = levsI m (m.length + 1) := by
  refine cs_ext (sort_cs (masks_nodup hm)) (levs_cs hm _) fun x => ?_
  rw [(sortLL_perm _).mem_iff, masks_mem hm, levs_mem]
  constructor
  · rintro ⟨a, b⟩
    exact ⟨Nat.lt_succ_of_le (ss_sub hm a b).length_le, a, b⟩
  · exact fun h => h.2
theorem levs_len {m : List Int} (hm : SS m) : (levsI m (m.length + 1)).length = 2 ^ m.length := by
  rw [← levs_all hm, (sortLL_perm _).length_eq, masks_len]
theorem subs_eq (l : List Int) : subsI l = rsubsI l := by
  unfold subsI rsubsI
  rw [levs_all (make_ss l)]
theorem levs_mono (m : List Int) : ∀ {a b : Nat}, a ≤ b → (levsI m a).length ≤ (levsI m b).length
  | a, 0, h => by have : a = 0 := by omega
                  subst this; exact Nat.le_refl _
  | a, b + 1, h => by
    by_cases q : a = b + 1
    · subst q; exact Nat.le_refl _
    · have := levs_mono m (a := a) (b := b) (by omega)
      simp only [levsI, List.length_append]; omega
theorem levs_le {m : List Int} (hm : SS m) {k : Nat} (h : k ≤ m.length + 1) : (levsI m k).length ≤ 2 ^ m.length := by
  rw [← levs_len hm]; exact levs_mono m h
theorem level_le {m : List Int} (hm : SS m) {k : Nat} (h : k ≤ m.length) : (levelI m k).length ≤ 2 ^ m.length := by
  have := levs_le hm (k := k + 1) (by omega)
  simp only [levsI, List.length_append] at this; omega
theorem gstep_len (x s : List Int) : (gstep x s).length ≤ s.length := by
  unfold gstep; rw [List.length_map]; exact List.length_filter_le _ _
theorem grow_len : ∀ (l : List (List Int)) (s : List Int), (growI l s).length ≤ l.length * s.length
  | [], s => by simp [growI]
  | x :: l, s => by
    have := grow_len l s
    have := gstep_len x s
    have e : growI (x :: l) s = gstep x s ++ growI l s := by simp [growI]
    rw [e, List.length_append, List.length_cons, Nat.succ_mul]; omega
theorem grow_step {l : List (List Int)} {k : Nat} {d : List Int} (s : List Int) (h : l[k]? = some d) : growI (l.take (k + 1)) s = growI (l.take k) s ++ gstep d s := by
  unfold growI
  rw [List.take_add_one, h, Option.toList_some, List.flatMap_append]; simp
theorem gstep_step {x s : List Int} {j : Nat} {d : Int} (h : s[j]? = some d) : gstep x (s.take (j + 1)) = gstep x (s.take j) ++ (if extB x d then [x ++ [d]] else []) := by
  unfold gstep
  rw [List.take_add_one, h, Option.toList_some, List.filter_append, List.map_append]
  congr 1
  by_cases q : extB x d <;> simp [q]
end Go.Proofs.Ytkndekaioeifdaa
