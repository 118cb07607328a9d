/- Sets as increasing lists: words and plain laws. -/
import Derived.Test.YtklnffdjhoacoaaDoorPV1
import Derived.Test.YtklnffdjhoacoaaDoorEngX
set_option linter.unusedSimpArgs false
set_option linter.unusedVariables false
namespace Go.Proofs.YtklnffdjhoacoaaDoor
open Go Go.Eng
def hasI (l : List Int) (x : Int) : Bool := l.any fun y => decide (y = x)
def posI (l : List Int) (x : Int) : Nat := (l.takeWhile fun y => decide (y < x)).length
def insI (l : List Int) (x : Int) : List Int := l.take (posI l x) ++ [x] ++ l.drop (posI l x)
def makeI (l : List Int) : List Int := l.foldl (fun o x => if hasI o x then o else insI o x) []
theorem insI_len (l : List Int) (x : Int) : (insI l x).length = l.length + 1 := by
  simp only [insI, List.length_append, List.length_take, List.length_drop, List.length_cons, List.length_nil]; omega
theorem makeI_len (l : List Int) : (makeI l).length ≤ l.length := by
  have : ∀ (l o : List Int), (l.foldl (fun o x => if hasI o x then o else insI o x) o).length ≤ o.length + l.length := by
    intro l
    induction l with
    | nil => intro o; simp
    | cons x l ih =>
      intro o
      simp only [List.foldl_cons, List.length_cons]
      refine Nat.le_trans (ih _) ?_
      split
      · omega
      · rw [insI_len]; omega
  have h := this l []
  rw [List.length_nil, Nat.zero_add] at h
  exact h
theorem makeI_take {l : List Int} {k : Nat} {d : Int} (hd : l[k]? = some d) : makeI (l.take (k + 1)) = if hasI (makeI (l.take k)) d then makeI (l.take k) else insI (makeI (l.take k)) d := by
  rw [List.take_add_one, hd]
  unfold makeI
  rw [Option.toList_some, List.foldl_append]
  rfl


/-- Increasing. -/
def SS (l : List Int) : Prop := l.Pairwise (· < ·)
theorem ss_ext : ∀ {l m : List Int}, SS l → SS m → (∀ x, x ∈ l ↔ x ∈ m) → l = m
  | [], [], _, _, _ => rfl
  | [], y :: m, _, _, h => by have := (h y).2 (by simp); simp at this
  | x :: l, [], _, _, h => by have := (h x).1 (by simp); simp at this
  | x :: l, y :: m, hl, hm, h => by
    obtain ⟨h1, h2⟩ := List.pairwise_cons.1 hl
    obtain ⟨h3, h4⟩ := List.pairwise_cons.1 hm
    have hxy : x = y := by
      have a := (h x).1 (by simp)
      have b := (h y).2 (by simp)
      rcases List.mem_cons.1 a with a | a
      · exact a
      · rcases List.mem_cons.1 b with b | b
        · exact b.symm
        · have := h3 x a; have := h1 y b; omega
    subst hxy
    congr 1
    refine ss_ext h2 h4 fun z => ?_
    have hz := h z
    simp only [List.mem_cons] at hz
    constructor
    · intro hh
      rcases hz.1 (.inr hh) with rfl | h5
      · have := h1 z hh; omega
      · exact h5
    · intro hh
      rcases hz.2 (.inr hh) with rfl | h5
      · have := h3 z hh; omega
      · exact h5

theorem hasI_iff {l : List Int} {x : Int} : hasI l x = true ↔ x ∈ l := by
  unfold hasI
  rw [List.any_eq_true]
  constructor
  · rintro ⟨y, h1, h2⟩; simp only [decide_eq_true_eq] at h2; subst h2; exact h1
  · intro h; exact ⟨x, h, by simp⟩
theorem hasI_false {l : List Int} {x : Int} : hasI l x = false ↔ x ∉ l := by
  rw [← hasI_iff]; simp

theorem tk_pos (l : List Int) (x : Int) : l.take (posI l x) = l.takeWhile fun y => decide (y < x) := by
  unfold posI
  induction l with
  | nil => rfl
  | cons a l ih =>
    simp only [List.takeWhile_cons]
    split
    · simp [ih]
    · simp
theorem dr_pos (l : List Int) (x : Int) : l.drop (posI l x) = l.dropWhile fun y => decide (y < x) := by
  unfold posI
  induction l with
  | nil => rfl
  | cons a l ih =>
    simp only [List.takeWhile_cons, List.dropWhile_cons]
    split
    · simp [ih]
    · simp
theorem ss_drop : ∀ {l : List Int} {x : Int}, SS l → ∀ y ∈ l.dropWhile (fun y => decide (y < x)), x ≤ y
  | [], _, _, y, h => by simp at h
  | a :: l, x, hl, y, h => by
    obtain ⟨h1, h2⟩ := List.pairwise_cons.1 hl
    simp only [List.dropWhile_cons] at h
    split at h
    · exact ss_drop h2 y h
    · rename_i hn
      simp only [decide_eq_true_eq] at hn
      rcases List.mem_cons.1 h with rfl | h
      · omega
      · have := h1 y h; omega
theorem tk_lt : ∀ {l : List Int} {x : Int}, ∀ y ∈ l.takeWhile (fun y => decide (y < x)), y < x
  | [], _, y, h => by simp at h
  | a :: l, x, y, h => by
    simp only [List.takeWhile_cons] at h
    split at h
    · rename_i hn
      simp only [decide_eq_true_eq] at hn
      rcases List.mem_cons.1 h with rfl | h
      · exact hn
      · exact tk_lt y h
    · simp at h
theorem ins_ss {l : List Int} {x : Int} (hl : SS l) (hx : x ∉ l) : SS (insI l x) := by
  unfold insI SS
  rw [tk_pos, dr_pos]
  have hp : SS (l.takeWhile (fun y => decide (y < x)) ++ l.dropWhile (fun y => decide (y < x))) := by rw [List.takeWhile_append_dropWhile]; exact hl
  obtain ⟨p1, p2, p3⟩ := List.pairwise_append.1 hp
  rw [List.append_assoc, List.pairwise_append]
  refine ⟨p1, ?_, ?_⟩
  · rw [List.singleton_append, List.pairwise_cons]
    refine ⟨fun y hy => ?_, p2⟩
    have h1 := ss_drop hl y hy
    have h2 : y ≠ x := fun e => hx (by rw [← e]; rw [← List.takeWhile_append_dropWhile (p := fun y => decide (y < x)) (l := l)]; exact List.mem_append_right _ hy)
    omega
  · intro a ha b hb
    rw [List.singleton_append] at hb
    rcases List.mem_cons.1 hb with rfl | hb
    · exact tk_lt a ha
    · exact p3 a ha b hb
theorem ins_mem {l : List Int} {x y : Int} : y ∈ insI l x ↔ y = x ∨ y ∈ l := by
  unfold insI
  rw [List.mem_append, List.mem_append, List.mem_singleton]
  conv => rhs; rw [← List.take_append_drop (posI l x) l, List.mem_append]
  constructor
  · rintro ((h | h) | h)
    · exact .inr (.inl h)
    · exact .inl h
    · exact .inr (.inr h)
  · rintro (h | h | h)
    · exact .inl (.inr h)
    · exact .inl (.inl h)
    · exact .inr h
theorem fold_ss : ∀ (l o : List Int), SS o → SS (l.foldl (fun o x => if hasI o x then o else insI o x) o) ∧ ∀ y, y ∈ l.foldl (fun o x => if hasI o x then o else insI o x) o ↔ y ∈ o ∨ y ∈ l
  | [], o, h => ⟨h, fun y => by simp⟩
  | x :: l, o, h => by
    simp only [List.foldl_cons]
    cases hx : hasI o x with
    | true =>
      simp only [if_true]
      obtain ⟨h1, h2⟩ := fold_ss l o h
      refine ⟨h1, fun y => ?_⟩
      rw [h2, List.mem_cons]
      have := hasI_iff.1 hx
      constructor
      · rintro (h | h)
        · exact .inl h
        · exact .inr (.inr h)
      · rintro (h | rfl | h)
        · exact .inl h
        · exact .inl this
        · exact .inr h
    | false =>
      simp only [Bool.false_eq_true, if_false]
      obtain ⟨h1, h2⟩ := fold_ss l (insI o x) (ins_ss h (hasI_false.1 hx))
      refine ⟨h1, fun y => ?_⟩
      rw [h2, List.mem_cons, ins_mem]
      constructor
      · rintro ((h | h) | h)
        · exact .inr (.inl h)
        · exact .inl h
        · exact .inr (.inr h)
      · rintro (h | h | h)
        · exact .inl (.inr h)
        · exact .inl (.inl h)
        · exact .inr h
theorem make_ss (l : List Int) : SS (makeI l) := (fold_ss l [] List.Pairwise.nil).1
theorem make_mem {l : List Int} {x : Int} : x ∈ makeI l ↔ x ∈ l := by
  have := (fold_ss l [] List.Pairwise.nil).2 x
  simpa [makeI] using this

theorem cu_props {d : Array Int} (hs : ∀ i j, i < j → j < d.size → d[i]! ≤ d[j]!) : ∀ m, m ≤ d.size →
    SS (Lib.compactUpTo d m) ∧ (∀ x, x ∈ Lib.compactUpTo d m ↔ ∃ j < m, d[j]! = x)
  | 0, _ => ⟨by simp [Lib.compactUpTo, SS], fun x => by simp [Lib.compactUpTo]⟩
  | m + 1, hm => by
    obtain ⟨h1, h2⟩ := cu_props hs m (by omega)
    rw [Lib.compactUpTo_succ]
    have le : ∀ x ∈ Lib.compactUpTo d m, ∃ j < m, d[j]! = x := fun x hx => (h2 x).1 hx
    cases hk : Lib.keeps d m with
    | true =>
      simp only [if_true]
      constructor
      · refine List.pairwise_append.2 ⟨h1, by simp, fun a ha b hb => ?_⟩
        simp only [List.mem_singleton] at hb
        subst hb
        obtain ⟨j, hj, rfl⟩ := le a ha
        have h3 : m ≠ 0 := by omega
        simp only [Lib.keeps, decide_eq_true_eq, h3, false_or] at hk
        have h4 := hs (m - 1) m (by omega) (by omega)
        by_cases hj2 : j = m - 1
        · subst hj2; omega
        · have := hs j (m - 1) (by omega) (by omega); omega
      · intro x
        rw [List.mem_append, h2, List.mem_singleton]
        constructor
        · rintro (⟨j, hj, e⟩ | e)
          · exact ⟨j, by omega, e⟩
          · exact ⟨m, by omega, e.symm⟩
        · rintro ⟨j, hj, e⟩
          by_cases hj2 : j = m
          · subst hj2; exact .inr e.symm
          · exact .inl ⟨j, by omega, e⟩
    | false =>
      simp only [Bool.false_eq_true, if_false, List.append_nil]
      refine ⟨h1, fun x => ?_⟩
      rw [h2]
      have h3 : m ≠ 0 ∧ d[m]! = d[m - 1]! := by simpa [Lib.keeps] using hk
      constructor
      · rintro ⟨j, hj, e⟩; exact ⟨j, by omega, e⟩
      · rintro ⟨j, hj, e⟩
        by_cases hj2 : j = m
        · subst hj2; exact ⟨j - 1, by omega, by rw [← h3.2]; exact e⟩
        · exact ⟨j, by omega, e⟩

theorem sort_sorted (l : List Int) : (sortI l).Pairwise (· ≤ ·) := by
  have h : (sortI l).Pairwise (fun x y => decide (x ≤ y) = true) := List.pairwise_mergeSort (fun a b c h1 h2 => by simp at *; omega) (fun a b => by simp; omega) l
  exact h.imp fun h => by simpa using h
theorem sort_mem {l : List Int} {x : Int} : x ∈ sortI l ↔ x ∈ l := (List.mergeSort_perm l _).mem_iff
theorem dd_props (l : List Int) : SS (Lib.compact (sortI l)) ∧ ∀ x, x ∈ Lib.compact (sortI l) ↔ x ∈ l := by
  have hs : ∀ i j, i < j → j < (sortI l).toArray.size → (sortI l).toArray[i]! ≤ (sortI l).toArray[j]! := by
    intro i j hij hj
    have hj' : j < (sortI l).length := by simpa using hj
    have := List.pairwise_iff_getElem.1 (sort_sorted l) i j (by omega) hj' hij
    rw [getElem!_pos _ i (by simp; omega), getElem!_pos _ j (by simpa using hj)]
    simpa using this
  obtain ⟨h1, h2⟩ := cu_props hs (sortI l).length (by simp)
  refine ⟨h1, fun x => ?_⟩
  show x ∈ Lib.compactUpTo (sortI l).toArray (sortI l).length ↔ _
  rw [h2, ← sort_mem, List.mem_iff_getElem]
  constructor
  · rintro ⟨j, hj, e⟩; exact ⟨j, hj, by rw [getElem!_pos _ j (by simpa using hj)] at e; simpa using e⟩
  · rintro ⟨j, hj, e⟩; exact ⟨j, hj, by rw [getElem!_pos _ j (by simpa using hj)]; simpa using e⟩
theorem dd_make (l : List Int) : Lib.compact (sortI l) = makeI l :=
  ss_ext (dd_props l).1 (make_ss l) fun x => by rw [(dd_props l).2, make_mem]
end Go.Proofs.YtklnffdjhoacoaaDoor
