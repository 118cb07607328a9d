/- The sets chapter, plain laws, part 4: the lattice. -/
import Derived.Test.YtkndekaioeifdaaPV6
set_option linter.unusedSimpArgs false
set_option linter.unusedVariables false
set_option maxRecDepth 100000
namespace Go.Proofs.Ytkndekaioeifdaa
open Go Go.Eng

theorem fil_t {l o : List Int} {x : Int} : x ∈ filI l o true ↔ x ∈ l ∧ x ∈ o := by
  unfold filI
  rw [List.mem_filter, beq_iff_eq, hasI_iff]
theorem fil_f {l o : List Int} {x : Int} : x ∈ filI l o false ↔ x ∈ l ∧ x ∉ o := by
  unfold filI
  rw [List.mem_filter, beq_iff_eq, hasI_false]
theorem fil_ss {l o : List Int} {b : Bool} (h : SS l) : SS (filI l o b) := List.Pairwise.filter _ h
theorem fil_len (l o : List Int) (b : Bool) : (filI l o b).length ≤ l.length := List.length_filter_le _ _
theorem fil_make (l o : List Int) (b : Bool) : filI (makeI l) o b = makeI (filI l o b) := by
  refine ss_ext (fil_ss (make_ss l)) (make_ss _) fun x => ?_
  cases b <;> simp [fil_t, fil_f, make_mem]
theorem d1 (l m k : List Int) : filI (makeI l) (makeI (m ++ k)) true = makeI (filI (makeI l) m true ++ filI (makeI l) k true) := by
  refine ss_ext (fil_ss (make_ss l)) (make_ss _) fun x => ?_
  simp only [fil_t, fil_f, make_mem, List.mem_append]; grind
theorem d2 (l m k : List Int) : makeI (l ++ filI (makeI m) k true) = filI (makeI (makeI (l ++ m))) (makeI (l ++ k)) true := by
  refine ss_ext (make_ss _) (fil_ss (make_ss _)) fun x => ?_
  simp only [fil_t, fil_f, make_mem, List.mem_append]; grind
theorem d3 (l m k : List Int) : makeI (l ++ makeI (m ++ k)) = makeI (makeI (l ++ m) ++ k) := by
  refine ss_ext (make_ss _) (make_ss _) fun x => ?_
  simp only [fil_t, fil_f, make_mem, List.mem_append]; grind
theorem d4 (l m : List Int) : makeI (l ++ m) = makeI (m ++ l) := by
  refine ss_ext (make_ss _) (make_ss _) fun x => ?_
  simp only [fil_t, fil_f, make_mem, List.mem_append]; grind
theorem d5 (l m : List Int) : filI (makeI l) m true = filI (makeI m) l true := by
  refine ss_ext (fil_ss (make_ss _)) (fil_ss (make_ss _)) fun x => ?_
  simp only [fil_t, fil_f, make_mem, List.mem_append]; grind
theorem d6 (l : List Int) : filI (makeI l) l true = makeI l := by
  refine ss_ext (fil_ss (make_ss _)) (make_ss _) fun x => ?_
  simp only [fil_t, fil_f, make_mem, List.mem_append]; grind
theorem d7 (l : List Int) : makeI (l ++ l) = makeI l := by
  refine ss_ext (make_ss _) (make_ss _) fun x => ?_
  simp only [fil_t, fil_f, make_mem, List.mem_append]; grind
theorem a1 (l m : List Int) : (filI (makeI (filI (makeI l) m false)) (filI (makeI l) m true) true).length = 0 := by
  rw [List.length_eq_zero_iff, List.eq_nil_iff_forall_not_mem]
  intro x
  simp only [fil_t, fil_f, make_mem, List.mem_append]; grind
theorem a2 (l m : List Int) : makeI (filI (makeI l) m false ++ filI (makeI l) m true) = makeI l := by
  refine ss_ext (make_ss _) (make_ss _) fun x => ?_
  simp only [fil_t, fil_f, make_mem, List.mem_append]; grind
theorem sub_iff {l m : List Int} : subI l m = true ↔ ∀ x ∈ l, x ∈ m := by
  unfold subI
  rw [List.all_eq_true]
  simp only [hasI_iff]
theorem a3 (l m : List Int) : subI l m = decide (makeI (l ++ m) = makeI m) := by
  rw [Bool.eq_iff_iff, decide_eq_true_eq, sub_iff]
  constructor
  · intro h
    refine ss_ext (make_ss _) (make_ss _) fun x => ?_
    simp only [make_mem, List.mem_append]; grind
  · intro h x hx
    have : x ∈ makeI (l ++ m) := make_mem.2 (by simp [hx])
    rw [h] at this
    exact make_mem.1 this
theorem valid_of {l : List Int} (h : SS l) : validI l = true := decide_eq_true h
theorem subs_len (l : List Int) : (subsI l).length ≤ 4096 ∧ ∀ x ∈ subsI l, x.length ≤ 12 := by
  rw [subs_eq]
  unfold rsubsI
  split
  · simp
  · rename_i h
    have hs := make_ss l
    refine ⟨?_, fun x hx => ?_⟩
    · rw [levs_len hs]; exact pow_le (by omega)
    · have := (levs_mem.1 hx).1; omega
end Go.Proofs.Ytkndekaioeifdaa
