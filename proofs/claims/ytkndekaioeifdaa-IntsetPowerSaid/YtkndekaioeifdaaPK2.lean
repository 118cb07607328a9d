/- The sets chapter, plain laws, part 2: orders of lists, masks. -/
import Derived.Test.YtkndekaioeifdaaPV4
import Derived.Test.YtkndekaioeifdaaEngU
set_option linter.unusedSimpArgs false
set_option linter.unusedVariables false
set_option maxRecDepth 100000
namespace Go.Proofs.Ytkndekaioeifdaa
open Go Go.Eng

def cmpI (l m : List Int) : Int := if l.length < m.length then -1 else if m.length < l.length then 1 else lexI l m
theorem lex_anti : ∀ x y : List Int, lexI y x = - lexI x y
  | [], [] => rfl
  | [], _ :: _ => rfl
  | _ :: _, [] => rfl
  | x :: l, y :: m => by
    have := lex_anti l m
    unfold lexI
    by_cases h1 : x < y
    · rw [if_neg (by omega), if_pos h1, if_pos h1]; rfl
    · by_cases h2 : y < x
      · rw [if_pos h2, if_neg h1, if_pos h2]
      · rw [if_neg h2, if_neg h1, if_neg h1, if_neg h2, this]
theorem lex_zero : ∀ x y : List Int, lexI x y = 0 → x = y
  | [], [], _ => rfl
  | [], _ :: _, h => by cases h
  | _ :: _, [], h => by cases h
  | x :: l, y :: m, h => by
    unfold lexI at h
    by_cases h1 : x < y
    · rw [if_pos h1] at h; cases h
    · by_cases h2 : y < x
      · rw [if_neg h1, if_pos h2] at h; cases h
      · rw [if_neg h1, if_neg h2] at h
        rw [lex_zero l m h, show x = y by omega]
theorem lex_self (x : List Int) : lexI x x = 0 := by have := lex_anti x x; omega
theorem lex_letrans : ∀ x y z : List Int, lexI x y ≤ 0 → lexI y z ≤ 0 → lexI x z ≤ 0
  | [], _, [], _, _ => by simp [lexI]
  | [], _, _ :: _, _, _ => by simp [lexI]
  | _ :: _, [], _, h, _ => by simp [lexI] at h
  | _ :: _, _ :: _, [], _, h => by simp [lexI] at h
  | x :: l, y :: m, z :: n, h1, h2 => by
    have ih := lex_letrans l m n
    have u : ∀ (x y : Int) (l m : List Int), lexI (x :: l) (y :: m) = if x < y then -1 else if y < x then 1 else lexI l m := fun _ _ _ _ => rfl
    rw [u] at *
    split at h1 <;> split at h2 <;> repeat' split
    all_goals first | omega | skip
    all_goals (split at h1 <;> first | omega | skip)
    all_goals (split at h2 <;> first | omega | skip)
theorem cmp_anti (x y : List Int) : cmpI y x = - cmpI x y := by
  have := lex_anti x y
  unfold cmpI
  repeat' split
  all_goals omega
theorem cmp_zero (x y : List Int) (h : cmpI x y = 0) : x = y := by
  unfold cmpI at h
  split at h
  · cases h
  · split at h
    · cases h
    · exact lex_zero x y h
theorem cmp_letrans (x y z : List Int) : cmpI x y ≤ 0 → cmpI y z ≤ 0 → cmpI x z ≤ 0 := by
  have := lex_letrans x y z
  unfold cmpI
  repeat' split
  all_goals first | omega | (intros; omega)
theorem co_cmp : CO cmpI where
  irr x := by have := cmp_anti x x; omega
  trans x y z h1 h2 := by
    have h3 := cmp_letrans x y z (by omega) (by omega)
    have a1 := cmp_anti y z
    have a2 := cmp_anti x y
    have h4 : cmpI x z ≠ 0 := fun e => by
      have := cmp_zero _ _ e; subst this
      omega
    omega
  ntrans x y z h1 h2 := by
    have a1 := cmp_anti x y
    have a2 := cmp_anti y z
    have a3 := cmp_anti x z
    have := cmp_letrans z y x (by omega) (by omega)
    omega
  tri x y h1 h2 := by
    have := cmp_anti x y
    exact cmp_zero x y (by omega)

def setI (l : List Int) (m j : Nat) : List Int := (l.take j).zipIdx.filterMap fun p => if m.testBit p.2 then some p.1 else none
def masksI (l : List Int) (k : Nat) : List (List Int) := (List.range k).map fun m => setI l m l.length
def subsI (l : List Int) : List (List Int) := if 12 < (makeI l).length then [] else sortLL cmpI (masksI (makeI l) (2 ^ (makeI l).length))
def errI (l : List Int) : Int := if 12 < (makeI l).length then 4 else 0
theorem setI_zero (l : List Int) (m : Nat) : setI l m 0 = [] := rfl
theorem setI_step {l : List Int} {m j : Nat} {d : Int} (h : l[j]? = some d) : setI l m (j + 1) = setI l m j ++ (if m.testBit j then [d] else []) := by
  have hj : j < l.length := (List.getElem?_eq_some_iff.1 h).1
  unfold setI
  rw [List.take_add_one, h, Option.toList_some, List.zipIdx_append, List.filterMap_append]
  congr 1
  simp only [List.length_take, Nat.min_eq_left (Nat.le_of_lt hj), List.zipIdx_cons, List.zipIdx_nil, List.filterMap_cons, List.filterMap_nil, Nat.zero_add]
  by_cases q : m.testBit j <;> simp [q]
theorem setI_len (l : List Int) (m j : Nat) : (setI l m j).length ≤ l.length := by
  unfold setI
  refine Nat.le_trans (List.length_filterMap_le _ _) ?_
  simp; omega
theorem masks_step (l : List Int) (k : Nat) : masksI l (k + 1) = masksI l k ++ [setI l k l.length] := by
  unfold masksI
  rw [List.range_succ, List.map_append]; rfl
theorem masks_len (l : List Int) (k : Nat) : (masksI l k).length = k := by simp [masksI]
theorem shl_val {n : Nat} (h : n ≤ 12) : shlv .i64 1 n = ((2 ^ n : Nat) : Int) := by
  match n, h with
  | 0, _ | 1, _ | 2, _ | 3, _ | 4, _ | 5, _ | 6, _ | 7, _ | 8, _ | 9, _ | 10, _ | 11, _ | 12, _ => rfl
theorem pow_le {n : Nat} (h : n ≤ 12) : 2 ^ n ≤ 4096 := Nat.pow_le_pow_right (by omega) h (n := 2)
theorem wrap_small {x : Nat} (h : x ≤ 4096) : IntKind.i64.wrap (x : Int) = x := by
  unfold IntKind.wrap
  have h1 : (x : Int) % 2 ^ IntKind.i64.bits = x := Int.emod_eq_of_lt (Int.natCast_nonneg _) (by
    have : (2 : Int) ^ IntKind.i64.bits = 18446744073709551616 := rfl
    rw [this]; omega)
  have h2 : (2 : Int) ^ (IntKind.i64.bits - 1) = 9223372036854775808 := rfl
  simp only [h1, h2]
  rw [if_neg]
  simp; omega
theorem bit_iff {x i : Nat} (hx : x < 4096) (hi : i < 12) : (!decide (bitop .and .i64 (x : Int) (shlv .i64 1 (i : Int)) = 0)) = x.testBit i := by
  rw [shl_val (Nat.le_of_lt hi)]
  have hp := pow_le (Nat.le_of_lt hi)
  have e : bitop .and .i64 (x : Int) ((2 ^ i : Nat) : Int) = IntKind.i64.wrap ((x &&& 2 ^ i : Nat) : Int) := by
    unfold bitop
    simp only
    congr 1
    rw [BitVec.toNat_and, BitVec.toNat_ofInt, BitVec.toNat_ofInt]
    have h1 : ((x : Int) % ((2 ^ IntKind.i64.bits : Nat) : Int)).toNat = x := by
      have : (2 ^ IntKind.i64.bits : Nat) = 18446744073709551616 := rfl
      rw [this]; omega
    have h2 : (((2 ^ i : Nat) : Int) % ((2 ^ IntKind.i64.bits : Nat) : Int)).toNat = 2 ^ i := by
      have : (2 ^ IntKind.i64.bits : Nat) = 18446744073709551616 := rfl
      rw [this, Int.emod_eq_of_lt (Int.natCast_nonneg _) (by omega)]; rfl
    rw [h1, h2]
  have h3 : x &&& 2 ^ i ≤ 4096 := Nat.le_trans Nat.and_le_left (by omega)
  rw [e, wrap_small h3]
  cases hb : x.testBit i with
  | false =>
    have : x &&& 2 ^ i = 0 := Nat.eq_of_testBit_eq fun j => by
      rw [Nat.testBit_and, Nat.testBit_two_pow, Nat.zero_testBit]
      by_cases hj : i = j
      · subst hj; simp [hb]
      · simp [hj]
    simp [this]
  | true =>
    have : x &&& 2 ^ i ≠ 0 := fun h0 => by
      have := congrArg (fun z => z.testBit i) h0
      simp only [Nat.testBit_and, Nat.testBit_two_pow_self, hb, Nat.zero_testBit] at this
      cases this
    have h2 : ¬ ((x &&& 2 ^ i : Nat) : Int) = 0 := by omega
    rw [decide_eq_false h2]; rfl
end Go.Proofs.Ytkndekaioeifdaa
