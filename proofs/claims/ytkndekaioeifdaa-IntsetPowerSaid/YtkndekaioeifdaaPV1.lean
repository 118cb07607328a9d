/- The sets chapter, part 1: functions seen before. -/
import Derived.Test.YtkndekaioeifdaaPC1
import Derived.Test.YtkndekaioeifdaaEngV
set_option linter.unusedSimpArgs false
set_option linter.unusedVariables false
set_option maxRecDepth 100000
namespace Go.Proofs.Ytkndekaioeifdaa
open Go Go.Eng

def hasI (l : List Int) (x : Int) : Bool := l.any fun y => decide (y = x)
@[reducible] def ct46 : CT := { ps := [.sl (.int .i64), .int .i64], pre := fun d => d.1.length ≤ 4611686018427387904, res := fun d => ([], vB (hasI d.1 d.2.1)) }
@[reducible] def cl21 : List (Nat × CT) := []
@[reducible] def ann21 (l : List Int) (x : Int) : Nat → Option (St → Ann) := fun k => match k with
  | 2 => some fun _ => .inv { α := Nat, slots := fun k => [(5, .c (.v (.int .i64 k)))], res := fun _ => [], inv := fun k => k ≤ l.length ∧ ∀ j, j < k → ∀ b, l[j]? = some b → ¬ (b = x), meas := fun k => l.length - k }
  | _ => none
set_option maxRecDepth 100000 in
theorem f21_vc (l : List Int) (x : Int) (hpre : ct46.pre (l, x, ())) :
    (∃ x_1, (x_1 ≤ l.length ∧ ∀ (j : Nat), j < x_1 → ∀ (b : Int), l[j]? = some b → ¬b = x) ∧ (SV.c (SC.v (Value.int IntKind.i64 (0 : Int))) = SV.c (SC.v (Value.int IntKind.i64 (↑x_1 : Int))) ∧ True) ∧ ([] : List (Go.Eng.Gd × Go.Eng.Res)) = []) ∧ ∀ (x_1 : Nat), (x_1 ≤ l.length ∧ ∀ (j : Nat), j < x_1 → ∀ (b : Int), l[j]? = some b → ¬b = x) → br (decide ((↑x_1 : Int) < (↑l.length : Int))) (((0 : Int) ≤ (↑x_1 : Int) ∧ (↑x_1 : Int) < (↑l.length : Int)) ∧ ∀ (d : Int), l[(↑x_1 : Int).toNat]? = some d → br (decide (d = x)) (([] : List Go.Eng.Res) = [] ∧ Ent.one (SV.c (SC.v (Value.bool (hasI l x)))) = Ent.one (SV.c (SC.v (Value.bool true)))) (InR IntKind.i64 ((↑x_1 : Int) + (1 : Int)) ∧ ∃ x', (x' ≤ l.length ∧ ∀ (j : Nat), j < x' → ∀ (b : Int), l[j]? = some b → ¬b = x) ∧ (SV.c (SC.v (Value.int IntKind.i64 ((↑x_1 : Int) + (1 : Int)))) = SV.c (SC.v (Value.int IntKind.i64 (↑x' : Int))) ∧ True) ∧ ([] : List (Go.Eng.Gd × Go.Eng.Res)) = [] ∧ l.length - x' < l.length - x_1)) (([] : List Go.Eng.Res) = [] ∧ Ent.one (SV.c (SC.v (Value.bool (hasI l x)))) = Ent.one (SV.c (SC.v (Value.bool false)))) := by
  have hp : l.length ≤ 4611686018427387904 := hpre
  refine ⟨⟨0, ⟨by omega, fun j hj => by omega⟩, ⟨rfl, trivial⟩, rfl⟩, fun k hk => br_iff.2 ⟨fun h => ?_, fun h => ?_⟩⟩
  · simp only [decide_eq_true_eq] at h
    refine ⟨by omega, fun d hd => br_iff.2 ⟨fun h2 => ?_, fun h2 => ?_⟩⟩
    · simp only [decide_eq_true_eq] at h2
      have hm : hasI l x = true := List.any_eq_true.2 ⟨d, List.mem_of_getElem? hd, by simpa using h2⟩
      rw [hm]; exact ⟨rfl, rfl⟩
    · simp only [decide_eq_false_iff_not] at h2
      have hd : l[k]? = some d := by simpa using hd
      refine ⟨InR_i64.2 (by omega), k + 1, ⟨by omega, fun j hj b hb => ?_⟩, ⟨by simp, trivial⟩, rfl, by omega⟩
      by_cases hjx : j = k
      · subst hjx
        rw [hd] at hb; cases hb; exact h2
      · exact hk.2 j (by omega) b hb
  · simp only [decide_eq_false_iff_not] at h
    have hm : hasI l x = false := by
      unfold hasI
      rw [List.any_eq_false]
      intro b hb
      obtain ⟨j, hj⟩ := List.getElem?_of_mem hb
      have := (List.getElem?_eq_some_iff.1 hj).1
      simpa using hk.2 j (by omega) b hj
    rw [hm]; exact ⟨rfl, rfl⟩
set_option maxRecDepth 100000 in
theorem f21_met : Go.Eng.Met Try.prog cx0.gd 21 ct46 :=
  met_of (cx := cx0) (n := 18) (cl := cl21) (by kernel_rfl) tis_ok trivial Try.func21 (by kernel_rfl) (by kernel_rfl) rfl (by kernel_rfl) (by kernel_rfl) fun d hd => by
    obtain ⟨l, x, ⟨⟩⟩ := d
    exact ⟨ann21 l x, cast (by kernel_rfl) (f21_vc l x hd)⟩
@[reducible] def ct13 : CT := { ps := [.sl (.int .i64), .sl (.int .i64)], pre := fun d => d.1.length ≤ 4611686018427387904, res := fun d => ([], vB (decide (d.1 = d.2.1))) }
@[reducible] def cl17 : List (Nat × CT) := []
@[reducible] def ann17 (l : List Int) (m : List Int) : Nat → Option (St → Ann) := fun k => match k with
  | 4 => some fun _ => .inv { α := Nat, slots := fun k => [(5, .c (.v (.int .i64 k)))], res := fun _ => [], inv := fun k => k ≤ l.length ∧ l.length = m.length ∧ ∀ j, j < k → l[j]? = m[j]?, meas := fun k => l.length - k }
  | _ => none
set_option maxRecDepth 100000 in
theorem f17_vc (l : List Int) (m : List Int) (hpre : ct13.pre (l, m, ())) :
    br (!decide ((↑l.length : Int) = (↑m.length : Int))) (([] : List Go.Eng.Res) = [] ∧ Ent.one (SV.c (SC.v (Value.bool (decide (l = m))))) = Ent.one (SV.c (SC.v (Value.bool false)))) ((∃ x, (x ≤ l.length ∧ l.length = m.length ∧ ∀ (j : Nat), j < x → l[j]? = m[j]?) ∧ (SV.c (SC.v (Value.int IntKind.i64 (0 : Int))) = SV.c (SC.v (Value.int IntKind.i64 (↑x : Int))) ∧ True) ∧ ([] : List (Go.Eng.Gd × Go.Eng.Res)) = []) ∧ ∀ (x : Nat), (x ≤ l.length ∧ l.length = m.length ∧ ∀ (j : Nat), j < x → l[j]? = m[j]?) → br (decide ((↑x : Int) < (↑l.length : Int))) (((0 : Int) ≤ (↑x : Int) ∧ (↑x : Int) < (↑l.length : Int)) ∧ ∀ (d : Int), l[(↑x : Int).toNat]? = some d → ((0 : Int) ≤ (↑x : Int) ∧ (↑x : Int) < (↑m.length : Int)) ∧ ∀ (d_1 : Int), m[(↑x : Int).toNat]? = some d_1 → br (!decide (d = d_1)) (([] : List Go.Eng.Res) = [] ∧ Ent.one (SV.c (SC.v (Value.bool (decide (l = m))))) = Ent.one (SV.c (SC.v (Value.bool false)))) (InR IntKind.i64 ((↑x : Int) + (1 : Int)) ∧ ∃ x', (x' ≤ l.length ∧ l.length = m.length ∧ ∀ (j : Nat), j < x' → l[j]? = m[j]?) ∧ (SV.c (SC.v (Value.int IntKind.i64 ((↑x : Int) + (1 : Int)))) = SV.c (SC.v (Value.int IntKind.i64 (↑x' : Int))) ∧ True) ∧ ([] : List (Go.Eng.Gd × Go.Eng.Res)) = [] ∧ l.length - x' < l.length - x)) (([] : List Go.Eng.Res) = [] ∧ Ent.one (SV.c (SC.v (Value.bool (decide (l = m))))) = Ent.one (SV.c (SC.v (Value.bool true))))) := by
  have hp : l.length ≤ 4611686018427387904 := hpre
  refine br_iff.2 ⟨fun h => ?_, fun h => ?_⟩
  · have hn : l ≠ m := by rintro rfl; simp at h
    rw [show decide (l = m) = false from decide_eq_false hn]; exact ⟨rfl, rfl⟩
  · have hl : l.length = m.length := by simp at h; omega
    refine ⟨⟨0, ⟨by omega, hl, fun j hj => by omega⟩, ⟨rfl, trivial⟩, rfl⟩, fun k hk => br_iff.2 ⟨fun h => ?_, fun h => ?_⟩⟩
    · simp only [decide_eq_true_eq] at h
      refine ⟨by omega, fun d hd => ⟨by omega, fun e he => br_iff.2 ⟨fun h2 => ?_, fun h2 => ?_⟩⟩⟩
      · have hd : l[k]? = some d := by simpa using hd
        have he : m[k]? = some e := by simpa using he
        have hn : l ≠ m := by rintro rfl; rw [hd] at he; cases he; simp at h2
        rw [show decide (l = m) = false from decide_eq_false hn]; exact ⟨rfl, rfl⟩
      · have hd : l[k]? = some d := by simpa using hd
        have he : m[k]? = some e := by simpa using he
        have hde : d = e := by simpa using h2
        refine ⟨InR_i64.2 (by omega), k + 1, ⟨by omega, hl, fun j hj => ?_⟩, ⟨by simp, trivial⟩, rfl, by omega⟩
        by_cases hjx : j = k
        · subst hjx; rw [hd, he, hde]
        · exact hk.2.2 j (by omega)
    · simp only [decide_eq_false_iff_not] at h
      have hlm : l = m := List.ext_getElem? fun j => by
        by_cases hj : j < k
        · exact hk.2.2 j hj
        · rw [List.getElem?_eq_none (by omega), List.getElem?_eq_none (by omega)]
      rw [show decide (l = m) = true from decide_eq_true hlm]; exact ⟨rfl, rfl⟩
set_option maxRecDepth 100000 in
theorem f17_met : Go.Eng.Met Try.prog cx0.gd 17 ct13 :=
  met_of (cx := cx0) (n := 26) (cl := cl17) (by kernel_rfl) tis_ok trivial Try.func17 (by kernel_rfl) (by kernel_rfl) rfl (by kernel_rfl) (by kernel_rfl) fun d hd => by
    obtain ⟨l, m, ⟨⟩⟩ := d
    exact ⟨ann17 l m, cast (by kernel_rfl) (f17_vc l m hd)⟩
theorem tw_len {p : Int → Bool} : ∀ {l : List Int} {k : Nat}, k ≤ l.length → (∀ j, j < k → ∀ b, l[j]? = some b → p b = true) → (∀ b, l[k]? = some b → p b = false) → (l.takeWhile p).length = k
  | [], k, h, _, _ => by simp at h; simp [h]
  | a :: l, 0, _, _, h2 => by simp [List.takeWhile_cons, h2 a rfl]
  | a :: l, k + 1, h, h1, h2 => by
    have h0 := h1 0 (by omega) a rfl
    simp only [List.takeWhile_cons, h0, if_true, List.length_cons]
    rw [tw_len (by simpa using h) (fun j hj b hb => h1 (j + 1) (by omega) b hb) (fun b hb => h2 b hb)]
def posI (l : List Int) (x : Int) : Nat := (l.takeWhile fun y => decide (y < x)).length
@[reducible] def ct47 : CT := { ps := [.sl (.int .i64), .int .i64], pre := fun d => d.1.length ≤ 1000000, res := fun d => ([.row 3 (.int .i64) (d.1.take (posI d.1 d.2.1) ++ [d.2.1] ++ d.1.drop (posI d.1 d.2.1))], .one (.c (.row 0))) }
@[reducible] def cl40 : List (Nat × CT) := []
@[reducible] def ann40 (l : List Int) (x : Int) : Nat → Option (St → Ann) := fun k => match k with
  | 2 => some fun _ => .inv { α := Nat, slots := fun k => [(5, .c (.v (.int .i64 k)))], res := fun _ => [], inv := fun k => k ≤ l.length ∧ ∀ j, j < k → ∀ b, l[j]? = some b → b < x, meas := fun k => l.length - k }
  | _ => none
set_option maxRecDepth 100000 in
theorem f40_vc (l : List Int) (x : Int) (hpre : ct47.pre (l, x, ())) :
    (∃ x_1, (x_1 ≤ l.length ∧ ∀ (j : Nat), j < x_1 → ∀ (b : Int), l[j]? = some b → b < x) ∧ (SV.c (SC.v (Value.int IntKind.i64 (0 : Int))) = SV.c (SC.v (Value.int IntKind.i64 (↑x_1 : Int))) ∧ True) ∧ ([] : List (Go.Eng.Gd × Go.Eng.Res)) = []) ∧ ∀ (x_1 : Nat), (x_1 ≤ l.length ∧ ∀ (j : Nat), j < x_1 → ∀ (b : Int), l[j]? = some b → b < x) → (decide ((↑x_1 : Int) < (↑l.length : Int)) = true → (0 : Int) ≤ (↑x_1 : Int) ∧ (↑x_1 : Int) < (↑l.length : Int)) ∧ ∀ (d : Int), (decide ((↑x_1 : Int) < (↑l.length : Int)) = true → l[(↑x_1 : Int).toNat]? = some d) → br (decide ((↑x_1 : Int) < (↑l.length : Int)) && decide (d < x)) (InR IntKind.i64 ((↑x_1 : Int) + (1 : Int)) ∧ ∃ x', (x' ≤ l.length ∧ ∀ (j : Nat), j < x' → ∀ (b : Int), l[j]? = some b → b < x) ∧ (SV.c (SC.v (Value.int IntKind.i64 ((↑x_1 : Int) + (1 : Int)))) = SV.c (SC.v (Value.int IntKind.i64 (↑x' : Int))) ∧ True) ∧ ([] : List (Go.Eng.Gd × Go.Eng.Res)) = [] ∧ l.length - x' < l.length - x_1) (((0 : Int) ≤ (0 : Int) ∧ (0 : Int) ≤ (↑x_1 : Int) ∧ (↑x_1 : Int) ≤ (↑l.length : Int)) ∧ InA ((0 : Nat) + List.length (List.drop (0 : Nat) (List.take (↑x_1 : Int).toNat l))) (8 : Nat) ∧ InA (List.length (([] ++ List.drop (0 : Nat) (List.take (↑x_1 : Int).toNat l))) + List.length ([x])) (8 : Nat) ∧ ((0 : Int) ≤ (↑x_1 : Int) ∧ (↑x_1 : Int) ≤ (↑l.length : Int) ∧ (↑l.length : Int) ≤ (↑l.length : Int)) ∧ InA (List.length ((([] ++ List.drop (0 : Nat) (List.take (↑x_1 : Int).toNat l)) ++ [x])) + List.length (List.drop (↑x_1 : Int).toNat (List.take (↑l.length : Int).toNat l))) (8 : Nat) ∧ [Res.row (3 : TypeId) (Sh.int IntKind.i64) (List.take (posI l x) l ++ [x] ++ List.drop (posI l x) l)] = [Res.row (3 : TypeId) (Sh.int IntKind.i64) ((([] ++ List.drop (0 : Nat) (List.take (↑x_1 : Int).toNat l)) ++ [x]) ++ List.drop (↑x_1 : Int).toNat (List.take (↑l.length : Int).toNat l))] ∧ Ent.one (SV.c (SC.row (0 : Nat))) = Ent.one (SV.c (SC.row (0 : Nat)))) := by
  have hp : l.length ≤ 1000000 := hpre
  refine ⟨⟨0, ⟨by omega, fun j hj => by omega⟩, ⟨rfl, trivial⟩, rfl⟩, fun k hk => ⟨fun h => by simp only [decide_eq_true_eq] at h; omega, fun d hd => br_iff.2 ⟨fun h => ?_, fun h => ?_⟩⟩⟩
  · simp only [Bool.and_eq_true, decide_eq_true_eq] at h
    have hd : l[k]? = some d := by simpa using hd (by simpa using h.1)
    refine ⟨InR_i64.2 (by omega), k + 1, ⟨by omega, fun j hj b hb => ?_⟩, ⟨by simp, trivial⟩, rfl, by omega⟩
    by_cases hjx : j = k
    · subst hjx
      rw [hd] at hb; cases hb; exact h.2
    · exact hk.2 j (by omega) b hb
  · have hpos : posI l x = k := by
      refine tw_len hk.1 (fun j hj b hb => by simpa using hk.2 j hj b hb) fun b hb => ?_
      have hkl := (List.getElem?_eq_some_iff.1 hb).1
      have hd : l[k]? = some d := by simpa using hd (by simpa using hkl)
      rw [hd] at hb; cases hb
      simp only [Bool.and_eq_false_iff, decide_eq_false_iff_not] at h
      rcases h with h | h
      · omega
      · simpa using h
    have e1 : ((k : Int)).toNat = k := by simp
    have e2 : ((l.length : Int)).toNat = l.length := by simp
    rw [hpos]
    simp only [e1, e2, List.drop_zero, List.take_length, List.nil_append, InA_iff, List.length_append, List.length_take, List.length_drop, List.length_cons, List.length_nil]
    refine ⟨by omega, by omega, by omega, by omega, by omega, ?_⟩
    simp
set_option maxRecDepth 100000 in
theorem f40_met : Go.Eng.Met Try.prog cx0.gd 40 ct47 :=
  met_of (cx := cx0) (n := 36) (cl := cl40) (by kernel_rfl) tis_ok trivial Try.func40 (by kernel_rfl) (by kernel_rfl) rfl (by kernel_rfl) (by kernel_rfl) fun d hd => by
    obtain ⟨l, x, ⟨⟩⟩ := d
    exact ⟨ann40 l x, cast (by kernel_rfl) (f40_vc l x hd)⟩
def insI (l : List Int) (x : Int) : List Int := l.take (posI l x) ++ [x] ++ l.drop (posI l x)
def makeI (l : List Int) : List Int := l.foldl (fun o x => if hasI o x then o else insI o x) []
theorem insI_len (l : List Int) (x : Int) : (insI l x).length = l.length + 1 := by
  simp only [insI, List.length_append, List.length_take, List.length_drop, List.length_cons, List.length_nil]; omega
theorem makeI_len (l : List Int) : (makeI l).length ≤ l.length := by
  have : ∀ (l o : List Int), (l.foldl (fun o x => if hasI o x then o else insI o x) o).length ≤ o.length + l.length := by
    intro l
    induction l with
    | nil => intro o; simp
    | cons x l ih =>
      intro o
      simp only [List.foldl_cons, List.length_cons]
      refine Nat.le_trans (ih _) ?_
      split
      · omega
      · rw [insI_len]; omega
  have h := this l []
  rw [List.length_nil, Nat.zero_add] at h
  exact h
theorem makeI_take {l : List Int} {k : Nat} {d : Int} (hd : l[k]? = some d) : makeI (l.take (k + 1)) = if hasI (makeI (l.take k)) d then makeI (l.take k) else insI (makeI (l.take k)) d := by
  rw [List.take_add_one, hd]
  unfold makeI
  rw [Option.toList_some, List.foldl_append]
  rfl
@[reducible] def ct41 : CT := { ps := [.sl (.int .i64)], pre := fun d => d.1.length ≤ 1000000, res := fun d => ([.row 3 (.int .i64) (makeI d.1)], .one (.c (.row 0))) }
@[reducible] def cl18 : List (Nat × CT) := [(21, ct46), (40, ct47)]
@[reducible] def ann18 (l : List Int) : Nat → Option (St → Ann) := fun k => match k with
  | 3 => some fun _ => .inv { α := Nat, slots := fun k => [(4, .c (.v (.int .i64 k))), (3, .c (.row 0))], res := fun k => [(0, .row 3 (.int .i64) (makeI (l.take k)))], inv := fun k => k ≤ l.length, meas := fun k => l.length - k, ren := [(0, 1)], drop := [5] }
  | _ => none
set_option maxRecDepth 100000 in
theorem f18_vc (l : List Int) (hpre : ct41.pre (l, ())) :
    (∃ x, x ≤ l.length ∧ (SV.c (SC.v (Value.int IntKind.i64 (0 : Int))) = SV.c (SC.v (Value.int IntKind.i64 (↑x : Int))) ∧ SV.c (SC.row (0 : Nat)) = SV.c (SC.row (0 : Nat)) ∧ True) ∧ [(([] : Go.Eng.Gd), Res.row (3 : TypeId) (Sh.int IntKind.i64) [])] = [(([] : Go.Eng.Gd), Res.row (3 : TypeId) (Sh.int IntKind.i64) (makeI (List.take x l)))]) ∧ ∀ (x : Nat), x ≤ l.length → br (decide ((↑x : Int) < (↑l.length : Int))) (((0 : Int) ≤ (↑x : Int) ∧ (↑x : Int) < (↑l.length : Int)) ∧ ∀ (d : Int), l[(↑x : Int).toNat]? = some d → (makeI (List.take x l)).length ≤ (4611686018427387904 : Nat) ∧ br (!hasI (makeI (List.take x l)) d) (((0 : Int) ≤ (↑x : Int) ∧ (↑x : Int) < (↑l.length : Int)) ∧ ∀ (d : Int), l[(↑x : Int).toNat]? = some d → (makeI (List.take x l)).length ≤ (1000000 : Nat) ∧ InR IntKind.i64 ((↑x : Int) + (1 : Int)) ∧ ∃ x', x' ≤ l.length ∧ (SV.c (SC.v (Value.int IntKind.i64 ((↑x : Int) + (1 : Int)))) = SV.c (SC.v (Value.int IntKind.i64 (↑x' : Int))) ∧ SV.c (SC.row (0 : Nat)) = SV.c (SC.row (0 : Nat)) ∧ True) ∧ [(([] : Go.Eng.Gd), Res.row (3 : TypeId) (Sh.int IntKind.i64) (List.take (posI (makeI (List.take x l)) d) (makeI (List.take x l)) ++ [d] ++ List.drop (posI (makeI (List.take x l)) d) (makeI (List.take x l))))] = [(([] : Go.Eng.Gd), Res.row (3 : TypeId) (Sh.int IntKind.i64) (makeI (List.take x' l)))] ∧ l.length - x' < l.length - x) (InR IntKind.i64 ((↑x : Int) + (1 : Int)) ∧ ∃ x', x' ≤ l.length ∧ (SV.c (SC.v (Value.int IntKind.i64 ((↑x : Int) + (1 : Int)))) = SV.c (SC.v (Value.int IntKind.i64 (↑x' : Int))) ∧ SV.c (SC.row (0 : Nat)) = SV.c (SC.row (0 : Nat)) ∧ True) ∧ [(([] : Go.Eng.Gd), Res.row (3 : TypeId) (Sh.int IntKind.i64) (makeI (List.take x l)))] = [(([] : Go.Eng.Gd), Res.row (3 : TypeId) (Sh.int IntKind.i64) (makeI (List.take x' l)))] ∧ l.length - x' < l.length - x)) ([Res.row (3 : TypeId) (Sh.int IntKind.i64) (makeI l)] = [Res.row (3 : TypeId) (Sh.int IntKind.i64) (makeI (List.take x l))] ∧ Ent.one (SV.c (SC.row (0 : Nat))) = Ent.one (SV.c (SC.row (0 : Nat)))) := by
  have hp : l.length ≤ 1000000 := hpre
  have hlen : ∀ k, (makeI (l.take k)).length ≤ l.length := fun k => Nat.le_trans (makeI_len _) (by simp; omega)
  refine ⟨⟨0, by omega, ⟨rfl, rfl, trivial⟩, rfl⟩, fun k hk => br_iff.2 ⟨fun h => ?_, fun h => ?_⟩⟩
  · simp only [decide_eq_true_eq] at h
    refine ⟨by omega, fun d hd => ⟨by have := hlen k; omega, br_iff.2 ⟨fun h2 => ⟨by omega, fun e he => ⟨by have := hlen k; omega, InR_i64.2 (by omega), k + 1, by omega, ⟨by simp, rfl, trivial⟩, ?_, by omega⟩⟩,
      fun h2 => ⟨InR_i64.2 (by omega), k + 1, by omega, ⟨by simp, rfl, trivial⟩, ?_, by omega⟩⟩⟩⟩
    · have hd : l[k]? = some d := by simpa using hd
      have he : l[k]? = some e := by simpa using he
      rw [hd] at he; cases he
      have h2 : hasI (makeI (l.take k)) d = false := by simpa using h2
      rw [makeI_take hd, h2]; rfl
    · have hd : l[k]? = some d := by simpa using hd
      have h2 : hasI (makeI (l.take k)) d = true := by simpa using h2
      rw [makeI_take hd, h2]; rfl
  · simp only [decide_eq_false_iff_not] at h
    rw [List.take_of_length_le (by omega)]; exact ⟨rfl, rfl⟩
set_option maxRecDepth 100000 in
theorem f18_met : Go.Eng.Met Try.prog cx0.gd 18 ct41 :=
  met_of (cx := cx0) (n := 26) (cl := cl18) (by kernel_rfl) tis_ok ⟨f21_met, f40_met, trivial⟩ Try.func18 (by kernel_rfl) (by kernel_rfl) rfl (by kernel_rfl) (by kernel_rfl) fun d hd => by
    obtain ⟨l, ⟨⟩⟩ := d
    exact ⟨ann18 l, cast (by kernel_rfl) (f18_vc l hd)⟩
def Mt (l : List Int) : Prop := l = []
theorem Mt.nil : Mt [] := rfl
@[reducible] def ct58z : CT := { ps := [.int .u64], pre := fun d => d.1 = 0, res := fun d => ([], .one (.c (.v (.int .i64 0)))) }
@[reducible] def cl62 : List (Nat × CT) := []
@[reducible] def ann62  : Nat → Option (St → Ann) := fun _ => none
set_option maxRecDepth 100000 in
theorem f62_vc  :
    ((0 : Int) ≤ (0 : Int) ∧ (0 : Int) < (256 : Int)) ∧ ∀ (u : UInt8), { data := (([(0 : UInt8), (1 : UInt8), (2 : UInt8), (2 : UInt8), (3 : UInt8), (3 : UInt8), (3 : UInt8), (3 : UInt8), (4 : UInt8), (4 : UInt8), (4 : UInt8), (4 : UInt8), (4 : UInt8), (4 : UInt8), (4 : UInt8), (4 : UInt8), (5 : UInt8), (5 : UInt8), (5 : UInt8), (5 : UInt8), (5 : UInt8), (5 : UInt8), (5 : UInt8), (5 : UInt8), (5 : UInt8), (5 : UInt8), (5 : UInt8), (5 : UInt8), (5 : UInt8), (5 : UInt8), (5 : UInt8), (5 : UInt8), (6 : UInt8), (6 : UInt8), (6 : UInt8), (6 : UInt8), (6 : UInt8), (6 : UInt8), (6 : UInt8), (6 : UInt8), (6 : UInt8), (6 : UInt8), (6 : UInt8), (6 : UInt8), (6 : UInt8), (6 : UInt8), (6 : UInt8), (6 : UInt8), (6 : UInt8), (6 : UInt8), (6 : UInt8), (6 : UInt8), (6 : UInt8), (6 : UInt8), (6 : UInt8), (6 : UInt8), (6 : UInt8), (6 : UInt8), (6 : UInt8), (6 : UInt8), (6 : UInt8), (6 : UInt8), (6 : UInt8), (6 : UInt8)].append [(7 : UInt8), (7 : UInt8), (7 : UInt8), (7 : UInt8), (7 : UInt8), (7 : UInt8), (7 : UInt8), (7 : UInt8), (7 : UInt8), (7 : UInt8), (7 : UInt8), (7 : UInt8), (7 : UInt8), (7 : UInt8), (7 : UInt8), (7 : UInt8), (7 : UInt8), (7 : UInt8), (7 : UInt8), (7 : UInt8), (7 : UInt8), (7 : UInt8), (7 : UInt8), (7 : UInt8), (7 : UInt8), (7 : UInt8), (7 : UInt8), (7 : UInt8), (7 : UInt8), (7 : UInt8), (7 : UInt8), (7 : UInt8), (7 : UInt8), (7 : UInt8), (7 : UInt8), (7 : UInt8), (7 : UInt8), (7 : UInt8), (7 : UInt8), (7 : UInt8), (7 : UInt8), (7 : UInt8), (7 : UInt8), (7 : UInt8), (7 : UInt8), (7 : UInt8), (7 : UInt8), (7 : UInt8), (7 : UInt8), (7 : UInt8), (7 : UInt8), (7 : UInt8), (7 : UInt8), (7 : UInt8), (7 : UInt8), (7 : UInt8), (7 : UInt8), (7 : UInt8), (7 : UInt8), (7 : UInt8), (7 : UInt8), (7 : UInt8), (7 : UInt8), (7 : UInt8)]).append ([(8 : UInt8), (8 : UInt8), (8 : UInt8), (8 : UInt8), (8 : UInt8), (8 : UInt8), (8 : UInt8), (8 : UInt8), (8 : UInt8), (8 : UInt8), (8 : UInt8), (8 : UInt8), (8 : UInt8), (8 : UInt8), (8 : UInt8), (8 : UInt8), (8 : UInt8), (8 : UInt8), (8 : UInt8), (8 : UInt8), (8 : UInt8), (8 : UInt8), (8 : UInt8), (8 : UInt8), (8 : UInt8), (8 : UInt8), (8 : UInt8), (8 : UInt8), (8 : UInt8), (8 : UInt8), (8 : UInt8), (8 : UInt8), (8 : UInt8), (8 : UInt8), (8 : UInt8), (8 : UInt8), (8 : UInt8), (8 : UInt8), (8 : UInt8), (8 : UInt8), (8 : UInt8), (8 : UInt8), (8 : UInt8), (8 : UInt8), (8 : UInt8), (8 : UInt8), (8 : UInt8), (8 : UInt8), (8 : UInt8), (8 : UInt8), (8 : UInt8), (8 : UInt8), (8 : UInt8), (8 : UInt8), (8 : UInt8), (8 : UInt8), (8 : UInt8), (8 : UInt8), (8 : UInt8), (8 : UInt8), (8 : UInt8), (8 : UInt8), (8 : UInt8), (8 : UInt8)].append [(8 : UInt8), (8 : UInt8), (8 : UInt8), (8 : UInt8), (8 : UInt8), (8 : UInt8), (8 : UInt8), (8 : UInt8), (8 : UInt8), (8 : UInt8), (8 : UInt8), (8 : UInt8), (8 : UInt8), (8 : UInt8), (8 : UInt8), (8 : UInt8), (8 : UInt8), (8 : UInt8), (8 : UInt8), (8 : UInt8), (8 : UInt8), (8 : UInt8), (8 : UInt8), (8 : UInt8), (8 : UInt8), (8 : UInt8), (8 : UInt8), (8 : UInt8), (8 : UInt8), (8 : UInt8), (8 : UInt8), (8 : UInt8), (8 : UInt8), (8 : UInt8), (8 : UInt8), (8 : UInt8), (8 : UInt8), (8 : UInt8), (8 : UInt8), (8 : UInt8), (8 : UInt8), (8 : UInt8), (8 : UInt8), (8 : UInt8), (8 : UInt8), (8 : UInt8), (8 : UInt8), (8 : UInt8), (8 : UInt8), (8 : UInt8), (8 : UInt8), (8 : UInt8), (8 : UInt8), (8 : UInt8), (8 : UInt8), (8 : UInt8), (8 : UInt8), (8 : UInt8), (8 : UInt8), (8 : UInt8), (8 : UInt8), (8 : UInt8), (8 : UInt8), (8 : UInt8)])).toArray : ByteArray }[(0 : Nat)]? = some u → InR IntKind.i64 (↑u.toNat : Int) ∧ InR IntKind.i64 ((0 : Int) + (↑u.toNat : Int)) ∧ ([] : List Go.Eng.Res) = [] ∧ Ent.one (SV.c (SC.v (Value.int IntKind.i64 (0 : Int)))) = Ent.one (SV.c (SC.v (Value.int IntKind.i64 ((0 : Int) + (↑u.toNat : Int))))) := by
  refine ⟨by omega, fun u hu => ?_⟩
  have hu : some (0 : UInt8) = some u := hu
  cases hu
  exact ⟨InR_i64.2 (by decide), InR_i64.2 (by decide), rfl, rfl⟩
set_option maxRecDepth 100000 in
theorem f62_met : Go.Eng.Met Try.prog cx0.gd 62 ct58z :=
  met_of (cx := cx0) (n := 25) (cl := cl62) (by kernel_rfl) tis_ok trivial Try.func62 (by kernel_rfl) (by kernel_rfl) rfl (by kernel_rfl) (by kernel_rfl) fun d hd => by
    obtain ⟨x, ⟨⟩⟩ := d
    simp only at hd
    subst hd
    exact ⟨ann62 , cast (by kernel_rfl) (f62_vc )⟩
@[reducible] def ct45z : CT := { ps := [.int .u64], pre := fun d => d.1 = 0, res := fun d => ([], .one (.c (.v (.int .i64 0)))) }
@[reducible] def cl48 : List (Nat × CT) := [(62, ct58z)]
@[reducible] def ann48  : Nat → Option (St → Ann) := fun _ => none
set_option maxRecDepth 100000 in
theorem f48_vc  :
    (0 : (Sh.int IntKind.u64).den) = (0 : (Sh.int IntKind.u64).den) ∧ ([] : List Go.Eng.Res) = [] ∧ Ent.one (SV.c (SC.v (Value.int IntKind.i64 (0 : Int)))) = Ent.one (SV.c (SC.v (Value.int IntKind.i64 (0 : Int)))) := by
  exact ⟨rfl, rfl, rfl⟩
set_option maxRecDepth 100000 in
theorem f48_met : Go.Eng.Met Try.prog cx0.gd 48 ct45z :=
  met_of (cx := cx0) (n := 8) (cl := cl48) (by kernel_rfl) tis_ok ⟨f62_met, trivial⟩ Try.func48 (by kernel_rfl) (by kernel_rfl) rfl (by kernel_rfl) (by kernel_rfl) fun d hd => by
    obtain ⟨x, ⟨⟩⟩ := d
    simp only at hd
    subst hd
    exact ⟨ann48 , cast (by kernel_rfl) (f48_vc )⟩
@[reducible] def ct48z : CT := { ps := [.sl (.int .i64), .int .i64, .int .i64], pre := fun d => Mt d.1 ∧ d.2.1 = 0 ∧ d.2.2.1 = 0, res := fun d => ([], .tup []) }
@[reducible] def cl63 : List (Nat × CT) := []
@[reducible] def ann63  : Nat → Option (St → Ann) := fun _ => some fun _ => .unroll 1
set_option maxRecDepth 100000 in
theorem f63_vc  :
    InR IntKind.i64 (1 : Int) ∧ ([] : List Go.Eng.Res) = [] ∧ Ent.tup [] = Ent.tup [] := by
  exact ⟨InR_i64.2 (by omega), rfl, rfl⟩
set_option maxRecDepth 100000 in
theorem f63_met : Go.Eng.Met Try.prog cx0.gd 63 ct48z :=
  met_of (cx := cx0) (n := 49) (cl := cl63) (by kernel_rfl) tis_ok trivial Try.func63 (by kernel_rfl) (by kernel_rfl) rfl (by kernel_rfl) (by kernel_rfl) fun d hd => by
    obtain ⟨l, a, b, ⟨⟩⟩ := d
    obtain ⟨h1, h2, h3⟩ := hd
    simp only at h1 h2 h3
    have h1 : l = [] := h1
    subst h1; subst h2; subst h3
    exact ⟨ann63 , cast (by kernel_rfl) (f63_vc )⟩
@[reducible] def ct44z : CT := { ps := [.sl (.int .i64), .int .i64, .int .i64, .int .i64], pre := fun d => Mt d.1 ∧ d.2.1 = 0 ∧ d.2.2.1 = 0, res := fun d => ([], .tup []) }
@[reducible] def cl52 : List (Nat × CT) := [(63, ct48z)]
@[reducible] def ann52 (m : Int) : Nat → Option (St → Ann) := fun _ => some fun _ => .unroll 1
set_option maxRecDepth 100000 in
theorem f52_vc (m : Int) :
    InR IntKind.i64 (0 : Int) ∧ (Mt [] ∧ (0 : (Sh.int IntKind.i64).den) = (0 : (Sh.int IntKind.i64).den) ∧ (0 : (Sh.int IntKind.i64).den) = (0 : (Sh.int IntKind.i64).den)) ∧ ([] : List Go.Eng.Res) = [] ∧ Ent.tup [] = Ent.tup [] := by
  exact ⟨InR_i64.2 (by omega), ⟨rfl, rfl, rfl⟩, rfl, rfl⟩
set_option maxRecDepth 100000 in
theorem f52_met : Go.Eng.Met Try.prog cx0.gd 52 ct44z :=
  met_of (cx := cx0) (n := 134) (cl := cl52) (by kernel_rfl) tis_ok ⟨f63_met, trivial⟩ Try.func52 (by kernel_rfl) (by kernel_rfl) rfl (by kernel_rfl) (by kernel_rfl) fun d hd => by
    obtain ⟨l, a, b, m, ⟨⟩⟩ := d
    obtain ⟨h1, h2, h3⟩ := hd
    simp only at h1 h2 h3
    have h1 : l = [] := h1
    subst h1; subst h2; subst h3
    exact ⟨ann52 m, cast (by kernel_rfl) (f52_vc m)⟩
@[reducible] def ct39z : CT := { ps := [.sl (.int .i64)], pre := fun d => Mt d.1, res := fun d => ([], .tup []) }
@[reducible] def cl45 : List (Nat × CT) := [(52, ct44z), (48, ct45z)]
@[reducible] def ann45  : Nat → Option (St → Ann) := fun _ => none
set_option maxRecDepth 100000 in
theorem f45_vc  :
    (0 : Int) = (0 : (Sh.int IntKind.u64).den) ∧ (Mt [] ∧ (0 : Int) = (0 : (Sh.int IntKind.i64).den) ∧ (0 : Int) = (0 : (Sh.int IntKind.i64).den)) ∧ ([] : List Go.Eng.Res) = [] ∧ Ent.tup [] = Ent.tup [] := by
  exact ⟨rfl, ⟨rfl, rfl, rfl⟩, rfl, rfl⟩
set_option maxRecDepth 100000 in
theorem f45_met : Go.Eng.Met Try.prog cx0.gd 45 ct39z :=
  met_of (cx := cx0) (n := 11) (cl := cl45) (by kernel_rfl) tis_ok ⟨f52_met, f48_met, trivial⟩ Try.func45 (by kernel_rfl) (by kernel_rfl) rfl (by kernel_rfl) (by kernel_rfl) fun d hd => by
    obtain ⟨l, ⟨⟩⟩ := d
    have hd : l = [] := hd
    subst hd
    exact ⟨ann45 , cast (by kernel_rfl) (f45_vc )⟩
end Go.Proofs.Ytkndekaioeifdaa
