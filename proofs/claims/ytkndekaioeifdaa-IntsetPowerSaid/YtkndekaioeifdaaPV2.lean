/- The sets chapter, part 2: the library. -/
import Derived.Test.YtkndekaioeifdaaPV1
set_option linter.unusedSimpArgs false
set_option linter.unusedVariables false
set_option maxRecDepth 100000
namespace Go.Proofs.Ytkndekaioeifdaa
open Go Go.Eng

@[reducible] def ctClone : CT := { ps := [.sl (.int .i64)], pre := fun d => d.1.length ≤ 1000000, res := fun d => ([.row 3 (.int .i64) (d.1)], .one (.c (.row 0))) }
@[reducible] def cl42 : List (Nat × CT) := []
@[reducible] def il42 : List (Nat × IP) := []
@[reducible] def ann42 (l : List Int) : Nat → Option (St → Ann) := fun _ => none
set_option maxRecDepth 100000 in
theorem f42_vc (l : List Int) (hpre : ctClone.pre (l, ())) :
    ∀ (b : Bool), (b = true → l = []) → br b ([Res.row (3 : TypeId) (Sh.int IntKind.i64) l] = [Res.row (3 : TypeId) (Sh.int IntKind.i64) []] ∧ Ent.one (SV.c (SC.row (0 : Nat))) = Ent.one (SV.c (SC.row (0 : Nat)))) (InA ((0 : Nat) + List.length (l)) (8 : Nat) ∧ [Res.row (3 : TypeId) (Sh.int IntKind.i64) l] = [Res.row (3 : TypeId) (Sh.int IntKind.i64) ([] ++ l)] ∧ Ent.one (SV.c (SC.row (0 : Nat))) = Ent.one (SV.c (SC.row (0 : Nat)))) := by
  have hp : l.length ≤ 1000000 := hpre
  intro b hb
  refine br_iff.2 ⟨fun h => by rw [hb h]; exact ⟨rfl, rfl⟩, fun h => ⟨?_, by simp, rfl⟩⟩
  rw [InA_iff]; omega
set_option maxRecDepth 100000 in
theorem f42_met : Go.Eng.Met Try.prog cx0.gd 42 ctClone :=
  met_ip (il := il42) (rc := [.row 3 (.int .i64)]) (cx := cx0) (n := 8) (cl := cl42) (by kernel_rfl) tis_ok trivial trivial Try.func42 (by kernel_rfl) (by kernel_rfl) rfl (by kernel_rfl) (by kernel_rfl) fun d hd => by
    obtain ⟨l, ⟨⟩⟩ := d
    exact ⟨ann42 l, cast (by kernel_rfl) (f42_vc l hd)⟩
@[reducible] def ctNaN : CT := { ps := [.int .i64], pre := fun d => True, res := fun d => ([], vB (false)) }
@[reducible] def cl49 : List (Nat × CT) := []
@[reducible] def ann49 (x : Int) : Nat → Option (St → Ann) := fun _ => none
set_option maxRecDepth 100000 in
theorem f49_vc (x : Int) :
    ([] : List Go.Eng.Res) = [] ∧ Ent.one (SV.c (SC.v (Value.bool false))) = Ent.one (SV.c (SC.v (Value.bool !decide (x = x)))) := by
  simp
set_option maxRecDepth 100000 in
theorem f49_met : Go.Eng.Met Try.prog cx0.gd 49 ctNaN :=
  met_of (cx := cx0) (n := 6) (cl := cl49) (by kernel_rfl) tis_ok trivial Try.func49 (by kernel_rfl) (by kernel_rfl) rfl (by kernel_rfl) (by kernel_rfl) fun d hd => by
    obtain ⟨x, ⟨⟩⟩ := d
    exact ⟨ann49 x, cast (by kernel_rfl) (f49_vc x)⟩
@[reducible] def ctCmp : CT := { ps := [.int .i64, .int .i64], pre := fun d => True, res := fun d => ([], .one (.c (.v (.int .i64 (if d.1 < d.2.1 then -1 else if d.2.1 < d.1 then 1 else 0))))) }
@[reducible] def cl37 : List (Nat × CT) := [(49, ctNaN)]
@[reducible] def ann37 (x : Int) (y : Int) : Nat → Option (St → Ann) := fun _ => none
set_option maxRecDepth 100000 in
theorem f37_vc (x : Int) (y : Int) :
    True ∧ True ∧ br (decide (x < y)) (([] : List Go.Eng.Res) = [] ∧ Ent.one (SV.c (SC.v (Value.int IntKind.i64 (if x < y then (-1 : Int) else if y < x then (1 : Int) else (0 : Int))))) = Ent.one (SV.c (SC.v (Value.int IntKind.i64 (-1 : Int))))) (br (decide (y < x)) (([] : List Go.Eng.Res) = [] ∧ Ent.one (SV.c (SC.v (Value.int IntKind.i64 (if x < y then (-1 : Int) else if y < x then (1 : Int) else (0 : Int))))) = Ent.one (SV.c (SC.v (Value.int IntKind.i64 (1 : Int))))) (([] : List Go.Eng.Res) = [] ∧ Ent.one (SV.c (SC.v (Value.int IntKind.i64 (if x < y then (-1 : Int) else if y < x then (1 : Int) else (0 : Int))))) = Ent.one (SV.c (SC.v (Value.int IntKind.i64 (0 : Int)))))) := by
  refine ⟨trivial, trivial, br_iff.2 ⟨fun h => ?_, fun h => br_iff.2 ⟨fun h2 => ?_, fun h2 => ?_⟩⟩⟩
  · simp_all
  · simp_all
  · simp only [decide_eq_false_iff_not] at h h2
    rw [if_neg h, if_neg h2]; exact ⟨rfl, rfl⟩
set_option maxRecDepth 100000 in
theorem f37_met : Go.Eng.Met Try.prog cx0.gd 37 ctCmp :=
  met_of (cx := cx0) (n := 20) (cl := cl37) (by kernel_rfl) tis_ok ⟨f49_met, trivial⟩ Try.func37 (by kernel_rfl) (by kernel_rfl) rfl (by kernel_rfl) (by kernel_rfl) fun d hd => by
    obtain ⟨x, y, ⟨⟩⟩ := d
    exact ⟨ann37 x y, cast (by kernel_rfl) (f37_vc x y)⟩
def idxI (l : List Int) (x : Int) : Int := match l.findIdx? (fun y => decide (y = x)) with | some k => (k : Int) | none => -1
theorem idxI_found {l : List Int} {x : Int} {k : Nat} (hd : l[k]? = some x) (hn : ∀ j < k, ∀ y, l[j]? = some y → y ≠ x) : idxI l x = k := by
  have hlt : k < l.length := (List.getElem?_eq_some_iff.1 hd).1
  have : l.findIdx? (fun y => decide (y = x)) = some k := by
    rw [List.findIdx?_eq_some_iff_getElem]
    refine ⟨hlt, by have := (List.getElem?_eq_some_iff.1 hd).2; simp [this], fun j hj => ?_⟩
    have := hn j hj l[j] (List.getElem?_eq_getElem (by omega))
    simpa using this
  simp [idxI, this]
theorem idxI_none {l : List Int} {x : Int} (hn : ∀ (j : Nat) y, l[j]? = some y → y ≠ x) : idxI l x = -1 := by
  have : l.findIdx? (fun y => decide (y = x)) = none := by
    rw [List.findIdx?_eq_none_iff]
    intro y hy
    obtain ⟨j, hj⟩ := List.getElem?_of_mem hy
    simpa using hn j y hj
  simp [idxI, this]
@[reducible] def ctIdx : CT := { ps := [.sl (.int .i64), .int .i64], pre := fun d => d.1.length ≤ 4611686018427387904, res := fun d => ([], .one (.c (.v (.int .i64 (idxI d.1 d.2.1))))) }
@[reducible] def cl50 : List (Nat × CT) := []
@[reducible] def ann50 (l : List Int) (x : Int) : Nat → Option (St → Ann) := fun _ => some fun _ => .inv { α := Nat, slots := fun k => [(8, .c (.v (.int .i64 k)))], res := fun _ => [], inv := fun k => k ≤ l.length ∧ ∀ j < k, ∀ y, l[j]? = some y → y ≠ x, meas := fun k => l.length - k }
set_option maxRecDepth 100000 in
theorem f50_vc (l : List Int) (x : Int) (hpre : ctIdx.pre (l, x, ())) :
    (∃ x_1, (x_1 ≤ l.length ∧ ∀ (j : Nat), j < x_1 → ∀ (y : Int), l[j]? = some y → y ≠ x) ∧ (SV.c (SC.v (Value.int IntKind.i64 (0 : Int))) = SV.c (SC.v (Value.int IntKind.i64 (↑x_1 : Int))) ∧ True) ∧ ([] : List (Go.Eng.Gd × Go.Eng.Res)) = []) ∧ ∀ (x_1 : Nat), (x_1 ≤ l.length ∧ ∀ (j : Nat), j < x_1 → ∀ (y : Int), l[j]? = some y → y ≠ x) → br (decide ((↑x_1 : Int) < (↑l.length : Int))) (((0 : Int) ≤ (↑x_1 : Int) ∧ (↑x_1 : Int) < (↑l.length : Int)) ∧ ∀ (d : Int), l[(↑x_1 : Int).toNat]? = some d → br (decide (x = d)) (([] : List Go.Eng.Res) = [] ∧ Ent.one (SV.c (SC.v (Value.int IntKind.i64 (idxI l x)))) = Ent.one (SV.c (SC.v (Value.int IntKind.i64 (↑x_1 : Int))))) (InR IntKind.i64 ((↑x_1 : Int) + (1 : Int)) ∧ ∃ x', (x' ≤ l.length ∧ ∀ (j : Nat), j < x' → ∀ (y : Int), l[j]? = some y → y ≠ x) ∧ (SV.c (SC.v (Value.int IntKind.i64 ((↑x_1 : Int) + (1 : Int)))) = SV.c (SC.v (Value.int IntKind.i64 (↑x' : Int))) ∧ True) ∧ ([] : List (Go.Eng.Gd × Go.Eng.Res)) = [] ∧ l.length - x' < l.length - x_1)) (([] : List Go.Eng.Res) = [] ∧ Ent.one (SV.c (SC.v (Value.int IntKind.i64 (idxI l x)))) = Ent.one (SV.c (SC.v (Value.int IntKind.i64 (-1 : Int))))) := by
  refine ⟨⟨0, ⟨by omega, fun j hj => by omega⟩, ⟨rfl, trivial⟩, rfl⟩, fun k hk => br_iff.2 ⟨fun h => ?_, fun h => ?_⟩⟩
  · simp only [decide_eq_true_eq] at h
    have hp : l.length ≤ 4611686018427387904 := hpre
    refine ⟨by omega, fun d hd => ?_⟩
    have hd : l[k]? = some d := by simpa using hd
    refine br_iff.2 ⟨fun he => ?_, fun he => ⟨InR_i64.2 (by omega), k + 1, ⟨by omega, fun j hj y hy => ?_⟩, ⟨rfl, trivial⟩, rfl, by omega⟩⟩
    · have he : x = d := by simpa using he
      rw [idxI_found (by rw [hd, he]) hk.2]; exact ⟨rfl, rfl⟩
    · by_cases hjk : j = k
      · subst hjk; rw [hd] at hy; cases hy
        intro hh; simp [hh] at he
      · exact hk.2 j (by omega) y hy
  · simp only [decide_eq_false_iff_not] at h
    rw [idxI_none (fun j y hy => hk.2 j (by have := (List.getElem?_eq_some_iff.1 hy).1; omega) y hy)]; exact ⟨rfl, rfl⟩
set_option maxRecDepth 100000 in
theorem f50_met : Go.Eng.Met Try.prog cx0.gd 50 ctIdx :=
  met_of (cx := cx0) (n := 19) (cl := cl50) (by kernel_rfl) tis_ok trivial Try.func50 (by kernel_rfl) (by kernel_rfl) rfl (by kernel_rfl) (by kernel_rfl) fun d hd => by
    obtain ⟨l, x, ⟨⟩⟩ := d
    exact ⟨ann50 l x, cast (by kernel_rfl) (f50_vc l x hd)⟩
theorem hasI_idx (l : List Int) (x : Int) : hasI l x = decide (0 ≤ idxI l x) := by
  have h := List.findIdx?_isSome (xs := l) (p := fun y => decide (y = x))
  unfold hasI idxI
  rw [← h]
  cases l.findIdx? (fun y => decide (y = x)) with
  | none => rfl
  | some k => simp
@[reducible] def ctCon : CT := { ps := [.sl (.int .i64), .int .i64], pre := fun d => d.1.length ≤ 4611686018427387904, res := fun d => ([], vB (hasI d.1 d.2.1)) }
@[reducible] def cl41 : List (Nat × CT) := [(50, ctIdx)]
@[reducible] def ann41 (l : List Int) (x : Int) : Nat → Option (St → Ann) := fun _ => none
set_option maxRecDepth 100000 in
theorem f41_vc (l : List Int) (x : Int) (hpre : ctCon.pre (l, x, ())) :
    l.length ≤ (4611686018427387904 : Nat) ∧ ([] : List Go.Eng.Res) = [] ∧ Ent.one (SV.c (SC.v (Value.bool (hasI l x)))) = Ent.one (SV.c (SC.v (Value.bool (decide ((0 : Int) ≤ idxI l x))))) := by
  refine ⟨hpre, rfl, ?_⟩
  rw [hasI_idx]
set_option maxRecDepth 100000 in
theorem f41_met : Go.Eng.Met Try.prog cx0.gd 41 ctCon :=
  met_of (cx := cx0) (n := 9) (cl := cl41) (by kernel_rfl) tis_ok ⟨f50_met, trivial⟩ Try.func41 (by kernel_rfl) (by kernel_rfl) rfl (by kernel_rfl) (by kernel_rfl) fun d hd => by
    obtain ⟨l, x, ⟨⟩⟩ := d
    exact ⟨ann41 l x, cast (by kernel_rfl) (f41_vc l x hd)⟩
theorem drop_at {l : List Int} {k : Nat} {d : Int} (h : l[k]? = some d) : l.drop k = d :: l.drop (k + 1) := by
  obtain ⟨h1, h2⟩ := List.getElem?_eq_some_iff.1 h
  rw [List.drop_eq_getElem_cons h1, h2]
def lexI : List Int → List Int → Int
  | [], [] => 0
  | [], _ :: _ => -1
  | _ :: _, [] => 1
  | x :: l, y :: m => if x < y then -1 else if y < x then 1 else lexI l m
@[reducible] def ctScmp : CT := { ps := [.sl (.int .i64), .sl (.int .i64)], pre := fun d => d.1.length ≤ 1000000 ∧ d.2.1.length ≤ 1000000, res := fun d => ([], .one (.c (.v (.int .i64 (lexI d.1 d.2.1))))) }
@[reducible] def cl38 : List (Nat × CT) := [(37, ctCmp)]
@[reducible] def ann38 (l : List Int) (m : List Int) : Nat → Option (St → Ann) := fun _ => some fun _ => .inv { α := Nat, slots := fun k => [(11, .c (.v (.int .i64 k)))], res := fun _ => [], inv := fun k => k ≤ l.length ∧ k ≤ m.length ∧ lexI l m = lexI (l.drop k) (m.drop k), meas := fun k => l.length - k }
set_option maxRecDepth 100000 in
theorem f38_vc (l : List Int) (m : List Int) (hpre : ctScmp.pre (l, m, ())) :
    (∃ x, (x ≤ l.length ∧ x ≤ m.length ∧ lexI l m = lexI (List.drop x l) (List.drop x m)) ∧ (SV.c (SC.v (Value.int IntKind.i64 (0 : Int))) = SV.c (SC.v (Value.int IntKind.i64 (↑x : Int))) ∧ True) ∧ ([] : List (Go.Eng.Gd × Go.Eng.Res)) = []) ∧ ∀ (x : Nat), x ≤ l.length ∧ x ≤ m.length ∧ lexI l m = lexI (List.drop x l) (List.drop x m) → br (decide ((↑x : Int) < (↑l.length : Int))) (((0 : Int) ≤ (↑x : Int) ∧ (↑x : Int) < (↑l.length : Int)) ∧ ∀ (d : Int), l[(↑x : Int).toNat]? = some d → br (decide ((↑m.length : Int) ≤ (↑x : Int))) (([] : List Go.Eng.Res) = [] ∧ Ent.one (SV.c (SC.v (Value.int IntKind.i64 (lexI l m)))) = Ent.one (SV.c (SC.v (Value.int IntKind.i64 (1 : Int))))) (((0 : Int) ≤ (↑x : Int) ∧ (↑x : Int) < (↑m.length : Int)) ∧ ∀ (d_1 : Int), m[(↑x : Int).toNat]? = some d_1 → True ∧ br (!decide ((if d < d_1 then (-1 : Int) else if d_1 < d then (1 : Int) else (0 : Int)) = (0 : Int))) (([] : List Go.Eng.Res) = [] ∧ Ent.one (SV.c (SC.v (Value.int IntKind.i64 (lexI l m)))) = Ent.one (SV.c (SC.v (Value.int IntKind.i64 (if d < d_1 then (-1 : Int) else if d_1 < d then (1 : Int) else (0 : Int)))))) (InR IntKind.i64 ((↑x : Int) + (1 : Int)) ∧ ∃ x', (x' ≤ l.length ∧ x' ≤ m.length ∧ lexI l m = lexI (List.drop x' l) (List.drop x' m)) ∧ (SV.c (SC.v (Value.int IntKind.i64 ((↑x : Int) + (1 : Int)))) = SV.c (SC.v (Value.int IntKind.i64 (↑x' : Int))) ∧ True) ∧ ([] : List (Go.Eng.Gd × Go.Eng.Res)) = [] ∧ l.length - x' < l.length - x))) (br (decide ((↑l.length : Int) < (↑m.length : Int))) (([] : List Go.Eng.Res) = [] ∧ Ent.one (SV.c (SC.v (Value.int IntKind.i64 (lexI l m)))) = Ent.one (SV.c (SC.v (Value.int IntKind.i64 (-1 : Int))))) (([] : List Go.Eng.Res) = [] ∧ Ent.one (SV.c (SC.v (Value.int IntKind.i64 (lexI l m)))) = Ent.one (SV.c (SC.v (Value.int IntKind.i64 (0 : Int)))))) := by
  have hp : l.length ≤ 1000000 ∧ m.length ≤ 1000000 := hpre
  refine ⟨⟨0, ⟨by omega, by omega, rfl⟩, ⟨rfl, trivial⟩, rfl⟩, fun k hk => br_iff.2 ⟨fun h => ?_, fun h => ?_⟩⟩
  · simp only [decide_eq_true_eq] at h
    refine ⟨by omega, fun d hd => ?_⟩
    have hd : l[k]? = some d := by simpa using hd
    have e1 := drop_at hd
    refine br_iff.2 ⟨fun h2 => ?_, fun h2 => ?_⟩
    · simp only [decide_eq_true_eq] at h2
      rw [hk.2.2, e1, List.drop_of_length_le (l := m) (by omega)]; exact ⟨rfl, rfl⟩
    · simp only [decide_eq_false_iff_not] at h2
      refine ⟨by omega, fun e he => ?_⟩
      have he : m[k]? = some e := by simpa using he
      have e2 := drop_at he
      have e3 : lexI l m = if d < e then -1 else if e < d then 1 else lexI (l.drop (k + 1)) (m.drop (k + 1)) := by rw [hk.2.2, e1, e2]; rfl
      refine ⟨trivial, br_iff.2 ⟨fun h3 => ?_, fun h3 => ?_⟩⟩
      · rw [e3]
        by_cases q1 : d < e
        · simp [q1]
        · by_cases q2 : e < d
          · simp [q1, q2]
          · simp [q1, q2] at h3
      · refine ⟨InR_i64.2 (by omega), k + 1, ⟨by omega, by omega, ?_⟩, ⟨rfl, trivial⟩, rfl, by omega⟩
        rw [e3]
        by_cases q1 : d < e
        · simp [q1] at h3
        · by_cases q2 : e < d
          · simp [q1, q2] at h3
          · simp [q1, q2]
  · simp only [decide_eq_false_iff_not] at h
    rw [hk.2.2, List.drop_of_length_le (l := l) (by omega)]
    refine br_iff.2 ⟨fun h2 => ?_, fun h2 => ?_⟩
    · simp only [decide_eq_true_eq] at h2
      obtain ⟨e, he⟩ : ∃ e, m[k]? = some e := ⟨m[k]'(by omega), List.getElem?_eq_getElem (by omega)⟩
      rw [drop_at he]; exact ⟨rfl, rfl⟩
    · simp only [decide_eq_false_iff_not] at h2
      rw [List.drop_of_length_le (by omega)]; exact ⟨rfl, rfl⟩
set_option maxRecDepth 100000 in
theorem f38_met : Go.Eng.Met Try.prog cx0.gd 38 ctScmp :=
  met_of (cx := cx0) (n := 36) (cl := cl38) (by kernel_rfl) tis_ok ⟨f37_met, trivial⟩ Try.func38 (by kernel_rfl) (by kernel_rfl) rfl (by kernel_rfl) (by kernel_rfl) fun d hd => by
    obtain ⟨l, m, ⟨⟩⟩ := d
    exact ⟨ann38 l m, cast (by kernel_rfl) (f38_vc l m hd)⟩
@[reducible] def ctGrow : CT := { ps := [.any, .int .i64], pre := fun d => d.1 = .slice none 0 0 ∧ 0 ≤ d.2.1 ∧ d.2.1 ≤ 1000000, res := fun d => ([.row 3 (.int .i64) ([])], .one (.c (.row 0))) }
@[reducible] def cl51 : List (Nat × CT) := []
@[reducible] def il51 : List (Nat × IP) := []
@[reducible] def ann51 (n : Int) : Nat → Option (St → Ann) := fun _ => none
set_option maxRecDepth 100000 in
theorem f51_vc (n : Int) (hpre : ctGrow.pre (.slice none 0 0, n, ())) :
    br (decide (n < (0 : Int))) False (InR IntKind.i64 (0 : Int) ∧ InR IntKind.i64 (n - (0 : Int)) ∧ br (decide ((0 : Int) < n - (0 : Int))) (((0 : Int) ≤ (0 : Int) ∧ (0 : Int) ≤ (0 : Int) ∧ (0 : Int) ≤ (0 : Int)) ∧ ((0 : Int) ≤ n - (0 : Int) ∧ InA (n - (0 : Int)).toNat (8 : Nat)) ∧ ((0 : Int) ≤ (0 : Int) ∧ (0 : Int) ≤ (↑(List.replicate (n - (0 : Int)).toNat (0 : Int)).length : Int)) ∧ [Res.row (3 : TypeId) (Sh.int IntKind.i64) []] = [Res.row (3 : TypeId) (Sh.int IntKind.i64) (List.take (0 : Nat) (List.replicate (n - (0 : Int)).toNat (0 : Int)))] ∧ Ent.one (SV.c (SC.row (0 : Nat))) = Ent.one (SV.c (SC.row (0 : Nat)))) ([Res.row (3 : TypeId) (Sh.int IntKind.i64) []] = [Res.row (3 : TypeId) (Sh.int IntKind.i64) []] ∧ Ent.one (SV.c (SC.row (0 : Nat))) = Ent.one (SV.c (SC.row (0 : Nat))))) := by
  have hp : 0 ≤ n ∧ n ≤ 1000000 := hpre.2
  refine br_iff.2 ⟨fun h => ?_, fun h => ⟨InR_i64.2 (by omega), InR_i64.2 (by omega), br_iff.2 ⟨fun h2 => ⟨by omega, ⟨by omega, ?_⟩, ⟨by omega, by omega⟩, by simp, rfl⟩, fun h2 => ⟨rfl, rfl⟩⟩⟩⟩
  · simp only [decide_eq_true_eq] at h; omega
  · rw [InA_iff]; omega
set_option maxRecDepth 100000 in
theorem f51_met : Go.Eng.Met Try.prog cx0.gd 51 ctGrow :=
  met_ip (il := il51) (rc := [.row 3 (.int .i64)]) (cx := cx0) (n := 27) (cl := cl51) (by kernel_rfl) tis_ok trivial trivial Try.func51 (by kernel_rfl) (by kernel_rfl) rfl (by kernel_rfl) (by kernel_rfl) fun d hd => by
    obtain ⟨v, n, ⟨⟩⟩ := d
    have h1 := hd.1
    simp only at h1
    subst h1
    exact ⟨ann51 n, cast (by kernel_rfl) (f51_vc n hd)⟩
end Go.Proofs.Ytkndekaioeifdaa
