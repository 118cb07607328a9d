/- The sets chapter, part 3: the operations on sets. -/
import Derived.Test.YtkndekaioeifdaaPK1
import Derived.Test.YtkndekaioeifdaaPSH
set_option linter.unusedSimpArgs false
set_option linter.unusedVariables false
set_option maxRecDepth 100000
namespace Go.Proofs.Ytkndekaioeifdaa
open Go Go.Eng

theorem sortI_len (l : List Int) : (sortI l).length = l.length := by simp [sortI]
theorem make_len (l : List Int) : (makeI l).length ≤ l.length := makeI_len l
theorem f45_ip : MetIP Try.prog cx0.gd 45 ipSort := ⟨ipok_sort f45_met.1 rfl (fun blk cap zs w hH hb hz => Try.slices_Sort_int blk 0 cap zs w hH hb hz), f45_met.2⟩
theorem f46_ip : MetIP Try.prog cx0.gd 46 ipCompact := ⟨ipok_compact (fun a cap w => Try.slices_Compact_int_empty a cap w) (fun blk cap zs w hH h1 h2 => Try.slices_Compact_int blk 0 cap zs w hH h1 h2), ⟨_, Try.func46, rfl, by kernel_rfl⟩⟩
@[reducible] def ctSorted : CT := { ps := [.sl (.int .i64)], pre := fun d => d.1.length ≤ 1000000, res := fun d => ([.row 3 (.int .i64) (makeI d.1)], .one (.c (.row 0))) }
@[reducible] def cl34 : List (Nat × CT) := [(42, ctClone)]
@[reducible] def il34 : List (Nat × IP) := [(45, ipSort), (46, ipCompact)]
@[reducible] def ann34 (l : List Int) : Nat → Option (St → Ann) := fun _ => none
set_option maxRecDepth 100000 in
theorem f34_vc (l : List Int) (hpre : ctSorted.pre (l, ())) :
    l.length ≤ (1000000 : Nat) ∧ List.length (l) < (4611686018427387904 : Nat) ∧ List.length (sortI (l)) < (4611686018427387904 : Nat) ∧ [Res.row (3 : TypeId) (Sh.int IntKind.i64) (makeI l)] = [Res.row (3 : TypeId) (Sh.int IntKind.i64) (Lib.compact (sortI (l)))] ∧ Ent.one (SV.c (SC.row (0 : Nat))) = Ent.one (SV.c (SC.row (0 : Nat))) := by
  have hp : l.length ≤ 1000000 := hpre
  exact ⟨hp, by omega, by rw [sortI_len]; omega, by rw [dd_make], rfl⟩
set_option maxRecDepth 100000 in
theorem f34_met : Go.Eng.Met Try.prog cx0.gd 34 ctSorted :=
  met_ip (il := il34) (rc := []) (cx := cx0) (n := 10) (cl := cl34) (by kernel_rfl) tis_ok ⟨f42_met, trivial⟩ ⟨f45_ip, f46_ip, trivial⟩ Try.func34 (by kernel_rfl) (by kernel_rfl) rfl (by kernel_rfl) (by kernel_rfl) fun d hd => by
    obtain ⟨l, ⟨⟩⟩ := d
    exact ⟨ann34 l, cast (by kernel_rfl) (f34_vc l hd)⟩
def filI (l o : List Int) (b : Bool) : List Int := l.filter fun x => hasI o x == b
@[reducible] def ctFilter : CT := { ps := [.sl (.int .i64), .sl (.int .i64), .bool], pre := fun d => d.1.length ≤ 1000000 ∧ d.2.1.length ≤ 1000000, res := fun d => ([.row 3 (.int .i64) (filI (makeI d.1) d.2.1 d.2.2.1)], .one (.c (.row 0))) }
@[reducible] def cl43 : List (Nat × CT) := [(34, ctSorted), (41, ctCon)]
@[reducible] def ann43 (l : List Int) (o : List Int) (b : Bool) : Nat → Option (St → Ann) := fun k => match k with
  | 3 => some fun _ => .inv { α := Nat, slots := fun k => [(13, .c (.v (.int .i64 k))), (7, .c (.row 1))], res := fun k => [(1, .row 3 (.int .i64) (filI ((makeI l).take k) o b))], inv := fun k => k ≤ (makeI l).length, meas := fun k => (makeI l).length - k, nil := [(7, 3, .int .i64)] }
  | _ => none
set_option maxRecDepth 100000 in
theorem f43_vc (l : List Int) (o : List Int) (b : Bool) (hpre : ctFilter.pre (l, o, b, ())) :
    l.length ≤ (1000000 : Nat) ∧ (∃ x, x ≤ (makeI l).length ∧ (SV.c (SC.v (Value.int IntKind.i64 (0 : Int))) = SV.c (SC.v (Value.int IntKind.i64 (↑x : Int))) ∧ SV.c (SC.row (Nat.succ (0 : Nat))) = SV.c (SC.row (1 : Nat)) ∧ True) ∧ [(([] : Go.Eng.Gd), Res.row (3 : TypeId) (Sh.int IntKind.i64) (makeI l)), (([] : Go.Eng.Gd), Res.row (3 : TypeId) (Sh.int IntKind.i64) [])] = [(([] : Go.Eng.Gd), Res.row (3 : TypeId) (Sh.int IntKind.i64) (makeI l)), (([] : Go.Eng.Gd), Res.row (3 : TypeId) (Sh.int IntKind.i64) (filI (List.take x (makeI l)) o b))]) ∧ ∀ (x : Nat), x ≤ (makeI l).length → br (decide ((↑x : Int) < (↑(makeI l).length : Int))) (((0 : Int) ≤ (↑x : Int) ∧ (↑x : Int) < (↑(makeI l).length : Int)) ∧ (↑x : Int).toNat < (makeI l).length ∧ ∀ (d : Int), (makeI l)[(↑x : Int).toNat]? = some d → o.length ≤ (4611686018427387904 : Nat) ∧ br (hasI o d == b) (InA (List.length (filI (List.take x (makeI l)) o b) + List.length ([d])) (8 : Nat) ∧ InR IntKind.i64 ((↑x : Int) + (1 : Int)) ∧ ∃ x', x' ≤ (makeI l).length ∧ (SV.c (SC.v (Value.int IntKind.i64 ((↑x : Int) + (1 : Int)))) = SV.c (SC.v (Value.int IntKind.i64 (↑x' : Int))) ∧ SV.c (SC.row (1 : Nat)) = SV.c (SC.row (1 : Nat)) ∧ True) ∧ [(([] : Go.Eng.Gd), Res.row (3 : TypeId) (Sh.int IntKind.i64) (makeI l)), (([] : Go.Eng.Gd), Res.row (3 : TypeId) (Sh.int IntKind.i64) (filI (List.take x (makeI l)) o b ++ [d]))] = [(([] : Go.Eng.Gd), Res.row (3 : TypeId) (Sh.int IntKind.i64) (makeI l)), (([] : Go.Eng.Gd), Res.row (3 : TypeId) (Sh.int IntKind.i64) (filI (List.take x' (makeI l)) o b))] ∧ (makeI l).length - x' < (makeI l).length - x) (InR IntKind.i64 ((↑x : Int) + (1 : Int)) ∧ ∃ x', x' ≤ (makeI l).length ∧ (SV.c (SC.v (Value.int IntKind.i64 ((↑x : Int) + (1 : Int)))) = SV.c (SC.v (Value.int IntKind.i64 (↑x' : Int))) ∧ SV.c (SC.row (1 : Nat)) = SV.c (SC.row (1 : Nat)) ∧ True) ∧ [(([] : Go.Eng.Gd), Res.row (3 : TypeId) (Sh.int IntKind.i64) (makeI l)), (([] : Go.Eng.Gd), Res.row (3 : TypeId) (Sh.int IntKind.i64) (filI (List.take x (makeI l)) o b))] = [(([] : Go.Eng.Gd), Res.row (3 : TypeId) (Sh.int IntKind.i64) (makeI l)), (([] : Go.Eng.Gd), Res.row (3 : TypeId) (Sh.int IntKind.i64) (filI (List.take x' (makeI l)) o b))] ∧ (makeI l).length - x' < (makeI l).length - x)) ([Res.row (3 : TypeId) (Sh.int IntKind.i64) (filI (makeI l) o b)] = [Res.row (3 : TypeId) (Sh.int IntKind.i64) (filI (List.take x (makeI l)) o b)] ∧ Ent.one (SV.c (SC.row (0 : Nat))) = Ent.one (SV.c (SC.row (0 : Nat)))) := by
  have hp : l.length ≤ 1000000 ∧ o.length ≤ 1000000 := hpre
  have hm := make_len l
  have hf : ∀ k, (filI ((makeI l).take k) o b).length ≤ 1000000 := fun k => by
    refine Nat.le_trans (List.length_filter_le _ _) ?_
    rw [List.length_take]; omega
  refine ⟨hp.1, ⟨0, by omega, ⟨rfl, rfl, trivial⟩, by simp [filI]⟩, fun k hk => br_iff.2 ⟨fun h => ?_, fun h => ?_⟩⟩
  · simp only [decide_eq_true_eq] at h
    refine ⟨⟨by omega, h⟩, by omega, fun d hd => ?_⟩
    have hd : (makeI l)[k]? = some d := by simpa using hd
    have e : filI ((makeI l).take (k + 1)) o b = filI ((makeI l).take k) o b ++ (if hasI o d == b then [d] else []) := by
      unfold filI
      rw [List.take_add_one, hd, Option.toList_some, List.filter_append]
      congr 1
      simp only [List.filter_cons, List.filter_nil]
    refine ⟨by omega, br_iff.2 ⟨fun h2 => ⟨?_, InR_i64.2 (by omega), k + 1, by omega, ⟨by simp, rfl, trivial⟩, ?_, by omega⟩, fun h2 => ⟨InR_i64.2 (by omega), k + 1, by omega, ⟨by simp, rfl, trivial⟩, ?_, by omega⟩⟩⟩
    · have := hf k
      rw [InA_iff]; simp; omega
    · rw [e, h2]; rfl
    · rw [e, h2]; simp
  · simp only [decide_eq_false_iff_not] at h
    rw [List.take_of_length_le (by omega)]; exact ⟨rfl, rfl⟩
set_option maxRecDepth 100000 in
theorem f43_met : Go.Eng.Met Try.prog cx0.gd 43 ctFilter :=
  met_of (cx := cx0) (n := 28) (cl := cl43) (by kernel_rfl) tis_ok ⟨f34_met, f41_met, trivial⟩ Try.func43 (by kernel_rfl) (by kernel_rfl) rfl (by kernel_rfl) (by kernel_rfl) fun d hd => by
    obtain ⟨l, o, b, ⟨⟩⟩ := d
    exact ⟨ann43 l o b, cast (by kernel_rfl) (f43_vc l o b hd)⟩
theorem flat_le (l : List (List Int)) (k : Nat) : (l.take k).flatten.length ≤ l.flatten.length := by
  have : l.flatten = (l.take k).flatten ++ (l.drop k).flatten := by rw [← List.flatten_append, List.take_append_drop]
  rw [this, List.length_append]; omega
theorem flat_step {l : List (List Int)} {k : Nat} {d : List Int} (h : l[k]? = some d) : (l.take (k + 1)).flatten = (l.take k).flatten ++ d := by
  rw [List.take_add_one, h]; simp
@[reducible] def ctConcat : CT := { ps := [.sl (.sl (.int .i64))], pre := fun d => d.1.flatten.length ≤ 1000000 ∧ d.1.length ≤ 1000000, res := fun d => ([.row 3 (.int .i64) (d.1.flatten)], .one (.c (.row 0))) }
@[reducible] def cl44 : List (Nat × CT) := [(51, ctGrow)]
@[reducible] def ann44 (l : List (List Int)) : Nat → Option (St → Ann) := fun k => match k with
  | 3 => some fun _ => .inv { α := Nat, slots := fun k => [(11, .c (.v (.int .i64 k))), (3, .c (.v (.int .i64 ((l.take k).flatten.length : Nat))))], res := fun _ => [], inv := fun k => k ≤ l.length, meas := fun k => l.length - k }
  | 11 => some fun _ => .inv { α := Nat, slots := fun k => [(27, .c (.v (.int .i64 k))), (6, .c (.row 0))], res := fun k => [(0, .row 3 (.int .i64) ((l.take k).flatten))], inv := fun k => k ≤ (l).length, meas := fun k => (l).length - k, drop := [24] }
  | _ => none
set_option maxRecDepth 100000 in
theorem f44_vc (l : List (List Int)) (hpre : ctConcat.pre (l, ())) :
    (∃ x, x ≤ l.length ∧ (SV.c (SC.v (Value.int IntKind.i64 (0 : Int))) = SV.c (SC.v (Value.int IntKind.i64 (↑x : Int))) ∧ SV.c (SC.v (Value.int IntKind.i64 (0 : Int))) = SV.c (SC.v (Value.int IntKind.i64 (↑(List.take x l).flatten.length : Int))) ∧ True) ∧ ([] : List (Go.Eng.Gd × Go.Eng.Res)) = []) ∧ ∀ (x : Nat), x ≤ l.length → br (decide ((↑x : Int) < (↑l.length : Int))) (((0 : Int) ≤ (↑x : Int) ∧ (↑x : Int) < (↑l.length : Int)) ∧ ∀ (d : List (Sh.int IntKind.i64).den), l[(↑x : Int).toNat]? = some d → InR IntKind.i64 ((↑(List.take x l).flatten.length : Int) + (↑d.length : Int)) ∧ br (decide ((↑(List.take x l).flatten.length : Int) + (↑d.length : Int) < (0 : Int))) False (InR IntKind.i64 ((↑x : Int) + (1 : Int)) ∧ ∃ x', x' ≤ l.length ∧ (SV.c (SC.v (Value.int IntKind.i64 ((↑x : Int) + (1 : Int)))) = SV.c (SC.v (Value.int IntKind.i64 (↑x' : Int))) ∧ SV.c (SC.v (Value.int IntKind.i64 ((↑(List.take x l).flatten.length : Int) + (↑d.length : Int)))) = SV.c (SC.v (Value.int IntKind.i64 (↑(List.take x' l).flatten.length : Int))) ∧ True) ∧ ([] : List (Go.Eng.Gd × Go.Eng.Res)) = [] ∧ l.length - x' < l.length - x)) ((Value.slice none (0 : Nat) (0 : Nat) = Value.slice none (0 : Nat) (0 : Nat) ∧ (0 : (Sh.int IntKind.i64).den) ≤ (↑(List.take x l).flatten.length : Int) ∧ (↑(List.take x l).flatten.length : Int) ≤ (1000000 : (Sh.int IntKind.i64).den)) ∧ (∃ x, x ≤ l.length ∧ (SV.c (SC.v (Value.int IntKind.i64 (0 : Int))) = SV.c (SC.v (Value.int IntKind.i64 (↑x : Int))) ∧ SV.c (SC.row (0 : Nat)) = SV.c (SC.row (0 : Nat)) ∧ True) ∧ [(([] : Go.Eng.Gd), Res.row (3 : TypeId) (Sh.int IntKind.i64) [])] = [(([] : Go.Eng.Gd), Res.row (3 : TypeId) (Sh.int IntKind.i64) (List.take x l).flatten)]) ∧ ∀ (x : Nat), x ≤ l.length → br (decide ((↑x : Int) < (↑l.length : Int))) (((0 : Int) ≤ (↑x : Int) ∧ (↑x : Int) < (↑l.length : Int)) ∧ ∀ (d : List (Sh.int IntKind.i64).den), l[(↑x : Int).toNat]? = some d → InA (List.length ((List.take x l).flatten) + List.length (d)) (8 : Nat) ∧ InR IntKind.i64 ((↑x : Int) + (1 : Int)) ∧ ∃ x', x' ≤ l.length ∧ (SV.c (SC.v (Value.int IntKind.i64 ((↑x : Int) + (1 : Int)))) = SV.c (SC.v (Value.int IntKind.i64 (↑x' : Int))) ∧ SV.c (SC.row (0 : Nat)) = SV.c (SC.row (0 : Nat)) ∧ True) ∧ [(([] : Go.Eng.Gd), Res.row (3 : TypeId) (Sh.int IntKind.i64) ((List.take x l).flatten ++ d))] = [(([] : Go.Eng.Gd), Res.row (3 : TypeId) (Sh.int IntKind.i64) (List.take x' l).flatten)] ∧ l.length - x' < l.length - x) ([Res.row (3 : TypeId) (Sh.int IntKind.i64) l.flatten] = [Res.row (3 : TypeId) (Sh.int IntKind.i64) (List.take x l).flatten] ∧ Ent.one (SV.c (SC.row (0 : Nat))) = Ent.one (SV.c (SC.row (0 : Nat))))) := by
  have hp : l.flatten.length ≤ 1000000 ∧ l.length ≤ 1000000 := hpre
  have hf : ∀ k, (l.take k).flatten.length ≤ l.flatten.length := fun k => flat_le l k
  refine ⟨⟨0, by omega, ⟨rfl, by simp, trivial⟩, rfl⟩, fun k hk => br_iff.2 ⟨fun h => ?_, fun h => ?_⟩⟩
  · simp only [decide_eq_true_eq] at h
    refine ⟨by omega, fun d hd => ?_⟩
    have hd : l[k]? = some d := by simpa using hd
    have e := flat_step hd
    have h1 := hf (k + 1)
    rw [e, List.length_append] at h1
    refine ⟨InR_i64.2 (by omega), br_iff.2 ⟨fun h2 => ?_, fun h2 => ⟨InR_i64.2 (by omega), k + 1, by omega, ⟨by simp, by rw [e, List.length_append]; simp, trivial⟩, rfl, by omega⟩⟩⟩
    simp only [decide_eq_true_eq] at h2; omega
  · have hk0 := hf k
    refine ⟨⟨rfl, Int.natCast_nonneg _, Int.ofNat_le.2 (show (l.take k).flatten.length ≤ 1000000 by omega)⟩, ⟨0, by omega, ⟨rfl, rfl, trivial⟩, by simp⟩, fun k hk => br_iff.2 ⟨fun h => ?_, fun h => ?_⟩⟩
    · simp only [decide_eq_true_eq] at h
      refine ⟨by omega, fun d hd => ?_⟩
      have hd : l[k]? = some d := by simpa using hd
      have e := flat_step hd
      have h1 := hf (k + 1)
      rw [e, List.length_append] at h1
      refine ⟨by rw [InA_iff]; omega, InR_i64.2 (by omega), k + 1, by omega, ⟨by simp, rfl, trivial⟩, by rw [e], by omega⟩
    · simp only [decide_eq_false_iff_not] at h
      rw [List.take_of_length_le (by omega)]; exact ⟨rfl, rfl⟩
set_option maxRecDepth 100000 in
theorem f44_met : Go.Eng.Met Try.prog cx0.gd 44 ctConcat :=
  met_of (cx := cx0) (n := 36) (cl := cl44) (by kernel_rfl) tis_ok ⟨f51_met, trivial⟩ Try.func44 (by kernel_rfl) (by kernel_rfl) rfl (by kernel_rfl) (by kernel_rfl) fun d hd => by
    obtain ⟨l, ⟨⟩⟩ := d
    exact ⟨ann44 l, cast (by kernel_rfl) (f44_vc l hd)⟩
@[reducible] def ctMake : CT := { ps := [.sl (.int .i64)], pre := fun d => d.1.length ≤ 1000000, res := fun d => ([.row 3 (.int .i64) (makeI d.1)], .one (.c (.row 0))) }
@[reducible] def cl13 : List (Nat × CT) := [(34, ctSorted)]
@[reducible] def ann13 (l : List Int) : Nat → Option (St → Ann) := fun _ => none
set_option maxRecDepth 100000 in
theorem f13_vc (l : List Int) (hpre : ctMake.pre (l, ())) :
    l.length ≤ (1000000 : Nat) ∧ [Res.row (3 : TypeId) (Sh.int IntKind.i64) (makeI l)] = [Res.row (3 : TypeId) (Sh.int IntKind.i64) (makeI l)] ∧ Ent.one (SV.c (SC.row (0 : Nat))) = Ent.one (SV.c (SC.row (0 : Nat))) := by
  exact ⟨hpre, rfl, rfl⟩
set_option maxRecDepth 100000 in
theorem f13_met : Go.Eng.Met Try.prog cx0.gd 13 ctMake :=
  met_of (cx := cx0) (n := 5) (cl := cl13) (by kernel_rfl) tis_ok ⟨f34_met, trivial⟩ Try.func13 (by kernel_rfl) (by kernel_rfl) rfl (by kernel_rfl) (by kernel_rfl) fun d hd => by
    obtain ⟨l, ⟨⟩⟩ := d
    exact ⟨ann13 l, cast (by kernel_rfl) (f13_vc l hd)⟩
@[reducible] def ctHas : CT := { ps := [.sl (.int .i64), .int .i64], pre := fun d => d.1.length ≤ 1000000, res := fun d => ([], vB (hasI d.1 d.2.1)) }
@[reducible] def cl20 : List (Nat × CT) := [(41, ctCon)]
@[reducible] def ann20 (l : List Int) (x : Int) : Nat → Option (St → Ann) := fun _ => none
set_option maxRecDepth 100000 in
theorem f20_vc (l : List Int) (x : Int) (hpre : ctHas.pre (l, x, ())) :
    l.length ≤ (4611686018427387904 : Nat) ∧ ([] : List Go.Eng.Res) = [] ∧ Ent.one (SV.c (SC.v (Value.bool (hasI l x)))) = Ent.one (SV.c (SC.v (Value.bool (hasI l x)))) := by
  have hp : l.length ≤ 1000000 := hpre
  exact ⟨by omega, rfl, rfl⟩
set_option maxRecDepth 100000 in
theorem f20_met : Go.Eng.Met Try.prog cx0.gd 20 ctHas :=
  met_of (cx := cx0) (n := 8) (cl := cl20) (by kernel_rfl) tis_ok ⟨f41_met, trivial⟩ Try.func20 (by kernel_rfl) (by kernel_rfl) rfl (by kernel_rfl) (by kernel_rfl) fun d hd => by
    obtain ⟨l, x, ⟨⟩⟩ := d
    exact ⟨ann20 l x, cast (by kernel_rfl) (f20_vc l x hd)⟩
@[reducible] def ctAdd : CT := { ps := [.sl (.int .i64), .int .i64], pre := fun d => d.1.length ≤ 999999, res := fun d => ([.row 3 (.int .i64) (makeI (d.1 ++ [d.2.1]))], .one (.c (.row 0))) }
@[reducible] def cl22 : List (Nat × CT) := [(42, ctClone), (34, ctSorted)]
@[reducible] def ann22 (l : List Int) (x : Int) : Nat → Option (St → Ann) := fun _ => none
set_option maxRecDepth 100000 in
theorem f22_vc (l : List Int) (x : Int) (hpre : ctAdd.pre (l, x, ())) :
    l.length ≤ (1000000 : Nat) ∧ InA (List.length (l) + List.length ([x])) (8 : Nat) ∧ List.length (l ++ [x]) ≤ (1000000 : Nat) ∧ [Res.row (3 : TypeId) (Sh.int IntKind.i64) (makeI (l ++ [x]))] = [Res.row (3 : TypeId) (Sh.int IntKind.i64) (makeI (l ++ [x]))] ∧ Ent.one (SV.c (SC.row (0 : Nat))) = Ent.one (SV.c (SC.row (0 : Nat))) := by
  have hp : l.length ≤ 999999 := hpre
  refine ⟨by omega, ?_, ?_, rfl, rfl⟩
  · rw [InA_iff]; simp; omega
  · simp; omega
set_option maxRecDepth 100000 in
theorem f22_met : Go.Eng.Met Try.prog cx0.gd 22 ctAdd :=
  met_of (cx := cx0) (n := 11) (cl := cl22) (by kernel_rfl) tis_ok ⟨f42_met, f34_met, trivial⟩ Try.func22 (by kernel_rfl) (by kernel_rfl) rfl (by kernel_rfl) (by kernel_rfl) fun d hd => by
    obtain ⟨l, x, ⟨⟩⟩ := d
    exact ⟨ann22 l x, cast (by kernel_rfl) (f22_vc l x hd)⟩
@[reducible] def ctRem : CT := { ps := [.sl (.int .i64), .int .i64], pre := fun d => d.1.length ≤ 1000000, res := fun d => ([.row 3 (.int .i64) (filI (makeI d.1) [d.2.1] false)], .one (.c (.row 0))) }
@[reducible] def cl24 : List (Nat × CT) := [(43, ctFilter)]
@[reducible] def ann24 (l : List Int) (x : Int) : Nat → Option (St → Ann) := fun _ => none
set_option maxRecDepth 100000 in
theorem f24_vc (l : List Int) (x : Int) (hpre : ctRem.pre (l, x, ())) :
    (l.length ≤ (1000000 : Nat) ∧ [x].length ≤ (1000000 : Nat)) ∧ [Res.row (3 : TypeId) (Sh.int IntKind.i64) (filI (makeI l) [x] false)] = [Res.row (3 : TypeId) (Sh.int IntKind.i64) (filI (makeI l) [x] false)] ∧ Ent.one (SV.c (SC.row (0 : Nat))) = Ent.one (SV.c (SC.row (0 : Nat))) := by
  have hp : l.length ≤ 1000000 := hpre
  exact ⟨⟨hp, by simp⟩, rfl, rfl⟩
set_option maxRecDepth 100000 in
theorem f24_met : Go.Eng.Met Try.prog cx0.gd 24 ctRem :=
  met_of (cx := cx0) (n := 9) (cl := cl24) (by kernel_rfl) tis_ok ⟨f43_met, trivial⟩ Try.func24 (by kernel_rfl) (by kernel_rfl) rfl (by kernel_rfl) (by kernel_rfl) fun d hd => by
    obtain ⟨l, x, ⟨⟩⟩ := d
    exact ⟨ann24 l x, cast (by kernel_rfl) (f24_vc l x hd)⟩
@[reducible] def ctUn : CT := { ps := [.sl (.int .i64), .sl (.int .i64)], pre := fun d => d.1.length ≤ 500000 ∧ d.2.1.length ≤ 500000, res := fun d => ([.row 3 (.int .i64) (makeI (d.1 ++ d.2.1))], .one (.c (.row 0))) }
@[reducible] def cl26 : List (Nat × CT) := [(44, ctConcat), (34, ctSorted)]
@[reducible] def ann26 (l : List Int) (m : List Int) : Nat → Option (St → Ann) := fun _ => none
set_option maxRecDepth 100000 in
theorem f26_vc (l : List Int) (m : List Int) (hpre : ctUn.pre (l, m, ())) :
    ([l, m].flatten.length ≤ (1000000 : Nat) ∧ [l, m].length ≤ (1000000 : Nat)) ∧ [l, m].flatten.length ≤ (1000000 : Nat) ∧ [Res.row (3 : TypeId) (Sh.int IntKind.i64) (makeI (l ++ m))] = [Res.row (3 : TypeId) (Sh.int IntKind.i64) (makeI [l, m].flatten)] ∧ Ent.one (SV.c (SC.row (0 : Nat))) = Ent.one (SV.c (SC.row (0 : Nat))) := by
  have hp : l.length ≤ 500000 ∧ m.length ≤ 500000 := hpre
  have e : [l, m].flatten = l ++ m := by simp
  rw [e]
  refine ⟨⟨by simp; omega, by simp⟩, by simp; omega, rfl, rfl⟩
set_option maxRecDepth 100000 in
theorem f26_met : Go.Eng.Met Try.prog cx0.gd 26 ctUn :=
  met_of (cx := cx0) (n := 10) (cl := cl26) (by kernel_rfl) tis_ok ⟨f44_met, f34_met, trivial⟩ Try.func26 (by kernel_rfl) (by kernel_rfl) rfl (by kernel_rfl) (by kernel_rfl) fun d hd => by
    obtain ⟨l, m, ⟨⟩⟩ := d
    exact ⟨ann26 l m, cast (by kernel_rfl) (f26_vc l m hd)⟩
@[reducible] def ctInt : CT := { ps := [.sl (.int .i64), .sl (.int .i64)], pre := fun d => d.1.length ≤ 1000000 ∧ d.2.1.length ≤ 1000000, res := fun d => ([.row 3 (.int .i64) (filI (makeI d.1) d.2.1 true)], .one (.c (.row 0))) }
@[reducible] def cl28 : List (Nat × CT) := [(43, ctFilter)]
@[reducible] def ann28 (l : List Int) (m : List Int) : Nat → Option (St → Ann) := fun _ => none
set_option maxRecDepth 100000 in
theorem f28_vc (l : List Int) (m : List Int) (hpre : ctInt.pre (l, m, ())) :
    (l.length ≤ (1000000 : Nat) ∧ m.length ≤ (1000000 : Nat)) ∧ [Res.row (3 : TypeId) (Sh.int IntKind.i64) (filI (makeI l) m true)] = [Res.row (3 : TypeId) (Sh.int IntKind.i64) (filI (makeI l) m true)] ∧ Ent.one (SV.c (SC.row (0 : Nat))) = Ent.one (SV.c (SC.row (0 : Nat))) := by
  exact ⟨hpre, rfl, rfl⟩
set_option maxRecDepth 100000 in
theorem f28_met : Go.Eng.Met Try.prog cx0.gd 28 ctInt :=
  met_of (cx := cx0) (n := 8) (cl := cl28) (by kernel_rfl) tis_ok ⟨f43_met, trivial⟩ Try.func28 (by kernel_rfl) (by kernel_rfl) rfl (by kernel_rfl) (by kernel_rfl) fun d hd => by
    obtain ⟨l, m, ⟨⟩⟩ := d
    exact ⟨ann28 l m, cast (by kernel_rfl) (f28_vc l m hd)⟩
@[reducible] def ctMin : CT := { ps := [.sl (.int .i64), .sl (.int .i64)], pre := fun d => d.1.length ≤ 1000000 ∧ d.2.1.length ≤ 1000000, res := fun d => ([.row 3 (.int .i64) (filI (makeI d.1) d.2.1 false)], .one (.c (.row 0))) }
@[reducible] def cl30 : List (Nat × CT) := [(43, ctFilter)]
@[reducible] def ann30 (l : List Int) (m : List Int) : Nat → Option (St → Ann) := fun _ => none
set_option maxRecDepth 100000 in
theorem f30_vc (l : List Int) (m : List Int) (hpre : ctMin.pre (l, m, ())) :
    (l.length ≤ (1000000 : Nat) ∧ m.length ≤ (1000000 : Nat)) ∧ [Res.row (3 : TypeId) (Sh.int IntKind.i64) (filI (makeI l) m false)] = [Res.row (3 : TypeId) (Sh.int IntKind.i64) (filI (makeI l) m false)] ∧ Ent.one (SV.c (SC.row (0 : Nat))) = Ent.one (SV.c (SC.row (0 : Nat))) := by
  exact ⟨hpre, rfl, rfl⟩
set_option maxRecDepth 100000 in
theorem f30_met : Go.Eng.Met Try.prog cx0.gd 30 ctMin :=
  met_of (cx := cx0) (n := 8) (cl := cl30) (by kernel_rfl) tis_ok ⟨f43_met, trivial⟩ Try.func30 (by kernel_rfl) (by kernel_rfl) rfl (by kernel_rfl) (by kernel_rfl) fun d hd => by
    obtain ⟨l, m, ⟨⟩⟩ := d
    exact ⟨ann30 l m, cast (by kernel_rfl) (f30_vc l m hd)⟩
def subI (l m : List Int) : Bool := l.all fun x => hasI m x
theorem sub_min (l m : List Int) : subI l m = decide (((filI (makeI l) m false).length : Int) = 0) := by
  rw [Bool.eq_iff_iff, decide_eq_true_eq]
  unfold subI filI
  rw [List.all_eq_true]
  constructor
  · intro h
    have : (makeI l).filter (fun x => hasI m x == false) = [] := by
      rw [List.filter_eq_nil_iff]
      intro x hx
      rw [h x (make_mem.1 hx)]; simp
    rw [this]; rfl
  · intro h x hx
    have h0 : (makeI l).filter (fun x => hasI m x == false) = [] := List.eq_nil_of_length_eq_zero (by omega)
    rw [List.filter_eq_nil_iff] at h0
    have := h0 x (make_mem.2 hx)
    simpa using this
@[reducible] def ctSub : CT := { ps := [.sl (.int .i64), .sl (.int .i64)], pre := fun d => d.1.length ≤ 1000000 ∧ d.2.1.length ≤ 1000000, res := fun d => ([], vB (subI d.1 d.2.1)) }
@[reducible] def cl15 : List (Nat × CT) := [(30, ctMin)]
@[reducible] def ann15 (l : List Int) (m : List Int) : Nat → Option (St → Ann) := fun _ => none
set_option maxRecDepth 100000 in
theorem f15_vc (l : List Int) (m : List Int) (hpre : ctSub.pre (l, m, ())) :
    (l.length ≤ (1000000 : Nat) ∧ m.length ≤ (1000000 : Nat)) ∧ ([] : List Go.Eng.Res) = [] ∧ Ent.one (SV.c (SC.v (Value.bool (subI l m)))) = Ent.one (SV.c (SC.v (Value.bool (decide ((↑(filI (makeI l) m false).length : Int) = (0 : Int)))))) := by
  refine ⟨hpre, rfl, ?_⟩
  rw [sub_min]
set_option maxRecDepth 100000 in
theorem f15_met : Go.Eng.Met Try.prog cx0.gd 15 ctSub :=
  met_of (cx := cx0) (n := 10) (cl := cl15) (by kernel_rfl) tis_ok ⟨f30_met, trivial⟩ Try.func15 (by kernel_rfl) (by kernel_rfl) rfl (by kernel_rfl) (by kernel_rfl) fun d hd => by
    obtain ⟨l, m, ⟨⟩⟩ := d
    exact ⟨ann15 l m, cast (by kernel_rfl) (f15_vc l m hd)⟩
end Go.Proofs.Ytkndekaioeifdaa
