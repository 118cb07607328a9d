/- The Thread chapter, part 2: ids, instructions at their places, local steps. -/
import Derived.Test.YtklnffdjhoacoaaDoorPW1
set_option linter.unusedSimpArgs false
set_option linter.unusedVariables false
set_option maxRecDepth 100000
namespace Go.Proofs.YtklnffdjhoacoaaDoor
open Go Go.Eng

@[reducible] def ctSpl : CT := { ps := [.int .i64], pre := fun d => 0 ≤ d.1 ∧ d.1 ≤ 9223372036854775807, res := fun d => ([], .tup [.c (.v (.int .i64 (d.1.tdiv 8 - 1))), .c (.v (.int .i64 (d.1.tmod 8)))]) }
@[reducible] def cl23 : List (Nat × CT) := []
@[reducible] def ann23 (id : Int) : Nat → Option (St → Ann) := fun _ => none
set_option maxRecDepth 100000 in
theorem f23_vc (id : Int) (hpre : ctSpl.pre (id, ())) :
    (8 : Int) ≠ (0 : Int) ∧ InR IntKind.i64 (id.tdiv (8 : Int)) ∧ InR IntKind.i64 (id.tdiv (8 : Int) - (1 : Int)) ∧ (8 : Int) ≠ (0 : Int) ∧ ([] : List Go.Eng.Res) = [] ∧ Ent.tup [SV.c (SC.v (Value.int IntKind.i64 (id.tdiv (8 : Int) - (1 : Int)))), SV.c (SC.v (Value.int IntKind.i64 (id.tmod (8 : Int))))] = Ent.tup [SV.c (SC.v (Value.int IntKind.i64 (id.tdiv (8 : Int) - (1 : Int)))), SV.c (SC.v (Value.int IntKind.i64 (id.tmod (8 : Int))))] := by
  have hp : 0 ≤ id ∧ id ≤ 9223372036854775807 := hpre
  have e : id.tdiv 8 = id / 8 := Int.tdiv_eq_ediv_of_nonneg hp.1
  exact ⟨by decide, InR_i64.2 (by omega), InR_i64.2 (by omega), by decide, rfl, rfl⟩
set_option maxHeartbeats 2000000 in
set_option maxRecDepth 100000 in
theorem f23_met : Go.Eng.Met Tryd.prog cx0.gd 23 ctSpl :=
  met_of (cx := cx0) (n := 9) (cl := cl23) (by kernel_rfl) tis_ok trivial Tryd.func23 (by kernel_rfl) (by kernel_rfl) rfl (by kernel_rfl) (by kernel_rfl) fun d hd => by
    obtain ⟨id, ⟨⟩⟩ := d
    exact ex_of (ann23 id) (f23_vc id hd) (by kernel_rfl)
@[reducible] def ctDep : CT := { ps := [.int .i64], pre := fun d => d.1 ≤ 9223372036854775807, res := fun d => ([], .one (.c (.v (.int .i64 (depthI d.1))))) }
@[reducible] def cl22 : List (Nat × CT) := [(23, ctSpl)]
@[reducible] def ann22 (id : Int) : Nat → Option (St → Ann) := fun k => match k with
  | 4 => some fun _ => .inv { α := Nat × Int, slots := fun x => [(8, .c (.v (.int .i64 x.1))), (0, .c (.v (.int .i64 x.2)))], res := fun _ => [], inv := fun x => x.1 ≤ 5 ∧ 0 ≤ x.2 ∧ x.2 ≤ 9223372036854775807 ∧ depthF (5 - x.1) x.1 x.2 = depthI id, meas := fun x => 5 - x.1 }
  | _ => none
set_option maxRecDepth 100000 in
theorem f22_vc (id : Int) (hpre : ctDep.pre (id, ())) :
    br (decide (id < (0 : Int))) (([] : List Go.Eng.Res) = [] ∧ Ent.one (SV.c (SC.v (Value.int IntKind.i64 (depthI id)))) = Ent.one (SV.c (SC.v (Value.int IntKind.i64 (-1 : Int))))) ((∃ (x : Nat × Int), (x.fst ≤ (5 : Nat) ∧ (0 : Int) ≤ x.snd ∧ x.snd ≤ (9223372036854775807 : Int) ∧ depthF ((5 : Nat) - x.fst) (↑x.fst : Int) x.snd = depthI id) ∧ (SV.c (SC.v (Value.int IntKind.i64 (0 : Int))) = SV.c (SC.v (Value.int IntKind.i64 (↑x.fst : Int))) ∧ SV.c (SC.v (Value.int IntKind.i64 id)) = SV.c (SC.v (Value.int IntKind.i64 x.snd)) ∧ True) ∧ ([] : List (Go.Eng.Gd × Go.Eng.Res)) = []) ∧ ∀ (x : Nat × Int), x.fst ≤ (5 : Nat) ∧ (0 : Int) ≤ x.snd ∧ x.snd ≤ (9223372036854775807 : Int) ∧ depthF ((5 : Nat) - x.fst) (↑x.fst : Int) x.snd = depthI id → br (decide ((↑x.fst : Int) < (5 : Int))) (br (decide (x.snd < (8 : Int))) (([] : List Go.Eng.Res) = [] ∧ Ent.one (SV.c (SC.v (Value.int IntKind.i64 (depthI id)))) = Ent.one (SV.c (SC.v (Value.int IntKind.i64 (↑x.fst : Int))))) (((0 : (Sh.int IntKind.i64).den) ≤ x.snd ∧ x.snd ≤ (9223372036854775807 : (Sh.int IntKind.i64).den)) ∧ br (decide ((7 : Int) ≤ x.snd.tmod (8 : Int))) (([] : List Go.Eng.Res) = [] ∧ Ent.one (SV.c (SC.v (Value.int IntKind.i64 (depthI id)))) = Ent.one (SV.c (SC.v (Value.int IntKind.i64 (-1 : Int))))) (InR IntKind.i64 ((↑x.fst : Int) + (1 : Int)) ∧ ∃ (x' : Nat × Int), (x'.fst ≤ (5 : Nat) ∧ (0 : Int) ≤ x'.snd ∧ x'.snd ≤ (9223372036854775807 : Int) ∧ depthF ((5 : Nat) - x'.fst) (↑x'.fst : Int) x'.snd = depthI id) ∧ (SV.c (SC.v (Value.int IntKind.i64 ((↑x.fst : Int) + (1 : Int)))) = SV.c (SC.v (Value.int IntKind.i64 (↑x'.fst : Int))) ∧ SV.c (SC.v (Value.int IntKind.i64 (x.snd.tdiv (8 : Int) - (1 : Int)))) = SV.c (SC.v (Value.int IntKind.i64 x'.snd)) ∧ True) ∧ ([] : List (Go.Eng.Gd × Go.Eng.Res)) = [] ∧ (5 : Nat) - x'.fst < (5 : Nat) - x.fst))) (([] : List Go.Eng.Res) = [] ∧ Ent.one (SV.c (SC.v (Value.int IntKind.i64 (depthI id)))) = Ent.one (SV.c (SC.v (Value.int IntKind.i64 (-1 : Int)))))) := by
  have hp : id ≤ 9223372036854775807 := hpre
  refine br_iff.2 ⟨fun h => ?_, fun h => ?_⟩
  · simp only [decide_eq_true_eq] at h
    have e : depthI id = -1 := by unfold depthI; rw [if_pos h]
    rw [e]; exact ⟨rfl, rfl⟩
  simp only [decide_eq_false_iff_not] at h
  refine ⟨⟨(0, id), ⟨by omega, by simp only; omega, hp, by unfold depthI; rw [if_neg h]; rfl⟩, ⟨rfl, rfl, trivial⟩, rfl⟩, fun x hx => br_iff.2 ⟨fun h2 => ?_, fun h2 => ?_⟩⟩
  · obtain ⟨x1, x2, x3, x4⟩ := hx
    simp only [decide_eq_true_eq] at h2
    obtain ⟨m, hm⟩ : ∃ m, 5 - x.1 = m + 1 := ⟨4 - x.1, by omega⟩
    rw [hm, depthF] at x4
    refine br_iff.2 ⟨fun h3 => ?_, fun h3 => ⟨⟨x2, x3⟩, br_iff.2 ⟨fun h4 => ?_, fun h4 => ?_⟩⟩⟩
    · simp only [decide_eq_true_eq] at h3
      rw [if_pos h3] at x4
      rw [← x4]; exact ⟨rfl, rfl⟩
    · simp only [decide_eq_true_eq, decide_eq_false_iff_not] at h3 h4
      rw [if_neg h3, if_pos h4] at x4
      rw [← x4]; exact ⟨rfl, rfl⟩
    · simp only [decide_eq_false_iff_not] at h3 h4
      rw [if_neg h3, if_neg h4] at x4
      have e : x.2.tdiv 8 = x.2 / 8 := Int.tdiv_eq_ediv_of_nonneg x2
      refine ⟨InR_i64.2 (by omega), (x.1 + 1, x.2.tdiv 8 - 1), ⟨by simp only; omega, by simp only; omega, by simp only; omega, ?_⟩, ⟨rfl, rfl, trivial⟩, rfl, by simp only; omega⟩
      rw [← x4, show 5 - (x.1 + 1) = m by omega]; rfl
  · obtain ⟨x1, x2, x3, x4⟩ := hx
    simp only [decide_eq_false_iff_not] at h2
    rw [show 5 - x.1 = 0 by omega] at x4
    rw [← x4]; exact ⟨rfl, rfl⟩
set_option maxHeartbeats 2000000 in
set_option maxRecDepth 100000 in
theorem f22_met : Go.Eng.Met Tryd.prog cx0.gd 22 ctDep :=
  met_of (cx := cx0) (n := 23) (cl := cl22) (by kernel_rfl) tis_ok ⟨f23_met, trivial⟩ Tryd.func22 (by kernel_rfl) (by kernel_rfl) rfl (by kernel_rfl) (by kernel_rfl) fun d hd => by
    obtain ⟨id, ⟨⟩⟩ := d
    exact ex_of (ann22 id) (f22_vc id hd) (by kernel_rfl)
@[reducible] def ctDpt : CT := { ps := [.int .i64], pre := fun d => d.1 ≤ 9223372036854775807, res := fun d => ([], .one (.c (.v (.int .i64 (depthM d.1))))) }
@[reducible] def cl8 : List (Nat × CT) := [(22, ctDep)]
@[reducible] def ann8 (id : Int) : Nat → Option (St → Ann) := fun _ => none
set_option maxRecDepth 100000 in
theorem f8_vc (id : Int) (hpre : ctDpt.pre (id, ())) :
    id ≤ (9223372036854775807 : (Sh.int IntKind.i64).den) ∧ ([] : List Go.Eng.Res) = [] ∧ Ent.one (SV.c (SC.v (Value.int IntKind.i64 (depthM id)))) = Ent.one (SV.c (SC.v (Value.int IntKind.i64 (maxI (depthI id) (0 : Int))))) := by
  refine ⟨hpre, rfl, ?_⟩
  have e : depthM id = maxI (depthI id) 0 := by unfold depthM maxI; split <;> first | rfl | omega | (split <;> omega)
  rw [e]
set_option maxHeartbeats 2000000 in
set_option maxRecDepth 100000 in
theorem f8_met : Go.Eng.Met Tryd.prog cx0.gd 8 ctDpt :=
  met_of (cx := cx0) (n := 6) (cl := cl8) (by kernel_rfl) tis_ok ⟨f22_met, trivial⟩ Tryd.func8 (by kernel_rfl) (by kernel_rfl) rfl (by kernel_rfl) (by kernel_rfl) fun d hd => by
    obtain ⟨id, ⟨⟩⟩ := d
    exact ex_of (ann8 id) (f8_vc id hd) (by kernel_rfl)
@[reducible] def ctPar : CT := { ps := [.int .i64], pre := fun d => d.1 ≤ 9223372036854775807, res := fun d => ([], .tup [.c (.v (.int .i64 (parentS d.1).1)), .c (.v (.bool (parentS d.1).2))]) }
@[reducible] def cl7 : List (Nat × CT) := [(22, ctDep), (23, ctSpl)]
@[reducible] def ann7 (id : Int) : Nat → Option (St → Ann) := fun _ => none
set_option maxRecDepth 100000 in
theorem f7_vc (id : Int) (hpre : ctPar.pre (id, ())) :
    id ≤ (9223372036854775807 : (Sh.int IntKind.i64).den) ∧ br (decide (depthI id < (1 : Int))) (([] : List Go.Eng.Res) = [] ∧ Ent.tup [SV.c (SC.v (Value.int IntKind.i64 (parentS id).fst)), SV.c (SC.v (Value.bool (parentS id).snd))] = Ent.tup [SV.c (SC.v (Value.int IntKind.i64 (0 : Int))), SV.c (SC.v (Value.bool false))]) (((0 : (Sh.int IntKind.i64).den) ≤ id ∧ id ≤ (9223372036854775807 : (Sh.int IntKind.i64).den)) ∧ ([] : List Go.Eng.Res) = [] ∧ Ent.tup [SV.c (SC.v (Value.int IntKind.i64 (parentS id).fst)), SV.c (SC.v (Value.bool (parentS id).snd))] = Ent.tup [SV.c (SC.v (Value.int IntKind.i64 (id.tdiv (8 : Int) - (1 : Int)))), SV.c (SC.v (Value.bool true))]) := by
  have hp : id ≤ 9223372036854775807 := hpre
  refine ⟨hp, br_iff.2 ⟨fun h => ?_, fun h => ?_⟩⟩
  · simp only [decide_eq_true_eq] at h
    have e : parentS id = (0, false) := by unfold parentS; rw [if_pos h]
    rw [e]; exact ⟨rfl, rfl⟩
  · simp only [decide_eq_false_iff_not] at h
    have e : parentS id = (id.tdiv 8 - 1, true) := by unfold parentS; rw [if_neg h]
    have := depthI_lt (id := id) (by omega)
    rw [e]; exact ⟨⟨this.1, hp⟩, rfl, rfl⟩
set_option maxHeartbeats 2000000 in
set_option maxRecDepth 100000 in
theorem f7_met : Go.Eng.Met Tryd.prog cx0.gd 7 ctPar :=
  met_of (cx := cx0) (n := 15) (cl := cl7) (by kernel_rfl) tis_ok ⟨f22_met, f23_met, trivial⟩ Tryd.func7 (by kernel_rfl) (by kernel_rfl) rfl (by kernel_rfl) (by kernel_rfl) fun d hd => by
    obtain ⟨id, ⟨⟩⟩ := d
    exact ex_of (ann7 id) (f7_vc id hd) (by kernel_rfl)
@[reducible] def ctChi : CT := { ps := [shT], pre := fun d => d.1.1 ≤ 9223372036854775807, res := fun d => ([], .tup [.c (.v (.int .i64 (childS d.1.1 d.1.2.2.2.2.2.1).1)), .c (.v (.bool (childS d.1.1 d.1.2.2.2.2.2.1).2))]) }
@[reducible] def cl6 : List (Nat × CT) := [(22, ctDep)]
@[reducible] def ann6 (id : Int) (fn : Int) (pc : Int) (rg : List Int) (st : Int) (ch : Int) (ph : Int) (su : Int) (fa : Int) (he : List Int) : Nat → Option (St → Ann) := fun _ => none
set_option maxRecDepth 100000 in
theorem f6_vc (id : Int) (fn : Int) (pc : Int) (rg : List Int) (st : Int) (ch : Int) (ph : Int) (su : Int) (fa : Int) (he : List Int) (hpre : ctChi.pre ((id, fn, pc, rg, st, ch, ph, su, fa, he, ()), ())) :
    id ≤ (9223372036854775807 : (Sh.int IntKind.i64).den) ∧ br (decide (depthI id < (0 : Int)) || decide (depthI id = (4 : Int)) || decide (ch < (0 : Int)) || decide ((7 : Int) ≤ ch)) (([] : List Go.Eng.Res) = [] ∧ Ent.tup [SV.c (SC.v (Value.int IntKind.i64 (childS id ch).fst)), SV.c (SC.v (Value.bool (childS id ch).snd))] = Ent.tup [SV.c (SC.v (Value.int IntKind.i64 (0 : Int))), SV.c (SC.v (Value.bool false))]) (InR IntKind.i64 (id + (1 : Int)) ∧ InR IntKind.i64 ((8 : Int) * (id + (1 : Int))) ∧ InR IntKind.i64 ((8 : Int) * (id + (1 : Int)) + ch) ∧ ([] : List Go.Eng.Res) = [] ∧ Ent.tup [SV.c (SC.v (Value.int IntKind.i64 (childS id ch).fst)), SV.c (SC.v (Value.bool (childS id ch).snd))] = Ent.tup [SV.c (SC.v (Value.int IntKind.i64 ((8 : Int) * (id + (1 : Int)) + ch))), SV.c (SC.v (Value.bool true))]) := by
  refine ⟨hpre, br_iff.2 ⟨fun h => ?_, fun h => ?_⟩⟩
  · have e : childS id ch = (0, false) := by
      unfold childS
      rw [if_pos (by simpa [or_assoc] using h)]
    rw [e]; exact ⟨rfl, rfl⟩
  · simp only [Bool.or_eq_false_iff, decide_eq_false_iff_not] at h
    have e : childS id ch = (8 * (id + 1) + ch, true) := by
      unfold childS
      rw [if_neg (by omega)]
    have := depthI_lt (id := id) (by omega)
    rw [e]
    exact ⟨InR_i64.2 (by omega), InR_i64.2 (by omega), InR_i64.2 (by omega), rfl, rfl⟩
set_option maxHeartbeats 2000000 in
set_option maxRecDepth 100000 in
theorem f6_met : Go.Eng.Met Tryd.prog cx0.gd 6 ctChi :=
  met_of (cx := cx0) (n := 31) (cl := cl6) (by kernel_rfl) tis_ok ⟨f22_met, trivial⟩ Tryd.func6 (by kernel_rfl) (by kernel_rfl) rfl (by kernel_rfl) (by kernel_rfl) fun d hd => by
    obtain ⟨⟨id, fn, pc, rg, st, ch, ph, su, fa, he, ⟨⟩⟩, ⟨⟩⟩ := d
    exact ex_of (ann6 id fn pc rg st ch ph su fa he) (f6_vc id fn pc rg st ch ph su fa he hd) (by kernel_rfl)
@[reducible] def ctAt : CT := { ps := [shP, shT], pre := fun d => 0 ≤ d.2.1.2.1 ∧ d.2.1.2.1 < d.1.2.2.2.1.length ∧ 0 ≤ d.2.1.2.2.1, res := fun d => ([], .tup [.agg [.v (.int .i64 ((atR d.1.2.2.2.1 d.2.1.2.1 d.2.1.2.2.1).1).1), .v (.int .i64 ((atR d.1.2.2.2.1 d.2.1.2.1 d.2.1.2.2.1).1).2.1), .v (.int .i64 ((atR d.1.2.2.2.1 d.2.1.2.1 d.2.1.2.2.1).1).2.2.1), .v (.int .i64 ((atR d.1.2.2.2.1 d.2.1.2.1 d.2.1.2.2.1).1).2.2.2.1), .v (.int .i64 ((atR d.1.2.2.2.1 d.2.1.2.1 d.2.1.2.2.1).1).2.2.2.2.1), .v (.int .i64 ((atR d.1.2.2.2.1 d.2.1.2.1 d.2.1.2.2.1).1).2.2.2.2.2.1), .v (.int .i64 ((atR d.1.2.2.2.1 d.2.1.2.1 d.2.1.2.2.1).1).2.2.2.2.2.2.1), .v (.int .i64 ((atR d.1.2.2.2.1 d.2.1.2.1 d.2.1.2.2.1).1).2.2.2.2.2.2.2.1)], .c (.v (.bool (atR d.1.2.2.2.1 d.2.1.2.1 d.2.1.2.2.1).2))]) }
@[reducible] def cl34 : List (Nat × CT) := []
@[reducible] def ann34 (vs : List VD) (ms : List ByteArray) (cs : List ByteArray) (fs : List FD) (ts : List SD) (id : Int) (fn : Int) (pc : Int) (rg : List Int) (st : Int) (ch : Int) (ph : Int) (su : Int) (fa : Int) (he : List Int) : Nat → Option (St → Ann) := fun _ => none
@[reducible] def il34 : List (Nat × IP) := []
@[reducible] def hl34 : List (Nat × Nat × CT) := []
@[reducible] def ml34 : List (Nat × MK) := []
set_option maxRecDepth 100000 in
theorem f34_vc (vs : List VD) (ms : List ByteArray) (cs : List ByteArray) (fs : List FD) (ts : List SD) (id : Int) (fn : Int) (pc : Int) (rg : List Int) (st : Int) (ch : Int) (ph : Int) (su : Int) (fa : Int) (he : List Int) (hpre : ctAt.pre ((vs, ms, cs, fs, ts, ()), (id, fn, pc, rg, st, ch, ph, su, fa, he, ()), ())) :
    ((0 : Int) ≤ fn ∧ fn < (↑fs.length : Int)) ∧ ∀ (d : Sh.str.den × (((Sh.int IntKind.i64).pair ((Sh.int IntKind.i64).pair ((Sh.int IntKind.i64).pair ((Sh.int IntKind.i64).pair ((Sh.int IntKind.i64).pair ((Sh.int IntKind.i64).pair ((Sh.int IntKind.i64).pair ((Sh.int IntKind.i64).pair Sh.unit)))))))).sl.pair Sh.unit).den), fs[fn.toNat]? = some d → br (decide ((↑(List.length d.snd.fst) : Int) ≤ pc)) (([] : List Go.Eng.Res) = [] ∧ Ent.tup [SV.agg [SC.v (Value.int IntKind.i64 (atR fs fn pc).fst.fst), SC.v (Value.int IntKind.i64 (atR fs fn pc).fst.snd.fst), SC.v (Value.int IntKind.i64 (atR fs fn pc).fst.snd.snd.fst), SC.v (Value.int IntKind.i64 (atR fs fn pc).fst.snd.snd.snd.fst), SC.v (Value.int IntKind.i64 (atR fs fn pc).fst.snd.snd.snd.snd.fst), SC.v (Value.int IntKind.i64 (atR fs fn pc).fst.snd.snd.snd.snd.snd.fst), SC.v (Value.int IntKind.i64 (atR fs fn pc).fst.snd.snd.snd.snd.snd.snd.fst), SC.v (Value.int IntKind.i64 (atR fs fn pc).fst.snd.snd.snd.snd.snd.snd.snd.fst)], SV.c (SC.v (Value.bool (atR fs fn pc).snd))] = Ent.tup [SV.agg [SC.v (Value.int IntKind.i64 (0 : Int)), SC.v (Value.int IntKind.i64 (0 : Int)), SC.v (Value.int IntKind.i64 (0 : Int)), SC.v (Value.int IntKind.i64 (0 : Int)), SC.v (Value.int IntKind.i64 (0 : Int)), SC.v (Value.int IntKind.i64 (0 : Int)), SC.v (Value.int IntKind.i64 (0 : Int)), SC.v (Value.int IntKind.i64 (0 : Int))], SV.c (SC.v (Value.bool false))]) (((0 : Int) ≤ pc ∧ pc < (↑(List.length d.snd.fst) : Int)) ∧ ∀ (d_1 : (Sh.int IntKind.i64).den × ((Sh.int IntKind.i64).pair ((Sh.int IntKind.i64).pair ((Sh.int IntKind.i64).pair ((Sh.int IntKind.i64).pair ((Sh.int IntKind.i64).pair ((Sh.int IntKind.i64).pair ((Sh.int IntKind.i64).pair Sh.unit))))))).den), d.snd.fst[pc.toNat]? = some d_1 → ([] : List Go.Eng.Res) = [] ∧ Ent.tup [SV.agg [SC.v (Value.int IntKind.i64 (atR fs fn pc).fst.fst), SC.v (Value.int IntKind.i64 (atR fs fn pc).fst.snd.fst), SC.v (Value.int IntKind.i64 (atR fs fn pc).fst.snd.snd.fst), SC.v (Value.int IntKind.i64 (atR fs fn pc).fst.snd.snd.snd.fst), SC.v (Value.int IntKind.i64 (atR fs fn pc).fst.snd.snd.snd.snd.fst), SC.v (Value.int IntKind.i64 (atR fs fn pc).fst.snd.snd.snd.snd.snd.fst), SC.v (Value.int IntKind.i64 (atR fs fn pc).fst.snd.snd.snd.snd.snd.snd.fst), SC.v (Value.int IntKind.i64 (atR fs fn pc).fst.snd.snd.snd.snd.snd.snd.snd.fst)], SV.c (SC.v (Value.bool (atR fs fn pc).snd))] = Ent.tup [SV.agg [SC.v (Value.int IntKind.i64 d_1.fst), SC.v (Value.int IntKind.i64 d_1.snd.fst), SC.v (Value.int IntKind.i64 d_1.snd.snd.fst), SC.v (Value.int IntKind.i64 d_1.snd.snd.snd.fst), SC.v (Value.int IntKind.i64 d_1.snd.snd.snd.snd.fst), SC.v (Value.int IntKind.i64 d_1.snd.snd.snd.snd.snd.fst), SC.v (Value.int IntKind.i64 d_1.snd.snd.snd.snd.snd.snd.fst), SC.v (Value.int IntKind.i64 d_1.snd.snd.snd.snd.snd.snd.snd.fst)], SV.c (SC.v (Value.bool true))]) := by
  obtain ⟨h1, h2, h3⟩ : 0 ≤ fn ∧ fn < (fs.length : Int) ∧ 0 ≤ pc := hpre
  refine ⟨⟨h1, h2⟩, fun x hx => ?_⟩
  obtain ⟨y, hy, ey⟩ := codeF_get ⟨h1, h2⟩
  rw [hx] at hy; cases hy
  refine br_iff.2 ⟨fun h => ?_, fun h => ?_⟩
  · simp only [decide_eq_true_eq] at h
    have e : atR fs fn pc = ((0, 0, 0, 0, 0, 0, 0, 0, ()), false) := by
      unfold atR atS
      rw [ey, List.getElem?_eq_none (by omega)]
    rw [e]; exact ⟨rfl, rfl⟩
  · simp only [decide_eq_false_iff_not] at h
    refine ⟨⟨h3, by omega⟩, fun i hi => ?_⟩
    have e : atR fs fn pc = (i, true) := by
      unfold atR atS
      rw [ey, hi]
    rw [e]; exact ⟨rfl, rfl⟩
set_option maxHeartbeats 2000000 in
set_option maxRecDepth 100000 in
theorem f34_met : Go.Eng.Met Tryd.prog cx0.gd 34 ctAt :=
  (met_all (cx := cx0) (n := 25) (cl := cl34) (il := il34) (hl := hl34) (ml := ml34) (rc := []) (lits := []) (suf := []) (by kernel_rfl) tis_ok trivial trivial trivial trivial Tryd.func34 (by kernel_rfl) (by kernel_rfl) rfl (by kernel_rfl) (by kernel_rfl) (by simp) fun d hd => by
    obtain ⟨⟨vs, ms, cs, fs, ts, ⟨⟩⟩, ⟨id, fn, pc, rg, st, ch, ph, su, fa, he, ⟨⟩⟩, ⟨⟩⟩ := d
    exact ex_of (ann34 vs ms cs fs ts id fn pc rg st ch ph su fa he) (f34_vc vs ms cs fs ts id fn pc rg st ch ph su fa he hd) (by kernel_rfl)).met
@[reducible] def ctEnd : CT := { ps := [shT, .int .i64, .int .i64], pre := fun d => True, res := fun d => ([], .one (.dat shT (endS d.1 d.2.1 d.2.2.1))) }
@[reducible] def cl41 : List (Nat × CT) := []
@[reducible] def ann41 (id : Int) (fn : Int) (pc : Int) (rg : List Int) (st : Int) (ch : Int) (ph : Int) (su : Int) (fa : Int) (he : List Int) (s : Int) (f : Int) : Nat → Option (St → Ann) := fun _ => none
@[reducible] def il41 : List (Nat × IP) := []
@[reducible] def hl41 : List (Nat × Nat × CT) := []
@[reducible] def ml41 : List (Nat × MK) := []
set_option maxRecDepth 100000 in
theorem f41_vc (id : Int) (fn : Int) (pc : Int) (rg : List Int) (st : Int) (ch : Int) (ph : Int) (su : Int) (fa : Int) (he : List Int) (s : Int) (f : Int) :
    ([] : List Go.Eng.Res) = [] ∧ Ent.one (SV.dat ((Sh.int IntKind.i64).pair ((Sh.int IntKind.i64).pair ((Sh.int IntKind.i64).pair ((Sh.arr (8 : Nat) (Sh.int IntKind.i64)).pair ((Sh.int IntKind.i64).pair ((Sh.int IntKind.i64).pair ((Sh.int IntKind.i64).pair ((Sh.int IntKind.i64).pair ((Sh.int IntKind.i64).pair ((Sh.int IntKind.i64).sl.pair Sh.unit)))))))))) (endS (id, fn, pc, rg, st, ch, ph, su, fa, he, ()) s f)) = Ent.one (SV.dat ((Sh.int IntKind.i64).pair ((Sh.int IntKind.i64).pair ((Sh.int IntKind.i64).pair ((Sh.arr (8 : Nat) (Sh.int IntKind.i64)).pair ((Sh.int IntKind.i64).pair ((Sh.int IntKind.i64).pair ((Sh.int IntKind.i64).pair ((Sh.int IntKind.i64).pair ((Sh.int IntKind.i64).pair ((Sh.int IntKind.i64).sl.pair Sh.unit)))))))))) ((id, fn, pc, rg, st, ch, ph, s, f, he, ()))) := by
  exact ⟨rfl, rfl⟩
set_option maxHeartbeats 2000000 in
set_option maxRecDepth 100000 in
theorem f41_met : Go.Eng.Met Tryd.prog cx0.gd 41 ctEnd :=
  (met_all (cx := cx0) (n := 12) (cl := cl41) (il := il41) (hl := hl41) (ml := ml41) (rc := [.data shT]) (lits := []) (suf := []) (by kernel_rfl) tis_ok trivial trivial trivial trivial Tryd.func41 (by kernel_rfl) (by kernel_rfl) rfl (by kernel_rfl) (by kernel_rfl) (by simp) fun d hd => by
    obtain ⟨⟨id, fn, pc, rg, st, ch, ph, su, fa, he, ⟨⟩⟩, s, f, ⟨⟩⟩ := d
    exact ex_of (ann41 id fn pc rg st ch ph su fa he s f) (f41_vc id fn pc rg st ch ph su fa he s f) (by kernel_rfl)).met
@[reducible] def ctObs : CT := { ps := [shT, shI], pre := fun d => d.1.2.2.2.2.2.2.2.2.2.1.length ≤ 1000000 ∧ d.1.1 ≤ 9223372036854775807, res := fun d => ([], .one (.c (.v (.int .i64 (obsS d.1.1 d.1.2.2.2.2.2.1 d.1.2.2.2.2.2.2.1 d.1.2.2.2.2.2.2.2.2.2.1 d.2.1))))) }
@[reducible] def cl43 : List (Nat × CT) := [(46, ctHas), (6, ctChi)]
@[reducible] def ann43 (id : Int) (fn : Int) (pc : Int) (rg : List Int) (st : Int) (ch : Int) (ph : Int) (su : Int) (fa : Int) (he : List Int) (op : Int) (a : Int) (b : Int) (c : Int) (obj : Int) (n : Int) (fo : Int) (ord : Int) : Nat → Option (St → Ann) := fun _ => none
set_option maxRecDepth 100000 in
theorem f43_vc (id : Int) (fn : Int) (pc : Int) (rg : List Int) (st : Int) (ch : Int) (ph : Int) (su : Int) (fa : Int) (he : List Int) (op : Int) (a : Int) (b : Int) (c : Int) (obj : Int) (n : Int) (fo : Int) (ord : Int) (hpre : ctObs.pre ((id, fn, pc, rg, st, ch, ph, su, fa, he, ()), (op, a, b, c, obj, n, fo, ord, ()), ())) :
    br (!decide (ph = (0 : Int))) (([] : List Go.Eng.Res) = [] ∧ Ent.one (SV.c (SC.v (Value.int IntKind.i64 (obsS id ch ph he (op, a, b, c, obj, n, fo, ord, ()))))) = Ent.one (SV.c (SC.v (Value.int IntKind.i64 (0 : Int))))) (br (decide (op = (18 : Int))) (he.length ≤ (1000000 : Nat) ∧ br (!hasI he n) (([] : List Go.Eng.Res) = [] ∧ Ent.one (SV.c (SC.v (Value.int IntKind.i64 (obsS id ch ph he (op, a, b, c, obj, n, fo, ord, ()))))) = Ent.one (SV.c (SC.v (Value.int IntKind.i64 (27 : Int))))) (([] : List Go.Eng.Res) = [] ∧ Ent.one (SV.c (SC.v (Value.int IntKind.i64 (obsS id ch ph he (op, a, b, c, obj, n, fo, ord, ()))))) = Ent.one (SV.c (SC.v (Value.int IntKind.i64 (0 : Int)))))) (br (decide (op = (16 : Int))) (he.length ≤ (1000000 : Nat) ∧ br (!hasI he obj) (([] : List Go.Eng.Res) = [] ∧ Ent.one (SV.c (SC.v (Value.int IntKind.i64 (obsS id ch ph he (op, a, b, c, obj, n, fo, ord, ()))))) = Ent.one (SV.c (SC.v (Value.int IntKind.i64 (27 : Int))))) (([] : List Go.Eng.Res) = [] ∧ Ent.one (SV.c (SC.v (Value.int IntKind.i64 (obsS id ch ph he (op, a, b, c, obj, n, fo, ord, ()))))) = Ent.one (SV.c (SC.v (Value.int IntKind.i64 (0 : Int)))))) (br (decide (op = (21 : Int))) (id ≤ (9223372036854775807 : (Sh.int IntKind.i64).den) ∧ br (!(childS id ch).snd) (([] : List Go.Eng.Res) = [] ∧ Ent.one (SV.c (SC.v (Value.int IntKind.i64 (obsS id ch ph he (op, a, b, c, obj, n, fo, ord, ()))))) = Ent.one (SV.c (SC.v (Value.int IntKind.i64 (28 : Int))))) (([] : List Go.Eng.Res) = [] ∧ Ent.one (SV.c (SC.v (Value.int IntKind.i64 (obsS id ch ph he (op, a, b, c, obj, n, fo, ord, ()))))) = Ent.one (SV.c (SC.v (Value.int IntKind.i64 (0 : Int)))))) (([] : List Go.Eng.Res) = [] ∧ Ent.one (SV.c (SC.v (Value.int IntKind.i64 (obsS id ch ph he (op, a, b, c, obj, n, fo, ord, ()))))) = Ent.one (SV.c (SC.v (Value.int IntKind.i64 (0 : Int)))))))) := by
  obtain ⟨h1, h2⟩ : he.length ≤ 1000000 ∧ id ≤ 9223372036854775807 := hpre
  unfold obsS
  simp only [br_iff]
  repeat' (first | exact h1 | exact h2 | (refine And.intro ?_ ?_) | (intro _))
  all_goals first | rfl | (simp_all; done)
set_option maxHeartbeats 2000000 in
set_option maxRecDepth 100000 in
theorem f43_met : Go.Eng.Met Tryd.prog cx0.gd 43 ctObs :=
  met_of (cx := cx0) (n := 35) (cl := cl43) (by kernel_rfl) tis_ok ⟨f46_met, f6_met, trivial⟩ Tryd.func43 (by kernel_rfl) (by kernel_rfl) rfl (by kernel_rfl) (by kernel_rfl) fun d hd => by
    obtain ⟨⟨id, fn, pc, rg, st, ch, ph, su, fa, he, ⟨⟩⟩, ⟨op, a, b, c, obj, n, fo, ord, ⟨⟩⟩, ⟨⟩⟩ := d
    exact ex_of (ann43 id fn pc rg st ch ph su fa he op a b c obj n fo ord) (f43_vc id fn pc rg st ch ph su fa he op a b c obj n fo ord hd) (by kernel_rfl)
end Go.Proofs.YtklnffdjhoacoaaDoor
