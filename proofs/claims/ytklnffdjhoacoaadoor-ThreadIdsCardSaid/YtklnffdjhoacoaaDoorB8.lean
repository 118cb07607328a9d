/- Texts of this claim, part 8: W7, L4. Conditions: those of the given rows. -/
import Derived.Test.YtklnffdjhoacoaaDoorB7
import Derived.Test.YtklnffdjhoacoaaDoorCards
import Derived.Test.YtklnffdjhoacoaaDoorTie
import Derived.WalkKit
import Derived.ProofKit
import Derived.OpenShut
import Derived.Deep.DeepHandedRow
import Derived.Lib.LaidTab
set_option linter.unusedSimpArgs false
set_option linter.unusedVariables false
set_option maxRecDepth 100000
namespace Go.Proofs.YtklnffdjhoacoaaDoor
open Go Go.Eng

@[reducible] def ctIsI : CT := { ps := [.int .i64], pre := fun d => d.1 ≤ 9223372036854775807, res := fun d => ([], vB (decide (0 ≤ depthI d.1))) }
@[reducible] def cl25 : List (Nat × CT) := []
@[reducible] def ann25 (id : Int) : Nat → Option (St → Ann) := fun k => match k with
  | 2 => some fun _ => .inv { α := Nat × Int, slots := fun x => [(3, .c (.v (.int .i64 x.1))), (0, .c (.v (.int .i64 x.2)))], res := fun _ => [], inv := fun x => x.1 ≤ 5 ∧ x.2 ≤ 9223372036854775807 ∧ depthI id = if x.2 < 0 then -1 else depthF (5 - x.1) x.1 x.2, meas := fun x => 5 - x.1 }
  | _ => none
set_option maxRecDepth 100000 in
theorem f25_vc (id : Int) (hpre : ctIsI.pre (id, ())) :
    (∃ (x : Nat × Int), (x.fst ≤ (5 : Nat) ∧ x.snd ≤ (9223372036854775807 : Int) ∧ depthI id = if x.snd < (0 : Int) then (-1 : Int) else depthF ((5 : Nat) - x.fst) (↑x.fst : Int) x.snd) ∧ (SV.c (SC.v (Value.int IntKind.i64 (0 : Int))) = SV.c (SC.v (Value.int IntKind.i64 (↑x.fst : Int))) ∧ SV.c (SC.v (Value.int IntKind.i64 id)) = SV.c (SC.v (Value.int IntKind.i64 x.snd)) ∧ True) ∧ ([] : List (Go.Eng.Gd × Go.Eng.Res)) = []) ∧ ∀ (x : Nat × Int), (x.fst ≤ (5 : Nat) ∧ x.snd ≤ (9223372036854775807 : Int) ∧ depthI id = if x.snd < (0 : Int) then (-1 : Int) else depthF ((5 : Nat) - x.fst) (↑x.fst : Int) x.snd) → br (decide ((↑x.fst : Int) ≤ (4 : Int))) (br (decide (x.snd < (0 : Int))) (([] : List Go.Eng.Res) = [] ∧ Ent.one (SV.c (SC.v (Value.bool (decide ((0 : Int) ≤ depthI id))))) = Ent.one (SV.c (SC.v (Value.bool false)))) (br (decide (x.snd < (8 : Int))) (([] : List Go.Eng.Res) = [] ∧ Ent.one (SV.c (SC.v (Value.bool (decide ((0 : Int) ≤ depthI id))))) = Ent.one (SV.c (SC.v (Value.bool true)))) ((8 : Int) ≠ (0 : Int) ∧ br (decide ((7 : Int) ≤ x.snd.tmod (8 : Int))) (([] : List Go.Eng.Res) = [] ∧ Ent.one (SV.c (SC.v (Value.bool (decide ((0 : Int) ≤ depthI id))))) = Ent.one (SV.c (SC.v (Value.bool false)))) ((8 : Int) ≠ (0 : Int) ∧ InR IntKind.i64 (x.snd.tdiv (8 : Int)) ∧ InR IntKind.i64 (x.snd.tdiv (8 : Int) - (1 : Int)) ∧ InR IntKind.i64 ((↑x.fst : Int) + (1 : Int)) ∧ ∃ (x' : Nat × Int), (x'.fst ≤ (5 : Nat) ∧ x'.snd ≤ (9223372036854775807 : Int) ∧ depthI id = if x'.snd < (0 : Int) then (-1 : Int) else depthF ((5 : Nat) - x'.fst) (↑x'.fst : Int) x'.snd) ∧ (SV.c (SC.v (Value.int IntKind.i64 ((↑x.fst : Int) + (1 : Int)))) = SV.c (SC.v (Value.int IntKind.i64 (↑x'.fst : Int))) ∧ SV.c (SC.v (Value.int IntKind.i64 (x.snd.tdiv (8 : Int) - (1 : Int)))) = SV.c (SC.v (Value.int IntKind.i64 x'.snd)) ∧ True) ∧ ([] : List (Go.Eng.Gd × Go.Eng.Res)) = [] ∧ (5 : Nat) - x'.fst < (5 : Nat) - x.fst)))) (([] : List Go.Eng.Res) = [] ∧ Ent.one (SV.c (SC.v (Value.bool (decide ((0 : Int) ≤ depthI id))))) = Ent.one (SV.c (SC.v (Value.bool false)))) := by
  have hp : id ≤ 9223372036854775807 := hpre
  refine ⟨⟨(0, id), ⟨by omega, hp, rfl⟩, ⟨rfl, rfl, trivial⟩, rfl⟩, fun x hx => ?_⟩
  obtain ⟨k, v⟩ := x
  obtain ⟨x1, x2, x3⟩ := hx
  have x1 : k ≤ 5 := x1
  have x2 : v ≤ 9223372036854775807 := x2
  have x3 : depthI id = if v < 0 then -1 else depthF (5 - k) k v := x3
  refine br_dec.2 ⟨fun h => br_dec.2 ⟨fun h2 => ?_, fun h2 => br_dec.2 ⟨fun h3 => ?_, fun h3 => ⟨by decide, br_dec.2 ⟨fun h4 => ?_, fun h4 => ?_⟩⟩⟩⟩, fun h => ?_⟩
  · have h2 : v < 0 := h2
    rw [if_pos h2] at x3
    rw [x3]; exact ⟨rfl, rfl⟩
  all_goals first | (have h : k ≤ 4 := by (have : (k : Int) ≤ 4 := h); omega) | skip
  all_goals first | (have h2 : ¬ v < 0 := h2) | skip
  · have h3 : v < 8 := h3
    rw [if_neg h2] at x3
    obtain ⟨m, hm⟩ : ∃ m, 5 - k = m + 1 := ⟨4 - k, by omega⟩
    rw [hm, depthF, if_pos h3] at x3
    rw [x3, show decide ((0 : Int) ≤ k) = true from decide_eq_true (by omega)]; exact ⟨rfl, rfl⟩
  · have h3 : ¬ v < 8 := h3
    have h4 : 7 ≤ v.tmod 8 := h4
    rw [if_neg h2] at x3
    obtain ⟨m, hm⟩ : ∃ m, 5 - k = m + 1 := ⟨4 - k, by omega⟩
    rw [hm, depthF, if_neg h3, if_pos h4] at x3
    rw [x3]; exact ⟨rfl, rfl⟩
  · have h3 : ¬ v < 8 := h3
    have h4 : ¬ 7 ≤ v.tmod 8 := h4
    rw [if_neg h2] at x3
    obtain ⟨m, hm⟩ : ∃ m, 5 - k = m + 1 := ⟨4 - k, by omega⟩
    rw [hm, depthF, if_neg h3, if_neg h4] at x3
    have e : v.tdiv 8 = v / 8 := Int.tdiv_eq_ediv_of_nonneg (by omega)
    refine ⟨by decide, InR_i64.2 (show (-9223372036854775808 : Int) ≤ v.tdiv 8 ∧ v.tdiv 8 ≤ 9223372036854775807 by omega), InR_i64.2 (show (-9223372036854775808 : Int) ≤ v.tdiv 8 - 1 ∧ v.tdiv 8 - 1 ≤ 9223372036854775807 by omega), InR_i64.2 (show (-9223372036854775808 : Int) ≤ (k : Int) + 1 ∧ (k : Int) + 1 ≤ 9223372036854775807 by omega), (k + 1, v.tdiv 8 - 1), ⟨show k + 1 ≤ 5 by omega, show v.tdiv 8 - 1 ≤ 9223372036854775807 by omega, ?_⟩, ⟨rfl, rfl, trivial⟩, rfl, show 5 - (k + 1) < 5 - k by omega⟩
    show depthI id = if v.tdiv 8 - 1 < 0 then -1 else depthF (5 - (k + 1)) ((k + 1 : Nat) : Int) (v.tdiv 8 - 1)
    rw [if_neg (by omega), x3, show 5 - (k + 1) = m by omega]; rfl
  · have h : ¬ k ≤ 4 := by have : ¬ (k : Int) ≤ 4 := h
                           omega
    rw [show 5 - k = 0 by omega] at x3
    have : depthI id = -1 := by rw [x3]; split <;> rfl
    rw [this]; exact ⟨rfl, rfl⟩
set_option maxHeartbeats 2000000 in
set_option maxRecDepth 100000 in
theorem f25_met : Go.Eng.Met Tryd.prog cx0.gd 25 ctIsI :=
  met_of (cx := cx0) (n := 18) (cl := cl25) (by kernel_rfl) tis_ok trivial Tryd.func25 (by kernel_rfl) (by kernel_rfl) rfl (by kernel_rfl) (by kernel_rfl) fun d hd => by
    obtain ⟨id, ⟨⟩⟩ := d
    exact ex_of (ann25 id) (f25_vc id hd) (by kernel_rfl)
@[reducible] def ctrDp : CT := { ps := [.int .i64], pre := fun d => d.1 ≤ 9223372036854775807, res := fun d => ([], .one (.c (.v (.int .i64 (depthM d.1))))) }
@[reducible] def cl14 : List (Nat × CT) := [(25, ctIsI)]
@[reducible] def ann14 (id : Int) : Nat → Option (St → Ann) := fun k => match k with
  | 4 => some fun _ => .inv { α := Nat × Int, slots := fun x => [(3, .c (.v (.int .i64 x.1))), (0, .c (.v (.int .i64 x.2)))], res := fun _ => [], inv := fun x => x.1 ≤ 4 ∧ 0 ≤ x.2 ∧ x.2 ≤ 9223372036854775807 ∧ 0 ≤ depthI id ∧ depthF (5 - x.1) x.1 x.2 = depthI id, meas := fun x => x.2.toNat }
  | _ => none
set_option maxRecDepth 100000 in
theorem f14_vc (id : Int) (hpre : ctrDp.pre (id, ())) :
    id ≤ (9223372036854775807 : I6.den) ∧ br (!decide ((0 : Int) ≤ depthI id)) (([] : List Go.Eng.Res) = [] ∧ Ent.one (SV.c (SC.v (Value.int IntKind.i64 (depthM id)))) = Ent.one (SV.c (SC.v (Value.int IntKind.i64 (0 : Int))))) ((∃ (x : Nat × Int), (x.fst ≤ (4 : Nat) ∧ (0 : Int) ≤ x.snd ∧ x.snd ≤ (9223372036854775807 : Int) ∧ (0 : Int) ≤ depthI id ∧ depthF ((5 : Nat) - x.fst) (↑x.fst : Int) x.snd = depthI id) ∧ (SV.c (SC.v (Value.int IntKind.i64 (0 : Int))) = SV.c (SC.v (Value.int IntKind.i64 (↑x.fst : Int))) ∧ SV.c (SC.v (Value.int IntKind.i64 id)) = SV.c (SC.v (Value.int IntKind.i64 x.snd)) ∧ True) ∧ ([] : List (Go.Eng.Gd × Go.Eng.Res)) = []) ∧ ∀ (x : Nat × Int), x.fst ≤ (4 : Nat) ∧ (0 : Int) ≤ x.snd ∧ x.snd ≤ (9223372036854775807 : Int) ∧ (0 : Int) ≤ depthI id ∧ depthF ((5 : Nat) - x.fst) (↑x.fst : Int) x.snd = depthI id → br (decide ((8 : Int) ≤ x.snd)) ((8 : Int) ≠ (0 : Int) ∧ InR IntKind.i64 (x.snd.tdiv (8 : Int)) ∧ InR IntKind.i64 (x.snd.tdiv (8 : Int) - (1 : Int)) ∧ InR IntKind.i64 ((↑x.fst : Int) + (1 : Int)) ∧ ∃ (x' : Nat × Int), (x'.fst ≤ (4 : Nat) ∧ (0 : Int) ≤ x'.snd ∧ x'.snd ≤ (9223372036854775807 : Int) ∧ (0 : Int) ≤ depthI id ∧ depthF ((5 : Nat) - x'.fst) (↑x'.fst : Int) x'.snd = depthI id) ∧ (SV.c (SC.v (Value.int IntKind.i64 ((↑x.fst : Int) + (1 : Int)))) = SV.c (SC.v (Value.int IntKind.i64 (↑x'.fst : Int))) ∧ SV.c (SC.v (Value.int IntKind.i64 (x.snd.tdiv (8 : Int) - (1 : Int)))) = SV.c (SC.v (Value.int IntKind.i64 x'.snd)) ∧ True) ∧ ([] : List (Go.Eng.Gd × Go.Eng.Res)) = [] ∧ x'.snd.toNat < x.snd.toNat) (([] : List Go.Eng.Res) = [] ∧ Ent.one (SV.c (SC.v (Value.int IntKind.i64 (depthM id)))) = Ent.one (SV.c (SC.v (Value.int IntKind.i64 (↑x.fst : Int)))))) := by
  have hp : id ≤ 9223372036854775807 := hpre
  refine ⟨hp, br_iff.2 ⟨fun h => ?_, fun h => ?_⟩⟩
  · have h : ¬ 0 ≤ depthI id := by simpa using h
    have e : depthM id = 0 := by unfold depthM; rw [if_pos (by omega)]
    rw [e]; exact ⟨rfl, rfl⟩
  have h : 0 ≤ depthI id := by simpa using h
  have hl := depthI_lt h
  have em : depthM id = depthI id := by unfold depthM; rw [if_neg (by omega)]
  refine ⟨⟨(0, id), ⟨by omega, hl.1, hp, h, by unfold depthI; rw [if_neg (by omega)]; rfl⟩, ⟨rfl, rfl, trivial⟩, rfl⟩, fun x hx => ?_⟩
  obtain ⟨k, v⟩ := x
  obtain ⟨x1, x2, x3, _, x4⟩ := hx
  have x1 : k ≤ 4 := x1
  have x2 : 0 ≤ v := x2
  have x3 : v ≤ 9223372036854775807 := x3
  have x4 : depthF (5 - k) k v = depthI id := x4
  obtain ⟨m, hm⟩ : ∃ m, 5 - k = m + 1 := ⟨4 - k, by omega⟩
  rw [hm, depthF] at x4
  refine br_dec.2 ⟨fun h2 => ?_, fun h2 => ?_⟩
  · have h2 : ¬ v < 8 := by have : 8 ≤ v := h2
                            omega
    rw [if_neg h2] at x4
    split at x4
    · omega
    have e : v.tdiv 8 = v / 8 := Int.tdiv_eq_ediv_of_nonneg x2
    have hm0 : m ≠ 0 := by
      intro q
      subst q
      simp [depthF] at x4; omega
    refine ⟨by decide, InR_i64.2 (show (-9223372036854775808 : Int) ≤ v.tdiv 8 ∧ v.tdiv 8 ≤ 9223372036854775807 by omega), InR_i64.2 (show (-9223372036854775808 : Int) ≤ v.tdiv 8 - 1 ∧ v.tdiv 8 - 1 ≤ 9223372036854775807 by omega), InR_i64.2 (show (-9223372036854775808 : Int) ≤ (k : Int) + 1 ∧ (k : Int) + 1 ≤ 9223372036854775807 by omega), (k + 1, v.tdiv 8 - 1), ⟨show k + 1 ≤ 4 by omega, show 0 ≤ v.tdiv 8 - 1 by omega, show v.tdiv 8 - 1 ≤ 9223372036854775807 by omega, h, ?_⟩, ⟨rfl, rfl, trivial⟩, rfl, show (v.tdiv 8 - 1).toNat < v.toNat by omega⟩
    show depthF (5 - (k + 1)) ((k + 1 : Nat) : Int) (v.tdiv 8 - 1) = depthI id
    rw [← x4, show 5 - (k + 1) = m by omega]; rfl
  · have h2 : v < 8 := by have : ¬ 8 ≤ v := h2
                          omega
    rw [if_pos h2] at x4
    rw [em, ← x4]; exact ⟨rfl, rfl⟩
set_option maxHeartbeats 2000000 in
set_option maxRecDepth 100000 in
theorem f14_met : Go.Eng.Met Tryd.prog cx0.gd 14 ctrDp :=
  met_of (cx := cx0) (n := 15) (cl := cl14) (by kernel_rfl) tis_ok ⟨f25_met, trivial⟩ Tryd.func14 (by kernel_rfl) (by kernel_rfl) rfl (by kernel_rfl) (by kernel_rfl) fun d hd => by
    obtain ⟨id, ⟨⟩⟩ := d
    exact ex_of (ann14 id) (f14_vc id hd) (by kernel_rfl)
@[reducible] def ctrCh : CT := { ps := [shT], pre := fun d => d.1.1 ≤ 9223372036854775807, res := fun d => ([], .tup [.c (.v (.int .i64 (childS d.1.1 d.1.2.2.2.2.2.1).1)), .c (.v (.bool (childS d.1.1 d.1.2.2.2.2.2.1).2))]) }
@[reducible] def cl10 : List (Nat × CT) := [(25, ctIsI), (14, ctrDp)]
@[reducible] def ann10 (id : Int) (fn : Int) (pc : Int) (rg : List Int) (st : Int) (ch : Int) (ph : Int) (su : Int) (fa : Int) (he : List Int) : Nat → Option (St → Ann) := fun _ => none
set_option maxRecDepth 100000 in
theorem f10_vc (id : Int) (fn : Int) (pc : Int) (rg : List Int) (st : Int) (ch : Int) (ph : Int) (su : Int) (fa : Int) (he : List Int) (hpre : ctrCh.pre ((id, fn, pc, rg, st, ch, ph, su, fa, he, ()), ())) :
    id ≤ (9223372036854775807 : I6.den) ∧ ((!!decide ((0 : Int) ≤ depthI id)) = true → id ≤ (9223372036854775807 : I6.den)) ∧ br (!decide ((0 : Int) ≤ depthI id) || decide (depthM id = (4 : Int)) || decide (ch < (0 : Int)) || decide ((7 : Int) ≤ ch)) (([] : List Go.Eng.Res) = [] ∧ Ent.tup [SV.c (SC.v (Value.int IntKind.i64 (childS id ch).fst)), SV.c (SC.v (Value.bool (childS id ch).snd))] = Ent.tup [SV.c (SC.v (Value.int IntKind.i64 (0 : Int))), SV.c (SC.v (Value.bool false))]) (InR IntKind.i64 (id + (1 : Int)) ∧ InR IntKind.i64 ((8 : Int) * (id + (1 : Int))) ∧ InR IntKind.i64 ((8 : Int) * (id + (1 : Int)) + ch) ∧ ([] : List Go.Eng.Res) = [] ∧ Ent.tup [SV.c (SC.v (Value.int IntKind.i64 (childS id ch).fst)), SV.c (SC.v (Value.bool (childS id ch).snd))] = Ent.tup [SV.c (SC.v (Value.int IntKind.i64 ((8 : Int) * (id + (1 : Int)) + ch))), SV.c (SC.v (Value.bool true))]) := by
  have hp : id ≤ 9223372036854775807 := hpre
  refine ⟨hp, fun _ => hp, br_iff.2 ⟨fun h => ?_, fun h => ?_⟩⟩
  · have e : childS id ch = (0, false) := by
      unfold childS
      rw [if_pos]
      unfold depthM at h
      simp only [Bool.or_eq_true, Bool.not_eq_true', decide_eq_true_eq, decide_eq_false_iff_not] at h
      split at h <;> omega
    rw [e]; exact ⟨rfl, rfl⟩
  · simp only [Bool.or_eq_false_iff, Bool.not_eq_false', decide_eq_true_eq, decide_eq_false_iff_not] at h
    obtain ⟨⟨⟨h1, h2⟩, h3⟩, h4⟩ := h
    unfold depthM at h2
    rw [if_neg (by omega)] at h2
    have e : childS id ch = (8 * (id + 1) + ch, true) := by
      unfold childS
      rw [if_neg (by omega)]
    have := depthI_lt h1
    rw [e]
    exact ⟨InR_i64.2 (by omega), InR_i64.2 (by omega), InR_i64.2 (by omega), rfl, rfl⟩
set_option maxHeartbeats 2000000 in
set_option maxRecDepth 100000 in
theorem f10_met : Go.Eng.Met Tryd.prog cx0.gd 10 ctrCh :=
  met_of (cx := cx0) (n := 31) (cl := cl10) (by kernel_rfl) tis_ok ⟨f25_met, f14_met, trivial⟩ Tryd.func10 (by kernel_rfl) (by kernel_rfl) rfl (by kernel_rfl) (by kernel_rfl) fun d hd => by
    obtain ⟨⟨id, fn, pc, rg, st, ch, ph, su, fa, he, ⟨⟩⟩, ⟨⟩⟩ := d
    exact ex_of (ann10 id fn pc rg st ch ph su fa he) (f10_vc id fn pc rg st ch ph su fa he hd) (by kernel_rfl)
@[reducible] def cl11 : List (Nat × CT) := [(25, ctIsI)]
@[reducible] def ann11 (id : Int) : Nat → Option (St → Ann) := fun _ => none
set_option maxRecDepth 100000 in
theorem f11_vc (id : Int) (hpre : ctPar.pre (id, ())) :
    id ≤ (9223372036854775807 : I6.den) ∧ br (!decide ((0 : Int) ≤ depthI id) || decide (id < (8 : Int))) (([] : List Go.Eng.Res) = [] ∧ Ent.tup [SV.c (SC.v (Value.int IntKind.i64 (parentS id).fst)), SV.c (SC.v (Value.bool (parentS id).snd))] = Ent.tup [SV.c (SC.v (Value.int IntKind.i64 (0 : Int))), SV.c (SC.v (Value.bool false))]) ((8 : Int) ≠ (0 : Int) ∧ InR IntKind.i64 (id.tdiv (8 : Int)) ∧ InR IntKind.i64 (id.tdiv (8 : Int) - (1 : Int)) ∧ ([] : List Go.Eng.Res) = [] ∧ Ent.tup [SV.c (SC.v (Value.int IntKind.i64 (parentS id).fst)), SV.c (SC.v (Value.bool (parentS id).snd))] = Ent.tup [SV.c (SC.v (Value.int IntKind.i64 (id.tdiv (8 : Int) - (1 : Int)))), SV.c (SC.v (Value.bool true))]) := by
  have hp : id ≤ 9223372036854775807 := hpre
  have key : (¬ 0 ≤ depthI id ∨ id < 8) ↔ depthI id < 1 := by
    unfold depthI
    split
    · constructor <;> intro _ <;> omega
    · have e : depthF 5 0 id = if id < 8 then 0 else if 7 ≤ id.tmod 8 then -1 else depthF 4 1 (id.tdiv 8 - 1) := rfl
      rw [e]
      split
      · constructor <;> intro _ <;> omega
      · split
        · constructor <;> intro _ <;> omega
        · rcases depthF_rng 4 1 (id.tdiv 8 - 1) (by omega) with q | q <;> constructor <;> intro _ <;> omega
  refine ⟨hp, br_iff.2 ⟨fun h => ⟨rfl, ?_⟩, fun h => ?_⟩⟩
  · simp only [Bool.or_eq_true, Bool.not_eq_true', decide_eq_true_eq, decide_eq_false_iff_not] at h
    unfold parentS; rw [if_pos (key.1 h)]
  · simp only [Bool.or_eq_false_iff, Bool.not_eq_false', decide_eq_true_eq, decide_eq_false_iff_not] at h
    obtain ⟨h0, h1⟩ := depthI_lt h.1
    have e : id.tdiv 8 = id / 8 := Int.tdiv_eq_ediv_of_nonneg h0
    refine ⟨by decide, InR_i64.2 (by omega), InR_i64.2 (by omega), rfl, ?_⟩
    unfold parentS; rw [if_neg (fun q => by have := key.2 q; omega)]
set_option maxHeartbeats 2000000 in
set_option maxRecDepth 100000 in
theorem f11_met : Go.Eng.Met Tryd.prog cx0.gd 11 ctPar :=
  met_of (cx := cx0) (n := 14) (cl := cl11) (by kernel_rfl) tis_ok ⟨f25_met, trivial⟩ Tryd.func11 (by kernel_rfl) (by kernel_rfl) rfl (by kernel_rfl) (by kernel_rfl) fun d hd => by
    obtain ⟨id, ⟨⟩⟩ := d
    exact ex_of (ann11 id) (f11_vc id hd) (by kernel_rfl)
def idxT (p : TD → Bool) (l : List TD) : Int := match l.findIdx? p with
  | some i => i
  | none => -1
theorem idxT_at {p : TD → Bool} {l : List TD} {k : Nat} {d : TD} (hk : l[k]? = some d) (hd : p d = true) (h : ∀ j < k, ∀ t, l[j]? = some t → p t = false) : idxT p l = k := by
  obtain ⟨h1, h2⟩ := List.getElem?_eq_some_iff.1 hk
  have : l.findIdx? p = some k := by
    rw [List.findIdx?_eq_some_iff_getElem]
    refine ⟨h1, by rw [h2]; exact hd, fun j hj => ?_⟩
    rw [h j hj _ (List.getElem?_eq_getElem (by omega))]; simp
  unfold idxT; rw [this]
theorem idxT_no {p : TD → Bool} {l : List TD} (h : ∀ j < l.length, ∀ t, l[j]? = some t → p t = false) : idxT p l = -1 := by
  have : l.findIdx? p = none := by
    rw [List.findIdx?_eq_none_iff]
    intro x hx
    obtain ⟨j, hj⟩ := List.getElem?_of_mem hx
    exact h j (List.getElem?_eq_some_iff.1 hj).1 x hj
  unfold idxT; rw [this]
@[reducible] def sfIx : SF := { ss := [shT], r := .bool, ct := fun pr fn => { ps := [.sl shT], pre := fun d => d.1.length ≤ 1000000 ∧ ∀ t ∈ d.1, pr (t, ()), res := fun d => ([], .one (.c (.v (.int .i64 (idxT (fun t => fn (t, ())) d.1))))) } }
@[reducible] noncomputable def mkFd : MK := { ss := [.int .i64], f := fun ds => .clo Tryd.prog [shT] .bool (fun _ => True) (fun d => decide (d.1.1 = ds.1)) }

@[reducible] def cl26 : List (Nat × CT) := []
@[reducible] def ann26 (pr : dens [shT] → Prop) (fn : dens [shT] → Bool) (l : List TD) : Nat → Option (St → Ann) := fun k => match k with
  | 2 => some fun _ => .inv { α := Nat, slots := fun k => [(8, .c (.v (.int .i64 k)))], res := fun _ => [], inv := fun k => k ≤ l.length ∧ ∀ j < k, ∀ t, l[j]? = some t → fn (t, ()) = false, meas := fun k => l.length - k }
  | _ => none
@[reducible] def fl26 : List (Nat × SF) := []
@[reducible] def ml26 : List (Nat × MK) := []
set_option maxRecDepth 100000 in
theorem f26_vc (pr : dens [shT] → Prop) (fn : dens [shT] → Bool) (l : List TD) (hpre : (sfIx.ct pr fn).pre (l, ())) :
    (∃ x, (x ≤ l.length ∧ ∀ (j : Nat), j < x → ∀ (t : Int × Int × Int × List Int × Int × Int × Int × Int × Int × List Int × Unit), l[j]? = some t → fn (t, ()) = false) ∧ (SV.c (SC.v (Value.int IntKind.i64 (0 : Int))) = SV.c (SC.v (Value.int IntKind.i64 (↑x : Int))) ∧ True) ∧ ([] : List (Go.Eng.Gd × Go.Eng.Res)) = []) ∧ ∀ (x : Nat), (x ≤ l.length ∧ ∀ (j : Nat), j < x → ∀ (t : Int × Int × Int × List Int × Int × Int × Int × Int × Int × List Int × Unit), l[j]? = some t → fn (t, ()) = false) → br (decide ((↑x : Int) < (↑l.length : Int))) (((0 : Int) ≤ (↑x : Int) ∧ (↑x : Int) < (↑l.length : Int)) ∧ ∀ (d : I6.den × (I6.pair (I6.pair ((Sh.arr (8 : Nat) I6).pair (I6.pair (I6.pair (I6.pair (I6.pair (I6.pair (I6.sl.pair Sh.unit))))))))).den), l[(↑x : Int).toNat]? = some d → some Tryd.prog = some Tryd.prog ∧ pr (d, ()) ∧ br (fn (d, ())) (([] : List Go.Eng.Res) = [] ∧ Ent.one (SV.c (SC.v (Value.int IntKind.i64 (idxT (fun t => fn (t, ())) l)))) = Ent.one (SV.c (SC.v (Value.int IntKind.i64 (↑x : Int))))) (InR IntKind.i64 ((↑x : Int) + (1 : Int)) ∧ ∃ x', (x' ≤ l.length ∧ ∀ (j : Nat), j < x' → ∀ (t : Int × Int × Int × List Int × Int × Int × Int × Int × Int × List Int × Unit), l[j]? = some t → fn (t, ()) = false) ∧ (SV.c (SC.v (Value.int IntKind.i64 ((↑x : Int) + (1 : Int)))) = SV.c (SC.v (Value.int IntKind.i64 (↑x' : Int))) ∧ True) ∧ ([] : List (Go.Eng.Gd × Go.Eng.Res)) = [] ∧ l.length - x' < l.length - x)) (([] : List Go.Eng.Res) = [] ∧ Ent.one (SV.c (SC.v (Value.int IntKind.i64 (idxT (fun t => fn (t, ())) l)))) = Ent.one (SV.c (SC.v (Value.int IntKind.i64 (-1 : Int))))) := by
  obtain ⟨hl, hp⟩ : l.length ≤ 1000000 ∧ ∀ t ∈ l, pr (t, ()) := hpre
  refine ⟨⟨0, ⟨by omega, fun j hj => by omega⟩, ⟨rfl, trivial⟩, rfl⟩, fun k hk => br_iff.2 ⟨fun g => ?_, fun g => ?_⟩⟩
  · simp only [decide_eq_true_eq] at g
    refine ⟨⟨by omega, by omega⟩, fun d hd => ⟨rfl, hp d (List.mem_of_getElem? hd), br_iff.2 ⟨fun g2 => ⟨rfl, ?_⟩, fun g2 => ⟨InR_i64.2 (by omega), k + 1, ⟨by omega, fun j hj t ht => ?_⟩, ⟨rfl, trivial⟩, rfl, by omega⟩⟩⟩⟩
    · have hd : l[k]? = some d := hd
      rw [idxT_at (p := fun t => fn (t, ())) hd g2 hk.2]
    · by_cases e : j = k
      · subst e
        have hd : l[j]? = some d := hd
        rw [hd] at ht; cases ht; exact g2
      · exact hk.2 j (by omega) t ht
  · simp only [decide_eq_false_iff_not] at g
    refine ⟨rfl, ?_⟩
    rw [idxT_no (p := fun t => fn (t, ())) fun j hj t ht => hk.2 j (by omega) t ht]
set_option maxHeartbeats 2000000 in
set_option maxRecDepth 100000 in
theorem f26_sf : MetF Tryd.prog cx0.gd 26 sfIx :=
  met_sf (cx := cx0) (n := 19) (cl := cl26) (ml := ml26) (fl := fl26) (rc := []) (by kernel_rfl) tis_ok trivial trivial trivial Tryd.func26 (by kernel_rfl) (by kernel_rfl) (fun _ _ => rfl) (by kernel_rfl) (by kernel_rfl) fun pr fn d hd => by
    obtain ⟨l, ⟨⟩⟩ := d
    exact ex_of (ann26 pr fn l) (f26_vc pr fn l hd) (by kernel_rfl)
@[reducible] def cl27 : List (Nat × CT) := []
@[reducible] def ann27 (c0 : Int) (id : Int) (fn : Int) (pc : Int) (rg : List Int) (st : Int) (ch : Int) (ph : Int) (su : Int) (fa : Int) (he : List Int) : Nat → Option (St → Ann) := fun _ => none
set_option maxRecDepth 100000 in
theorem f27_vc (c0 : Int) (id : Int) (fn : Int) (pc : Int) (rg : List Int) (st : Int) (ch : Int) (ph : Int) (su : Int) (fa : Int) (he : List Int) :
    ([] : List Go.Eng.Res) = [] ∧ Ent.one (SV.c (SC.v (Value.bool (decide (id = c0))))) = Ent.one (SV.c (SC.v (Value.bool (decide (id = c0))))) := by
  exact ⟨rfl, rfl⟩
set_option maxHeartbeats 2000000 in
set_option maxRecDepth 100000 in
theorem f27_mk : MkOK Tryd.prog cx0.gd 27 mkFd :=
  mk_clo (cx := cx0) (n := 8) (cl := cl27) (rc := []) (by kernel_rfl) tis_ok trivial Tryd.func27 (by kernel_rfl) (by kernel_rfl) rfl rfl (by kernel_rfl) (by kernel_rfl) fun ds d _ _ => by
    obtain ⟨c0, ⟨⟩⟩ := ds
    obtain ⟨⟨id, fn, pc, rg, st, ch, ph, su, fa, he, ⟨⟩⟩, ⟨⟩⟩ := d
    exact ex_of (ann27 c0 id fn pc rg st ch ph su fa he) (f27_vc c0 id fn pc rg st ch ph su fa he) (by kernel_rfl)
@[reducible] def ctFnd : CT := { ps := [.sl shT, .int .i64], pre := fun d => d.1.length ≤ 1000000, res := fun d => ([], .tup [.c (.v (.int .i64 (maxI (idxT (fun t => decide (t.1 = d.2.1)) d.1) 0))), .c (.v (.bool (decide (0 ≤ idxT (fun t => decide (t.1 = d.2.1)) d.1))))]) }
@[reducible] noncomputable def cl12 : List (Nat × CT) := []
@[reducible] noncomputable def ann12 (l : List TD) (id : Int) : Nat → Option (St → Ann) := fun _ => none
@[reducible] noncomputable def fl12 : List (Nat × SF) := [(26, sfIx)]
@[reducible] noncomputable def ml12 : List (Nat × MK) := [(27, mkFd)]
set_option maxRecDepth 100000 in
theorem f12_vc (l : List TD) (id : Int) (hpre : ctFnd.pre (l, id, ())) :
    True ∧ some Tryd.prog = some Tryd.prog ∧ ∃ pre' g', (Abs.clo Tryd.prog [I6.pair (I6.pair (I6.pair ((Sh.arr (8 : Nat) I6).pair (I6.pair (I6.pair (I6.pair (I6.pair (I6.pair (I6.sl.pair Sh.unit)))))))))] Sh.bool (fun x => True) fun d => decide (d.fst.fst = id)) = Abs.clo Tryd.prog [I6.pair (I6.pair (I6.pair ((Sh.arr (8 : Nat) I6).pair (I6.pair (I6.pair (I6.pair (I6.pair (I6.pair (I6.sl.pair Sh.unit)))))))))] Sh.bool pre' g' ∧ (l.length ≤ (1000000 : Nat) ∧ ∀ (t : I6.den × (I6.pair (I6.pair ((Sh.arr (8 : Nat) I6).pair (I6.pair (I6.pair (I6.pair (I6.pair (I6.pair (I6.sl.pair Sh.unit))))))))).den), t ∈ l → pre' (t, ())) ∧ ([] : List Go.Eng.Res) = [] ∧ Ent.tup [SV.c (SC.v (Value.int IntKind.i64 (maxI (idxT (fun t => decide (t.fst = (l, id, ()).snd.fst)) l) (0 : Int)))), SV.c (SC.v (Value.bool (decide ((0 : Int) ≤ idxT (fun t => decide (t.fst = (l, id, ()).snd.fst)) l))))] = Ent.tup [SV.c (SC.v (Value.int IntKind.i64 (maxI (idxT (fun t => g' (t, ())) l) (0 : Int)))), SV.c (SC.v (Value.bool (decide ((0 : Int) ≤ idxT (fun t => g' (t, ())) l))))] := by
  exact ⟨trivial, rfl, fun _ => True, fun d => decide (d.1.1 = id), rfl, ⟨hpre, fun _ _ => trivial⟩, rfl, rfl⟩
set_option maxHeartbeats 2000000 in
set_option maxRecDepth 100000 in
theorem f12_met : Go.Eng.Met Tryd.prog cx0.gd 12 ctFnd :=
  met_usf (cx := cx0) (n := 14) (cl := cl12) (ml := ml12) (fl := fl12) (rc := []) (by kernel_rfl) tis_ok trivial ⟨f27_mk, trivial⟩ ⟨f26_sf, trivial⟩ Tryd.func12 (by kernel_rfl) (by kernel_rfl) rfl (by kernel_rfl) (by kernel_rfl) fun d hd => by
    obtain ⟨l, id, ⟨⟩⟩ := d
    exact ex_of (ann12 l id) (f12_vc l id hd) (by kernel_rfl)
@[reducible] def cl13 : List (Nat × CT) := []
@[reducible] def ann13 (l : List TD) (id : Int) : Nat → Option (St → Ann) := fun k => match k with
  | 2 => some fun _ => .inv { α := Nat, slots := fun k => [(6, .c (.v (.int .i64 k)))], res := fun _ => [], inv := fun k => k ≤ l.length ∧ ∀ j < k, ∀ t, l[j]? = some t → decide (t.1 = id) = false, meas := fun k => l.length - k }
  | _ => none
set_option maxRecDepth 100000 in
theorem f13_vc (l : List TD) (id : Int) (hpre : ctFnd.pre (l, id, ())) :
    (∃ x, (x ≤ l.length ∧ ∀ (j : Nat), j < x → ∀ (t : Int × Int × Int × List Int × Int × Int × Int × Int × Int × List Int × Unit), l[j]? = some t → decide (t.fst = id) = false) ∧ (SV.c (SC.v (Value.int IntKind.i64 (0 : Int))) = SV.c (SC.v (Value.int IntKind.i64 (↑x : Int))) ∧ True) ∧ ([] : List (Go.Eng.Gd × Go.Eng.Res)) = []) ∧ ∀ (x : Nat), (x ≤ l.length ∧ ∀ (j : Nat), j < x → ∀ (t : Int × Int × Int × List Int × Int × Int × Int × Int × Int × List Int × Unit), l[j]? = some t → decide (t.fst = id) = false) → br (decide ((↑x : Int) < (↑l.length : Int))) (((0 : Int) ≤ (↑x : Int) ∧ (↑x : Int) < (↑l.length : Int)) ∧ ∀ (d : I6.den × (I6.pair (I6.pair ((Sh.arr (8 : Nat) I6).pair (I6.pair (I6.pair (I6.pair (I6.pair (I6.pair (I6.sl.pair Sh.unit))))))))).den), l[(↑x : Int).toNat]? = some d → br (decide (d.fst = id)) (([] : List Go.Eng.Res) = [] ∧ Ent.tup [SV.c (SC.v (Value.int IntKind.i64 (maxI (idxT (fun t => decide (t.fst = (l, id, ()).snd.fst)) l) (0 : Int)))), SV.c (SC.v (Value.bool (decide ((0 : Int) ≤ idxT (fun t => decide (t.fst = (l, id, ()).snd.fst)) l))))] = Ent.tup [SV.c (SC.v (Value.int IntKind.i64 (↑x : Int))), SV.c (SC.v (Value.bool true))]) (InR IntKind.i64 ((↑x : Int) + (1 : Int)) ∧ ∃ x', (x' ≤ l.length ∧ ∀ (j : Nat), j < x' → ∀ (t : Int × Int × Int × List Int × Int × Int × Int × Int × Int × List Int × Unit), l[j]? = some t → decide (t.fst = id) = false) ∧ (SV.c (SC.v (Value.int IntKind.i64 ((↑x : Int) + (1 : Int)))) = SV.c (SC.v (Value.int IntKind.i64 (↑x' : Int))) ∧ True) ∧ ([] : List (Go.Eng.Gd × Go.Eng.Res)) = [] ∧ l.length - x' < l.length - x)) (([] : List Go.Eng.Res) = [] ∧ Ent.tup [SV.c (SC.v (Value.int IntKind.i64 (maxI (idxT (fun t => decide (t.fst = (l, id, ()).snd.fst)) l) (0 : Int)))), SV.c (SC.v (Value.bool (decide ((0 : Int) ≤ idxT (fun t => decide (t.fst = (l, id, ()).snd.fst)) l))))] = Ent.tup [SV.c (SC.v (Value.int IntKind.i64 (0 : Int))), SV.c (SC.v (Value.bool false))]) := by
  have hl : l.length ≤ 1000000 := hpre
  refine ⟨⟨0, ⟨by omega, fun j hj => by omega⟩, ⟨rfl, trivial⟩, rfl⟩, fun k hk => br_iff.2 ⟨fun g => ?_, fun g => ?_⟩⟩
  · simp only [decide_eq_true_eq] at g
    refine ⟨⟨by omega, by omega⟩, fun d hd => br_iff.2 ⟨fun g2 => ⟨rfl, ?_⟩, fun g2 => ⟨InR_i64.2 (by omega), k + 1, ⟨by omega, fun j hj t ht => ?_⟩, ⟨rfl, trivial⟩, rfl, by omega⟩⟩⟩
    · have hd : l[k]? = some d := hd
      rw [idxT_at (p := fun t => decide (t.1 = id)) hd g2 hk.2, decide_eq_true (by omega), show maxI (k : Int) 0 = k by unfold maxI; split <;> omega]
    · by_cases e : j = k
      · subst e
        have hd : l[j]? = some d := hd
        rw [hd] at ht; cases ht; exact g2
      · exact hk.2 j (by omega) t ht
  · simp only [decide_eq_false_iff_not] at g
    refine ⟨rfl, ?_⟩
    rw [idxT_no (p := fun t => decide (t.1 = id)) fun j hj t ht => hk.2 j (by omega) t ht]
    rfl
set_option maxHeartbeats 2000000 in
set_option maxRecDepth 100000 in
theorem f13_met : Go.Eng.Met Tryd.prog cx0.gd 13 ctFnd :=
  met_of (cx := cx0) (n := 21) (cl := cl13) (by kernel_rfl) tis_ok trivial Tryd.func13 (by kernel_rfl) (by kernel_rfl) rfl (by kernel_rfl) (by kernel_rfl) fun d hd => by
    obtain ⟨l, id, ⟨⟩⟩ := d
    exact ex_of (ann13 l id) (f13_vc l id hd) (by kernel_rfl)
@[reducible] def ctL4 : CT := { ps := [.sl shT, .int .i64], pre := fun d => (∀ t ∈ d.1, t.1 ≤ 9223372036854775807) ∧ d.2.1 ≤ 9223372036854775807, res := fun d => ([], vB (true)) }
@[reducible] noncomputable def cl4 : List (Nat × CT) := [(9, ctLiv), (6, ctChi), (10, ctrCh), (7, ctPar), (11, ctPar), (8, ctDpt), (14, ctrDp), (12, ctFnd), (13, ctFnd)]
@[reducible] noncomputable def ann4 (l : List TD) (id : Int) : Nat → Option (St → Ann) := fun k => match k with
  | 4 => some fun _ => .inv { α := Nat, slots := fun k => [(5, .c (.v (.int .i64 k)))], res := fun _ => [], inv := fun k => k ≤ l.length, meas := fun k => l.length - k }
  | _ => none
@[reducible] def il4 : List (Nat × IP) := []
@[reducible] def hl4 : List (Nat × Nat × CT) := []
@[reducible] noncomputable def ml4 : List (Nat × MK) := []
set_option maxRecDepth 100000 in
theorem f4_vc (l : List TD) (id : Int) (hpre : ctL4.pre (l, id, ())) :
    br (decide ((50 : Int) < (↑l.length : Int))) (True ∧ ([] : List Go.Eng.Res) = [] ∧ Ent.one (SV.c (SC.v (Value.bool true))) = Ent.one (SV.c (SC.v (Value.bool true)))) ((∃ x, x ≤ l.length ∧ (SV.c (SC.v (Value.int IntKind.i64 (0 : Int))) = SV.c (SC.v (Value.int IntKind.i64 (↑x : Int))) ∧ True) ∧ ([] : List (Go.Eng.Gd × Go.Eng.Res)) = []) ∧ ∀ (x : Nat), x ≤ l.length → br (decide ((↑x : Int) < (↑l.length : Int))) (((0 : Int) ≤ (↑x : Int) ∧ (↑x : Int) < (↑l.length : Int)) ∧ ∀ (d : I6.den × (I6.pair (I6.pair ((Sh.arr (8 : Nat) I6).pair (I6.pair (I6.pair (I6.pair (I6.pair (I6.pair (I6.sl.pair Sh.unit))))))))).den), l[(↑x : Int).toNat]? = some d → d.fst ≤ (9223372036854775807 : I6.den) ∧ ((0 : Int) ≤ (↑x : Int) ∧ (↑x : Int) < (↑l.length : Int)) ∧ ∀ (d_1 : I6.den × (I6.pair (I6.pair ((Sh.arr (8 : Nat) I6).pair (I6.pair (I6.pair (I6.pair (I6.pair (I6.pair (I6.sl.pair Sh.unit))))))))).den), l[(↑x : Int).toNat]? = some d_1 → d_1.fst ≤ (9223372036854775807 : I6.den) ∧ br (!decide ((childS d.fst d.snd.snd.snd.snd.snd.fst).fst = (childS d_1.fst d_1.snd.snd.snd.snd.snd.fst).fst) || !(childS d.fst d.snd.snd.snd.snd.snd.fst).snd == (childS d_1.fst d_1.snd.snd.snd.snd.snd.fst).snd) (([] : List Go.Eng.Res) = [] ∧ Ent.one (SV.c (SC.v (Value.bool true))) = Ent.one (SV.c (SC.v (Value.bool false)))) (InR IntKind.i64 ((↑x : Int) + (1 : Int)) ∧ ∃ x', x' ≤ l.length ∧ (SV.c (SC.v (Value.int IntKind.i64 ((↑x : Int) + (1 : Int)))) = SV.c (SC.v (Value.int IntKind.i64 (↑x' : Int))) ∧ True) ∧ ([] : List (Go.Eng.Gd × Go.Eng.Res)) = [] ∧ l.length - x' < l.length - x)) (id ≤ (9223372036854775807 : I6.den) ∧ id ≤ (9223372036854775807 : I6.den) ∧ l.length ≤ (1000000 : Nat) ∧ l.length ≤ (1000000 : Nat) ∧ ((decide ((parentS id).fst = (parentS id).fst) && (parentS id).snd == (parentS id).snd) = true → id ≤ (9223372036854775807 : I6.den)) ∧ ((decide ((parentS id).fst = (parentS id).fst) && (parentS id).snd == (parentS id).snd) = true → id ≤ (9223372036854775807 : I6.den)) ∧ ((decide ((parentS id).fst = (parentS id).fst) && (parentS id).snd == (parentS id).snd && decide (depthM id = depthM id) && decide (maxI (idxT (fun t => decide (t.fst = (l, id, ()).snd.fst)) l) (0 : Int) = maxI (idxT (fun t => decide (t.fst = (l, id, ()).snd.fst)) l) (0 : Int)) && decide ((0 : Int) ≤ idxT (fun t => decide (t.fst = (l, id, ()).snd.fst)) l) == decide ((0 : Int) ≤ idxT (fun t => decide (t.fst = (l, id, ()).snd.fst)) l)) = true → True) ∧ ([] : List Go.Eng.Res) = [] ∧ Ent.one (SV.c (SC.v (Value.bool true))) = Ent.one (SV.c (SC.v (Value.bool (decide ((parentS id).fst = (parentS id).fst) && (parentS id).snd == (parentS id).snd && decide (depthM id = depthM id) && decide (maxI (idxT (fun t => decide (t.fst = (l, id, ()).snd.fst)) l) (0 : Int) = maxI (idxT (fun t => decide (t.fst = (l, id, ()).snd.fst)) l) (0 : Int)) && decide ((0 : Int) ≤ idxT (fun t => decide (t.fst = (l, id, ()).snd.fst)) l) == decide ((0 : Int) ≤ idxT (fun t => decide (t.fst = (l, id, ()).snd.fst)) l) && true)))))) := by
  obtain ⟨hT, hid⟩ : (∀ t ∈ l, t.1 ≤ 9223372036854775807) ∧ id ≤ 9223372036854775807 := hpre
  refine br_iff.2 ⟨fun _ => ⟨trivial, rfl, rfl⟩, fun h => ⟨⟨0, by omega, ⟨rfl, trivial⟩, rfl⟩, fun k hk => br_iff.2 ⟨fun g => ?_, fun g => ?_⟩⟩⟩
  · simp only [decide_eq_true_eq, decide_eq_false_iff_not] at g h
    refine ⟨⟨by omega, by omega⟩, fun d hd => ⟨hT d (List.mem_of_getElem? hd), ⟨by omega, by omega⟩, fun d1 hd1 => ⟨hT d1 (List.mem_of_getElem? hd1), br_iff.2 ⟨fun q => ?_, fun _ => ⟨InR_i64.2 (by omega), k + 1, by omega, ⟨rfl, trivial⟩, rfl, by omega⟩⟩⟩⟩⟩
    rw [hd] at hd1; cases hd1
    simp at q
  · simp only [decide_eq_false_iff_not] at h
    refine ⟨hid, hid, by omega, by omega, fun _ => hid, fun _ => hid, fun _ => trivial, rfl, ?_⟩
    simp
set_option maxHeartbeats 2000000 in
set_option maxRecDepth 100000 in
theorem f4_met : Go.Eng.Met Tryd.prog cx0.gd 4 ctL4 :=
  (met_all (cx := cx0) (n := 102) (cl := cl4) (il := il4) (hl := hl4) (ml := ml4) (rc := []) (lits := []) (suf := []) (by kernel_rfl) tis_ok ⟨f9_met, f6_met, f10_met, f7_met, f11_met, f8_met, f14_met, f12_met, f13_met, trivial⟩ trivial trivial trivial Tryd.func4 (by kernel_rfl) (by kernel_rfl) rfl (by kernel_rfl) (by kernel_rfl) (by simp) fun d hd => by
    obtain ⟨l, id, ⟨⟩⟩ := d
    exact ex_of (ann4 l id) (f4_vc l id hd) (by kernel_rfl)).met
end Go.Proofs.YtklnffdjhoacoaaDoor
set_option linter.unusedSimpArgs false
set_option linter.unusedVariables false
set_option maxRecDepth 1000000
namespace Go.Proofs.YtklnffdjhoacoaaDoor
open Go Go.Eng Go.ChangeShapes Go.WideShapes Go.ChangeAt Go.RowKit
theorem own : ownKnob Tryd.prog.godebug = none := by kernel_rfl
theorem laidOut : laidOutB Tryd.prog = true := by kernel_rfl
theorem rowed : mapsRowed Tryd.prog = true := by kernel_rfl
theorem full : ∀ t e, t < Tryd.prog.types.size → Tryd.prog.underlying t = some (.slice e) → 0 < Tryd.prog.cellsOf e := slices_full_of _ (by kernel_rfl)
theorem gname0 : Tryd.prog.globalNamed "modelcheck/inst.rows" = some 0 := by kernel_rfl
theorem gtype0 : (Tryd.prog.globals[0]?).map (·.type) = some 93 := by kernel_rfl
theorem gsok0 : (SOK Tryd.prog (.arr 22 (.pair .str (.pair (.arr 7 .bool) .unit)))).1 93 = true := by kernel_rfl
theorem gname1 : Tryd.prog.globalNamed "modelcheck/value.names" = some 1 := by kernel_rfl
theorem gtype1 : (Tryd.prog.globals[1]?).map (·.type) = some 119 := by kernel_rfl
theorem gsok1 : (SOK Tryd.prog (.arr 10 .str)).1 119 = true := by kernel_rfl
noncomputable def laidWorld (os : Os) : World :=
  { World.holding Tryd.prog os ⟨#[], #[], []⟩ with heap := (((World.holding Tryd.prog os ⟨#[], #[], []⟩).heap).modify 0 (lay #[.string ⟨#[99, 111, 110, 115, 116]⟩, .bool true, .bool false, .bool false, .bool false, .bool true, .bool false, .bool false, .string ⟨#[99, 111, 112, 121]⟩, .bool true, .bool true, .bool false, .bool false, .bool false, .bool false, .bool false, .string ⟨#[99, 97, 108, 99]⟩, .bool true, .bool true, .bool true, .bool false, .bool false, .bool true, .bool false, .string ⟨#[106, 117, 109, 112]⟩, .bool false, .bool false, .bool false, .bool false, .bool true, .bool false, .bool false, .string ⟨#[98, 114, 97, 110, 99, 104]⟩, .bool false, .bool true, .bool false, .bool false, .bool true, .bool false, .bool false, .string ⟨#[97, 115, 115, 101, 114, 116]⟩, .bool false, .bool true, .bool false, .bool false, .bool false, .bool false, .bool false, .string ⟨#[115, 116, 111, 112]⟩, .bool false, .bool false, .bool false, .bool false, .bool false, .bool false, .bool false, .string ⟨#[108, 111, 97, 100]⟩, .bool true, .bool false, .bool false, .bool true, .bool false, .bool false, .bool true, .string ⟨#[115, 116, 111, 114, 101]⟩, .bool false, .bool true, .bool false, .bool true, .bool false, .bool false, .bool true, .string ⟨#[115, 119, 97, 112]⟩, .bool true, .bool true, .bool false, .bool true, .bool false, .bool false, .bool true, .string ⟨#[102, 101, 116, 99, 104, 97, 100, 100]⟩, .bool true, .bool true, .bool false, .bool true, .bool false, .bool false, .bool true, .string ⟨#[99, 97, 115]⟩, .bool true, .bool true, .bool true, .bool true, .bool false, .bool false, .bool true, .string ⟨#[102, 101, 110, 99, 101]⟩, .bool false, .bool false, .bool false, .bool false, .bool false, .bool false, .bool false, .string ⟨#[97, 119, 97, 105, 116]⟩, .bool true, .bool true, .bool false, .bool true, .bool false, .bool true, .bool true, .string ⟨#[108, 111, 99, 107]⟩, .bool false, .bool false, .bool false, .bool true, .bool false, .bool false, .bool false, .string ⟨#[117, 110, 108, 111, 99, 107]⟩, .bool false, .bool false, .bool false, .bool true, .bool false, .bool false, .bool false, .string ⟨#[116, 114, 121, 108, 111, 99, 107]⟩, .bool true, .bool false, .bool false, .bool true, .bool false, .bool false, .bool false, .string ⟨#[119, 97, 105, 116]⟩, .bool false, .bool false, .bool false, .bool true, .bool true, .bool false, .bool false, .string ⟨#[115, 105, 103, 110, 97, 108]⟩, .bool false, .bool false, .bool false, .bool true, .bool false, .bool false, .bool false, .string ⟨#[98, 114, 111, 97, 100, 99, 97, 115, 116]⟩, .bool false, .bool false, .bool false, .bool true, .bool false, .bool false, .bool false, .string ⟨#[115, 112, 97, 119, 110]⟩, .bool true, .bool true, .bool false, .bool true, .bool false, .bool false, .bool false, .string ⟨#[106, 111, 105, 110]⟩, .bool false, .bool true, .bool false, .bool false, .bool false, .bool false, .bool false])).modify 1 (lay #[.string ⟨#[97, 100, 100]⟩, .string ⟨#[115, 117, 98]⟩, .string ⟨#[109, 117, 108]⟩, .string ⟨#[97, 110, 100]⟩, .string ⟨#[111, 114]⟩, .string ⟨#[120, 111, 114]⟩, .string ⟨#[101, 113]⟩, .string ⟨#[110, 101]⟩, .string ⟨#[108, 116]⟩, .string ⟨#[108, 101]⟩]) }
theorem i64_of {n : Int} (h : (Lit.int .i64 n).wf = true) : -9223372036854775808 ≤ n ∧ n ≤ 9223372036854775807 := by
  simp [Lit.wf, IntKind.min, IntKind.max, IntKind.signed, IntKind.bits] at h; omega
namespace threadIdsL
theorem globs {W : World} (hL : laidMetH Tryd.prog Rows.threadIdsRow.laid W) : GlobOK gd0 (FH.all W) := by
  intro g p hp
  unfold gd0 at hp
  split at hp
  · cases hp; exact glob_open hL (by kernel_rfl) (n := "modelcheck/inst.rows") (D := Rows.laid_modelcheck_inst_rows) (by simp [Rows.threadIdsRow]) gname0 gtype0 gsok0 (by kernel_rfl)
  · cases hp; exact glob_open hL (by kernel_rfl) (n := "modelcheck/value.names") (D := Rows.laid_modelcheck_value_names) (by simp [Rows.threadIdsRow]) gname1 gtype1 gsok1 (by kernel_rfl)
  · cases hp
theorem laid_met (os : Os) : laidMet Tryd.prog Rows.threadIdsRow.laid ((laidWorld os).forCall (fun _ _ => 0) ⟨#[], #[.slice none 0 0, .int .i64 0], []⟩).memory :=
  laidMet_of_run' 20 (by kernel_rfl) (by kernel_rfl)
theorem reads (os : Os) {H : Type} (enc : TypeId × Value → H) : ∃ places, DataW.whole enc Tryd.prog ((laidWorld os).forCall (fun _ _ => 0) ⟨#[], #[.slice none 0 0, .int .i64 0], []⟩).memory Tryd.f4.params.toList Rows.threadIdsSpec.vars false (#[.slice none 0 0, .int .i64 0] : Array Value).toList 20 = some ([.nil, .lit (.int .i64 0)], [], places) :=
  ⟨[], by kernel_rfl⟩
theorem lifted (os : Os) (started : os.Started) (H : Type) (enc : TypeId × Value → H) (F : Stop.Interp) :
    ReturnsInHanded {} Tryd.checked os 4 .any ((OpenSpec.ofChange Rows.threadIdsSpec).preRow enc Tryd.prog Tryd.f4 Rows.threadIdsRow.domain false Rows.threadIdsRow.laid) (((OpenSpec.ofChange Rows.threadIdsSpec).at F).post enc Tryd.prog Tryd.f4 false true false false) := by
  obtain ⟨places, hx⟩ := reads os enc
  refine returnsInHanded_of_row (C := Tryd.checked) (s := OpenSpec.ofChange Rows.threadIdsSpec) own started (by kernel_rfl) Tryd.func4
    (witness_row_at (enc := enc) (C := Tryd.checked) false (laidWorld os) #[.slice none 0 0, .int .i64 0] rfl (by kernel_rfl) (by kernel_rfl) (by kernel_rfl)
      (OpenSpec.preRow_of_cond 20 hx (by kernel_rfl) (fun k hk => by cases hk) (by kernel_rfl) (laid_met os))) ?_
  intro W base args ds gs before hval hW _ hcond hwt hL _ _
  refine call_true (fn := Tryd.f4) f4_met laidOut rowed full (by decide +kernel) (t := 4) (by kernel_rfl) (by kernel_rfl) rfl (by kernel_rfl) (fun _ => rfl) (fun d hd hwf => ?_) hval hW (globs hL)
  match ds, rdats_len hd with
  | [d0, d1], _ => exact ⟨rfl, by exact ⟨fun t ht => (i64_of (hwf.1.2 t ht).1).2, (i64_of hwf.2.1).2⟩⟩
theorem said : Rows.ThreadIdsSaid :=
  OpenClaim.holds_of_cond 4 Tryd.f4 rfl rfl rfl rfl rfl rfl rfl ⟨rfl, rfl, rfl, rfl, rfl⟩ rfl rfl rfl rfl rfl (by kernel_rfl) Tryd.func4 (by kernel_rfl)
    (of_decide_eq_true (by kernel_rfl)) (by unfold Func.isWrapper; first | (rw [if_pos (by decide +kernel)]; kernel_rfl) | (rw [if_neg (by decide +kernel)]; exact ⟨rfl, rfl⟩))
    (fun os started H enc _ F => by rw [OpenClaim.pre_eq_preRow]; exact lifted os started H enc F)
theorem plain (f : FuncId) (fn : Func) (hf : Tryd.pinned.checked.prog.funcNamed "modelcheck/modelchecklaw20.ThreadIds" = some f) (hfn : Tryd.pinned.checked.prog.funcs[f]? = some fn) :
    false = Tryd.pinned.checked.prog.looks [] ∧ ∀ (j : Nat) t, fn.params[j]? = some t → Tryd.pinned.checked.prog.wantsStandIn t = false := by
  obtain rfl : f = 4 := Option.some.inj ((show Tryd.prog.funcNamed "modelcheck/modelchecklaw20.ThreadIds" = some 4 by kernel_rfl).symm.trans hf) |>.symm
  obtain rfl : fn = Tryd.f4 := (Option.some.inj (Tryd.func4.symm.trans hfn)).symm
  refine ⟨by kernel_rfl, fun j t ht => ?_⟩
  have hm : t ∈ Tryd.f4.params.toList := List.mem_of_getElem? (by simpa using ht)
  have key : ∀ t ∈ Tryd.f4.params.toList, Tryd.prog.wantsStandIn t = false := by decide +kernel
  exact key t hm
theorem card : Rows.ThreadIdsCardSaid :=
  Claim7.holds_tied_plain_at .later [] _ _ _ _ said (fun _ h => by cases h) (by kernel_rfl) (fun _ h => by cases h) threadIds_row_tie rfl ⟨rfl, rfl⟩ (by kernel_rfl) rfl plain (by kernel_rfl)
end threadIdsL
end Go.Proofs.YtklnffdjhoacoaaDoor
