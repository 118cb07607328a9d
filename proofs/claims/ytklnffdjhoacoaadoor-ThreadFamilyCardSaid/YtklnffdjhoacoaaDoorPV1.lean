/- The Program chapter, part 1: functions of lower layers. -/
import Derived.Test.YtklnffdjhoacoaaDoorPC1
import Derived.Test.YtklnffdjhoacoaaDoorEngV
set_option linter.unusedSimpArgs false
set_option linter.unusedVariables false
set_option maxRecDepth 100000
namespace Go.Proofs.YtklnffdjhoacoaaDoor
open Go Go.Eng

@[reducible] def ct43 : CT := { ps := [], pre := fun d => True, res := fun d => ([.row 9 .str fieldsD], .one (.c (.row 0))) }
@[reducible] def ct34 : CT := { ps := [.int .i64], pre := fun d => True, res := fun d => ([], vB (knownS d.1)) }
@[reducible] def cl56 : List (Nat × CT) := []
@[reducible] def ann56 (op : Int) : Nat → Option (St → Ann) := fun _ => none
set_option maxRecDepth 100000 in
theorem f56_vc (op : Int) :
    ([] : List Go.Eng.Res) = [] ∧ Ent.one (SV.c (SC.v (Value.bool (knownS op)))) = Ent.one (SV.c (SC.v (Value.bool (decide ((1 : Int) ≤ op) && decide (op ≤ (22 : Int)))))) := by
  exact ⟨rfl, rfl⟩
set_option maxRecDepth 100000 in
theorem f56_met : Go.Eng.Met Tryd.prog cx0.gd 56 ct34 :=
  met_of (cx := cx0) (n := 9) (cl := cl56) (by kernel_rfl) tis_ok trivial Tryd.func56 (by kernel_rfl) (by kernel_rfl) rfl (by kernel_rfl) (by kernel_rfl) fun d hd => by
    obtain ⟨op, ⟨⟩⟩ := d
    exact ⟨ann56 op, cast (by kernel_rfl) (f56_vc op)⟩
@[reducible] def ct37 : CT := { ps := [.int .i64], pre := fun d => True, res := fun d => ([], vB (decide (0 ≤ d.1) && decide (d.1 < 8))) }
@[reducible] def ct35 : CT := { ps := [shI], pre := fun d => True, res := fun d => ([], .one (.dat (.arr 7 (.int .i64)) [d.1.2.1, d.1.2.2.1, d.1.2.2.2.1, d.1.2.2.2.2.1, d.1.2.2.2.2.2.1, d.1.2.2.2.2.2.2.1, d.1.2.2.2.2.2.2.2.1])) }
@[reducible] def cl57 : List (Nat × CT) := []
@[reducible] def ann57 (op : Int) (a : Int) (b : Int) (c : Int) (obj : Int) (n : Int) (fn : Int) (ord : Int) : Nat → Option (St → Ann) := fun _ => none
set_option maxRecDepth 100000 in
theorem f57_vc (op : Int) (a : Int) (b : Int) (c : Int) (obj : Int) (n : Int) (fn : Int) (ord : Int) :
    ([] : List Go.Eng.Res) = [] ∧ Ent.one (SV.dat (Sh.arr (7 : Nat) (Sh.int IntKind.i64)) [a, b, c, obj, n, fn, ord]) = Ent.one (SV.dat (Sh.arr (7 : Nat) (Sh.int IntKind.i64)) [a, b, c, obj, n, fn, ord]) := by
  exact ⟨rfl, rfl⟩
set_option maxRecDepth 100000 in
theorem f57_met : Go.Eng.Met Tryd.prog cx0.gd 57 ct35 :=
  met_of (cx := cx0) (n := 18) (cl := cl57) (by kernel_rfl) tis_ok trivial Tryd.func57 (by kernel_rfl) (by kernel_rfl) rfl (by kernel_rfl) (by kernel_rfl) fun d hd => by
    obtain ⟨⟨op, a, b, c, obj, n, fn, ord, ⟨⟩⟩, ⟨⟩⟩ := d
    exact ⟨ann57 op a b c obj n fn ord, cast (by kernel_rfl) (f57_vc op a b c obj n fn ord)⟩
@[reducible] def ct36 : CT := { ps := [.int .i64], pre := fun d => True, res := fun d => ([], .one (.c (.v (.string (nameS d.1))))) }
@[reducible] def cl58 : List (Nat × CT) := []
@[reducible] def ann58 (f : Int) : Nat → Option (St → Ann) := fun _ => none
set_option maxRecDepth 100000 in
theorem f58_vc (f : Int) :
    br (decide (f < (1 : Int)) || decide ((10 : Int) < f)) (([] : List Go.Eng.Res) = [] ∧ Ent.one (SV.c (SC.v (Value.string (nameS f)))) = Ent.one (SV.c (SC.v (Value.string { data := #[] : ByteArray })))) (InR IntKind.i64 (f - (1 : Int)) ∧ ((0 : Int) ≤ f - (1 : Int) ∧ f - (1 : Int) < (10 : Int)) ∧ ∀ (d : ByteArray), namesD[(f - (1 : Int)).toNat]? = some d → ([] : List Go.Eng.Res) = [] ∧ Ent.one (SV.c (SC.v (Value.string (nameS f)))) = Ent.one (SV.c (SC.v (Value.string d)))) := by
  refine br_iff.2 ⟨fun h => ?_, fun h => ?_⟩
  · simp only [Bool.or_eq_true, decide_eq_true_eq] at h
    rw [show nameS f = ByteArray.empty from if_neg (by omega)]
    exact ⟨rfl, rfl⟩
  · simp only [Bool.or_eq_false_iff, decide_eq_false_iff_not] at h
    refine ⟨InR_i64.2 (by omega), by omega, fun d hd => ⟨rfl, ?_⟩⟩
    rw [show nameS f = namesD.getD (f - 1).toNat ByteArray.empty from if_pos (by omega), List.getD, hd]; rfl
set_option maxRecDepth 100000 in
theorem f58_met : Go.Eng.Met Tryd.prog cx0.gd 58 ct36 :=
  met_of (cx := cx0) (n := 13) (cl := cl58) (by kernel_rfl) tis_ok trivial Tryd.func58 (by kernel_rfl) (by kernel_rfl) rfl (by kernel_rfl) (by kernel_rfl) fun d hd => by
    obtain ⟨f, ⟨⟩⟩ := d
    exact ⟨ann58 f, cast (by kernel_rfl) (f58_vc f)⟩
@[reducible] def ct38 : CT := { ps := [.int .i64], pre := fun d => True, res := fun d => ([], .one (.c (.v (.string (nameS d.1))))) }
def hasF (op c : Int) : Bool := decide (1 ≤ op) && decide (op ≤ 22) && ((fieldsD.getD (op - 1).toNat ByteArray.empty).data.toList.any fun b => decide ((b.toNat : Int) = c))
@[reducible] def ct33 : CT := { ps := [.int .i64, .int .u8], pre := fun d => True, res := fun d => ([], vB (hasF d.1 d.2.1)) }
def regS (r : Int) : Bool := decide (0 ≤ r) && decide (r < 8)
/-- The first error of an instruction. -/
def chkS (op a b c obj n fn ord : Int) : Int :=
  if knownS op = false then 8 else
  if (!use op 0 && a != 0 || !use op 1 && b != 0 || !use op 2 && c != 0 || !use op 3 && obj != 0 || !use op 4 && n != 0 || !use op 5 && fn != 0 || !use op 6 && ord != 0) = true then 9 else
  if (!regS a || !regS b || !regS c) = true then 10 else
  if (decide (ord < 0) || decide (2 < ord)) = true then 13 else
  if (use op 5 && decide (nameS fn = (⟨#[]⟩ : ByteArray))) = true then 8 else
  if (decide (op = 1) && (decide (n < -2147483648) || decide (2147483647 < n))) = true then 2 else 0
theorem rows_use {op : Int} {nm : ByteArray} {us : List Bool} {u : Unit} (hb : 1 ≤ op ∧ op ≤ 22) (hd : rowsD[(op - 1).toNat]? = some (nm, us, u)) :
    us = [use op 0, use op 1, use op 2, use op 3, use op 4, use op 5, use op 6] := by
  have key : ∀ k : Fin 22, (rowsD[k.1]?).map (fun r => r.2.1) = some ([0, 1, 2, 3, 4, 5, 6].map fun j => (useT.getD k.1 []).getD j false) := by decide
  have h1 := key ⟨(op - 1).toNat, by omega⟩
  simp only at h1
  rw [hd] at h1
  simp only [Option.map_some, Option.some.injEq] at h1
  rw [h1]
  simp [use, hb.1, hb.2]
@[reducible] def ct11 : CT := { ps := [shI], pre := fun d => True, res := fun d => ([], .one (.c (.v (.int .i64 (chkS d.1.1 d.1.2.1 d.1.2.2.1 d.1.2.2.2.1 d.1.2.2.2.2.1 d.1.2.2.2.2.2.1 d.1.2.2.2.2.2.2.1 d.1.2.2.2.2.2.2.2.1))))) }
@[reducible] def cl47 : List (Nat × CT) := [(56, ct34), (57, ct35), (58, ct36)]
@[reducible] def ann47 (op : Int) (a : Int) (b : Int) (c : Int) (obj : Int) (n : Int) (fn : Int) (ord : Int) : Nat → Option (St → Ann) := fun k => match k with
  | 5 => some fun _ => .unroll 8
  | 11 => some fun _ => .unroll 4
  | _ => none
set_option maxRecDepth 100000 in
theorem f47_vc (op : Int) (a : Int) (b : Int) (c : Int) (obj : Int) (n : Int) (fn : Int) (ord : Int) :
    True ∧ br (!knownS op) (([] : List Go.Eng.Res) = [] ∧ Ent.one (SV.c (SC.v (Value.int IntKind.i64 (chkS op a b c obj n fn ord)))) = Ent.one (SV.c (SC.v (Value.int IntKind.i64 (8 : Int))))) (InR IntKind.i64 (op - (1 : Int)) ∧ ((0 : Int) ≤ op - (1 : Int) ∧ op - (1 : Int) < (22 : Int)) ∧ ∀ (d : Sh.str.den × ((Sh.arr (7 : Nat) Sh.bool).pair Sh.unit).den), rowsD[(op - (1 : Int)).toNat]? = some d → True ∧ ((0 : Int) ≤ (0 : Int) ∧ (0 : Int) < (↑[a, b, c, obj, n, fn, ord].length : Int)) ∧ ∀ (d_1 : Int), [a, b, c, obj, n, fn, ord][(0 : Nat)]? = some d_1 → ((0 : Int) ≤ (0 : Int) ∧ (0 : Int) < (7 : Int)) ∧ (0 : Nat) < (7 : Nat) ∧ ∀ (d_2 : Bool), (d.snd.fst)[(0 : Nat)]? = some d_2 → br (!d_2 && !decide (d_1 = (0 : Int))) (([] : List Go.Eng.Res) = [] ∧ Ent.one (SV.c (SC.v (Value.int IntKind.i64 (chkS op a b c obj n fn ord)))) = Ent.one (SV.c (SC.v (Value.int IntKind.i64 (9 : Int))))) (InR IntKind.i64 (1 : Int) ∧ ((0 : Int) ≤ (1 : Int) ∧ (1 : Int) < (↑[a, b, c, obj, n, fn, ord].length : Int)) ∧ ∀ (d_3 : Int), [a, b, c, obj, n, fn, ord][(1 : Nat)]? = some d_3 → ((0 : Int) ≤ (1 : Int) ∧ (1 : Int) < (7 : Int)) ∧ (1 : Nat) < (7 : Nat) ∧ ∀ (d_4 : Bool), (d.snd.fst)[(1 : Nat)]? = some d_4 → br (!d_4 && !decide (d_3 = (0 : Int))) (([] : List Go.Eng.Res) = [] ∧ Ent.one (SV.c (SC.v (Value.int IntKind.i64 (chkS op a b c obj n fn ord)))) = Ent.one (SV.c (SC.v (Value.int IntKind.i64 (9 : Int))))) (InR IntKind.i64 (2 : Int) ∧ ((0 : Int) ≤ (2 : Int) ∧ (2 : Int) < (↑[a, b, c, obj, n, fn, ord].length : Int)) ∧ ∀ (d_5 : Int), [a, b, c, obj, n, fn, ord][(2 : Nat)]? = some d_5 → ((0 : Int) ≤ (2 : Int) ∧ (2 : Int) < (7 : Int)) ∧ (2 : Nat) < (7 : Nat) ∧ ∀ (d_6 : Bool), (d.snd.fst)[(2 : Nat)]? = some d_6 → br (!d_6 && !decide (d_5 = (0 : Int))) (([] : List Go.Eng.Res) = [] ∧ Ent.one (SV.c (SC.v (Value.int IntKind.i64 (chkS op a b c obj n fn ord)))) = Ent.one (SV.c (SC.v (Value.int IntKind.i64 (9 : Int))))) (InR IntKind.i64 (3 : Int) ∧ ((0 : Int) ≤ (3 : Int) ∧ (3 : Int) < (↑[a, b, c, obj, n, fn, ord].length : Int)) ∧ ∀ (d_7 : Int), [a, b, c, obj, n, fn, ord][(3 : Nat)]? = some d_7 → ((0 : Int) ≤ (3 : Int) ∧ (3 : Int) < (7 : Int)) ∧ (3 : Nat) < (7 : Nat) ∧ ∀ (d_8 : Bool), (d.snd.fst)[(3 : Nat)]? = some d_8 → br (!d_8 && !decide (d_7 = (0 : Int))) (([] : List Go.Eng.Res) = [] ∧ Ent.one (SV.c (SC.v (Value.int IntKind.i64 (chkS op a b c obj n fn ord)))) = Ent.one (SV.c (SC.v (Value.int IntKind.i64 (9 : Int))))) (InR IntKind.i64 (4 : Int) ∧ ((0 : Int) ≤ (4 : Int) ∧ (4 : Int) < (↑[a, b, c, obj, n, fn, ord].length : Int)) ∧ ∀ (d_9 : Int), [a, b, c, obj, n, fn, ord][(4 : Nat)]? = some d_9 → ((0 : Int) ≤ (4 : Int) ∧ (4 : Int) < (7 : Int)) ∧ (4 : Nat) < (7 : Nat) ∧ ∀ (d_10 : Bool), (d.snd.fst)[(4 : Nat)]? = some d_10 → br (!d_10 && !decide (d_9 = (0 : Int))) (([] : List Go.Eng.Res) = [] ∧ Ent.one (SV.c (SC.v (Value.int IntKind.i64 (chkS op a b c obj n fn ord)))) = Ent.one (SV.c (SC.v (Value.int IntKind.i64 (9 : Int))))) (InR IntKind.i64 (5 : Int) ∧ ((0 : Int) ≤ (5 : Int) ∧ (5 : Int) < (↑[a, b, c, obj, n, fn, ord].length : Int)) ∧ ∀ (d_11 : Int), [a, b, c, obj, n, fn, ord][(5 : Nat)]? = some d_11 → ((0 : Int) ≤ (5 : Int) ∧ (5 : Int) < (7 : Int)) ∧ (5 : Nat) < (7 : Nat) ∧ ∀ (d_12 : Bool), (d.snd.fst)[(5 : Nat)]? = some d_12 → br (!d_12 && !decide (d_11 = (0 : Int))) (([] : List Go.Eng.Res) = [] ∧ Ent.one (SV.c (SC.v (Value.int IntKind.i64 (chkS op a b c obj n fn ord)))) = Ent.one (SV.c (SC.v (Value.int IntKind.i64 (9 : Int))))) (InR IntKind.i64 (6 : Int) ∧ ((0 : Int) ≤ (6 : Int) ∧ (6 : Int) < (↑[a, b, c, obj, n, fn, ord].length : Int)) ∧ ∀ (d_13 : Int), [a, b, c, obj, n, fn, ord][(6 : Nat)]? = some d_13 → ((0 : Int) ≤ (6 : Int) ∧ (6 : Int) < (7 : Int)) ∧ (6 : Nat) < (7 : Nat) ∧ ∀ (d_14 : Bool), (d.snd.fst)[(6 : Nat)]? = some d_14 → br (!d_14 && !decide (d_13 = (0 : Int))) (([] : List Go.Eng.Res) = [] ∧ Ent.one (SV.c (SC.v (Value.int IntKind.i64 (chkS op a b c obj n fn ord)))) = Ent.one (SV.c (SC.v (Value.int IntKind.i64 (9 : Int))))) (InR IntKind.i64 (7 : Int) ∧ ((0 : Int) ≤ (0 : Int) ∧ (0 : Int) < (↑[a, b, c].length : Int)) ∧ ∀ (d_15 : Int), [a, b, c][(0 : Nat)]? = some d_15 → ((0 : Int) ≤ (0 : Int) ∧ (0 : Int) < (7 : Int)) ∧ (0 : Nat) < (7 : Nat) ∧ ∀ (d_16 : Bool), (d.snd.fst)[(0 : Nat)]? = some d_16 → br (d_16 && (decide (d_15 < (0 : Int)) || decide ((8 : Int) ≤ d_15))) (([] : List Go.Eng.Res) = [] ∧ Ent.one (SV.c (SC.v (Value.int IntKind.i64 (chkS op a b c obj n fn ord)))) = Ent.one (SV.c (SC.v (Value.int IntKind.i64 (10 : Int))))) (InR IntKind.i64 (1 : Int) ∧ ((0 : Int) ≤ (1 : Int) ∧ (1 : Int) < (↑[a, b, c].length : Int)) ∧ ∀ (d_17 : Int), [a, b, c][(1 : Nat)]? = some d_17 → ((0 : Int) ≤ (1 : Int) ∧ (1 : Int) < (7 : Int)) ∧ (1 : Nat) < (7 : Nat) ∧ ∀ (d_18 : Bool), (d.snd.fst)[(1 : Nat)]? = some d_18 → br (d_18 && (decide (d_17 < (0 : Int)) || decide ((8 : Int) ≤ d_17))) (([] : List Go.Eng.Res) = [] ∧ Ent.one (SV.c (SC.v (Value.int IntKind.i64 (chkS op a b c obj n fn ord)))) = Ent.one (SV.c (SC.v (Value.int IntKind.i64 (10 : Int))))) (InR IntKind.i64 (2 : Int) ∧ ((0 : Int) ≤ (2 : Int) ∧ (2 : Int) < (↑[a, b, c].length : Int)) ∧ ∀ (d_19 : Int), [a, b, c][(2 : Nat)]? = some d_19 → ((0 : Int) ≤ (2 : Int) ∧ (2 : Int) < (7 : Int)) ∧ (2 : Nat) < (7 : Nat) ∧ ∀ (d_20 : Bool), (d.snd.fst)[(2 : Nat)]? = some d_20 → br (d_20 && (decide (d_19 < (0 : Int)) || decide ((8 : Int) ≤ d_19))) (([] : List Go.Eng.Res) = [] ∧ Ent.one (SV.c (SC.v (Value.int IntKind.i64 (chkS op a b c obj n fn ord)))) = Ent.one (SV.c (SC.v (Value.int IntKind.i64 (10 : Int))))) (InR IntKind.i64 (3 : Int) ∧ ((0 : Int) ≤ (6 : Int) ∧ (6 : Int) < (7 : Int)) ∧ (6 : Nat) < (7 : Nat) ∧ ∀ (d_21 : Bool), (d.snd.fst)[(6 : Nat)]? = some d_21 → br (d_21 && (decide (ord < (0 : Int)) || decide ((2 : Int) < ord))) (([] : List Go.Eng.Res) = [] ∧ Ent.one (SV.c (SC.v (Value.int IntKind.i64 (chkS op a b c obj n fn ord)))) = Ent.one (SV.c (SC.v (Value.int IntKind.i64 (13 : Int))))) (((0 : Int) ≤ (5 : Int) ∧ (5 : Int) < (7 : Int)) ∧ (5 : Nat) < (7 : Nat) ∧ ∀ (d_22 : Bool), (d.snd.fst)[(5 : Nat)]? = some d_22 → (d_22 = true → True) ∧ br (d_22 && decide (nameS fn = { data := #[] : ByteArray })) (([] : List Go.Eng.Res) = [] ∧ Ent.one (SV.c (SC.v (Value.int IntKind.i64 (chkS op a b c obj n fn ord)))) = Ent.one (SV.c (SC.v (Value.int IntKind.i64 (8 : Int))))) (br (decide (op = (1 : Int)) && (decide (n < (-2147483648 : Int)) || decide ((2147483647 : Int) < n))) (([] : List Go.Eng.Res) = [] ∧ Ent.one (SV.c (SC.v (Value.int IntKind.i64 (chkS op a b c obj n fn ord)))) = Ent.one (SV.c (SC.v (Value.int IntKind.i64 (2 : Int))))) (([] : List Go.Eng.Res) = [] ∧ Ent.one (SV.c (SC.v (Value.int IntKind.i64 (chkS op a b c obj n fn ord)))) = Ent.one (SV.c (SC.v (Value.int IntKind.i64 (0 : Int)))))))))))))))))) := by
  refine ⟨trivial, br_iff.2 ⟨fun h => ?_, fun h => ?_⟩⟩
  · have hk : knownS op = false := by simpa using h
    rw [show chkS op a b c obj n fn ord = 8 by simp [chkS, hk]]
    exact ⟨rfl, rfl⟩
  · have hk : knownS op = true := by simpa using h
    have hb : 1 ≤ op ∧ op ≤ 22 := by simpa [knownS] using hk
    refine ⟨InR_i64.2 (by omega), by omega, fun d hd => ?_⟩
    obtain ⟨nm, us, ⟨⟩⟩ := d
    have hu := rows_use hb hd
    subst hu
    clear hd
    simp only [List.getElem?_cons_zero, List.getElem?_cons_succ, Option.some.injEq, forall_eq', br_iff, InR_i64, List.length_cons, List.length_nil, true_and, Ent.one.injEq, SV.c.injEq, SC.v.injEq, Value.int.injEq, chkS, hk, regS]
    generalize use op 0 = u0
    generalize use op 1 = u1
    generalize use op 2 = u2
    generalize use op 3 = u3
    generalize use op 4 = u4
    generalize use op 5 = u5
    generalize use op 6 = u6
    repeat' (first | apply And.intro | intro _)
    all_goals first | omega | decide | skip
    all_goals simp_all
    all_goals grind
set_option maxRecDepth 100000 in
theorem f47_met : Go.Eng.Met Tryd.prog cx0.gd 47 ct11 :=
  met_of (cx := cx0) (n := 89) (cl := cl47) (by kernel_rfl) tis_ok ⟨f56_met, f57_met, f58_met, trivial⟩ Tryd.func47 (by kernel_rfl) (by kernel_rfl) rfl (by kernel_rfl) (by kernel_rfl) fun d hd => by
    obtain ⟨⟨op, a, b, c, obj, n, fn, ord, ⟨⟩⟩, ⟨⟩⟩ := d
    exact ⟨ann47 op a b c obj n fn ord, cast (by kernel_rfl) (f47_vc op a b c obj n fn ord)⟩
theorem has_use (op : Int) : hasF op 65 = use op 0 ∧ hasF op 66 = use op 1 ∧ hasF op 67 = use op 2 ∧ hasF op 79 = use op 3 ∧ hasF op 78 = use op 4 ∧ hasF op 70 = use op 5 ∧ hasF op 82 = use op 6 := by
  by_cases hb : 1 ≤ op ∧ op ≤ 22
  · have key : ∀ k : Fin 22, ([65, 66, 67, 79, 78, 70, 82].map fun c : Int => (fieldsD.getD k.1 ByteArray.empty).data.toList.any fun b => decide ((b.toNat : Int) = c)) = [0, 1, 2, 3, 4, 5, 6].map fun j => (useT.getD k.1 []).getD j false := by decide
    have h1 := key ⟨(op - 1).toNat, by omega⟩
    simp only [List.map_cons, List.map_nil, List.cons.injEq, and_true] at h1
    obtain ⟨h1, h2, h3, h4, h5, h6, h7⟩ := h1
    simp only [hasF, use, hb.1, hb.2, decide_true, Bool.true_and, h1, h2, h3, h4, h5, h6, h7, and_self]
  · have : (decide (1 ≤ op) && decide (op ≤ 22)) = false := by simp only [Bool.and_eq_false_iff, decide_eq_false_iff_not]; omega
    simp only [hasF, use, this, Bool.false_and, and_self]
@[reducible] def ct12 : CT := { ps := [shI], pre := fun d => True, res := fun d => ([], .one (.c (.v (.int .i64 (chkS d.1.1 d.1.2.1 d.1.2.2.1 d.1.2.2.2.1 d.1.2.2.2.2.1 d.1.2.2.2.2.2.1 d.1.2.2.2.2.2.2.1 d.1.2.2.2.2.2.2.2.1))))) }
end Go.Proofs.YtklnffdjhoacoaaDoor
