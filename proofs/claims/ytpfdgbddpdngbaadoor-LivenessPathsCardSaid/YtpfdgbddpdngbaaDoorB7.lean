/- Texts of this claim, part 7: V6, K6, V7, K7, V8, K8, K9, V9, K10, V12, K12, V16, V17, L4. Conditions: those of the given rows. -/
import Derived.Test.YtpfdgbddpdngbaaDoorB6
import Derived.Test.YtpfdgbddpdngbaaDoorCards
import Derived.Test.YtpfdgbddpdngbaaDoorTie
import Derived.WalkKit
import Derived.ProofKit
import Derived.OpenShut
import Derived.Deep.DeepHandedRow
import Derived.Lib.LaidTab
set_option linter.unusedSimpArgs false
set_option linter.unusedVariables false
set_option maxRecDepth 100000
namespace Go.Proofs.YtpfdgbddpdngbaaDoor
open Go Go.Eng

@[reducible] def ctNx : CT := { ps := [shF, .int .i64], pre := fun d => True, res := fun d => ([], .tup [.c (.sl (.int .i64) (nxtL d.1.2.1 d.2.1)), .c (.v (.int .i64 (nxtE d.1.2.1 d.2.1)))]) }
@[reducible] noncomputable def cl35 : List (Nat × CT) := [(50, ctCk), (54, ctSuc)]
@[reducible] def il35 : List (Nat × IP) := []
@[reducible] noncomputable def ann35 (nm : ByteArray) (l : List ID) (k : Int) : Nat → Option (St → Ann) := fun _ => none
@[reducible] noncomputable def ql35 : List (Nat × SQ) := [(53, sqCol)]
set_option maxRecDepth 100000 in
theorem f35_vc (nm : ByteArray) (l : List ID) (k : Int) :
    True ∧ br (!decide (cfgE l = (0 : Int))) (([] : List Go.Eng.Res) = [] ∧ Ent.tup [SV.c (SC.sl I6 (nxtL l k)), SV.c (v6 ((nxtE l k)))] = Ent.tup [SV.c (SC.sl I6 []), SV.c (v6 ((cfgE l)))]) (br (decide (k < (0 : Int)) || decide ((↑l.length : Int) ≤ k)) (([] : List Go.Eng.Res) = [] ∧ Ent.tup [SV.c (SC.sl I6 (nxtL l k)), SV.c (v6 ((nxtE l k)))] = Ent.tup [SV.c (SC.sl I6 []), SV.c (v6 ((2 : Int)))]) (((0 : I6.den) ≤ k ∧ k < (↑l.length : I6.den) ∧ l.length ≤ (64 : Nat)) ∧ some Tryd.prog = some Tryd.prog ∧ (sucD l k.toNat).length ≤ (1000 : Nat) ∧ ([] : List Go.Eng.Res) = [] ∧ Ent.tup [SV.c (SC.sl I6 (nxtL l k)), SV.c (v6 ((nxtE l k)))] = Ent.tup [SV.c (SC.sl I6 (List.map (fun x => x.fst) (sucD l k.toNat))), SV.c (v6 ((0 : Int)))])) := by
  refine ⟨trivial, br_iff.2 ⟨fun h => ?_, fun h => br_iff.2 ⟨fun h2 => ?_, fun h2 => ?_⟩⟩⟩
  · have h : ¬ cfgE l = 0 := by simpa using h
    have e : nxtE l k = cfgE l := if_pos h
    have e2 : nxtL l k = [] := if_neg (by rw [e]; exact h)
    rw [e, e2]; exact ⟨rfl, rfl⟩
  · have h : cfgE l = 0 := by simpa using h
    simp only [Bool.or_eq_true, decide_eq_true_eq] at h2
    have e : nxtE l k = 2 := (if_neg fun q => q h).trans (if_pos h2)
    have e2 : nxtL l k = [] := if_neg (by rw [e]; decide)
    rw [e, e2]; exact ⟨rfl, rfl⟩
  · have h : cfgE l = 0 := by simpa using h
    simp only [Bool.or_eq_false_iff, decide_eq_false_iff_not] at h2
    have e : nxtE l k = 0 := (if_neg fun q => q h).trans (if_neg (by omega))
    have e2 : nxtL l k = sucL l k.toNat := if_pos e
    have hb := (cfg_ok h).1
    refine ⟨⟨(show (0 : Int) ≤ k by omega), (show k < (l.length : Int) by omega), by omega⟩, rfl, ?_, rfl, ?_⟩
    · have := sucL_len l k.toNat
      simp only [sucD, List.length_map]; omega
    · have e3 : (sucD l k.toNat).map (fun x => x.fst) = sucL l k.toNat := sucD_fst _ _
      rw [e, e2, e3]
set_option maxHeartbeats 2000000 in
set_option maxRecDepth 100000 in
theorem f35_met : Go.Eng.Met Tryd.prog cx0.gd 35 ctNx :=
  met_usq (cx := cx0) (n := 25) (cl := cl35) (ql := ql35) (rc := [.data (.sl (.int .i64)), .keep]) (by kernel_rfl) tis_ok ⟨f50_met, f54_met, trivial⟩ ⟨f53_sq, trivial⟩ Tryd.func35 (by kernel_rfl) (by kernel_rfl) rfl (by kernel_rfl) (by kernel_rfl) fun d hd => by
    obtain ⟨⟨nm, l, ⟨⟩⟩, k, ⟨⟩⟩ := d
    exact ex_of (ann35 nm l k) (f35_vc nm l k) (by kernel_rfl)
@[reducible] def ctNxt : CT := { ps := [shF, .int .i64], pre := fun d => True, res := fun d => ([], .one (.c (.sl (.int .i64) (nxtL d.1.2.1 d.2.1)))) }
@[reducible] def cl41 : List (Nat × CT) := [(35, ctNx)]
@[reducible] def ann41 (nm : ByteArray) (l : List ID) (k : Int) : Nat → Option (St → Ann) := fun _ => none
set_option maxRecDepth 100000 in
theorem f41_vc (nm : ByteArray) (l : List ID) (k : Int) :
    True ∧ ([] : List Go.Eng.Res) = [] ∧ Ent.one (SV.c (SC.sl I6 (nxtL l k))) = Ent.one (SV.c (SC.sl I6 (nxtL l k))) := by
  exact ⟨trivial, rfl, rfl⟩
set_option maxHeartbeats 2000000 in
set_option maxRecDepth 100000 in
theorem f41_met : Go.Eng.Met Tryd.prog cx0.gd 41 ctNxt :=
  met_of (cx := cx0) (n := 14) (cl := cl41) (by kernel_rfl) tis_ok ⟨f35_met, trivial⟩ Tryd.func41 (by kernel_rfl) (by kernel_rfl) rfl (by kernel_rfl) (by kernel_rfl) fun d hd => by
    obtain ⟨⟨nm, l, ⟨⟩⟩, k, ⟨⟩⟩ := d
    exact ex_of (ann41 nm l k) (f41_vc nm l k) (by kernel_rfl)
@[reducible] def ctSrt : CT := { ps := [shF, .mp .i64 .bool], pre := fun d => d.1.2.1.length ≤ 1000, res := fun d => ([], .one (.c (.sl (.int .i64) (srtM d.1.2.1.length d.2.1)))) }
@[reducible] def cl51 : List (Nat × CT) := []
@[reducible] def il51 : List (Nat × IP) := []
@[reducible] def ann51 (nm : ByteArray) (l : List ID) (m : List (Int × Bool)) : Nat → Option (St → Ann) := fun k => match k with
  | 3 => some fun _ => .inv { α := Nat, slots := fun k => [(10, .c (.v (.int .i64 k))), (5, .c (.row 1))], res := fun k => [(1, .row 3 (.int .i64) (srtM k m))], inv := fun k => k ≤ (l).length, meas := fun k => (l).length - k, nil := [(5, 3, .int .i64)] }
  | _ => none
set_option maxRecDepth 100000 in
theorem f51_vc (nm : ByteArray) (l : List ID) (m : List (Int × Bool)) (hpre : ctSrt.pre ((nm, l, ()), m, ())) :
    (∃ x, x ≤ l.length ∧ (SV.c (v6 ((0 : Int))) = SV.c (v6 ((↑x : Int))) ∧ SV.c (SC.row (Nat.succ (0 : Nat))) = SV.c (SC.row (1 : Nat)) ∧ True) ∧ [(([] : Go.Eng.Gd), Res.blk (24 : Nat) [SC.v (Value.string nm), SC.sl shI l]), (([] : Go.Eng.Gd), Res.row (3 : TypeId) I6 [])] = [(([] : Go.Eng.Gd), Res.blk (24 : Nat) [SC.v (Value.string nm), SC.sl shI l]), (([] : Go.Eng.Gd), Res.row (3 : TypeId) I6 (srtM x m))]) ∧ ∀ (x : Nat), x ≤ l.length → br (decide ((↑x : Int) < (↑l.length : Int))) (br (mgetD (m) (↑x : Int) false) (InA (List.length (srtM x m) + List.length ([(↑x : Int)])) (8 : Nat) ∧ InR IntKind.i64 ((↑x : Int) + (1 : Int)) ∧ ∃ x', x' ≤ l.length ∧ (SV.c (v6 (((↑x : Int) + (1 : Int)))) = SV.c (v6 ((↑x' : Int))) ∧ SV.c (SC.row (1 : Nat)) = SV.c (SC.row (1 : Nat)) ∧ True) ∧ [(([] : Go.Eng.Gd), Res.blk (24 : Nat) [SC.v (Value.string nm), SC.sl shI l]), (([] : Go.Eng.Gd), Res.row (3 : TypeId) I6 (srtM x m ++ [(↑x : Int)]))] = [(([] : Go.Eng.Gd), Res.blk (24 : Nat) [SC.v (Value.string nm), SC.sl shI l]), (([] : Go.Eng.Gd), Res.row (3 : TypeId) I6 (srtM x' m))] ∧ l.length - x' < l.length - x) (InR IntKind.i64 ((↑x : Int) + (1 : Int)) ∧ ∃ x', x' ≤ l.length ∧ (SV.c (v6 (((↑x : Int) + (1 : Int)))) = SV.c (v6 ((↑x' : Int))) ∧ SV.c (SC.row (1 : Nat)) = SV.c (SC.row (1 : Nat)) ∧ True) ∧ [(([] : Go.Eng.Gd), Res.blk (24 : Nat) [SC.v (Value.string nm), SC.sl shI l]), (([] : Go.Eng.Gd), Res.row (3 : TypeId) I6 (srtM x m))] = [(([] : Go.Eng.Gd), Res.blk (24 : Nat) [SC.v (Value.string nm), SC.sl shI l]), (([] : Go.Eng.Gd), Res.row (3 : TypeId) I6 (srtM x' m))] ∧ l.length - x' < l.length - x)) (([] : List Go.Eng.Res) = [] ∧ Ent.one (SV.c (SC.sl I6 (srtM l.length m))) = Ent.one (SV.c (SC.sl I6 (srtM x m)))) := by
  have hp : l.length ≤ 1000 := hpre
  refine ⟨⟨0, Nat.zero_le _, ⟨rfl, rfl, trivial⟩, rfl⟩, fun x hx => br_iff.2 ⟨fun g => ?_, fun g => ?_⟩⟩
  · simp only [decide_eq_true_eq] at g
    have st := flt_rng x (fun i => mgetD m i false) (k := x)
    refine br_iff.2 ⟨fun h => ?_, fun h => ?_⟩
    · have e : srtM (x + 1) m = srtM x m ++ [(x : Int)] := by unfold srtM; rw [st, if_pos h]
      refine ⟨?_, InR_i64.2 (by omega), x + 1, by omega, ⟨rfl, rfl, trivial⟩, ?_, by omega⟩
      · have h1 : (srtM x m).length ≤ x := flt_len x _
        have h2 : ([(x : Int)] : List Int).length = 1 := rfl
        unfold InA
        exact Nat.le_trans (Nat.mul_le_mul_right 8 (show _ ≤ 1001 by rw [h2]; omega)) (by decide)
      · rw [e]
    · have e : srtM (x + 1) m = srtM x m := by unfold srtM; rw [st, if_neg (by rw [h]; simp), List.append_nil]
      exact ⟨InR_i64.2 (by omega), x + 1, by omega, ⟨rfl, rfl, trivial⟩, by rw [e], by omega⟩
  · simp only [decide_eq_false_iff_not] at g
    have e : x = l.length := by omega
    rw [e]; exact ⟨rfl, rfl⟩
set_option maxHeartbeats 2000000 in
set_option maxRecDepth 100000 in
theorem f51_met : Go.Eng.Met Tryd.prog cx0.gd 51 ctSrt :=
  met_ip (il := il51) (rc := [.data (.sl (.int .i64))]) (cx := cx0) (n := 22) (cl := cl51) (by kernel_rfl) tis_ok trivial trivial Tryd.func51 (by kernel_rfl) (by kernel_rfl) rfl (by kernel_rfl) (by kernel_rfl) fun d hd => by
    obtain ⟨⟨nm, l, ⟨⟩⟩, m, ⟨⟩⟩ := d
    exact ex_of (ann51 nm l m) (f51_vc nm l m hd) (by kernel_rfl)
@[reducible] def ctSs : CT := { ps := [.mp .i64 .bool], pre := fun d => True, res := fun d => ([], .one (.c (.sl (.int .i64) (srtM 8 d.1)))) }
@[reducible] def cl32 : List (Nat × CT) := []
@[reducible] def il32 : List (Nat × IP) := []
@[reducible] def ann32 (m : List (Int × Bool)) : Nat → Option (St → Ann) := fun k => match k with
  | 3 => some fun _ => .inv { α := Nat, slots := fun k => [(5, .c (.v (.int .i64 k))), (3, .c (.row 0))], res := fun k => [(0, .row 3 (.int .i64) (srtM k m))], inv := fun k => k ≤ (List.range 8).length, meas := fun k => (List.range 8).length - k, nil := [(3, 3, .int .i64)] }
  | _ => none
set_option maxRecDepth 100000 in
theorem f32_vc (m : List (Int × Bool)) :
    (∃ x, x ≤ (8 : Nat) ∧ (SV.c (v6 ((0 : Int))) = SV.c (v6 ((↑x : Int))) ∧ SV.c (SC.row (0 : Nat)) = SV.c (SC.row (0 : Nat)) ∧ True) ∧ [(([] : Go.Eng.Gd), Res.row (3 : TypeId) I6 [])] = [(([] : Go.Eng.Gd), Res.row (3 : TypeId) I6 (srtM x m))]) ∧ ∀ (x : Nat), x ≤ (8 : Nat) → br (decide ((↑x : Int) < (8 : Int))) (br (mgetD (m) (↑x : Int) false) (InA (List.length (srtM x m) + List.length ([(↑x : Int)])) (8 : Nat) ∧ InR IntKind.i64 ((↑x : Int) + (1 : Int)) ∧ ∃ x', x' ≤ (8 : Nat) ∧ (SV.c (v6 (((↑x : Int) + (1 : Int)))) = SV.c (v6 ((↑x' : Int))) ∧ SV.c (SC.row (0 : Nat)) = SV.c (SC.row (0 : Nat)) ∧ True) ∧ [(([] : Go.Eng.Gd), Res.row (3 : TypeId) I6 (srtM x m ++ [(↑x : Int)]))] = [(([] : Go.Eng.Gd), Res.row (3 : TypeId) I6 (srtM x' m))] ∧ (8 : Nat) - x' < (8 : Nat) - x) (InR IntKind.i64 ((↑x : Int) + (1 : Int)) ∧ ∃ x', x' ≤ (8 : Nat) ∧ (SV.c (v6 (((↑x : Int) + (1 : Int)))) = SV.c (v6 ((↑x' : Int))) ∧ SV.c (SC.row (0 : Nat)) = SV.c (SC.row (0 : Nat)) ∧ True) ∧ [(([] : Go.Eng.Gd), Res.row (3 : TypeId) I6 (srtM x m))] = [(([] : Go.Eng.Gd), Res.row (3 : TypeId) I6 (srtM x' m))] ∧ (8 : Nat) - x' < (8 : Nat) - x)) (([] : List Go.Eng.Res) = [] ∧ Ent.one (SV.c (SC.sl I6 (srtM (8 : Nat) m))) = Ent.one (SV.c (SC.sl I6 (srtM x m)))) := by
  refine ⟨⟨0, Nat.zero_le _, ⟨rfl, rfl, trivial⟩, rfl⟩, fun x hx => br_iff.2 ⟨fun g => ?_, fun g => ?_⟩⟩
  · simp only [decide_eq_true_eq] at g
    have st := flt_rng x (fun i => mgetD m i false) (k := x)
    refine br_iff.2 ⟨fun h => ?_, fun h => ?_⟩
    · have e : srtM (x + 1) m = srtM x m ++ [(x : Int)] := by unfold srtM; rw [st, if_pos h]
      refine ⟨?_, InR_i64.2 (by omega), x + 1, by omega, ⟨rfl, rfl, trivial⟩, ?_, by omega⟩
      · have h1 : (srtM x m).length ≤ x := flt_len x _
        have h2 : ([(x : Int)] : List Int).length = 1 := rfl
        unfold InA
        exact Nat.le_trans (Nat.mul_le_mul_right 8 (show _ ≤ 1001 by rw [h2]; omega)) (by decide)
      · rw [e]
    · have e : srtM (x + 1) m = srtM x m := by unfold srtM; rw [st, if_neg (by rw [h]; simp), List.append_nil]
      exact ⟨InR_i64.2 (by omega), x + 1, by omega, ⟨rfl, rfl, trivial⟩, by rw [e], by omega⟩
  · simp only [decide_eq_false_iff_not] at g
    have e : x = 8 := by omega
    rw [e]; exact ⟨rfl, rfl⟩
set_option maxHeartbeats 2000000 in
set_option maxRecDepth 100000 in
theorem f32_met : Go.Eng.Met Tryd.prog cx0.gd 32 ctSs :=
  met_ip (il := il32) (rc := [.data (.sl (.int .i64))]) (cx := cx0) (n := 17) (cl := cl32) (by kernel_rfl) tis_ok trivial trivial Tryd.func32 (by kernel_rfl) (by kernel_rfl) rfl (by kernel_rfl) (by kernel_rfl) fun d hd => by
    obtain ⟨m, ⟨⟩⟩ := d
    exact ex_of (ann32 m) (f32_vc m) (by kernel_rfl)
@[reducible] def ctLd : CT := { ps := [shF], pre := fun d => True, res := fun d => ([], .tup [.c (.sl (.int .i64) (if cfgE d.1.2.1 = 0 then srtM d.1.2.1.length (ldrM d.1.2.1 d.1.2.1.length) else [])), .c (.v (.int .i64 (cfgE d.1.2.1)))]) }
@[reducible] def cl30 : List (Nat × CT) := [(50, ctCk), (51, ctSrt)]
@[reducible] def il30 : List (Nat × IP) := []
@[reducible] def ann30 (nm : ByteArray) (l : List ID) : Nat → Option (St → Ann) := fun k => match k with
  | 6 => some fun _ => .inv { α := Nat, slots := fun k => [(18, .c (.v (.int .i64 k)))], res := fun k => [(1, .mp .i64 .bool (ldrM l k))], inv := fun k => k ≤ (l).length, meas := fun k => (l).length - k }
  | _ => none
set_option maxRecDepth 100000 in
theorem f30_vc (nm : ByteArray) (l : List ID) :
    True ∧ br (!decide (cfgE l = (0 : Int))) (([] : List Go.Eng.Res) = [] ∧ Ent.tup [SV.c (SC.sl I6 (if cfgE l = (0 : Int) then srtM l.length (ldrM l l.length) else [])), SV.c (v6 ((cfgE l)))] = Ent.tup [SV.c (SC.sl I6 []), SV.c (v6 ((cfgE l)))]) ((∃ x, x ≤ l.length ∧ (SV.c (v6 ((0 : Int))) = SV.c (v6 ((↑x : Int))) ∧ True) ∧ [(([] : Go.Eng.Gd), Res.blk (24 : Nat) [SC.v (Value.string nm), SC.sl shI l]), (([] : Go.Eng.Gd), Res.mp IntKind.i64 Sh.bool (mput ([]) (0 : Int) true))] = [(([] : Go.Eng.Gd), Res.blk (24 : Nat) [SC.v (Value.string nm), SC.sl shI l]), (([] : Go.Eng.Gd), Res.mp IntKind.i64 Sh.bool (ldrM l x))]) ∧ ∀ (x : Nat), x ≤ l.length → br (decide ((↑x : Int) < (↑l.length : Int))) (((0 : Int) ≤ (↑x : Int) ∧ (↑x : Int) < (↑l.length : Int)) ∧ ∀ (d : I6.den × (I6.pair (I6.pair (I6.pair (I6.pair (I6.pair (I6.pair (I6.pair Sh.unit))))))).den), l[(↑x : Int).toNat]? = some d → br (decide (d.fst = (4 : Int))) (br (decide (d.fst = (4 : Int))) (InR IntKind.i64 ((↑x : Int) + (1 : Int)) ∧ InR IntKind.i64 ((↑x : Int) + (1 : Int)) ∧ ∃ x', x' ≤ l.length ∧ (SV.c (v6 (((↑x : Int) + (1 : Int)))) = SV.c (v6 ((↑x' : Int))) ∧ True) ∧ [(([] : Go.Eng.Gd), Res.blk (24 : Nat) [SC.v (Value.string nm), SC.sl shI l]), (([] : Go.Eng.Gd), Res.mp IntKind.i64 Sh.bool (mput (mput (ldrM l x) d.snd.snd.snd.snd.snd.fst true) ((↑x : Int) + (1 : Int)) true))] = [(([] : Go.Eng.Gd), Res.blk (24 : Nat) [SC.v (Value.string nm), SC.sl shI l]), (([] : Go.Eng.Gd), Res.mp IntKind.i64 Sh.bool (ldrM l x'))] ∧ l.length - x' < l.length - x) (br (decide (d.fst = (7 : Int))) (InR IntKind.i64 ((↑x : Int) + (1 : Int)) ∧ InR IntKind.i64 ((↑x : Int) + (1 : Int)) ∧ ∃ x', x' ≤ l.length ∧ (SV.c (v6 (((↑x : Int) + (1 : Int)))) = SV.c (v6 ((↑x' : Int))) ∧ True) ∧ [(([] : Go.Eng.Gd), Res.blk (24 : Nat) [SC.v (Value.string nm), SC.sl shI l]), (([] : Go.Eng.Gd), Res.mp IntKind.i64 Sh.bool (mput (ldrM l x) ((↑x : Int) + (1 : Int)) true))] = [(([] : Go.Eng.Gd), Res.blk (24 : Nat) [SC.v (Value.string nm), SC.sl shI l]), (([] : Go.Eng.Gd), Res.mp IntKind.i64 Sh.bool (ldrM l x'))] ∧ l.length - x' < l.length - x) (InR IntKind.i64 ((↑x : Int) + (1 : Int)) ∧ ∃ x', x' ≤ l.length ∧ (SV.c (v6 (((↑x : Int) + (1 : Int)))) = SV.c (v6 ((↑x' : Int))) ∧ True) ∧ [(([] : Go.Eng.Gd), Res.blk (24 : Nat) [SC.v (Value.string nm), SC.sl shI l]), (([] : Go.Eng.Gd), Res.mp IntKind.i64 Sh.bool (ldrM l x))] = [(([] : Go.Eng.Gd), Res.blk (24 : Nat) [SC.v (Value.string nm), SC.sl shI l]), (([] : Go.Eng.Gd), Res.mp IntKind.i64 Sh.bool (ldrM l x'))] ∧ l.length - x' < l.length - x))) (br (decide (d.fst = (5 : Int))) (InR IntKind.i64 ((↑x : Int) + (1 : Int)) ∧ InR IntKind.i64 ((↑x : Int) + (1 : Int)) ∧ ∃ x', x' ≤ l.length ∧ (SV.c (v6 (((↑x : Int) + (1 : Int)))) = SV.c (v6 ((↑x' : Int))) ∧ True) ∧ [(([] : Go.Eng.Gd), Res.blk (24 : Nat) [SC.v (Value.string nm), SC.sl shI l]), (([] : Go.Eng.Gd), Res.mp IntKind.i64 Sh.bool (mput (mput (ldrM l x) d.snd.snd.snd.snd.snd.fst true) ((↑x : Int) + (1 : Int)) true))] = [(([] : Go.Eng.Gd), Res.blk (24 : Nat) [SC.v (Value.string nm), SC.sl shI l]), (([] : Go.Eng.Gd), Res.mp IntKind.i64 Sh.bool (ldrM l x'))] ∧ l.length - x' < l.length - x) (br (decide (d.fst = (7 : Int))) (InR IntKind.i64 ((↑x : Int) + (1 : Int)) ∧ InR IntKind.i64 ((↑x : Int) + (1 : Int)) ∧ ∃ x', x' ≤ l.length ∧ (SV.c (v6 (((↑x : Int) + (1 : Int)))) = SV.c (v6 ((↑x' : Int))) ∧ True) ∧ [(([] : Go.Eng.Gd), Res.blk (24 : Nat) [SC.v (Value.string nm), SC.sl shI l]), (([] : Go.Eng.Gd), Res.mp IntKind.i64 Sh.bool (mput (ldrM l x) ((↑x : Int) + (1 : Int)) true))] = [(([] : Go.Eng.Gd), Res.blk (24 : Nat) [SC.v (Value.string nm), SC.sl shI l]), (([] : Go.Eng.Gd), Res.mp IntKind.i64 Sh.bool (ldrM l x'))] ∧ l.length - x' < l.length - x) (InR IntKind.i64 ((↑x : Int) + (1 : Int)) ∧ ∃ x', x' ≤ l.length ∧ (SV.c (v6 (((↑x : Int) + (1 : Int)))) = SV.c (v6 ((↑x' : Int))) ∧ True) ∧ [(([] : Go.Eng.Gd), Res.blk (24 : Nat) [SC.v (Value.string nm), SC.sl shI l]), (([] : Go.Eng.Gd), Res.mp IntKind.i64 Sh.bool (ldrM l x))] = [(([] : Go.Eng.Gd), Res.blk (24 : Nat) [SC.v (Value.string nm), SC.sl shI l]), (([] : Go.Eng.Gd), Res.mp IntKind.i64 Sh.bool (ldrM l x'))] ∧ l.length - x' < l.length - x)))) (l.length ≤ (1000 : Nat) ∧ ([] : List Go.Eng.Res) = [] ∧ Ent.tup [SV.c (SC.sl I6 (if cfgE l = (0 : Int) then srtM l.length (ldrM l l.length) else [])), SV.c (v6 ((cfgE l)))] = Ent.tup [SV.c (SC.sl I6 (srtM l.length (ldrM l x))), SV.c (v6 ((0 : Int)))])) := by
  refine ⟨trivial, br_iff.2 ⟨fun h => ?_, fun h => ?_⟩⟩
  · have h : ¬ cfgE l = 0 := by simpa using h
    rw [if_neg h]; exact ⟨rfl, rfl⟩
  have h : cfgE l = 0 := by simpa using h
  have hb := (cfg_ok h).1
  refine ⟨⟨0, Nat.zero_le _, ⟨rfl, trivial⟩, rfl⟩, fun x hx => br_iff.2 ⟨fun g => ?_, fun g => ?_⟩⟩
  · simp only [decide_eq_true_eq] at g
    refine ⟨by omega, fun d hd => ?_⟩
    have hd' : l[x]? = some d := hd
    have hR : InR .i64 ((x : Int) + 1) := InR_i64.2 (by omega)
    have st := ldrM_succ hd'
    have s1 : d.1 = 4 ∨ d.1 = 5 → ldrM l (x + 1) = mput (mput (ldrM l x) (nI d) true) ((x : Int) + 1) true := fun q => st.trans (if_pos q)
    have s2 : ¬ (d.1 = 4 ∨ d.1 = 5) → d.1 = 7 → ldrM l (x + 1) = mput (ldrM l x) ((x : Int) + 1) true := fun q q2 => st.trans ((if_neg q).trans (if_pos q2))
    have s3 : ¬ (d.1 = 4 ∨ d.1 = 5) → ¬ d.1 = 7 → ldrM l (x + 1) = ldrM l x := fun q q2 => st.trans ((if_neg q).trans (if_neg q2))
    refine br_iff.2 ⟨fun h4 => br_iff.2 ⟨fun _ => ?_, fun q => ?_⟩, fun h4 => br_iff.2 ⟨fun h5 => ?_, fun h5 => br_iff.2 ⟨fun h7 => ?_, fun h7 => ?_⟩⟩⟩
    · simp only [decide_eq_true_eq] at h4
      exact ⟨hR, hR, x + 1, by omega, ⟨rfl, trivial⟩, by rw [s1 (.inl h4)]; rfl, by omega⟩
    · rw [h4] at q; cases q
    · simp only [decide_eq_true_eq] at h5
      exact ⟨hR, hR, x + 1, by omega, ⟨rfl, trivial⟩, by rw [s1 (.inr h5)]; rfl, by omega⟩
    · simp only [decide_eq_true_eq, decide_eq_false_iff_not] at h4 h5 h7
      exact ⟨hR, hR, x + 1, by omega, ⟨rfl, trivial⟩, by rw [s2 (fun q => q.elim h4 h5) h7], by omega⟩
    · simp only [decide_eq_true_eq, decide_eq_false_iff_not] at h4 h5 h7
      exact ⟨hR, x + 1, by omega, ⟨rfl, trivial⟩, by rw [s3 (fun q => q.elim h4 h5) h7], by omega⟩
  · simp only [decide_eq_false_iff_not] at g
    have e : x = l.length := by omega
    refine ⟨by omega, ?_⟩
    rw [if_pos h, e, h]; exact ⟨rfl, rfl⟩
set_option maxHeartbeats 2000000 in
set_option maxRecDepth 100000 in
theorem f30_met : Go.Eng.Met Tryd.prog cx0.gd 30 ctLd :=
  met_ip (il := il30) (rc := [.data (.sl (.int .i64)), .keep]) (cx := cx0) (n := 43) (cl := cl30) (by kernel_rfl) tis_ok ⟨f50_met, f51_met, trivial⟩ trivial Tryd.func30 (by kernel_rfl) (by kernel_rfl) rfl (by kernel_rfl) (by kernel_rfl) fun d hd => by
    obtain ⟨⟨nm, l, ⟨⟩⟩, ⟨⟩⟩ := d
    exact ex_of (ann30 nm l) (f30_vc nm l) (by kernel_rfl)
@[reducible] def ctAft : CT := { ps := [shF, .sl (.mp .i64 .bool), .int .i64], pre := fun d => cfgE d.1.2.1 = 0 ∧ 0 ≤ d.2.2.1 ∧ d.2.2.1 < d.1.2.1.length ∧ d.2.1.length = d.1.2.1.length, res := fun d => ([.mp .i64 .bool (mpS (aftL (cfL d.1.2.1) (d.2.1.map keysM) d.2.2.1.toNat))], .one (.c (.row 0))) }
@[reducible] def cl36 : List (Nat × CT) := [(41, ctNxt)]
@[reducible] def ann36 (nm : ByteArray) (l : List ID) (bf : List (List (Int × Bool))) (k : Int) : Nat → Option (St → Ann) := fun q => match q with
  | 3 => some fun _ => .inv { α := Nat, slots := fun j => [(16, .c (.v (.int .i64 j)))], res := fun j => [(1, .mp .i64 .bool (mpS (aftP l bf k.toNat j)))], inv := fun j => j ≤ (sucL l k.toNat).length, meas := fun j => (sucL l k.toNat).length - j }
  | 7 => some fun s => .inv { α := List (Int × Bool), slots := fun _ => [], res := fun dn => [(1, .mp .i64 .bool (addM (mpOf s 1) dn)), (2, .it .i64 .bool (itOf s 2) dn)], inv := fun dn => outM (itOf s 2) dn, meas := fun dn => (itOf s 2).length - dn.length }
  | _ => none
set_option maxRecDepth 100000 in
theorem f36_vc (nm : ByteArray) (l : List ID) (bf : List (List (Int × Bool))) (k : Int) (hpre : ctAft.pre ((nm, l, ()), bf, k, ())) :
    True ∧ (∃ x, x ≤ (sucL l k.toNat).length ∧ (SV.c (v6 ((0 : Int))) = SV.c (v6 ((↑x : Int))) ∧ True) ∧ [(([] : Go.Eng.Gd), Res.blk (24 : Nat) [SC.v (Value.string nm), SC.sl shI l]), (([] : Go.Eng.Gd), Res.mp IntKind.i64 Sh.bool [])] = [(([] : Go.Eng.Gd), Res.blk (24 : Nat) [SC.v (Value.string nm), SC.sl shI l]), (([] : Go.Eng.Gd), Res.mp IntKind.i64 Sh.bool (mpS (aftP l bf k.toNat x)))]) ∧ ∀ (x : Nat), x ≤ (sucL l k.toNat).length → br (decide ((↑x : Int) < (↑(nxtL l k).length : Int))) (((0 : Int) ≤ (↑x : Int) ∧ (↑x : Int) < (↑(nxtL l k).length : Int)) ∧ ∀ (d : Int), (nxtL l k)[(↑x : Int).toNat]? = some d → br (decide (d = (↑l.length : Int))) (InR IntKind.i64 ((↑x : Int) + (1 : Int)) ∧ ∃ x', x' ≤ (sucL l k.toNat).length ∧ (SV.c (v6 (((↑x : Int) + (1 : Int)))) = SV.c (v6 ((↑x' : Int))) ∧ True) ∧ [(([] : Go.Eng.Gd), Res.blk (24 : Nat) [SC.v (Value.string nm), SC.sl shI l]), (([] : Go.Eng.Gd), Res.mp IntKind.i64 Sh.bool (mpS (aftP l bf k.toNat x)))] = [(([] : Go.Eng.Gd), Res.blk (24 : Nat) [SC.v (Value.string nm), SC.sl shI l]), (([] : Go.Eng.Gd), Res.mp IntKind.i64 Sh.bool (mpS (aftP l bf k.toNat x')))] ∧ (sucL l k.toNat).length - x' < (sucL l k.toNat).length - x) (((0 : Int) ≤ d ∧ d < (↑bf.length : Int)) ∧ ∀ (d_1 : List (Int × Sh.bool.den)), bf[d.toNat]? = some d_1 → (∃ x_1, outM (d_1) x_1 ∧ True ∧ [(([] : Go.Eng.Gd), Res.blk (24 : Nat) [SC.v (Value.string nm), SC.sl shI l]), (([] : Go.Eng.Gd), Res.mp IntKind.i64 Sh.bool (mpS (aftP l bf k.toNat x))), (([] : Go.Eng.Gd), Res.it IntKind.i64 Sh.bool (d_1) [])] = [(([] : Go.Eng.Gd), Res.blk (24 : Nat) [SC.v (Value.string nm), SC.sl shI l]), (([] : Go.Eng.Gd), Res.mp IntKind.i64 Sh.bool (addM (mpS (aftP l bf k.toNat x)) x_1)), (([] : Go.Eng.Gd), Res.it IntKind.i64 Sh.bool (d_1) x_1)]) ∧ ∀ (x_1 : List (Int × Bool)), outM (d_1) x_1 → ((∀ (x : Int × Sh.bool.den), x ∈ d_1 → x ∈ x_1) → InR IntKind.i64 ((↑x : Int) + (1 : Int)) ∧ ∃ x', x' ≤ (sucL l k.toNat).length ∧ (SV.c (v6 (((↑x : Int) + (1 : Int)))) = SV.c (v6 ((↑x' : Int))) ∧ True) ∧ [(([] : Go.Eng.Gd), Res.blk (24 : Nat) [SC.v (Value.string nm), SC.sl shI l]), (([] : Go.Eng.Gd), Res.mp IntKind.i64 Sh.bool (addM (mpS (aftP l bf k.toNat x)) x_1))] = [(([] : Go.Eng.Gd), Res.blk (24 : Nat) [SC.v (Value.string nm), SC.sl shI l]), (([] : Go.Eng.Gd), Res.mp IntKind.i64 Sh.bool (mpS (aftP l bf k.toNat x')))] ∧ (sucL l k.toNat).length - x' < (sucL l k.toNat).length - x) ∧ ∀ (n : Int) (v : Bool), (n, v) ∈ d_1 → (∀ (y : Int × Sh.bool.den), y ∈ x_1 → y.fst ≠ n) → x_1 ++ [(n, v)] ≠ [] ∧ ∀ (n_1 : Int) (v_1 : Bool), (x_1 ++ [(n, v)]).getLast? = some (n_1, v_1) → ∃ x', outM (d_1) x' ∧ True ∧ [(([] : Go.Eng.Gd), Res.blk (24 : Nat) [SC.v (Value.string nm), SC.sl shI l]), (([] : Go.Eng.Gd), Res.mp IntKind.i64 Sh.bool (mput (addM (mpS (aftP l bf k.toNat x)) x_1) n_1 true)), (([] : Go.Eng.Gd), Res.it IntKind.i64 Sh.bool (d_1) (x_1 ++ [(n, v)]))] = [(([] : Go.Eng.Gd), Res.blk (24 : Nat) [SC.v (Value.string nm), SC.sl shI l]), (([] : Go.Eng.Gd), Res.mp IntKind.i64 Sh.bool (addM (mpS (aftP l bf k.toNat x)) x')), (([] : Go.Eng.Gd), Res.it IntKind.i64 Sh.bool (d_1) x')] ∧ List.length (d_1) - List.length x' < List.length (d_1) - x_1.length)) ([Res.mp IntKind.i64 Sh.bool (mpS (aftL (cfL l) (List.map keysM bf) k.toNat))] = [Res.mp IntKind.i64 Sh.bool (mpS (aftP l bf k.toNat x))] ∧ Ent.one (SV.c (SC.row (0 : Nat))) = Ent.one (SV.c (SC.row (0 : Nat)))) := by
  obtain ⟨hc, h0, h1, hl⟩ : cfgE l = 0 ∧ 0 ≤ k ∧ k < l.length ∧ bf.length = l.length := hpre
  have en : nxtE l k = 0 := (if_neg fun q => q hc).trans (if_neg (by omega))
  have el : nxtL l k = sucL l k.toNat := if_pos en
  have sl := sucL_len l k.toNat
  have z0 := aftP_zero l bf k.toNat
  refine ⟨trivial, ⟨0, Nat.zero_le _, ⟨rfl, trivial⟩, by rw [z0]; rfl⟩, fun x hx => ?_⟩
  rw [el]
  refine br_iff.2 ⟨fun g => ?_, fun g => ?_⟩
  · simp only [decide_eq_true_eq] at g
    have hR : InR .i64 ((x : Int) + 1) := InR_i64.2 (by omega)
    refine ⟨by omega, fun d hd => ?_⟩
    have hd' : (sucL l k.toNat)[x]? = some d := hd
    have rg := suc_rng hc (k := k.toNat) (by omega) d (List.mem_of_getElem? hd')
    have st := aftP_succ (bf := bf) hd'
    refine br_iff.2 ⟨fun h => ?_, fun h => ?_⟩
    · simp only [decide_eq_true_eq] at h
      have e : aftP l bf k.toNat (x + 1) = aftP l bf k.toNat x := by
        rw [st, rowL_out (by omega), List.append_nil, make_id (aftP_ss ..)]
      exact ⟨hR, x + 1, by omega, ⟨rfl, trivial⟩, by rw [e], by omega⟩
    · simp only [decide_eq_false_iff_not] at h
      refine ⟨by omega, fun m hm => ?_⟩
      have rk := rowL_keys hm
      refine ⟨⟨[], outM_nil _, trivial, rfl⟩, fun dn ho => ⟨fun ha => ?_, fun n v hn hy => ⟨by simp, fun n1 v1 hl1 => ?_⟩⟩⟩
      · refine ⟨hR, x + 1, by omega, ⟨rfl, trivial⟩, ?_, by omega⟩
        have e : addM (mpS (aftP l bf k.toNat x)) dn = mpS (aftP l bf k.toNat (x + 1)) := by
          rw [addM_mpS dn (aftP_ss ..), st, rk]
          congr 1
          refine make_congr fun y => ?_
          rw [List.mem_append, List.mem_append]
          refine or_congr Iff.rfl ?_
          unfold keysM
          rw [List.mem_map, List.mem_map]
          exact ⟨fun ⟨z, z1, z2⟩ => ⟨z, ho.2 z z1, z2⟩, fun ⟨z, z1, z2⟩ => ⟨z, ha z z1, z2⟩⟩
        rw [e]
      · rw [List.getLast?_concat] at hl1
        cases hl1
        refine ⟨dn ++ [(n, v)], outM_snoc ho hn hy, trivial, by rw [addM_snoc], ?_⟩
        have := outM_lt ho hn hy
        rw [List.length_append, List.length_cons, List.length_nil]; omega
  · simp only [decide_eq_false_iff_not] at g
    rw [aftP_all (by omega)]; exact ⟨rfl, rfl⟩
set_option maxHeartbeats 2000000 in
set_option maxRecDepth 100000 in
theorem f36_met : Go.Eng.Met Tryd.prog cx0.gd 36 ctAft :=
  met_of (cx := cx0) (n := 38) (cl := cl36) (by kernel_rfl) tis_ok ⟨f41_met, trivial⟩ Tryd.func36 (by kernel_rfl) (by kernel_rfl) rfl (by kernel_rfl) (by kernel_rfl) fun d hd => by
    obtain ⟨⟨nm, l, ⟨⟩⟩, bf, k, ⟨⟩⟩ := d
    exact ex_of (ann36 nm l bf k) (f36_vc nm l bf k hd) (by kernel_rfl)
end Go.Proofs.YtpfdgbddpdngbaaDoor
set_option linter.unusedSimpArgs false
set_option linter.unusedVariables false
namespace Go.Proofs.YtpfdgbddpdngbaaDoor
open Go Go.Eng
noncomputable def befL (l : List ID) : List (List Int) := (List.range l.length).map (liv (cfL l) false)
@[reducible] def szOf (s : St) (i : Nat) : Nat := match nthL s.T i with
  | some ([], .row _ (.mp .i64 .bool) m) => (m.map List.length).sum
  | some ([], .row _ (.sl (.int .i64)) m) => (m.map List.length).sum
  | _ => 0
def addU (m : List (Int × Bool)) (us : List Int) : List (Int × Bool) := us.foldl (fun m r => mput m r true) m
theorem addU_snoc (m : List (Int × Bool)) (us : List Int) (r : Int) : addU m (us ++ [r]) = mput (addU m us) r true := by
  unfold addU; rw [List.foldl_append]; rfl
theorem addU_mpS : ∀ (us : List Int) {s : List Int}, SS s → addU (mpS s) us = mpS (makeI (s ++ us))
  | [], s, h => by simp only [addU, List.foldl_nil, List.append_nil, make_id h]
  | x :: us, s, h => by
    show addU (mput (mpS s) x true) us = _
    rw [mput_mpS h, addU_mpS us (make_ss _)]
    congr 1
    refine make_congr fun y => ?_
    simp only [List.mem_append, make_mem, List.mem_cons, List.not_mem_nil, or_false]
    exact or_assoc
theorem sz_mpS (B : List (List Int)) : ((B.map mpS).map List.length).sum = szL B := by
  unfold szL
  rw [List.map_map]
  congr 1
  exact List.map_congr_left fun x _ => mpS_len x
theorem map_keys (B : List (List Int)) : (B.map mpS).map keysM = B := by
  rw [List.map_map, show keysM ∘ mpS = id from funext keys_mpS, List.map_id]
/-- The rounds' relation. -/
structure InA' (l : List ID) (B : List (List Int)) : Prop where
  inv : Inv (cfL l) false B
  len : B.length = l.length
theorem InA'.start (l : List ID) : InA' l (List.replicate l.length []) := ⟨Inv.start (cfL l) (Nat.le_refl _), by simp⟩
theorem InA'.set {l : List ID} {B : List (List Int)} (h : InA' l B) {k : Nat} (hk : k < l.length) : InA' l (B.set k (trL (cfL l) B k)) := ⟨h.inv.set hk, by rw [List.length_set]; exact h.len⟩
theorem InA'.bnd {l : List ID} (hc : cfgE l = 0) {B : List (List Int)} (h : InA' l B) : szL B ≤ 8 * l.length := by
  have := h.inv.bnd (cfL_ok hc); rwa [h.len] at this
theorem InA'.fin {l : List ID} (hc : cfgE l = 0) {B : List (List Int)} (h : InA' l B) (hf : ∀ k, k < l.length → trL (cfL l) B k = B.getD k []) : B = befL l := by
  apply List.ext_getElem?
  intro k
  by_cases hk : k < l.length
  · have e := h.inv.fin (cfL_ok hc) hf (k := k) (Nat.le_of_lt hk)
    rw [List.getD_eq_getElem?_getD] at e
    have hk' : k < B.length := by rw [h.len]; exact hk
    rw [List.getElem?_eq_getElem hk'] at e ⊢
    simp only [befL, List.getElem?_map, List.getElem?_range hk, Option.map_some]
    exact congrArg some e
  · rw [List.getElem?_eq_none (by rw [h.len]; omega), List.getElem?_eq_none (by simp [befL]; omega)]
theorem befL_len (l : List ID) : (befL l).length = l.length := by simp [befL]
theorem befL_get {l : List ID} {k : Nat} (h : k < l.length) : (befL l)[k]? = some (liv (cfL l) false k) := by
  simp [befL, List.getElem?_range h]
theorem liv_top (l : List ID) {k : Nat} (hc : cfgE l = 0) (h : l.length ≤ k) : liv (cfL l) false k = [] := by
  refine List.eq_nil_iff_forall_not_mem.2 fun r hr => ?_
  have := (liv_mem (cfL_ok hc)).1 hr
  cases this with
  | exit a b c => cases a
  | use a b => have a : k < l.length := a; omega
  | step a b c d => have a : k < l.length := a; omega
theorem befL_row {l : List ID} (hc : cfgE l = 0) {s : Int} : rowL (befL l) s = liv (cfL l) false s.toNat := by
  unfold rowL
  rw [List.getD_eq_getElem?_getD]
  by_cases h : s.toNat < l.length
  · rw [befL_get h]; rfl
  · rw [List.getElem?_eq_none (by rw [befL_len]; omega), liv_top l hc (by omega)]; rfl
theorem srt_mpS {s : List Int} {n : Nat} (hs : SS s) (h : ∀ x ∈ s, 0 ≤ x ∧ x < n) : srtM n (mpS s) = s := by
  unfold srtM
  refine ss_ext ((rngI_ss n).sublist List.filter_sublist) hs fun x => ?_
  rw [List.mem_filter, rngI_mem]
  unfold mgetD
  rw [mget_mpS hs]
  constructor
  · rintro ⟨_, hx⟩
    split at hx
    · assumption
    · cases hx
  · intro hx
    exact ⟨h x hx, by rw [if_pos hx]; rfl⟩
theorem liv_rng {l : List ID} (hc : cfgE l = 0) (ex : Bool) (k : Nat) : ∀ x ∈ liv (cfL l) ex k, 0 ≤ x ∧ x < ((8 : Nat) : Int) := fun x hx => ((liv_mem (cfL_ok hc)).1 hx).reg (cfL_ok hc)
theorem aft_rng {l : List ID} (hc : cfgE l = 0) (k : Nat) : ∀ x ∈ aftL (cfL l) (befL l) k, 0 ≤ x ∧ x < ((8 : Nat) : Int) := by
  intro x hx
  obtain ⟨s, _, hx⟩ := aft_mem.1 hx
  rw [befL_row hc] at hx
  exact liv_rng hc _ _ x hx
end Go.Proofs.YtpfdgbddpdngbaaDoor
set_option linter.unusedSimpArgs false
set_option linter.unusedVariables false
set_option maxRecDepth 100000
namespace Go.Proofs.YtpfdgbddpdngbaaDoor
open Go Go.Eng

@[reducible] noncomputable def ctAn : CT := { ps := [shF], pre := fun d => cfgE d.1.2.1 = 0, res := fun d => ([], .one (.c (.sl (.mp .i64 .bool) ((befL d.1.2.1).map mpS)))) }
@[reducible] noncomputable def cl31 : List (Nat × CT) := [(36, ctAft), (38, ct8), (52, ct14)]
@[reducible] def il31 : List (Nat × IP) := []
@[reducible] noncomputable def ann31 (nm : ByteArray) (l : List ID) : Nat → Option (St → Ann) := fun q => match q with
  | 3 => some fun _ => .inv { α := Nat, slots := fun j => [(18, .c (.v (.int .i64 j)))], res := fun _ => [(1, .row 60 (.mp .i64 .bool) (List.replicate l.length []))], inv := fun j => j ≤ l.length, meas := fun j => l.length - j }
  | 8 => some fun _ => .inv { α := List (List Int) × Bool, slots := fun x => [(5, .c (.v (.bool x.2)))], res := fun x => [(1, .row 60 (.mp .i64 .bool) (x.1.map mpS))], inv := fun x => InA' l x.1 ∧ (x.2 = false → ∀ k, k < l.length → trL (cfL l) x.1 k = x.1.getD k []), meas := fun x => 2 * (8 * l.length - szL x.1) + (if x.2 = true then 1 else 0) }
  | 11 => some fun s => .inv { α := List (List Int) × Bool × Nat, slots := fun x => [(5, .c (.v (.bool x.2.1))), (6, .c (.v (.int .i64 (x.2.2 - 1))))], res := fun x => [(1, .row 60 (.mp .i64 .bool) (x.1.map mpS))], inv := fun x => InA' l x.1 ∧ x.2.2 ≤ l.length ∧ szOf s 1 + (if x.2.1 = true then 1 else 0) ≤ szL x.1 ∧ (x.2.1 = false → ∀ k, x.2.2 ≤ k → k < l.length → trL (cfL l) x.1 k = x.1.getD k []), meas := fun x => x.2.2 }
  | 18 => some fun s => .inv { α := Nat, slots := fun j => [(58, .c (.v (.int .i64 j)))], res := fun j => [(2, .mp .i64 .bool (addU (mpOf s 2) ((slotL (.int .i64) s 56).take j)))], inv := fun j => j ≤ (slotL (.int .i64) s 56).length, meas := fun j => (slotL (.int .i64) s 56).length - j }
  | _ => none
set_option maxRecDepth 100000 in
theorem f31_vc (nm : ByteArray) (l : List ID) (hpre : ctAn.pre ((nm, l, ()), ())) :
    ((0 : Int) ≤ (↑l.length : Int) ∧ (↑l.length : Int) ≤ (↑l.length : Int) ∧ InA (↑l.length : Int).toNat (8 : Nat)) ∧
  (∃ x, x ≤ l.length ∧ (SV.c (v6 ((0 : Int))) = SV.c (v6 ((↑x : Int))) ∧ True) ∧ [(([] : Go.Eng.Gd), Res.blk (24 : Nat) [SC.v (Value.string nm), SC.sl shI l]), (([] : Go.Eng.Gd), Res.row (60 : TypeId) (Sh.mp IntKind.i64 Sh.bool) (List.replicate (↑l.length : Int).toNat ([] : List (Int × Bool))))] = [(([] : Go.Eng.Gd), Res.blk (24 : Nat) [SC.v (Value.string nm), SC.sl shI l]), (([] : Go.Eng.Gd), Res.row (60 : TypeId) (Sh.mp IntKind.i64 Sh.bool) (List.replicate l.length ([] : List (Int × Bool))))]) ∧
    ∀ (x : Nat),
      x ≤ l.length →
        br (decide ((↑x : Int) < (↑(List.replicate (↑l.length : Int).toNat ([] : List (Int × Bool))).length : Int))) (((0 : Int) ≤ (↑x : Int) ∧ (↑x : Int) < (↑(List.replicate l.length ([] : List (Int × Bool))).length : Int)) ∧ (↑x : Int).toNat < (List.replicate l.length ([] : List (Int × Bool))).length ∧ InR IntKind.i64 ((↑x : Int) + (1 : Int)) ∧ ∃ x', x' ≤ l.length ∧ (SV.c (v6 (((↑x : Int) + (1 : Int)))) = SV.c (v6 ((↑x' : Int))) ∧ True) ∧ [(([] : Go.Eng.Gd), Res.blk (24 : Nat) [SC.v (Value.string nm), SC.sl shI l]), (([] : Go.Eng.Gd), Res.row (60 : TypeId) (Sh.mp IntKind.i64 Sh.bool) ((List.replicate l.length ([] : List (Int × Bool))).set (↑x : Int).toNat ([])))] = [(([] : Go.Eng.Gd), Res.blk (24 : Nat) [SC.v (Value.string nm), SC.sl shI l]), (([] : Go.Eng.Gd), Res.row (60 : TypeId) (Sh.mp IntKind.i64 Sh.bool) (List.replicate l.length ([] : List (Int × Bool))))] ∧ l.length - x' < l.length - x)
          ((∃ x : List (List Int) × Bool, (InA' l x.fst ∧ (x.snd = false → ∀ (k : Nat), k < l.length → trL (cfL l) x.fst k = x.fst.getD k [])) ∧ (SV.c (SC.v (Value.bool true)) = SV.c (SC.v (Value.bool x.snd)) ∧ True) ∧ [(([] : Go.Eng.Gd), Res.blk (24 : Nat) [SC.v (Value.string nm), SC.sl shI l]), (([] : Go.Eng.Gd), Res.row (60 : TypeId) (Sh.mp IntKind.i64 Sh.bool) (List.replicate l.length ([] : List (Int × Bool))))] = [(([] : Go.Eng.Gd), Res.blk (24 : Nat) [SC.v (Value.string nm), SC.sl shI l]), (([] : Go.Eng.Gd), Res.row (60 : TypeId) (Sh.mp IntKind.i64 Sh.bool) (List.map mpS x.fst))]) ∧
            ∀ (x_1 : List (List Int) × Bool),
              InA' l x_1.fst ∧ (x_1.snd = false → ∀ (k : Nat), k < l.length → trL (cfL l) x_1.fst k = x_1.fst.getD k []) →
                br x_1.snd
                  (InR IntKind.i64 ((↑l.length : Int) - (1 : Int)) ∧
                    (∃ x : List (List Int) × Bool × Nat, (InA' l x.fst ∧ x.snd.snd ≤ l.length ∧ ((List.map List.length (List.map mpS x_1.fst)).sum + if x.snd.fst = true then (1 : Nat) else (0 : Nat)) ≤ szL x.fst ∧ (x.snd.fst = false → ∀ (k : Nat), x.snd.snd ≤ k → k < l.length → trL (cfL l) x.fst k = x.fst.getD k [])) ∧ (SV.c (SC.v (Value.bool false)) = SV.c (SC.v (Value.bool x.snd.fst)) ∧ SV.c (v6 (((↑l.length : Int) - (1 : Int)))) = SV.c (v6 (((↑x.snd.snd : Int) - (1 : Int)))) ∧ True) ∧ [(([] : Go.Eng.Gd), Res.blk (24 : Nat) [SC.v (Value.string nm), SC.sl shI l]), (([] : Go.Eng.Gd), Res.row (60 : TypeId) (Sh.mp IntKind.i64 Sh.bool) (List.map mpS x_1.fst))] = [(([] : Go.Eng.Gd), Res.blk (24 : Nat) [SC.v (Value.string nm), SC.sl shI l]), (([] : Go.Eng.Gd), Res.row (60 : TypeId) (Sh.mp IntKind.i64 Sh.bool) (List.map mpS x.fst))]) ∧
                      ∀ (x_2 : List (List Int) × Bool × Nat),
                        InA' l x_2.fst ∧ x_2.snd.snd ≤ l.length ∧ ((List.map List.length (List.map mpS x_1.fst)).sum + if x_2.snd.fst = true then (1 : Nat) else (0 : Nat)) ≤ szL x_2.fst ∧ (x_2.snd.fst = false → ∀ (k : Nat), x_2.snd.snd ≤ k → k < l.length → trL (cfL l) x_2.fst k = x_2.fst.getD k []) →
                          br (decide ((0 : Int) ≤ (↑x_2.snd.snd : Int) - (1 : Int)))
                            ((cfgE l = (0 : Int) ∧ (0 : I6.den) ≤ (↑x_2.snd.snd : Int) - (1 : Int) ∧ (↑x_2.snd.snd : Int) - (1 : Int) < (↑l.length : I6.den) ∧ (List.map mpS x_2.fst).length = l.length) ∧
                              ((0 : Int) ≤ (↑x_2.snd.snd : Int) - (1 : Int) ∧ (↑x_2.snd.snd : Int) - (1 : Int) < (↑l.length : Int)) ∧
                                ∀ (d : I6.den × (I6.pair (I6.pair (I6.pair (I6.pair (I6.pair (I6.pair (I6.pair Sh.unit))))))).den),
                                  l[((↑x_2.snd.snd : Int) - (1 : Int)).toNat]? = some d →
                                    True ∧
                                      br (decide (chkS d.fst d.snd.fst d.snd.snd.fst d.snd.snd.snd.fst d.snd.snd.snd.snd.fst d.snd.snd.snd.snd.snd.fst (d.snd.snd.snd.snd.snd.snd.fst, d.snd.snd.snd.snd.snd.snd.snd.fst, ()).fst d.snd.snd.snd.snd.snd.snd.snd.fst = (0 : Int)) && use d.fst (0 : Nat))
                                        (((0 : Int) ≤ (↑x_2.snd.snd : Int) - (1 : Int) ∧ (↑x_2.snd.snd : Int) - (1 : Int) < (↑l.length : Int)) ∧
                                          ∀ (d_1 : I6.den × (I6.pair (I6.pair (I6.pair (I6.pair (I6.pair (I6.pair (I6.pair Sh.unit))))))).den),
                                            l[((↑x_2.snd.snd : Int) - (1 : Int)).toNat]? = some d_1 →
                                              True ∧
                                                (∃ x, x ≤ List.length (usesS d_1.fst d_1.snd.fst d_1.snd.snd.fst d_1.snd.snd.snd.fst d_1.snd.snd.snd.snd.fst d_1.snd.snd.snd.snd.snd.fst (d_1.snd.snd.snd.snd.snd.snd.fst, d_1.snd.snd.snd.snd.snd.snd.snd.fst, ()).fst d_1.snd.snd.snd.snd.snd.snd.snd.fst) ∧ (SV.c (v6 ((0 : Int))) = SV.c (v6 ((↑x : Int))) ∧ True) ∧ [(([] : Go.Eng.Gd), Res.blk (24 : Nat) [SC.v (Value.string nm), SC.sl shI l]), (([] : Go.Eng.Gd), Res.row (60 : TypeId) (Sh.mp IntKind.i64 Sh.bool) (List.map mpS x_2.fst)), (([] : Go.Eng.Gd), Res.mp IntKind.i64 Sh.bool (mdel (mpS (aftL (cfL l) (List.map keysM (List.map mpS x_2.fst)) ((↑x_2.snd.snd : Int) - (1 : Int)).toNat)) (if chkS d.fst d.snd.fst d.snd.snd.fst d.snd.snd.snd.fst d.snd.snd.snd.snd.fst d.snd.snd.snd.snd.snd.fst (d.snd.snd.snd.snd.snd.snd.fst, d.snd.snd.snd.snd.snd.snd.snd.fst, ()).fst d.snd.snd.snd.snd.snd.snd.snd.fst = (0 : Int) ∧ use d.fst (0 : Nat) = true then d.snd.fst else (0 : Int))))] = [(([] : Go.Eng.Gd), Res.blk (24 : Nat) [SC.v (Value.string nm), SC.sl shI l]), (([] : Go.Eng.Gd), Res.row (60 : TypeId) (Sh.mp IntKind.i64 Sh.bool) (List.map mpS x_2.fst)), (([] : Go.Eng.Gd), Res.mp IntKind.i64 Sh.bool (addU (mdel (mpS (aftL (cfL l) (List.map keysM (List.map mpS x_2.fst)) ((↑x_2.snd.snd : Int) - (1 : Int)).toNat)) (if chkS d.fst d.snd.fst d.snd.snd.fst d.snd.snd.snd.fst d.snd.snd.snd.snd.fst d.snd.snd.snd.snd.snd.fst (d.snd.snd.snd.snd.snd.snd.fst, d.snd.snd.snd.snd.snd.snd.snd.fst, ()).fst d.snd.snd.snd.snd.snd.snd.snd.fst = (0 : Int) ∧ use d.fst (0 : Nat) = true then d.snd.fst else (0 : Int))) (List.take x (usesS d_1.fst d_1.snd.fst d_1.snd.snd.fst d_1.snd.snd.snd.fst d_1.snd.snd.snd.snd.fst d_1.snd.snd.snd.snd.snd.fst (d_1.snd.snd.snd.snd.snd.snd.fst, d_1.snd.snd.snd.snd.snd.snd.snd.fst, ()).fst d_1.snd.snd.snd.snd.snd.snd.snd.fst))))]) ∧
                                                  ∀ (x_3 : Nat),
                                                    x_3 ≤ List.length (usesS d_1.fst d_1.snd.fst d_1.snd.snd.fst d_1.snd.snd.snd.fst d_1.snd.snd.snd.snd.fst d_1.snd.snd.snd.snd.snd.fst (d_1.snd.snd.snd.snd.snd.snd.fst, d_1.snd.snd.snd.snd.snd.snd.snd.fst, ()).fst d_1.snd.snd.snd.snd.snd.snd.snd.fst) →
                                                      br (decide ((↑x_3 : Int) < (↑(usesS d_1.fst d_1.snd.fst d_1.snd.snd.fst d_1.snd.snd.snd.fst d_1.snd.snd.snd.snd.fst d_1.snd.snd.snd.snd.snd.fst (d_1.snd.snd.snd.snd.snd.snd.fst, d_1.snd.snd.snd.snd.snd.snd.snd.fst, ()).fst d_1.snd.snd.snd.snd.snd.snd.snd.fst).length : Int))) (((0 : Int) ≤ (↑x_3 : Int) ∧ (↑x_3 : Int) < (↑(usesS d_1.fst d_1.snd.fst d_1.snd.snd.fst d_1.snd.snd.snd.fst d_1.snd.snd.snd.snd.fst d_1.snd.snd.snd.snd.snd.fst (d_1.snd.snd.snd.snd.snd.snd.fst, d_1.snd.snd.snd.snd.snd.snd.snd.fst, ()).fst d_1.snd.snd.snd.snd.snd.snd.snd.fst).length : Int)) ∧ ∀ (d_2 : Int), (usesS d_1.fst d_1.snd.fst d_1.snd.snd.fst d_1.snd.snd.snd.fst d_1.snd.snd.snd.snd.fst d_1.snd.snd.snd.snd.snd.fst (d_1.snd.snd.snd.snd.snd.snd.fst, d_1.snd.snd.snd.snd.snd.snd.snd.fst, ()).fst d_1.snd.snd.snd.snd.snd.snd.snd.fst)[(↑x_3 : Int).toNat]? = some d_2 → InR IntKind.i64 ((↑x_3 : Int) + (1 : Int)) ∧ ∃ x', x' ≤ List.length (usesS d_1.fst d_1.snd.fst d_1.snd.snd.fst d_1.snd.snd.snd.fst d_1.snd.snd.snd.snd.fst d_1.snd.snd.snd.snd.snd.fst (d_1.snd.snd.snd.snd.snd.snd.fst, d_1.snd.snd.snd.snd.snd.snd.snd.fst, ()).fst d_1.snd.snd.snd.snd.snd.snd.snd.fst) ∧ (SV.c (v6 (((↑x_3 : Int) + (1 : Int)))) = SV.c (v6 ((↑x' : Int))) ∧ True) ∧ [(([] : Go.Eng.Gd), Res.blk (24 : Nat) [SC.v (Value.string nm), SC.sl shI l]), (([] : Go.Eng.Gd), Res.row (60 : TypeId) (Sh.mp IntKind.i64 Sh.bool) (List.map mpS x_2.fst)), (([] : Go.Eng.Gd), Res.mp IntKind.i64 Sh.bool (mput (addU (mdel (mpS (aftL (cfL l) (List.map keysM (List.map mpS x_2.fst)) ((↑x_2.snd.snd : Int) - (1 : Int)).toNat)) (if chkS d.fst d.snd.fst d.snd.snd.fst d.snd.snd.snd.fst d.snd.snd.snd.snd.fst d.snd.snd.snd.snd.snd.fst (d.snd.snd.snd.snd.snd.snd.fst, d.snd.snd.snd.snd.snd.snd.snd.fst, ()).fst d.snd.snd.snd.snd.snd.snd.snd.fst = (0 : Int) ∧ use d.fst (0 : Nat) = true then d.snd.fst else (0 : Int))) (List.take x_3 (usesS d_1.fst d_1.snd.fst d_1.snd.snd.fst d_1.snd.snd.snd.fst d_1.snd.snd.snd.snd.fst d_1.snd.snd.snd.snd.snd.fst (d_1.snd.snd.snd.snd.snd.snd.fst, d_1.snd.snd.snd.snd.snd.snd.snd.fst, ()).fst d_1.snd.snd.snd.snd.snd.snd.snd.fst))) d_2 true))] = [(([] : Go.Eng.Gd), Res.blk (24 : Nat) [SC.v (Value.string nm), SC.sl shI l]), (([] : Go.Eng.Gd), Res.row (60 : TypeId) (Sh.mp IntKind.i64 Sh.bool) (List.map mpS x_2.fst)), (([] : Go.Eng.Gd), Res.mp IntKind.i64 Sh.bool (addU (mdel (mpS (aftL (cfL l) (List.map keysM (List.map mpS x_2.fst)) ((↑x_2.snd.snd : Int) - (1 : Int)).toNat)) (if chkS d.fst d.snd.fst d.snd.snd.fst d.snd.snd.snd.fst d.snd.snd.snd.snd.fst d.snd.snd.snd.snd.snd.fst (d.snd.snd.snd.snd.snd.snd.fst, d.snd.snd.snd.snd.snd.snd.snd.fst, ()).fst d.snd.snd.snd.snd.snd.snd.snd.fst = (0 : Int) ∧ use d.fst (0 : Nat) = true then d.snd.fst else (0 : Int))) (List.take x' (usesS d_1.fst d_1.snd.fst d_1.snd.snd.fst d_1.snd.snd.snd.fst d_1.snd.snd.snd.snd.fst d_1.snd.snd.snd.snd.snd.fst (d_1.snd.snd.snd.snd.snd.snd.fst, d_1.snd.snd.snd.snd.snd.snd.snd.fst, ()).fst d_1.snd.snd.snd.snd.snd.snd.snd.fst))))] ∧ List.length (usesS d_1.fst d_1.snd.fst d_1.snd.snd.fst d_1.snd.snd.snd.fst d_1.snd.snd.snd.snd.fst d_1.snd.snd.snd.snd.snd.fst (d_1.snd.snd.snd.snd.snd.snd.fst, d_1.snd.snd.snd.snd.snd.snd.snd.fst, ()).fst d_1.snd.snd.snd.snd.snd.snd.snd.fst) - x' < List.length (usesS d_1.fst d_1.snd.fst d_1.snd.snd.fst d_1.snd.snd.snd.fst d_1.snd.snd.snd.snd.fst d_1.snd.snd.snd.snd.snd.fst (d_1.snd.snd.snd.snd.snd.snd.fst, d_1.snd.snd.snd.snd.snd.snd.snd.fst, ()).fst d_1.snd.snd.snd.snd.snd.snd.snd.fst) - x_3)
                                                        (((0 : Int) ≤ (↑x_2.snd.snd : Int) - (1 : Int) ∧ (↑x_2.snd.snd : Int) - (1 : Int) < (↑(List.map mpS x_2.fst).length : Int)) ∧ ((↑x_2.snd.snd : Int) - (1 : Int)).toNat < (List.map mpS x_2.fst).length ∧ ∀ (d_2 : List (Int × Sh.bool.den)), (List.map mpS x_2.fst)[((↑x_2.snd.snd : Int) - (1 : Int)).toNat]? = some d_2 → br (!decide ((↑(List.length (addU (mdel (mpS (aftL (cfL l) (List.map keysM (List.map mpS x_2.fst)) ((↑x_2.snd.snd : Int) - (1 : Int)).toNat)) (if chkS d.fst d.snd.fst d.snd.snd.fst d.snd.snd.snd.fst d.snd.snd.snd.snd.fst d.snd.snd.snd.snd.snd.fst (d.snd.snd.snd.snd.snd.snd.fst, d.snd.snd.snd.snd.snd.snd.snd.fst, ()).fst d.snd.snd.snd.snd.snd.snd.snd.fst = (0 : Int) ∧ use d.fst (0 : Nat) = true then d.snd.fst else (0 : Int))) (List.take x_3 (usesS d_1.fst d_1.snd.fst d_1.snd.snd.fst d_1.snd.snd.snd.fst d_1.snd.snd.snd.snd.fst d_1.snd.snd.snd.snd.snd.fst (d_1.snd.snd.snd.snd.snd.snd.fst, d_1.snd.snd.snd.snd.snd.snd.snd.fst, ()).fst d_1.snd.snd.snd.snd.snd.snd.snd.fst)))) : Int) = (↑(List.length (d_2)) : Int))) (((0 : Int) ≤ (↑x_2.snd.snd : Int) - (1 : Int) ∧ (↑x_2.snd.snd : Int) - (1 : Int) < (↑(List.map mpS x_2.fst).length : Int)) ∧ ((↑x_2.snd.snd : Int) - (1 : Int)).toNat < (List.map mpS x_2.fst).length ∧ InR IntKind.i64 ((↑x_2.snd.snd : Int) - (1 : Int) - (1 : Int)) ∧ ∃ x' : List (List Int) × Bool × Nat, (InA' l x'.fst ∧ x'.snd.snd ≤ l.length ∧ ((List.map List.length (List.map mpS x_1.fst)).sum + if x'.snd.fst = true then (1 : Nat) else (0 : Nat)) ≤ szL x'.fst ∧ (x'.snd.fst = false → ∀ (k : Nat), x'.snd.snd ≤ k → k < l.length → trL (cfL l) x'.fst k = x'.fst.getD k [])) ∧ (SV.c (SC.v (Value.bool true)) = SV.c (SC.v (Value.bool x'.snd.fst)) ∧ SV.c (v6 (((↑x_2.snd.snd : Int) - (1 : Int) - (1 : Int)))) = SV.c (v6 (((↑x'.snd.snd : Int) - (1 : Int)))) ∧ True) ∧ [(([] : Go.Eng.Gd), Res.blk (24 : Nat) [SC.v (Value.string nm), SC.sl shI l]), (([] : Go.Eng.Gd), Res.row (60 : TypeId) (Sh.mp IntKind.i64 Sh.bool) ((List.map mpS x_2.fst).set ((↑x_2.snd.snd : Int) - (1 : Int)).toNat (addU (mdel (mpS (aftL (cfL l) (List.map keysM (List.map mpS x_2.fst)) ((↑x_2.snd.snd : Int) - (1 : Int)).toNat)) (if chkS d.fst d.snd.fst d.snd.snd.fst d.snd.snd.snd.fst d.snd.snd.snd.snd.fst d.snd.snd.snd.snd.snd.fst (d.snd.snd.snd.snd.snd.snd.fst, d.snd.snd.snd.snd.snd.snd.snd.fst, ()).fst d.snd.snd.snd.snd.snd.snd.snd.fst = (0 : Int) ∧ use d.fst (0 : Nat) = true then d.snd.fst else (0 : Int))) (List.take x_3 (usesS d_1.fst d_1.snd.fst d_1.snd.snd.fst d_1.snd.snd.snd.fst d_1.snd.snd.snd.snd.fst d_1.snd.snd.snd.snd.snd.fst (d_1.snd.snd.snd.snd.snd.snd.fst, d_1.snd.snd.snd.snd.snd.snd.snd.fst, ()).fst d_1.snd.snd.snd.snd.snd.snd.snd.fst)))))] = [(([] : Go.Eng.Gd), Res.blk (24 : Nat) [SC.v (Value.string nm), SC.sl shI l]), (([] : Go.Eng.Gd), Res.row (60 : TypeId) (Sh.mp IntKind.i64 Sh.bool) (List.map mpS x'.fst))] ∧ x'.snd.snd < x_2.snd.snd) (InR IntKind.i64 ((↑x_2.snd.snd : Int) - (1 : Int) - (1 : Int)) ∧ ∃ x' : List (List Int) × Bool × Nat, (InA' l x'.fst ∧ x'.snd.snd ≤ l.length ∧ ((List.map List.length (List.map mpS x_1.fst)).sum + if x'.snd.fst = true then (1 : Nat) else (0 : Nat)) ≤ szL x'.fst ∧ (x'.snd.fst = false → ∀ (k : Nat), x'.snd.snd ≤ k → k < l.length → trL (cfL l) x'.fst k = x'.fst.getD k [])) ∧ (SV.c (SC.v (Value.bool x_2.snd.fst)) = SV.c (SC.v (Value.bool x'.snd.fst)) ∧ SV.c (v6 (((↑x_2.snd.snd : Int) - (1 : Int) - (1 : Int)))) = SV.c (v6 (((↑x'.snd.snd : Int) - (1 : Int)))) ∧ True) ∧ [(([] : Go.Eng.Gd), Res.blk (24 : Nat) [SC.v (Value.string nm), SC.sl shI l]), (([] : Go.Eng.Gd), Res.row (60 : TypeId) (Sh.mp IntKind.i64 Sh.bool) (List.map mpS x_2.fst))] = [(([] : Go.Eng.Gd), Res.blk (24 : Nat) [SC.v (Value.string nm), SC.sl shI l]), (([] : Go.Eng.Gd), Res.row (60 : TypeId) (Sh.mp IntKind.i64 Sh.bool) (List.map mpS x'.fst))] ∧ x'.snd.snd < x_2.snd.snd)))
                                        (((0 : Int) ≤ (↑x_2.snd.snd : Int) - (1 : Int) ∧ (↑x_2.snd.snd : Int) - (1 : Int) < (↑l.length : Int)) ∧ ∀ (d_1 : I6.den × (I6.pair (I6.pair (I6.pair (I6.pair (I6.pair (I6.pair (I6.pair Sh.unit))))))).den), l[((↑x_2.snd.snd : Int) - (1 : Int)).toNat]? = some d_1 → True ∧ (∃ x, x ≤ List.length (usesS d_1.fst d_1.snd.fst d_1.snd.snd.fst d_1.snd.snd.snd.fst d_1.snd.snd.snd.snd.fst d_1.snd.snd.snd.snd.snd.fst (d_1.snd.snd.snd.snd.snd.snd.fst, d_1.snd.snd.snd.snd.snd.snd.snd.fst, ()).fst d_1.snd.snd.snd.snd.snd.snd.snd.fst) ∧ (SV.c (v6 ((0 : Int))) = SV.c (v6 ((↑x : Int))) ∧ True) ∧ [(([] : Go.Eng.Gd), Res.blk (24 : Nat) [SC.v (Value.string nm), SC.sl shI l]), (([] : Go.Eng.Gd), Res.row (60 : TypeId) (Sh.mp IntKind.i64 Sh.bool) (List.map mpS x_2.fst)), (([] : Go.Eng.Gd), Res.mp IntKind.i64 Sh.bool (mpS (aftL (cfL l) (List.map keysM (List.map mpS x_2.fst)) ((↑x_2.snd.snd : Int) - (1 : Int)).toNat)))] = [(([] : Go.Eng.Gd), Res.blk (24 : Nat) [SC.v (Value.string nm), SC.sl shI l]), (([] : Go.Eng.Gd), Res.row (60 : TypeId) (Sh.mp IntKind.i64 Sh.bool) (List.map mpS x_2.fst)), (([] : Go.Eng.Gd), Res.mp IntKind.i64 Sh.bool (addU (mpS (aftL (cfL l) (List.map keysM (List.map mpS x_2.fst)) ((↑x_2.snd.snd : Int) - (1 : Int)).toNat)) (List.take x (usesS d_1.fst d_1.snd.fst d_1.snd.snd.fst d_1.snd.snd.snd.fst d_1.snd.snd.snd.snd.fst d_1.snd.snd.snd.snd.snd.fst (d_1.snd.snd.snd.snd.snd.snd.fst, d_1.snd.snd.snd.snd.snd.snd.snd.fst, ()).fst d_1.snd.snd.snd.snd.snd.snd.snd.fst))))]) ∧ ∀ (x_3 : Nat), x_3 ≤ List.length (usesS d_1.fst d_1.snd.fst d_1.snd.snd.fst d_1.snd.snd.snd.fst d_1.snd.snd.snd.snd.fst d_1.snd.snd.snd.snd.snd.fst (d_1.snd.snd.snd.snd.snd.snd.fst, d_1.snd.snd.snd.snd.snd.snd.snd.fst, ()).fst d_1.snd.snd.snd.snd.snd.snd.snd.fst) → br (decide ((↑x_3 : Int) < (↑(usesS d_1.fst d_1.snd.fst d_1.snd.snd.fst d_1.snd.snd.snd.fst d_1.snd.snd.snd.snd.fst d_1.snd.snd.snd.snd.snd.fst (d_1.snd.snd.snd.snd.snd.snd.fst, d_1.snd.snd.snd.snd.snd.snd.snd.fst, ()).fst d_1.snd.snd.snd.snd.snd.snd.snd.fst).length : Int))) (((0 : Int) ≤ (↑x_3 : Int) ∧ (↑x_3 : Int) < (↑(usesS d_1.fst d_1.snd.fst d_1.snd.snd.fst d_1.snd.snd.snd.fst d_1.snd.snd.snd.snd.fst d_1.snd.snd.snd.snd.snd.fst (d_1.snd.snd.snd.snd.snd.snd.fst, d_1.snd.snd.snd.snd.snd.snd.snd.fst, ()).fst d_1.snd.snd.snd.snd.snd.snd.snd.fst).length : Int)) ∧ ∀ (d_2 : Int), (usesS d_1.fst d_1.snd.fst d_1.snd.snd.fst d_1.snd.snd.snd.fst d_1.snd.snd.snd.snd.fst d_1.snd.snd.snd.snd.snd.fst (d_1.snd.snd.snd.snd.snd.snd.fst, d_1.snd.snd.snd.snd.snd.snd.snd.fst, ()).fst d_1.snd.snd.snd.snd.snd.snd.snd.fst)[(↑x_3 : Int).toNat]? = some d_2 → InR IntKind.i64 ((↑x_3 : Int) + (1 : Int)) ∧ ∃ x', x' ≤ List.length (usesS d_1.fst d_1.snd.fst d_1.snd.snd.fst d_1.snd.snd.snd.fst d_1.snd.snd.snd.snd.fst d_1.snd.snd.snd.snd.snd.fst (d_1.snd.snd.snd.snd.snd.snd.fst, d_1.snd.snd.snd.snd.snd.snd.snd.fst, ()).fst d_1.snd.snd.snd.snd.snd.snd.snd.fst) ∧ (SV.c (v6 (((↑x_3 : Int) + (1 : Int)))) = SV.c (v6 ((↑x' : Int))) ∧ True) ∧ [(([] : Go.Eng.Gd), Res.blk (24 : Nat) [SC.v (Value.string nm), SC.sl shI l]), (([] : Go.Eng.Gd), Res.row (60 : TypeId) (Sh.mp IntKind.i64 Sh.bool) (List.map mpS x_2.fst)), (([] : Go.Eng.Gd), Res.mp IntKind.i64 Sh.bool (mput (addU (mpS (aftL (cfL l) (List.map keysM (List.map mpS x_2.fst)) ((↑x_2.snd.snd : Int) - (1 : Int)).toNat)) (List.take x_3 (usesS d_1.fst d_1.snd.fst d_1.snd.snd.fst d_1.snd.snd.snd.fst d_1.snd.snd.snd.snd.fst d_1.snd.snd.snd.snd.snd.fst (d_1.snd.snd.snd.snd.snd.snd.fst, d_1.snd.snd.snd.snd.snd.snd.snd.fst, ()).fst d_1.snd.snd.snd.snd.snd.snd.snd.fst))) d_2 true))] = [(([] : Go.Eng.Gd), Res.blk (24 : Nat) [SC.v (Value.string nm), SC.sl shI l]), (([] : Go.Eng.Gd), Res.row (60 : TypeId) (Sh.mp IntKind.i64 Sh.bool) (List.map mpS x_2.fst)), (([] : Go.Eng.Gd), Res.mp IntKind.i64 Sh.bool (addU (mpS (aftL (cfL l) (List.map keysM (List.map mpS x_2.fst)) ((↑x_2.snd.snd : Int) - (1 : Int)).toNat)) (List.take x' (usesS d_1.fst d_1.snd.fst d_1.snd.snd.fst d_1.snd.snd.snd.fst d_1.snd.snd.snd.snd.fst d_1.snd.snd.snd.snd.snd.fst (d_1.snd.snd.snd.snd.snd.snd.fst, d_1.snd.snd.snd.snd.snd.snd.snd.fst, ()).fst d_1.snd.snd.snd.snd.snd.snd.snd.fst))))] ∧ List.length (usesS d_1.fst d_1.snd.fst d_1.snd.snd.fst d_1.snd.snd.snd.fst d_1.snd.snd.snd.snd.fst d_1.snd.snd.snd.snd.snd.fst (d_1.snd.snd.snd.snd.snd.snd.fst, d_1.snd.snd.snd.snd.snd.snd.snd.fst, ()).fst d_1.snd.snd.snd.snd.snd.snd.snd.fst) - x' < List.length (usesS d_1.fst d_1.snd.fst d_1.snd.snd.fst d_1.snd.snd.snd.fst d_1.snd.snd.snd.snd.fst d_1.snd.snd.snd.snd.snd.fst (d_1.snd.snd.snd.snd.snd.snd.fst, d_1.snd.snd.snd.snd.snd.snd.snd.fst, ()).fst d_1.snd.snd.snd.snd.snd.snd.snd.fst) - x_3) (((0 : Int) ≤ (↑x_2.snd.snd : Int) - (1 : Int) ∧ (↑x_2.snd.snd : Int) - (1 : Int) < (↑(List.map mpS x_2.fst).length : Int)) ∧ ((↑x_2.snd.snd : Int) - (1 : Int)).toNat < (List.map mpS x_2.fst).length ∧ ∀ (d : List (Int × Sh.bool.den)), (List.map mpS x_2.fst)[((↑x_2.snd.snd : Int) - (1 : Int)).toNat]? = some d → br (!decide ((↑(List.length (addU (mpS (aftL (cfL l) (List.map keysM (List.map mpS x_2.fst)) ((↑x_2.snd.snd : Int) - (1 : Int)).toNat)) (List.take x_3 (usesS d_1.fst d_1.snd.fst d_1.snd.snd.fst d_1.snd.snd.snd.fst d_1.snd.snd.snd.snd.fst d_1.snd.snd.snd.snd.snd.fst (d_1.snd.snd.snd.snd.snd.snd.fst, d_1.snd.snd.snd.snd.snd.snd.snd.fst, ()).fst d_1.snd.snd.snd.snd.snd.snd.snd.fst)))) : Int) = (↑(List.length (d)) : Int))) (((0 : Int) ≤ (↑x_2.snd.snd : Int) - (1 : Int) ∧ (↑x_2.snd.snd : Int) - (1 : Int) < (↑(List.map mpS x_2.fst).length : Int)) ∧ ((↑x_2.snd.snd : Int) - (1 : Int)).toNat < (List.map mpS x_2.fst).length ∧ InR IntKind.i64 ((↑x_2.snd.snd : Int) - (1 : Int) - (1 : Int)) ∧ ∃ x' : List (List Int) × Bool × Nat, (InA' l x'.fst ∧ x'.snd.snd ≤ l.length ∧ ((List.map List.length (List.map mpS x_1.fst)).sum + if x'.snd.fst = true then (1 : Nat) else (0 : Nat)) ≤ szL x'.fst ∧ (x'.snd.fst = false → ∀ (k : Nat), x'.snd.snd ≤ k → k < l.length → trL (cfL l) x'.fst k = x'.fst.getD k [])) ∧ (SV.c (SC.v (Value.bool true)) = SV.c (SC.v (Value.bool x'.snd.fst)) ∧ SV.c (v6 (((↑x_2.snd.snd : Int) - (1 : Int) - (1 : Int)))) = SV.c (v6 (((↑x'.snd.snd : Int) - (1 : Int)))) ∧ True) ∧ [(([] : Go.Eng.Gd), Res.blk (24 : Nat) [SC.v (Value.string nm), SC.sl shI l]), (([] : Go.Eng.Gd), Res.row (60 : TypeId) (Sh.mp IntKind.i64 Sh.bool) ((List.map mpS x_2.fst).set ((↑x_2.snd.snd : Int) - (1 : Int)).toNat (addU (mpS (aftL (cfL l) (List.map keysM (List.map mpS x_2.fst)) ((↑x_2.snd.snd : Int) - (1 : Int)).toNat)) (List.take x_3 (usesS d_1.fst d_1.snd.fst d_1.snd.snd.fst d_1.snd.snd.snd.fst d_1.snd.snd.snd.snd.fst d_1.snd.snd.snd.snd.snd.fst (d_1.snd.snd.snd.snd.snd.snd.fst, d_1.snd.snd.snd.snd.snd.snd.snd.fst, ()).fst d_1.snd.snd.snd.snd.snd.snd.snd.fst)))))] = [(([] : Go.Eng.Gd), Res.blk (24 : Nat) [SC.v (Value.string nm), SC.sl shI l]), (([] : Go.Eng.Gd), Res.row (60 : TypeId) (Sh.mp IntKind.i64 Sh.bool) (List.map mpS x'.fst))] ∧ x'.snd.snd < x_2.snd.snd) (InR IntKind.i64 ((↑x_2.snd.snd : Int) - (1 : Int) - (1 : Int)) ∧ ∃ x' : List (List Int) × Bool × Nat, (InA' l x'.fst ∧ x'.snd.snd ≤ l.length ∧ ((List.map List.length (List.map mpS x_1.fst)).sum + if x'.snd.fst = true then (1 : Nat) else (0 : Nat)) ≤ szL x'.fst ∧ (x'.snd.fst = false → ∀ (k : Nat), x'.snd.snd ≤ k → k < l.length → trL (cfL l) x'.fst k = x'.fst.getD k [])) ∧ (SV.c (SC.v (Value.bool x_2.snd.fst)) = SV.c (SC.v (Value.bool x'.snd.fst)) ∧ SV.c (v6 (((↑x_2.snd.snd : Int) - (1 : Int) - (1 : Int)))) = SV.c (v6 (((↑x'.snd.snd : Int) - (1 : Int)))) ∧ True) ∧ [(([] : Go.Eng.Gd), Res.blk (24 : Nat) [SC.v (Value.string nm), SC.sl shI l]), (([] : Go.Eng.Gd), Res.row (60 : TypeId) (Sh.mp IntKind.i64 Sh.bool) (List.map mpS x_2.fst))] = [(([] : Go.Eng.Gd), Res.blk (24 : Nat) [SC.v (Value.string nm), SC.sl shI l]), (([] : Go.Eng.Gd), Res.row (60 : TypeId) (Sh.mp IntKind.i64 Sh.bool) (List.map mpS x'.fst))] ∧ x'.snd.snd < x_2.snd.snd))))
                            (∃ x' : List (List Int) × Bool, (InA' l x'.fst ∧ (x'.snd = false → ∀ (k : Nat), k < l.length → trL (cfL l) x'.fst k = x'.fst.getD k [])) ∧ (SV.c (SC.v (Value.bool x_2.snd.fst)) = SV.c (SC.v (Value.bool x'.snd)) ∧ True) ∧ [(([] : Go.Eng.Gd), Res.blk (24 : Nat) [SC.v (Value.string nm), SC.sl shI l]), (([] : Go.Eng.Gd), Res.row (60 : TypeId) (Sh.mp IntKind.i64 Sh.bool) (List.map mpS x_2.fst))] = [(([] : Go.Eng.Gd), Res.blk (24 : Nat) [SC.v (Value.string nm), SC.sl shI l]), (([] : Go.Eng.Gd), Res.row (60 : TypeId) (Sh.mp IntKind.i64 Sh.bool) (List.map mpS x'.fst))] ∧ ((2 : Nat) * ((8 : Nat) * l.length - szL x'.fst) + if x'.snd = true then (1 : Nat) else (0 : Nat)) < (2 : Nat) * ((8 : Nat) * l.length - szL x_1.fst) + if x_1.snd = true then (1 : Nat) else (0 : Nat)))
                  (([] : List Go.Eng.Res) = [] ∧ Ent.one (SV.c (SC.sl (Sh.mp IntKind.i64 Sh.bool) (List.map mpS (befL l)))) = Ent.one (SV.c (SC.sl (Sh.mp IntKind.i64 Sh.bool) (List.map mpS x_1.fst))))) := by
  have hc : cfgE l = 0 := hpre
  have hb := (cfg_ok hc).1
  have hI0 := InA'.start l
  refine ⟨⟨by omega, by omega, ?_⟩, ⟨0, Nat.zero_le _, ⟨rfl, trivial⟩, rfl⟩, fun x hx => ?_⟩
  · unfold InA; simp only [Int.toNat_natCast]; omega
  refine br_iff.2 ⟨fun g => ?_, fun g => ?_⟩
  · simp only [decide_eq_true_eq, List.length_replicate, Int.toNat_natCast] at g
    refine ⟨by rw [List.length_replicate]; omega, by rw [List.length_replicate]; simp only [Int.toNat_natCast]; omega, InR_i64.2 (by omega), x + 1, by omega, ⟨rfl, trivial⟩, ?_, by omega⟩
    rw [List.set_replicate_self]
  · refine ⟨⟨(List.replicate l.length [], true), ⟨hI0, fun q => by cases q⟩, ⟨rfl, trivial⟩, ?_⟩, fun x1 h1 => ?_⟩
    · rw [List.map_replicate]; rfl
    obtain ⟨B0, c0⟩ := x1
    obtain ⟨hB0, hf0⟩ := h1
    dsimp only at hB0 hf0 ⊢
    refine br_iff.2 ⟨fun hc0 => ?_, fun hc0 => ?_⟩
    · refine ⟨InR_i64.2 (by omega), ⟨(B0, false, l.length), ⟨hB0, Nat.le_refl _, ?_, fun _ k h1 h2 => absurd h1 (by show ¬ l.length ≤ k; omega)⟩, ⟨rfl, rfl, trivial⟩, rfl⟩, fun x2 h2 => ?_⟩
      · rw [sz_mpS]; simp
      obtain ⟨B, c, j⟩ := x2
      obtain ⟨hB, hj, hz, hf⟩ := h2
      dsimp only at hB hj hz hf ⊢
      rw [sz_mpS] at hz
      refine br_iff.2 ⟨fun g2 => ?_, fun g2 => ?_⟩
      · simp only [decide_eq_true_eq] at g2
        obtain ⟨k, rfl⟩ : ∃ k, j = k + 1 := ⟨j - 1, by omega⟩
        have ei : ((k + 1 : Nat) : Int) - 1 = (k : Int) := by omega
        have hk : k < l.length := by omega
        rw [ei, map_keys]
        refine ⟨⟨hc, (show (0 : Int) ≤ k by omega), (show (k : Int) < (l.length : Int) by omega), by rw [List.length_map]; exact hB.len⟩, by omega, fun d hd => ⟨trivial, ?_⟩⟩
        have hd : l[k]? = some d := hd
        have hA : SS (aftL (cfL l) B k) := make_ss _
        refine br_iff.2 ⟨fun h => ?_, fun h => ?_⟩
        · refine ⟨by omega, fun d1 hd1 => ?_⟩
          have e1 : d1 = d := Option.some.inj ((show l[k]? = some d1 from hd1).symm.trans hd)
          subst e1
          have hh : chkI d1 = 0 ∧ use d1.1 0 = true := by
            have h' : (decide (chkI d1 = 0) && use d1.1 0) = true := h
            simpa only [Bool.and_eq_true, decide_eq_true_eq] using h'
          obtain ⟨W, hWd⟩ : ∃ W, W = delL (aftL (cfL l) B k) (defI d1) := ⟨_, rfl⟩
          have hW : SS W := by rw [hWd]; exact del_ss hA _
          have hm : mpS ((aftL (cfL l) B k).filter fun x => !decide (x = d1.2.1)) = mpS W := by
            rw [hWd]
            unfold defI
            rw [if_pos hh]; rfl
          have hh2 := hh
          simp only [chkI] at hh2
          rw [Int.toNat_natCast, if_pos hh2, mdel_mpS hA, hm]
          obtain ⟨d, ed⟩ : ∃ d, d = d1 := ⟨_, rfl⟩
          subst ed
          obtain ⟨U, hU⟩ : ∃ U, U = useI d := ⟨_, rfl⟩
          have hU2 := hU
          simp only [useI] at hU2
          rw [← hU2]
          have ul : U.length ≤ 8 := by rw [hU]; exact use_len d
          have eT : makeI (W ++ U) = trL (cfL l) B k := by
            rw [hWd, hU]
            unfold trL
            rw [cf_dfn hd, cf_use hd]
          refine ⟨trivial, ⟨0, Nat.zero_le _, ⟨rfl, trivial⟩, rfl⟩, fun x3 h3 => ?_⟩
          refine br_iff.2 ⟨fun g3 => ?_, fun g3 => ?_⟩
          · simp only [decide_eq_true_eq] at g3
            refine ⟨by omega, fun r hr => ⟨InR_i64.2 (by omega), x3 + 1, by omega, ⟨rfl, trivial⟩, ?_, by omega⟩⟩
            rw [List.take_add_one, (show U[x3]? = some r from hr), Option.toList_some, addU_snoc]
          · simp only [decide_eq_false_iff_not] at g3
            rw [List.take_of_length_le (by omega), addU_mpS U hW, eT]
            have hg : (B.map mpS)[k]? = some (mpS (B.getD k [])) := by
              rw [List.getElem?_map, List.getD_eq_getElem?_getD, List.getElem?_eq_getElem (by rw [hB.len]; exact hk)]; rfl
            have hlm : (B.map mpS).length = l.length := by rw [List.length_map]; exact hB.len
            refine ⟨by omega, by rw [hlm]; exact hk, fun m hm2 => ?_⟩
            have em : m = mpS (B.getD k []) := Option.some.inj ((show (B.map mpS)[k]? = some m from hm2).symm.trans hg)
            subst em
            rw [mpS_len, mpS_len]
            refine br_iff.2 ⟨fun hne => ?_, fun heq => ?_⟩
            · have hne : (trL (cfL l) B k).length ≠ (B.getD k []).length := by
                intro q; rw [q] at hne; simp at hne
              refine ⟨by omega, by rw [hlm]; exact hk, InR_i64.2 (by omega), (B.set k (trL (cfL l) B k), true, k), ⟨hB.set hk, (show k ≤ l.length by omega), ?_, fun q => by cases q⟩, ⟨rfl, rfl, trivial⟩, ?_, (show k < k + 1 by omega)⟩
              · have := hB.inv.more hk hne
                rw [sz_mpS]
                show szL B0 + 1 ≤ szL (B.set k (trL (cfL l) B k))
                split at hz <;> omega
              · show [_, _] = [_, _]
                rw [List.map_set]
            · have heq : (trL (cfL l) B k).length = (B.getD k []).length := by
                simp only [Bool.not_eq_false', decide_eq_true_eq] at heq; omega
              refine ⟨InR_i64.2 (by omega), (B, c, k), ⟨hB, (show k ≤ l.length by omega), by rw [sz_mpS]; exact hz, fun q kk a1 a2 => ?_⟩, ⟨rfl, rfl, trivial⟩, rfl, (show k < k + 1 by omega)⟩
              by_cases hkk : kk = k
              · subst hkk; exact hB.inv.same a2 heq
              · have a1 : k ≤ kk := a1
                exact hf q kk (by omega) a2
        · refine ⟨by omega, fun d1 hd1 => ?_⟩
          have e1 : d1 = d := Option.some.inj ((show l[k]? = some d1 from hd1).symm.trans hd)
          subst e1
          have hh : ¬ (chkI d1 = 0 ∧ use d1.1 0 = true) := by
            have h' : (decide (chkI d1 = 0) && use d1.1 0) = false := h
            intro q
            rw [decide_eq_true q.1, q.2] at h'; cases h'
          obtain ⟨W, hWd⟩ : ∃ W, W = delL (aftL (cfL l) B k) (defI d1) := ⟨_, rfl⟩
          have hW : SS W := by rw [hWd]; exact del_ss hA _
          have hm : aftL (cfL l) B k = W := by
            rw [hWd]
            unfold defI
            rw [if_neg hh]; rfl
          rw [Int.toNat_natCast, hm]
          obtain ⟨d, ed⟩ : ∃ d, d = d1 := ⟨_, rfl⟩
          subst ed
          obtain ⟨U, hU⟩ : ∃ U, U = useI d := ⟨_, rfl⟩
          have hU2 := hU
          simp only [useI] at hU2
          rw [← hU2]
          have ul : U.length ≤ 8 := by rw [hU]; exact use_len d
          have eT : makeI (W ++ U) = trL (cfL l) B k := by
            rw [hWd, hU]
            unfold trL
            rw [cf_dfn hd, cf_use hd]
          refine ⟨trivial, ⟨0, Nat.zero_le _, ⟨rfl, trivial⟩, rfl⟩, fun x3 h3 => ?_⟩
          refine br_iff.2 ⟨fun g3 => ?_, fun g3 => ?_⟩
          · simp only [decide_eq_true_eq] at g3
            refine ⟨by omega, fun r hr => ⟨InR_i64.2 (by omega), x3 + 1, by omega, ⟨rfl, trivial⟩, ?_, by omega⟩⟩
            rw [List.take_add_one, (show U[x3]? = some r from hr), Option.toList_some, addU_snoc]
          · simp only [decide_eq_false_iff_not] at g3
            rw [List.take_of_length_le (by omega), addU_mpS U hW, eT]
            have hg : (B.map mpS)[k]? = some (mpS (B.getD k [])) := by
              rw [List.getElem?_map, List.getD_eq_getElem?_getD, List.getElem?_eq_getElem (by rw [hB.len]; exact hk)]; rfl
            have hlm : (B.map mpS).length = l.length := by rw [List.length_map]; exact hB.len
            refine ⟨by omega, by rw [hlm]; exact hk, fun m hm2 => ?_⟩
            have em : m = mpS (B.getD k []) := Option.some.inj ((show (B.map mpS)[k]? = some m from hm2).symm.trans hg)
            subst em
            rw [mpS_len, mpS_len]
            refine br_iff.2 ⟨fun hne => ?_, fun heq => ?_⟩
            · have hne : (trL (cfL l) B k).length ≠ (B.getD k []).length := by
                intro q; rw [q] at hne; simp at hne
              refine ⟨by omega, by rw [hlm]; exact hk, InR_i64.2 (by omega), (B.set k (trL (cfL l) B k), true, k), ⟨hB.set hk, (show k ≤ l.length by omega), ?_, fun q => by cases q⟩, ⟨rfl, rfl, trivial⟩, ?_, (show k < k + 1 by omega)⟩
              · have := hB.inv.more hk hne
                rw [sz_mpS]
                show szL B0 + 1 ≤ szL (B.set k (trL (cfL l) B k))
                split at hz <;> omega
              · show [_, _] = [_, _]
                rw [List.map_set]
            · have heq : (trL (cfL l) B k).length = (B.getD k []).length := by
                simp only [Bool.not_eq_false', decide_eq_true_eq] at heq; omega
              refine ⟨InR_i64.2 (by omega), (B, c, k), ⟨hB, (show k ≤ l.length by omega), by rw [sz_mpS]; exact hz, fun q kk a1 a2 => ?_⟩, ⟨rfl, rfl, trivial⟩, rfl, (show k < k + 1 by omega)⟩
              by_cases hkk : kk = k
              · subst hkk; exact hB.inv.same a2 heq
              · have a1 : k ≤ kk := a1
                exact hf q kk (by omega) a2
      · simp only [decide_eq_false_iff_not] at g2
        refine ⟨(B, c), ⟨hB, fun q k hk => hf q k (by omega) hk⟩, ⟨rfl, trivial⟩, rfl, ?_⟩
        have b1 := hB.bnd hc
        have b0 := hB0.bnd hc
        dsimp only
        rw [if_pos hc0]
        cases c with
        | true => simp only [if_true] at hz ⊢; omega
        | false => simp only [Bool.false_eq_true, if_false] at hz ⊢; omega
    · rw [hB0.fin hc (hf0 hc0)]; exact ⟨rfl, rfl⟩
set_option maxHeartbeats 2000000 in
set_option maxRecDepth 100000 in
theorem f31_met : Go.Eng.Met Tryd.prog cx0.gd 31 ctAn :=
  met_ip (il := il31) (rc := [.data (.sl (.mp .i64 .bool))]) (cx := cx0) (n := 78) (cl := cl31) (by kernel_rfl) tis_ok ⟨f36_met, f38_met, f52_met, trivial⟩ trivial Tryd.func31 (by kernel_rfl) (by kernel_rfl) rfl (by kernel_rfl) (by kernel_rfl) fun d hd => by
    obtain ⟨⟨nm, l, ⟨⟩⟩, ⟨⟩⟩ := d
    exact ex_of (ann31 nm l) (f31_vc nm l hd) (by kernel_rfl)
end Go.Proofs.YtpfdgbddpdngbaaDoor
set_option linter.unusedSimpArgs false
set_option linter.unusedVariables false
namespace Go.Proofs.YtpfdgbddpdngbaaDoor
open Go Go.Eng
open Classical in
noncomputable def ndB (l : List ID) (r : Int) (fr : List Int) : Bool := decide (∃ k ∈ fr, LV (cfL l) true k.toNat r)
theorem ndB_iff {l : List ID} {r : Int} {fr : List Int} : ndB l r fr = true ↔ ∃ k ∈ fr, LV (cfL l) true k.toNat r := by
  unfold ndB; simp only [decide_eq_true_eq]
theorem ndB_false {l : List ID} {r : Int} {fr : List Int} : ndB l r fr = false ↔ ¬ ∃ k ∈ fr, LV (cfL l) true k.toNat r := by
  rw [← ndB_iff]; simp
noncomputable def deadB (l : List ID) (i : Int) : Bool := match l[i.toNat]? with
  | some d => match defI d with
    | some r => !visS d.1 && !ndB l r (sucL l i.toNat)
    | none => false
  | none => false
noncomputable def deadM (l : List ID) (k : Nat) : List Int := (rngI k).filter (deadB l)
theorem dead_none {l : List ID} {k : Nat} {d : ID} (h : l[k]? = some d) (hd : defI d = none) : deadB l k = false := by
  simp only [deadB, Int.toNat_natCast, h, hd]
theorem dead_some {l : List ID} {k : Nat} {d : ID} {r : Int} (h : l[k]? = some d) (hd : defI d = some r) : deadB l k = (!visS d.1 && !ndB l r (sucL l k)) := by
  simp only [deadB, Int.toNat_natCast, h, hd]
def prsM (B : List (List Int)) : Int := (B.map fun s => (s.length : Int)).foldl maxI 0
theorem prsM_snoc (B : List (List Int)) (s : List Int) : prsM (B ++ [s]) = maxI (prsM B) s.length := by
  simp [prsM, List.foldl_append]
theorem nxt_ok {l : List ID} {a : Int} (h : nxtE l a = 0) : cfgE l = 0 ∧ 0 ≤ a ∧ a < l.length := by
  unfold nxtE at h
  split at h
  · rename_i hc; exact absurd h hc
  · rename_i hc
    split at h
    · cases h
    · exact ⟨by omega, by omega, by omega⟩
theorem nxtE_ok {l : List ID} {a : Int} (hc : cfgE l = 0) (h0 : 0 ≤ a) (h1 : a < l.length) : nxtE l a = 0 := (if_neg fun q => q hc).trans (if_neg (by omega))
theorem nxtL_ok {l : List ID} {a : Int} (hc : cfgE l = 0) (h0 : 0 ≤ a) (h1 : a < l.length) : nxtL l a = sucL l a.toNat := if_pos (nxtE_ok hc h0 h1)
/-- The search's relation. -/
structure Ndd (l : List ID) (r : Int) (fr S T : List Int) : Prop where
  ss : SS S
  dfs : Dfs (cfL l) true r fr (fun k => k ∈ S) T
  len : 3 * (l.length - S.length) + T.length ≤ 3 * l.length + fr.length
theorem Ndd.bnd {l : List ID} {r : Int} {fr S T : List Int} (h : Ndd l r fr S T) : S.length ≤ l.length := rng_len h.ss fun k hk => h.dfs.rng k hk
theorem Ndd.lt {l : List ID} {r : Int} {fr S T : List Int} (h : Ndd l r fr S T) {k : Int} (h0 : 0 ≤ k) (h1 : k < l.length) (hk : k ∉ S) : (makeI (S ++ [k])).length = S.length + 1 ∧ S.length + 1 ≤ l.length := by
  have e : (makeI (S ++ [k])).length ≤ S.length + 1 := by
    have := makeI_len (S ++ [k]); simpa using this
  have e2 : S.length + 1 ≤ (makeI (S ++ [k])).length := by
    have nd : (S ++ [k]).Nodup := by
      rw [List.nodup_append]
      refine ⟨h.ss.imp fun hh => by omega, by simp, ?_⟩
      intro a ha b hb
      simp at hb; subst hb
      intro q; subst q; exact hk ha
    have := nd_len (b := makeI (S ++ [k])) nd fun x hx => make_mem.2 hx
    simpa using this
  have e3 : (makeI (S ++ [k])).length ≤ l.length := rng_len (make_ss _) fun x hx => by
    rw [make_mem, List.mem_append, List.mem_singleton] at hx
    rcases hx with hx | rfl
    · exact h.dfs.rng x hx
    · exact ⟨h0, h1⟩
  omega
theorem Ndd.start {l : List ID} {r : Int} {fr : List Int} (hc : cfgE l = 0) (h : ∀ k ∈ fr, 0 ≤ k ∧ k ≤ l.length) : Ndd l r fr [] fr :=
  ⟨List.Pairwise.nil, (Dfs.start (cfL_ok hc) h).congr (fun k => by simp) (fun k => Iff.rfl), by simp⟩
theorem Ndd.skip {l : List ID} {r : Int} {fr S T T' : List Int} {k : Int} (h : Ndd l r fr S T) (hT : ∀ x, x ∈ T ↔ x = k ∨ x ∈ T') (hl : T'.length + 1 = T.length) (hk : k ∈ S) : Ndd l r fr S T' :=
  ⟨h.ss, h.dfs.skip hT (.inl hk), by have := h.len; omega⟩
theorem Ndd.go {l : List ID} {r : Int} {fr S T T' U : List Int} {k : Int} (hc : cfgE l = 0) (h : Ndd l r fr S T) (hT : ∀ x, x ∈ T ↔ x = k ∨ x ∈ T') (hl : T'.length + 1 = T.length) (hn : k ∉ S) (hk : k < l.length) (u : r ∉ (cfL l).use k.toNat)
    (hU : ((cfL l).dfn k.toNat = some r ∧ U = T') ∨ ((cfL l).dfn k.toNat ≠ some r ∧ U = T' ++ sucL l k.toNat)) : Ndd l r fr (makeI (S ++ [k])) U ∧ 3 * (l.length - (makeI (S ++ [k])).length) + U.length < 3 * (l.length - S.length) + T.length := by
  have h0 := (h.dfs.trg k ((hT k).2 (.inl rfl))).1
  obtain ⟨e1, e2⟩ := h.lt h0 hk hn
  have hm : 3 * (l.length - (makeI (S ++ [k])).length) + U.length < 3 * (l.length - S.length) + T.length := by
    rw [e1]
    rcases hU with ⟨_, rfl⟩ | ⟨_, rfl⟩
    · omega
    · have := sucL_len l k.toNat
      rw [List.length_append]; omega
  refine ⟨⟨make_ss _, (h.dfs.go (cfL_ok hc) hT hk u (U := U) ?_).congr (fun x => ?_) (fun x => Iff.rfl), by have := h.len; omega⟩, hm⟩
  · rcases hU with ⟨a, rfl⟩ | ⟨a, rfl⟩
    · exact .inl ⟨a, fun x => Iff.rfl⟩
    · exact .inr ⟨a, fun x => by rw [List.mem_append]; rfl⟩
  · rw [make_mem, List.mem_append, List.mem_singleton]
theorem pop_last {T : List Int} {k : Int} (h : T[T.length - 1]? = some k) : (∀ x, x ∈ T ↔ x = k ∨ x ∈ T.take (T.length - 1)) ∧ (T.take (T.length - 1)).length + 1 = T.length := by
  have hlt := (List.getElem?_eq_some_iff.1 h).1
  have e : T = T.take (T.length - 1) ++ [k] := by
    have h2 := List.take_add_one (l := T) (i := T.length - 1)
    rw [h, show T.length - 1 + 1 = T.length by omega, List.take_length] at h2
    exact h2
  refine ⟨fun x => ?_, by rw [List.length_take]; omega⟩
  rw [e, List.length_append, List.length_cons, List.length_nil]
  have e2 : ((T.take (T.length - 1) ++ [k]).take ((T.take (T.length - 1)).length + (0 + 1) - 1)) = T.take (T.length - 1) := by
    rw [show (T.take (T.length - 1)).length + (0 + 1) - 1 = (T.take (T.length - 1)).length by omega, List.take_left]
  rw [e2, List.mem_append, List.mem_singleton]
  exact Or.comm
end Go.Proofs.YtpfdgbddpdngbaaDoor
set_option linter.unusedSimpArgs false
set_option linter.unusedVariables false
set_option maxRecDepth 100000
namespace Go.Proofs.YtpfdgbddpdngbaaDoor
open Go Go.Eng

@[reducible] noncomputable def ctBf : CT := { ps := [shF], pre := fun d => True, res := fun d => ([], .tup [.c (.sl (.sl (.int .i64)) (if cfgE d.1.2.1 = 0 then befL d.1.2.1 else [])), .c (.v (.int .i64 (cfgE d.1.2.1)))]) }
@[reducible] noncomputable def cl9 : List (Nat × CT) := [(30, ctLd), (31, ctAn), (32, ctSs)]
@[reducible] def il9 : List (Nat × IP) := []
@[reducible] noncomputable def ann9 (nm : ByteArray) (l : List ID) : Nat → Option (St → Ann) := fun k => match k with
  | 6 => some fun _ => .inv { α := Nat, slots := fun k => [(20, .c (.v (.int .i64 k))), (6, .c (.row 1))], res := fun k => [(1, .row 34 (.sl (.int .i64)) ((befL l).take k))], inv := fun k => k ≤ (l).length, meas := fun k => (l).length - k, nil := [(6, 34, .sl (.int .i64))] }
  | _ => none
set_option maxRecDepth 100000 in
theorem f9_vc (nm : ByteArray) (l : List ID) :
    True ∧ br (!decide (cfgE l = (0 : Int))) (([] : List Go.Eng.Res) = [] ∧ Ent.tup [SV.c (SC.sl I6.sl (if cfgE l = (0 : Int) then befL l else [])), SV.c (v6 ((cfgE l)))] = Ent.tup [SV.c (SC.sl I6.sl []), SV.c (v6 ((cfgE l)))]) (cfgE l = (0 : Int) ∧ (∃ x, x ≤ l.length ∧ (SV.c (v6 ((0 : Int))) = SV.c (v6 ((↑x : Int))) ∧ SV.c (SC.row (Nat.succ (0 : Nat))) = SV.c (SC.row (1 : Nat)) ∧ True) ∧ [(([] : Go.Eng.Gd), Res.blk (24 : Nat) [SC.v (Value.string nm), SC.sl shI l]), (([] : Go.Eng.Gd), Res.row (34 : TypeId) I6.sl [])] = [(([] : Go.Eng.Gd), Res.blk (24 : Nat) [SC.v (Value.string nm), SC.sl shI l]), (([] : Go.Eng.Gd), Res.row (34 : TypeId) I6.sl (List.take x (befL l)))]) ∧ ∀ (x : Nat), x ≤ l.length → br (decide ((↑x : Int) < (↑(List.map mpS (befL l)).length : Int))) (((0 : Int) ≤ (↑x : Int) ∧ (↑x : Int) < (↑(List.map mpS (befL l)).length : Int)) ∧ ∀ (d : List (Int × Sh.bool.den)), (List.map mpS (befL l))[(↑x : Int).toNat]? = some d → True ∧ InA (List.length (List.take x (befL l)) + List.length ([srtM (8 : Nat) d])) (24 : Nat) ∧ InR IntKind.i64 ((↑x : Int) + (1 : Int)) ∧ ∃ x', x' ≤ l.length ∧ (SV.c (v6 (((↑x : Int) + (1 : Int)))) = SV.c (v6 ((↑x' : Int))) ∧ SV.c (SC.row (1 : Nat)) = SV.c (SC.row (1 : Nat)) ∧ True) ∧ [(([] : Go.Eng.Gd), Res.blk (24 : Nat) [SC.v (Value.string nm), SC.sl shI l]), (([] : Go.Eng.Gd), Res.row (34 : TypeId) I6.sl (List.take x (befL l) ++ [srtM (8 : Nat) d]))] = [(([] : Go.Eng.Gd), Res.blk (24 : Nat) [SC.v (Value.string nm), SC.sl shI l]), (([] : Go.Eng.Gd), Res.row (34 : TypeId) I6.sl (List.take x' (befL l)))] ∧ l.length - x' < l.length - x) (([] : List Go.Eng.Res) = [] ∧ Ent.tup [SV.c (SC.sl I6.sl (if cfgE l = (0 : Int) then befL l else [])), SV.c (v6 ((cfgE l)))] = Ent.tup [SV.c (SC.sl I6.sl (List.take x (befL l))), SV.c (v6 ((0 : Int)))])) := by
  refine ⟨trivial, br_iff.2 ⟨fun h => ?_, fun h => ?_⟩⟩
  · have h : ¬ cfgE l = 0 := by simpa using h
    rw [if_neg h]; exact ⟨rfl, rfl⟩
  · have h : cfgE l = 0 := by simpa using h
    have hb := (cfg_ok h).1
    have hl : ((befL l).map mpS).length = l.length := by rw [List.length_map, befL_len]
    refine ⟨h, ⟨0, Nat.zero_le _, ⟨rfl, rfl, trivial⟩, rfl⟩, fun x hx => ?_⟩
    rw [hl]
    refine br_iff.2 ⟨fun g => ?_, fun g => ?_⟩
    · simp only [decide_eq_true_eq] at g
      have hx' : x < l.length := by omega
      refine ⟨by omega, fun d hd => ⟨trivial, ?_, InR_i64.2 (by omega), x + 1, by omega, ⟨rfl, rfl, trivial⟩, ?_, by omega⟩⟩
      · unfold InA
        have h1 : ((befL l).take x).length ≤ 64 := by rw [List.length_take]; omega
        exact Nat.le_trans (Nat.mul_le_mul_right 24 (show _ ≤ 65 from Nat.add_le_add h1 (Nat.le_refl 1))) (by decide)
      · have ed : d = mpS (liv (cfL l) false x) := Option.some.inj ((show ((befL l).map mpS)[x]? = some d from hd).symm.trans (by rw [List.getElem?_map, befL_get hx']; rfl))
        rw [ed, srt_mpS (liv_ss _ _ _) (liv_rng h _ _), List.take_add_one, befL_get hx']; rfl
    · simp only [decide_eq_false_iff_not] at g
      rw [if_pos h, List.take_of_length_le (by rw [befL_len]; omega), h]; exact ⟨rfl, rfl⟩
set_option maxHeartbeats 2000000 in
set_option maxRecDepth 100000 in
theorem f9_met : Go.Eng.Met Tryd.prog cx0.gd 9 ctBf :=
  met_ip (il := il9) (rc := [.data (.sl (.sl (.int .i64))), .keep]) (cx := cx0) (n := 31) (cl := cl9) (by kernel_rfl) tis_ok ⟨f30_met, f31_met, f32_met, trivial⟩ trivial Tryd.func9 (by kernel_rfl) (by kernel_rfl) rfl (by kernel_rfl) (by kernel_rfl) fun d hd => by
    obtain ⟨⟨nm, l, ⟨⟩⟩, ⟨⟩⟩ := d
    exact ex_of (ann9 nm l) (f9_vc nm l) (by kernel_rfl)
@[reducible] noncomputable def ctAf : CT := { ps := [shF, .int .i64], pre := fun d => True, res := fun d => ([], .tup [.c (.sl (.int .i64) (if nxtE d.1.2.1 d.2.1 = 0 then aftL (cfL d.1.2.1) (befL d.1.2.1) d.2.1.toNat else [])), .c (.v (.int .i64 (nxtE d.1.2.1 d.2.1)))]) }
@[reducible] noncomputable def cl14 : List (Nat × CT) := [(35, ctNx), (31, ctAn), (36, ctAft), (32, ctSs)]
@[reducible] def il14 : List (Nat × IP) := []
@[reducible] noncomputable def ann14 (nm : ByteArray) (l : List ID) (k : Int) : Nat → Option (St → Ann) := fun _ => none
set_option maxRecDepth 100000 in
theorem f14_vc (nm : ByteArray) (l : List ID) (k : Int) :
    True ∧ br (!decide (nxtE l k = (0 : Int))) (([] : List Go.Eng.Res) = [] ∧ Ent.tup [SV.c (SC.sl I6 (if nxtE l k = (0 : Int) then aftL (cfL l) (befL l) k.toNat else [])), SV.c (v6 ((nxtE l k)))] = Ent.tup [SV.c (SC.sl I6 []), SV.c (v6 ((nxtE l k)))]) (cfgE l = (0 : Int) ∧ (cfgE l = (0 : Int) ∧ (0 : I6.den) ≤ k ∧ k < (↑l.length : I6.den) ∧ (List.map mpS (befL l)).length = l.length) ∧ True ∧ ([] : List Go.Eng.Res) = [] ∧ Ent.tup [SV.c (SC.sl I6 (if nxtE l k = (0 : Int) then aftL (cfL l) (befL l) k.toNat else [])), SV.c (v6 ((nxtE l k)))] = Ent.tup [SV.c (SC.sl I6 (srtM (8 : Nat) (mpS (aftL (cfL l) (List.map keysM (List.map mpS (befL l))) k.toNat)))), SV.c (v6 ((0 : Int)))]) := by
  refine ⟨trivial, br_iff.2 ⟨fun h => ?_, fun h => ?_⟩⟩
  · have h : ¬ nxtE l k = 0 := by simpa using h
    rw [if_neg h]; exact ⟨rfl, rfl⟩
  · have h : nxtE l k = 0 := by simpa using h
    obtain ⟨hc, h0, h1⟩ := nxt_ok h
    refine ⟨hc, ⟨hc, h0, h1, by rw [List.length_map, befL_len]⟩, trivial, rfl, ?_⟩
    rw [map_keys, srt_mpS (s := aftL (cfL l) (befL l) k.toNat) (make_ss _) (aft_rng hc _), if_pos h, h]
set_option maxHeartbeats 2000000 in
set_option maxRecDepth 100000 in
theorem f14_met : Go.Eng.Met Tryd.prog cx0.gd 14 ctAf :=
  met_ip (il := il14) (rc := [.data (.sl (.int .i64)), .keep]) (cx := cx0) (n := 23) (cl := cl14) (by kernel_rfl) tis_ok ⟨f35_met, f31_met, f36_met, f32_met, trivial⟩ trivial Tryd.func14 (by kernel_rfl) (by kernel_rfl) rfl (by kernel_rfl) (by kernel_rfl) fun d hd => by
    obtain ⟨⟨nm, l, ⟨⟩⟩, k, ⟨⟩⟩ := d
    exact ex_of (ann14 nm l k) (f14_vc nm l k) (by kernel_rfl)
@[reducible] noncomputable def ctPr : CT := { ps := [shF], pre := fun d => True, res := fun d => ([], .tup [.c (.v (.int .i64 (if cfgE d.1.2.1 = 0 then prsM (befL d.1.2.1) else 0))), .c (.v (.int .i64 (cfgE d.1.2.1)))]) }
@[reducible] noncomputable def cl11 : List (Nat × CT) := [(9, ctBf)]
@[reducible] noncomputable def ann11 (nm : ByteArray) (l : List ID) : Nat → Option (St → Ann) := fun k => match k with
  | 6 => some fun _ => .inv { α := Nat, slots := fun k => [(19, .c (.v (.int .i64 k))), (6, .c (.v (.int .i64 (prsM ((befL l).take k)))))], res := fun k => [], inv := fun k => k ≤ (l).length, meas := fun k => (l).length - k }
  | _ => none
set_option maxRecDepth 100000 in
theorem f11_vc (nm : ByteArray) (l : List ID) :
    True ∧ br (!decide (cfgE l = (0 : Int))) (([] : List Go.Eng.Res) = [] ∧ Ent.tup [SV.c (v6 ((if cfgE l = (0 : Int) then prsM (befL l) else (0 : Int)))), SV.c (v6 ((cfgE l)))] = Ent.tup [SV.c (v6 ((0 : Int))), SV.c (v6 ((cfgE l)))]) ((∃ x, x ≤ l.length ∧ (SV.c (v6 ((0 : Int))) = SV.c (v6 ((↑x : Int))) ∧ SV.c (v6 ((0 : Int))) = SV.c (v6 ((prsM (List.take x (befL l))))) ∧ True) ∧ [(([] : Go.Eng.Gd), Res.blk (24 : Nat) [SC.v (Value.string nm), SC.sl shI l])] = [(([] : Go.Eng.Gd), Res.blk (24 : Nat) [SC.v (Value.string nm), SC.sl shI l])]) ∧ ∀ (x : Nat), x ≤ l.length → br (decide ((↑x : Int) < (↑(if cfgE l = (0 : Int) then befL l else []).length : Int))) (((0 : Int) ≤ (↑x : Int) ∧ (↑x : Int) < (↑(if cfgE l = (0 : Int) then befL l else []).length : Int)) ∧ ∀ (d : List I6.den), (if cfgE l = (0 : Int) then befL l else [])[(↑x : Int).toNat]? = some d → InR IntKind.i64 ((↑x : Int) + (1 : Int)) ∧ ∃ x', x' ≤ l.length ∧ (SV.c (v6 (((↑x : Int) + (1 : Int)))) = SV.c (v6 ((↑x' : Int))) ∧ SV.c (v6 ((maxI (prsM (List.take x (befL l))) (↑d.length : Int)))) = SV.c (v6 ((prsM (List.take x' (befL l))))) ∧ True) ∧ [(([] : Go.Eng.Gd), Res.blk (24 : Nat) [SC.v (Value.string nm), SC.sl shI l])] = [(([] : Go.Eng.Gd), Res.blk (24 : Nat) [SC.v (Value.string nm), SC.sl shI l])] ∧ l.length - x' < l.length - x) (([] : List Go.Eng.Res) = [] ∧ Ent.tup [SV.c (v6 ((if cfgE l = (0 : Int) then prsM (befL l) else (0 : Int)))), SV.c (v6 ((cfgE l)))] = Ent.tup [SV.c (v6 ((prsM (List.take x (befL l))))), SV.c (v6 ((0 : Int)))])) := by
  refine ⟨trivial, br_iff.2 ⟨fun h => ?_, fun h => ?_⟩⟩
  · have h : ¬ cfgE l = 0 := by simpa using h
    rw [if_neg h]; exact ⟨rfl, rfl⟩
  · have h : cfgE l = 0 := by simpa using h
    have hb := (cfg_ok h).1
    have hl := befL_len l
    refine ⟨⟨0, Nat.zero_le _, ⟨rfl, rfl, trivial⟩, rfl⟩, fun x hx => ?_⟩
    rw [if_pos h, if_pos h, hl]
    refine br_iff.2 ⟨fun g => ?_, fun g => ?_⟩
    · simp only [decide_eq_true_eq] at g
      refine ⟨by omega, fun d hd => ⟨InR_i64.2 (by omega), x + 1, by omega, ⟨rfl, ?_, trivial⟩, rfl, by omega⟩⟩
      rw [List.take_add_one, (show (befL l)[x]? = some d from hd), Option.toList_some, prsM_snoc]
    · simp only [decide_eq_false_iff_not] at g
      rw [List.take_of_length_le (by omega), h]; exact ⟨rfl, rfl⟩
set_option maxHeartbeats 2000000 in
set_option maxRecDepth 100000 in
theorem f11_met : Go.Eng.Met Tryd.prog cx0.gd 11 ctPr :=
  met_of (cx := cx0) (n := 29) (cl := cl11) (by kernel_rfl) tis_ok ⟨f9_met, trivial⟩ Tryd.func11 (by kernel_rfl) (by kernel_rfl) rfl (by kernel_rfl) (by kernel_rfl) fun d hd => by
    obtain ⟨⟨nm, l, ⟨⟩⟩, ⟨⟩⟩ := d
    exact ex_of (ann11 nm l) (f11_vc nm l) (by kernel_rfl)
@[reducible] noncomputable def ctNd : CT := { ps := [shF, .int .i64, .sl (.int .i64)], pre := fun d => cfgE d.1.2.1 = 0 ∧ 0 ≤ d.2.1 ∧ d.2.1 < 8 ∧ d.2.2.1.length ≤ 1000 ∧ ∀ k ∈ d.2.2.1, 0 ≤ k ∧ k ≤ d.1.2.1.length, res := fun d => ([], vB (ndB d.1.2.1 d.2.1 d.2.2.1)) }
@[reducible] noncomputable def cl40 : List (Nat × CT) := [(52, ct14), (56, ctHas), (38, ct8), (41, ctNxt)]
@[reducible] noncomputable def ann40 (nm : ByteArray) (l : List ID) (r : Int) (fr : List Int) : Nat → Option (St → Ann) := fun q => match q with
  | 3 => some fun _ => .inv { α := List Int × List Int, slots := fun x => [(8, .c (.sl (.int .i64) x.2))], res := fun x => [(1, .mp .i64 .bool (mpS x.1))], inv := fun x => Ndd l r fr x.1 x.2, meas := fun x => 3 * (l.length - x.1.length) + x.2.length, frz := [8] }
  | _ => none
set_option maxRecDepth 100000 in
theorem f40_vc (nm : ByteArray) (l : List ID) (r : Int) (fr : List Int) (hpre : ctNd.pre ((nm, l, ()), r, fr, ())) :
    (∃ x : List Int × List Int, Ndd l r fr x.fst x.snd ∧ (SV.c (SC.sl I6 fr) = SV.c (SC.sl I6 x.snd) ∧ True) ∧ [(([] : Go.Eng.Gd), Res.blk (24 : Nat) [SC.v (Value.string nm), SC.sl shI l]), (([] : Go.Eng.Gd), Res.mp IntKind.i64 Sh.bool [])] = [(([] : Go.Eng.Gd), Res.blk (24 : Nat) [SC.v (Value.string nm), SC.sl shI l]), (([] : Go.Eng.Gd), Res.mp IntKind.i64 Sh.bool (mpS x.fst))]) ∧ ∀ (x : List Int × List Int), Ndd l r fr x.fst x.snd → br (decide ((0 : Int) < (↑x.snd.length : Int))) (InR IntKind.i64 ((↑x.snd.length : Int) - (1 : Int)) ∧ ((0 : Int) ≤ (↑x.snd.length : Int) - (1 : Int) ∧ (↑x.snd.length : Int) - (1 : Int) < (↑x.snd.length : Int)) ∧ ∀ (d : Int), x.snd[((↑x.snd.length : Int) - (1 : Int)).toNat]? = some d → InR IntKind.i64 ((↑x.snd.length : Int) - (1 : Int)) ∧ InR IntKind.i64 ((↑x.snd.length : Int) - (1 : Int)) ∧ ((0 : Int) ≤ (↑x.snd.length : Int) - (1 : Int) ∧ (↑x.snd.length : Int) - (1 : Int) ≤ (↑x.snd.length : Int) ∧ (↑x.snd.length : Int) - (1 : Int) = (↑x.snd.length : Int) - (1 : Int)) ∧ br (decide (d = (↑l.length : Int))) (([] : List Go.Eng.Res) = [] ∧ Ent.one (SV.c (SC.v (Value.bool (ndB l r fr)))) = Ent.one (SV.c (SC.v (Value.bool true)))) (br (mgetD (mpS x.fst) d false) (∃ x' : List Int × List Int, Ndd l r fr x'.fst x'.snd ∧ (SV.c (SC.sl I6 (List.take ((↑x.snd.length : Int) - (1 : Int)).toNat x.snd)) = SV.c (SC.sl I6 x'.snd) ∧ True) ∧ [(([] : Go.Eng.Gd), Res.blk (24 : Nat) [SC.v (Value.string nm), SC.sl shI l]), (([] : Go.Eng.Gd), Res.mp IntKind.i64 Sh.bool (mpS x.fst))] = [(([] : Go.Eng.Gd), Res.blk (24 : Nat) [SC.v (Value.string nm), SC.sl shI l]), (([] : Go.Eng.Gd), Res.mp IntKind.i64 Sh.bool (mpS x'.fst))] ∧ (3 : Nat) * (l.length - x'.fst.length) + x'.snd.length < (3 : Nat) * (l.length - x.fst.length) + x.snd.length) (((0 : Int) ≤ d ∧ d < (↑l.length : Int)) ∧ ∀ (d_1 : I6.den × (I6.pair (I6.pair (I6.pair (I6.pair (I6.pair (I6.pair (I6.pair Sh.unit))))))).den), l[d.toNat]? = some d_1 → True ∧ (usesS d_1.fst d_1.snd.fst d_1.snd.snd.fst d_1.snd.snd.snd.fst d_1.snd.snd.snd.snd.fst d_1.snd.snd.snd.snd.snd.fst (d_1.snd.snd.snd.snd.snd.snd.fst, d_1.snd.snd.snd.snd.snd.snd.snd.fst, ()).fst d_1.snd.snd.snd.snd.snd.snd.snd.fst).length ≤ (1000000 : Nat) ∧ br (hasI (usesS d_1.fst d_1.snd.fst d_1.snd.snd.fst d_1.snd.snd.snd.fst d_1.snd.snd.snd.snd.fst d_1.snd.snd.snd.snd.snd.fst (d_1.snd.snd.snd.snd.snd.snd.fst, d_1.snd.snd.snd.snd.snd.snd.snd.fst, ()).fst d_1.snd.snd.snd.snd.snd.snd.snd.fst) r) (([] : List Go.Eng.Res) = [] ∧ Ent.one (SV.c (SC.v (Value.bool (ndB l r fr)))) = Ent.one (SV.c (SC.v (Value.bool true)))) (((0 : Int) ≤ d ∧ d < (↑l.length : Int)) ∧ ∀ (d_2 : I6.den × (I6.pair (I6.pair (I6.pair (I6.pair (I6.pair (I6.pair (I6.pair Sh.unit))))))).den), l[d.toNat]? = some d_2 → True ∧ br (decide (chkS d_2.fst d_2.snd.fst d_2.snd.snd.fst d_2.snd.snd.snd.fst d_2.snd.snd.snd.snd.fst d_2.snd.snd.snd.snd.snd.fst (d_2.snd.snd.snd.snd.snd.snd.fst, d_2.snd.snd.snd.snd.snd.snd.snd.fst, ()).fst d_2.snd.snd.snd.snd.snd.snd.snd.fst = (0 : Int)) && use d_2.fst (0 : Nat) && decide ((if chkS d_2.fst d_2.snd.fst d_2.snd.snd.fst d_2.snd.snd.snd.fst d_2.snd.snd.snd.snd.fst d_2.snd.snd.snd.snd.snd.fst (d_2.snd.snd.snd.snd.snd.snd.fst, d_2.snd.snd.snd.snd.snd.snd.snd.fst, ()).fst d_2.snd.snd.snd.snd.snd.snd.snd.fst = (0 : Int) ∧ use d_2.fst (0 : Nat) = true then d_2.snd.fst else (0 : Int)) = r)) (∃ x' : List Int × List Int, Ndd l r fr x'.fst x'.snd ∧ (SV.c (SC.sl I6 (List.take ((↑x.snd.length : Int) - (1 : Int)).toNat x.snd)) = SV.c (SC.sl I6 x'.snd) ∧ True) ∧ [(([] : Go.Eng.Gd), Res.blk (24 : Nat) [SC.v (Value.string nm), SC.sl shI l]), (([] : Go.Eng.Gd), Res.mp IntKind.i64 Sh.bool (mput (mpS x.fst) d true))] = [(([] : Go.Eng.Gd), Res.blk (24 : Nat) [SC.v (Value.string nm), SC.sl shI l]), (([] : Go.Eng.Gd), Res.mp IntKind.i64 Sh.bool (mpS x'.fst))] ∧ (3 : Nat) * (l.length - x'.fst.length) + x'.snd.length < (3 : Nat) * (l.length - x.fst.length) + x.snd.length) (True ∧ InA (List.length (List.take ((↑x.snd.length : Int) - (1 : Int)).toNat x.snd) + List.length (nxtL l d)) (8 : Nat) ∧ ∃ x' : List Int × List Int, Ndd l r fr x'.fst x'.snd ∧ (SV.c (SC.sl I6 (List.take ((↑x.snd.length : Int) - (1 : Int)).toNat x.snd ++ nxtL l d)) = SV.c (SC.sl I6 x'.snd) ∧ True) ∧ [(([] : Go.Eng.Gd), Res.blk (24 : Nat) [SC.v (Value.string nm), SC.sl shI l]), (([] : Go.Eng.Gd), Res.mp IntKind.i64 Sh.bool (mput (mpS x.fst) d true))] = [(([] : Go.Eng.Gd), Res.blk (24 : Nat) [SC.v (Value.string nm), SC.sl shI l]), (([] : Go.Eng.Gd), Res.mp IntKind.i64 Sh.bool (mpS x'.fst))] ∧ (3 : Nat) * (l.length - x'.fst.length) + x'.snd.length < (3 : Nat) * (l.length - x.fst.length) + x.snd.length))))) (([] : List Go.Eng.Res) = [] ∧ Ent.one (SV.c (SC.v (Value.bool (ndB l r fr)))) = Ent.one (SV.c (SC.v (Value.bool false)))) := by
  obtain ⟨hc, r0, r8, hl1, hfr⟩ : cfgE l = 0 ∧ 0 ≤ r ∧ r < 8 ∧ fr.length ≤ 1000 ∧ ∀ k ∈ fr, 0 ≤ k ∧ k ≤ l.length := hpre
  have hb := (cfg_ok hc).1
  have ok := cfL_ok hc
  refine ⟨⟨([], fr), Ndd.start hc hfr, ⟨rfl, trivial⟩, rfl⟩, fun x hx => ?_⟩
  obtain ⟨S, T⟩ := x
  dsimp only at hx ⊢
  have hlen := hx.len
  refine br_iff.2 ⟨fun g => ?_, fun g => ?_⟩
  · simp only [decide_eq_true_eq] at g
    have et : ((T.length : Int) - 1).toNat = T.length - 1 := by omega
    have hR : InR .i64 ((T.length : Int) - 1) := InR_i64.2 (by omega)
    rw [et]
    refine ⟨hR, by omega, fun d hd => ⟨hR, hR, by omega, ?_⟩⟩
    obtain ⟨hT, hTl⟩ := pop_last hd
    generalize T.take (T.length - 1) = T' at hT hTl ⊢
    have hdm : d ∈ T := (hT d).2 (.inl rfl)
    have hrng : 0 ≤ d ∧ d ≤ l.length := hx.dfs.trg d hdm
    refine br_iff.2 ⟨fun h => ?_, fun h => br_iff.2 ⟨fun h2 => ?_, fun h2 => ?_⟩⟩
    · simp only [decide_eq_true_eq] at h
      rw [ndB_iff.2 (hx.dfs.hitX ⟨r0, r8⟩ hdm h)]; exact ⟨rfl, rfl⟩
    · have hm : d ∈ S := by
        unfold mgetD at h2
        rw [mget_mpS hx.ss] at h2
        split at h2
        · assumption
        · cases h2
      exact ⟨(S, T'), hx.skip hT hTl hm, ⟨rfl, trivial⟩, rfl, (show 3 * (l.length - S.length) + T'.length < 3 * (l.length - S.length) + T.length by omega)⟩
    · have hn : d ∉ S := by
        intro q
        unfold mgetD at h2
        rw [mget_mpS hx.ss, if_pos q] at h2
        cases h2
      simp only [decide_eq_false_iff_not] at h
      have hlt : d < l.length := by omega
      refine ⟨by omega, fun d1 hd1 => ?_⟩
      have hu1 : (cfL l).use d.toNat = useI d1 := cf_use hd1
      have hdf : (cfL l).dfn d.toNat = defI d1 := cf_dfn hd1
      obtain ⟨U, hU⟩ : ∃ U, U = useI d1 := ⟨_, rfl⟩
      have hU2 := hU
      simp only [useI] at hU2
      rw [← hU2]
      have ul : U.length ≤ 8 := by rw [hU]; exact use_len d1
      refine ⟨trivial, by omega, br_iff.2 ⟨fun h3 => ?_, fun h3 => ?_⟩⟩
      · rw [ndB_iff.2 (hx.dfs.hit hdm hlt (by rw [hu1, ← hU]; exact hasI_iff.1 h3))]; exact ⟨rfl, rfl⟩
      · have hu : r ∉ (cfL l).use d.toNat := by rw [hu1, ← hU]; exact hasI_false.1 h3
        refine ⟨by omega, fun d2 hd2 => ⟨trivial, ?_⟩⟩
        have e2 : d2 = d1 := Option.some.inj (hd2.symm.trans hd1)
        subst e2
        refine br_iff.2 ⟨fun h4 => ?_, fun h4 => ?_⟩
        · have h4' : ((decide (chkI d2 = 0) && use d2.1 0) && decide ((if chkI d2 = 0 ∧ use d2.1 0 = true then d2.2.1 else 0) = r)) = true := h4
          simp only [Bool.and_eq_true, decide_eq_true_eq] at h4'
          have q : defI d2 = some r := by
            have q2 := h4'.2
            rw [if_pos h4'.1] at q2
            unfold defI; rw [if_pos h4'.1, q2]
          obtain ⟨n1, n2⟩ := hx.go hc hT hTl hn hlt hu (.inl ⟨hdf.trans q, rfl⟩)
          exact ⟨(makeI (S ++ [d]), T'), n1, ⟨rfl, trivial⟩, by rw [mput_mpS hx.ss], n2⟩
        · have q : defI d2 ≠ some r := by
            intro q
            unfold defI at q
            split at q
            · rename_i hh
              cases q
              have h4' : ((decide (chkI d2 = 0) && use d2.1 0) && decide ((if chkI d2 = 0 ∧ use d2.1 0 = true then d2.2.1 else 0) = d2.2.1)) = false := h4
              rw [if_pos hh, decide_eq_true hh.1, hh.2] at h4'
              simp at h4'
            · cases q
          have en : nxtL l d = sucL l d.toNat := nxtL_ok hc hrng.1 hlt
          have sl := sucL_len l d.toNat
          obtain ⟨n1, n2⟩ := hx.go hc hT hTl hn hlt hu (.inr ⟨by rw [hdf]; exact q, rfl⟩)
          rw [en]
          refine ⟨trivial, ?_, (makeI (S ++ [d]), T' ++ sucL l d.toNat), n1, ⟨rfl, trivial⟩, by rw [mput_mpS hx.ss], n2⟩
          unfold InA
          exact Nat.le_trans (Nat.mul_le_mul_right 8 (show _ ≤ 2000 by omega)) (by decide)
  · simp only [decide_eq_false_iff_not] at g
    have e : T = [] := List.eq_nil_of_length_eq_zero (by omega)
    subst e
    rw [ndB_false.2 (hx.dfs.none ok)]; exact ⟨rfl, rfl⟩
set_option maxHeartbeats 2000000 in
set_option maxRecDepth 100000 in
theorem f40_met : Go.Eng.Met Tryd.prog cx0.gd 40 ctNd :=
  met_of (cx := cx0) (n := 69) (cl := cl40) (by kernel_rfl) tis_ok ⟨f52_met, f56_met, f38_met, f41_met, trivial⟩ Tryd.func40 (by kernel_rfl) (by kernel_rfl) rfl (by kernel_rfl) (by kernel_rfl) fun d hd => by
    obtain ⟨⟨nm, l, ⟨⟩⟩, r, fr, ⟨⟩⟩ := d
    exact ex_of (ann40 nm l r fr) (f40_vc nm l r fr hd) (by kernel_rfl)
@[reducible] noncomputable def ctDe : CT := { ps := [shF], pre := fun d => True, res := fun d => ([], .tup [.c (.sl (.int .i64) (if cfgE d.1.2.1 = 0 then deadM d.1.2.1 d.1.2.1.length else [])), .c (.v (.int .i64 (cfgE d.1.2.1)))]) }
@[reducible] noncomputable def cl16 : List (Nat × CT) := [(30, ctLd), (38, ct8), (39, ct25), (41, ctNxt), (40, ctNd)]
@[reducible] def il16 : List (Nat × IP) := []
@[reducible] noncomputable def ann16 (nm : ByteArray) (l : List ID) : Nat → Option (St → Ann) := fun k => match k with
  | 6 => some fun _ => .inv { α := Nat, slots := fun k => [(22, .c (.v (.int .i64 k))), (6, .c (.row 1))], res := fun k => [(1, .row 3 (.int .i64) (deadM l k))], inv := fun k => k ≤ (l).length, meas := fun k => (l).length - k, nil := [(6, 3, .int .i64)] }
  | _ => none
set_option maxRecDepth 100000 in
theorem f16_vc (nm : ByteArray) (l : List ID) :
    True ∧ br (!decide (cfgE l = (0 : Int))) (([] : List Go.Eng.Res) = [] ∧ Ent.tup [SV.c (SC.sl I6 (if cfgE l = (0 : Int) then deadM l l.length else [])), SV.c (v6 ((cfgE l)))] = Ent.tup [SV.c (SC.sl I6 []), SV.c (v6 ((cfgE l)))]) ((∃ x, x ≤ l.length ∧ (SV.c (v6 ((0 : Int))) = SV.c (v6 ((↑x : Int))) ∧ SV.c (SC.row (Nat.succ (0 : Nat))) = SV.c (SC.row (1 : Nat)) ∧ True) ∧ [(([] : Go.Eng.Gd), Res.blk (24 : Nat) [SC.v (Value.string nm), SC.sl shI l]), (([] : Go.Eng.Gd), Res.row (3 : TypeId) I6 [])] = [(([] : Go.Eng.Gd), Res.blk (24 : Nat) [SC.v (Value.string nm), SC.sl shI l]), (([] : Go.Eng.Gd), Res.row (3 : TypeId) I6 (deadM l x))]) ∧ ∀ (x : Nat), x ≤ l.length → br (decide ((↑x : Int) < (↑l.length : Int))) (((0 : Int) ≤ (↑x : Int) ∧ (↑x : Int) < (↑l.length : Int)) ∧ ∀ (d : I6.den × (I6.pair (I6.pair (I6.pair (I6.pair (I6.pair (I6.pair (I6.pair Sh.unit))))))).den), l[(↑x : Int).toNat]? = some d → True ∧ ((decide (chkS d.fst d.snd.fst d.snd.snd.fst d.snd.snd.snd.fst d.snd.snd.snd.snd.fst d.snd.snd.snd.snd.snd.fst (d.snd.snd.snd.snd.snd.snd.fst, d.snd.snd.snd.snd.snd.snd.snd.fst, ()).fst d.snd.snd.snd.snd.snd.snd.snd.fst = (0 : Int)) && use d.fst (0 : Nat)) = true → True) ∧ ((decide (chkS d.fst d.snd.fst d.snd.snd.fst d.snd.snd.snd.fst d.snd.snd.snd.snd.fst d.snd.snd.snd.snd.snd.fst (d.snd.snd.snd.snd.snd.snd.fst, d.snd.snd.snd.snd.snd.snd.snd.fst, ()).fst d.snd.snd.snd.snd.snd.snd.snd.fst = (0 : Int)) && use d.fst (0 : Nat) && !visS d.fst) = true → True) ∧ ((decide (chkS d.fst d.snd.fst d.snd.snd.fst d.snd.snd.snd.fst d.snd.snd.snd.snd.fst d.snd.snd.snd.snd.snd.fst (d.snd.snd.snd.snd.snd.snd.fst, d.snd.snd.snd.snd.snd.snd.snd.fst, ()).fst d.snd.snd.snd.snd.snd.snd.snd.fst = (0 : Int)) && use d.fst (0 : Nat) && !visS d.fst) = true → cfgE l = (0 : Int) ∧ ((0 : I6.den) ≤ if chkS d.fst d.snd.fst d.snd.snd.fst d.snd.snd.snd.fst d.snd.snd.snd.snd.fst d.snd.snd.snd.snd.snd.fst (d.snd.snd.snd.snd.snd.snd.fst, d.snd.snd.snd.snd.snd.snd.snd.fst, ()).fst d.snd.snd.snd.snd.snd.snd.snd.fst = (0 : Int) ∧ use d.fst (0 : Nat) = true then d.snd.fst else (0 : Int)) ∧ (if chkS d.fst d.snd.fst d.snd.snd.fst d.snd.snd.snd.fst d.snd.snd.snd.snd.fst d.snd.snd.snd.snd.snd.fst (d.snd.snd.snd.snd.snd.snd.fst, d.snd.snd.snd.snd.snd.snd.snd.fst, ()).fst d.snd.snd.snd.snd.snd.snd.snd.fst = (0 : Int) ∧ use d.fst (0 : Nat) = true then d.snd.fst else (0 : Int)) < (8 : I6.den) ∧ (nxtL l (↑x : Int)).length ≤ (1000 : Nat) ∧ ∀ (k : Int), k ∈ nxtL l (↑x : Int) → (0 : I6.den) ≤ k ∧ k ≤ (↑l.length : I6.den)) ∧ br (decide (chkS d.fst d.snd.fst d.snd.snd.fst d.snd.snd.snd.fst d.snd.snd.snd.snd.fst d.snd.snd.snd.snd.snd.fst (d.snd.snd.snd.snd.snd.snd.fst, d.snd.snd.snd.snd.snd.snd.snd.fst, ()).fst d.snd.snd.snd.snd.snd.snd.snd.fst = (0 : Int)) && use d.fst (0 : Nat) && !visS d.fst && !ndB l (if chkS d.fst d.snd.fst d.snd.snd.fst d.snd.snd.snd.fst d.snd.snd.snd.snd.fst d.snd.snd.snd.snd.snd.fst (d.snd.snd.snd.snd.snd.snd.fst, d.snd.snd.snd.snd.snd.snd.snd.fst, ()).fst d.snd.snd.snd.snd.snd.snd.snd.fst = (0 : Int) ∧ use d.fst (0 : Nat) = true then d.snd.fst else (0 : Int)) (nxtL l (↑x : Int))) (InA (List.length (deadM l x) + List.length ([(↑x : Int)])) (8 : Nat) ∧ InR IntKind.i64 ((↑x : Int) + (1 : Int)) ∧ ∃ x', x' ≤ l.length ∧ (SV.c (v6 (((↑x : Int) + (1 : Int)))) = SV.c (v6 ((↑x' : Int))) ∧ SV.c (SC.row (1 : Nat)) = SV.c (SC.row (1 : Nat)) ∧ True) ∧ [(([] : Go.Eng.Gd), Res.blk (24 : Nat) [SC.v (Value.string nm), SC.sl shI l]), (([] : Go.Eng.Gd), Res.row (3 : TypeId) I6 (deadM l x ++ [(↑x : Int)]))] = [(([] : Go.Eng.Gd), Res.blk (24 : Nat) [SC.v (Value.string nm), SC.sl shI l]), (([] : Go.Eng.Gd), Res.row (3 : TypeId) I6 (deadM l x'))] ∧ l.length - x' < l.length - x) (InR IntKind.i64 ((↑x : Int) + (1 : Int)) ∧ ∃ x', x' ≤ l.length ∧ (SV.c (v6 (((↑x : Int) + (1 : Int)))) = SV.c (v6 ((↑x' : Int))) ∧ SV.c (SC.row (1 : Nat)) = SV.c (SC.row (1 : Nat)) ∧ True) ∧ [(([] : Go.Eng.Gd), Res.blk (24 : Nat) [SC.v (Value.string nm), SC.sl shI l]), (([] : Go.Eng.Gd), Res.row (3 : TypeId) I6 (deadM l x))] = [(([] : Go.Eng.Gd), Res.blk (24 : Nat) [SC.v (Value.string nm), SC.sl shI l]), (([] : Go.Eng.Gd), Res.row (3 : TypeId) I6 (deadM l x'))] ∧ l.length - x' < l.length - x)) (([] : List Go.Eng.Res) = [] ∧ Ent.tup [SV.c (SC.sl I6 (if cfgE l = (0 : Int) then deadM l l.length else [])), SV.c (v6 ((cfgE l)))] = Ent.tup [SV.c (SC.sl I6 (deadM l x)), SV.c (v6 ((0 : Int)))])) := by
  refine ⟨trivial, br_iff.2 ⟨fun h => ?_, fun h => ?_⟩⟩
  · have h : ¬ cfgE l = 0 := by simpa using h
    rw [if_neg h]; exact ⟨rfl, rfl⟩
  have h : cfgE l = 0 := by simpa using h
  have hb := (cfg_ok h).1
  refine ⟨⟨0, Nat.zero_le _, ⟨rfl, rfl, trivial⟩, rfl⟩, fun x hx => br_iff.2 ⟨fun g => ?_, fun g => ?_⟩⟩
  · simp only [decide_eq_true_eq] at g
    have hx' : x < l.length := by omega
    refine ⟨by omega, fun d hd => ?_⟩
    have hd : l[x]? = some d := hd
    have en : nxtL l x = sucL l x := nxtL_ok h (by omega) (by omega)
    rw [en]
    have st := flt_rng x (deadB l) (k := x)
    have yes : deadB l x = true → InA ((deadM l x).length + ([(x : Int)] : List Int).length) 8 ∧ deadM l (x + 1) = deadM l x ++ [(x : Int)] := by
      intro q
      refine ⟨?_, by unfold deadM; rw [st, if_pos q]⟩
      have h1 : (deadM l x).length ≤ x := flt_len x _
      unfold InA
      exact Nat.le_trans (Nat.mul_le_mul_right 8 (show _ ≤ 65 from Nat.add_le_add (show _ ≤ 64 by omega) (Nat.le_refl 1))) (by decide)
    have no : deadB l x = false → deadM l (x + 1) = deadM l x := by
      intro q
      unfold deadM; rw [st, if_neg (by rw [q]; simp), List.append_nil]
    have hR : InR .i64 ((x : Int) + 1) := InR_i64.2 (by omega)
    by_cases hdf : chkI d = 0 ∧ use d.1 0 = true
    · have q : defI d = some d.2.1 := if_pos hdf
      have dd := dead_some hd q
      have hh2 := hdf
      simp only [chkI] at hh2
      dsimp only
      simp only [hh2.1, hh2.2, eq_self, decide_true, Bool.true_and, and_self, if_true, implies_true, true_and]
      refine ⟨fun _ => ⟨h, (def_rng q).1, (def_rng q).2, by have := sucL_len l x; omega, fun k hk => suc_rng h hx' k hk⟩, br_iff.2 ⟨fun g2 => ?_, fun g2 => ?_⟩⟩
      · obtain ⟨y1, y2⟩ := yes (dd.trans g2)
        exact ⟨y1, hR, x + 1, by omega, (by first | exact ⟨rfl, rfl, trivial⟩ | exact ⟨rfl, trivial⟩), by rw [y2], by omega⟩
      · have y := no (dd.trans g2)
        exact ⟨hR, x + 1, by omega, (by first | exact ⟨rfl, rfl, trivial⟩ | exact ⟨rfl, trivial⟩), by rw [y], by omega⟩
    · have q : defI d = none := if_neg hdf
      have dd := dead_none hd q
      have hb2 : ¬ chkI d = 0 ∨ use d.1 0 = false := by
        by_cases hq : chkI d = 0
        · right
          cases hu : use d.1 0 with
          | false => rfl
          | true => exact absurd ⟨hq, hu⟩ hdf
        · exact .inl hq
      simp only [chkI] at hb2
      dsimp only
      rcases hb2 with hb2 | hb2 <;> simp only [hb2, decide_false, Bool.false_and, Bool.and_false, false_and, and_false, if_false, Bool.false_eq_true, false_implies, implies_true, true_and]
      all_goals have y := no dd
      all_goals exact ⟨hR, x + 1, by omega, ⟨rfl, trivial⟩, by rw [y], by omega⟩
  · simp only [decide_eq_false_iff_not] at g
    have e : x = l.length := by omega
    rw [if_pos h, e, h]; exact ⟨rfl, rfl⟩
set_option maxHeartbeats 2000000 in
set_option maxRecDepth 100000 in
theorem f16_met : Go.Eng.Met Tryd.prog cx0.gd 16 ctDe :=
  met_ip (il := il16) (rc := [.data (.sl (.int .i64)), .keep]) (cx := cx0) (n := 54) (cl := cl16) (by kernel_rfl) tis_ok ⟨f30_met, f38_met, f39_met, f41_met, f40_met, trivial⟩ trivial Tryd.func16 (by kernel_rfl) (by kernel_rfl) rfl (by kernel_rfl) (by kernel_rfl) fun d hd => by
    obtain ⟨⟨nm, l, ⟨⟩⟩, ⟨⟩⟩ := d
    exact ex_of (ann16 nm l) (f16_vc nm l) (by kernel_rfl)
end Go.Proofs.YtpfdgbddpdngbaaDoor
set_option linter.unusedSimpArgs false
set_option linter.unusedVariables false
namespace Go.Proofs.YtpfdgbddpdngbaaDoor
open Go Go.Eng
@[reducible] def bOf (s : St) (i : Nat) : List Bool := match nthL s.T i with
  | some ([], .row _ .bool m) => m
  | _ => []
def mkW (rem : Int) (b : List Bool) (s : Int) : List Bool := if s = rem then b else b.set s.toNat true
def rowW (l : List ID) (rem : Int) (b : List Bool) (i : Nat) : List Bool := if b.getD i false = true then (sucL l i).foldl (mkW rem) b else b
def passW (l : List ID) (rem : Int) (b : List Bool) (i : Nat) : List Bool := (List.range i).foldl (rowW l rem) b
def itW (l : List ID) (rem : Int) (b : List Bool) : Nat → List Bool
  | 0 => b
  | p + 1 => passW l rem (itW l rem b p) l.length
def b0W (l : List ID) (rem : Int) : List Bool := (List.replicate (l.length + 1) false).set 0 (!decide (rem = 0))
def wthM (l : List ID) (rem : Int) : List Bool := (itW l rem (b0W l rem) l.length).take l.length
theorem mkW_len (rem : Int) (b : List Bool) (s : Int) : (mkW rem b s).length = b.length := by
  unfold mkW; split <;> simp
theorem fold_len {α : Type} {f : List Bool → α → List Bool} (hf : ∀ b x, (f b x).length = b.length) : ∀ (l : List α) (b : List Bool), (l.foldl f b).length = b.length
  | [], _ => rfl
  | x :: l, b => by rw [List.foldl_cons, fold_len hf l, hf]
theorem rowW_len (l : List ID) (rem : Int) (b : List Bool) (i : Nat) : (rowW l rem b i).length = b.length := by
  unfold rowW; split
  · exact fold_len (mkW_len rem) _ _
  · rfl
theorem passW_len (l : List ID) (rem : Int) (b : List Bool) (i : Nat) : (passW l rem b i).length = b.length := fold_len (rowW_len l rem) _ _
theorem itW_len (l : List ID) (rem : Int) (b : List Bool) : ∀ p, (itW l rem b p).length = b.length
  | 0 => rfl
  | p + 1 => by simp only [itW, passW_len, itW_len l rem b p]
theorem b0W_len (l : List ID) (rem : Int) : (b0W l rem).length = l.length + 1 := by simp [b0W]
theorem mkW_keep {rem : Int} {b : List Bool} {s : Int} {i : Nat} (h : b.getD i false = true) : (mkW rem b s).getD i false = true := by
  unfold mkW
  split
  · exact h
  · rw [List.getD_eq_getElem?_getD] at h ⊢
    by_cases hi : i = s.toNat
    · subst hi
      have hlt : s.toNat < b.length := by
        rcases Nat.lt_or_ge s.toNat b.length with q | q
        · exact q
        · rw [List.getElem?_eq_none q] at h; cases h
      rw [List.getElem?_set_self hlt]; rfl
    · rw [List.getElem?_set_ne (Ne.symm hi)]; exact h
theorem fold_keep {rem : Int} {i : Nat} : ∀ {l : List Int} {b : List Bool}, b.getD i false = true → (l.foldl (mkW rem) b).getD i false = true
  | [], _, h => h
  | x :: l, b, h => by rw [List.foldl_cons]; exact fold_keep (mkW_keep h)
theorem mkW_fold (rem : Int) (us : List Int) {k : Nat} {s : Int} (h : us[k]? = some s) (b : List Bool) : (us.take (k + 1)).foldl (mkW rem) b = mkW rem ((us.take k).foldl (mkW rem) b) s := by
  rw [List.take_add_one, h, Option.toList_some, List.foldl_append]; rfl
theorem passW_succ (l : List ID) (rem : Int) (b : List Bool) (i : Nat) : passW l rem b (i + 1) = rowW l rem (passW l rem b i) i := by
  unfold passW; rw [List.range_succ, List.foldl_append]; rfl
def reaM (l : List ID) (k : Nat) : List Int := (rngI k).filter fun i => (wthM l (-1)).getD i.toNat false
theorem wthM_len (l : List ID) (rem : Int) : (wthM l rem).length = l.length := by
  unfold wthM; rw [List.length_take, itW_len, b0W_len]; omega
/-- What lives after an instruction, of the first successors, by given sets. -/
def aftR (l : List ID) (B : List (List Int)) (a k : Nat) : List Int := makeI (((sucL l a).take k).flatMap (rowL B))
theorem aftR_zero (l : List ID) (B : List (List Int)) (a : Nat) : aftR l B a 0 = [] := by simp [aftR, makeI]
theorem aftR_succ {l : List ID} {B : List (List Int)} {a k : Nat} {s : Int} (h : (sucL l a)[k]? = some s) : aftR l B a (k + 1) = makeI (aftR l B a k ++ rowL B s) := by
  unfold aftR
  rw [List.take_add_one, h]
  refine make_congr fun x => ?_
  rw [List.flatMap_append, List.mem_append, List.mem_append, make_mem]
  simp
theorem aftR_all {l : List ID} {B : List (List Int)} {a k : Nat} (h : (sucL l a).length ≤ k) : aftR l B a k = aftL (cfL l) B a := by
  unfold aftR aftL; rw [List.take_of_length_le h]; rfl
theorem aftR_len {l : List ID} {B : List (List Int)} (hB : ∀ x ∈ B, ∀ r ∈ x, 0 ≤ r ∧ r < 8) (a k : Nat) : (aftR l B a k).length ≤ 8 := by
  refine rng_len (n := 8) (make_ss _) fun r hr => ?_
  unfold aftR at hr
  rw [make_mem, List.mem_flatMap] at hr
  obtain ⟨s, _, hr⟩ := hr
  unfold rowL at hr
  rw [List.getD_eq_getElem?_getD] at hr
  cases e : B[s.toNat]? with
  | none => rw [e] at hr; cases hr
  | some x => rw [e] at hr; have := hB x (List.mem_of_getElem? e) r hr; omega
end Go.Proofs.YtpfdgbddpdngbaaDoor
set_option linter.unusedSimpArgs false
set_option linter.unusedVariables false
namespace Go.Proofs.YtpfdgbddpdngbaaDoor
open Go Go.Eng
noncomputable def livR (l : List ID) (ex : Bool) : List (List Int) := (List.range (l.length + 1)).map (liv (cfL l) ex)
def exR (l : List ID) (r : Nat) : List (List Int) := (List.replicate (l.length + 1) []).set l.length (rngI r)
@[reducible] def rowsDp (s : St) (i : Nat) : List (List Int) := match nthL s.T i with
  | some ([], .deep _ (.sl (.int .i64)) m _ _ _ _ _) => m
  | some ([], .row _ (.sl (.int .i64)) m) => m
  | _ => []
theorem exR_zero (l : List ID) : exR l 0 = List.replicate (l.length + 1) [] := by
  unfold exR
  rw [show rngI 0 = [] from rfl, List.set_replicate_self]
theorem exR_len (l : List ID) (r : Nat) : (exR l r).length = l.length + 1 := by simp [exR]
theorem exR_at (l : List ID) (r : Nat) : (exR l r)[l.length]? = some (rngI r) := by
  unfold exR
  rw [List.getElem?_set_self (by simp)]
theorem exR_succ (l : List ID) (r : Nat) : (exR l r).set l.length (rngI r ++ [(r : Int)]) = exR l (r + 1) := by
  unfold exR
  rw [List.set_set]
  congr 1
  unfold rngI
  rw [List.range_succ, List.map_append]; rfl
theorem ownAt_all (j : Nat) : ownAt allOwn j = allOwn := by
  funext k; unfold ownAt allOwn; cases decide (k = j) <;> rfl
structure InR' (l : List ID) (ex : Bool) (B : List (List Int)) : Prop where
  inv : Inv (cfL l) ex B
  len : B.length = l.length + 1
variable {l : List ID} {ex : Bool} {B : List (List Int)}
theorem InR'.start (l : List ID) (ex : Bool) {r : Nat} (h : r = if ex = true then 8 else 0) : InR' l ex (exR l r) := by
  cases ex with
  | false =>
    simp at h; subst h
    rw [exR_zero]
    exact ⟨Inv.start (cfL l) (Nat.le_succ _), by simp⟩
  | true =>
    simp at h; subst h
    exact ⟨Inv.startX (cfL l), exR_len _ _⟩
theorem InR'.set (h : InR' l ex B) {k : Nat} (hk : k < l.length) : InR' l ex (B.set k (trL (cfL l) B k)) := ⟨h.inv.set hk, by rw [List.length_set]; exact h.len⟩
theorem InR'.bnd (hc : cfgE l = 0) (h : InR' l ex B) : szL B ≤ 8 * (l.length + 1) := by
  have := h.inv.bnd (cfL_ok hc); rwa [h.len] at this
theorem InR'.rows (hc : cfgE l = 0) (h : InR' l ex B) : ∀ x ∈ B, ∀ r ∈ x, 0 ≤ r ∧ r < 8 := by
  intro x hx r hr
  obtain ⟨k, hk⟩ := List.mem_iff_getElem?.1 hx
  exact (h.inv.snd k r (by rw [List.getD_eq_getElem?_getD, hk]; exact hr)).reg (cfL_ok hc)
theorem InR'.row (hc : cfgE l = 0) (h : InR' l ex B) {k : Nat} {d : List Int} (hd : B[k]? = some d) : d.length ≤ 8 :=
  rng_len (n := 8) (h.inv.ss d (List.mem_of_getElem? hd)) fun r hr => by have := h.rows hc d (List.mem_of_getElem? hd) r hr; omega
theorem InR'.fin (hc : cfgE l = 0) (h : InR' l ex B) (hf : ∀ k, k < l.length → trL (cfL l) B k = B.getD k []) : B = livR l ex := by
  apply List.ext_getElem?
  intro k
  by_cases hk : k < l.length + 1
  · have e := h.inv.fin (cfL_ok hc) hf (k := k) (show k ≤ l.length by omega)
    rw [List.getD_eq_getElem?_getD] at e
    have hk' : k < B.length := by rw [h.len]; exact hk
    rw [List.getElem?_eq_getElem hk'] at e ⊢
    simp only [livR, List.getElem?_map, List.getElem?_range hk, Option.map_some]
    exact congrArg some e
  · rw [List.getElem?_eq_none (by rw [h.len]; omega), List.getElem?_eq_none (by simp [livR]; omega)]
theorem livR_len (l : List ID) (ex : Bool) : (livR l ex).length = l.length + 1 := by simp [livR]
theorem livR_get {l : List ID} (ex : Bool) {k : Nat} (h : k ≤ l.length) : (livR l ex)[k]? = some (liv (cfL l) ex k) := by
  simp [livR, List.getElem?_range (show k < l.length + 1 by omega)]
theorem livR_bef (l : List ID) : (livR l false).take l.length = befL l := by
  unfold livR befL
  rw [← List.map_take, List.take_range, Nat.min_eq_left (Nat.le_succ _)]
theorem livR_rows (hc : cfgE l = 0) (ex : Bool) : ∀ x ∈ livR l ex, ∀ r ∈ x, 0 ≤ r ∧ r < 8 := by
  intro x hx r hr
  unfold livR at hx
  obtain ⟨k, _, rfl⟩ := List.mem_map.1 hx
  exact liv_rng hc _ _ r hr
theorem livR_row {s : Int} (h0 : 0 ≤ s) (h1 : s ≤ l.length) (ex : Bool) : rowL (livR l ex) s = liv (cfL l) ex s.toNat := by
  unfold rowL
  rw [List.getD_eq_getElem?_getD, livR_get ex (by omega)]; rfl
/-- One step of the reference. -/
theorem ref_tr {d : ID} {k : Nat} (hd : l[k]? = some d) : trL (cfL l) B k = makeI (delL (aftL (cfL l) B k) (defI d) ++ useI d) := by
  unfold trL; rw [cf_dfn hd, cf_use hd]
theorem ref_some {A U : List Int} {r : Int} : makeI (makeI (filI A [r] false) ++ U) = makeI (delL A (some r) ++ U) := by
  refine make_congr fun x => ?_
  rw [List.mem_append, List.mem_append, make_mem, del_mem]
  unfold filI
  simp only [List.mem_filter, beq_iff_eq, hasI_false, List.mem_singleton, ne_eq, Option.some.injEq]
  exact or_congr (and_congr Iff.rfl ⟨fun h e => h e.symm, fun h e => h e.symm⟩) Iff.rfl
theorem aft_len8 (hc : cfgE l = 0) (h : InR' l ex B) (k : Nat) : (aftL (cfL l) B k).length ≤ 8 := by
  rw [← aftR_all (Nat.le_refl _)]
  exact aftR_len (h.rows hc) _ _
theorem fil_len (A : List Int) (r : Int) : (filI A [r] false).length ≤ A.length := List.length_filter_le _ _
theorem tr_ss (k : Nat) : SS (trL (cfL l) B k) := make_ss _
end Go.Proofs.YtpfdgbddpdngbaaDoor
set_option linter.unusedSimpArgs false
set_option linter.unusedVariables false
set_option maxRecDepth 100000
namespace Go.Proofs.YtpfdgbddpdngbaaDoor
open Go Go.Eng

@[reducible] def cl42 : List (Nat × CT) := [(45, ct12)]
@[reducible] def ann42 (nm : ByteArray) (l : List ID) : Nat → Option (St → Ann) := fun k => match k with
  | 4 => some fun _ => .inv { α := Nat, slots := fun k => [(3, .c (.v (.int .i64 k)))], res := fun k => [], inv := fun k => k ≤ (l).length ∧ ∀ j < k, ∀ i, l[j]? = some i → badI l.length i = 0, meas := fun k => (l).length - k }
  | _ => none
set_option maxRecDepth 100000 in
theorem f42_vc (nm : ByteArray) (l : List ID) :
    br (decide ((64 : Int) < (↑l.length : Int))) (([] : List Go.Eng.Res) = [] ∧ Ent.one (SV.c (v6 ((cfgE l)))) = Ent.one (SV.c (v6 ((4 : Int))))) ((∃ x, (x ≤ l.length ∧ ∀ (j : Nat), j < x → ∀ (i : Int × Int × Int × Int × Int × Int × Int × Int × Unit), l[j]? = some i → badI l.length i = (0 : Int)) ∧ (SV.c (v6 ((0 : Int))) = SV.c (v6 ((↑x : Int))) ∧ True) ∧ [(([] : Go.Eng.Gd), Res.blk (24 : Nat) [SC.v (Value.string nm), SC.sl shI l])] = [(([] : Go.Eng.Gd), Res.blk (24 : Nat) [SC.v (Value.string nm), SC.sl shI l])]) ∧ ∀ (x : Nat), (x ≤ l.length ∧ ∀ (j : Nat), j < x → ∀ (i : Int × Int × Int × Int × Int × Int × Int × Int × Unit), l[j]? = some i → badI l.length i = (0 : Int)) → br (decide ((↑x : Int) < (↑l.length : Int))) (((0 : Int) ≤ (↑x : Int) ∧ (↑x : Int) < (↑l.length : Int)) ∧ ∀ (d : I6.den × (I6.pair (I6.pair (I6.pair (I6.pair (I6.pair (I6.pair (I6.pair Sh.unit))))))).den), l[(↑x : Int).toNat]? = some d → True ∧ br (!decide (chkS d.fst d.snd.fst d.snd.snd.fst d.snd.snd.snd.fst d.snd.snd.snd.snd.fst d.snd.snd.snd.snd.snd.fst (d.snd.snd.snd.snd.snd.snd.fst, d.snd.snd.snd.snd.snd.snd.snd.fst, ()).fst d.snd.snd.snd.snd.snd.snd.snd.fst = (0 : Int))) (([] : List Go.Eng.Res) = [] ∧ Ent.one (SV.c (v6 ((cfgE l)))) = Ent.one (SV.c (v6 ((chkS d.fst d.snd.fst d.snd.snd.fst d.snd.snd.snd.fst d.snd.snd.snd.snd.fst d.snd.snd.snd.snd.snd.fst (d.snd.snd.snd.snd.snd.snd.fst, d.snd.snd.snd.snd.snd.snd.snd.fst, ()).fst d.snd.snd.snd.snd.snd.snd.snd.fst))))) (((0 : Int) ≤ (↑x : Int) ∧ (↑x : Int) < (↑l.length : Int)) ∧ ∀ (d : I6.den × (I6.pair (I6.pair (I6.pair (I6.pair (I6.pair (I6.pair (I6.pair Sh.unit))))))).den), l[(↑x : Int).toNat]? = some d → ((!decide (d.fst = (4 : Int))) = true → (0 : Int) ≤ (↑x : Int) ∧ (↑x : Int) < (↑l.length : Int)) ∧ ∀ (d_1 : I6.den × (I6.pair (I6.pair (I6.pair (I6.pair (I6.pair (I6.pair (I6.pair Sh.unit))))))).den), ((!decide (d.fst = (4 : Int))) = true → l[(↑x : Int).toNat]? = some d_1) → ((decide (d.fst = (4 : Int)) || decide (d_1.fst = (5 : Int))) = true → (0 : Int) ≤ (↑x : Int) ∧ (↑x : Int) < (↑l.length : Int)) ∧ ∀ (d_2 : I6.den × (I6.pair (I6.pair (I6.pair (I6.pair (I6.pair (I6.pair (I6.pair Sh.unit))))))).den), ((decide (d.fst = (4 : Int)) || decide (d_1.fst = (5 : Int))) = true → l[(↑x : Int).toNat]? = some d_2) → ((!decide (d_2.snd.snd.snd.snd.snd.fst < (0 : Int)) && (decide (d.fst = (4 : Int)) || decide (d_1.fst = (5 : Int)))) = true → (0 : Int) ≤ (↑x : Int) ∧ (↑x : Int) < (↑l.length : Int)) ∧ ∀ (d_3 : I6.den × (I6.pair (I6.pair (I6.pair (I6.pair (I6.pair (I6.pair (I6.pair Sh.unit))))))).den), ((!decide (d_2.snd.snd.snd.snd.snd.fst < (0 : Int)) && (decide (d.fst = (4 : Int)) || decide (d_1.fst = (5 : Int)))) = true → l[(↑x : Int).toNat]? = some d_3) → br ((decide (d.fst = (4 : Int)) || decide (d_1.fst = (5 : Int))) && (decide (d_2.snd.snd.snd.snd.snd.fst < (0 : Int)) || decide ((↑l.length : Int) < d_3.snd.snd.snd.snd.snd.fst))) (([] : List Go.Eng.Res) = [] ∧ Ent.one (SV.c (v6 ((cfgE l)))) = Ent.one (SV.c (v6 ((12 : Int))))) (InR IntKind.i64 ((↑x : Int) + (1 : Int)) ∧ ∃ x', (x' ≤ l.length ∧ ∀ (j : Nat), j < x' → ∀ (i : Int × Int × Int × Int × Int × Int × Int × Int × Unit), l[j]? = some i → badI l.length i = (0 : Int)) ∧ (SV.c (v6 (((↑x : Int) + (1 : Int)))) = SV.c (v6 ((↑x' : Int))) ∧ True) ∧ [(([] : Go.Eng.Gd), Res.blk (24 : Nat) [SC.v (Value.string nm), SC.sl shI l])] = [(([] : Go.Eng.Gd), Res.blk (24 : Nat) [SC.v (Value.string nm), SC.sl shI l])] ∧ l.length - x' < l.length - x))) (([] : List Go.Eng.Res) = [] ∧ Ent.one (SV.c (v6 ((cfgE l)))) = Ent.one (SV.c (v6 ((0 : Int)))))) := by
  refine br_iff.2 ⟨fun h => ?_, fun h => ?_⟩
  · simp only [decide_eq_true_eq] at h
    rw [cfg_big (by omega)]; exact ⟨rfl, rfl⟩
  simp only [decide_eq_false_iff_not] at h
  have hl : ¬ 64 < l.length := by omega
  refine ⟨⟨0, ⟨by omega, fun j hj => by omega⟩, ⟨rfl, trivial⟩, rfl⟩, fun x hx => br_iff.2 ⟨fun g => ?_, fun g => ?_⟩⟩
  · simp only [decide_eq_true_eq] at g
    refine ⟨by omega, fun d hd => ?_⟩
    have hd' : l[x]? = some d := hd
    refine ⟨trivial, br_iff.2 ⟨fun h2 => ?_, fun h2 => ⟨by omega, fun e1 he1 => ⟨fun _ => by omega, fun e2 he2 => ⟨fun _ => by omega, fun e3 he3 => ⟨fun _ => by omega, fun e4 he4 => ?_⟩⟩⟩⟩⟩⟩
    rotate_left
    have q1 : e1 = d := Option.some.inj ((show l[x]? = some e1 from he1).symm.trans hd')
    subst q1
    have s2 : (!decide (e1.1 = 4)) = true → e2 = e1 := fun q => Option.some.inj ((show l[x]? = some e2 from he2 q).symm.trans hd')
    have s3 : (decide (e1.1 = 4) || decide (e2.1 = 5)) = true → e3 = e1 := fun q => Option.some.inj ((show l[x]? = some e3 from he3 q).symm.trans hd')
    have s4 : (!decide (nI e3 < 0) && (decide (e1.1 = 4) || decide (e2.1 = 5))) = true → e4 = e1 := fun q => Option.some.inj ((show l[x]? = some e4 from he4 q).symm.trans hd')
    have key : ((decide (e1.1 = 4) || decide (e2.1 = 5)) && (decide (nI e3 < 0) || decide ((l.length : Int) < nI e4))) = ((decide (e1.1 = 4) || decide (e1.1 = 5)) && (decide (nI e1 < 0) || decide ((l.length : Int) < nI e1))) := by
      by_cases a : e1.1 = 4
      · have t3 := s3 (by rw [decide_eq_true a]; rfl)
        subst t3
        by_cases b : nI e3 < 0
        · rw [decide_eq_true a, decide_eq_true b]; rfl
        · have t4 := s4 (by rw [decide_eq_true a, decide_eq_false b]; rfl)
          rw [t4, decide_eq_true a]; rfl
      · have t2 := s2 (by rw [decide_eq_false a]; rfl)
        subst t2
        by_cases c : e2.1 = 5
        · have t3 := s3 (by rw [decide_eq_true c]; simp)
          subst t3
          by_cases b : nI e3 < 0
          · rw [decide_eq_true b]; rfl
          · have t4 := s4 (by rw [decide_eq_true c, decide_eq_false b]; simp)
            rw [t4]
        · rw [decide_eq_false a, decide_eq_false c]; rfl
    refine br_iff.2 ⟨fun h3 => ?_, fun h3 => ?_⟩
    rotate_left 2
    · have h2' : (!decide (chkI d = 0)) = true := h2
      have hc : chkI d ≠ 0 := by simpa using h2'
      have e : badI l.length d = chkI d := if_pos hc
      rw [cfg_first hl hd' (by rw [e]; exact hc) hx.2, e]; exact ⟨rfl, rfl⟩
    · have h2' : (!decide (chkI e1 = 0)) = false := h2
      have hc : ¬ chkI e1 ≠ 0 := by simpa using h2'
      have h3 := key.symm.trans h3
      simp only [Bool.and_eq_true, Bool.or_eq_true, decide_eq_true_eq] at h3
      have e : badI l.length e1 = 12 := (if_neg hc).trans (if_pos h3)
      rw [cfg_first hl hd' (by rw [e]; decide) hx.2, e]; exact ⟨rfl, rfl⟩
    · have h2' : (!decide (chkI e1 = 0)) = false := h2
      have hc : ¬ chkI e1 ≠ 0 := by simpa using h2'
      have h4 : ¬ ((e1.1 = 4 ∨ e1.1 = 5) ∧ (nI e1 < 0 ∨ (l.length : Int) < nI e1)) := by
        intro hh
        have : ((decide (e1.1 = 4) || decide (e1.1 = 5)) && (decide (nI e1 < 0) || decide ((l.length : Int) < nI e1))) = true := by
          simp only [Bool.and_eq_true, Bool.or_eq_true, decide_eq_true_eq]; exact hh
        exact absurd (this.symm.trans (key.symm.trans h3)) (by simp)
      have e : badI l.length e1 = 0 := (if_neg hc).trans (if_neg h4)
      refine ⟨InR_i64.2 (by omega), x + 1, ⟨by omega, fun j hj i hi => ?_⟩, ⟨rfl, trivial⟩, rfl, by omega⟩
      by_cases hjx : j = x
      · subst hjx; rw [hd'] at hi; cases hi; exact e
      · exact hx.2 j (by omega) i hi
  · simp only [decide_eq_false_iff_not] at g
    rw [cfg_none hl fun i hi => ?_]
    · exact ⟨rfl, rfl⟩
    · obtain ⟨j, hj⟩ := List.mem_iff_getElem?.1 hi
      have := (List.getElem?_eq_some_iff.1 hj).1
      exact hx.2 j (by omega) i hj
set_option maxHeartbeats 2000000 in
set_option maxRecDepth 100000 in
theorem f42_met : Go.Eng.Met Tryd.prog cx0.gd 42 ctCk :=
  met_of (cx := cx0) (n := 64) (cl := cl42) (by kernel_rfl) tis_ok ⟨f45_met, trivial⟩ Tryd.func42 (by kernel_rfl) (by kernel_rfl) rfl (by kernel_rfl) (by kernel_rfl) fun d hd => by
    obtain ⟨⟨nm, l, ⟨⟩⟩, ⟨⟩⟩ := d
    exact ex_of (ann42 nm l) (f42_vc nm l) (by kernel_rfl)
@[reducible] def ctrSuc : CT := { ps := [shF, .int .i64], pre := fun d => 0 ≤ d.2.1 ∧ d.2.1 < d.1.2.1.length ∧ d.1.2.1.length ≤ 64, res := fun d => ([.row 3 (.int .i64) (sucL d.1.2.1 d.2.1.toNat)], .one (.c (.row 0))) }
@[reducible] def cl44 : List (Nat × CT) := [(29, ct41)]
@[reducible] def ann44 (nm : ByteArray) (l : List ID) (k : Int) : Nat → Option (St → Ann) := fun _ => none
set_option maxRecDepth 100000 in
theorem f44_vc (nm : ByteArray) (l : List ID) (k : Int) (hpre : ctrSuc.pre ((nm, l, ()), k, ())) :
    ((0 : Int) ≤ k ∧ k < (↑l.length : Int)) ∧ ∀ (d : I6.den × (I6.pair (I6.pair (I6.pair (I6.pair (I6.pair (I6.pair (I6.pair Sh.unit))))))).den), l[k.toNat]? = some d → br (decide (d.fst = (4 : Int))) ([Res.row (3 : TypeId) I6 (sucL l k.toNat)] = [Res.row (3 : TypeId) I6 [d.snd.snd.snd.snd.snd.fst]] ∧ Ent.one (SV.c (SC.row (0 : Nat))) = Ent.one (SV.c (SC.row (0 : Nat)))) (br (decide (d.fst = (7 : Int))) ([Res.row (3 : TypeId) I6 (sucL l k.toNat)] = [Res.row (3 : TypeId) I6 [(↑l.length : Int)]] ∧ Ent.one (SV.c (SC.row (0 : Nat))) = Ent.one (SV.c (SC.row (0 : Nat)))) (br (decide (d.fst = (5 : Int))) (InR IntKind.i64 (k + (1 : Int)) ∧ [d.snd.snd.snd.snd.snd.fst, k + (1 : Int)].length ≤ (1000000 : Nat) ∧ [Res.row (3 : TypeId) I6 (sucL l k.toNat)] = [Res.row (3 : TypeId) I6 (makeI [d.snd.snd.snd.snd.snd.fst, k + (1 : Int)])] ∧ Ent.one (SV.c (SC.row (0 : Nat))) = Ent.one (SV.c (SC.row (0 : Nat)))) (InR IntKind.i64 (k + (1 : Int)) ∧ [Res.row (3 : TypeId) I6 (sucL l k.toNat)] = [Res.row (3 : TypeId) I6 [k + (1 : Int)]] ∧ Ent.one (SV.c (SC.row (0 : Nat))) = Ent.one (SV.c (SC.row (0 : Nat)))))) := by
  obtain ⟨h0, h1, h2⟩ : 0 ≤ k ∧ k < l.length ∧ l.length ≤ 64 := hpre
  refine ⟨⟨h0, h1⟩, fun d hd => ?_⟩
  have hs : sucL l k.toNat = sucI l.length k.toNat d := cf_suc (show l[k.toNat]? = some d from hd)
  have hk : ((k.toNat : Nat) : Int) = k := by omega
  have hR : InR .i64 (k + 1) := InR_i64.2 (by omega)
  refine br_iff.2 ⟨fun h => ?_, fun h => br_iff.2 ⟨fun h5 => ?_, fun h5 => br_iff.2 ⟨fun h7 => ?_, fun h7 => ?_⟩⟩⟩
  · simp only [decide_eq_true_eq] at h
    have e : sucL l k.toNat = [nI d] := hs.trans (if_pos h)
    rw [e]; exact ⟨rfl, rfl⟩
  · simp only [decide_eq_true_eq, decide_eq_false_iff_not] at h h5
    have e : sucL l k.toNat = [(l.length : Int)] := hs.trans ((if_neg h).trans ((if_neg (fun q => by rw [q] at h5; cases h5)).trans (if_pos h5)))
    rw [e]; exact ⟨rfl, rfl⟩
  · simp only [decide_eq_true_eq, decide_eq_false_iff_not] at h h5 h7
    have e : sucL l k.toNat = makeI [nI d, k + 1] := by
      refine hs.trans ((if_neg h).trans ((if_pos h7).trans ?_))
      rw [hk]
    rw [e]; exact ⟨hR, by simp, rfl, rfl⟩
  · simp only [decide_eq_true_eq, decide_eq_false_iff_not] at h h5 h7
    have e : sucL l k.toNat = [k + 1] := by
      refine hs.trans ((if_neg h).trans ((if_neg h7).trans ((if_neg h5).trans ?_)))
      rw [hk]
    rw [e]; exact ⟨hR, rfl, rfl⟩
set_option maxHeartbeats 2000000 in
set_option maxRecDepth 100000 in
theorem f44_met : Go.Eng.Met Tryd.prog cx0.gd 44 ctrSuc :=
  met_of (cx := cx0) (n := 35) (cl := cl44) (by kernel_rfl) tis_ok ⟨f29_met, trivial⟩ Tryd.func44 (by kernel_rfl) (by kernel_rfl) rfl (by kernel_rfl) (by kernel_rfl) fun d hd => by
    obtain ⟨⟨nm, l, ⟨⟩⟩, k, ⟨⟩⟩ := d
    exact ex_of (ann44 nm l k) (f44_vc nm l k hd) (by kernel_rfl)
@[reducible] def cl22 : List (Nat × CT) := [(42, ctCk), (44, ctrSuc)]
@[reducible] def il22 : List (Nat × IP) := []
@[reducible] def ann22 (nm : ByteArray) (l : List ID) (k : Int) : Nat → Option (St → Ann) := fun _ => none
set_option maxRecDepth 100000 in
theorem f22_vc (nm : ByteArray) (l : List ID) (k : Int) :
    True ∧ br (!decide (cfgE l = (0 : Int))) (([] : List Go.Eng.Res) = [] ∧ Ent.tup [SV.c (SC.sl I6 (nxtL l k)), SV.c (v6 ((nxtE l k)))] = Ent.tup [SV.c (SC.sl I6 []), SV.c (v6 ((cfgE l)))]) (br (decide (k < (0 : Int)) || decide ((↑l.length : Int) ≤ k)) (([] : List Go.Eng.Res) = [] ∧ Ent.tup [SV.c (SC.sl I6 (nxtL l k)), SV.c (v6 ((nxtE l k)))] = Ent.tup [SV.c (SC.sl I6 []), SV.c (v6 ((2 : Int)))]) (((0 : I6.den) ≤ k ∧ k < (↑l.length : I6.den) ∧ l.length ≤ (64 : Nat)) ∧ ([] : List Go.Eng.Res) = [] ∧ Ent.tup [SV.c (SC.sl I6 (nxtL l k)), SV.c (v6 ((nxtE l k)))] = Ent.tup [SV.c (SC.sl I6 (sucL l k.toNat)), SV.c (v6 ((0 : Int)))])) := by
  refine ⟨trivial, br_iff.2 ⟨fun h => ?_, fun h => br_iff.2 ⟨fun h2 => ?_, fun h2 => ?_⟩⟩⟩
  · have h : ¬ cfgE l = 0 := by simpa using h
    have e : nxtE l k = cfgE l := if_pos h
    have e2 : nxtL l k = [] := if_neg (by rw [e]; exact h)
    rw [e, e2]; exact ⟨rfl, rfl⟩
  · have h : cfgE l = 0 := by simpa using h
    simp only [Bool.or_eq_true, decide_eq_true_eq] at h2
    have e : nxtE l k = 2 := (if_neg fun q => q h).trans (if_pos h2)
    have e2 : nxtL l k = [] := if_neg (by rw [e]; decide)
    rw [e, e2]; exact ⟨rfl, rfl⟩
  · have h : cfgE l = 0 := by simpa using h
    simp only [Bool.or_eq_false_iff, decide_eq_false_iff_not] at h2
    have e : nxtE l k = 0 := (if_neg fun q => q h).trans (if_neg (by omega))
    have e2 : nxtL l k = sucL l k.toNat := if_pos e
    rw [e, e2]
    exact ⟨⟨(show (0 : Int) ≤ k by omega), (show k < (l.length : Int) by omega), (cfg_ok h).1⟩, rfl, rfl⟩
set_option maxHeartbeats 2000000 in
set_option maxRecDepth 100000 in
theorem f22_met : Go.Eng.Met Tryd.prog cx0.gd 22 ctNx :=
  met_ip (il := il22) (rc := [.data (.sl (.int .i64)), .keep]) (cx := cx0) (n := 24) (cl := cl22) (by kernel_rfl) tis_ok ⟨f42_met, f44_met, trivial⟩ trivial Tryd.func22 (by kernel_rfl) (by kernel_rfl) rfl (by kernel_rfl) (by kernel_rfl) fun d hd => by
    obtain ⟨⟨nm, l, ⟨⟩⟩, k, ⟨⟩⟩ := d
    exact ex_of (ann22 nm l k) (f22_vc nm l k) (by kernel_rfl)
@[reducible] def ctWt : CT := { ps := [shF, .int .i64], pre := fun d => cfgE d.1.2.1 = 0, res := fun d => ([], .one (.c (.sl .bool (wthM d.1.2.1 d.2.1)))) }
@[reducible] def cl43 : List (Nat × CT) := [(44, ctrSuc)]
@[reducible] def il43 : List (Nat × IP) := []
@[reducible] def ann43 (nm : ByteArray) (l : List ID) (w : Int) : Nat → Option (St → Ann) := fun q => match q with
  | 4 => some fun _ => .inv { α := Nat, slots := fun p => [(6, .c (.v (.int .i64 p)))], res := fun p => [(1, .row 4 .bool (itW l w (b0W l w) p))], inv := fun p => p ≤ l.length, meas := fun p => l.length - p }
  | 7 => some fun s => .inv { α := Nat, slots := fun i => [(7, .c (.v (.int .i64 i)))], res := fun i => [(1, .row 4 .bool (passW l w (bOf s 1) i))], inv := fun i => i ≤ l.length ∧ (bOf s 1).length = l.length + 1, meas := fun i => l.length - i }
  | 11 => some fun s => .inv { α := Nat, slots := fun j => [(9, .c (.v (.int .i64 j)))], res := fun j => [(1, .row 4 .bool (((sucL l (slotI s 7).toNat).take j).foldl (mkW w) (bOf s 1)))], inv := fun j => j ≤ (sucL l (slotI s 7).toNat).length ∧ (bOf s 1).length = l.length + 1 ∧ ((bOf s 1).getD (slotI s 7).toNat false = false → j = 0), meas := fun j => (sucL l (slotI s 7).toNat).length - j }
  | _ => none
set_option maxRecDepth 100000 in
theorem f43_vc (nm : ByteArray) (l : List ID) (w : Int) (hpre : ctWt.pre ((nm, l, ()), w, ())) :
    InR IntKind.i64 ((↑l.length : Int) + (1 : Int)) ∧ ((0 : Int) ≤ (↑l.length : Int) + (1 : Int) ∧ (↑l.length : Int) + (1 : Int) ≤ (↑l.length : Int) + (1 : Int) ∧ InA ((↑l.length : Int) + (1 : Int)).toNat (1 : Nat)) ∧ ((0 : Int) ≤ (0 : Int) ∧ (0 : Int) < (↑(List.replicate ((↑l.length : Int) + (1 : Int)).toNat false).length : Int)) ∧ (0 : Nat) < (List.replicate ((↑l.length : Int) + (1 : Int)).toNat false).length ∧ (∃ x, x ≤ l.length ∧ (SV.c (v6 ((0 : Int))) = SV.c (v6 ((↑x : Int))) ∧ True) ∧ [(([] : Go.Eng.Gd), Res.blk (24 : Nat) [SC.v (Value.string nm), SC.sl shI l]), (([] : Go.Eng.Gd), Res.row (4 : TypeId) Sh.bool ((List.replicate ((↑l.length : Int) + (1 : Int)).toNat false).set (0 : Nat) !decide (w = (0 : Int))))] = [(([] : Go.Eng.Gd), Res.blk (24 : Nat) [SC.v (Value.string nm), SC.sl shI l]), (([] : Go.Eng.Gd), Res.row (4 : TypeId) Sh.bool (itW l w (b0W l w) x))]) ∧ ∀ (x : Nat), x ≤ l.length → br (decide ((↑x : Int) < (↑l.length : Int))) ((∃ x_1, (x_1 ≤ l.length ∧ (itW l w (b0W l w) x).length = l.length + (1 : Nat)) ∧ (SV.c (v6 ((0 : Int))) = SV.c (v6 ((↑x_1 : Int))) ∧ True) ∧ [(([] : Go.Eng.Gd), Res.blk (24 : Nat) [SC.v (Value.string nm), SC.sl shI l]), (([] : Go.Eng.Gd), Res.row (4 : TypeId) Sh.bool (itW l w (b0W l w) x))] = [(([] : Go.Eng.Gd), Res.blk (24 : Nat) [SC.v (Value.string nm), SC.sl shI l]), (([] : Go.Eng.Gd), Res.row (4 : TypeId) Sh.bool (passW l w (itW l w (b0W l w) x) x_1))]) ∧ ∀ (x_1 : Nat), x_1 ≤ l.length ∧ (itW l w (b0W l w) x).length = l.length + (1 : Nat) → br (decide ((↑x_1 : Int) < (↑l.length : Int))) (((0 : I6.den) ≤ (↑x_1 : Int) ∧ (↑x_1 : Int) < (↑l.length : I6.den) ∧ l.length ≤ (64 : Nat)) ∧ (∃ x_2, (x_2 ≤ (sucL l (↑x_1 : Int).toNat).length ∧ (passW l w (itW l w (b0W l w) x) x_1).length = l.length + (1 : Nat) ∧ ((passW l w (itW l w (b0W l w) x) x_1).getD (↑x_1 : Int).toNat false = false → x_2 = (0 : Nat))) ∧ (SV.c (v6 ((0 : Int))) = SV.c (v6 ((↑x_2 : Int))) ∧ True) ∧ [(([] : Go.Eng.Gd), Res.blk (24 : Nat) [SC.v (Value.string nm), SC.sl shI l]), (([] : Go.Eng.Gd), Res.row (4 : TypeId) Sh.bool (passW l w (itW l w (b0W l w) x) x_1)), (([] : Go.Eng.Gd), Res.row (3 : TypeId) I6 (sucL l (↑x_1 : Int).toNat))] = [(([] : Go.Eng.Gd), Res.blk (24 : Nat) [SC.v (Value.string nm), SC.sl shI l]), (([] : Go.Eng.Gd), Res.row (4 : TypeId) Sh.bool (List.foldl (mkW w) (passW l w (itW l w (b0W l w) x) x_1) (List.take x_2 (sucL l (↑x_1 : Int).toNat)))), (([] : Go.Eng.Gd), Res.row (3 : TypeId) I6 (sucL l (↑x_1 : Int).toNat))]) ∧ ∀ (x_2 : Nat), x_2 ≤ (sucL l (↑x_1 : Int).toNat).length ∧ (passW l w (itW l w (b0W l w) x) x_1).length = l.length + (1 : Nat) ∧ ((passW l w (itW l w (b0W l w) x) x_1).getD (↑x_1 : Int).toNat false = false → x_2 = (0 : Nat)) → (decide ((↑x_2 : Int) < (↑(sucL l (↑x_1 : Int).toNat).length : Int)) = true → (0 : Int) ≤ (↑x_1 : Int) ∧ (↑x_1 : Int) < (↑(List.foldl (mkW w) (passW l w (itW l w (b0W l w) x) x_1) (List.take x_2 (sucL l (↑x_1 : Int).toNat))).length : Int)) ∧ (decide ((↑x_2 : Int) < (↑(sucL l (↑x_1 : Int).toNat).length : Int)) = true → (↑x_1 : Int).toNat < (List.foldl (mkW w) (passW l w (itW l w (b0W l w) x) x_1) (List.take x_2 (sucL l (↑x_1 : Int).toNat))).length) ∧ ∀ (d : Bool), (decide ((↑x_2 : Int) < (↑(sucL l (↑x_1 : Int).toNat).length : Int)) = true → (List.foldl (mkW w) (passW l w (itW l w (b0W l w) x) x_1) (List.take x_2 (sucL l (↑x_1 : Int).toNat)))[(↑x_1 : Int).toNat]? = some d) → br (decide ((↑x_2 : Int) < (↑(sucL l (↑x_1 : Int).toNat).length : Int)) && d) (((0 : Int) ≤ (↑x_2 : Int) ∧ (↑x_2 : Int) < (↑(sucL l (↑x_1 : Int).toNat).length : Int)) ∧ (↑x_2 : Int).toNat < (sucL l (↑x_1 : Int).toNat).length ∧ ∀ (d : Int), (sucL l (↑x_1 : Int).toNat)[(↑x_2 : Int).toNat]? = some d → br (!decide (d = w)) (((0 : Int) ≤ (↑x_2 : Int) ∧ (↑x_2 : Int) < (↑(sucL l (↑x_1 : Int).toNat).length : Int)) ∧ (↑x_2 : Int).toNat < (sucL l (↑x_1 : Int).toNat).length ∧ ∀ (d : Int), (sucL l (↑x_1 : Int).toNat)[(↑x_2 : Int).toNat]? = some d → ((0 : Int) ≤ d ∧ d < (↑(List.foldl (mkW w) (passW l w (itW l w (b0W l w) x) x_1) (List.take x_2 (sucL l (↑x_1 : Int).toNat))).length : Int)) ∧ d.toNat < (List.foldl (mkW w) (passW l w (itW l w (b0W l w) x) x_1) (List.take x_2 (sucL l (↑x_1 : Int).toNat))).length ∧ InR IntKind.i64 ((↑x_2 : Int) + (1 : Int)) ∧ ∃ x', (x' ≤ (sucL l (↑x_1 : Int).toNat).length ∧ (passW l w (itW l w (b0W l w) x) x_1).length = l.length + (1 : Nat) ∧ ((passW l w (itW l w (b0W l w) x) x_1).getD (↑x_1 : Int).toNat false = false → x' = (0 : Nat))) ∧ (SV.c (v6 (((↑x_2 : Int) + (1 : Int)))) = SV.c (v6 ((↑x' : Int))) ∧ True) ∧ [(([] : Go.Eng.Gd), Res.blk (24 : Nat) [SC.v (Value.string nm), SC.sl shI l]), (([] : Go.Eng.Gd), Res.row (4 : TypeId) Sh.bool ((List.foldl (mkW w) (passW l w (itW l w (b0W l w) x) x_1) (List.take x_2 (sucL l (↑x_1 : Int).toNat))).set d.toNat true)), (([] : Go.Eng.Gd), Res.row (3 : TypeId) I6 (sucL l (↑x_1 : Int).toNat))] = [(([] : Go.Eng.Gd), Res.blk (24 : Nat) [SC.v (Value.string nm), SC.sl shI l]), (([] : Go.Eng.Gd), Res.row (4 : TypeId) Sh.bool (List.foldl (mkW w) (passW l w (itW l w (b0W l w) x) x_1) (List.take x' (sucL l (↑x_1 : Int).toNat)))), (([] : Go.Eng.Gd), Res.row (3 : TypeId) I6 (sucL l (↑x_1 : Int).toNat))] ∧ (sucL l (↑x_1 : Int).toNat).length - x' < (sucL l (↑x_1 : Int).toNat).length - x_2) (InR IntKind.i64 ((↑x_2 : Int) + (1 : Int)) ∧ ∃ x', (x' ≤ (sucL l (↑x_1 : Int).toNat).length ∧ (passW l w (itW l w (b0W l w) x) x_1).length = l.length + (1 : Nat) ∧ ((passW l w (itW l w (b0W l w) x) x_1).getD (↑x_1 : Int).toNat false = false → x' = (0 : Nat))) ∧ (SV.c (v6 (((↑x_2 : Int) + (1 : Int)))) = SV.c (v6 ((↑x' : Int))) ∧ True) ∧ [(([] : Go.Eng.Gd), Res.blk (24 : Nat) [SC.v (Value.string nm), SC.sl shI l]), (([] : Go.Eng.Gd), Res.row (4 : TypeId) Sh.bool (List.foldl (mkW w) (passW l w (itW l w (b0W l w) x) x_1) (List.take x_2 (sucL l (↑x_1 : Int).toNat)))), (([] : Go.Eng.Gd), Res.row (3 : TypeId) I6 (sucL l (↑x_1 : Int).toNat))] = [(([] : Go.Eng.Gd), Res.blk (24 : Nat) [SC.v (Value.string nm), SC.sl shI l]), (([] : Go.Eng.Gd), Res.row (4 : TypeId) Sh.bool (List.foldl (mkW w) (passW l w (itW l w (b0W l w) x) x_1) (List.take x' (sucL l (↑x_1 : Int).toNat)))), (([] : Go.Eng.Gd), Res.row (3 : TypeId) I6 (sucL l (↑x_1 : Int).toNat))] ∧ (sucL l (↑x_1 : Int).toNat).length - x' < (sucL l (↑x_1 : Int).toNat).length - x_2)) (InR IntKind.i64 ((↑x_1 : Int) + (1 : Int)) ∧ ∃ x', (x' ≤ l.length ∧ (itW l w (b0W l w) x).length = l.length + (1 : Nat)) ∧ (SV.c (v6 (((↑x_1 : Int) + (1 : Int)))) = SV.c (v6 ((↑x' : Int))) ∧ True) ∧ [(([] : Go.Eng.Gd), Res.blk (24 : Nat) [SC.v (Value.string nm), SC.sl shI l]), (([] : Go.Eng.Gd), Res.row (4 : TypeId) Sh.bool (List.foldl (mkW w) (passW l w (itW l w (b0W l w) x) x_1) (List.take x_2 (sucL l (↑x_1 : Int).toNat))))] = [(([] : Go.Eng.Gd), Res.blk (24 : Nat) [SC.v (Value.string nm), SC.sl shI l]), (([] : Go.Eng.Gd), Res.row (4 : TypeId) Sh.bool (passW l w (itW l w (b0W l w) x) x'))] ∧ l.length - x' < l.length - x_1)) (InR IntKind.i64 ((↑x : Int) + (1 : Int)) ∧ ∃ x', x' ≤ l.length ∧ (SV.c (v6 (((↑x : Int) + (1 : Int)))) = SV.c (v6 ((↑x' : Int))) ∧ True) ∧ [(([] : Go.Eng.Gd), Res.blk (24 : Nat) [SC.v (Value.string nm), SC.sl shI l]), (([] : Go.Eng.Gd), Res.row (4 : TypeId) Sh.bool (passW l w (itW l w (b0W l w) x) x_1))] = [(([] : Go.Eng.Gd), Res.blk (24 : Nat) [SC.v (Value.string nm), SC.sl shI l]), (([] : Go.Eng.Gd), Res.row (4 : TypeId) Sh.bool (itW l w (b0W l w) x'))] ∧ l.length - x' < l.length - x)) (((0 : Int) ≤ (↑l.length : Int) ∧ (↑l.length : Int) ≤ (↑(itW l w (b0W l w) x).length : Int)) ∧ ([] : List Go.Eng.Res) = [] ∧ Ent.one (SV.c (SC.sl Sh.bool (wthM l w))) = Ent.one (SV.c (SC.sl Sh.bool (List.take (↑l.length : Int).toNat (itW l w (b0W l w) x))))) := by
  have hc : cfgE l = 0 := hpre
  have hb := (cfg_ok hc).1
  have et : ((l.length : Int) + 1).toNat = l.length + 1 := by omega
  have iL := fun p => (itW_len l w (b0W l w) p).trans (b0W_len l w)
  rw [et]
  refine ⟨InR_i64.2 (by omega), ⟨by omega, by omega, by unfold InA; omega⟩, by rw [List.length_replicate]; omega, by rw [List.length_replicate]; omega, ⟨0, Nat.zero_le _, ⟨rfl, trivial⟩, rfl⟩, fun x hx => br_iff.2 ⟨fun g => ?_, fun g => ?_⟩⟩
  · simp only [decide_eq_true_eq] at g
    refine ⟨⟨0, ⟨Nat.zero_le _, iL x⟩, ⟨rfl, trivial⟩, rfl⟩, fun i hi => br_iff.2 ⟨fun g2 => ?_, fun g2 => ?_⟩⟩
    · simp only [decide_eq_true_eq] at g2
      have hil : i < l.length := by omega
      obtain ⟨bb, hbb⟩ : ∃ bb, bb = passW l w (itW l w (b0W l w) x) i := ⟨_, rfl⟩
      have bl : bb.length = l.length + 1 := by rw [hbb, passW_len]; exact iL x
      have st := passW_succ l w (itW l w (b0W l w) x) i
      rw [← hbb] at st ⊢
      simp only [Int.toNat_natCast]
      have sl := sucL_len l i
      refine ⟨⟨(show (0 : Int) ≤ i by omega), (show (i : Int) < l.length by omega), hb⟩, ⟨0, ⟨Nat.zero_le _, bl, fun _ => rfl⟩, ⟨rfl, trivial⟩, rfl⟩, fun j hj => ?_⟩
      obtain ⟨j1, j2, j3⟩ := hj
      obtain ⟨cb, hcb⟩ : ∃ cb, cb = ((sucL l i).take j).foldl (mkW w) bb := ⟨_, rfl⟩
      have cl : cb.length = l.length + 1 := by rw [hcb, fold_len (mkW_len w)]; exact bl
      rw [← hcb]
      refine ⟨fun _ => by omega, fun _ => by omega, fun d hd => br_iff.2 ⟨fun q => ?_, fun q => ?_⟩⟩
      · simp only [Bool.and_eq_true, decide_eq_true_eq] at q
        obtain ⟨q1, q2⟩ := q
        subst q2
        have hdd := hd (decide_eq_true q1)
        have keep : bb.getD i false = true := by
          cases hq : bb.getD i false with
          | true => rfl
          | false =>
            have := j3 hq
            subst this
            rw [hcb] at hdd
            have hdd : bb[i]? = some true := hdd
            rw [List.getD_eq_getElem?_getD, hdd] at hq
            cases hq
        have jn : ∀ {P : Prop}, bb.getD i false = false → P := fun h => by rw [keep] at h; cases h
        refine ⟨by omega, by omega, fun s hs => br_iff.2 ⟨fun r => ?_, fun r => ?_⟩⟩
        · refine ⟨by omega, by omega, fun s2 hs2 => ?_⟩
          have es : s2 = s := Option.some.inj (hs2.symm.trans hs)
          subst es
          have rg := suc_rng hc hil s2 (List.mem_of_getElem? hs2)
          have r : ¬ s2 = w := by simpa using r
          refine ⟨by omega, by omega, InR_i64.2 (by omega), j + 1, ⟨by omega, bl, fun h => jn h⟩, ⟨rfl, trivial⟩, ?_, by omega⟩
          rw [mkW_fold w _ hs2, ← hcb]
          unfold mkW
          rw [if_neg r]
        · have r : s = w := by simpa using r
          refine ⟨InR_i64.2 (by omega), j + 1, ⟨by omega, bl, fun h => jn h⟩, ⟨rfl, trivial⟩, ?_, by omega⟩
          rw [mkW_fold w _ hs, ← hcb]
          unfold mkW
          rw [if_pos r]
      · refine ⟨InR_i64.2 (by omega), i + 1, ⟨by omega, iL x⟩, ⟨rfl, trivial⟩, ?_, by omega⟩
        have e : rowW l w bb i = cb := by
          unfold rowW
          split
          · rename_i hk
            have hck : cb.getD i false = true := by rw [hcb]; exact fold_keep hk
            have hj : ¬ (j : Int) < (sucL l i).length := by
              intro h
              have hdd := hd (decide_eq_true h)
              have hd2 : cb[i]? = some d := hdd
              rw [List.getD_eq_getElem?_getD, hd2] at hck
              have hck : d = true := hck
              rw [decide_eq_true h, hck] at q
              cases q
            rw [hcb, List.take_of_length_le (by omega)]
          · rename_i hk
            have hk : bb.getD i false = false := by simpa using hk
            have := j3 hk
            subst this
            rw [hcb]; rfl
        rw [st, e]
    · simp only [decide_eq_false_iff_not] at g2
      have ei : i = l.length := by omega
      refine ⟨InR_i64.2 (by omega), x + 1, by omega, ⟨rfl, trivial⟩, by rw [ei]; rfl, by omega⟩
  · simp only [decide_eq_false_iff_not] at g
    have ex : x = l.length := by omega
    refine ⟨by rw [iL x]; omega, rfl, ?_⟩
    rw [ex]; rfl
set_option maxHeartbeats 2000000 in
set_option maxRecDepth 100000 in
theorem f43_met : Go.Eng.Met Tryd.prog cx0.gd 43 ctWt :=
  met_ip (il := il43) (rc := [.data (.sl .bool)]) (cx := cx0) (n := 65) (cl := cl43) (by kernel_rfl) tis_ok ⟨f44_met, trivial⟩ trivial Tryd.func43 (by kernel_rfl) (by kernel_rfl) rfl (by kernel_rfl) (by kernel_rfl) fun d hd => by
    obtain ⟨⟨nm, l, ⟨⟩⟩, w, ⟨⟩⟩ := d
    exact ex_of (ann43 nm l w) (f43_vc nm l w hd) (by kernel_rfl)
@[reducible] def ctRe : CT := { ps := [shF], pre := fun d => True, res := fun d => ([], .tup [.c (.sl (.int .i64) (if cfgE d.1.2.1 = 0 then reaM d.1.2.1 d.1.2.1.length else [])), .c (.v (.int .i64 (cfgE d.1.2.1)))]) }
@[reducible] def cl19 : List (Nat × CT) := [(42, ctCk), (43, ctWt)]
@[reducible] def il19 : List (Nat × IP) := []
@[reducible] def ann19 (nm : ByteArray) (l : List ID) : Nat → Option (St → Ann) := fun k => match k with
  | 7 => some fun _ => .inv { α := Nat, slots := fun k => [(7, .c (.v (.int .i64 k))), (5, .c (.row 1))], res := fun k => [(1, .row 3 (.int .i64) (reaM l k))], inv := fun k => k ≤ (l).length, meas := fun k => (l).length - k, nil := [(5, 3, .int .i64)] }
  | _ => none
set_option maxRecDepth 100000 in
theorem f19_vc (nm : ByteArray) (l : List ID) :
    True ∧ br (!decide (cfgE l = (0 : Int))) (([] : List Go.Eng.Res) = [] ∧ Ent.tup [SV.c (SC.sl I6 (if cfgE l = (0 : Int) then reaM l l.length else [])), SV.c (v6 ((cfgE l)))] = Ent.tup [SV.c (SC.sl I6 []), SV.c (v6 ((cfgE l)))]) (cfgE l = (0 : Int) ∧ (∃ x, x ≤ l.length ∧ (SV.c (v6 ((0 : Int))) = SV.c (v6 ((↑x : Int))) ∧ SV.c (SC.row (Nat.succ (0 : Nat))) = SV.c (SC.row (1 : Nat)) ∧ True) ∧ [(([] : Go.Eng.Gd), Res.blk (24 : Nat) [SC.v (Value.string nm), SC.sl shI l]), (([] : Go.Eng.Gd), Res.row (3 : TypeId) I6 [])] = [(([] : Go.Eng.Gd), Res.blk (24 : Nat) [SC.v (Value.string nm), SC.sl shI l]), (([] : Go.Eng.Gd), Res.row (3 : TypeId) I6 (reaM l x))]) ∧ ∀ (x : Nat), x ≤ l.length → br (decide ((↑x : Int) < (↑(wthM l (-1 : Int)).length : Int))) (((0 : Int) ≤ (↑x : Int) ∧ (↑x : Int) < (↑(wthM l (-1 : Int)).length : Int)) ∧ ∀ (d : Bool), (wthM l (-1 : Int))[(↑x : Int).toNat]? = some d → br d (InA (List.length (reaM l x) + List.length ([(↑x : Int)])) (8 : Nat) ∧ InR IntKind.i64 ((↑x : Int) + (1 : Int)) ∧ ∃ x', x' ≤ l.length ∧ (SV.c (v6 (((↑x : Int) + (1 : Int)))) = SV.c (v6 ((↑x' : Int))) ∧ SV.c (SC.row (1 : Nat)) = SV.c (SC.row (1 : Nat)) ∧ True) ∧ [(([] : Go.Eng.Gd), Res.blk (24 : Nat) [SC.v (Value.string nm), SC.sl shI l]), (([] : Go.Eng.Gd), Res.row (3 : TypeId) I6 (reaM l x ++ [(↑x : Int)]))] = [(([] : Go.Eng.Gd), Res.blk (24 : Nat) [SC.v (Value.string nm), SC.sl shI l]), (([] : Go.Eng.Gd), Res.row (3 : TypeId) I6 (reaM l x'))] ∧ l.length - x' < l.length - x) (InR IntKind.i64 ((↑x : Int) + (1 : Int)) ∧ ∃ x', x' ≤ l.length ∧ (SV.c (v6 (((↑x : Int) + (1 : Int)))) = SV.c (v6 ((↑x' : Int))) ∧ SV.c (SC.row (1 : Nat)) = SV.c (SC.row (1 : Nat)) ∧ True) ∧ [(([] : Go.Eng.Gd), Res.blk (24 : Nat) [SC.v (Value.string nm), SC.sl shI l]), (([] : Go.Eng.Gd), Res.row (3 : TypeId) I6 (reaM l x))] = [(([] : Go.Eng.Gd), Res.blk (24 : Nat) [SC.v (Value.string nm), SC.sl shI l]), (([] : Go.Eng.Gd), Res.row (3 : TypeId) I6 (reaM l x'))] ∧ l.length - x' < l.length - x)) (([] : List Go.Eng.Res) = [] ∧ Ent.tup [SV.c (SC.sl I6 (if cfgE l = (0 : Int) then reaM l l.length else [])), SV.c (v6 ((cfgE l)))] = Ent.tup [SV.c (SC.sl I6 (reaM l x)), SV.c (v6 ((0 : Int)))])) := by
  refine ⟨trivial, br_iff.2 ⟨fun h => ?_, fun h => ?_⟩⟩
  · have h : ¬ cfgE l = 0 := by simpa using h
    rw [if_neg h]; exact ⟨rfl, rfl⟩
  have h : cfgE l = 0 := by simpa using h
  have hb := (cfg_ok h).1
  have hl := wthM_len l (-1)
  refine ⟨h, ⟨0, Nat.zero_le _, ⟨rfl, rfl, trivial⟩, rfl⟩, fun x hx => ?_⟩
  rw [hl]
  refine br_iff.2 ⟨fun g => ?_, fun g => ?_⟩
  · simp only [decide_eq_true_eq] at g
    refine ⟨by omega, fun d hd => ?_⟩
    have st := flt_rng x (fun i => (wthM l (-1)).getD i.toNat false) (k := x)
    have ed : (wthM l (-1)).getD ((x : Int).toNat) false = d := by
      rw [List.getD_eq_getElem?_getD, hd]; rfl
    refine br_iff.2 ⟨fun q => ?_, fun q => ?_⟩
    · have e : reaM l (x + 1) = reaM l x ++ [(x : Int)] := by unfold reaM; rw [st, if_pos (ed.trans q)]
      have h1 : (reaM l x).length ≤ x := flt_len x _
      refine ⟨?_, InR_i64.2 (by omega), x + 1, by omega, ⟨rfl, rfl, trivial⟩, by rw [e], by omega⟩
      unfold InA
      exact Nat.le_trans (Nat.mul_le_mul_right 8 (show _ ≤ 65 from Nat.add_le_add (show _ ≤ 64 by omega) (Nat.le_refl 1))) (by decide)
    · have e : reaM l (x + 1) = reaM l x := by
        unfold reaM
        rw [st, if_neg (by rw [ed, q]; simp), List.append_nil]
      exact ⟨InR_i64.2 (by omega), x + 1, by omega, ⟨rfl, rfl, trivial⟩, by rw [e], by omega⟩
  · simp only [decide_eq_false_iff_not] at g
    have e : x = l.length := by omega
    rw [if_pos h, e, h]; exact ⟨rfl, rfl⟩
set_option maxHeartbeats 2000000 in
set_option maxRecDepth 100000 in
theorem f19_met : Go.Eng.Met Tryd.prog cx0.gd 19 ctRe :=
  met_ip (il := il19) (rc := [.data (.sl (.int .i64)), .keep]) (cx := cx0) (n := 30) (cl := cl19) (by kernel_rfl) tis_ok ⟨f42_met, f43_met, trivial⟩ trivial Tryd.func19 (by kernel_rfl) (by kernel_rfl) rfl (by kernel_rfl) (by kernel_rfl) fun d hd => by
    obtain ⟨⟨nm, l, ⟨⟩⟩, ⟨⟩⟩ := d
    exact ex_of (ann19 nm l) (f19_vc nm l) (by kernel_rfl)
@[reducible] def ctWr : CT := { ps := [shF], pre := fun d => True, res := fun d => ([], .one (.c (.v (.int .i64 (cfgE d.1.2.1))))) }
@[reducible] def cl33 : List (Nat × CT) := [(19, ctRe)]
@[reducible] def ann33 (nm : ByteArray) (l : List ID) : Nat → Option (St → Ann) := fun _ => none
set_option maxRecDepth 100000 in
theorem f33_vc (nm : ByteArray) (l : List ID) :
    True ∧ ([] : List Go.Eng.Res) = [] ∧ Ent.one (SV.c (v6 ((cfgE l)))) = Ent.one (SV.c (v6 ((cfgE l)))) := by
  exact ⟨trivial, rfl, rfl⟩
set_option maxHeartbeats 2000000 in
set_option maxRecDepth 100000 in
theorem f33_met : Go.Eng.Met Tryd.prog cx0.gd 33 ctWr :=
  met_of (cx := cx0) (n := 11) (cl := cl33) (by kernel_rfl) tis_ok ⟨f19_met, trivial⟩ Tryd.func33 (by kernel_rfl) (by kernel_rfl) rfl (by kernel_rfl) (by kernel_rfl) fun d hd => by
    obtain ⟨⟨nm, l, ⟨⟩⟩, ⟨⟩⟩ := d
    exact ex_of (ann33 nm l) (f33_vc nm l) (by kernel_rfl)
@[reducible] def ctrAf : CT := { ps := [shF, .sl (.sl (.int .i64)), .int .i64], pre := fun d => cfgE d.1.2.1 = 0 ∧ 0 ≤ d.2.2.1 ∧ d.2.2.1 < d.1.2.1.length ∧ d.2.1.length = d.1.2.1.length + 1 ∧ (∀ x ∈ d.2.1, ∀ r ∈ x, 0 ≤ r ∧ r < 8) ∧ ∀ x ∈ d.2.1, x.length ≤ 8, res := fun d => ([.row 3 (.int .i64) (aftL (cfL d.1.2.1) d.2.1 d.2.2.1.toNat)], .one (.c (.row 0))) }
@[reducible] def cl37 : List (Nat × CT) := [(22, ctNx), (26, ctrUn)]
@[reducible] def ann37 (nm : ByteArray) (l : List ID) (B : List (List Int)) (k : Int) : Nat → Option (St → Ann) := fun q => match q with
  | 4 => some fun _ => .inv { α := Nat, slots := fun j => [(10, .c (.v (.int .i64 j))), (9, .c (.row 1))], res := fun j => [(1, .row 3 (.int .i64) (aftR l B k.toNat j))], inv := fun j => j ≤ (sucL l k.toNat).length, meas := fun j => (sucL l k.toNat).length - j, can := [(1, .slot 9)], drop := [17] }
  | _ => none
set_option maxRecDepth 100000 in
theorem f37_vc (nm : ByteArray) (l : List ID) (B : List (List Int)) (k : Int) (hpre : ctrAf.pre ((nm, l, ()), B, k, ())) :
    True ∧ (∃ x, x ≤ (sucL l k.toNat).length ∧ (SV.c (v6 ((0 : Int))) = SV.c (v6 ((↑x : Int))) ∧ SV.c (SC.row (Nat.succ (0 : Nat))) = SV.c (SC.row (1 : Nat)) ∧ True) ∧ [(([] : Go.Eng.Gd), Res.blk (24 : Nat) [SC.v (Value.string nm), SC.sl shI l]), (([] : Go.Eng.Gd), Res.row (3 : TypeId) I6 [])] = [(([] : Go.Eng.Gd), Res.blk (24 : Nat) [SC.v (Value.string nm), SC.sl shI l]), (([] : Go.Eng.Gd), Res.row (3 : TypeId) I6 (aftR l B k.toNat x))]) ∧ ∀ (x : Nat), x ≤ (sucL l k.toNat).length → br (decide ((↑x : Int) < (↑(nxtL l k).length : Int))) (((0 : Int) ≤ (↑x : Int) ∧ (↑x : Int) < (↑(nxtL l k).length : Int)) ∧ ∀ (d : Int), (nxtL l k)[(↑x : Int).toNat]? = some d → ((0 : Int) ≤ d ∧ d < (↑B.length : Int)) ∧ ∀ (d_1 : List I6.den), B[d.toNat]? = some d_1 → ((aftR l B k.toNat x).length ≤ (500000 : Nat) ∧ d_1.length ≤ (500000 : Nat)) ∧ InR IntKind.i64 ((↑x : Int) + (1 : Int)) ∧ ∃ x', x' ≤ (sucL l k.toNat).length ∧ (SV.c (v6 (((↑x : Int) + (1 : Int)))) = SV.c (v6 ((↑x' : Int))) ∧ SV.c (SC.row (1 : Nat)) = SV.c (SC.row (1 : Nat)) ∧ True) ∧ [(([] : Go.Eng.Gd), Res.blk (24 : Nat) [SC.v (Value.string nm), SC.sl shI l]), (([] : Go.Eng.Gd), Res.row (3 : TypeId) I6 (makeI (aftR l B k.toNat x ++ d_1)))] = [(([] : Go.Eng.Gd), Res.blk (24 : Nat) [SC.v (Value.string nm), SC.sl shI l]), (([] : Go.Eng.Gd), Res.row (3 : TypeId) I6 (aftR l B k.toNat x'))] ∧ (sucL l k.toNat).length - x' < (sucL l k.toNat).length - x) ([Res.row (3 : TypeId) I6 (aftL (cfL l) B k.toNat)] = [Res.row (3 : TypeId) I6 (aftR l B k.toNat x)] ∧ Ent.one (SV.c (SC.row (0 : Nat))) = Ent.one (SV.c (SC.row (0 : Nat)))) := by
  obtain ⟨hc, h0, h1, hl, hB, hB8⟩ : cfgE l = 0 ∧ 0 ≤ k ∧ k < l.length ∧ B.length = l.length + 1 ∧ (∀ x ∈ B, ∀ r ∈ x, 0 ≤ r ∧ r < 8) ∧ ∀ x ∈ B, x.length ≤ 8 := hpre
  have el : nxtL l k = sucL l k.toNat := nxtL_ok hc h0 h1
  have sl := sucL_len l k.toNat
  have z0 := aftR_zero l B k.toNat
  refine ⟨trivial, ⟨0, Nat.zero_le _, ⟨rfl, rfl, trivial⟩, by rw [z0]⟩, fun x hx => ?_⟩
  rw [el]
  refine br_iff.2 ⟨fun g => ?_, fun g => ?_⟩
  · simp only [decide_eq_true_eq] at g
    refine ⟨by omega, fun s hs => ?_⟩
    have rg := suc_rng hc (k := k.toNat) (by omega) s (List.mem_of_getElem? hs)
    refine ⟨by omega, fun d hd => ?_⟩
    have hd : B[s.toNat]? = some d := hd
    have st := aftR_succ (B := B) (show (sucL l k.toNat)[x]? = some s from hs)
    have er : rowL B s = d := by unfold rowL; rw [List.getD_eq_getElem?_getD, hd]; rfl
    have l1 := aftR_len (l := l) hB k.toNat x
    have l2 : makeI (aftR l B k.toNat x ++ d) = aftR l B k.toNat (x + 1) := by rw [st, er]
    have l3 := aftR_len (l := l) hB k.toNat (x + 1)
    have nd : d.length ≤ 500000 := by have := hB8 d (List.mem_of_getElem? hd); omega
    exact ⟨⟨by omega, nd⟩, InR_i64.2 (by omega), x + 1, by omega, ⟨rfl, rfl, trivial⟩, by rw [l2], by omega⟩
  · simp only [decide_eq_false_iff_not] at g
    rw [aftR_all (by omega)]; exact ⟨rfl, rfl⟩
set_option maxHeartbeats 2000000 in
set_option maxRecDepth 100000 in
theorem f37_met : Go.Eng.Met Tryd.prog cx0.gd 37 ctrAf :=
  met_of (cx := cx0) (n := 34) (cl := cl37) (by kernel_rfl) tis_ok ⟨f22_met, f26_met, trivial⟩ Tryd.func37 (by kernel_rfl) (by kernel_rfl) rfl (by kernel_rfl) (by kernel_rfl) fun d hd => by
    obtain ⟨⟨nm, l, ⟨⟩⟩, B, k, ⟨⟩⟩ := d
    exact ex_of (ann37 nm l B k) (f37_vc nm l B k hd) (by kernel_rfl)
end Go.Proofs.YtpfdgbddpdngbaaDoor
set_option linter.unusedSimpArgs false
set_option linter.unusedVariables false
set_option maxRecDepth 100000
namespace Go.Proofs.YtpfdgbddpdngbaaDoor
open Go Go.Eng
def exC : List ID := [(1, 0, 0, 0, 0, 1, 0, 0, ()), (2, 1, 0, 0, 0, 0, 0, 0, ()), (1, 0, 0, 0, 0, 2, 0, 0, ())]
def exD : List ID := [(1, 0, 0, 0, 0, 1, 0, 0, ()), (1, 0, 0, 0, 0, 2, 0, 0, ())]
theorem exC_ok : cfgE exC = 0 := by decide
theorem exD_ok : cfgE exD = 0 := by decide
theorem exC_bef : befL exC = [[], [0], []] := by
  have h : InA' exC [[], [0], []] := by
    refine ⟨⟨by decide, ?_, ?_, ?_, ?_⟩, rfl⟩
    · intro x hx
      simp only [List.mem_cons, List.not_mem_nil, or_false] at hx
      rcases hx with rfl | rfl | rfl
      · exact List.Pairwise.nil
      · exact List.pairwise_singleton _ _
      · exact List.Pairwise.nil
    · intro k r hr
      match k with
      | 0 => cases hr
      | 1 =>
        have : r = 0 := by simpa using hr
        subst this
        exact .use (by decide) (by decide)
      | 2 => cases hr
      | k + 3 => cases hr
    · intro r hr
      have := (LV.top.1 hr).1; cases this
    · intro k hk r hr
      match k with
      | 0 => cases hr
      | 1 =>
        have : r = 0 := by simpa using hr
        subst this
        rw [tr_mem]; exact .inl (by decide)
      | 2 => cases hr
      | k + 3 => cases hr
  refine (h.fin exC_ok fun k hk => ?_).symm
  match k with
  | 0 => rfl
  | 1 => rfl
  | 2 => rfl
  | k + 3 => exact absurd hk (by show ¬ k + 3 < 3; omega)
theorem exC_dead : deadM exC 3 = [] := by
  have d0 : deadB exC (0 : Nat) = false := by
    rw [dead_some (k := 0) (r := 0) rfl rfl]
    have : ndB exC 0 (sucL exC 0) = true := ndB_iff.2 ⟨1, by decide, .use (by decide) (by decide)⟩
    rw [this]; rfl
  have d1 : deadB exC (1 : Nat) = false := by
    rw [dead_some (k := 1) (r := 1) rfl rfl]
    have : ndB exC 1 (sucL exC 1) = true := ndB_iff.2 ⟨2, by decide, .step (s := 3) (by decide) (by decide) (.exit rfl (by decide) (by decide)) (by decide)⟩
    rw [this]; rfl
  have d2 : deadB exC (2 : Nat) = false := by
    rw [dead_some (k := 2) (r := 0) rfl rfl]
    have : ndB exC 0 (sucL exC 2) = true := ndB_iff.2 ⟨3, by decide, .exit rfl (by decide) (by decide)⟩
    rw [this]; rfl
  have e : rngI 3 = [((0 : Nat) : Int), ((1 : Nat) : Int), ((2 : Nat) : Int)] := rfl
  unfold deadM
  rw [e]
  simp only [List.filter_cons, d0, d1, d2, List.filter_nil]
  rfl
theorem exD_dead : deadM exD 2 = [0] := by
  have d0 : deadB exD (0 : Nat) = true := by
    rw [dead_some (k := 0) (r := 0) rfl rfl]
    have : ndB exD 0 (sucL exD 0) = false := by
      rw [ndB_false]
      rintro ⟨k, hk, hl⟩
      have : k = 1 := by
        have e : sucL exD 0 = [1] := rfl
        rw [e] at hk; simpa using hk
      subst this
      rcases (LV.at (show (1 : Int).toNat < (cfL exD).n by decide)).1 hl with q | q
      · exact absurd q (by decide)
      · exact q.2 rfl
    rw [this]; rfl
  have d1 : deadB exD (1 : Nat) = false := by
    rw [dead_some (k := 1) (r := 0) rfl rfl]
    have : ndB exD 0 (sucL exD 1) = true := ndB_iff.2 ⟨2, by decide, .exit rfl (by decide) (by decide)⟩
    rw [this]; rfl
  have e : rngI 2 = [((0 : Nat) : Int), ((1 : Nat) : Int)] := rfl
  unfold deadM
  rw [e]
  simp only [List.filter_cons, d0, d1, List.filter_nil]
  rfl
theorem met_sub {P : Program} {gd : Nat → Option (Sigma Sh.den)} {f : FuncId} {ps : List Sh} {pre pre' : dens ps → Prop} {res res' : dens ps → List Res × Ent} (h : Go.Eng.Met P gd f { ps := ps, pre := pre, res := res })
    (k : ∀ d, pre' d → pre d ∧ res d = res' d) : Go.Eng.Met P gd f { ps := ps, pre := pre', res := res' } := by
  refine ⟨fun d vs h' B hw hg ha hp => ?_, h.2⟩
  obtain ⟨k1, k2⟩ := k d hp
  have := h.1 d vs h' B hw hg ha k1
  simp only [k2] at this
  exact this
@[reducible] def ctBfA : CT := { ps := [shF], pre := fun d => d.1.2.1 = exC, res := fun _ => ([], .tup [.c (.sl (.sl (.int .i64)) [[], [0], []]), .c (.v (.int .i64 0))]) }
@[reducible] def ctPrA : CT := { ps := [shF], pre := fun d => d.1.2.1 = exC, res := fun _ => ([], .tup [.c (.v (.int .i64 1)), .c (.v (.int .i64 0))]) }
@[reducible] def ctAfA : CT := { ps := [shF, .int .i64], pre := fun d => d.1.2.1 = exC ∧ d.2.1 = 3, res := fun _ => ([], .tup [.c (.sl (.int .i64) []), .c (.v (.int .i64 2))]) }
@[reducible] def ctDeA : CT := { ps := [shF], pre := fun d => d.1.2.1 = exC ∨ d.1.2.1 = exD, res := fun d => ([], .tup [.c (.sl (.int .i64) (match d.1.2.1.length with | 3 => [] | _ => [0])), .c (.v (.int .i64 0))]) }
theorem f9a_met : Go.Eng.Met Tryd.prog cx0.gd 9 ctBfA := met_sub f9_met fun d h => by
  have h : d.1.2.1 = exC := h
  refine ⟨trivial, ?_⟩
  rw [h, if_pos exC_ok, exC_ok, exC_bef]
theorem f11a_met : Go.Eng.Met Tryd.prog cx0.gd 11 ctPrA := met_sub f11_met fun d h => by
  have h : d.1.2.1 = exC := h
  refine ⟨trivial, ?_⟩
  rw [h, if_pos exC_ok, exC_ok, exC_bef]; rfl
theorem f14a_met : Go.Eng.Met Tryd.prog cx0.gd 14 ctAfA := met_sub f14_met fun d h => by
  have h : d.1.2.1 = exC ∧ d.2.1 = 3 := h
  refine ⟨trivial, ?_⟩
  have e : nxtE exC 3 = 2 := by decide
  rw [h.1, h.2, e, if_neg (by decide)]
theorem f16a_met : Go.Eng.Met Tryd.prog cx0.gd 16 ctDeA := met_sub f16_met fun d h => by
  refine ⟨trivial, ?_⟩
  rcases h with h | h
  · have h : d.1.2.1 = exC := h
    rw [h, if_pos exC_ok, exC_ok, show exC.length = 3 from rfl, exC_dead]; rfl
  · have h : d.1.2.1 = exD := h
    rw [h, if_pos exD_ok, exD_ok, show exD.length = 2 from rfl, exD_dead]; rfl
end Go.Proofs.YtpfdgbddpdngbaaDoor
set_option linter.unusedSimpArgs false
set_option linter.unusedVariables false
set_option maxRecDepth 100000
namespace Go.Proofs.YtpfdgbddpdngbaaDoor
open Go Go.Eng

@[reducible] def ctAw : CT := { ps := [], pre := fun d => True, res := fun d => ([], vB (true)) }
@[reducible] noncomputable def cl8 : List (Nat × CT) := [(9, ctBfA), (16, ctDeA), (11, ctPrA), (14, ctAfA), (18, ct13), (13, ctLists)]
@[reducible] def il8 : List (Nat × IP) := []
@[reducible] noncomputable def ann8  : Nat → Option (St → Ann) := fun _ => none
set_option maxRecDepth 100000 in
theorem f8_vc  :
    [((1 : Int), (0 : Int), (0 : Int), (0 : Int), (0 : Int), (1 : Int), (0 : Int), (0 : Int), ()), ((2 : Int), (1 : Int), (0 : Int), (0 : Int), (0 : Int), (0 : Int), (0 : Int), (0 : Int), ()), ((1 : Int), (0 : Int), (0 : Int), (0 : Int), (0 : Int), (2 : Int), (0 : Int), (0 : Int), ())] = exC ∧ ([((1 : Int), (0 : Int), (0 : Int), (0 : Int), (0 : Int), (1 : Int), (0 : Int), (0 : Int), ()), ((2 : Int), (1 : Int), (0 : Int), (0 : Int), (0 : Int), (0 : Int), (0 : Int), (0 : Int), ()), ((1 : Int), (0 : Int), (0 : Int), (0 : Int), (0 : Int), (2 : Int), (0 : Int), (0 : Int), ())] = exC ∨ [((1 : Int), (0 : Int), (0 : Int), (0 : Int), (0 : Int), (1 : Int), (0 : Int), (0 : Int), ()), ((2 : Int), (1 : Int), (0 : Int), (0 : Int), (0 : Int), (0 : Int), (0 : Int), (0 : Int), ()), ((1 : Int), (0 : Int), (0 : Int), (0 : Int), (0 : Int), (2 : Int), (0 : Int), (0 : Int), ())] = exD) ∧ ((0 : Int) ≤ (0 : Int) ∧ (0 : Int) < (3 : Int)) ∧ ∀ (d : I6.den × (I6.pair (I6.pair (I6.pair (I6.pair (I6.pair (I6.pair (I6.pair Sh.unit))))))).den), [((1 : Int), (0 : Int), (0 : Int), (0 : Int), (0 : Int), (1 : Int), (0 : Int), (0 : Int), ()), ((2 : Int), (1 : Int), (0 : Int), (0 : Int), (0 : Int), (0 : Int), (0 : Int), (0 : Int), ()), ((1 : Int), (0 : Int), (0 : Int), (0 : Int), (0 : Int), (2 : Int), (0 : Int), (0 : Int), ())][(0 : Nat)]? = some d → ((0 : Int) ≤ (2 : Int) ∧ (2 : Int) < (3 : Int)) ∧ ∀ (d_1 : I6.den × (I6.pair (I6.pair (I6.pair (I6.pair (I6.pair (I6.pair (I6.pair Sh.unit))))))).den), [((1 : Int), (0 : Int), (0 : Int), (0 : Int), (0 : Int), (1 : Int), (0 : Int), (0 : Int), ()), ((2 : Int), (1 : Int), (0 : Int), (0 : Int), (0 : Int), (0 : Int), (0 : Int), (0 : Int), ()), ((1 : Int), (0 : Int), (0 : Int), (0 : Int), (0 : Int), (2 : Int), (0 : Int), (0 : Int), ())][(2 : Nat)]? = some d_1 → ([d, d_1] = exC ∨ [d, d_1] = exD) ∧ [((1 : Int), (0 : Int), (0 : Int), (0 : Int), (0 : Int), (1 : Int), (0 : Int), (0 : Int), ()), ((2 : Int), (1 : Int), (0 : Int), (0 : Int), (0 : Int), (0 : Int), (0 : Int), (0 : Int), ()), ((1 : Int), (0 : Int), (0 : Int), (0 : Int), (0 : Int), (2 : Int), (0 : Int), (0 : Int), ())] = exC ∧ ([((1 : Int), (0 : Int), (0 : Int), (0 : Int), (0 : Int), (1 : Int), (0 : Int), (0 : Int), ()), ((2 : Int), (1 : Int), (0 : Int), (0 : Int), (0 : Int), (0 : Int), (0 : Int), (0 : Int), ()), ((1 : Int), (0 : Int), (0 : Int), (0 : Int), (0 : Int), (2 : Int), (0 : Int), (0 : Int), ())] = exC ∧ (3 : Int) = (3 : I6.den)) ∧ (1 : Nat) ≤ (4611686018427387904 : Nat) ∧ ((3 : Nat) ≤ (1000000 : Nat) ∧ ∀ (x : List I6.den), x ∈ [[], [(0 : I6.den)], []] → x.length ≤ (1000000 : Nat)) ∧ ([] : List Go.Eng.Res) = [] ∧ Ent.one (SV.c (SC.v (Value.bool true))) = Ent.one (SV.c (SC.v (Value.bool true))) := by
  refine ⟨rfl, .inl rfl, by omega, fun d hd => ⟨by omega, fun d1 hd1 => ⟨.inr ?_, rfl, ⟨rfl, rfl⟩, by omega, ⟨by omega, fun x hx => ?_⟩, rfl, rfl⟩⟩⟩
  · cases hd; cases hd1; rfl
  · simp only [List.mem_cons, List.not_mem_nil, or_false] at hx
    rcases hx with rfl | rfl | rfl <;> simp
set_option maxHeartbeats 2000000 in
set_option maxRecDepth 100000 in
theorem f8_met : Go.Eng.Met Tryd.prog cx0.gd 8 ctAw :=
  met_lit (lits := [54,58,62,66,70,74,79,84]) (il := il8) (rc := []) (cx := cx0) (n := 92) (cl := cl8) (by kernel_rfl) tis_ok ⟨f9a_met, f16a_met, f11a_met, f14a_met, f18_met, f13_met, trivial⟩ trivial Tryd.func8 (by kernel_rfl) (by kernel_rfl) rfl (by kernel_rfl) (by kernel_rfl) fun d hd => by
    obtain ⟨⟩ := d
    exact ex_of (ann8 ) (f8_vc ) (by kernel_rfl)
end Go.Proofs.YtpfdgbddpdngbaaDoor
set_option linter.unusedSimpArgs false
set_option linter.unusedVariables false
namespace Go.Proofs.YtpfdgbddpdngbaaDoor
open Go Go.Eng
open Classical in
noncomputable def fndB (l : List ID) (fr : List Int) (r : Int) (ex : Bool) : Bool := decide (∃ k ∈ fr, LV (cfL l) ex k.toNat r)
theorem fndB_iff {l : List ID} {r : Int} {fr : List Int} {ex : Bool} : fndB l fr r ex = true ↔ ∃ k ∈ fr, LV (cfL l) ex k.toNat r := by
  unfold fndB; simp only [decide_eq_true_eq]
theorem fndB_false {l : List ID} {r : Int} {fr : List Int} {ex : Bool} : fndB l fr r ex = false ↔ ¬ ∃ k ∈ fr, LV (cfL l) ex k.toNat r := by
  rw [← fndB_iff]; simp
def cntT (b : List Bool) : Nat := b.countP fun x => x
theorem cntT_le (b : List Bool) : cntT b ≤ b.length := List.countP_le_length
theorem cntT_set : ∀ {b : List Bool} {k : Nat}, b[k]? = some false → cntT (b.set k true) = cntT b + 1
  | x :: b, 0, h => by simp at h; subst h; simp [cntT]
  | x :: b, k + 1, h => by
    have ih := cntT_set (b := b) (k := k) (by simpa using h)
    unfold cntT at ih ⊢
    simp only [List.set_cons_succ, List.countP_cons, ih]; omega
/-- The search's relation: b marks what was seen, T is still to do. -/
structure Fnd (l : List ID) (r : Int) (ex : Bool) (fr : List Int) (b : List Bool) (T : List Int) : Prop where
  len : b.length = l.length + 1
  dfs : Dfs (cfL l) ex r fr (fun k => 0 ≤ k ∧ b[k.toNat]? = some true) T
  bd : 3 * (l.length + 1 - cntT b) + T.length ≤ 3 * (l.length + 1) + fr.length
variable {l : List ID} {r : Int} {ex : Bool} {fr T : List Int} {b : List Bool}
theorem Fnd.start (hc : cfgE l = 0) (h : ∀ k ∈ fr, 0 ≤ k ∧ k ≤ l.length) : Fnd l r ex fr (List.replicate (l.length + 1) false) fr := by
  refine ⟨by simp, (Dfs.start (cfL_ok hc) h).congr (fun k => ⟨fun q => ?_, fun q => q.elim⟩) fun _ => Iff.rfl, by omega⟩
  rw [List.getElem?_replicate] at q
  obtain ⟨_, q⟩ := q
  split at q <;> simp at q
theorem pop_first {T : List Int} {k : Int} (h : T[0]? = some k) : (∀ x, x ∈ T ↔ x = k ∨ x ∈ T.drop 1) ∧ (T.drop 1).length + 1 = T.length := by
  cases T with
  | nil => simp at h
  | cons a T => simp at h; subst h; simp
theorem Fnd.mem (f : Fnd l r ex fr b T) {k : Int} (h : T[0]? = some k) : k ∈ T ∧ 0 ≤ k ∧ k ≤ l.length :=
  have hk : k ∈ T := List.mem_of_getElem? h
  ⟨hk, f.dfs.trg k hk⟩
theorem Fnd.pop (f : Fnd l r ex fr b T) {k : Int} (h : T[0]? = some k) (hs : (k = l.length ∧ ex = false) ∨ b[k.toNat]? = some true) : Fnd l r ex fr b (T.drop 1) ∧ (T.drop 1).length + 1 = T.length := by
  obtain ⟨p1, p2⟩ := pop_first h
  obtain ⟨_, h0, _⟩ := f.mem h
  exact ⟨⟨f.len, f.dfs.skip p1 (hs.elim .inr fun q => .inl ⟨h0, q⟩), by have := f.bd; omega⟩, p2⟩
theorem Fnd.go (hc : cfgE l = 0) (f : Fnd l r ex fr b T) {k : Int} (h : T[0]? = some k) (hk : k < l.length) (hn : b[k.toNat]? = some false) (u : r ∉ (cfL l).use k.toNat) {U : List Int}
    (hU : ((cfL l).dfn k.toNat = some r ∧ U = T.drop 1) ∨ ((cfL l).dfn k.toNat ≠ some r ∧ U = T.drop 1 ++ sucL l k.toNat)) :
    Fnd l r ex fr (b.set k.toNat true) U ∧ 3 * (l.length + 1 - cntT (b.set k.toNat true)) + U.length < 3 * (l.length + 1 - cntT b) + T.length := by
  obtain ⟨p1, p2⟩ := pop_first h
  obtain ⟨_, h0, _⟩ := f.mem h
  have c1 := cntT_set hn
  have c2 := cntT_le (b.set k.toNat true)
  rw [List.length_set, f.len] at c2
  have hm : 3 * (l.length + 1 - cntT (b.set k.toNat true)) + U.length < 3 * (l.length + 1 - cntT b) + T.length := by
    rw [c1] at c2 ⊢
    rcases hU with ⟨_, rfl⟩ | ⟨_, rfl⟩
    · omega
    · have := sucL_len l k.toNat
      rw [List.length_append]; omega
  refine ⟨⟨by rw [List.length_set]; exact f.len, (f.dfs.go (cfL_ok hc) p1 hk u (U := U) ?_).congr (fun x => ?_) (fun x => Iff.rfl), by have := f.bd; omega⟩, hm⟩
  · rcases hU with ⟨a, rfl⟩ | ⟨a, rfl⟩
    · exact .inl ⟨a, fun x => Iff.rfl⟩
    · exact .inr ⟨a, fun x => by rw [List.mem_append]; rfl⟩
  · have hkb : k.toNat < b.length := by rw [f.len]; omega
    constructor
    · rintro ⟨q1, q2⟩
      by_cases e : x = k
      · exact .inr e
      · rw [List.getElem?_set_ne (by omega)] at q2
        exact .inl ⟨q1, q2⟩
    · rintro (⟨q1, q2⟩ | rfl)
      · refine ⟨q1, ?_⟩
        by_cases e : x = k
        · subst e; rw [hn] at q2; simp at q2
        · rw [List.getElem?_set_ne (by omega)]; exact q2
      · exact ⟨h0, by rw [List.getElem?_set_self hkb]⟩
theorem Fnd.none (hc : cfgE l = 0) (f : Fnd l r ex fr b T) (h : ¬ 0 < T.length) : fndB l fr r ex = false := by
  have e : T = [] := List.eq_nil_of_length_eq_zero (by omega)
  subst e
  exact fndB_false.2 (f.dfs.none (cfL_ok hc))
theorem Fnd.hitX (f : Fnd l r true fr b T) (hr : 0 ≤ r ∧ r < 8) {k : Int} (h : T[0]? = some k) (e : k = l.length) : fndB l fr r true = true :=
  fndB_iff.2 (f.dfs.hitX hr (f.mem h).1 e)
theorem Fnd.hit (f : Fnd l r ex fr b T) {k : Int} (h : T[0]? = some k) (hk : k < l.length) (u : r ∈ (cfL l).use k.toNat) : fndB l fr r ex = true :=
  fndB_iff.2 (f.dfs.hit (f.mem h).1 hk u)
theorem Fnd.room (f : Fnd l r ex fr b T) : T.length ≤ 3 * (l.length + 1) + fr.length := by have := f.bd; omega
end Go.Proofs.YtpfdgbddpdngbaaDoor
set_option linter.unusedSimpArgs false
set_option linter.unusedVariables false
set_option maxRecDepth 100000
namespace Go.Proofs.YtpfdgbddpdngbaaDoor
open Go Go.Eng

@[reducible] noncomputable def ctFi : CT := { ps := [shF, .sl (.int .i64), .int .i64, .bool], pre := fun d => cfgE d.1.2.1 = 0 ∧ (∀ k ∈ d.2.1, 0 ≤ k ∧ k ≤ d.1.2.1.length) ∧ d.2.1.length ≤ 2 ∧ 0 ≤ d.2.2.1 ∧ d.2.2.1 < 8, res := fun d => ([], vB (fndB d.1.2.1 d.2.1 d.2.2.1 d.2.2.2.1)) }
@[reducible] noncomputable def cl21 : List (Nat × CT) := [(27, ct15), (20, ct46), (23, ct9), (22, ctNx)]
@[reducible] noncomputable def ann21 (nm : ByteArray) (l : List ID) (fr : List Int) (r : Int) (ex : Bool) : Nat → Option (St → Ann) := fun q => match q with
  | 3 => some fun _ => .inv { α := List Bool × List Int × Nat, slots := fun x => [(10, .c (.row 2))], res := fun x => [(1, .row 4 .bool x.1), (2, .tlr 3 .i64 x.2.1 x.2.2)], inv := fun x => Fnd l r ex fr x.1 x.2.1, meas := fun x => 3 * (l.length + 1 - cntT x.1) + x.2.1.length, frzI := [2002], drop := [23] }
  | _ => none
set_option maxRecDepth 100000 in
theorem f21_vc (nm : ByteArray) (l : List ID) (fr : List Int) (r : Int) (ex : Bool) (hpre : ctFi.pre ((nm, l, ()), fr, r, ex, ())) :
    InR IntKind.i64 ((↑l.length : Int) + (1 : Int)) ∧ ((0 : Int) ≤ (↑l.length : Int) + (1 : Int) ∧ (↑l.length : Int) + (1 : Int) ≤ (↑l.length : Int) + (1 : Int) ∧ InA ((↑l.length : Int) + (1 : Int)).toNat (1 : Nat)) ∧ InA ((0 : Nat) + List.length (fr)) (8 : Nat) ∧ (∃ x : List Bool × List Int × Nat, Fnd l r ex fr x.fst x.snd.fst ∧ (SV.c (SC.row (Nat.succ (0 : Nat)).succ) = SV.c (SC.row (2 : Nat)) ∧ True) ∧ [(([] : Go.Eng.Gd), Res.blk (24 : Nat) [SC.v (Value.string nm), SC.sl shI l]), (([] : Go.Eng.Gd), Res.row (4 : TypeId) Sh.bool (List.replicate ((↑l.length : Int) + (1 : Int)).toNat false)), (([] : Go.Eng.Gd), Res.tlr (3 : TypeId) IntKind.i64 ([] ++ fr) (0 : Nat))] = [(([] : Go.Eng.Gd), Res.blk (24 : Nat) [SC.v (Value.string nm), SC.sl shI l]), (([] : Go.Eng.Gd), Res.row (4 : TypeId) Sh.bool x.fst), (([] : Go.Eng.Gd), Res.tlr (3 : TypeId) IntKind.i64 x.snd.fst x.snd.snd)]) ∧ ∀ (x : List Bool × List Int × Nat), Fnd l r ex fr x.fst x.snd.fst → br (decide ((0 : Int) < (↑x.snd.fst.length : Int))) (((0 : Int) ≤ (0 : Int) ∧ (0 : Int) < (↑x.snd.fst.length : Int)) ∧ (x.snd.snd ≤ x.snd.snd + (0 : Nat) ∧ x.snd.snd + (0 : Nat) - x.snd.snd < x.snd.fst.length) ∧ ∀ (n : Int), x.snd.fst[x.snd.snd + (0 : Nat) - x.snd.snd]? = some n → ((0 : Int) ≤ (1 : Int) ∧ (1 : Int) ≤ (↑x.snd.fst.length : Int)) ∧ br (decide (n = (↑l.length : Int)) && ex) (([] : List Go.Eng.Res) = [] ∧ Ent.one (SV.c (SC.v (Value.bool (fndB l fr r ex)))) = Ent.one (SV.c (SC.v (Value.bool true)))) (((!decide (n = (↑l.length : Int))) = true → (0 : Int) ≤ n ∧ n < (↑x.fst.length : Int)) ∧ ((!decide (n = (↑l.length : Int))) = true → n.toNat < x.fst.length) ∧ ∀ (d : Bool), ((!decide (n = (↑l.length : Int))) = true → x.fst[n.toNat]? = some d) → br (decide (n = (↑l.length : Int)) || d) (∃ x' : List Bool × List Int × Nat, Fnd l r ex fr x'.fst x'.snd.fst ∧ (SV.c (SC.row (2 : Nat)) = SV.c (SC.row (2 : Nat)) ∧ True) ∧ [(([] : Go.Eng.Gd), Res.blk (24 : Nat) [SC.v (Value.string nm), SC.sl shI l]), (([] : Go.Eng.Gd), Res.row (4 : TypeId) Sh.bool x.fst), (([] : Go.Eng.Gd), Res.tlr (3 : TypeId) IntKind.i64 (List.drop (1 : Nat) x.snd.fst) (x.snd.snd + (1 : Nat)))] = [(([] : Go.Eng.Gd), Res.blk (24 : Nat) [SC.v (Value.string nm), SC.sl shI l]), (([] : Go.Eng.Gd), Res.row (4 : TypeId) Sh.bool x'.fst), (([] : Go.Eng.Gd), Res.tlr (3 : TypeId) IntKind.i64 x'.snd.fst x'.snd.snd)] ∧ (3 : Nat) * (l.length + (1 : Nat) - cntT x'.fst) + x'.snd.fst.length < (3 : Nat) * (l.length + (1 : Nat) - cntT x.fst) + x.snd.fst.length) (((0 : Int) ≤ n ∧ n < (↑x.fst.length : Int)) ∧ n.toNat < x.fst.length ∧ ((0 : Int) ≤ n ∧ n < (↑l.length : Int)) ∧ ∀ (d : I6.den × (I6.pair (I6.pair (I6.pair (I6.pair (I6.pair (I6.pair (I6.pair Sh.unit))))))).den), l[n.toNat]? = some d → True ∧ (usesS d.fst d.snd.fst d.snd.snd.fst d.snd.snd.snd.fst d.snd.snd.snd.snd.fst d.snd.snd.snd.snd.snd.fst (d.snd.snd.snd.snd.snd.snd.fst, d.snd.snd.snd.snd.snd.snd.snd.fst, ()).fst d.snd.snd.snd.snd.snd.snd.snd.fst).length ≤ (4611686018427387904 : Nat) ∧ br (hasI (usesS d.fst d.snd.fst d.snd.snd.fst d.snd.snd.snd.fst d.snd.snd.snd.snd.fst d.snd.snd.snd.snd.snd.fst (d.snd.snd.snd.snd.snd.snd.fst, d.snd.snd.snd.snd.snd.snd.snd.fst, ()).fst d.snd.snd.snd.snd.snd.snd.snd.fst) r) (([] : List Go.Eng.Res) = [] ∧ Ent.one (SV.c (SC.v (Value.bool (fndB l fr r ex)))) = Ent.one (SV.c (SC.v (Value.bool true)))) (((0 : Int) ≤ n ∧ n < (↑l.length : Int)) ∧ ∀ (d : I6.den × (I6.pair (I6.pair (I6.pair (I6.pair (I6.pair (I6.pair (I6.pair Sh.unit))))))).den), l[n.toNat]? = some d → True ∧ br (!(decide (chkS d.fst d.snd.fst d.snd.snd.fst d.snd.snd.snd.fst d.snd.snd.snd.snd.fst d.snd.snd.snd.snd.snd.fst (d.snd.snd.snd.snd.snd.snd.fst, d.snd.snd.snd.snd.snd.snd.snd.fst, ()).fst d.snd.snd.snd.snd.snd.snd.snd.fst = (0 : Int)) && use d.fst (0 : Nat)) || !decide ((if chkS d.fst d.snd.fst d.snd.snd.fst d.snd.snd.snd.fst d.snd.snd.snd.snd.fst d.snd.snd.snd.snd.snd.fst (d.snd.snd.snd.snd.snd.snd.fst, d.snd.snd.snd.snd.snd.snd.snd.fst, ()).fst d.snd.snd.snd.snd.snd.snd.snd.fst = (0 : Int) ∧ use d.fst (0 : Nat) = true then d.snd.fst else (0 : Int)) = r)) (True ∧ InA ((List.drop (1 : Nat) x.snd.fst).length + List.length (nxtL l n)) (8 : Nat) ∧ ∀ (base' : Nat), ∃ x' : List Bool × List Int × Nat, Fnd l r ex fr x'.fst x'.snd.fst ∧ (SV.c (SC.row (2 : Nat)) = SV.c (SC.row (2 : Nat)) ∧ True) ∧ [(([] : Go.Eng.Gd), Res.blk (24 : Nat) [SC.v (Value.string nm), SC.sl shI l]), (([] : Go.Eng.Gd), Res.row (4 : TypeId) Sh.bool (x.fst.set n.toNat true)), (([] : Go.Eng.Gd), Res.tlr (3 : TypeId) IntKind.i64 (List.drop (1 : Nat) x.snd.fst ++ nxtL l n) base')] = [(([] : Go.Eng.Gd), Res.blk (24 : Nat) [SC.v (Value.string nm), SC.sl shI l]), (([] : Go.Eng.Gd), Res.row (4 : TypeId) Sh.bool x'.fst), (([] : Go.Eng.Gd), Res.tlr (3 : TypeId) IntKind.i64 x'.snd.fst x'.snd.snd)] ∧ (3 : Nat) * (l.length + (1 : Nat) - cntT x'.fst) + x'.snd.fst.length < (3 : Nat) * (l.length + (1 : Nat) - cntT x.fst) + x.snd.fst.length) (∃ x' : List Bool × List Int × Nat, Fnd l r ex fr x'.fst x'.snd.fst ∧ (SV.c (SC.row (2 : Nat)) = SV.c (SC.row (2 : Nat)) ∧ True) ∧ [(([] : Go.Eng.Gd), Res.blk (24 : Nat) [SC.v (Value.string nm), SC.sl shI l]), (([] : Go.Eng.Gd), Res.row (4 : TypeId) Sh.bool (x.fst.set n.toNat true)), (([] : Go.Eng.Gd), Res.tlr (3 : TypeId) IntKind.i64 (List.drop (1 : Nat) x.snd.fst) (x.snd.snd + (1 : Nat)))] = [(([] : Go.Eng.Gd), Res.blk (24 : Nat) [SC.v (Value.string nm), SC.sl shI l]), (([] : Go.Eng.Gd), Res.row (4 : TypeId) Sh.bool x'.fst), (([] : Go.Eng.Gd), Res.tlr (3 : TypeId) IntKind.i64 x'.snd.fst x'.snd.snd)] ∧ (3 : Nat) * (l.length + (1 : Nat) - cntT x'.fst) + x'.snd.fst.length < (3 : Nat) * (l.length + (1 : Nat) - cntT x.fst) + x.snd.fst.length))))) (([] : List Go.Eng.Res) = [] ∧ Ent.one (SV.c (SC.v (Value.bool (fndB l fr r ex)))) = Ent.one (SV.c (SC.v (Value.bool false)))) := by
  obtain ⟨hc, hf, hf2, hr0, hr8⟩ : cfgE l = 0 ∧ (∀ k ∈ fr, 0 ≤ k ∧ k ≤ l.length) ∧ fr.length ≤ 2 ∧ 0 ≤ r ∧ r < 8 := hpre
  have hb := (cfg_ok hc).1
  have et : ((l.length : Int) + 1).toNat = l.length + 1 := by omega
  rw [et]
  refine ⟨InR_i64.2 (by omega), ⟨by omega, by omega, by unfold InA; omega⟩, ?_, ⟨(List.replicate (l.length + 1) false, fr, 0), Fnd.start hc hf, ⟨rfl, trivial⟩, rfl⟩, fun x hx => br_iff.2 ⟨fun g => ?_, fun g => ?_⟩⟩
  · show (0 + fr.length) * 8 ≤ 140737488355328
    omega
  · obtain ⟨b, T, p⟩ := x
    dsimp only at hx g ⊢
    simp only [decide_eq_true_eq] at g
    have hroom := hx.room
    refine ⟨by omega, by omega, fun k hk => ⟨by omega, ?_⟩⟩
    have hk : T[0]? = some k := by rw [show p + 0 - p = 0 by omega] at hk; exact hk
    obtain ⟨km, k0, kn⟩ := hx.mem hk
    refine br_iff.2 ⟨fun q => ⟨rfl, ?_⟩, fun q => ?_⟩
    · rw [Bool.and_eq_true, decide_eq_true_eq] at q
      obtain ⟨q1, rfl⟩ := q
      rw [hx.hitX ⟨hr0, hr8⟩ hk q1]
    have lb := hx.len
    refine ⟨fun _ => by omega, fun _ => by omega, fun d hd => br_iff.2 ⟨fun q2 => ?_, fun q2 => ?_⟩⟩
    · have hs : (k = l.length ∧ ex = false) ∨ b[k.toNat]? = some true := by
        by_cases e : k = l.length
        · rw [decide_eq_true e] at q; exact .inl ⟨e, by simpa using q⟩
        · rw [decide_eq_false e] at q2 hd
          have q2 : d = true := by simpa using q2
          subst q2; exact .inr (hd rfl)
      obtain ⟨f1, f2⟩ := hx.pop hk hs
      exact ⟨(b, T.drop 1, p + 1), f1, ⟨rfl, trivial⟩, rfl, (show 3 * (l.length + 1 - cntT b) + (T.drop 1).length < 3 * (l.length + 1 - cntT b) + T.length by omega)⟩
    rw [Bool.or_eq_false_iff, decide_eq_false_iff_not] at q2
    obtain ⟨e, rfl⟩ := q2
    have hd : b[k.toNat]? = some false := hd (by rw [decide_eq_false e]; rfl)
    have hkl : k < l.length := by omega
    refine ⟨by omega, by omega, by omega, fun i hi => ?_⟩
    have hi : l[k.toNat]? = some i := hi
    obtain ⟨U, hU⟩ : ∃ U, U = useI i := ⟨_, rfl⟩
    have hU2 := hU
    simp only [useI] at hU2
    rw [← hU2]
    have ul : U.length ≤ 8 := by rw [hU]; exact use_len i
    have hu : (cfL l).use k.toNat = U := by rw [cf_use hi, hU]
    refine ⟨trivial, Nat.le_trans ul (by decide), br_iff.2 ⟨fun h => ⟨rfl, ?_⟩, fun h => ⟨by omega, fun i2 hi2 => ⟨trivial, ?_⟩⟩⟩⟩
    · rw [hx.hit hk hkl (by rw [hu]; exact hasI_iff.1 h)]
    have ei : i2 = i := Option.some.inj ((show l[k.toNat]? = some i2 from hi2).symm.trans hi)
    subst ei
    have hn : r ∉ (cfL l).use k.toNat := by rw [hu]; exact hasI_false.1 h
    refine br_iff.2 ⟨fun q3 => ?_, fun q3 => ?_⟩
    · have q4 : defI i2 ≠ some r := by
        intro hd'
        unfold defI at hd'
        split at hd'
        · rename_i hh
          cases hd'
          have hh2 := hh
          simp only [chkI] at hh2
          rw [if_pos hh2, decide_eq_true hh2.1, hh2.2] at q3
          simp at q3
        · cases hd'
      refine ⟨trivial, ?_, fun base' => ?_⟩
      · have h1 := sucL_len l k.toNat
        have h2 : (T.drop 1).length + (nxtL l k).length ≤ 1000 := by rw [nxtL_ok hc k0 hkl, List.length_drop]; omega
        exact Nat.le_trans (Nat.mul_le_mul_right 8 h2) (by decide)
      · obtain ⟨f1, f2⟩ := hx.go hc hk hkl hd hn (U := T.drop 1 ++ nxtL l k) (.inr ⟨by rw [cf_dfn hi]; exact q4, by rw [nxtL_ok hc k0 hkl]⟩)
        exact ⟨(b.set k.toNat true, T.drop 1 ++ nxtL l k, base'), f1, ⟨rfl, trivial⟩, rfl, f2⟩
    · have q4 : defI i2 = some r := by
        rw [Bool.or_eq_false_iff, Bool.not_eq_false', Bool.not_eq_false', Bool.and_eq_true, decide_eq_true_eq, decide_eq_true_eq] at q3
        obtain ⟨hh2, q5⟩ := q3
        rw [if_pos hh2] at q5
        unfold defI
        rw [if_pos (show chkI i2 = 0 ∧ use i2.1 0 = true from hh2), q5]
      obtain ⟨f1, f2⟩ := hx.go hc hk hkl hd hn (U := T.drop 1) (.inl ⟨by rw [cf_dfn hi]; exact q4, rfl⟩)
      exact ⟨(b.set k.toNat true, T.drop 1, p + 1), f1, ⟨rfl, trivial⟩, rfl, f2⟩
  · rw [decide_eq_false_iff_not] at g
    exact ⟨rfl, by rw [hx.none hc (by omega)]⟩
set_option maxHeartbeats 2000000 in
set_option maxRecDepth 100000 in
theorem f21_met : Go.Eng.Met Tryd.prog cx0.gd 21 ctFi :=
  met_of (cx := cx0) (n := 87) (cl := cl21) (by kernel_rfl) tis_ok ⟨f27_met, f20_met, f23_met, f22_met, trivial⟩ Tryd.func21 (by kernel_rfl) (by kernel_rfl) rfl (by kernel_rfl) (by kernel_rfl) fun d hd => by
    obtain ⟨⟨nm, l, ⟨⟩⟩, fr, r, ex, ⟨⟩⟩ := d
    exact ex_of (ann21 nm l fr r ex) (f21_vc nm l fr r ex hd) (by kernel_rfl)
end Go.Proofs.YtpfdgbddpdngbaaDoor
set_option linter.unusedSimpArgs false
set_option linter.unusedVariables false
set_option maxRecDepth 100000
namespace Go.Proofs.YtpfdgbddpdngbaaDoor
open Go Go.Eng

theorem deadP_len (l : List ID) : (if cfgE l = 0 then deadM l l.length else []).length ≤ 64 := by
  split
  · rename_i h
    exact Nat.le_trans (flt_len _ _) (cfg_ok h).1
  · simp
theorem paths_in {l : List ID} (hc : cfgE l = 0) {k : Nat} {r : Int} : hasI (liv (cfL l) false k) r = fndB l [(k : Int)] r false := by
  rw [Bool.eq_iff_iff, hasI_iff, liv_mem (cfL_ok hc), fndB_iff]
  simp
theorem paths_dead {l : List ID} {k : Nat} {d d1 : ID} (hd : l[k]? = some d) (h1 : (decide (chkI d = 0) && use d.1 0) = true → l[k]? = some d1) :
    hasI (deadM l l.length) k = (decide (chkI d = 0) && use d.1 0 && !visS d1.1 && !fndB l (sucL l k) (if chkI d = 0 ∧ use d.1 0 = true then d.2.1 else 0) true) := by
  have hk := (List.getElem?_eq_some_iff.1 hd).1
  have e : hasI (deadM l l.length) k = deadB l k := by
    rw [Bool.eq_iff_iff, hasI_iff]
    unfold deadM
    rw [List.mem_filter, rngI_mem]
    exact ⟨fun q => q.2, fun q => ⟨by omega, q⟩⟩
  rw [e]
  by_cases hh : chkI d = 0 ∧ use d.1 0 = true
  · have t0 : (decide (chkI d = 0) && use d.1 0) = true := by rw [decide_eq_true hh.1, hh.2]; rfl
    obtain rfl : d1 = d := Option.some.inj ((h1 t0).symm.trans hd)
    rw [dead_some hd (r := d1.2.1) (by unfold defI; rw [if_pos hh]), if_pos hh, t0]
    rfl
  · have t0 : (decide (chkI d = 0) && use d.1 0) = false := by
      rw [Bool.eq_false_iff]
      intro q
      rw [Bool.and_eq_true, decide_eq_true_eq] at q
      exact hh q
    rw [dead_none hd (by unfold defI; rw [if_neg hh]), t0]
    rfl
@[reducible] def ctL5 : CT := { ps := [shF], pre := fun d => True, res := fun d => ([], vB (true)) }
@[reducible] noncomputable def cl5 : List (Nat × CT) := [(19, ctRe), (8, ctAw), (9, ctBf), (16, ctDe), (20, ct46), (21, ctFi), (22, ctNx), (23, ct9), (24, ct26)]
@[reducible] noncomputable def ann5 (nm : ByteArray) (l : List ID) : Nat → Option (St → Ann) := fun q => match q with
  | 9 => some fun _ => .inv { α := Nat, slots := fun k => [(9, .c (.v (.int .i64 k)))], res := fun k => [], inv := fun k => k ≤ l.length, meas := fun k => l.length - k }
  | 12 => some fun _ => .inv { α := Nat, slots := fun k => [(10, .c (.v (.int .i64 k)))], res := fun k => [], inv := fun k => k ≤ 8, meas := fun k => 8 - k }
  | _ => none
set_option maxRecDepth 100000 in
theorem f5_vc (nm : ByteArray) (l : List ID) :
    True ∧ br (decide ((20 : Int) < (↑l.length : Int)) || !decide (cfgE l = (0 : Int))) (True ∧ ([] : List Go.Eng.Res) = [] ∧ Ent.one (SV.c (SC.v (Value.bool true))) = Ent.one (SV.c (SC.v (Value.bool true)))) (True ∧ True ∧ br (!decide (cfgE l = (0 : Int)) || !decide (cfgE l = (0 : Int)) || !decide ((↑(if cfgE l = (0 : Int) then befL l else []).length : Int) = (↑l.length : Int))) (([] : List Go.Eng.Res) = [] ∧ Ent.one (SV.c (SC.v (Value.bool true))) = Ent.one (SV.c (SC.v (Value.bool false)))) ((∃ x, x ≤ l.length ∧ (SV.c (v6 ((0 : Int))) = SV.c (v6 ((↑x : Int))) ∧ True) ∧ [(([] : Go.Eng.Gd), Res.blk (24 : Nat) [SC.v (Value.string nm), SC.sl shI l])] = [(([] : Go.Eng.Gd), Res.blk (24 : Nat) [SC.v (Value.string nm), SC.sl shI l])]) ∧ ∀ (x : Nat), x ≤ l.length → br (decide ((↑x : Int) < (↑l.length : Int))) ((∃ x, x ≤ (8 : Nat) ∧ (SV.c (v6 ((0 : Int))) = SV.c (v6 ((↑x : Int))) ∧ True) ∧ [(([] : Go.Eng.Gd), Res.blk (24 : Nat) [SC.v (Value.string nm), SC.sl shI l])] = [(([] : Go.Eng.Gd), Res.blk (24 : Nat) [SC.v (Value.string nm), SC.sl shI l])]) ∧ ∀ (x_1 : Nat), x_1 ≤ (8 : Nat) → br (decide ((↑x_1 : Int) < (8 : Int))) (((0 : Int) ≤ (↑x : Int) ∧ (↑x : Int) < (↑(if cfgE l = (0 : Int) then befL l else []).length : Int)) ∧ ∀ (d : List I6.den), (if cfgE l = (0 : Int) then befL l else [])[(↑x : Int).toNat]? = some d → (d.length ≤ (4611686018427387904 : Nat) ∧ (cfgE l = (0 : Int) ∧ (∀ (k : Int), k ∈ [(↑x : Int)] → (0 : I6.den) ≤ k ∧ k ≤ (↑l.length : I6.den)) ∧ [(↑x : Int)].length ≤ (2 : Nat) ∧ (0 : I6.den) ≤ (↑x_1 : Int) ∧ (↑x_1 : Int) < (8 : I6.den)) ∧ br (!hasI d (↑x_1 : Int) == fndB l [(↑x : Int)] (↑x_1 : Int) false) (([] : List Go.Eng.Res) = [] ∧ Ent.one (SV.c (SC.v (Value.bool true))) = Ent.one (SV.c (SC.v (Value.bool false)))) (InR IntKind.i64 ((↑x_1 : Int) + (1 : Int)) ∧ ∃ x', x' ≤ (8 : Nat) ∧ (SV.c (v6 (((↑x_1 : Int) + (1 : Int)))) = SV.c (v6 ((↑x' : Int))) ∧ True) ∧ [(([] : Go.Eng.Gd), Res.blk (24 : Nat) [SC.v (Value.string nm), SC.sl shI l])] = [(([] : Go.Eng.Gd), Res.blk (24 : Nat) [SC.v (Value.string nm), SC.sl shI l])] ∧ (8 : Nat) - x' < (8 : Nat) - x_1)) ∧ d.length ≤ (4611686018427387904 : Nat) ∧ (cfgE l = (0 : Int) ∧ (∀ (k : Int), k ∈ [(↑x : Int)] → (0 : I6.den) ≤ k ∧ k ≤ (↑l.length : I6.den)) ∧ [(↑x : Int)].length ≤ (2 : Nat) ∧ (0 : I6.den) ≤ (↑x_1 : Int) ∧ (↑x_1 : Int) < (8 : I6.den)) ∧ br (!hasI d (↑x_1 : Int) == fndB l [(↑x : Int)] (↑x_1 : Int) false) (([] : List Go.Eng.Res) = [] ∧ Ent.one (SV.c (SC.v (Value.bool true))) = Ent.one (SV.c (SC.v (Value.bool false)))) (InR IntKind.i64 ((↑x_1 : Int) + (1 : Int)) ∧ ∃ x', x' ≤ (8 : Nat) ∧ (SV.c (v6 (((↑x_1 : Int) + (1 : Int)))) = SV.c (v6 ((↑x' : Int))) ∧ True) ∧ [(([] : Go.Eng.Gd), Res.blk (24 : Nat) [SC.v (Value.string nm), SC.sl shI l])] = [(([] : Go.Eng.Gd), Res.blk (24 : Nat) [SC.v (Value.string nm), SC.sl shI l])] ∧ (8 : Nat) - x' < (8 : Nat) - x_1)) (True ∧ ((0 : Int) ≤ (↑x : Int) ∧ (↑x : Int) < (↑l.length : Int)) ∧ ∀ (d : I6.den × (I6.pair (I6.pair (I6.pair (I6.pair (I6.pair (I6.pair (I6.pair Sh.unit))))))).den), l[(↑x : Int).toNat]? = some d → True ∧ ((decide (chkS d.fst d.snd.fst d.snd.snd.fst d.snd.snd.snd.fst d.snd.snd.snd.snd.fst d.snd.snd.snd.snd.snd.fst (d.snd.snd.snd.snd.snd.snd.fst, d.snd.snd.snd.snd.snd.snd.snd.fst, ()).fst d.snd.snd.snd.snd.snd.snd.snd.fst = (0 : Int)) && use d.fst (0 : Nat)) = true → (0 : Int) ≤ (↑x : Int) ∧ (↑x : Int) < (↑l.length : Int)) ∧ ∀ (d_1 : I6.den × (I6.pair (I6.pair (I6.pair (I6.pair (I6.pair (I6.pair (I6.pair Sh.unit))))))).den), ((decide (chkS d.fst d.snd.fst d.snd.snd.fst d.snd.snd.snd.fst d.snd.snd.snd.snd.fst d.snd.snd.snd.snd.snd.fst (d.snd.snd.snd.snd.snd.snd.fst, d.snd.snd.snd.snd.snd.snd.snd.fst, ()).fst d.snd.snd.snd.snd.snd.snd.snd.fst = (0 : Int)) && use d.fst (0 : Nat)) = true → l[(↑x : Int).toNat]? = some d_1) → ((decide (chkS d.fst d.snd.fst d.snd.snd.fst d.snd.snd.snd.fst d.snd.snd.snd.snd.fst d.snd.snd.snd.snd.snd.fst (d.snd.snd.snd.snd.snd.snd.fst, d.snd.snd.snd.snd.snd.snd.snd.fst, ()).fst d.snd.snd.snd.snd.snd.snd.snd.fst = (0 : Int)) && use d.fst (0 : Nat)) = true → True) ∧ ((decide (chkS d.fst d.snd.fst d.snd.snd.fst d.snd.snd.snd.fst d.snd.snd.snd.snd.fst d.snd.snd.snd.snd.snd.fst (d.snd.snd.snd.snd.snd.snd.fst, d.snd.snd.snd.snd.snd.snd.snd.fst, ()).fst d.snd.snd.snd.snd.snd.snd.snd.fst = (0 : Int)) && use d.fst (0 : Nat) && !visS d_1.fst) = true → cfgE l = (0 : Int) ∧ (∀ (k : Int), k ∈ nxtL l (↑x : Int) → (0 : I6.den) ≤ k ∧ k ≤ (↑l.length : I6.den)) ∧ (nxtL l (↑x : Int)).length ≤ (2 : Nat) ∧ ((0 : I6.den) ≤ if chkS d.fst d.snd.fst d.snd.snd.fst d.snd.snd.snd.fst d.snd.snd.snd.snd.fst d.snd.snd.snd.snd.snd.fst (d.snd.snd.snd.snd.snd.snd.fst, d.snd.snd.snd.snd.snd.snd.snd.fst, ()).fst d.snd.snd.snd.snd.snd.snd.snd.fst = (0 : Int) ∧ use d.fst (0 : Nat) = true then d.snd.fst else (0 : Int)) ∧ (if chkS d.fst d.snd.fst d.snd.snd.fst d.snd.snd.snd.fst d.snd.snd.snd.snd.fst d.snd.snd.snd.snd.snd.fst (d.snd.snd.snd.snd.snd.snd.fst, d.snd.snd.snd.snd.snd.snd.snd.fst, ()).fst d.snd.snd.snd.snd.snd.snd.snd.fst = (0 : Int) ∧ use d.fst (0 : Nat) = true then d.snd.fst else (0 : Int)) < (8 : I6.den)) ∧ (if cfgE l = (0 : Int) then deadM l l.length else []).length ≤ (4611686018427387904 : Nat) ∧ br (!hasI (if cfgE l = (0 : Int) then deadM l l.length else []) (↑x : Int) == (decide (chkS d.fst d.snd.fst d.snd.snd.fst d.snd.snd.snd.fst d.snd.snd.snd.snd.fst d.snd.snd.snd.snd.snd.fst (d.snd.snd.snd.snd.snd.snd.fst, d.snd.snd.snd.snd.snd.snd.snd.fst, ()).fst d.snd.snd.snd.snd.snd.snd.snd.fst = (0 : Int)) && use d.fst (0 : Nat) && !visS d_1.fst && !fndB l (nxtL l (↑x : Int)) (if chkS d.fst d.snd.fst d.snd.snd.fst d.snd.snd.snd.fst d.snd.snd.snd.snd.fst d.snd.snd.snd.snd.snd.fst (d.snd.snd.snd.snd.snd.snd.fst, d.snd.snd.snd.snd.snd.snd.snd.fst, ()).fst d.snd.snd.snd.snd.snd.snd.snd.fst = (0 : Int) ∧ use d.fst (0 : Nat) = true then d.snd.fst else (0 : Int)) true)) (([] : List Go.Eng.Res) = [] ∧ Ent.one (SV.c (SC.v (Value.bool true))) = Ent.one (SV.c (SC.v (Value.bool false)))) (InR IntKind.i64 ((↑x : Int) + (1 : Int)) ∧ ∃ x', x' ≤ l.length ∧ (SV.c (v6 (((↑x : Int) + (1 : Int)))) = SV.c (v6 ((↑x' : Int))) ∧ True) ∧ [(([] : Go.Eng.Gd), Res.blk (24 : Nat) [SC.v (Value.string nm), SC.sl shI l])] = [(([] : Go.Eng.Gd), Res.blk (24 : Nat) [SC.v (Value.string nm), SC.sl shI l])] ∧ l.length - x' < l.length - x))) (True ∧ ([] : List Go.Eng.Res) = [] ∧ Ent.one (SV.c (SC.v (Value.bool true))) = Ent.one (SV.c (SC.v (Value.bool true)))))) := by
  refine ⟨trivial, br_iff.2 ⟨fun _ => ⟨trivial, rfl, rfl⟩, fun h => ?_⟩⟩
  simp only [Bool.or_eq_false_iff, decide_eq_false_iff_not, Bool.not_eq_false', decide_eq_true_eq] at h
  obtain ⟨h20, hc⟩ := h
  have hl := befL_len l
  refine ⟨trivial, trivial, ?_⟩
  rw [if_pos hc, if_pos hc]
  refine br_iff.2 ⟨fun q => ?_, fun q => ?_⟩
  · exfalso
    rw [hl, decide_eq_true hc] at q
    simp at q
  refine ⟨⟨0, Nat.zero_le _, ⟨rfl, trivial⟩, rfl⟩, fun x hx => br_iff.2 ⟨fun g => ?_, fun g => ⟨trivial, rfl, rfl⟩⟩⟩
  simp only [decide_eq_true_eq] at g
  have hx' : x < l.length := by omega
  refine ⟨⟨0, Nat.zero_le _, ⟨rfl, trivial⟩, rfl⟩, fun r hr => br_iff.2 ⟨fun g2 => ?_, fun g2 => ?_⟩⟩
  · simp only [decide_eq_true_eq] at g2
    refine ⟨⟨by omega, by rw [hl]; omega⟩, fun d hd => ?_⟩
    have hb := befL_get hx'
    obtain rfl : d = liv (cfL l) false x := Option.some.inj ((show (befL l)[x]? = some d from hd).symm.trans hb)
    have ll := liv_len (cfL l) false x
    have pre : cfgE l = 0 ∧ (∀ k ∈ [(x : Int)], (0 : Int) ≤ k ∧ k ≤ l.length) ∧ [(x : Int)].length ≤ 2 ∧ (0 : Int) ≤ (r : Int) ∧ (r : Int) < 8 := ⟨hc, by intro k hk; simp at hk; subst hk; omega, by simp, by omega, by omega⟩
    have e := paths_in hc (k := x) (r := r)
    have h1 : (liv (cfL l) false x).length ≤ 4611686018427387904 := Nat.le_trans ll (by decide)
    refine ⟨⟨h1, pre, br_iff.2 ⟨fun q => ?_, fun _ => ⟨InR_i64.2 (by omega), r + 1, by omega, ⟨rfl, trivial⟩, rfl, by omega⟩⟩⟩, h1, pre, br_iff.2 ⟨fun q => ?_, fun _ => ⟨InR_i64.2 (by omega), r + 1, by omega, ⟨rfl, trivial⟩, rfl, by omega⟩⟩⟩
    · rw [e] at q; simp at q
    · rw [e] at q; simp at q
  · rw [nxtL_ok hc (by omega) (by omega)]
    refine ⟨trivial, ⟨by omega, by omega⟩, fun d hd => ⟨trivial, fun _ => ⟨by omega, by omega⟩, fun d1 hd1 => ⟨fun _ => trivial, fun q => ?_, ?_, ?_⟩⟩⟩
    · rw [Bool.and_eq_true, Bool.and_eq_true, decide_eq_true_eq] at q
      have hh := q.1
      rw [if_pos hh]
      have rg := def_rng (i := d) (r := d.2.1) (by unfold defI; exact if_pos hh)
      exact ⟨hc, fun k hk => suc_rng hc hx' k hk, sucL_len l x, rg.1, rg.2⟩
    · have h1 := deadP_len l
      rw [if_pos hc] at h1
      exact Nat.le_trans h1 (by decide)
    · have e := paths_dead (show l[x]? = some d from hd) (d1 := d1) hd1
      simp only [chkI] at e
      refine br_iff.2 ⟨fun q => ?_, fun _ => ⟨InR_i64.2 (by omega), x + 1, by omega, ⟨rfl, trivial⟩, rfl, by omega⟩⟩
      rw [Int.toNat_natCast, Bool.not_eq_true'] at q
      exact absurd (q.symm.trans (beq_iff_eq.2 e)) Bool.false_ne_true
set_option maxHeartbeats 2000000 in
set_option maxRecDepth 100000 in
theorem f5_met : Go.Eng.Met Tryd.prog cx0.gd 5 ctL5 :=
  met_of (cx := cx0) (n := 116) (cl := cl5) (by kernel_rfl) tis_ok ⟨f19_met, f8_met, f9_met, f16_met, f20_met, f21_met, f22_met, f23_met, f24_met, trivial⟩ Tryd.func5 (by kernel_rfl) (by kernel_rfl) rfl (by kernel_rfl) (by kernel_rfl) fun d hd => by
    obtain ⟨⟨nm, l, ⟨⟩⟩, ⟨⟩⟩ := d
    exact ex_of (ann5 nm l) (f5_vc nm l) (by kernel_rfl)
end Go.Proofs.YtpfdgbddpdngbaaDoor
set_option linter.unusedSimpArgs false
set_option linter.unusedVariables false
set_option maxRecDepth 1000000
namespace Go.Proofs.YtpfdgbddpdngbaaDoor
open Go Go.Eng Go.ChangeShapes Go.WideShapes Go.ChangeAt Go.RowKit
theorem own : ownKnob Tryd.prog.godebug = none := by kernel_rfl
theorem laidOut : laidOutB Tryd.prog = true := by kernel_rfl
theorem rowed : mapsRowed Tryd.prog = true := by kernel_rfl
theorem full : ∀ t e, t < Tryd.prog.types.size → Tryd.prog.underlying t = some (.slice e) → 0 < Tryd.prog.cellsOf e := slices_full_of _ (by kernel_rfl)
theorem gname0 : Tryd.prog.globalNamed "modelcheck/inst.rows" = some 0 := by kernel_rfl
theorem gtype0 : (Tryd.prog.globals[0]?).map (·.type) = some 81 := by kernel_rfl
theorem gsok0 : (SOK Tryd.prog (.arr 22 (.pair .str (.pair (.arr 7 .bool) .unit)))).1 81 = true := by kernel_rfl
theorem gname1 : Tryd.prog.globalNamed "modelcheck/value.names" = some 1 := by kernel_rfl
theorem gtype1 : (Tryd.prog.globals[1]?).map (·.type) = some 93 := by kernel_rfl
theorem gsok1 : (SOK Tryd.prog (.arr 10 .str)).1 93 = true := by kernel_rfl
noncomputable def laidWorld (os : Os) : World :=
  { World.holding Tryd.prog os ⟨#[], #[], []⟩ with heap := (((World.holding Tryd.prog os ⟨#[], #[], []⟩).heap).modify 0 (lay #[.string ⟨#[99, 111, 110, 115, 116]⟩, .bool true, .bool false, .bool false, .bool false, .bool true, .bool false, .bool false, .string ⟨#[99, 111, 112, 121]⟩, .bool true, .bool true, .bool false, .bool false, .bool false, .bool false, .bool false, .string ⟨#[99, 97, 108, 99]⟩, .bool true, .bool true, .bool true, .bool false, .bool false, .bool true, .bool false, .string ⟨#[106, 117, 109, 112]⟩, .bool false, .bool false, .bool false, .bool false, .bool true, .bool false, .bool false, .string ⟨#[98, 114, 97, 110, 99, 104]⟩, .bool false, .bool true, .bool false, .bool false, .bool true, .bool false, .bool false, .string ⟨#[97, 115, 115, 101, 114, 116]⟩, .bool false, .bool true, .bool false, .bool false, .bool false, .bool false, .bool false, .string ⟨#[115, 116, 111, 112]⟩, .bool false, .bool false, .bool false, .bool false, .bool false, .bool false, .bool false, .string ⟨#[108, 111, 97, 100]⟩, .bool true, .bool false, .bool false, .bool true, .bool false, .bool false, .bool true, .string ⟨#[115, 116, 111, 114, 101]⟩, .bool false, .bool true, .bool false, .bool true, .bool false, .bool false, .bool true, .string ⟨#[115, 119, 97, 112]⟩, .bool true, .bool true, .bool false, .bool true, .bool false, .bool false, .bool true, .string ⟨#[102, 101, 116, 99, 104, 97, 100, 100]⟩, .bool true, .bool true, .bool false, .bool true, .bool false, .bool false, .bool true, .string ⟨#[99, 97, 115]⟩, .bool true, .bool true, .bool true, .bool true, .bool false, .bool false, .bool true, .string ⟨#[102, 101, 110, 99, 101]⟩, .bool false, .bool false, .bool false, .bool false, .bool false, .bool false, .bool false, .string ⟨#[97, 119, 97, 105, 116]⟩, .bool true, .bool true, .bool false, .bool true, .bool false, .bool true, .bool true, .string ⟨#[108, 111, 99, 107]⟩, .bool false, .bool false, .bool false, .bool true, .bool false, .bool false, .bool false, .string ⟨#[117, 110, 108, 111, 99, 107]⟩, .bool false, .bool false, .bool false, .bool true, .bool false, .bool false, .bool false, .string ⟨#[116, 114, 121, 108, 111, 99, 107]⟩, .bool true, .bool false, .bool false, .bool true, .bool false, .bool false, .bool false, .string ⟨#[119, 97, 105, 116]⟩, .bool false, .bool false, .bool false, .bool true, .bool true, .bool false, .bool false, .string ⟨#[115, 105, 103, 110, 97, 108]⟩, .bool false, .bool false, .bool false, .bool true, .bool false, .bool false, .bool false, .string ⟨#[98, 114, 111, 97, 100, 99, 97, 115, 116]⟩, .bool false, .bool false, .bool false, .bool true, .bool false, .bool false, .bool false, .string ⟨#[115, 112, 97, 119, 110]⟩, .bool true, .bool true, .bool false, .bool true, .bool false, .bool false, .bool false, .string ⟨#[106, 111, 105, 110]⟩, .bool false, .bool true, .bool false, .bool false, .bool false, .bool false, .bool false])).modify 1 (lay #[.string ⟨#[97, 100, 100]⟩, .string ⟨#[115, 117, 98]⟩, .string ⟨#[109, 117, 108]⟩, .string ⟨#[97, 110, 100]⟩, .string ⟨#[111, 114]⟩, .string ⟨#[120, 111, 114]⟩, .string ⟨#[101, 113]⟩, .string ⟨#[110, 101]⟩, .string ⟨#[108, 116]⟩, .string ⟨#[108, 101]⟩]) }
namespace livenessPathsL
theorem globs {W : World} (hL : laidMetH Tryd.prog Rows.livenessPathsRow.laid W) : GlobOK gd0 (FH.all W) := by
  intro g p hp
  unfold gd0 at hp
  split at hp
  · cases hp; exact glob_open hL (by kernel_rfl) (n := "modelcheck/inst.rows") (D := Rows.laid_modelcheck_inst_rows) (by simp [Rows.livenessPathsRow]) gname0 gtype0 gsok0 (by kernel_rfl)
  · cases hp; exact glob_open hL (by kernel_rfl) (n := "modelcheck/value.names") (D := Rows.laid_modelcheck_value_names) (by simp [Rows.livenessPathsRow]) gname1 gtype1 gsok1 (by kernel_rfl)
  · cases hp
theorem laid_met (os : Os) : laidMet Tryd.prog Rows.livenessPathsRow.laid ((laidWorld os).forCall (fun _ _ => 0) ⟨#[], #[.agg #[.string ⟨#[]⟩, .slice none 0 0]], []⟩).memory :=
  laidMet_of_run' 20 (by kernel_rfl) (by kernel_rfl)
theorem reads (os : Os) {H : Type} (enc : TypeId × Value → H) : ∃ places, DataW.whole enc Tryd.prog ((laidWorld os).forCall (fun _ _ => 0) ⟨#[], #[.agg #[.string ⟨#[]⟩, .slice none 0 0]], []⟩).memory Tryd.f5.params.toList Rows.livenessPathsSpec.vars false (#[.agg #[.string ⟨#[]⟩, .slice none 0 0]] : Array Value).toList 20 = some ([.agg [.lit (.string []), .nil]], [], places) :=
  ⟨[], by kernel_rfl⟩
theorem lifted (os : Os) (started : os.Started) (H : Type) (enc : TypeId × Value → H) (F : Stop.Interp) :
    ReturnsInHanded {} Tryd.checked os 5 .any ((OpenSpec.ofChange Rows.livenessPathsSpec).preRow enc Tryd.prog Tryd.f5 Rows.livenessPathsRow.domain false Rows.livenessPathsRow.laid) (((OpenSpec.ofChange Rows.livenessPathsSpec).at F).post enc Tryd.prog Tryd.f5 false true false false) := by
  obtain ⟨places, hx⟩ := reads os enc
  refine returnsInHanded_of_row (C := Tryd.checked) (s := OpenSpec.ofChange Rows.livenessPathsSpec) own started (by kernel_rfl) Tryd.func5
    (witness_row_at (enc := enc) (C := Tryd.checked) false (laidWorld os) #[.agg #[.string ⟨#[]⟩, .slice none 0 0]] rfl (by kernel_rfl) (by kernel_rfl) (by kernel_rfl)
      (OpenSpec.preRow_of_cond 20 hx (by kernel_rfl) (fun k hk => by cases hk) (by kernel_rfl) (laid_met os))) ?_
  intro W base args ds gs before hval hW _ hcond hwt hL _ _
  refine call_true (fn := Tryd.f5) f5_met laidOut rowed full (by decide +kernel) (t := 4) (by kernel_rfl) (by kernel_rfl) rfl (by kernel_rfl) (fun _ => rfl) (fun d hd hwf => ?_) hval hW (globs hL)
  match ds, rdats_len hd with
  | [d0], _ => exact ⟨rfl, by trivial⟩
theorem said : Rows.LivenessPathsSaid :=
  OpenClaim.holds_of_cond 5 Tryd.f5 rfl rfl rfl rfl rfl rfl rfl ⟨rfl, rfl, rfl, rfl, rfl⟩ rfl rfl rfl rfl rfl (by kernel_rfl) Tryd.func5 (by kernel_rfl)
    (of_decide_eq_true (by kernel_rfl)) (by unfold Func.isWrapper; first | (rw [if_pos (by decide +kernel)]; kernel_rfl) | (rw [if_neg (by decide +kernel)]; exact ⟨rfl, rfl⟩))
    (fun os started H enc _ F => by rw [OpenClaim.pre_eq_preRow]; exact lifted os started H enc F)
theorem plain (f : FuncId) (fn : Func) (hf : Tryd.pinned.checked.prog.funcNamed "modelcheck/modelchecklaw13.LivenessPaths" = some f) (hfn : Tryd.pinned.checked.prog.funcs[f]? = some fn) :
    false = Tryd.pinned.checked.prog.looks [] ∧ ∀ (j : Nat) t, fn.params[j]? = some t → Tryd.pinned.checked.prog.wantsStandIn t = false := by
  obtain rfl : f = 5 := Option.some.inj ((show Tryd.prog.funcNamed "modelcheck/modelchecklaw13.LivenessPaths" = some 5 by kernel_rfl).symm.trans hf) |>.symm
  obtain rfl : fn = Tryd.f5 := (Option.some.inj (Tryd.func5.symm.trans hfn)).symm
  refine ⟨by kernel_rfl, fun j t ht => ?_⟩
  have hm : t ∈ Tryd.f5.params.toList := List.mem_of_getElem? (by simpa using ht)
  have key : ∀ t ∈ Tryd.f5.params.toList, Tryd.prog.wantsStandIn t = false := by decide +kernel
  exact key t hm
theorem card : Rows.LivenessPathsCardSaid :=
  Claim7.holds_tied_plain_at .later [] _ _ _ _ said (fun _ h => by cases h) (by kernel_rfl) (fun _ h => by cases h) livenessPaths_row_tie rfl ⟨rfl, rfl⟩ (by kernel_rfl) rfl plain (by kernel_rfl)
end livenessPathsL
end Go.Proofs.YtpfdgbddpdngbaaDoor
