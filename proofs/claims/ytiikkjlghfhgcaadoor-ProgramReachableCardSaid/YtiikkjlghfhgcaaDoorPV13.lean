/- The Program chapter, part 13: the laws ProgramReaches and ProgramReachable. -/
import Derived.Test.YtiikkjlghfhgcaaDoorPV12
set_option linter.unusedSimpArgs false
set_option linter.unusedVariables false
set_option maxRecDepth 100000
namespace Go.Proofs.YtiikkjlghfhgcaaDoor
open Go Go.Eng

theorem reach_len (vs : List VD) (ms cs : List ByteArray) (fs : List FD) (ts : List SD) : (reachS vs ms cs fs ts).1.length ≤ 8 := by
  by_cases he : (chkP vs ms cs fs ts).1 = 0
  · obtain ⟨R, hR, r1, r2, r3, r4, r5⟩ := reach_valid he
    obtain ⟨c1, c2, c3⟩ := chk_zero he
    rw [hR]
    exact Nat.le_trans (ss_short r1 r2) (co_len c1)
  · unfold reachS
    rw [if_pos he]; exact Nat.zero_le _
@[reducible] def ctL5 : CT := { ps := [shP], pre := fun d => True, res := fun d => ([], vB true) }
@[reducible] noncomputable def cl5 : List (Nat × CT) := [(9, ctSm), (10, ctLiv), (17, ctRch), (18, ctrRch)]
@[reducible] def ann5 (vs : List VD) (ms : List ByteArray) (cs : List ByteArray) (fs : List FD) (ts : List SD) : Nat → Option (St → Ann) := fun k => match k with
  | 8 => some fun _ => .inv { α := Nat, slots := fun k => [(7, .c (.v (.int .i64 k)))], res := fun k => [], inv := fun k => k ≤ (reachS vs ms cs fs ts).1.length, meas := fun k => (reachS vs ms cs fs ts).1.length - k }
  | _ => none
set_option maxRecDepth 100000 in
theorem f5_vc (vs : List VD) (ms : List ByteArray) (cs : List ByteArray) (fs : List FD) (ts : List SD) :
    True ∧ br (!smS vs ms cs fs ts) (True ∧ ([] : List Go.Eng.Res) = [] ∧ Ent.one (SV.c (SC.v (Value.bool true))) = Ent.one (SV.c (SC.v (Value.bool true)))) ((vs.length ≤ (1000000 : Nat) ∧ ms.length ≤ (1000000 : Nat) ∧ cs.length ≤ (1000000 : Nat) ∧ fs.length ≤ (1000000 : Nat) ∧ ts.length ≤ (1000000 : Nat) ∧ (∀ (x : Sh.str.den × (((Sh.int IntKind.i64).pair ((Sh.int IntKind.i64).pair ((Sh.int IntKind.i64).pair ((Sh.int IntKind.i64).pair ((Sh.int IntKind.i64).pair ((Sh.int IntKind.i64).pair ((Sh.int IntKind.i64).pair ((Sh.int IntKind.i64).pair Sh.unit)))))))).sl.pair Sh.unit).den), x ∈ fs → List.length x.snd.fst ≤ (1000000 : Nat)) ∧ (instL fs).length ≤ (1000000 : Nat)) ∧ (vs.length ≤ (1000000 : Nat) ∧ ms.length ≤ (1000000 : Nat) ∧ cs.length ≤ (1000000 : Nat) ∧ fs.length ≤ (1000000 : Nat) ∧ ts.length ≤ (1000000 : Nat) ∧ (∀ (x : Sh.str.den × (((Sh.int IntKind.i64).pair ((Sh.int IntKind.i64).pair ((Sh.int IntKind.i64).pair ((Sh.int IntKind.i64).pair ((Sh.int IntKind.i64).pair ((Sh.int IntKind.i64).pair ((Sh.int IntKind.i64).pair ((Sh.int IntKind.i64).pair Sh.unit)))))))).sl.pair Sh.unit).den), x ∈ fs → List.length x.snd.fst ≤ (1000000 : Nat)) ∧ (instL fs).length ≤ (1000000 : Nat)) ∧ br (!decide ((reachS vs ms cs fs ts).snd = (reachS vs ms cs fs ts).snd) || !decide ((↑(reachS vs ms cs fs ts).fst.length : Int) = (↑(reachS vs ms cs fs ts).fst.length : Int))) (([] : List Go.Eng.Res) = [] ∧ Ent.one (SV.c (SC.v (Value.bool true))) = Ent.one (SV.c (SC.v (Value.bool false)))) ((∃ x, x ≤ (reachS vs ms cs fs ts).fst.length ∧ (SV.c (SC.v (Value.int IntKind.i64 (0 : Int))) = SV.c (SC.v (Value.int IntKind.i64 (↑x : Int))) ∧ True) ∧ [(([] : Go.Eng.Gd), Res.blk (27 : Nat) [SC.sl (Sh.str.pair ((Sh.int IntKind.i64).pair Sh.unit)) vs, SC.sl Sh.str ms, SC.sl Sh.str cs, SC.sl (Sh.str.pair (((Sh.int IntKind.i64).pair ((Sh.int IntKind.i64).pair ((Sh.int IntKind.i64).pair ((Sh.int IntKind.i64).pair ((Sh.int IntKind.i64).pair ((Sh.int IntKind.i64).pair ((Sh.int IntKind.i64).pair ((Sh.int IntKind.i64).pair Sh.unit)))))))).sl.pair Sh.unit)) fs, SC.sl ((Sh.int IntKind.i64).pair ((Sh.int IntKind.i64).pair Sh.unit)) ts])] = [(([] : Go.Eng.Gd), Res.blk (27 : Nat) [SC.sl (Sh.str.pair ((Sh.int IntKind.i64).pair Sh.unit)) vs, SC.sl Sh.str ms, SC.sl Sh.str cs, SC.sl (Sh.str.pair (((Sh.int IntKind.i64).pair ((Sh.int IntKind.i64).pair ((Sh.int IntKind.i64).pair ((Sh.int IntKind.i64).pair ((Sh.int IntKind.i64).pair ((Sh.int IntKind.i64).pair ((Sh.int IntKind.i64).pair ((Sh.int IntKind.i64).pair Sh.unit)))))))).sl.pair Sh.unit)) fs, SC.sl ((Sh.int IntKind.i64).pair ((Sh.int IntKind.i64).pair Sh.unit)) ts])]) ∧ ∀ (x : Nat), x ≤ (reachS vs ms cs fs ts).fst.length → br (decide ((↑x : Int) < (↑(reachS vs ms cs fs ts).fst.length : Int))) (((0 : Int) ≤ (↑x : Int) ∧ (↑x : Int) < (↑(reachS vs ms cs fs ts).fst.length : Int)) ∧ ∀ (d : Int), (reachS vs ms cs fs ts).fst[(↑x : Int).toNat]? = some d → ((0 : Int) ≤ (↑x : Int) ∧ (↑x : Int) < (↑(reachS vs ms cs fs ts).fst.length : Int)) ∧ ∀ (d_1 : Int), (reachS vs ms cs fs ts).fst[(↑x : Int).toNat]? = some d_1 → br (!decide (d = d_1)) (([] : List Go.Eng.Res) = [] ∧ Ent.one (SV.c (SC.v (Value.bool true))) = Ent.one (SV.c (SC.v (Value.bool false)))) (InR IntKind.i64 ((↑x : Int) + (1 : Int)) ∧ ∃ x', x' ≤ (reachS vs ms cs fs ts).fst.length ∧ (SV.c (SC.v (Value.int IntKind.i64 ((↑x : Int) + (1 : Int)))) = SV.c (SC.v (Value.int IntKind.i64 (↑x' : Int))) ∧ True) ∧ [(([] : Go.Eng.Gd), Res.blk (27 : Nat) [SC.sl (Sh.str.pair ((Sh.int IntKind.i64).pair Sh.unit)) vs, SC.sl Sh.str ms, SC.sl Sh.str cs, SC.sl (Sh.str.pair (((Sh.int IntKind.i64).pair ((Sh.int IntKind.i64).pair ((Sh.int IntKind.i64).pair ((Sh.int IntKind.i64).pair ((Sh.int IntKind.i64).pair ((Sh.int IntKind.i64).pair ((Sh.int IntKind.i64).pair ((Sh.int IntKind.i64).pair Sh.unit)))))))).sl.pair Sh.unit)) fs, SC.sl ((Sh.int IntKind.i64).pair ((Sh.int IntKind.i64).pair Sh.unit)) ts])] = [(([] : Go.Eng.Gd), Res.blk (27 : Nat) [SC.sl (Sh.str.pair ((Sh.int IntKind.i64).pair Sh.unit)) vs, SC.sl Sh.str ms, SC.sl Sh.str cs, SC.sl (Sh.str.pair (((Sh.int IntKind.i64).pair ((Sh.int IntKind.i64).pair ((Sh.int IntKind.i64).pair ((Sh.int IntKind.i64).pair ((Sh.int IntKind.i64).pair ((Sh.int IntKind.i64).pair ((Sh.int IntKind.i64).pair ((Sh.int IntKind.i64).pair Sh.unit)))))))).sl.pair Sh.unit)) fs, SC.sl ((Sh.int IntKind.i64).pair ((Sh.int IntKind.i64).pair Sh.unit)) ts])] ∧ (reachS vs ms cs fs ts).fst.length - x' < (reachS vs ms cs fs ts).fst.length - x)) (True ∧ ([] : List Go.Eng.Res) = [] ∧ Ent.one (SV.c (SC.v (Value.bool true))) = Ent.one (SV.c (SC.v (Value.bool true)))))) := by
  refine ⟨trivial, br_iff.2 ⟨fun _ => ⟨trivial, rfl, rfl⟩, fun h => ?_⟩⟩
  have h : smS vs ms cs fs ts = true := by simpa using h
  have hb := small_bnd h
  have h8 := reach_len vs ms cs fs ts
  refine ⟨hb, hb, br_iff.2 ⟨fun q => by simp at q, fun _ => ⟨⟨0, by omega, ⟨rfl, trivial⟩, rfl⟩, fun k hk => br_iff.2 ⟨fun h2 => ?_, fun h2 => ⟨trivial, rfl, rfl⟩⟩⟩⟩⟩
  simp only [decide_eq_true_eq] at h2
  refine ⟨by omega, fun d hd => ⟨by omega, fun d1 hd1 => br_iff.2 ⟨fun q => ?_, fun q => ⟨InR_i64.2 (by omega), k + 1, by omega, ⟨rfl, trivial⟩, rfl, by omega⟩⟩⟩⟩
  rw [hd] at hd1; cases hd1
  simp at q
set_option maxHeartbeats 2000000 in
set_option maxRecDepth 100000 in
theorem f5_met : Go.Eng.Met Tryd.prog cx0.gd 5 ctL5 :=
  met_of (cx := cx0) (n := 48) (cl := cl5) (by kernel_rfl) tis_ok ⟨f9_met, f10_met, f17_met, f18_met, trivial⟩ Tryd.func5 (by kernel_rfl) (by kernel_rfl) rfl (by kernel_rfl) (by kernel_rfl) fun d hd => by
    obtain ⟨⟨vs, ms, cs, fs, ts, ⟨⟩⟩, ⟨⟩⟩ := d
    exact ex_of (ann5 vs ms cs fs ts) (f5_vc vs ms cs fs ts) (by kernel_rfl)
def bitS (set f : Int) : Int := bitop .and .u8 (shrv .u8 set f) 1
def okS (fs : List FD) (set : Int) (k g : Nat) : Prop := ∀ x, fs[k]? = some x → spwS x.2.1 g = true → bitS set k = 0 ∨ bitS set g = 1
@[reducible] def ctL6 : CT := { ps := [shP, .int .u8], pre := fun d => True, res := fun d => ([], vB true) }
@[reducible] noncomputable def cl6 : List (Nat × CT) := [(9, ctSm), (10, ctLiv), (17, ctRch), (14, ctrVld), (19, ctSpw), (20, ctHasL)]
@[reducible] def ann6 (vs : List VD) (ms : List ByteArray) (cs : List ByteArray) (fs : List FD) (ts : List SD) (set : Int) : Nat → Option (St → Ann) := fun k => match k with
  | 8 => some fun _ => .inv { α := Nat × Bool, slots := fun x => [(8, .c (.v (.int .i64 x.1))), (7, .c (.v (.bool x.2)))], res := fun k => [], inv := fun x => x.1 ≤ fs.length ∧ (x.2 = true → ∀ k < x.1, ∀ g < fs.length, okS fs set k g), meas := fun x => fs.length - x.1 }
  | 11 => some fun s => .inv { α := Nat × Bool, slots := fun x => [(9, .c (.v (.int .i64 x.1))), (7, .c (.v (.bool x.2)))], res := fun k => [], inv := fun x => x.1 ≤ fs.length ∧ (x.2 = true → (∀ k < (slotI s 8).toNat, ∀ g < fs.length, okS fs set k g) ∧ ∀ g < x.1, okS fs set (slotI s 8).toNat g), meas := fun x => fs.length - x.1 }
  | 18 => some fun s => .inv { α := Nat × Bool, slots := fun x => [(10, .c (.v (.int .i64 x.1))), (7, .c (.v (.bool x.2)))], res := fun k => [], inv := fun x => x.1 ≤ ts.length ∧ (x.2 = true → (∀ k < fs.length, ∀ g < fs.length, okS fs set k g) ∧ ∀ j < x.1, ∀ t, ts[j]? = some t → bitS set t.1 = 1), meas := fun x => ts.length - x.1 }
  | 25 => some fun s => .inv { α := Nat, slots := fun x => [(12, .c (.v (.int .i64 x)))], res := fun k => [], inv := fun x => x ≤ (reachS vs ms cs fs ts).1.length, meas := fun x => (reachS vs ms cs fs ts).1.length - x }
  | _ => none
set_option maxRecDepth 100000 in
theorem f6_vc (vs : List VD) (ms : List ByteArray) (cs : List ByteArray) (fs : List FD) (ts : List SD) (set : Int) :
    True ∧ ((!!smS vs ms cs fs ts) = true → vs.length ≤ (1000000 : Nat) ∧ ms.length ≤ (1000000 : Nat) ∧ cs.length ≤ (1000000 : Nat) ∧ fs.length ≤ (1000000 : Nat) ∧ ts.length ≤ (1000000 : Nat) ∧ (∀ (x : Sh.str.den × (((Sh.int IntKind.i64).pair ((Sh.int IntKind.i64).pair ((Sh.int IntKind.i64).pair ((Sh.int IntKind.i64).pair ((Sh.int IntKind.i64).pair ((Sh.int IntKind.i64).pair ((Sh.int IntKind.i64).pair ((Sh.int IntKind.i64).pair Sh.unit)))))))).sl.pair Sh.unit).den), x ∈ fs → List.length x.snd.fst ≤ (1000000 : Nat)) ∧ (instL fs).length ≤ (1000000 : Nat)) ∧ br (!smS vs ms cs fs ts || !decide ((chkP vs ms cs fs ts).fst = (0 : Int))) (True ∧ ([] : List Go.Eng.Res) = [] ∧ Ent.one (SV.c (SC.v (Value.bool true))) = Ent.one (SV.c (SC.v (Value.bool true)))) ((vs.length ≤ (1000000 : Nat) ∧ ms.length ≤ (1000000 : Nat) ∧ cs.length ≤ (1000000 : Nat) ∧ fs.length ≤ (1000000 : Nat) ∧ ts.length ≤ (1000000 : Nat) ∧ (∀ (x : Sh.str.den × (((Sh.int IntKind.i64).pair ((Sh.int IntKind.i64).pair ((Sh.int IntKind.i64).pair ((Sh.int IntKind.i64).pair ((Sh.int IntKind.i64).pair ((Sh.int IntKind.i64).pair ((Sh.int IntKind.i64).pair ((Sh.int IntKind.i64).pair Sh.unit)))))))).sl.pair Sh.unit).den), x ∈ fs → List.length x.snd.fst ≤ (1000000 : Nat)) ∧ (instL fs).length ≤ (1000000 : Nat)) ∧ br (!decide ((reachS vs ms cs fs ts).snd = (0 : Int))) (([] : List Go.Eng.Res) = [] ∧ Ent.one (SV.c (SC.v (Value.bool true))) = Ent.one (SV.c (SC.v (Value.bool false)))) ((∃ (x : Nat × Bool), (x.fst ≤ fs.length ∧ (x.snd = true → ∀ (k : Nat), k < x.fst → ∀ (g : Nat), g < fs.length → okS fs set k g)) ∧ (SV.c (SC.v (Value.int IntKind.i64 (0 : Int))) = SV.c (SC.v (Value.int IntKind.i64 (↑x.fst : Int))) ∧ SV.c (SC.v (Value.bool true)) = SV.c (SC.v (Value.bool x.snd)) ∧ True) ∧ [(([] : Go.Eng.Gd), Res.blk (27 : Nat) [SC.sl (Sh.str.pair ((Sh.int IntKind.i64).pair Sh.unit)) vs, SC.sl Sh.str ms, SC.sl Sh.str cs, SC.sl (Sh.str.pair (((Sh.int IntKind.i64).pair ((Sh.int IntKind.i64).pair ((Sh.int IntKind.i64).pair ((Sh.int IntKind.i64).pair ((Sh.int IntKind.i64).pair ((Sh.int IntKind.i64).pair ((Sh.int IntKind.i64).pair ((Sh.int IntKind.i64).pair Sh.unit)))))))).sl.pair Sh.unit)) fs, SC.sl ((Sh.int IntKind.i64).pair ((Sh.int IntKind.i64).pair Sh.unit)) ts])] = [(([] : Go.Eng.Gd), Res.blk (27 : Nat) [SC.sl (Sh.str.pair ((Sh.int IntKind.i64).pair Sh.unit)) vs, SC.sl Sh.str ms, SC.sl Sh.str cs, SC.sl (Sh.str.pair (((Sh.int IntKind.i64).pair ((Sh.int IntKind.i64).pair ((Sh.int IntKind.i64).pair ((Sh.int IntKind.i64).pair ((Sh.int IntKind.i64).pair ((Sh.int IntKind.i64).pair ((Sh.int IntKind.i64).pair ((Sh.int IntKind.i64).pair Sh.unit)))))))).sl.pair Sh.unit)) fs, SC.sl ((Sh.int IntKind.i64).pair ((Sh.int IntKind.i64).pair Sh.unit)) ts])]) ∧ ∀ (x : Nat × Bool), x.fst ≤ fs.length ∧ (x.snd = true → ∀ (k : Nat), k < x.fst → ∀ (g : Nat), g < fs.length → okS fs set k g) → br (decide ((↑x.fst : Int) < (↑fs.length : Int))) ((∃ (x_1 : Nat × Bool), (x_1.fst ≤ fs.length ∧ (x_1.snd = true → (∀ (k : Nat), k < (↑x.fst : Int).toNat → ∀ (g : Nat), g < fs.length → okS fs set k g) ∧ ∀ (g : Nat), g < x_1.fst → okS fs set (↑x.fst : Int).toNat g)) ∧ (SV.c (SC.v (Value.int IntKind.i64 (0 : Int))) = SV.c (SC.v (Value.int IntKind.i64 (↑x_1.fst : Int))) ∧ SV.c (SC.v (Value.bool x.snd)) = SV.c (SC.v (Value.bool x_1.snd)) ∧ True) ∧ [(([] : Go.Eng.Gd), Res.blk (27 : Nat) [SC.sl (Sh.str.pair ((Sh.int IntKind.i64).pair Sh.unit)) vs, SC.sl Sh.str ms, SC.sl Sh.str cs, SC.sl (Sh.str.pair (((Sh.int IntKind.i64).pair ((Sh.int IntKind.i64).pair ((Sh.int IntKind.i64).pair ((Sh.int IntKind.i64).pair ((Sh.int IntKind.i64).pair ((Sh.int IntKind.i64).pair ((Sh.int IntKind.i64).pair ((Sh.int IntKind.i64).pair Sh.unit)))))))).sl.pair Sh.unit)) fs, SC.sl ((Sh.int IntKind.i64).pair ((Sh.int IntKind.i64).pair Sh.unit)) ts])] = [(([] : Go.Eng.Gd), Res.blk (27 : Nat) [SC.sl (Sh.str.pair ((Sh.int IntKind.i64).pair Sh.unit)) vs, SC.sl Sh.str ms, SC.sl Sh.str cs, SC.sl (Sh.str.pair (((Sh.int IntKind.i64).pair ((Sh.int IntKind.i64).pair ((Sh.int IntKind.i64).pair ((Sh.int IntKind.i64).pair ((Sh.int IntKind.i64).pair ((Sh.int IntKind.i64).pair ((Sh.int IntKind.i64).pair ((Sh.int IntKind.i64).pair Sh.unit)))))))).sl.pair Sh.unit)) fs, SC.sl ((Sh.int IntKind.i64).pair ((Sh.int IntKind.i64).pair Sh.unit)) ts])]) ∧ ∀ (x_1 : Nat × Bool), x_1.fst ≤ fs.length ∧ (x_1.snd = true → (∀ (k : Nat), k < (↑x.fst : Int).toNat → ∀ (g : Nat), g < fs.length → okS fs set k g) ∧ ∀ (g : Nat), g < x_1.fst → okS fs set (↑x.fst : Int).toNat g) → br (decide ((↑x_1.fst : Int) < (↑fs.length : Int))) (((0 : Int) ≤ (↑x.fst : Int) ∧ (↑x.fst : Int) < (↑fs.length : Int)) ∧ ∀ (d : Sh.str.den × (((Sh.int IntKind.i64).pair ((Sh.int IntKind.i64).pair ((Sh.int IntKind.i64).pair ((Sh.int IntKind.i64).pair ((Sh.int IntKind.i64).pair ((Sh.int IntKind.i64).pair ((Sh.int IntKind.i64).pair ((Sh.int IntKind.i64).pair Sh.unit)))))))).sl.pair Sh.unit).den), fs[(↑x.fst : Int).toNat]? = some d → List.length (d.snd.fst, ()).fst ≤ (1000000 : Nat) ∧ br (spwS (d.snd.fst, ()).fst (↑x_1.fst : Int)) (List.length ((reachS vs ms cs fs ts).fst, (↑x.fst : Int), ()).fst ≤ (1000000 : Nat) ∧ (hasI ((reachS vs ms cs fs ts).fst, (↑x.fst : Int), ()).fst (↑x.fst : Int) = true → List.length ((reachS vs ms cs fs ts).fst, (↑x_1.fst : Int), ()).fst ≤ (1000000 : Nat)) ∧ br (hasI ((reachS vs ms cs fs ts).fst, (↑x.fst : Int), ()).fst (↑x.fst : Int) && !hasI ((reachS vs ms cs fs ts).fst, (↑x_1.fst : Int), ()).fst (↑x_1.fst : Int)) (([] : List Go.Eng.Res) = [] ∧ Ent.one (SV.c (SC.v (Value.bool true))) = Ent.one (SV.c (SC.v (Value.bool false)))) ((x_1.snd = true → (0 : Int) ≤ (↑x.fst : Int)) ∧ ((!decide (bitop BinOp.and IntKind.u8 (shrv IntKind.u8 set (↑x.fst : Int)) (1 : Int) = (0 : Int)) && x_1.snd) = true → (0 : Int) ≤ (↑x_1.fst : Int)) ∧ InR IntKind.i64 ((↑x_1.fst : Int) + (1 : Int)) ∧ ∃ (x' : Nat × Bool), (x'.fst ≤ fs.length ∧ (x'.snd = true → (∀ (k : Nat), k < (↑x.fst : Int).toNat → ∀ (g : Nat), g < fs.length → okS fs set k g) ∧ ∀ (g : Nat), g < x'.fst → okS fs set (↑x.fst : Int).toNat g)) ∧ (SV.c (SC.v (Value.int IntKind.i64 ((↑x_1.fst : Int) + (1 : Int)))) = SV.c (SC.v (Value.int IntKind.i64 (↑x'.fst : Int))) ∧ SV.c (SC.v (Value.bool (x_1.snd && (decide (bitop BinOp.and IntKind.u8 (shrv IntKind.u8 set (↑x.fst : Int)) (1 : Int) = (0 : Int)) || decide (bitop BinOp.and IntKind.u8 (shrv IntKind.u8 set (↑x_1.fst : Int)) (1 : Int) = (1 : Int)))))) = SV.c (SC.v (Value.bool x'.snd)) ∧ True) ∧ [(([] : Go.Eng.Gd), Res.blk (27 : Nat) [SC.sl (Sh.str.pair ((Sh.int IntKind.i64).pair Sh.unit)) vs, SC.sl Sh.str ms, SC.sl Sh.str cs, SC.sl (Sh.str.pair (((Sh.int IntKind.i64).pair ((Sh.int IntKind.i64).pair ((Sh.int IntKind.i64).pair ((Sh.int IntKind.i64).pair ((Sh.int IntKind.i64).pair ((Sh.int IntKind.i64).pair ((Sh.int IntKind.i64).pair ((Sh.int IntKind.i64).pair Sh.unit)))))))).sl.pair Sh.unit)) fs, SC.sl ((Sh.int IntKind.i64).pair ((Sh.int IntKind.i64).pair Sh.unit)) ts])] = [(([] : Go.Eng.Gd), Res.blk (27 : Nat) [SC.sl (Sh.str.pair ((Sh.int IntKind.i64).pair Sh.unit)) vs, SC.sl Sh.str ms, SC.sl Sh.str cs, SC.sl (Sh.str.pair (((Sh.int IntKind.i64).pair ((Sh.int IntKind.i64).pair ((Sh.int IntKind.i64).pair ((Sh.int IntKind.i64).pair ((Sh.int IntKind.i64).pair ((Sh.int IntKind.i64).pair ((Sh.int IntKind.i64).pair ((Sh.int IntKind.i64).pair Sh.unit)))))))).sl.pair Sh.unit)) fs, SC.sl ((Sh.int IntKind.i64).pair ((Sh.int IntKind.i64).pair Sh.unit)) ts])] ∧ fs.length - x'.fst < fs.length - x_1.fst)) (InR IntKind.i64 ((↑x_1.fst : Int) + (1 : Int)) ∧ ∃ (x' : Nat × Bool), (x'.fst ≤ fs.length ∧ (x'.snd = true → (∀ (k : Nat), k < (↑x.fst : Int).toNat → ∀ (g : Nat), g < fs.length → okS fs set k g) ∧ ∀ (g : Nat), g < x'.fst → okS fs set (↑x.fst : Int).toNat g)) ∧ (SV.c (SC.v (Value.int IntKind.i64 ((↑x_1.fst : Int) + (1 : Int)))) = SV.c (SC.v (Value.int IntKind.i64 (↑x'.fst : Int))) ∧ SV.c (SC.v (Value.bool x_1.snd)) = SV.c (SC.v (Value.bool x'.snd)) ∧ True) ∧ [(([] : Go.Eng.Gd), Res.blk (27 : Nat) [SC.sl (Sh.str.pair ((Sh.int IntKind.i64).pair Sh.unit)) vs, SC.sl Sh.str ms, SC.sl Sh.str cs, SC.sl (Sh.str.pair (((Sh.int IntKind.i64).pair ((Sh.int IntKind.i64).pair ((Sh.int IntKind.i64).pair ((Sh.int IntKind.i64).pair ((Sh.int IntKind.i64).pair ((Sh.int IntKind.i64).pair ((Sh.int IntKind.i64).pair ((Sh.int IntKind.i64).pair Sh.unit)))))))).sl.pair Sh.unit)) fs, SC.sl ((Sh.int IntKind.i64).pair ((Sh.int IntKind.i64).pair Sh.unit)) ts])] = [(([] : Go.Eng.Gd), Res.blk (27 : Nat) [SC.sl (Sh.str.pair ((Sh.int IntKind.i64).pair Sh.unit)) vs, SC.sl Sh.str ms, SC.sl Sh.str cs, SC.sl (Sh.str.pair (((Sh.int IntKind.i64).pair ((Sh.int IntKind.i64).pair ((Sh.int IntKind.i64).pair ((Sh.int IntKind.i64).pair ((Sh.int IntKind.i64).pair ((Sh.int IntKind.i64).pair ((Sh.int IntKind.i64).pair ((Sh.int IntKind.i64).pair Sh.unit)))))))).sl.pair Sh.unit)) fs, SC.sl ((Sh.int IntKind.i64).pair ((Sh.int IntKind.i64).pair Sh.unit)) ts])] ∧ fs.length - x'.fst < fs.length - x_1.fst)) (InR IntKind.i64 ((↑x.fst : Int) + (1 : Int)) ∧ ∃ (x' : Nat × Bool), (x'.fst ≤ fs.length ∧ (x'.snd = true → ∀ (k : Nat), k < x'.fst → ∀ (g : Nat), g < fs.length → okS fs set k g)) ∧ (SV.c (SC.v (Value.int IntKind.i64 ((↑x.fst : Int) + (1 : Int)))) = SV.c (SC.v (Value.int IntKind.i64 (↑x'.fst : Int))) ∧ SV.c (SC.v (Value.bool x_1.snd)) = SV.c (SC.v (Value.bool x'.snd)) ∧ True) ∧ [(([] : Go.Eng.Gd), Res.blk (27 : Nat) [SC.sl (Sh.str.pair ((Sh.int IntKind.i64).pair Sh.unit)) vs, SC.sl Sh.str ms, SC.sl Sh.str cs, SC.sl (Sh.str.pair (((Sh.int IntKind.i64).pair ((Sh.int IntKind.i64).pair ((Sh.int IntKind.i64).pair ((Sh.int IntKind.i64).pair ((Sh.int IntKind.i64).pair ((Sh.int IntKind.i64).pair ((Sh.int IntKind.i64).pair ((Sh.int IntKind.i64).pair Sh.unit)))))))).sl.pair Sh.unit)) fs, SC.sl ((Sh.int IntKind.i64).pair ((Sh.int IntKind.i64).pair Sh.unit)) ts])] = [(([] : Go.Eng.Gd), Res.blk (27 : Nat) [SC.sl (Sh.str.pair ((Sh.int IntKind.i64).pair Sh.unit)) vs, SC.sl Sh.str ms, SC.sl Sh.str cs, SC.sl (Sh.str.pair (((Sh.int IntKind.i64).pair ((Sh.int IntKind.i64).pair ((Sh.int IntKind.i64).pair ((Sh.int IntKind.i64).pair ((Sh.int IntKind.i64).pair ((Sh.int IntKind.i64).pair ((Sh.int IntKind.i64).pair ((Sh.int IntKind.i64).pair Sh.unit)))))))).sl.pair Sh.unit)) fs, SC.sl ((Sh.int IntKind.i64).pair ((Sh.int IntKind.i64).pair Sh.unit)) ts])] ∧ fs.length - x'.fst < fs.length - x.fst)) ((∃ (x_1 : Nat × Bool), (x_1.fst ≤ ts.length ∧ (x_1.snd = true → (∀ (k : Nat), k < fs.length → ∀ (g : Nat), g < fs.length → okS fs set k g) ∧ ∀ (j : Nat), j < x_1.fst → ∀ (t : Int × Int × Unit), ts[j]? = some t → bitS set t.fst = (1 : Int))) ∧ (SV.c (SC.v (Value.int IntKind.i64 (0 : Int))) = SV.c (SC.v (Value.int IntKind.i64 (↑x_1.fst : Int))) ∧ SV.c (SC.v (Value.bool x.snd)) = SV.c (SC.v (Value.bool x_1.snd)) ∧ True) ∧ [(([] : Go.Eng.Gd), Res.blk (27 : Nat) [SC.sl (Sh.str.pair ((Sh.int IntKind.i64).pair Sh.unit)) vs, SC.sl Sh.str ms, SC.sl Sh.str cs, SC.sl (Sh.str.pair (((Sh.int IntKind.i64).pair ((Sh.int IntKind.i64).pair ((Sh.int IntKind.i64).pair ((Sh.int IntKind.i64).pair ((Sh.int IntKind.i64).pair ((Sh.int IntKind.i64).pair ((Sh.int IntKind.i64).pair ((Sh.int IntKind.i64).pair Sh.unit)))))))).sl.pair Sh.unit)) fs, SC.sl ((Sh.int IntKind.i64).pair ((Sh.int IntKind.i64).pair Sh.unit)) ts])] = [(([] : Go.Eng.Gd), Res.blk (27 : Nat) [SC.sl (Sh.str.pair ((Sh.int IntKind.i64).pair Sh.unit)) vs, SC.sl Sh.str ms, SC.sl Sh.str cs, SC.sl (Sh.str.pair (((Sh.int IntKind.i64).pair ((Sh.int IntKind.i64).pair ((Sh.int IntKind.i64).pair ((Sh.int IntKind.i64).pair ((Sh.int IntKind.i64).pair ((Sh.int IntKind.i64).pair ((Sh.int IntKind.i64).pair ((Sh.int IntKind.i64).pair Sh.unit)))))))).sl.pair Sh.unit)) fs, SC.sl ((Sh.int IntKind.i64).pair ((Sh.int IntKind.i64).pair Sh.unit)) ts])]) ∧ ∀ (x : Nat × Bool), x.fst ≤ ts.length ∧ (x.snd = true → (∀ (k : Nat), k < fs.length → ∀ (g : Nat), g < fs.length → okS fs set k g) ∧ ∀ (j : Nat), j < x.fst → ∀ (t : Int × Int × Unit), ts[j]? = some t → bitS set t.fst = (1 : Int)) → br (decide ((↑x.fst : Int) < (↑ts.length : Int))) (((0 : Int) ≤ (↑x.fst : Int) ∧ (↑x.fst : Int) < (↑ts.length : Int)) ∧ ∀ (d : (Sh.int IntKind.i64).den × ((Sh.int IntKind.i64).pair Sh.unit).den), ts[(↑x.fst : Int).toNat]? = some d → List.length ((reachS vs ms cs fs ts).fst, d.fst, ()).fst ≤ (1000000 : Nat) ∧ br (!hasI ((reachS vs ms cs fs ts).fst, d.fst, ()).fst (d.fst, ()).fst) (([] : List Go.Eng.Res) = [] ∧ Ent.one (SV.c (SC.v (Value.bool true))) = Ent.one (SV.c (SC.v (Value.bool false)))) ((x.snd = true → (0 : Int) ≤ d.fst) ∧ InR IntKind.i64 ((↑x.fst : Int) + (1 : Int)) ∧ ∃ (x' : Nat × Bool), (x'.fst ≤ ts.length ∧ (x'.snd = true → (∀ (k : Nat), k < fs.length → ∀ (g : Nat), g < fs.length → okS fs set k g) ∧ ∀ (j : Nat), j < x'.fst → ∀ (t : Int × Int × Unit), ts[j]? = some t → bitS set t.fst = (1 : Int))) ∧ (SV.c (SC.v (Value.int IntKind.i64 ((↑x.fst : Int) + (1 : Int)))) = SV.c (SC.v (Value.int IntKind.i64 (↑x'.fst : Int))) ∧ SV.c (SC.v (Value.bool (x.snd && decide (bitop BinOp.and IntKind.u8 (shrv IntKind.u8 set d.fst) (1 : Int) = (1 : Int))))) = SV.c (SC.v (Value.bool x'.snd)) ∧ True) ∧ [(([] : Go.Eng.Gd), Res.blk (27 : Nat) [SC.sl (Sh.str.pair ((Sh.int IntKind.i64).pair Sh.unit)) vs, SC.sl Sh.str ms, SC.sl Sh.str cs, SC.sl (Sh.str.pair (((Sh.int IntKind.i64).pair ((Sh.int IntKind.i64).pair ((Sh.int IntKind.i64).pair ((Sh.int IntKind.i64).pair ((Sh.int IntKind.i64).pair ((Sh.int IntKind.i64).pair ((Sh.int IntKind.i64).pair ((Sh.int IntKind.i64).pair Sh.unit)))))))).sl.pair Sh.unit)) fs, SC.sl ((Sh.int IntKind.i64).pair ((Sh.int IntKind.i64).pair Sh.unit)) ts])] = [(([] : Go.Eng.Gd), Res.blk (27 : Nat) [SC.sl (Sh.str.pair ((Sh.int IntKind.i64).pair Sh.unit)) vs, SC.sl Sh.str ms, SC.sl Sh.str cs, SC.sl (Sh.str.pair (((Sh.int IntKind.i64).pair ((Sh.int IntKind.i64).pair ((Sh.int IntKind.i64).pair ((Sh.int IntKind.i64).pair ((Sh.int IntKind.i64).pair ((Sh.int IntKind.i64).pair ((Sh.int IntKind.i64).pair ((Sh.int IntKind.i64).pair Sh.unit)))))))).sl.pair Sh.unit)) fs, SC.sl ((Sh.int IntKind.i64).pair ((Sh.int IntKind.i64).pair Sh.unit)) ts])] ∧ ts.length - x'.fst < ts.length - x.fst)) ((∃ x, x ≤ (reachS vs ms cs fs ts).fst.length ∧ (SV.c (SC.v (Value.int IntKind.i64 (0 : Int))) = SV.c (SC.v (Value.int IntKind.i64 (↑x : Int))) ∧ True) ∧ [(([] : Go.Eng.Gd), Res.blk (27 : Nat) [SC.sl (Sh.str.pair ((Sh.int IntKind.i64).pair Sh.unit)) vs, SC.sl Sh.str ms, SC.sl Sh.str cs, SC.sl (Sh.str.pair (((Sh.int IntKind.i64).pair ((Sh.int IntKind.i64).pair ((Sh.int IntKind.i64).pair ((Sh.int IntKind.i64).pair ((Sh.int IntKind.i64).pair ((Sh.int IntKind.i64).pair ((Sh.int IntKind.i64).pair ((Sh.int IntKind.i64).pair Sh.unit)))))))).sl.pair Sh.unit)) fs, SC.sl ((Sh.int IntKind.i64).pair ((Sh.int IntKind.i64).pair Sh.unit)) ts])] = [(([] : Go.Eng.Gd), Res.blk (27 : Nat) [SC.sl (Sh.str.pair ((Sh.int IntKind.i64).pair Sh.unit)) vs, SC.sl Sh.str ms, SC.sl Sh.str cs, SC.sl (Sh.str.pair (((Sh.int IntKind.i64).pair ((Sh.int IntKind.i64).pair ((Sh.int IntKind.i64).pair ((Sh.int IntKind.i64).pair ((Sh.int IntKind.i64).pair ((Sh.int IntKind.i64).pair ((Sh.int IntKind.i64).pair ((Sh.int IntKind.i64).pair Sh.unit)))))))).sl.pair Sh.unit)) fs, SC.sl ((Sh.int IntKind.i64).pair ((Sh.int IntKind.i64).pair Sh.unit)) ts])]) ∧ ∀ (x_1 : Nat), x_1 ≤ (reachS vs ms cs fs ts).fst.length → br (decide ((↑x_1 : Int) < (↑(reachS vs ms cs fs ts).fst.length : Int))) (((0 : Int) ≤ (↑x_1 : Int) ∧ (↑x_1 : Int) < (↑(reachS vs ms cs fs ts).fst.length : Int)) ∧ ∀ (d : Int), (reachS vs ms cs fs ts).fst[(↑x_1 : Int).toNat]? = some d → ((!decide (d < (0 : Int))) = true → (0 : Int) ≤ (↑x_1 : Int) ∧ (↑x_1 : Int) < (↑(reachS vs ms cs fs ts).fst.length : Int)) ∧ ∀ (d_1 : Int), ((!decide (d < (0 : Int))) = true → (reachS vs ms cs fs ts).fst[(↑x_1 : Int).toNat]? = some d_1) → ((decide ((0 : Int) < (↑x_1 : Int)) && !(decide (d < (0 : Int)) || decide ((↑fs.length : Int) ≤ d_1))) = true → InR IntKind.i64 ((↑x_1 : Int) - (1 : Int))) ∧ ((decide ((0 : Int) < (↑x_1 : Int)) && !(decide (d < (0 : Int)) || decide ((↑fs.length : Int) ≤ d_1))) = true → (0 : Int) ≤ (↑x_1 : Int) - (1 : Int) ∧ (↑x_1 : Int) - (1 : Int) < (↑(reachS vs ms cs fs ts).fst.length : Int)) ∧ ∀ (d_2 : Int), ((decide ((0 : Int) < (↑x_1 : Int)) && !(decide (d < (0 : Int)) || decide ((↑fs.length : Int) ≤ d_1))) = true → (reachS vs ms cs fs ts).fst[((↑x_1 : Int) - (1 : Int)).toNat]? = some d_2) → ((decide ((0 : Int) < (↑x_1 : Int)) && !(decide (d < (0 : Int)) || decide ((↑fs.length : Int) ≤ d_1))) = true → (0 : Int) ≤ (↑x_1 : Int) ∧ (↑x_1 : Int) < (↑(reachS vs ms cs fs ts).fst.length : Int)) ∧ ∀ (d_3 : Int), ((decide ((0 : Int) < (↑x_1 : Int)) && !(decide (d < (0 : Int)) || decide ((↑fs.length : Int) ≤ d_1))) = true → (reachS vs ms cs fs ts).fst[(↑x_1 : Int).toNat]? = some d_3) → ((x.snd && !(decide (d < (0 : Int)) || decide ((↑fs.length : Int) ≤ d_1) || decide ((0 : Int) < (↑x_1 : Int)) && decide (d_3 ≤ d_2))) = true → (0 : Int) ≤ (↑x_1 : Int) ∧ (↑x_1 : Int) < (↑(reachS vs ms cs fs ts).fst.length : Int)) ∧ ∀ (d_4 : Int), ((x.snd && !(decide (d < (0 : Int)) || decide ((↑fs.length : Int) ≤ d_1) || decide ((0 : Int) < (↑x_1 : Int)) && decide (d_3 ≤ d_2))) = true → (reachS vs ms cs fs ts).fst[(↑x_1 : Int).toNat]? = some d_4) → ((x.snd && !(decide (d < (0 : Int)) || decide ((↑fs.length : Int) ≤ d_1) || decide ((0 : Int) < (↑x_1 : Int)) && decide (d_3 ≤ d_2))) = true → (0 : Int) ≤ d_4) ∧ br (decide (d < (0 : Int)) || decide ((↑fs.length : Int) ≤ d_1) || decide ((0 : Int) < (↑x_1 : Int)) && decide (d_3 ≤ d_2) || x.snd && decide (bitop BinOp.and IntKind.u8 (shrv IntKind.u8 set d_4) (1 : Int) = (0 : Int))) (([] : List Go.Eng.Res) = [] ∧ Ent.one (SV.c (SC.v (Value.bool true))) = Ent.one (SV.c (SC.v (Value.bool false)))) (InR IntKind.i64 ((↑x_1 : Int) + (1 : Int)) ∧ ∃ x', x' ≤ (reachS vs ms cs fs ts).fst.length ∧ (SV.c (SC.v (Value.int IntKind.i64 ((↑x_1 : Int) + (1 : Int)))) = SV.c (SC.v (Value.int IntKind.i64 (↑x' : Int))) ∧ True) ∧ [(([] : Go.Eng.Gd), Res.blk (27 : Nat) [SC.sl (Sh.str.pair ((Sh.int IntKind.i64).pair Sh.unit)) vs, SC.sl Sh.str ms, SC.sl Sh.str cs, SC.sl (Sh.str.pair (((Sh.int IntKind.i64).pair ((Sh.int IntKind.i64).pair ((Sh.int IntKind.i64).pair ((Sh.int IntKind.i64).pair ((Sh.int IntKind.i64).pair ((Sh.int IntKind.i64).pair ((Sh.int IntKind.i64).pair ((Sh.int IntKind.i64).pair Sh.unit)))))))).sl.pair Sh.unit)) fs, SC.sl ((Sh.int IntKind.i64).pair ((Sh.int IntKind.i64).pair Sh.unit)) ts])] = [(([] : Go.Eng.Gd), Res.blk (27 : Nat) [SC.sl (Sh.str.pair ((Sh.int IntKind.i64).pair Sh.unit)) vs, SC.sl Sh.str ms, SC.sl Sh.str cs, SC.sl (Sh.str.pair (((Sh.int IntKind.i64).pair ((Sh.int IntKind.i64).pair ((Sh.int IntKind.i64).pair ((Sh.int IntKind.i64).pair ((Sh.int IntKind.i64).pair ((Sh.int IntKind.i64).pair ((Sh.int IntKind.i64).pair ((Sh.int IntKind.i64).pair Sh.unit)))))))).sl.pair Sh.unit)) fs, SC.sl ((Sh.int IntKind.i64).pair ((Sh.int IntKind.i64).pair Sh.unit)) ts])] ∧ (reachS vs ms cs fs ts).fst.length - x' < (reachS vs ms cs fs ts).fst.length - x_1)) (True ∧ ([] : List Go.Eng.Res) = [] ∧ Ent.one (SV.c (SC.v (Value.bool true))) = Ent.one (SV.c (SC.v (Value.bool true)))))))) := by
  refine ⟨trivial, fun h => small_bnd (by simpa using h), br_iff.2 ⟨fun _ => ⟨trivial, rfl, rfl⟩, fun h => ?_⟩⟩
  obtain ⟨h1, h2⟩ : smS vs ms cs fs ts = true ∧ (chkP vs ms cs fs ts).1 = 0 := by simpa using h
  have hb := small_bnd h1
  obtain ⟨R, hR, r1, r2, r3, r4, r5⟩ := reach_valid h2
  obtain ⟨c1, c2, c3⟩ := chk_zero h2
  have hf := co_len c1
  have hR8 : R.length ≤ 8 := Nat.le_trans (ss_short r1 r2) hf
  have hR6 : R.length ≤ 1000000 := by omega
  have hts : ts.length ≤ 1000000 := hb.2.2.2.2.1
  have hcl : ∀ x ∈ fs, x.2.1.length ≤ 1000000 := hb.2.2.2.2.2.1
  rw [hR]
  refine ⟨hb, br_iff.2 ⟨fun q => by simp at q, fun _ => ⟨⟨(0, true), ⟨by omega, fun _ k hk => by omega⟩, ⟨rfl, rfl, trivial⟩, rfl⟩, fun x hx => ?_⟩⟩⟩
  obtain ⟨x1, x2⟩ := hx
  refine br_iff.2 ⟨fun h => ?_, fun h => ?_⟩
  · simp only [decide_eq_true_eq] at h
    refine ⟨⟨(0, x.2), ⟨by omega, fun q => ⟨x2 q, fun g hg => by omega⟩⟩, ⟨rfl, rfl, trivial⟩, rfl⟩, fun y hy => ?_⟩
    obtain ⟨y1, y2⟩ := hy
    refine br_iff.2 ⟨fun h3 => ?_, fun h3 => ?_⟩
    · simp only [decide_eq_true_eq] at h3
      refine ⟨by omega, fun d hd => ⟨hcl _ (List.mem_of_getElem? hd), br_iff.2 ⟨fun q => ?_, fun q => ?_⟩⟩⟩
      · have hd : fs[x.1]? = some d := hd
        have q : spwS d.2.1 y.1 = true := q
        refine ⟨hR6, fun _ => hR6, br_iff.2 ⟨fun q2 => ?_, fun q2 => ⟨fun _ => by omega, fun _ => by omega, InR_i64.2 (by omega), (y.1 + 1, y.2 && (decide (bitS set x.1 = 0) || decide (bitS set y.1 = 1))), ⟨by omega, fun q3 => ?_⟩, ⟨rfl, rfl, trivial⟩, rfl, by omega⟩⟩⟩
        · exfalso
          rw [Bool.and_eq_true] at q2
          have q3 : (x.1 : Int) ∈ R := hasI_iff.1 q2.1
          have q4 := hasI_iff.2 (clo_iff.1 r4 x.1 d y.1 hd q q3)
          have q5 : (!hasI R y.1) = true := q2.2
          rw [q4] at q5; cases q5
        · have q3 : (y.2 && (decide (bitS set x.1 = 0) || decide (bitS set y.1 = 1))) = true := q3
          simp only [Bool.and_eq_true, Bool.or_eq_true, decide_eq_true_eq] at q3
          refine ⟨(y2 q3.1).1, fun g hg => ?_⟩
          have hg : g < y.1 + 1 := hg
          by_cases e : g = y.1
          · subst e
            exact fun _ _ _ => q3.2
          · exact (y2 q3.1).2 g (by omega)
      · have hd : fs[x.1]? = some d := hd
        have q : spwS d.2.1 y.1 = false := q
        refine ⟨InR_i64.2 (by omega), (y.1 + 1, y.2), ⟨by omega, fun q3 => ⟨(y2 q3).1, fun g hg => ?_⟩⟩, ⟨rfl, rfl, trivial⟩, rfl, by omega⟩
        have hg : g < y.1 + 1 := hg
        by_cases e : g = y.1
        · subst e
          intro z hz hs
          have hz : fs[x.1]? = some z := hz
          rw [hd] at hz; cases hz
          rw [q] at hs; cases hs
        · exact (y2 q3).2 g (by omega)
    · simp only [decide_eq_false_iff_not] at h3
      refine ⟨InR_i64.2 (by omega), (x.1 + 1, y.2), ⟨by omega, fun q3 k hk g hg => ?_⟩, ⟨rfl, rfl, trivial⟩, rfl, by omega⟩
      have hk : k < x.1 + 1 := hk
      by_cases e : k = x.1
      · subst e
        exact (y2 q3).2 g (by omega)
      · exact (y2 q3).1 k (show k < x.1 by omega) g hg
  simp only [decide_eq_false_iff_not] at h
  refine ⟨⟨(0, x.2), ⟨by omega, fun q => ⟨fun k hk => x2 q k (by omega), fun j hj => by omega⟩⟩, ⟨rfl, rfl, trivial⟩, rfl⟩, fun z hz => ?_⟩
  obtain ⟨z1, z2⟩ := hz
  refine br_iff.2 ⟨fun h3 => ?_, fun h3 => ?_⟩
  · simp only [decide_eq_true_eq] at h3
    refine ⟨by omega, fun d hd => ⟨hR6, br_iff.2 ⟨fun q => ?_, fun q => ?_⟩⟩⟩
    · exfalso
      have := hasI_iff.2 (r3 d (List.mem_of_getElem? hd))
      have q : (!hasI R d.1) = true := q
      rw [this] at q; cases q
    · have hd : ts[z.1]? = some d := hd
      refine ⟨fun _ => (r2 _ (r3 d (List.mem_of_getElem? hd))).1, InR_i64.2 (by omega), (z.1 + 1, z.2 && decide (bitS set d.1 = 1)), ⟨by omega, fun q3 => ?_⟩, ⟨rfl, rfl, trivial⟩, rfl, by omega⟩
      have q3 : (z.2 && decide (bitS set d.1 = 1)) = true := q3
      simp only [Bool.and_eq_true, decide_eq_true_eq] at q3
      refine ⟨(z2 q3.1).1, fun j hj t ht => ?_⟩
      have hj : j < z.1 + 1 := hj
      by_cases e : j = z.1
      · subst e
        rw [hd] at ht; cases ht
        exact q3.2
      · exact (z2 q3.1).2 j (by omega) t ht
  simp only [decide_eq_false_iff_not] at h3
  have hm : z.2 = true → ∀ y ∈ R, bitS set y = 1 := fun q y hy => by
    obtain ⟨m1, m2⟩ := z2 q
    refine (r5 (fun y => y ∈ R ∧ bitS set y = 1) (fun t ht => ?_) (clo_iff.2 fun k w g hw hs hM => ?_) y hy).2
    · obtain ⟨j, hj⟩ := List.getElem?_of_mem ht
      exact ⟨r3 t ht, m2 j (by have := (List.getElem?_eq_some_iff.1 hj).1; omega) t hj⟩
    · have hg := clo_iff.1 r4 k w g hw hs hM.1
      have hb2 := r2 _ hg
      have hk := (List.getElem?_eq_some_iff.1 hw).1
      refine ⟨hg, ?_⟩
      rcases m1 k hk g.toNat (by omega) w hw (by rw [Int.toNat_of_nonneg hb2.1]; exact hs) with e | e
      · rw [hM.2] at e; cases e
      · rw [Int.toNat_of_nonneg hb2.1] at e; exact e
  clear z2 x2
  refine ⟨⟨0, by omega, ⟨rfl, trivial⟩, rfl⟩, fun k hk => br_iff.2 ⟨fun h4 => ?_, fun h4 => ⟨trivial, rfl, rfl⟩⟩⟩
  have hk : k ≤ R.length := hk
  have h4 : k < R.length := by simpa using h4
  have e : R[k]? = some R[k] := List.getElem?_eq_getElem h4
  have hin : R[k] ∈ R := List.getElem_mem _
  have hr := r2 _ hin
  generalize R[k] = v at e hin hr
  refine ⟨show (0 : Int) ≤ k ∧ (k : Int) < (R.length : Int) by omega, fun d hd => ?_⟩
  have hd : R[k]? = some d := hd
  rw [e] at hd; cases hd
  refine ⟨fun _ => show (0 : Int) ≤ k ∧ (k : Int) < (R.length : Int) by omega, fun d1 hd1 => ?_⟩
  have hd1 : R[k]? = some d1 := hd1 (by simp; omega)
  rw [e] at hd1; cases hd1
  refine ⟨fun q => InR_i64.2 (by omega), fun q => ?_, fun d2 hd2 => ⟨fun q => show (0 : Int) ≤ k ∧ (k : Int) < (R.length : Int) by omega, fun d3 hd3 => ⟨fun q => show (0 : Int) ≤ k ∧ (k : Int) < (R.length : Int) by omega, fun d4 hd4 => ?_⟩⟩⟩
  · simp at q
    show (0 : Int) ≤ (k : Int) - 1 ∧ (k : Int) - 1 < (R.length : Int)
    omega
  have hlt : (decide (0 < (k : Int)) && decide (d3 ≤ d2)) = false := by
    by_cases hk0 : k = 0
    · subst hk0; simp
    have g : (decide (0 < (k : Int)) && !(decide (v < 0) || decide ((fs.length : Int) ≤ v))) = true := by simp; omega
    have a := hd2 g
    have b : R[k]? = some d3 := hd3 g
    rw [show ((k : Int) - 1).toNat = k - 1 by omega] at a
    have a : R[k - 1]? = some d2 := a
    have := List.pairwise_iff_getElem.1 r1 (k - 1) k (by omega) h4 (by omega)
    rw [List.getElem?_eq_getElem (by omega)] at a b
    cases a; cases b
    simp; omega
  have h5 : (decide (v < 0) || decide ((fs.length : Int) ≤ v) || decide (0 < (k : Int)) && decide (d3 ≤ d2)) = false := by
    rw [hlt]; simp; omega
  have h6 : (z.2 && !(decide (v < 0) || decide ((fs.length : Int) ≤ v) || decide (0 < (k : Int)) && decide (d3 ≤ d2))) = z.2 := by rw [h5]; simp
  rw [h6] at hd4 ⊢
  rw [h5]
  have h7 : z.2 = true → d4 = v := fun q => by
    have : R[k]? = some d4 := hd4 q
    rw [e] at this; cases this; rfl
  refine ⟨fun q => by rw [h7 q]; exact hr.1, br_iff.2 ⟨fun q => ?_, fun q => ⟨InR_i64.2 (by omega), k + 1, show k + 1 ≤ R.length by omega, ⟨rfl, trivial⟩, rfl, show R.length - (k + 1) < R.length - k by omega⟩⟩⟩
  exfalso
  have q : (false || (z.2 && decide (bitS set d4 = 0))) = true := q
  simp only [Bool.false_or, Bool.and_eq_true, decide_eq_true_eq] at q
  have := hm q.1 v hin
  rw [h7 q.1, this] at q
  exact absurd q.2 (by decide)
set_option maxHeartbeats 2000000 in
set_option maxRecDepth 100000 in
theorem f6_met : Go.Eng.Met Tryd.prog cx0.gd 6 ctL6 :=
  met_of (cx := cx0) (n := 150) (cl := cl6) (by kernel_rfl) tis_ok ⟨f9_met, f10_met, f17_met, f14_met, f19_met, f20_met, trivial⟩ Tryd.func6 (by kernel_rfl) (by kernel_rfl) rfl (by kernel_rfl) (by kernel_rfl) fun d hd => by
    obtain ⟨⟨vs, ms, cs, fs, ts, ⟨⟩⟩, set, ⟨⟩⟩ := d
    exact ex_of (ann6 vs ms cs fs ts set) (f6_vc vs ms cs fs ts set) (by kernel_rfl)
end Go.Proofs.YtiikkjlghfhgcaaDoor
