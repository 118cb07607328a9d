/- The Program chapter, part 10: the reference check, the law of the checks. -/
import Derived.Test.YtiikkjlghfhgcaaDoorPK2
set_option linter.unusedSimpArgs false
set_option linter.unusedVariables false
set_option maxRecDepth 100000
namespace Go.Proofs.YtiikkjlghfhgcaaDoor
open Go Go.Eng

theorem chk_cn {vs : List VD} {ms cs : List ByteArray} {fs : List FD} {ts : List SD} (h : (cnS vs ms cs fs).1 ≠ 0) : chkP vs ms cs fs ts = cnS vs ms cs fs := by unfold chkP; rw [if_pos h]
theorem chk_co {vs : List VD} {ms cs : List ByteArray} {fs : List FD} {ts : List SD} (z : (cnS vs ms cs fs).1 = 0) (h : coS vs ms cs fs ≠ 0) : chkP vs ms cs fs ts = (coS vs ms cs fs, -1, -1) := by unfold chkP; rw [if_neg (fun q => q z), if_pos h]
theorem chk_cc {vs : List VD} {ms cs : List ByteArray} {fs : List FD} {ts : List SD} (z : (cnS vs ms cs fs).1 = 0) (z2 : coS vs ms cs fs = 0) (h : (ccS vs ms cs fs).1 ≠ 0) : chkP vs ms cs fs ts = ccS vs ms cs fs := by unfold chkP; rw [if_neg (fun q => q z), if_neg (fun q => q z2), if_pos h]
theorem chk_th {vs : List VD} {ms cs : List ByteArray} {fs : List FD} {ts : List SD} (z : (cnS vs ms cs fs).1 = 0) (z2 : coS vs ms cs fs = 0) (z3 : (ccS vs ms cs fs).1 = 0) : chkP vs ms cs fs ts = (thS fs ts, -1, -1) := by
  unfold chkP; rw [if_neg (fun q => q z), if_neg (fun q => q z2), if_neg (fun q => q z3)]
  split
  · rfl
  · rename_i h; rw [Classical.not_not.1 h]
@[reducible] def ctrChk : CT := { ps := [shP], pre := fun d => bnd d, res := fun d => ([], .tup [.c (.v (.int .i64 (chkP d.1.1 d.1.2.1 d.1.2.2.1 d.1.2.2.2.1 d.1.2.2.2.2.1).1)), .c (.v (.int .i64 (chkP d.1.1 d.1.2.1 d.1.2.2.1 d.1.2.2.2.1 d.1.2.2.2.2.1).2.1)), .c (.v (.int .i64 (chkP d.1.1 d.1.2.1 d.1.2.2.1 d.1.2.2.2.1 d.1.2.2.2.2.1).2.2))]) }
@[reducible] noncomputable def cl12 : List (Nat × CT) := [(36, ctrLs), (37, ctrNms), (38, ctrVal), (39, ctrCd), (40, ctrTh)]
@[reducible] def ann12 (vs : List VD) (ms : List ByteArray) (cs : List ByteArray) (fs : List FD) (ts : List SD) : Nat → Option (St → Ann) := fun k => match k with
  | 17 => some fun _ => .inv { α := Nat, slots := fun k => [(15, .c (.v (.int .i64 k)))], res := fun _ => [], inv := fun k => k ≤ vs.length ∧ ∀ j < k, ∀ v, vs[j]? = some v → valS v.2.1 = true, meas := fun k => vs.length - k }
  | 22 => some fun _ => .inv { α := Nat, slots := fun k => [(16, .c (.v (.int .i64 k)))], res := fun _ => [], inv := fun k => k ≤ fs.length ∧ ∀ j < k, ∀ g, fs[j]? = some g → (cdS vs ms cs fs g.2.1).1 = 0, meas := fun k => fs.length - k }
  | _ => none
set_option maxRecDepth 100000 in
theorem f12_vc (vs : List VD) (ms : List ByteArray) (cs : List ByteArray) (fs : List FD) (ts : List SD) (hpre : ctrChk.pre ((vs, ms, cs, fs, ts, ()), ())) :
    (vs.length ≤ (1000000 : Nat) ∧ fs.length ≤ (1000000 : Nat)) ∧ (nmsV vs).length ≤ (1000000 : Nat) ∧ br (!decide ((nmsE (nmsV vs)).fst = (0 : Int))) (([] : List Go.Eng.Res) = [] ∧ Ent.tup [SV.c (SC.v (Value.int IntKind.i64 (chkP vs ms cs fs ts).fst)), SV.c (SC.v (Value.int IntKind.i64 (chkP vs ms cs fs ts).snd.fst)), SV.c (SC.v (Value.int IntKind.i64 (chkP vs ms cs fs ts).snd.snd))] = Ent.tup [SV.c (SC.v (Value.int IntKind.i64 (nmsE (nmsV vs)).fst)), SV.c (SC.v (Value.int IntKind.i64 (-1 : Int))), SV.c (SC.v (Value.int IntKind.i64 (-1 : Int)))]) (ms.length ≤ (1000000 : Nat) ∧ br (!decide ((nmsE ms).fst = (0 : Int))) (([] : List Go.Eng.Res) = [] ∧ Ent.tup [SV.c (SC.v (Value.int IntKind.i64 (chkP vs ms cs fs ts).fst)), SV.c (SC.v (Value.int IntKind.i64 (chkP vs ms cs fs ts).snd.fst)), SV.c (SC.v (Value.int IntKind.i64 (chkP vs ms cs fs ts).snd.snd))] = Ent.tup [SV.c (SC.v (Value.int IntKind.i64 (nmsE ms).fst)), SV.c (SC.v (Value.int IntKind.i64 (-1 : Int))), SV.c (SC.v (Value.int IntKind.i64 (-1 : Int)))]) (cs.length ≤ (1000000 : Nat) ∧ br (!decide ((nmsE cs).fst = (0 : Int))) (([] : List Go.Eng.Res) = [] ∧ Ent.tup [SV.c (SC.v (Value.int IntKind.i64 (chkP vs ms cs fs ts).fst)), SV.c (SC.v (Value.int IntKind.i64 (chkP vs ms cs fs ts).snd.fst)), SV.c (SC.v (Value.int IntKind.i64 (chkP vs ms cs fs ts).snd.snd))] = Ent.tup [SV.c (SC.v (Value.int IntKind.i64 (nmsE cs).fst)), SV.c (SC.v (Value.int IntKind.i64 (-1 : Int))), SV.c (SC.v (Value.int IntKind.i64 (-1 : Int)))]) ((nmsF fs).length ≤ (1000000 : Nat) ∧ br (!decide ((nmsE (nmsF fs)).fst = (0 : Int))) (([] : List Go.Eng.Res) = [] ∧ Ent.tup [SV.c (SC.v (Value.int IntKind.i64 (chkP vs ms cs fs ts).fst)), SV.c (SC.v (Value.int IntKind.i64 (chkP vs ms cs fs ts).snd.fst)), SV.c (SC.v (Value.int IntKind.i64 (chkP vs ms cs fs ts).snd.snd))] = Ent.tup [SV.c (SC.v (Value.int IntKind.i64 (nmsE (nmsF fs)).fst)), SV.c (SC.v (Value.int IntKind.i64 (if (nmsE (nmsF fs)).fst = (0 : Int) then (0 : Int) else (nmsE (nmsF fs)).snd))), SV.c (SC.v (Value.int IntKind.i64 (-1 : Int)))]) (br (decide ((8 : Int) < (↑vs.length : Int)) || decide ((4 : Int) < (↑ms.length : Int)) || decide ((4 : Int) < (↑cs.length : Int)) || decide ((8 : Int) < (↑fs.length : Int))) (([] : List Go.Eng.Res) = [] ∧ Ent.tup [SV.c (SC.v (Value.int IntKind.i64 (chkP vs ms cs fs ts).fst)), SV.c (SC.v (Value.int IntKind.i64 (chkP vs ms cs fs ts).snd.fst)), SV.c (SC.v (Value.int IntKind.i64 (chkP vs ms cs fs ts).snd.snd))] = Ent.tup [SV.c (SC.v (Value.int IntKind.i64 (4 : Int))), SV.c (SC.v (Value.int IntKind.i64 (-1 : Int))), SV.c (SC.v (Value.int IntKind.i64 (-1 : Int)))]) ((∃ x, (x ≤ vs.length ∧ ∀ (j : Nat), j < x → ∀ (v : ByteArray × Int × Unit), vs[j]? = some v → valS v.snd.fst = true) ∧ (SV.c (SC.v (Value.int IntKind.i64 (0 : Int))) = SV.c (SC.v (Value.int IntKind.i64 (↑x : Int))) ∧ True) ∧ [(([] : Go.Eng.Gd), Res.blk (27 : Nat) [SC.sl (Sh.str.pair ((Sh.int IntKind.i64).pair Sh.unit)) vs, SC.sl Sh.str ms, SC.sl Sh.str cs, SC.sl (Sh.str.pair (((Sh.int IntKind.i64).pair ((Sh.int IntKind.i64).pair ((Sh.int IntKind.i64).pair ((Sh.int IntKind.i64).pair ((Sh.int IntKind.i64).pair ((Sh.int IntKind.i64).pair ((Sh.int IntKind.i64).pair ((Sh.int IntKind.i64).pair Sh.unit)))))))).sl.pair Sh.unit)) fs, SC.sl ((Sh.int IntKind.i64).pair ((Sh.int IntKind.i64).pair Sh.unit)) ts]), (([] : Go.Eng.Gd), Res.row (9 : TypeId) Sh.str (nmsV vs)), (([] : Go.Eng.Gd), Res.row (9 : TypeId) Sh.str (nmsF fs))] = [(([] : Go.Eng.Gd), Res.blk (27 : Nat) [SC.sl (Sh.str.pair ((Sh.int IntKind.i64).pair Sh.unit)) vs, SC.sl Sh.str ms, SC.sl Sh.str cs, SC.sl (Sh.str.pair (((Sh.int IntKind.i64).pair ((Sh.int IntKind.i64).pair ((Sh.int IntKind.i64).pair ((Sh.int IntKind.i64).pair ((Sh.int IntKind.i64).pair ((Sh.int IntKind.i64).pair ((Sh.int IntKind.i64).pair ((Sh.int IntKind.i64).pair Sh.unit)))))))).sl.pair Sh.unit)) fs, SC.sl ((Sh.int IntKind.i64).pair ((Sh.int IntKind.i64).pair Sh.unit)) ts]), (([] : Go.Eng.Gd), Res.row (9 : TypeId) Sh.str (nmsV vs)), (([] : Go.Eng.Gd), Res.row (9 : TypeId) Sh.str (nmsF fs))]) ∧ ∀ (x : Nat), (x ≤ vs.length ∧ ∀ (j : Nat), j < x → ∀ (v : ByteArray × Int × Unit), vs[j]? = some v → valS v.snd.fst = true) → br (decide ((↑x : Int) < (↑vs.length : Int))) (((0 : Int) ≤ (↑x : Int) ∧ (↑x : Int) < (↑vs.length : Int)) ∧ ∀ (d : Sh.str.den × ((Sh.int IntKind.i64).pair Sh.unit).den), vs[(↑x : Int).toNat]? = some d → True ∧ br (!valS (d.snd.fst, ()).fst) (([] : List Go.Eng.Res) = [] ∧ Ent.tup [SV.c (SC.v (Value.int IntKind.i64 (chkP vs ms cs fs ts).fst)), SV.c (SC.v (Value.int IntKind.i64 (chkP vs ms cs fs ts).snd.fst)), SV.c (SC.v (Value.int IntKind.i64 (chkP vs ms cs fs ts).snd.snd))] = Ent.tup [SV.c (SC.v (Value.int IntKind.i64 (2 : Int))), SV.c (SC.v (Value.int IntKind.i64 (-1 : Int))), SV.c (SC.v (Value.int IntKind.i64 (-1 : Int)))]) (InR IntKind.i64 ((↑x : Int) + (1 : Int)) ∧ ∃ x', (x' ≤ vs.length ∧ ∀ (j : Nat), j < x' → ∀ (v : ByteArray × Int × Unit), vs[j]? = some v → valS v.snd.fst = true) ∧ (SV.c (SC.v (Value.int IntKind.i64 ((↑x : Int) + (1 : Int)))) = SV.c (SC.v (Value.int IntKind.i64 (↑x' : Int))) ∧ True) ∧ [(([] : Go.Eng.Gd), Res.blk (27 : Nat) [SC.sl (Sh.str.pair ((Sh.int IntKind.i64).pair Sh.unit)) vs, SC.sl Sh.str ms, SC.sl Sh.str cs, SC.sl (Sh.str.pair (((Sh.int IntKind.i64).pair ((Sh.int IntKind.i64).pair ((Sh.int IntKind.i64).pair ((Sh.int IntKind.i64).pair ((Sh.int IntKind.i64).pair ((Sh.int IntKind.i64).pair ((Sh.int IntKind.i64).pair ((Sh.int IntKind.i64).pair Sh.unit)))))))).sl.pair Sh.unit)) fs, SC.sl ((Sh.int IntKind.i64).pair ((Sh.int IntKind.i64).pair Sh.unit)) ts]), (([] : Go.Eng.Gd), Res.row (9 : TypeId) Sh.str (nmsV vs)), (([] : Go.Eng.Gd), Res.row (9 : TypeId) Sh.str (nmsF fs))] = [(([] : Go.Eng.Gd), Res.blk (27 : Nat) [SC.sl (Sh.str.pair ((Sh.int IntKind.i64).pair Sh.unit)) vs, SC.sl Sh.str ms, SC.sl Sh.str cs, SC.sl (Sh.str.pair (((Sh.int IntKind.i64).pair ((Sh.int IntKind.i64).pair ((Sh.int IntKind.i64).pair ((Sh.int IntKind.i64).pair ((Sh.int IntKind.i64).pair ((Sh.int IntKind.i64).pair ((Sh.int IntKind.i64).pair ((Sh.int IntKind.i64).pair Sh.unit)))))))).sl.pair Sh.unit)) fs, SC.sl ((Sh.int IntKind.i64).pair ((Sh.int IntKind.i64).pair Sh.unit)) ts]), (([] : Go.Eng.Gd), Res.row (9 : TypeId) Sh.str (nmsV vs)), (([] : Go.Eng.Gd), Res.row (9 : TypeId) Sh.str (nmsF fs))] ∧ vs.length - x' < vs.length - x)) ((∃ x, (x ≤ fs.length ∧ ∀ (j : Nat), j < x → ∀ (g : ByteArray × List ID × Unit), fs[j]? = some g → (cdS vs ms cs fs g.snd.fst).fst = (0 : Int)) ∧ (SV.c (SC.v (Value.int IntKind.i64 (0 : Int))) = SV.c (SC.v (Value.int IntKind.i64 (↑x : Int))) ∧ True) ∧ [(([] : Go.Eng.Gd), Res.blk (27 : Nat) [SC.sl (Sh.str.pair ((Sh.int IntKind.i64).pair Sh.unit)) vs, SC.sl Sh.str ms, SC.sl Sh.str cs, SC.sl (Sh.str.pair (((Sh.int IntKind.i64).pair ((Sh.int IntKind.i64).pair ((Sh.int IntKind.i64).pair ((Sh.int IntKind.i64).pair ((Sh.int IntKind.i64).pair ((Sh.int IntKind.i64).pair ((Sh.int IntKind.i64).pair ((Sh.int IntKind.i64).pair Sh.unit)))))))).sl.pair Sh.unit)) fs, SC.sl ((Sh.int IntKind.i64).pair ((Sh.int IntKind.i64).pair Sh.unit)) ts]), (([] : Go.Eng.Gd), Res.row (9 : TypeId) Sh.str (nmsV vs)), (([] : Go.Eng.Gd), Res.row (9 : TypeId) Sh.str (nmsF fs))] = [(([] : Go.Eng.Gd), Res.blk (27 : Nat) [SC.sl (Sh.str.pair ((Sh.int IntKind.i64).pair Sh.unit)) vs, SC.sl Sh.str ms, SC.sl Sh.str cs, SC.sl (Sh.str.pair (((Sh.int IntKind.i64).pair ((Sh.int IntKind.i64).pair ((Sh.int IntKind.i64).pair ((Sh.int IntKind.i64).pair ((Sh.int IntKind.i64).pair ((Sh.int IntKind.i64).pair ((Sh.int IntKind.i64).pair ((Sh.int IntKind.i64).pair Sh.unit)))))))).sl.pair Sh.unit)) fs, SC.sl ((Sh.int IntKind.i64).pair ((Sh.int IntKind.i64).pair Sh.unit)) ts]), (([] : Go.Eng.Gd), Res.row (9 : TypeId) Sh.str (nmsV vs)), (([] : Go.Eng.Gd), Res.row (9 : TypeId) Sh.str (nmsF fs))]) ∧ ∀ (x : Nat), (x ≤ fs.length ∧ ∀ (j : Nat), j < x → ∀ (g : ByteArray × List ID × Unit), fs[j]? = some g → (cdS vs ms cs fs g.snd.fst).fst = (0 : Int)) → br (decide ((↑x : Int) < (↑fs.length : Int))) (((0 : Int) ≤ (↑x : Int) ∧ (↑x : Int) < (↑fs.length : Int)) ∧ ∀ (d : Sh.str.den × (((Sh.int IntKind.i64).pair ((Sh.int IntKind.i64).pair ((Sh.int IntKind.i64).pair ((Sh.int IntKind.i64).pair ((Sh.int IntKind.i64).pair ((Sh.int IntKind.i64).pair ((Sh.int IntKind.i64).pair ((Sh.int IntKind.i64).pair Sh.unit)))))))).sl.pair Sh.unit).den), fs[(↑x : Int).toNat]? = some d → True ∧ br (!decide ((cdS vs ms cs fs (d.snd.fst, ()).fst).fst = (0 : Int))) (([] : List Go.Eng.Res) = [] ∧ Ent.tup [SV.c (SC.v (Value.int IntKind.i64 (chkP vs ms cs fs ts).fst)), SV.c (SC.v (Value.int IntKind.i64 (chkP vs ms cs fs ts).snd.fst)), SV.c (SC.v (Value.int IntKind.i64 (chkP vs ms cs fs ts).snd.snd))] = Ent.tup [SV.c (SC.v (Value.int IntKind.i64 (cdS vs ms cs fs (d.snd.fst, ()).fst).fst)), SV.c (SC.v (Value.int IntKind.i64 (↑x : Int))), SV.c (SC.v (Value.int IntKind.i64 (cdS vs ms cs fs (d.snd.fst, ()).fst).snd))]) (InR IntKind.i64 ((↑x : Int) + (1 : Int)) ∧ ∃ x', (x' ≤ fs.length ∧ ∀ (j : Nat), j < x' → ∀ (g : ByteArray × List ID × Unit), fs[j]? = some g → (cdS vs ms cs fs g.snd.fst).fst = (0 : Int)) ∧ (SV.c (SC.v (Value.int IntKind.i64 ((↑x : Int) + (1 : Int)))) = SV.c (SC.v (Value.int IntKind.i64 (↑x' : Int))) ∧ True) ∧ [(([] : Go.Eng.Gd), Res.blk (27 : Nat) [SC.sl (Sh.str.pair ((Sh.int IntKind.i64).pair Sh.unit)) vs, SC.sl Sh.str ms, SC.sl Sh.str cs, SC.sl (Sh.str.pair (((Sh.int IntKind.i64).pair ((Sh.int IntKind.i64).pair ((Sh.int IntKind.i64).pair ((Sh.int IntKind.i64).pair ((Sh.int IntKind.i64).pair ((Sh.int IntKind.i64).pair ((Sh.int IntKind.i64).pair ((Sh.int IntKind.i64).pair Sh.unit)))))))).sl.pair Sh.unit)) fs, SC.sl ((Sh.int IntKind.i64).pair ((Sh.int IntKind.i64).pair Sh.unit)) ts]), (([] : Go.Eng.Gd), Res.row (9 : TypeId) Sh.str (nmsV vs)), (([] : Go.Eng.Gd), Res.row (9 : TypeId) Sh.str (nmsF fs))] = [(([] : Go.Eng.Gd), Res.blk (27 : Nat) [SC.sl (Sh.str.pair ((Sh.int IntKind.i64).pair Sh.unit)) vs, SC.sl Sh.str ms, SC.sl Sh.str cs, SC.sl (Sh.str.pair (((Sh.int IntKind.i64).pair ((Sh.int IntKind.i64).pair ((Sh.int IntKind.i64).pair ((Sh.int IntKind.i64).pair ((Sh.int IntKind.i64).pair ((Sh.int IntKind.i64).pair ((Sh.int IntKind.i64).pair ((Sh.int IntKind.i64).pair Sh.unit)))))))).sl.pair Sh.unit)) fs, SC.sl ((Sh.int IntKind.i64).pair ((Sh.int IntKind.i64).pair Sh.unit)) ts]), (([] : Go.Eng.Gd), Res.row (9 : TypeId) Sh.str (nmsV vs)), (([] : Go.Eng.Gd), Res.row (9 : TypeId) Sh.str (nmsF fs))] ∧ fs.length - x' < fs.length - x)) (True ∧ ([] : List Go.Eng.Res) = [] ∧ Ent.tup [SV.c (SC.v (Value.int IntKind.i64 (chkP vs ms cs fs ts).fst)), SV.c (SC.v (Value.int IntKind.i64 (chkP vs ms cs fs ts).snd.fst)), SV.c (SC.v (Value.int IntKind.i64 (chkP vs ms cs fs ts).snd.snd))] = Ent.tup [SV.c (SC.v (Value.int IntKind.i64 (thS fs ts))), SV.c (SC.v (Value.int IntKind.i64 (-1 : Int))), SV.c (SC.v (Value.int IntKind.i64 (-1 : Int)))]))))))) := by
  obtain ⟨h1, h2, h3, h4, h5, h6, h7⟩ : bnd ((vs, ms, cs, fs, ts, ()), ()) := hpre
  have h1 : vs.length ≤ 1000000 := h1
  have h4 : fs.length ≤ 1000000 := h4
  refine ⟨⟨h1, h4⟩, by simpa [nmsV] using h1, br_iff.2 ⟨fun a => ⟨rfl, ?_⟩, fun a => ⟨h2, br_iff.2 ⟨fun b => ⟨rfl, ?_⟩, fun b => ⟨h3, br_iff.2 ⟨fun c => ⟨rfl, ?_⟩, fun c => ⟨by simpa [nmsF] using h4, br_iff.2 ⟨fun d => ⟨rfl, ?_⟩, fun d => ?_⟩⟩⟩⟩⟩⟩⟩⟩
  all_goals try simp only [Bool.not_eq_true', Bool.not_eq_false', decide_eq_true_eq, decide_eq_false_iff_not] at a
  all_goals try simp only [Bool.not_eq_true', Bool.not_eq_false', decide_eq_true_eq, decide_eq_false_iff_not] at b
  all_goals try simp only [Bool.not_eq_true', Bool.not_eq_false', decide_eq_true_eq, decide_eq_false_iff_not] at c
  all_goals try simp only [Bool.not_eq_true', Bool.not_eq_false', decide_eq_true_eq, decide_eq_false_iff_not] at d
  · have e : cnS vs ms cs fs = ((nmsE (nmsV vs)).1, -1, -1) := by unfold cnS; rw [if_pos a]
    rw [chk_cn (by rw [e]; exact a), e]
  · have e : cnS vs ms cs fs = ((nmsE ms).1, -1, -1) := by unfold cnS; rw [if_neg (fun q => q a), if_pos b]
    rw [chk_cn (by rw [e]; exact b), e]
  · have e : cnS vs ms cs fs = ((nmsE cs).1, -1, -1) := by unfold cnS; rw [if_neg (fun q => q a), if_neg (fun q => q b), if_pos c]
    rw [chk_cn (by rw [e]; exact c), e]
  all_goals have e : cnS vs ms cs fs = ((nmsE (nmsF fs)).1, (nmsE (nmsF fs)).2, -1) := by unfold cnS; rw [if_neg (fun q => q a), if_neg (fun q => q b), if_neg (fun q => q c)]
  · rw [chk_cn (by rw [e]; exact d), e, if_neg d]
  have z : (cnS vs ms cs fs).1 = 0 := by rw [e]; exact d
  clear e a b c d
  by_cases hc : 8 < vs.length ∨ 4 < ms.length ∨ 4 < cs.length ∨ 8 < fs.length
  · have e : coS vs ms cs fs = 4 := by unfold coS; rw [if_pos hc]
    rw [chk_co z (by rw [e]; simp), e]
    refine br_iff.2 ⟨fun _ => ⟨rfl, rfl⟩, fun h => ?_⟩
    simp only [Bool.or_eq_false_iff, decide_eq_false_iff_not] at h
    omega
  refine br_iff.2 ⟨fun h => ?_, fun _ => ⟨⟨0, ⟨by omega, fun j hj => by omega⟩, ⟨rfl, trivial⟩, rfl⟩, fun k hk => br_iff.2 ⟨fun h => ?_, fun h => ⟨⟨0, ⟨by omega, fun j hj => by omega⟩, ⟨rfl, trivial⟩, rfl⟩, fun m hm => br_iff.2 ⟨fun h8 => ?_, fun h8 => ⟨trivial, rfl, ?_⟩⟩⟩⟩⟩⟩
  · simp only [Bool.or_eq_true, decide_eq_true_eq] at h
    omega
  · simp only [decide_eq_true_eq] at h
    have hN : (↑k : Int).toNat = k := by omega
    rw [hN]
    refine ⟨by omega, fun d hd => ⟨trivial, br_iff.2 ⟨fun h9 => ⟨rfl, ?_⟩, fun h9 => ⟨InR_i64.2 (by omega), k + 1, ⟨by omega, fun j hj v hv => ?_⟩, ⟨rfl, trivial⟩, rfl, by omega⟩⟩⟩⟩
    · have h9 : valS d.2.1 = false := by simpa using h9
      have e : coS vs ms cs fs = 2 := by
        unfold coS
        rw [if_neg hc, if_neg]
        intro hh
        rw [List.all_eq_true] at hh
        have := hh d (List.mem_of_getElem? hd)
        rw [h9] at this; cases this
      rw [chk_co z (by rw [e]; simp), e]
    · have h9 : valS d.2.1 = true := by simpa using h9
      by_cases hjk : j = k
      · subst hjk
        rw [hd] at hv; cases hv; exact h9
      · exact hk.2 j (by omega) v hv
  all_goals
    simp only [decide_eq_false_iff_not] at h
    have z2 : coS vs ms cs fs = 0 := by
      unfold coS
      rw [if_neg hc, if_pos]
      rw [List.all_eq_true]
      intro v hv
      obtain ⟨j, hj⟩ := List.getElem?_of_mem hv
      exact hk.2 j (by have := (List.getElem?_eq_some_iff.1 hj).1; omega) v hj
  · simp only [decide_eq_true_eq] at h8
    have hN : (↑m : Int).toNat = m := by omega
    rw [hN]
    refine ⟨by omega, fun d hd => ⟨trivial, br_iff.2 ⟨fun h9 => ⟨rfl, ?_⟩, fun h9 => ⟨InR_i64.2 (by omega), m + 1, ⟨by omega, fun j hj v hv => ?_⟩, ⟨rfl, trivial⟩, rfl, by omega⟩⟩⟩⟩
    · have h9 : (cdS vs ms cs fs d.2.1).1 ≠ 0 := by simpa using h9
      have e := cc_first hd h9 hm.2
      rw [chk_cc z z2 (by rw [e]; exact h9), e]
    · have h9 : (cdS vs ms cs fs d.2.1).1 = 0 := by simpa using h9
      by_cases hjk : j = m
      · subst hjk
        rw [hd] at hv; cases hv; exact h9
      · exact hm.2 j (by omega) v hv
  · simp only [decide_eq_false_iff_not] at h8
    have e := cc_zero (vs := vs) (ms := ms) (cs := cs) fun j g hj => hm.2 j (by have := (List.getElem?_eq_some_iff.1 hj).1; omega) g hj
    rw [chk_th z z2 (by rw [e])]
set_option maxHeartbeats 2000000 in
set_option maxRecDepth 100000 in
theorem f12_met : Go.Eng.Met Tryd.prog cx0.gd 12 ctrChk :=
  met_of (cx := cx0) (n := 120) (cl := cl12) (by kernel_rfl) tis_ok ⟨f36_met, f37_met, f38_met, f39_met, f40_met, trivial⟩ Tryd.func12 (by kernel_rfl) (by kernel_rfl) rfl (by kernel_rfl) (by kernel_rfl) fun d hd => by
    obtain ⟨⟨vs, ms, cs, fs, ts, ⟨⟩⟩, ⟨⟩⟩ := d
    exact ex_of (ann12 vs ms cs fs ts) (f12_vc vs ms cs fs ts hd) (by kernel_rfl)
@[reducible] def ctrVld : CT := { ps := [shP], pre := fun d => bnd d, res := fun d => ([], vB (decide ((chkP d.1.1 d.1.2.1 d.1.2.2.1 d.1.2.2.2.1 d.1.2.2.2.2.1).1 = 0))) }
@[reducible] noncomputable def cl14 : List (Nat × CT) := [(12, ctrChk)]
@[reducible] def ann14 (vs : List VD) (ms : List ByteArray) (cs : List ByteArray) (fs : List FD) (ts : List SD) : Nat → Option (St → Ann) := fun _ => none
set_option maxRecDepth 100000 in
theorem f14_vc (vs : List VD) (ms : List ByteArray) (cs : List ByteArray) (fs : List FD) (ts : List SD) (hpre : ctrVld.pre ((vs, ms, cs, fs, ts, ()), ())) :
    (vs.length ≤ (1000000 : Nat) ∧ ms.length ≤ (1000000 : Nat) ∧ cs.length ≤ (1000000 : Nat) ∧ fs.length ≤ (1000000 : Nat) ∧ ts.length ≤ (1000000 : Nat) ∧ (∀ (x : Sh.str.den × (((Sh.int IntKind.i64).pair ((Sh.int IntKind.i64).pair ((Sh.int IntKind.i64).pair ((Sh.int IntKind.i64).pair ((Sh.int IntKind.i64).pair ((Sh.int IntKind.i64).pair ((Sh.int IntKind.i64).pair ((Sh.int IntKind.i64).pair Sh.unit)))))))).sl.pair Sh.unit).den), x ∈ fs → List.length x.snd.fst ≤ (1000000 : Nat)) ∧ (instL fs).length ≤ (1000000 : Nat)) ∧ ([] : List Go.Eng.Res) = [] ∧ Ent.one (SV.c (SC.v (Value.bool (decide ((chkP vs ms cs fs ts).fst = (0 : Int)))))) = Ent.one (SV.c (SC.v (Value.bool (decide ((chkP vs ms cs fs ts).fst = (0 : Int)))))) := by
  exact ⟨hpre, rfl, rfl⟩
set_option maxHeartbeats 2000000 in
set_option maxRecDepth 100000 in
theorem f14_met : Go.Eng.Met Tryd.prog cx0.gd 14 ctrVld :=
  met_of (cx := cx0) (n := 14) (cl := cl14) (by kernel_rfl) tis_ok ⟨f12_met, trivial⟩ Tryd.func14 (by kernel_rfl) (by kernel_rfl) rfl (by kernel_rfl) (by kernel_rfl) fun d hd => by
    obtain ⟨⟨vs, ms, cs, fs, ts, ⟨⟩⟩, ⟨⟩⟩ := d
    exact ex_of (ann14 vs ms cs fs ts) (f14_vc vs ms cs fs ts hd) (by kernel_rfl)
@[reducible] def ctL3 : CT := { ps := [shP], pre := fun d => True, res := fun d => ([], vB (true)) }
@[reducible] noncomputable def cl3 : List (Nat × CT) := [(9, ctSm), (10, ctLiv), (11, ctChk), (12, ctrChk), (13, ctVld), (14, ctrVld)]
@[reducible] def ann3 (vs : List VD) (ms : List ByteArray) (cs : List ByteArray) (fs : List FD) (ts : List SD) : Nat → Option (St → Ann) := fun _ => none
set_option maxRecDepth 100000 in
theorem f3_vc (vs : List VD) (ms : List ByteArray) (cs : List ByteArray) (fs : List FD) (ts : List SD) :
    True ∧ br (!smS vs ms cs fs ts) (True ∧ ([] : List Go.Eng.Res) = [] ∧ Ent.one (SV.c (SC.v (Value.bool true))) = Ent.one (SV.c (SC.v (Value.bool true)))) ((vs.length ≤ (1000000 : Nat) ∧ ms.length ≤ (1000000 : Nat) ∧ cs.length ≤ (1000000 : Nat) ∧ fs.length ≤ (1000000 : Nat) ∧ ts.length ≤ (1000000 : Nat) ∧ (∀ (x : Sh.str.den × (((Sh.int IntKind.i64).pair ((Sh.int IntKind.i64).pair ((Sh.int IntKind.i64).pair ((Sh.int IntKind.i64).pair ((Sh.int IntKind.i64).pair ((Sh.int IntKind.i64).pair ((Sh.int IntKind.i64).pair ((Sh.int IntKind.i64).pair Sh.unit)))))))).sl.pair Sh.unit).den), x ∈ fs → List.length x.snd.fst ≤ (1000000 : Nat)) ∧ (instL fs).length ≤ (1000000 : Nat)) ∧ (vs.length ≤ (1000000 : Nat) ∧ ms.length ≤ (1000000 : Nat) ∧ cs.length ≤ (1000000 : Nat) ∧ fs.length ≤ (1000000 : Nat) ∧ ts.length ≤ (1000000 : Nat) ∧ (∀ (x : Sh.str.den × (((Sh.int IntKind.i64).pair ((Sh.int IntKind.i64).pair ((Sh.int IntKind.i64).pair ((Sh.int IntKind.i64).pair ((Sh.int IntKind.i64).pair ((Sh.int IntKind.i64).pair ((Sh.int IntKind.i64).pair ((Sh.int IntKind.i64).pair Sh.unit)))))))).sl.pair Sh.unit).den), x ∈ fs → List.length x.snd.fst ≤ (1000000 : Nat)) ∧ (instL fs).length ≤ (1000000 : Nat)) ∧ ((decide ((chkP vs ms cs fs ts).fst = (chkP vs ms cs fs ts).fst) && decide ((chkP vs ms cs fs ts).snd.fst = (chkP vs ms cs fs ts).snd.fst) && decide ((chkP vs ms cs fs ts).snd.snd = (chkP vs ms cs fs ts).snd.snd)) = true → vs.length ≤ (1000000 : Nat) ∧ ms.length ≤ (1000000 : Nat) ∧ cs.length ≤ (1000000 : Nat) ∧ fs.length ≤ (1000000 : Nat) ∧ ts.length ≤ (1000000 : Nat) ∧ (∀ (x : Sh.str.den × (((Sh.int IntKind.i64).pair ((Sh.int IntKind.i64).pair ((Sh.int IntKind.i64).pair ((Sh.int IntKind.i64).pair ((Sh.int IntKind.i64).pair ((Sh.int IntKind.i64).pair ((Sh.int IntKind.i64).pair ((Sh.int IntKind.i64).pair Sh.unit)))))))).sl.pair Sh.unit).den), x ∈ fs → List.length x.snd.fst ≤ (1000000 : Nat)) ∧ (instL fs).length ≤ (1000000 : Nat)) ∧ ((decide ((chkP vs ms cs fs ts).fst = (chkP vs ms cs fs ts).fst) && decide ((chkP vs ms cs fs ts).snd.fst = (chkP vs ms cs fs ts).snd.fst) && decide ((chkP vs ms cs fs ts).snd.snd = (chkP vs ms cs fs ts).snd.snd)) = true → vs.length ≤ (1000000 : Nat) ∧ ms.length ≤ (1000000 : Nat) ∧ cs.length ≤ (1000000 : Nat) ∧ fs.length ≤ (1000000 : Nat) ∧ ts.length ≤ (1000000 : Nat) ∧ (∀ (x : Sh.str.den × (((Sh.int IntKind.i64).pair ((Sh.int IntKind.i64).pair ((Sh.int IntKind.i64).pair ((Sh.int IntKind.i64).pair ((Sh.int IntKind.i64).pair ((Sh.int IntKind.i64).pair ((Sh.int IntKind.i64).pair ((Sh.int IntKind.i64).pair Sh.unit)))))))).sl.pair Sh.unit).den), x ∈ fs → List.length x.snd.fst ≤ (1000000 : Nat)) ∧ (instL fs).length ≤ (1000000 : Nat)) ∧ ((decide ((chkP vs ms cs fs ts).fst = (chkP vs ms cs fs ts).fst) && decide ((chkP vs ms cs fs ts).snd.fst = (chkP vs ms cs fs ts).snd.fst) && decide ((chkP vs ms cs fs ts).snd.snd = (chkP vs ms cs fs ts).snd.snd) && decide ((chkP vs ms cs fs ts).fst = (0 : Int)) == decide ((chkP vs ms cs fs ts).fst = (0 : Int))) = true → True) ∧ ([] : List Go.Eng.Res) = [] ∧ Ent.one (SV.c (SC.v (Value.bool true))) = Ent.one (SV.c (SC.v (Value.bool (decide ((chkP vs ms cs fs ts).fst = (chkP vs ms cs fs ts).fst) && decide ((chkP vs ms cs fs ts).snd.fst = (chkP vs ms cs fs ts).snd.fst) && decide ((chkP vs ms cs fs ts).snd.snd = (chkP vs ms cs fs ts).snd.snd) && decide ((chkP vs ms cs fs ts).fst = (0 : Int)) == decide ((chkP vs ms cs fs ts).fst = (0 : Int)) && true))))) := by
  refine ⟨trivial, br_iff.2 ⟨fun _ => ⟨trivial, rfl, rfl⟩, fun h => ?_⟩⟩
  have h : smS vs ms cs fs ts = true := by simpa using h
  have hb := small_bnd h
  exact ⟨hb, hb, fun _ => hb, fun _ => hb, fun _ => trivial, rfl, by simp⟩
set_option maxHeartbeats 2000000 in
set_option maxRecDepth 100000 in
theorem f3_met : Go.Eng.Met Tryd.prog cx0.gd 3 ctL3 :=
  met_of (cx := cx0) (n := 48) (cl := cl3) (by kernel_rfl) tis_ok ⟨f9_met, f10_met, f11_met, f12_met, f13_met, f14_met, trivial⟩ Tryd.func3 (by kernel_rfl) (by kernel_rfl) rfl (by kernel_rfl) (by kernel_rfl) fun d hd => by
    obtain ⟨⟨vs, ms, cs, fs, ts, ⟨⟩⟩, ⟨⟩⟩ := d
    exact ex_of (ann3 vs ms cs fs ts) (f3_vc vs ms cs fs ts) (by kernel_rfl)
end Go.Proofs.YtiikkjlghfhgcaaDoor
