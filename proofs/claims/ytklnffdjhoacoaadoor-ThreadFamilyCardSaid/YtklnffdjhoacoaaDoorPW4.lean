/- The Thread chapter, part 4: well-formed and valid threads, settling. -/
import Derived.Test.YtklnffdjhoacoaaDoorPW3
set_option linter.unusedSimpArgs false
set_option linter.unusedVariables false
set_option maxRecDepth 100000
namespace Go.Proofs.YtklnffdjhoacoaaDoor
open Go Go.Eng

@[reducible] def ctStd : CT := { ps := [shP, .int .i64], pre := fun d => bnd (d.1, ()), res := fun d => ([], .one (.c (.v (.int .i64 (stdS (chkP d.1.1 d.1.2.1 d.1.2.2.1 d.1.2.2.2.1 d.1.2.2.2.2.1).1 d.2.1))))) }
@[reducible] noncomputable def cl29 : List (Nat × CT) := [(39, ctChk)]
@[reducible] def ann29 (vs : List VD) (ms : List ByteArray) (cs : List ByteArray) (fs : List FD) (ts : List SD) (bound : Int) : Nat → Option (St → Ann) := fun _ => none
set_option maxRecDepth 100000 in
theorem f29_vc (vs : List VD) (ms : List ByteArray) (cs : List ByteArray) (fs : List FD) (ts : List SD) (bound : Int) (hpre : ctStd.pre ((vs, ms, cs, fs, ts, ()), bound, ())) :
    (vs.length ≤ (1000000 : Nat) ∧ ms.length ≤ (1000000 : Nat) ∧ cs.length ≤ (1000000 : Nat) ∧ fs.length ≤ (1000000 : Nat) ∧ ts.length ≤ (1000000 : Nat) ∧ (∀ (x : Sh.str.den × (((Sh.int IntKind.i64).pair ((Sh.int IntKind.i64).pair ((Sh.int IntKind.i64).pair ((Sh.int IntKind.i64).pair ((Sh.int IntKind.i64).pair ((Sh.int IntKind.i64).pair ((Sh.int IntKind.i64).pair ((Sh.int IntKind.i64).pair Sh.unit)))))))).sl.pair Sh.unit).den), x ∈ fs → List.length x.snd.fst ≤ (1000000 : Nat)) ∧ (instL fs).length ≤ (1000000 : Nat)) ∧ br (!decide ((chkP vs ms cs fs ts).fst = (0 : Int))) (([] : List Go.Eng.Res) = [] ∧ Ent.one (SV.c (SC.v (Value.int IntKind.i64 (stdS (chkP vs ms cs fs ts).fst bound)))) = Ent.one (SV.c (SC.v (Value.int IntKind.i64 (chkP vs ms cs fs ts).fst)))) (br (decide (bound < (1 : Int)) || decide ((32 : Int) < bound)) (([] : List Go.Eng.Res) = [] ∧ Ent.one (SV.c (SC.v (Value.int IntKind.i64 (stdS (chkP vs ms cs fs ts).fst bound)))) = Ent.one (SV.c (SC.v (Value.int IntKind.i64 (2 : Int))))) (([] : List Go.Eng.Res) = [] ∧ Ent.one (SV.c (SC.v (Value.int IntKind.i64 (stdS (chkP vs ms cs fs ts).fst bound)))) = Ent.one (SV.c (SC.v (Value.int IntKind.i64 (0 : Int)))))) := by
  have hb : bnd ((vs, ms, cs, fs, ts, ()), ()) := hpre
  refine ⟨hb, br_iff.2 ⟨fun h => ?_, fun h => br_iff.2 ⟨fun h2 => ?_, fun h2 => ?_⟩⟩⟩
  · have h : (chkP vs ms cs fs ts).1 ≠ 0 := by simpa using h
    unfold stdS
    rw [if_pos h]; exact ⟨rfl, rfl⟩
  · have h : ¬ (chkP vs ms cs fs ts).1 ≠ 0 := by simpa using h
    have h2 : bound < 1 ∨ 32 < bound := by simpa using h2
    unfold stdS
    rw [if_neg h, if_pos h2]; exact ⟨rfl, rfl⟩
  · have h : ¬ (chkP vs ms cs fs ts).1 ≠ 0 := by simpa using h
    have h2 : ¬ (bound < 1 ∨ 32 < bound) := by simp only [Bool.or_eq_false_iff, decide_eq_false_iff_not] at h2; omega
    unfold stdS
    rw [if_neg h, if_neg h2]; exact ⟨rfl, rfl⟩
set_option maxHeartbeats 2000000 in
set_option maxRecDepth 100000 in
theorem f29_met : Go.Eng.Met Tryd.prog cx0.gd 29 ctStd :=
  met_of (cx := cx0) (n := 23) (cl := cl29) (by kernel_rfl) tis_ok ⟨f39_met, trivial⟩ Tryd.func29 (by kernel_rfl) (by kernel_rfl) rfl (by kernel_rfl) (by kernel_rfl) fun d hd => by
    obtain ⟨⟨vs, ms, cs, fs, ts, ⟨⟩⟩, bound, ⟨⟩⟩ := d
    exact ex_of (ann29 vs ms cs fs ts bound) (f29_vc vs ms cs fs ts bound hd) (by kernel_rfl)
open Classical in
theorem formedB_iff {ms : List ByteArray} {fs : List FD} {bound : Int} {t : TD} : formedB ms fs bound t = true ↔ Formed ms fs bound t := by
  unfold formedB; rw [decide_eq_true_iff]
theorem formedB_false {ms : List ByteArray} {fs : List FD} {bound : Int} {t : TD} (h : ¬ Formed ms fs bound t) : formedB ms fs bound t = false := Bool.eq_false_iff.2 fun q => h (formedB_iff.1 q)
open Classical in
theorem vldB_iff {ms : List ByteArray} {fs : List FD} {bound : Int} {t : TD} : vldB ms fs bound t = true ↔ Vld ms fs bound t := by
  unfold vldB; rw [decide_eq_true_iff]
theorem vldB_false {ms : List ByteArray} {fs : List FD} {bound : Int} {t : TD} (h : ¬ Vld ms fs bound t) : vldB ms fs bound t = false := Bool.eq_false_iff.2 fun q => h (vldB_iff.1 q)
@[reducible] noncomputable def ctFrm : CT := { ps := [shP, .int .i64, shT], pre := fun d => True ∧ d.2.2.1.2.2.2.2.2.2.2.2.2.1.length ≤ 1000000 ∧ d.2.2.1.1 ≤ 9223372036854775807 ∧ d.2.2.1.2.2.2.1.length = 8, res := fun d => ([], vB (formedB d.1.2.1 d.1.2.2.2.1 d.2.1 d.2.2.1)) }
@[reducible] noncomputable def cl33 : List (Nat × CT) := [(22, ctDep), (30, ctWrap), (45, ctV), (34, ctAt), (46, ctHas)]
@[reducible] def ann33 (vs : List VD) (ms : List ByteArray) (cs : List ByteArray) (fs : List FD) (ts : List SD) (bound : Int) (id : Int) (fn : Int) (pc : Int) (rg : List Int) (st : Int) (ch : Int) (ph : Int) (su : Int) (fa : Int) (he : List Int) : Nat → Option (St → Ann) := fun k => match k with
  | 5 => some fun _ => .inv { α := Nat, slots := fun k => [(52, .c (.v (.int .i64 k)))], res := fun _ => [], inv := fun k => k ≤ 8 ∧ ∀ j < k, ∀ r, rg[j]? = some r → valS r = true, meas := fun k => 8 - k }
  | 13 => some fun _ => .inv { α := Nat, slots := fun k => [(97, .c (.v (.int .i64 k)))], res := fun _ => [], inv := fun k => k ≤ he.length ∧ ∀ j < k, ∀ m, he[j]? = some m → 0 ≤ m ∧ m < ms.length, meas := fun k => he.length - k }
  | _ => none
@[reducible] def il33 : List (Nat × IP) := []
@[reducible] def hl33 : List (Nat × Nat × CT) := []
@[reducible] noncomputable def ml33 : List (Nat × MK) := []
set_option maxRecDepth 100000 in
theorem f33_vc (vs : List VD) (ms : List ByteArray) (cs : List ByteArray) (fs : List FD) (ts : List SD) (bound : Int) (id : Int) (fn : Int) (pc : Int) (rg : List Int) (st : Int) (ch : Int) (ph : Int) (su : Int) (fa : Int) (he : List Int) (hpre : ctFrm.pre ((vs, ms, cs, fs, ts, ()), bound, (id, fn, pc, rg, st, ch, ph, su, fa, he, ()), ())) :
    id ≤ (9223372036854775807 : (Sh.int IntKind.i64).den) ∧ ((!(decide (depthI id < (0 : Int)) || decide (fn < (0 : Int)) || decide ((↑fs.length : Int) ≤ fn) || decide (pc < (0 : Int)))) = true → (0 : Int) ≤ fn ∧ fn < (↑fs.length : Int)) ∧ ∀ (d : Sh.str.den × (((Sh.int IntKind.i64).pair ((Sh.int IntKind.i64).pair ((Sh.int IntKind.i64).pair ((Sh.int IntKind.i64).pair ((Sh.int IntKind.i64).pair ((Sh.int IntKind.i64).pair ((Sh.int IntKind.i64).pair ((Sh.int IntKind.i64).pair Sh.unit)))))))).sl.pair Sh.unit).den), ((!(decide (depthI id < (0 : Int)) || decide (fn < (0 : Int)) || decide ((↑fs.length : Int) ≤ fn) || decide (pc < (0 : Int)))) = true → fs[fn.toNat]? = some d) → br (decide (depthI id < (0 : Int)) || decide (fn < (0 : Int)) || decide ((↑fs.length : Int) ≤ fn) || decide (pc < (0 : Int)) || decide ((↑(List.length d.snd.fst) : Int) < pc)) (([] : List Go.Eng.Res) = [] ∧ Ent.one (SV.c (SC.v (Value.bool (formedB ms fs bound (id, fn, pc, rg, st, ch, ph, su, fa, he, ()))))) = Ent.one (SV.c (SC.v (Value.bool false)))) ((∃ x, (x ≤ (8 : Nat) ∧ ∀ (j : Nat), j < x → ∀ (r : Int), rg[j]? = some r → valS r = true) ∧ (SV.c (SC.v (Value.int IntKind.i64 (0 : Int))) = SV.c (SC.v (Value.int IntKind.i64 (↑x : Int))) ∧ True) ∧ [(([] : Go.Eng.Gd), Res.blk (43 : Nat) [SC.sl (Sh.str.pair ((Sh.int IntKind.i64).pair Sh.unit)) vs, SC.sl Sh.str ms, SC.sl Sh.str cs, SC.sl (Sh.str.pair (((Sh.int IntKind.i64).pair ((Sh.int IntKind.i64).pair ((Sh.int IntKind.i64).pair ((Sh.int IntKind.i64).pair ((Sh.int IntKind.i64).pair ((Sh.int IntKind.i64).pair ((Sh.int IntKind.i64).pair ((Sh.int IntKind.i64).pair Sh.unit)))))))).sl.pair Sh.unit)) fs, SC.sl ((Sh.int IntKind.i64).pair ((Sh.int IntKind.i64).pair Sh.unit)) ts]), (([] : Go.Eng.Gd), Res.obj (28 : Nat) ((Sh.int IntKind.i64).pair ((Sh.int IntKind.i64).pair ((Sh.int IntKind.i64).pair ((Sh.arr (8 : Nat) (Sh.int IntKind.i64)).pair ((Sh.int IntKind.i64).pair ((Sh.int IntKind.i64).pair ((Sh.int IntKind.i64).pair ((Sh.int IntKind.i64).pair ((Sh.int IntKind.i64).pair ((Sh.int IntKind.i64).sl.pair Sh.unit)))))))))) (id, fn, pc, rg, st, ch, ph, su, fa, he, ()))] = [(([] : Go.Eng.Gd), Res.blk (43 : Nat) [SC.sl (Sh.str.pair ((Sh.int IntKind.i64).pair Sh.unit)) vs, SC.sl Sh.str ms, SC.sl Sh.str cs, SC.sl (Sh.str.pair (((Sh.int IntKind.i64).pair ((Sh.int IntKind.i64).pair ((Sh.int IntKind.i64).pair ((Sh.int IntKind.i64).pair ((Sh.int IntKind.i64).pair ((Sh.int IntKind.i64).pair ((Sh.int IntKind.i64).pair ((Sh.int IntKind.i64).pair Sh.unit)))))))).sl.pair Sh.unit)) fs, SC.sl ((Sh.int IntKind.i64).pair ((Sh.int IntKind.i64).pair Sh.unit)) ts]), (([] : Go.Eng.Gd), Res.obj (28 : Nat) ((Sh.int IntKind.i64).pair ((Sh.int IntKind.i64).pair ((Sh.int IntKind.i64).pair ((Sh.arr (8 : Nat) (Sh.int IntKind.i64)).pair ((Sh.int IntKind.i64).pair ((Sh.int IntKind.i64).pair ((Sh.int IntKind.i64).pair ((Sh.int IntKind.i64).pair ((Sh.int IntKind.i64).pair ((Sh.int IntKind.i64).sl.pair Sh.unit)))))))))) (id, fn, pc, rg, st, ch, ph, su, fa, he, ()))]) ∧ ∀ (x : Nat), (x ≤ (8 : Nat) ∧ ∀ (j : Nat), j < x → ∀ (r : Int), rg[j]? = some r → valS r = true) → br (decide ((↑x : Int) < (8 : Int))) (((0 : Int) ≤ (↑x : Int) ∧ (↑x : Int) < (↑rg.length : Int)) ∧ ∀ (d : Int), rg[(↑x : Int).toNat]? = some d → True ∧ br (!decide (wrapS d = d)) (([] : List Go.Eng.Res) = [] ∧ Ent.one (SV.c (SC.v (Value.bool (formedB ms fs bound (id, fn, pc, rg, st, ch, ph, su, fa, he, ()))))) = Ent.one (SV.c (SC.v (Value.bool false)))) (InR IntKind.i64 ((↑x : Int) + (1 : Int)) ∧ ∃ x', (x' ≤ (8 : Nat) ∧ ∀ (j : Nat), j < x' → ∀ (r : Int), rg[j]? = some r → valS r = true) ∧ (SV.c (SC.v (Value.int IntKind.i64 ((↑x : Int) + (1 : Int)))) = SV.c (SC.v (Value.int IntKind.i64 (↑x' : Int))) ∧ True) ∧ [(([] : Go.Eng.Gd), Res.blk (43 : Nat) [SC.sl (Sh.str.pair ((Sh.int IntKind.i64).pair Sh.unit)) vs, SC.sl Sh.str ms, SC.sl Sh.str cs, SC.sl (Sh.str.pair (((Sh.int IntKind.i64).pair ((Sh.int IntKind.i64).pair ((Sh.int IntKind.i64).pair ((Sh.int IntKind.i64).pair ((Sh.int IntKind.i64).pair ((Sh.int IntKind.i64).pair ((Sh.int IntKind.i64).pair ((Sh.int IntKind.i64).pair Sh.unit)))))))).sl.pair Sh.unit)) fs, SC.sl ((Sh.int IntKind.i64).pair ((Sh.int IntKind.i64).pair Sh.unit)) ts]), (([] : Go.Eng.Gd), Res.obj (28 : Nat) ((Sh.int IntKind.i64).pair ((Sh.int IntKind.i64).pair ((Sh.int IntKind.i64).pair ((Sh.arr (8 : Nat) (Sh.int IntKind.i64)).pair ((Sh.int IntKind.i64).pair ((Sh.int IntKind.i64).pair ((Sh.int IntKind.i64).pair ((Sh.int IntKind.i64).pair ((Sh.int IntKind.i64).pair ((Sh.int IntKind.i64).sl.pair Sh.unit)))))))))) (id, fn, pc, rg, st, ch, ph, su, fa, he, ()))] = [(([] : Go.Eng.Gd), Res.blk (43 : Nat) [SC.sl (Sh.str.pair ((Sh.int IntKind.i64).pair Sh.unit)) vs, SC.sl Sh.str ms, SC.sl Sh.str cs, SC.sl (Sh.str.pair (((Sh.int IntKind.i64).pair ((Sh.int IntKind.i64).pair ((Sh.int IntKind.i64).pair ((Sh.int IntKind.i64).pair ((Sh.int IntKind.i64).pair ((Sh.int IntKind.i64).pair ((Sh.int IntKind.i64).pair ((Sh.int IntKind.i64).pair Sh.unit)))))))).sl.pair Sh.unit)) fs, SC.sl ((Sh.int IntKind.i64).pair ((Sh.int IntKind.i64).pair Sh.unit)) ts]), (([] : Go.Eng.Gd), Res.obj (28 : Nat) ((Sh.int IntKind.i64).pair ((Sh.int IntKind.i64).pair ((Sh.int IntKind.i64).pair ((Sh.arr (8 : Nat) (Sh.int IntKind.i64)).pair ((Sh.int IntKind.i64).pair ((Sh.int IntKind.i64).pair ((Sh.int IntKind.i64).pair ((Sh.int IntKind.i64).pair ((Sh.int IntKind.i64).pair ((Sh.int IntKind.i64).sl.pair Sh.unit)))))))))) (id, fn, pc, rg, st, ch, ph, su, fa, he, ()))] ∧ (8 : Nat) - x' < (8 : Nat) - x)) (((!(decide (st < (0 : Int)) || decide (bound < st) || decide (ch < (0 : Int)) || decide ((7 : Int) < ch) || decide (depthI id = (4 : Int)) && !decide (ch = (0 : Int)))) = true → he.length ≤ (1000000 : Nat)) ∧ br (decide (st < (0 : Int)) || decide (bound < st) || decide (ch < (0 : Int)) || decide ((7 : Int) < ch) || decide (depthI id = (4 : Int)) && !decide (ch = (0 : Int)) || !validI he) (([] : List Go.Eng.Res) = [] ∧ Ent.one (SV.c (SC.v (Value.bool (formedB ms fs bound (id, fn, pc, rg, st, ch, ph, su, fa, he, ()))))) = Ent.one (SV.c (SC.v (Value.bool false)))) ((∃ x, (x ≤ he.length ∧ ∀ (j : Nat), j < x → ∀ (m : Int), he[j]? = some m → (0 : Int) ≤ m ∧ m < (↑ms.length : Int)) ∧ (SV.c (SC.v (Value.int IntKind.i64 (0 : Int))) = SV.c (SC.v (Value.int IntKind.i64 (↑x : Int))) ∧ True) ∧ [(([] : Go.Eng.Gd), Res.blk (43 : Nat) [SC.sl (Sh.str.pair ((Sh.int IntKind.i64).pair Sh.unit)) vs, SC.sl Sh.str ms, SC.sl Sh.str cs, SC.sl (Sh.str.pair (((Sh.int IntKind.i64).pair ((Sh.int IntKind.i64).pair ((Sh.int IntKind.i64).pair ((Sh.int IntKind.i64).pair ((Sh.int IntKind.i64).pair ((Sh.int IntKind.i64).pair ((Sh.int IntKind.i64).pair ((Sh.int IntKind.i64).pair Sh.unit)))))))).sl.pair Sh.unit)) fs, SC.sl ((Sh.int IntKind.i64).pair ((Sh.int IntKind.i64).pair Sh.unit)) ts]), (([] : Go.Eng.Gd), Res.obj (28 : Nat) ((Sh.int IntKind.i64).pair ((Sh.int IntKind.i64).pair ((Sh.int IntKind.i64).pair ((Sh.arr (8 : Nat) (Sh.int IntKind.i64)).pair ((Sh.int IntKind.i64).pair ((Sh.int IntKind.i64).pair ((Sh.int IntKind.i64).pair ((Sh.int IntKind.i64).pair ((Sh.int IntKind.i64).pair ((Sh.int IntKind.i64).sl.pair Sh.unit)))))))))) (id, fn, pc, rg, st, ch, ph, su, fa, he, ()))] = [(([] : Go.Eng.Gd), Res.blk (43 : Nat) [SC.sl (Sh.str.pair ((Sh.int IntKind.i64).pair Sh.unit)) vs, SC.sl Sh.str ms, SC.sl Sh.str cs, SC.sl (Sh.str.pair (((Sh.int IntKind.i64).pair ((Sh.int IntKind.i64).pair ((Sh.int IntKind.i64).pair ((Sh.int IntKind.i64).pair ((Sh.int IntKind.i64).pair ((Sh.int IntKind.i64).pair ((Sh.int IntKind.i64).pair ((Sh.int IntKind.i64).pair Sh.unit)))))))).sl.pair Sh.unit)) fs, SC.sl ((Sh.int IntKind.i64).pair ((Sh.int IntKind.i64).pair Sh.unit)) ts]), (([] : Go.Eng.Gd), Res.obj (28 : Nat) ((Sh.int IntKind.i64).pair ((Sh.int IntKind.i64).pair ((Sh.int IntKind.i64).pair ((Sh.arr (8 : Nat) (Sh.int IntKind.i64)).pair ((Sh.int IntKind.i64).pair ((Sh.int IntKind.i64).pair ((Sh.int IntKind.i64).pair ((Sh.int IntKind.i64).pair ((Sh.int IntKind.i64).pair ((Sh.int IntKind.i64).sl.pair Sh.unit)))))))))) (id, fn, pc, rg, st, ch, ph, su, fa, he, ()))]) ∧ ∀ (x : Nat), (x ≤ he.length ∧ ∀ (j : Nat), j < x → ∀ (m : Int), he[j]? = some m → (0 : Int) ≤ m ∧ m < (↑ms.length : Int)) → br (decide ((↑x : Int) < (↑he.length : Int))) (((0 : Int) ≤ (↑x : Int) ∧ (↑x : Int) < (↑he.length : Int)) ∧ ∀ (d : Int), he[(↑x : Int).toNat]? = some d → br (decide (d < (0 : Int)) || decide ((↑ms.length : Int) ≤ d)) (([] : List Go.Eng.Res) = [] ∧ Ent.one (SV.c (SC.v (Value.bool (formedB ms fs bound (id, fn, pc, rg, st, ch, ph, su, fa, he, ()))))) = Ent.one (SV.c (SC.v (Value.bool false)))) (InR IntKind.i64 ((↑x : Int) + (1 : Int)) ∧ ∃ x', (x' ≤ he.length ∧ ∀ (j : Nat), j < x' → ∀ (m : Int), he[j]? = some m → (0 : Int) ≤ m ∧ m < (↑ms.length : Int)) ∧ (SV.c (SC.v (Value.int IntKind.i64 ((↑x : Int) + (1 : Int)))) = SV.c (SC.v (Value.int IntKind.i64 (↑x' : Int))) ∧ True) ∧ [(([] : Go.Eng.Gd), Res.blk (43 : Nat) [SC.sl (Sh.str.pair ((Sh.int IntKind.i64).pair Sh.unit)) vs, SC.sl Sh.str ms, SC.sl Sh.str cs, SC.sl (Sh.str.pair (((Sh.int IntKind.i64).pair ((Sh.int IntKind.i64).pair ((Sh.int IntKind.i64).pair ((Sh.int IntKind.i64).pair ((Sh.int IntKind.i64).pair ((Sh.int IntKind.i64).pair ((Sh.int IntKind.i64).pair ((Sh.int IntKind.i64).pair Sh.unit)))))))).sl.pair Sh.unit)) fs, SC.sl ((Sh.int IntKind.i64).pair ((Sh.int IntKind.i64).pair Sh.unit)) ts]), (([] : Go.Eng.Gd), Res.obj (28 : Nat) ((Sh.int IntKind.i64).pair ((Sh.int IntKind.i64).pair ((Sh.int IntKind.i64).pair ((Sh.arr (8 : Nat) (Sh.int IntKind.i64)).pair ((Sh.int IntKind.i64).pair ((Sh.int IntKind.i64).pair ((Sh.int IntKind.i64).pair ((Sh.int IntKind.i64).pair ((Sh.int IntKind.i64).pair ((Sh.int IntKind.i64).sl.pair Sh.unit)))))))))) (id, fn, pc, rg, st, ch, ph, su, fa, he, ()))] = [(([] : Go.Eng.Gd), Res.blk (43 : Nat) [SC.sl (Sh.str.pair ((Sh.int IntKind.i64).pair Sh.unit)) vs, SC.sl Sh.str ms, SC.sl Sh.str cs, SC.sl (Sh.str.pair (((Sh.int IntKind.i64).pair ((Sh.int IntKind.i64).pair ((Sh.int IntKind.i64).pair ((Sh.int IntKind.i64).pair ((Sh.int IntKind.i64).pair ((Sh.int IntKind.i64).pair ((Sh.int IntKind.i64).pair ((Sh.int IntKind.i64).pair Sh.unit)))))))).sl.pair Sh.unit)) fs, SC.sl ((Sh.int IntKind.i64).pair ((Sh.int IntKind.i64).pair Sh.unit)) ts]), (([] : Go.Eng.Gd), Res.obj (28 : Nat) ((Sh.int IntKind.i64).pair ((Sh.int IntKind.i64).pair ((Sh.int IntKind.i64).pair ((Sh.arr (8 : Nat) (Sh.int IntKind.i64)).pair ((Sh.int IntKind.i64).pair ((Sh.int IntKind.i64).pair ((Sh.int IntKind.i64).pair ((Sh.int IntKind.i64).pair ((Sh.int IntKind.i64).pair ((Sh.int IntKind.i64).sl.pair Sh.unit)))))))))) (id, fn, pc, rg, st, ch, ph, su, fa, he, ()))] ∧ he.length - x' < he.length - x)) (br (decide (ph = (0 : Int))) (([] : List Go.Eng.Res) = [] ∧ Ent.one (SV.c (SC.v (Value.bool (formedB ms fs bound (id, fn, pc, rg, st, ch, ph, su, fa, he, ()))))) = Ent.one (SV.c (SC.v (Value.bool true)))) (((0 : (Sh.int IntKind.i64).den) ≤ fn ∧ fn < (↑fs.length : (Sh.int IntKind.i64).den) ∧ (0 : (Sh.int IntKind.i64).den) ≤ pc) ∧ (((decide (ph = (1 : Int)) || decide (ph = (2 : Int))) && (atR fs fn pc).snd && decide ((atR fs fn pc).fst.fst = (18 : Int))) = true → he.length ≤ (1000000 : Nat)) ∧ ([] : List Go.Eng.Res) = [] ∧ Ent.one (SV.c (SC.v (Value.bool (formedB ms fs bound (id, fn, pc, rg, st, ch, ph, su, fa, he, ()))))) = Ent.one (SV.c (SC.v (Value.bool ((decide (ph = (1 : Int)) || decide (ph = (2 : Int))) && (atR fs fn pc).snd && decide ((atR fs fn pc).fst.fst = (18 : Int)) && !hasI he (atR fs fn pc).fst.snd.snd.snd.snd.snd.fst))))))))) := by
  obtain ⟨_, hhe, hid, hrg⟩ : True ∧ he.length ≤ 1000000 ∧ id ≤ 9223372036854775807 ∧ rg.length = 8 := hpre
  have fF : ¬ Formed ms fs bound (id, fn, pc, rg, st, ch, ph, su, fa, he, ()) → ([] : List Go.Eng.Res) = [] ∧ Ent.one (SV.c (SC.v (Value.bool (formedB ms fs bound (id, fn, pc, rg, st, ch, ph, su, fa, he, ()))))) = Ent.one (SV.c (SC.v (Value.bool false))) := fun q => ⟨rfl, by rw [formedB_false q]⟩
  refine ⟨hid, fun g => by simp at g; omega, fun x hx => br_iff.2 ⟨fun h => ?_, fun h => ?_⟩⟩
  · refine fF fun q => ?_
    obtain ⟨q1, q2, q3, _⟩ := q
    obtain ⟨y, hy, ey⟩ := codeF_get q2
    have hx := hx (by simp; omega)
    rw [hx] at hy; cases hy
    rw [ey] at q3
    simp at h; omega
  simp only [Bool.or_eq_false_iff, decide_eq_false_iff_not] at h
  obtain ⟨⟨⟨⟨h1, h2⟩, h3⟩, h4⟩, h5⟩ := h
  have hx := hx (by simp; omega)
  have hfn : 0 ≤ fn ∧ fn < (fs.length : Int) := by omega
  obtain ⟨y, hy, ey⟩ := codeF_get hfn
  rw [hx] at hy; cases hy
  have hpc : 0 ≤ pc ∧ pc ≤ ((codeF fs fn).length : Int) := by rw [ey]; omega
  refine ⟨⟨0, ⟨by omega, fun j hj => by omega⟩, ⟨rfl, trivial⟩, rfl⟩, fun k hk => br_iff.2 ⟨fun h => ?_, fun h => ?_⟩⟩
  · simp only [decide_eq_true_eq] at h
    refine ⟨by omega, fun d hd => ⟨trivial, br_iff.2 ⟨fun h6 => ?_, fun h6 => ⟨InR_i64.2 (by omega), k + 1, ⟨by omega, fun j hj r hr => ?_⟩, ⟨rfl, trivial⟩, rfl, by omega⟩⟩⟩⟩
    · refine fF fun q => ?_
      have := q.2.2.2.1 k (by omega) d hd
      unfold valS at this
      have h6 : ¬ wrapS d = d := by simpa using h6
      exact h6 (wrapS_id.2 (by simpa using this))
    · have h6 : wrapS d = d := by simpa using h6
      by_cases hjk : j = k
      · subst hjk
        have hd : rg[j]? = some d := hd
        rw [hd] at hr; cases hr
        unfold valS
        exact decide_eq_true (wrapS_id.1 h6)
      · exact hk.2 j (by omega) r hr
  simp only [decide_eq_false_iff_not] at h
  have hr : ∀ k < 8, ∀ r, rg[k]? = some r → valS r = true := fun j hj r hr => hk.2 j (by omega) r hr
  refine ⟨fun _ => hhe, br_iff.2 ⟨fun h7 => ?_, fun h7 => ?_⟩⟩
  · refine fF fun q => ?_
    obtain ⟨_, _, _, _, q5, q6, q7, _⟩ := q
    have e : validI he = true := decide_eq_true q7
    rw [e] at h7
    simp at h7; omega
  simp only [Bool.or_eq_false_iff, Bool.and_eq_false_iff, Bool.not_eq_false', decide_eq_false_iff_not, decide_eq_true_eq] at h7
  obtain ⟨⟨⟨⟨⟨a1, a2⟩, a3⟩, a4⟩, a5⟩, a6⟩ := h7
  have hss : SS he := of_decide_eq_true a6
  refine ⟨⟨0, ⟨by omega, fun j hj => by omega⟩, ⟨rfl, trivial⟩, rfl⟩, fun m hm => br_iff.2 ⟨fun h8 => ?_, fun h8 => ?_⟩⟩
  · simp only [decide_eq_true_eq] at h8
    refine ⟨by omega, fun d hd => br_iff.2 ⟨fun h9 => ?_, fun h9 => ⟨InR_i64.2 (by omega), m + 1, ⟨by omega, fun j hj r hr => ?_⟩, ⟨rfl, trivial⟩, rfl, by omega⟩⟩⟩
    · refine fF fun q => ?_
      have := q.2.2.2.2.2.2.2.1 d (List.mem_of_getElem? hd)
      simp at h9; omega
    · by_cases hjk : j = m
      · subst hjk
        have hd : he[j]? = some d := hd
        rw [hd] at hr; cases hr
        simp at h9; omega
      · exact hm.2 j (by omega) r hr
  simp only [decide_eq_false_iff_not] at h8
  have hmm : ∀ m ∈ he, 0 ≤ m ∧ m < (ms.length : Int) := fun y hy => by
    obtain ⟨j, hj⟩ := List.getElem?_of_mem hy
    exact hm.2 j (by have := (List.getElem?_eq_some_iff.1 hj).1; omega) y hj
  have base : (ph = 0 ∨ ((ph = 1 ∨ ph = 2) ∧ ∃ i, atS fs fn pc = some i ∧ i.1 = 18 ∧ hasI he i.2.2.2.2.2.1 = false)) ↔ Formed ms fs bound (id, fn, pc, rg, st, ch, ph, su, fa, he, ()) :=
    ⟨fun q => ⟨by omega, hfn, hpc, hr, by omega, ⟨by omega, by omega, fun e => by omega⟩, hss, hmm, q⟩, fun q => q.2.2.2.2.2.2.2.2⟩
  have fB : ∀ b : Bool, (b = true ↔ (ph = 0 ∨ ((ph = 1 ∨ ph = 2) ∧ ∃ i, atS fs fn pc = some i ∧ i.1 = 18 ∧ hasI he i.2.2.2.2.2.1 = false))) → Ent.one (SV.c (SC.v (Value.bool (formedB ms fs bound (id, fn, pc, rg, st, ch, ph, su, fa, he, ()))))) = Ent.one (SV.c (SC.v (Value.bool b))) := fun b hb => by
    have : formedB ms fs bound (id, fn, pc, rg, st, ch, ph, su, fa, he, ()) = b := by
      rw [Bool.eq_iff_iff, hb, base, formedB_iff]
    rw [this]
  refine br_iff.2 ⟨fun h9 => ⟨rfl, fB _ ?_⟩, fun h9 => ⟨⟨hfn.1, hfn.2, hpc.1⟩, fun _ => hhe, rfl, fB _ ?_⟩⟩
  · simp at h9; simp [h9]
  · simp at h9
    cases ha : atS fs fn pc with
    | none => rw [show atR fs fn pc = ((0, 0, 0, 0, 0, 0, 0, 0, ()), false) by unfold atR; rw [ha]]; simp [h9]
    | some i => rw [show atR fs fn pc = (i, true) by unfold atR; rw [ha]]; simp [h9, and_assoc]
set_option maxHeartbeats 2000000 in
set_option maxRecDepth 100000 in
theorem f33_met : Go.Eng.Met Tryd.prog cx0.gd 33 ctFrm :=
  (met_all (cx := cx0) (n := 144) (cl := cl33) (il := il33) (hl := hl33) (ml := ml33) (rc := []) (lits := []) (suf := []) (by kernel_rfl) tis_ok ⟨f22_met, f30_met, f45_met, f34_met, f46_met, trivial⟩ trivial trivial trivial Tryd.func33 (by kernel_rfl) (by kernel_rfl) rfl (by kernel_rfl) (by kernel_rfl) (by simp) fun d hd => by
    obtain ⟨⟨vs, ms, cs, fs, ts, ⟨⟩⟩, bound, ⟨id, fn, pc, rg, st, ch, ph, su, fa, he, ⟨⟩⟩, ⟨⟩⟩ := d
    exact ex_of (ann33 vs ms cs fs ts bound id fn pc rg st ch ph su fa he) (f33_vc vs ms cs fs ts bound id fn pc rg st ch ph su fa he hd) (by kernel_rfl)).met
@[reducible] noncomputable def ctVal2 : CT := { ps := [shP, .int .i64, shT], pre := fun d => (chkP d.1.1 d.1.2.1 d.1.2.2.1 d.1.2.2.2.1 d.1.2.2.2.2.1).1 = 0 ∧ d.2.2.1.2.2.2.2.2.2.2.2.2.1.length ≤ 1000000 ∧ d.2.2.1.1 ≤ 9223372036854775807 ∧ d.2.2.1.2.2.2.1.length = 8, res := fun d => ([], vB (vldB d.1.2.1 d.1.2.2.2.1 d.2.1 d.2.2.1)) }
@[reducible] noncomputable def cl32 : List (Nat × CT) := [(33, ctFrm), (34, ctAt), (42, ctVis), (43, ctObs)]
@[reducible] def ann32 (vs : List VD) (ms : List ByteArray) (cs : List ByteArray) (fs : List FD) (ts : List SD) (bound : Int) (id : Int) (fn : Int) (pc : Int) (rg : List Int) (st : Int) (ch : Int) (ph : Int) (su : Int) (fa : Int) (he : List Int) : Nat → Option (St → Ann) := fun _ => none
@[reducible] def il32 : List (Nat × IP) := []
@[reducible] def hl32 : List (Nat × Nat × CT) := []
@[reducible] noncomputable def ml32 : List (Nat × MK) := []
set_option maxRecDepth 100000 in
theorem f32_vc (vs : List VD) (ms : List ByteArray) (cs : List ByteArray) (fs : List FD) (ts : List SD) (bound : Int) (id : Int) (fn : Int) (pc : Int) (rg : List Int) (st : Int) (ch : Int) (ph : Int) (su : Int) (fa : Int) (he : List Int) (hpre : ctVal2.pre ((vs, ms, cs, fs, ts, ()), bound, (id, fn, pc, rg, st, ch, ph, su, fa, he, ()), ())) :
    (True ∧ he.length ≤ (1000000 : Nat) ∧ id ≤ (9223372036854775807 : (Sh.int IntKind.i64).den) ∧ rg.length = (8 : Nat)) ∧ br (!formedB ms fs bound (id, fn, pc, rg, st, ch, ph, su, fa, he, ())) (([] : List Go.Eng.Res) = [] ∧ Ent.one (SV.c (SC.v (Value.bool (vldB ms fs bound (id, fn, pc, rg, st, ch, ph, su, fa, he, ()))))) = Ent.one (SV.c (SC.v (Value.bool false)))) (((0 : (Sh.int IntKind.i64).den) ≤ fn ∧ fn < (↑fs.length : (Sh.int IntKind.i64).den) ∧ (0 : (Sh.int IntKind.i64).den) ≤ pc) ∧ br (decide (su = (1 : Int))) (br (decide (su = (1 : Int))) (((!(!decide (fa = (0 : Int)) || !(atR fs fn pc).snd)) = true → True) ∧ ((!(!decide (fa = (0 : Int)) || !(atR fs fn pc).snd || !visS (atR fs fn pc).fst.fst)) = true → he.length ≤ (1000000 : Nat) ∧ id ≤ (9223372036854775807 : (Sh.int IntKind.i64).den)) ∧ br (!decide (fa = (0 : Int)) || !(atR fs fn pc).snd || !visS (atR fs fn pc).fst.fst || !decide (obsS id ch ph he (atR fs fn pc).fst = (0 : Int))) (([] : List Go.Eng.Res) = [] ∧ Ent.one (SV.c (SC.v (Value.bool (vldB ms fs bound (id, fn, pc, rg, st, ch, ph, su, fa, he, ()))))) = Ent.one (SV.c (SC.v (Value.bool false)))) (([] : List Go.Eng.Res) = [] ∧ Ent.one (SV.c (SC.v (Value.bool (vldB ms fs bound (id, fn, pc, rg, st, ch, ph, su, fa, he, ()))))) = Ent.one (SV.c (SC.v (Value.bool (decide (su = (1 : Int)) && decide (st < bound) || decide (su = (4 : Int)) && decide ((1 : Int) ≤ st))))))) (br (decide (su = (2 : Int))) (([] : List Go.Eng.Res) = [] ∧ Ent.one (SV.c (SC.v (Value.bool (vldB ms fs bound (id, fn, pc, rg, st, ch, ph, su, fa, he, ()))))) = Ent.one (SV.c (SC.v (Value.bool (decide (fa = (0 : Int)) && decide (ph = (0 : Int)) && (!(atR fs fn pc).snd || decide ((atR fs fn pc).fst.fst = (7 : Int)))))))) (br (decide (su = (3 : Int))) (br (!decide (ph = (0 : Int)) || !(atR fs fn pc).snd) (([] : List Go.Eng.Res) = [] ∧ Ent.one (SV.c (SC.v (Value.bool (vldB ms fs bound (id, fn, pc, rg, st, ch, ph, su, fa, he, ()))))) = Ent.one (SV.c (SC.v (Value.bool false)))) (br (decide (fa = (26 : Int))) ((decide ((atR fs fn pc).fst.fst = (6 : Int)) = true → (0 : Int) ≤ (atR fs fn pc).fst.snd.snd.fst ∧ (atR fs fn pc).fst.snd.snd.fst < (8 : Int)) ∧ (decide ((atR fs fn pc).fst.fst = (6 : Int)) = true → (atR fs fn pc).fst.snd.snd.fst.toNat < (8 : Nat)) ∧ ∀ (d : Int), (decide ((atR fs fn pc).fst.fst = (6 : Int)) = true → rg[(atR fs fn pc).fst.snd.snd.fst.toNat]? = some d) → ([] : List Go.Eng.Res) = [] ∧ Ent.one (SV.c (SC.v (Value.bool (vldB ms fs bound (id, fn, pc, rg, st, ch, ph, su, fa, he, ()))))) = Ent.one (SV.c (SC.v (Value.bool (decide ((atR fs fn pc).fst.fst = (6 : Int)) && decide (d = (0 : Int))))))) (br (decide (fa = (29 : Int))) (True ∧ ([] : List Go.Eng.Res) = [] ∧ Ent.one (SV.c (SC.v (Value.bool (vldB ms fs bound (id, fn, pc, rg, st, ch, ph, su, fa, he, ()))))) = Ent.one (SV.c (SC.v (Value.bool !visS (atR fs fn pc).fst.fst)))) (((!decide (fa = (0 : Int))) = true → he.length ≤ (1000000 : Nat) ∧ id ≤ (9223372036854775807 : (Sh.int IntKind.i64).den)) ∧ ([] : List Go.Eng.Res) = [] ∧ Ent.one (SV.c (SC.v (Value.bool (vldB ms fs bound (id, fn, pc, rg, st, ch, ph, su, fa, he, ()))))) = Ent.one (SV.c (SC.v (Value.bool (!decide (fa = (0 : Int)) && decide (obsS id ch ph he (atR fs fn pc).fst = fa))))))))) (([] : List Go.Eng.Res) = [] ∧ Ent.one (SV.c (SC.v (Value.bool (vldB ms fs bound (id, fn, pc, rg, st, ch, ph, su, fa, he, ()))))) = Ent.one (SV.c (SC.v (Value.bool false))))))) (br (decide (su = (4 : Int))) (((!(!decide (fa = (0 : Int)) || !(atR fs fn pc).snd)) = true → True) ∧ ((!(!decide (fa = (0 : Int)) || !(atR fs fn pc).snd || !visS (atR fs fn pc).fst.fst)) = true → he.length ≤ (1000000 : Nat) ∧ id ≤ (9223372036854775807 : (Sh.int IntKind.i64).den)) ∧ br (!decide (fa = (0 : Int)) || !(atR fs fn pc).snd || !visS (atR fs fn pc).fst.fst || !decide (obsS id ch ph he (atR fs fn pc).fst = (0 : Int))) (([] : List Go.Eng.Res) = [] ∧ Ent.one (SV.c (SC.v (Value.bool (vldB ms fs bound (id, fn, pc, rg, st, ch, ph, su, fa, he, ()))))) = Ent.one (SV.c (SC.v (Value.bool false)))) (([] : List Go.Eng.Res) = [] ∧ Ent.one (SV.c (SC.v (Value.bool (vldB ms fs bound (id, fn, pc, rg, st, ch, ph, su, fa, he, ()))))) = Ent.one (SV.c (SC.v (Value.bool (decide (su = (1 : Int)) && decide (st < bound) || decide (su = (4 : Int)) && decide ((1 : Int) ≤ st))))))) (br (decide (su = (2 : Int))) (([] : List Go.Eng.Res) = [] ∧ Ent.one (SV.c (SC.v (Value.bool (vldB ms fs bound (id, fn, pc, rg, st, ch, ph, su, fa, he, ()))))) = Ent.one (SV.c (SC.v (Value.bool (decide (fa = (0 : Int)) && decide (ph = (0 : Int)) && (!(atR fs fn pc).snd || decide ((atR fs fn pc).fst.fst = (7 : Int)))))))) (br (decide (su = (3 : Int))) (br (!decide (ph = (0 : Int)) || !(atR fs fn pc).snd) (([] : List Go.Eng.Res) = [] ∧ Ent.one (SV.c (SC.v (Value.bool (vldB ms fs bound (id, fn, pc, rg, st, ch, ph, su, fa, he, ()))))) = Ent.one (SV.c (SC.v (Value.bool false)))) (br (decide (fa = (26 : Int))) ((decide ((atR fs fn pc).fst.fst = (6 : Int)) = true → (0 : Int) ≤ (atR fs fn pc).fst.snd.snd.fst ∧ (atR fs fn pc).fst.snd.snd.fst < (8 : Int)) ∧ (decide ((atR fs fn pc).fst.fst = (6 : Int)) = true → (atR fs fn pc).fst.snd.snd.fst.toNat < (8 : Nat)) ∧ ∀ (d : Int), (decide ((atR fs fn pc).fst.fst = (6 : Int)) = true → rg[(atR fs fn pc).fst.snd.snd.fst.toNat]? = some d) → ([] : List Go.Eng.Res) = [] ∧ Ent.one (SV.c (SC.v (Value.bool (vldB ms fs bound (id, fn, pc, rg, st, ch, ph, su, fa, he, ()))))) = Ent.one (SV.c (SC.v (Value.bool (decide ((atR fs fn pc).fst.fst = (6 : Int)) && decide (d = (0 : Int))))))) (br (decide (fa = (29 : Int))) (True ∧ ([] : List Go.Eng.Res) = [] ∧ Ent.one (SV.c (SC.v (Value.bool (vldB ms fs bound (id, fn, pc, rg, st, ch, ph, su, fa, he, ()))))) = Ent.one (SV.c (SC.v (Value.bool !visS (atR fs fn pc).fst.fst)))) (((!decide (fa = (0 : Int))) = true → he.length ≤ (1000000 : Nat) ∧ id ≤ (9223372036854775807 : (Sh.int IntKind.i64).den)) ∧ ([] : List Go.Eng.Res) = [] ∧ Ent.one (SV.c (SC.v (Value.bool (vldB ms fs bound (id, fn, pc, rg, st, ch, ph, su, fa, he, ()))))) = Ent.one (SV.c (SC.v (Value.bool (!decide (fa = (0 : Int)) && decide (obsS id ch ph he (atR fs fn pc).fst = fa))))))))) (([] : List Go.Eng.Res) = [] ∧ Ent.one (SV.c (SC.v (Value.bool (vldB ms fs bound (id, fn, pc, rg, st, ch, ph, su, fa, he, ()))))) = Ent.one (SV.c (SC.v (Value.bool false)))))))) := by
  obtain ⟨hc, hhe, hid, hrg⟩ : (chkP vs ms cs fs ts).1 = 0 ∧ he.length ≤ 1000000 ∧ id ≤ 9223372036854775807 ∧ rg.length = 8 := hpre
  refine ⟨⟨trivial, hhe, hid, hrg⟩, br_iff.2 ⟨fun h => ⟨rfl, ?_⟩, fun h => ?_⟩⟩
  · have : vldB ms fs bound (id, fn, pc, rg, st, ch, ph, su, fa, he, ()) = false := vldB_false fun q => by
      have e := formedB_iff.2 q.1
      rw [e] at h; cases h
    rw [this]
  have hF : Formed ms fs bound (id, fn, pc, rg, st, ch, ph, su, fa, he, ()) := by
    have e : formedB ms fs bound (id, fn, pc, rg, st, ch, ph, su, fa, he, ()) = true := by simpa using h
    exact formedB_iff.1 e
  have hfn := hF.2.1
  refine ⟨⟨hfn.1, hfn.2, hF.2.2.1.1⟩, ?_⟩
  have W : ∀ b : Bool, (b = true ↔ (((su = 1 ∧ st < bound ∨ su = 4 ∧ 1 ≤ st) ∧ fa = 0 ∧ ∃ i, atS fs fn pc = some i ∧ visS i.1 = true ∧ obsS id ch ph he i = 0) ∨
     (su = 2 ∧ fa = 0 ∧ ph = 0 ∧ ∀ i, atS fs fn pc = some i → i.1 = 7) ∨
     (su = 3 ∧ ph = 0 ∧ ∃ i, atS fs fn pc = some i ∧ (fa = 26 ∧ i.1 = 6 ∧ rg.getD i.2.2.1.toNat 0 = 0 ∨ fa = 29 ∧ visS i.1 = false ∨ fa ≠ 26 ∧ fa ≠ 29 ∧ fa ≠ 0 ∧ obsS id ch ph he i = fa)))) →
      Ent.one (SV.c (SC.v (Value.bool (vldB ms fs bound (id, fn, pc, rg, st, ch, ph, su, fa, he, ()))))) = Ent.one (SV.c (SC.v (Value.bool b))) := fun b hb => by
    have : vldB ms fs bound (id, fn, pc, rg, st, ch, ph, su, fa, he, ()) = b := by
      rw [Bool.eq_iff_iff, hb, vldB_iff]
      exact ⟨fun q => q.2, fun q => ⟨hF, q⟩⟩
    rw [this]
  cases ha : atS fs fn pc with
  | none =>
    rw [show atR fs fn pc = ((0, 0, 0, 0, 0, 0, 0, 0, ()), false) by unfold atR; rw [ha]]
    simp only [br_iff, ha] at W ⊢
    repeat' (first | exact hhe | exact hid | (refine And.intro ?_ ?_) | (intro _))
    all_goals first | rfl | trivial | exact hhe | exact hid | (refine W _ ?_; simp_all; done) | (simp_all; done)
  | some i =>
    rw [show atR fs fn pc = (i, true) by unfold atR; rw [ha]]
    obtain ⟨r1, r2, r3, r4⟩ := chkI_regs (ci_zero (at_ok hc hfn ha)).1
    have rb8 : i.2.2.1.toNat < 8 := by omega
    have gd : ∀ {x d : Int}, rg[x.toNat]? = some d → rg.getD x.toNat 0 = d := fun hd => by rw [List.getD_eq_getElem?_getD, hd]; rfl
    simp only [br_iff, ha] at W ⊢
    repeat' (first | exact hhe | exact hid | exact r2.1 | exact r2.2 | exact rb8 | (refine And.intro ?_ ?_) | (intro _))
    all_goals first | rfl | trivial | exact hhe | exact hid | exact r2.1 | exact r2.2 | exact rb8 | (refine W _ ?_; simp_all; done) | (refine W _ ?_; clear W; simp_all; grind) | skip
set_option maxHeartbeats 2000000 in
set_option maxRecDepth 100000 in
theorem f32_met : Go.Eng.Met Tryd.prog cx0.gd 32 ctVal2 :=
  (met_all (cx := cx0) (n := 123) (cl := cl32) (il := il32) (hl := hl32) (ml := ml32) (rc := []) (lits := []) (suf := []) (by kernel_rfl) tis_ok ⟨f33_met, f34_met, f42_met, f43_met, trivial⟩ trivial trivial trivial Tryd.func32 (by kernel_rfl) (by kernel_rfl) rfl (by kernel_rfl) (by kernel_rfl) (by simp) fun d hd => by
    obtain ⟨⟨vs, ms, cs, fs, ts, ⟨⟩⟩, bound, ⟨id, fn, pc, rg, st, ch, ph, su, fa, he, ⟨⟩⟩, ⟨⟩⟩ := d
    exact ex_of (ann32 vs ms cs fs ts bound id fn pc rg st ch ph su fa he) (f32_vc vs ms cs fs ts bound id fn pc rg st ch ph su fa he hd) (by kernel_rfl)).met
theorem cc_short {vs : List VD} {ms cs : List ByteArray} {fs : List FD} (h : (ccS vs ms cs fs).1 = 0) : longS fs < 0 := by
  unfold ccS at h
  split at h
  · rename_i d hd
    have hp := List.find?_some hd
    split at h
    · cases h
    · rename_i h1
      simp only [Bool.or_eq_true, decide_eq_true_eq] at hp
      rcases hp with hp | hp
      · exact absurd hp h1
      · exact absurd h hp
  · split at h
    · cases h
    · omega
theorem long_neg {fs : List FD} (h : longS fs < 0) : ∀ f ∈ fs, f.2.1.length ≤ 64 := by
  unfold longS at h
  split at h
  · omega
  · rename_i hn
    rw [List.findIdx?_eq_none_iff] at hn
    intro f hf
    simpa using hn f hf
theorem code_short {vs : List VD} {ms cs : List ByteArray} {fs : List FD} {ts : List SD} (h : (chkP vs ms cs fs ts).1 = 0) {fn : Int} (hf : 0 ≤ fn ∧ fn < fs.length) : (codeF fs fn).length ≤ 64 := by
  obtain ⟨x, hx, ex⟩ := codeF_get hf
  rw [ex]
  exact long_neg (cc_short (chk_zero h).2.1) x (List.mem_of_getElem? hx)
theorem stl_none {fs : List FD} {bound id fn pc st ch ph su fa : Int} {rg he : List Int} {u : Unit} (h : atS fs fn pc = none) (k : Nat) : stlS fs bound k (id, fn, pc, rg, st, ch, ph, su, fa, he, u) = (id, fn, pc, rg, st, ch, ph, 2, 0, he, ()) := by
  cases k <;> (rw [stlS]; unfold topS; simp only [h])
theorem stl_vis {fs : List FD} {bound id fn pc st ch ph su fa : Int} {rg he : List Int} {u : Unit} {i : ID} (h : atS fs fn pc = some i) (hv : visS i.1 = true) (k : Nat) : stlS fs bound k (id, fn, pc, rg, st, ch, ph, su, fa, he, u) =
    if obsS id ch ph he i ≠ 0 then (id, fn, pc, rg, st, ch, ph, 3, obsS id ch ph he i, he, ()) else if st = bound then (id, fn, pc, rg, st, ch, ph, 4, 0, he, ()) else (id, fn, pc, rg, st, ch, ph, su, fa, he, ()) := by
  cases k <;> (rw [stlS]; unfold topS; simp only [h]; rw [if_pos hv])
theorem stl_zero {fs : List FD} {bound id fn pc st ch ph su fa : Int} {rg he : List Int} {u : Unit} {i : ID} (h : atS fs fn pc = some i) (hv : visS i.1 = false) : stlS fs bound 0 (id, fn, pc, rg, st, ch, ph, su, fa, he, u) = (id, fn, pc, rg, st, ch, ph, 3, 29, he, ()) := by
  rw [stlS]; unfold topS; simp only [h]; rw [if_neg (by rw [hv]; simp)]; rfl
theorem stl_succ {fs : List FD} {bound id fn pc st ch ph su fa : Int} {rg he : List Int} {u : Unit} {i : ID} (h : atS fs fn pc = some i) (hv : visS i.1 = false) (k : Nat) : stlS fs bound (k + 1) (id, fn, pc, rg, st, ch, ph, su, fa, he, u) =
    if (locS (id, fn, pc, rg, st, ch, ph, su, fa, he, u) i).2 = true then stlS fs bound k (locS (id, fn, pc, rg, st, ch, ph, su, fa, he, u) i).1 else (locS (id, fn, pc, rg, st, ch, ph, su, fa, he, u) i).1 := by
  rw [stlS]; unfold topS; simp only [h]; rw [if_neg (by rw [hv]; simp)]
theorem loc_len (t : TD) (i : ID) : (locS t i).1.2.2.2.1.length = t.2.2.2.1.length := by
  obtain ⟨id, fn, pc, rg, st, ch, ph, su, fa, hd, u⟩ := t
  obtain ⟨op, a, b, c, obj, n, f, ord, u2⟩ := i
  unfold locS
  simp only
  repeat' split
  all_goals simp
@[reducible] def ctStl : CT := { ps := [shP, .int .i64, shT], pre := fun d => (chkP d.1.1 d.1.2.1 d.1.2.2.1 d.1.2.2.2.1 d.1.2.2.2.2.1).1 = 0 ∧ Formed d.1.2.1 d.1.2.2.2.1 d.2.1 d.2.2.1 ∧ d.2.2.1.2.2.2.2.2.2.2.2.2.1.length ≤ 1000000 ∧ d.2.2.1.1 ≤ 9223372036854775807 ∧ d.2.2.1.2.2.2.1.length = 8, res := fun d => ([], .one (.dat shT (stlS d.1.2.2.2.1 d.2.1 256 d.2.2.1))) }
@[reducible] noncomputable def cl31 : List (Nat × CT) := [(40, ctClone), (34, ctAt), (41, ctEnd), (42, ctVis), (43, ctObs), (44, ctLoc)]
@[reducible] def ann31 (vs : List VD) (ms : List ByteArray) (cs : List ByteArray) (fs : List FD) (ts : List SD) (bound : Int) (id : Int) (fn : Int) (pc : Int) (rg : List Int) (st : Int) (ch : Int) (ph : Int) (su : Int) (fa : Int) (he : List Int) : Nat → Option (St → Ann) := fun k => match k with
  | 4 => some fun _ => .inv { α := Nat × TD, slots := fun x => [(7, .c (.v (.int .i64 x.1)))], res := fun x => [(1, .obj 28 shT x.2)], inv := fun x => x.1 ≤ 256 ∧ Formed ms fs bound x.2 ∧ x.2.2.2.2.2.2.2.2.2.2.1 = he ∧ x.2.1 = id ∧ x.2.2.2.2.1.length = 8 ∧ stlS fs bound (256 - x.1) x.2 = stlS fs bound 256 (id, fn, pc, rg, st, ch, ph, su, fa, he, ()), meas := fun x => 257 - x.1 }
  | _ => none
@[reducible] def il31 : List (Nat × IP) := []
@[reducible] def hl31 : List (Nat × Nat × CT) := []
@[reducible] noncomputable def ml31 : List (Nat × MK) := []
set_option maxRecDepth 100000 in
theorem f31_vc (vs : List VD) (ms : List ByteArray) (cs : List ByteArray) (fs : List FD) (ts : List SD) (bound : Int) (id : Int) (fn : Int) (pc : Int) (rg : List Int) (st : Int) (ch : Int) (ph : Int) (su : Int) (fa : Int) (he : List Int) (hpre : ctStl.pre ((vs, ms, cs, fs, ts, ()), bound, (id, fn, pc, rg, st, ch, ph, su, fa, he, ()), ())) :
    he.length ≤ (1000000 : Nat) ∧ (∃ (x : Nat × TD), (x.fst ≤ (256 : Nat) ∧ Formed ms fs bound x.snd ∧ x.snd.snd.snd.snd.snd.snd.snd.snd.snd.snd.fst = he ∧ x.snd.fst = id ∧ x.snd.snd.snd.snd.fst.length = (8 : Nat) ∧ stlS fs bound ((256 : Nat) - x.fst) x.snd = stlS fs bound (256 : Nat) (id, fn, pc, rg, st, ch, ph, su, fa, he, ())) ∧ (SV.c (SC.v (Value.int IntKind.i64 (0 : Int))) = SV.c (SC.v (Value.int IntKind.i64 (↑x.fst : Int))) ∧ True) ∧ [(([] : Go.Eng.Gd), Res.blk (43 : Nat) [SC.sl (Sh.str.pair ((Sh.int IntKind.i64).pair Sh.unit)) vs, SC.sl Sh.str ms, SC.sl Sh.str cs, SC.sl (Sh.str.pair (((Sh.int IntKind.i64).pair ((Sh.int IntKind.i64).pair ((Sh.int IntKind.i64).pair ((Sh.int IntKind.i64).pair ((Sh.int IntKind.i64).pair ((Sh.int IntKind.i64).pair ((Sh.int IntKind.i64).pair ((Sh.int IntKind.i64).pair Sh.unit)))))))).sl.pair Sh.unit)) fs, SC.sl ((Sh.int IntKind.i64).pair ((Sh.int IntKind.i64).pair Sh.unit)) ts]), (([] : Go.Eng.Gd), Res.obj (28 : Nat) ((Sh.int IntKind.i64).pair ((Sh.int IntKind.i64).pair ((Sh.int IntKind.i64).pair ((Sh.arr (8 : Nat) (Sh.int IntKind.i64)).pair ((Sh.int IntKind.i64).pair ((Sh.int IntKind.i64).pair ((Sh.int IntKind.i64).pair ((Sh.int IntKind.i64).pair ((Sh.int IntKind.i64).pair ((Sh.int IntKind.i64).sl.pair Sh.unit)))))))))) (id, fn, pc, rg, st, ch, ph, su, fa, he, ())), (([] : Go.Eng.Gd), Res.obj (28 : Nat) ((Sh.int IntKind.i64).pair ((Sh.int IntKind.i64).pair ((Sh.int IntKind.i64).pair ((Sh.arr (8 : Nat) (Sh.int IntKind.i64)).pair ((Sh.int IntKind.i64).pair ((Sh.int IntKind.i64).pair ((Sh.int IntKind.i64).pair ((Sh.int IntKind.i64).pair ((Sh.int IntKind.i64).pair ((Sh.int IntKind.i64).sl.pair Sh.unit)))))))))) ((0 : Int), (0 : Int), (0 : Int), List.replicate (8 : Nat) (0 : Int), (0 : Int), (0 : Int), (0 : Int), (0 : Int), (0 : Int), [], ())), (([] : Go.Eng.Gd), Res.gone)] = [(([] : Go.Eng.Gd), Res.blk (43 : Nat) [SC.sl (Sh.str.pair ((Sh.int IntKind.i64).pair Sh.unit)) vs, SC.sl Sh.str ms, SC.sl Sh.str cs, SC.sl (Sh.str.pair (((Sh.int IntKind.i64).pair ((Sh.int IntKind.i64).pair ((Sh.int IntKind.i64).pair ((Sh.int IntKind.i64).pair ((Sh.int IntKind.i64).pair ((Sh.int IntKind.i64).pair ((Sh.int IntKind.i64).pair ((Sh.int IntKind.i64).pair Sh.unit)))))))).sl.pair Sh.unit)) fs, SC.sl ((Sh.int IntKind.i64).pair ((Sh.int IntKind.i64).pair Sh.unit)) ts]), (([] : Go.Eng.Gd), Res.obj (28 : TypeId) ((Sh.int IntKind.i64).pair ((Sh.int IntKind.i64).pair ((Sh.int IntKind.i64).pair ((Sh.arr (8 : Nat) (Sh.int IntKind.i64)).pair ((Sh.int IntKind.i64).pair ((Sh.int IntKind.i64).pair ((Sh.int IntKind.i64).pair ((Sh.int IntKind.i64).pair ((Sh.int IntKind.i64).pair ((Sh.int IntKind.i64).sl.pair Sh.unit)))))))))) x.snd), (([] : Go.Eng.Gd), Res.obj (28 : Nat) ((Sh.int IntKind.i64).pair ((Sh.int IntKind.i64).pair ((Sh.int IntKind.i64).pair ((Sh.arr (8 : Nat) (Sh.int IntKind.i64)).pair ((Sh.int IntKind.i64).pair ((Sh.int IntKind.i64).pair ((Sh.int IntKind.i64).pair ((Sh.int IntKind.i64).pair ((Sh.int IntKind.i64).pair ((Sh.int IntKind.i64).sl.pair Sh.unit)))))))))) ((0 : Int), (0 : Int), (0 : Int), List.replicate (8 : Nat) (0 : Int), (0 : Int), (0 : Int), (0 : Int), (0 : Int), (0 : Int), [], ())), (([] : Go.Eng.Gd), Res.gone)]) ∧ ∀ (x : Nat × TD), x.fst ≤ (256 : Nat) ∧ Formed ms fs bound x.snd ∧ x.snd.snd.snd.snd.snd.snd.snd.snd.snd.snd.fst = he ∧ x.snd.fst = id ∧ x.snd.snd.snd.snd.fst.length = (8 : Nat) ∧ stlS fs bound ((256 : Nat) - x.fst) x.snd = stlS fs bound (256 : Nat) (id, fn, pc, rg, st, ch, ph, su, fa, he, ()) → ((0 : (Sh.int IntKind.i64).den) ≤ x.snd.snd.fst ∧ x.snd.snd.fst < (↑fs.length : (Sh.int IntKind.i64).den) ∧ (0 : (Sh.int IntKind.i64).den) ≤ x.snd.snd.snd.fst) ∧ br (!(atR fs x.snd.snd.fst x.snd.snd.snd.fst).snd) (True ∧ ([] : List Go.Eng.Res) = [] ∧ Ent.one (SV.dat ((Sh.int IntKind.i64).pair ((Sh.int IntKind.i64).pair ((Sh.int IntKind.i64).pair ((Sh.arr (8 : Nat) (Sh.int IntKind.i64)).pair ((Sh.int IntKind.i64).pair ((Sh.int IntKind.i64).pair ((Sh.int IntKind.i64).pair ((Sh.int IntKind.i64).pair ((Sh.int IntKind.i64).pair ((Sh.int IntKind.i64).sl.pair Sh.unit)))))))))) (stlS fs bound (256 : Nat) (id, fn, pc, rg, st, ch, ph, su, fa, he, ()))) = Ent.one (SV.dat ((Sh.int IntKind.i64).pair ((Sh.int IntKind.i64).pair ((Sh.int IntKind.i64).pair ((Sh.arr (8 : Nat) (Sh.int IntKind.i64)).pair ((Sh.int IntKind.i64).pair ((Sh.int IntKind.i64).pair ((Sh.int IntKind.i64).pair ((Sh.int IntKind.i64).pair ((Sh.int IntKind.i64).pair ((Sh.int IntKind.i64).sl.pair Sh.unit)))))))))) (endS x.snd (2 : Int) (0 : Int)))) (True ∧ br (visS (atR fs x.snd.snd.fst x.snd.snd.snd.fst).fst.fst) ((List.length x.snd.snd.snd.snd.snd.snd.snd.snd.snd.snd.fst ≤ (1000000 : Nat) ∧ x.snd.fst ≤ (9223372036854775807 : (Sh.int IntKind.i64).den)) ∧ br (!decide (obsS x.snd.fst x.snd.snd.snd.snd.snd.snd.fst x.snd.snd.snd.snd.snd.snd.snd.fst x.snd.snd.snd.snd.snd.snd.snd.snd.snd.snd.fst (atR fs x.snd.snd.fst x.snd.snd.snd.fst).fst = (0 : Int))) (True ∧ ([] : List Go.Eng.Res) = [] ∧ Ent.one (SV.dat ((Sh.int IntKind.i64).pair ((Sh.int IntKind.i64).pair ((Sh.int IntKind.i64).pair ((Sh.arr (8 : Nat) (Sh.int IntKind.i64)).pair ((Sh.int IntKind.i64).pair ((Sh.int IntKind.i64).pair ((Sh.int IntKind.i64).pair ((Sh.int IntKind.i64).pair ((Sh.int IntKind.i64).pair ((Sh.int IntKind.i64).sl.pair Sh.unit)))))))))) (stlS fs bound (256 : Nat) (id, fn, pc, rg, st, ch, ph, su, fa, he, ()))) = Ent.one (SV.dat ((Sh.int IntKind.i64).pair ((Sh.int IntKind.i64).pair ((Sh.int IntKind.i64).pair ((Sh.arr (8 : Nat) (Sh.int IntKind.i64)).pair ((Sh.int IntKind.i64).pair ((Sh.int IntKind.i64).pair ((Sh.int IntKind.i64).pair ((Sh.int IntKind.i64).pair ((Sh.int IntKind.i64).pair ((Sh.int IntKind.i64).sl.pair Sh.unit)))))))))) (endS x.snd (3 : Int) (obsS x.snd.fst x.snd.snd.snd.snd.snd.snd.fst x.snd.snd.snd.snd.snd.snd.snd.fst x.snd.snd.snd.snd.snd.snd.snd.snd.snd.snd.fst (atR fs x.snd.snd.fst x.snd.snd.snd.fst).fst)))) (br (decide (x.snd.snd.snd.snd.snd.fst = bound)) (True ∧ ([] : List Go.Eng.Res) = [] ∧ Ent.one (SV.dat ((Sh.int IntKind.i64).pair ((Sh.int IntKind.i64).pair ((Sh.int IntKind.i64).pair ((Sh.arr (8 : Nat) (Sh.int IntKind.i64)).pair ((Sh.int IntKind.i64).pair ((Sh.int IntKind.i64).pair ((Sh.int IntKind.i64).pair ((Sh.int IntKind.i64).pair ((Sh.int IntKind.i64).pair ((Sh.int IntKind.i64).sl.pair Sh.unit)))))))))) (stlS fs bound (256 : Nat) (id, fn, pc, rg, st, ch, ph, su, fa, he, ()))) = Ent.one (SV.dat ((Sh.int IntKind.i64).pair ((Sh.int IntKind.i64).pair ((Sh.int IntKind.i64).pair ((Sh.arr (8 : Nat) (Sh.int IntKind.i64)).pair ((Sh.int IntKind.i64).pair ((Sh.int IntKind.i64).pair ((Sh.int IntKind.i64).pair ((Sh.int IntKind.i64).pair ((Sh.int IntKind.i64).pair ((Sh.int IntKind.i64).sl.pair Sh.unit)))))))))) (endS x.snd (4 : Int) (0 : Int)))) (([] : List Go.Eng.Res) = [] ∧ Ent.one (SV.dat ((Sh.int IntKind.i64).pair ((Sh.int IntKind.i64).pair ((Sh.int IntKind.i64).pair ((Sh.arr (8 : Nat) (Sh.int IntKind.i64)).pair ((Sh.int IntKind.i64).pair ((Sh.int IntKind.i64).pair ((Sh.int IntKind.i64).pair ((Sh.int IntKind.i64).pair ((Sh.int IntKind.i64).pair ((Sh.int IntKind.i64).sl.pair Sh.unit)))))))))) (stlS fs bound (256 : Nat) (id, fn, pc, rg, st, ch, ph, su, fa, he, ()))) = Ent.one (SV.dat ((Sh.int IntKind.i64).pair ((Sh.int IntKind.i64).pair ((Sh.int IntKind.i64).pair ((Sh.arr (8 : Nat) (Sh.int IntKind.i64)).pair ((Sh.int IntKind.i64).pair ((Sh.int IntKind.i64).pair ((Sh.int IntKind.i64).pair ((Sh.int IntKind.i64).pair ((Sh.int IntKind.i64).pair ((Sh.int IntKind.i64).sl.pair Sh.unit)))))))))) (x.snd))))) (br (decide ((↑x.fst : Int) = (256 : Int))) (True ∧ ([] : List Go.Eng.Res) = [] ∧ Ent.one (SV.dat ((Sh.int IntKind.i64).pair ((Sh.int IntKind.i64).pair ((Sh.int IntKind.i64).pair ((Sh.arr (8 : Nat) (Sh.int IntKind.i64)).pair ((Sh.int IntKind.i64).pair ((Sh.int IntKind.i64).pair ((Sh.int IntKind.i64).pair ((Sh.int IntKind.i64).pair ((Sh.int IntKind.i64).pair ((Sh.int IntKind.i64).sl.pair Sh.unit)))))))))) (stlS fs bound (256 : Nat) (id, fn, pc, rg, st, ch, ph, su, fa, he, ()))) = Ent.one (SV.dat ((Sh.int IntKind.i64).pair ((Sh.int IntKind.i64).pair ((Sh.int IntKind.i64).pair ((Sh.arr (8 : Nat) (Sh.int IntKind.i64)).pair ((Sh.int IntKind.i64).pair ((Sh.int IntKind.i64).pair ((Sh.int IntKind.i64).pair ((Sh.int IntKind.i64).pair ((Sh.int IntKind.i64).pair ((Sh.int IntKind.i64).sl.pair Sh.unit)))))))))) (endS x.snd (3 : Int) (29 : Int)))) ((((0 : (Sh.int IntKind.i64).den) ≤ (atR fs x.snd.snd.fst x.snd.snd.snd.fst).fst.snd.fst ∧ (atR fs x.snd.snd.fst x.snd.snd.snd.fst).fst.snd.fst < (8 : (Sh.int IntKind.i64).den)) ∧ ((0 : (Sh.int IntKind.i64).den) ≤ (atR fs x.snd.snd.fst x.snd.snd.snd.fst).fst.snd.snd.fst ∧ (atR fs x.snd.snd.fst x.snd.snd.snd.fst).fst.snd.snd.fst < (8 : (Sh.int IntKind.i64).den)) ∧ ((0 : (Sh.int IntKind.i64).den) ≤ (atR fs x.snd.snd.fst x.snd.snd.snd.fst).fst.snd.snd.snd.fst ∧ (atR fs x.snd.snd.fst x.snd.snd.snd.fst).fst.snd.snd.snd.fst < (8 : (Sh.int IntKind.i64).den)) ∧ (0 : (Sh.int IntKind.i64).den) ≤ x.snd.snd.snd.fst ∧ x.snd.snd.snd.fst ≤ (1000000 : (Sh.int IntKind.i64).den)) ∧ br (!(locS x.snd (atR fs x.snd.snd.fst x.snd.snd.snd.fst).fst).snd) (([] : List Go.Eng.Res) = [] ∧ Ent.one (SV.dat ((Sh.int IntKind.i64).pair ((Sh.int IntKind.i64).pair ((Sh.int IntKind.i64).pair ((Sh.arr (8 : Nat) (Sh.int IntKind.i64)).pair ((Sh.int IntKind.i64).pair ((Sh.int IntKind.i64).pair ((Sh.int IntKind.i64).pair ((Sh.int IntKind.i64).pair ((Sh.int IntKind.i64).pair ((Sh.int IntKind.i64).sl.pair Sh.unit)))))))))) (stlS fs bound (256 : Nat) (id, fn, pc, rg, st, ch, ph, su, fa, he, ()))) = Ent.one (SV.dat ((Sh.int IntKind.i64).pair ((Sh.int IntKind.i64).pair ((Sh.int IntKind.i64).pair ((Sh.arr (8 : Nat) (Sh.int IntKind.i64)).pair ((Sh.int IntKind.i64).pair ((Sh.int IntKind.i64).pair ((Sh.int IntKind.i64).pair ((Sh.int IntKind.i64).pair ((Sh.int IntKind.i64).pair ((Sh.int IntKind.i64).sl.pair Sh.unit)))))))))) ((locS x.snd (atR fs x.snd.snd.fst x.snd.snd.snd.fst).fst).fst))) (InR IntKind.i64 ((↑x.fst : Int) + (1 : Int)) ∧ ∃ (x' : Nat × TD), (x'.fst ≤ (256 : Nat) ∧ Formed ms fs bound x'.snd ∧ x'.snd.snd.snd.snd.snd.snd.snd.snd.snd.snd.fst = he ∧ x'.snd.fst = id ∧ x'.snd.snd.snd.snd.fst.length = (8 : Nat) ∧ stlS fs bound ((256 : Nat) - x'.fst) x'.snd = stlS fs bound (256 : Nat) (id, fn, pc, rg, st, ch, ph, su, fa, he, ())) ∧ (SV.c (SC.v (Value.int IntKind.i64 ((↑x.fst : Int) + (1 : Int)))) = SV.c (SC.v (Value.int IntKind.i64 (↑x'.fst : Int))) ∧ True) ∧ [(([] : Go.Eng.Gd), Res.blk (43 : Nat) [SC.sl (Sh.str.pair ((Sh.int IntKind.i64).pair Sh.unit)) vs, SC.sl Sh.str ms, SC.sl Sh.str cs, SC.sl (Sh.str.pair (((Sh.int IntKind.i64).pair ((Sh.int IntKind.i64).pair ((Sh.int IntKind.i64).pair ((Sh.int IntKind.i64).pair ((Sh.int IntKind.i64).pair ((Sh.int IntKind.i64).pair ((Sh.int IntKind.i64).pair ((Sh.int IntKind.i64).pair Sh.unit)))))))).sl.pair Sh.unit)) fs, SC.sl ((Sh.int IntKind.i64).pair ((Sh.int IntKind.i64).pair Sh.unit)) ts]), (([] : Go.Eng.Gd), Res.obj (28 : TypeId) ((Sh.int IntKind.i64).pair ((Sh.int IntKind.i64).pair ((Sh.int IntKind.i64).pair ((Sh.arr (8 : Nat) (Sh.int IntKind.i64)).pair ((Sh.int IntKind.i64).pair ((Sh.int IntKind.i64).pair ((Sh.int IntKind.i64).pair ((Sh.int IntKind.i64).pair ((Sh.int IntKind.i64).pair ((Sh.int IntKind.i64).sl.pair Sh.unit)))))))))) ((locS x.snd (atR fs x.snd.snd.fst x.snd.snd.snd.fst).fst).fst)), (([] : Go.Eng.Gd), Res.obj (28 : Nat) ((Sh.int IntKind.i64).pair ((Sh.int IntKind.i64).pair ((Sh.int IntKind.i64).pair ((Sh.arr (8 : Nat) (Sh.int IntKind.i64)).pair ((Sh.int IntKind.i64).pair ((Sh.int IntKind.i64).pair ((Sh.int IntKind.i64).pair ((Sh.int IntKind.i64).pair ((Sh.int IntKind.i64).pair ((Sh.int IntKind.i64).sl.pair Sh.unit)))))))))) ((0 : Int), (0 : Int), (0 : Int), List.replicate (8 : Nat) (0 : Int), (0 : Int), (0 : Int), (0 : Int), (0 : Int), (0 : Int), [], ())), (([] : Go.Eng.Gd), Res.gone)] = [(([] : Go.Eng.Gd), Res.blk (43 : Nat) [SC.sl (Sh.str.pair ((Sh.int IntKind.i64).pair Sh.unit)) vs, SC.sl Sh.str ms, SC.sl Sh.str cs, SC.sl (Sh.str.pair (((Sh.int IntKind.i64).pair ((Sh.int IntKind.i64).pair ((Sh.int IntKind.i64).pair ((Sh.int IntKind.i64).pair ((Sh.int IntKind.i64).pair ((Sh.int IntKind.i64).pair ((Sh.int IntKind.i64).pair ((Sh.int IntKind.i64).pair Sh.unit)))))))).sl.pair Sh.unit)) fs, SC.sl ((Sh.int IntKind.i64).pair ((Sh.int IntKind.i64).pair Sh.unit)) ts]), (([] : Go.Eng.Gd), Res.obj (28 : TypeId) ((Sh.int IntKind.i64).pair ((Sh.int IntKind.i64).pair ((Sh.int IntKind.i64).pair ((Sh.arr (8 : Nat) (Sh.int IntKind.i64)).pair ((Sh.int IntKind.i64).pair ((Sh.int IntKind.i64).pair ((Sh.int IntKind.i64).pair ((Sh.int IntKind.i64).pair ((Sh.int IntKind.i64).pair ((Sh.int IntKind.i64).sl.pair Sh.unit)))))))))) x'.snd), (([] : Go.Eng.Gd), Res.obj (28 : Nat) ((Sh.int IntKind.i64).pair ((Sh.int IntKind.i64).pair ((Sh.int IntKind.i64).pair ((Sh.arr (8 : Nat) (Sh.int IntKind.i64)).pair ((Sh.int IntKind.i64).pair ((Sh.int IntKind.i64).pair ((Sh.int IntKind.i64).pair ((Sh.int IntKind.i64).pair ((Sh.int IntKind.i64).pair ((Sh.int IntKind.i64).sl.pair Sh.unit)))))))))) ((0 : Int), (0 : Int), (0 : Int), List.replicate (8 : Nat) (0 : Int), (0 : Int), (0 : Int), (0 : Int), (0 : Int), (0 : Int), [], ())), (([] : Go.Eng.Gd), Res.gone)] ∧ (257 : Nat) - x'.fst < (257 : Nat) - x.fst)))) := by
  obtain ⟨hc, hF, hhe, hid, hrg⟩ : (chkP vs ms cs fs ts).1 = 0 ∧ Formed ms fs bound (id, fn, pc, rg, st, ch, ph, su, fa, he, ()) ∧ he.length ≤ 1000000 ∧ id ≤ 9223372036854775807 ∧ rg.length = 8 := hpre
  refine ⟨hhe, ⟨(0, (id, fn, pc, rg, st, ch, ph, su, fa, he, ())), ⟨by omega, hF, rfl, rfl, hrg, rfl⟩, ⟨rfl, trivial⟩, rfl⟩, fun x hx => ?_⟩
  obtain ⟨k, id', fn', pc', rg', st', ch', ph', su', fa', he', ⟨⟩⟩ := x
  obtain ⟨x1, x2, x3, x4, x5, x6⟩ := hx
  have x1 : k ≤ 256 := x1
  have x3 : he' = he := x3
  have x4 : id' = id := x4
  have x5 : rg'.length = 8 := x5
  have x6 : stlS fs bound (256 - k) (id', fn', pc', rg', st', ch', ph', su', fa', he', ()) = stlS fs bound 256 (id, fn, pc, rg, st, ch, ph, su, fa, he, ()) := x6
  have x2 : Formed ms fs bound (id', fn', pc', rg', st', ch', ph', su', fa', he', ()) := x2
  subst x3; subst x4
  rw [← x6]
  have hfn := x2.2.1
  have hpc := x2.2.2.1
  refine ⟨⟨hfn.1, hfn.2, hpc.1⟩, ?_⟩
  show br (!(atR fs fn' pc').2) _ _
  cases ha : atS fs fn' pc' with
  | none =>
    rw [show atR fs fn' pc' = ((0, 0, 0, 0, 0, 0, 0, 0, ()), false) by unfold atR; rw [ha]]
    refine br_iff.2 ⟨fun _ => ⟨trivial, rfl, ?_⟩, fun q => by simp at q⟩
    rw [stl_none ha]; rfl
  | some i =>
    rw [show atR fs fn' pc' = (i, true) by unfold atR; rw [ha]]
    obtain ⟨r1, r2, r3, r4⟩ := chkI_regs (ci_zero (at_ok hc hfn ha)).1
    have h64 := code_short hc hfn
    refine br_iff.2 ⟨fun q => by simp at q, fun _ => ⟨trivial, br_iff.2 ⟨fun hv => ?_, fun hv => ?_⟩⟩⟩
    · have hv : visS i.1 = true := hv
      rw [stl_vis ha hv]
      refine ⟨⟨hhe, hid⟩, br_iff.2 ⟨fun h1 => ?_, fun h1 => br_iff.2 ⟨fun h2 => ?_, fun h2 => ?_⟩⟩⟩
      · have h1 : obsS id' ch' ph' he' i ≠ 0 := by simpa using h1
        rw [if_pos h1]; exact ⟨trivial, rfl, rfl⟩
      · have h1 : ¬ obsS id' ch' ph' he' i ≠ 0 := by simpa using h1
        have h2 : st' = bound := by simpa using h2
        rw [if_neg h1, if_pos h2]; exact ⟨trivial, rfl, rfl⟩
      · have h1 : ¬ obsS id' ch' ph' he' i ≠ 0 := by simpa using h1
        have h2 : ¬ st' = bound := by simpa using h2
        rw [if_neg h1, if_neg h2]; exact ⟨rfl, rfl⟩
    · have hv : visS i.1 = false := hv
      refine br_iff.2 ⟨fun h1 => ?_, fun h1 => ?_⟩
      · have h1 : k = 256 := by have : (k : Int) = 256 := by simpa using h1
                                omega
        rw [h1, show 256 - 256 = 0 from rfl, stl_zero ha hv]
        exact ⟨trivial, rfl, rfl⟩
      · have h1 : ¬ k = 256 := by have : ¬ (k : Int) = 256 := by simpa using h1
                                  omega
        obtain ⟨m, hm⟩ : ∃ m, 256 - k = m + 1 := ⟨255 - k, by omega⟩
        rw [hm, stl_succ ha hv]
        have hk := loc_keep (id', fn', pc', rg', st', ch', ph', su', fa', he', ()) i
        have hlen := loc_len (id', fn', pc', rg', st', ch', ph', su', fa', he', ()) i
        have hfo := loc_formed hc x2 ha hv
        refine ⟨⟨r1, r2, r3, hpc.1, show pc' ≤ 1000000 by omega⟩, br_iff.2 ⟨fun h2 => ?_, fun h2 => ⟨InR_i64.2 (show (-9223372036854775808 : Int) ≤ (k : Int) + 1 ∧ (k : Int) + 1 ≤ 9223372036854775807 by omega), (k + 1, (locS (id', fn', pc', rg', st', ch', ph', su', fa', he', ()) i).1), ⟨show k + 1 ≤ 256 by omega, hfo, hk.2.2.2.2.2.1, hk.1, hlen.trans x5, ?_⟩, ⟨rfl, trivial⟩, rfl, show 257 - (k + 1) < 257 - k by omega⟩⟩⟩
        · have h2 : ¬ (locS (id', fn', pc', rg', st', ch', ph', su', fa', he', ()) i).2 = true := by simpa using h2
          rw [if_neg h2]; exact ⟨rfl, rfl⟩
        · have h2 : (locS (id', fn', pc', rg', st', ch', ph', su', fa', he', ()) i).2 = true := by simpa using h2
          show stlS fs bound (256 - (k + 1)) _ = _
          rw [if_pos h2, show 256 - (k + 1) = m by omega]
set_option maxHeartbeats 2000000 in
set_option maxRecDepth 100000 in
theorem f31_met : Go.Eng.Met Tryd.prog cx0.gd 31 ctStl :=
  (met_all (cx := cx0) (n := 59) (cl := cl31) (il := il31) (hl := hl31) (ml := ml31) (rc := [.data shT]) (lits := []) (suf := []) (by kernel_rfl) tis_ok ⟨f40_met, f34_met, f41_met, f42_met, f43_met, f44_met, trivial⟩ trivial trivial trivial Tryd.func31 (by kernel_rfl) (by kernel_rfl) rfl (by kernel_rfl) (by kernel_rfl) (by simp) fun d hd => by
    obtain ⟨⟨vs, ms, cs, fs, ts, ⟨⟩⟩, bound, ⟨id, fn, pc, rg, st, ch, ph, su, fa, he, ⟨⟩⟩, ⟨⟩⟩ := d
    exact ex_of (ann31 vs ms cs fs ts bound id fn pc rg st ch ph su fa he) (f31_vc vs ms cs fs ts bound id fn pc rg st ch ph su fa he hd) (by kernel_rfl)).met
end Go.Proofs.YtklnffdjhoacoaaDoor
