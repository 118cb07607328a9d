/- Texts of this claim, part 6: W5, W6, W7, W8, W10. Conditions: those of the given rows. -/
import Derived.Test.YtklnffdjhoacoaaGreatDoorB5
set_option linter.unusedSimpArgs false
set_option linter.unusedVariables false
set_option maxRecDepth 100000
namespace Go.Proofs.YtklnffdjhoacoaaGreatDoor
open Go Go.Eng

theorem val_wrap (n : Int) : valS n = decide (wrapS n = n) := by
  unfold valS
  rw [Bool.eq_iff_iff, decide_eq_true_iff, decide_eq_true_iff, wrapS_id]
theorem co_ms {vs : List VD} {ms cs : List ByteArray} {fs : List FD} (h : coS vs ms cs fs = 0) : ms.length ≤ 4 := by
  unfold coS at h
  split at h
  · cases h
  · omega
theorem formed_short {ms : List ByteArray} {fs : List FD} {bound : Int} {t : TD} (h : Formed ms fs bound t) (hm : ms.length ≤ 4) : t.2.2.2.2.2.2.2.2.2.1.length ≤ 4 := by
  obtain ⟨id, fn, pc, rg, st, ch, ph, su, fa, he, u⟩ := t
  exact Nat.le_trans (ss_short h.2.2.2.2.2.2.1 h.2.2.2.2.2.2.2.1) hm
theorem formed_id {ms : List ByteArray} {fs : List FD} {bound : Int} {t : TD} (h : Formed ms fs bound t) : t.1 ≤ 9223372036854775807 := by
  obtain ⟨id, fn, pc, rg, st, ch, ph, su, fa, he, u⟩ := t
  have := depthI_lt h.1
  show id ≤ 9223372036854775807
  omega
theorem cmp_len (t : TD) (i : ID) (r : Int) : (cmpS t i r).2.2.2.1.length = t.2.2.2.1.length := by
  obtain ⟨id, fn, pc, rg, st, ch, ph, su, fa, hd, u⟩ := t
  have e : (if (defS i).2 = true then rg.set (defS i).1.toNat r else rg).length = rg.length := by split <;> simp
  unfold cmpS
  simp only
  split
  · split
    · exact e
    split
    · exact e
    · exact e
  · exact e
theorem defS_reg {i : ID} (h : chkI i = 0) (hd : (defS i).2 = true) : 0 ≤ (defS i).1 ∧ (defS i).1 < 8 := by
  obtain ⟨r1, _⟩ := chkI_regs h
  unfold defS at hd ⊢
  split at hd
  · cases hd
  · rename_i q; rw [if_neg q]; exact r1
@[reducible] def ctNew : CT := { ps := [shP, .int .i64, .int .i64, .int .i64, .int .i64], pre := fun d => bnd (d.1, ()) ∧ d.2.2.1 ≤ 9223372036854775807, res := fun d => ([], .tup [.dat shT (newS (chkP d.1.1 d.1.2.1 d.1.2.2.1 d.1.2.2.2.1 d.1.2.2.2.2.1).1 d.1.2.2.2.1 d.2.1 d.2.2.1 d.2.2.2.1 d.2.2.2.2.1).1, .c (.v (.int .i64 (newS (chkP d.1.1 d.1.2.1 d.1.2.2.1 d.1.2.2.2.1 d.1.2.2.2.2.1).1 d.1.2.2.2.1 d.2.1 d.2.2.1 d.2.2.2.1 d.2.2.2.2.1).2))]) }
@[reducible] noncomputable def cl9 : List (Nat × CT) := [(23, ctStd), (24, ctDep), (25, ctWrap), (26, ctStl)]
@[reducible] def ann9 (vs : List VD) (ms : List ByteArray) (cs : List ByteArray) (fs : List FD) (ts : List SD) (bound : Int) (id : Int) (fn : Int) (arg : Int) : Nat → Option (St → Ann) := fun _ => none
@[reducible] def il9 : List (Nat × IP) := []
@[reducible] def hl9 : List (Nat × Nat × CT) := []
@[reducible] noncomputable def ml9 : List (Nat × MK) := []
set_option maxRecDepth 100000 in
theorem f9_vc (vs : List VD) (ms : List ByteArray) (cs : List ByteArray) (fs : List FD) (ts : List SD) (bound : Int) (id : Int) (fn : Int) (arg : Int) (hpre : ctNew.pre ((vs, ms, cs, fs, ts, ()), bound, id, fn, arg, ())) :
    (vs.length ≤ (1000000 : Nat) ∧ ms.length ≤ (1000000 : Nat) ∧ cs.length ≤ (1000000 : Nat) ∧ fs.length ≤ (1000000 : Nat) ∧ ts.length ≤ (1000000 : Nat) ∧ (∀ (x : Sh.str.den × (shI.sl.pair Sh.unit).den), x ∈ fs → List.length x.snd.fst ≤ (1000000 : Nat)) ∧ (instL fs).length ≤ (1000000 : Nat)) ∧ br (!decide (stdS (chkP vs ms cs fs ts).fst bound = (0 : Int))) (([] : List Go.Eng.Res) = [] ∧ Ent.tup [SV.dat shT (newS (chkP vs ms cs fs ts).fst fs bound id fn arg).fst, SV.c (SC.v (Value.int IntKind.i64 (newS (chkP vs ms cs fs ts).fst fs bound id fn arg).snd))] = Ent.tup [SV.dat shT (((0 : Int), (0 : Int), (0 : Int), [(0 : Int), (0 : Int), (0 : Int), (0 : Int), (0 : Int), (0 : Int), (0 : Int), (0 : Int)], (0 : Int), (0 : Int), (0 : Int), (0 : Int), (0 : Int), [], ())), SV.c (SC.v (Value.int IntKind.i64 (stdS (chkP vs ms cs fs ts).fst bound)))]) (id ≤ (9223372036854775807 : I6.den) ∧ br (decide (depthI id < (0 : Int))) (([] : List Go.Eng.Res) = [] ∧ Ent.tup [SV.dat shT (newS (chkP vs ms cs fs ts).fst fs bound id fn arg).fst, SV.c (SC.v (Value.int IntKind.i64 (newS (chkP vs ms cs fs ts).fst fs bound id fn arg).snd))] = Ent.tup [SV.dat shT (((0 : Int), (0 : Int), (0 : Int), [(0 : Int), (0 : Int), (0 : Int), (0 : Int), (0 : Int), (0 : Int), (0 : Int), (0 : Int)], (0 : Int), (0 : Int), (0 : Int), (0 : Int), (0 : Int), [], ())), SV.c (SC.v (Value.int IntKind.i64 (2 : Int)))]) (br (decide (fn < (0 : Int)) || decide ((↑fs.length : Int) ≤ fn)) (([] : List Go.Eng.Res) = [] ∧ Ent.tup [SV.dat shT (newS (chkP vs ms cs fs ts).fst fs bound id fn arg).fst, SV.c (SC.v (Value.int IntKind.i64 (newS (chkP vs ms cs fs ts).fst fs bound id fn arg).snd))] = Ent.tup [SV.dat shT (((0 : Int), (0 : Int), (0 : Int), [(0 : Int), (0 : Int), (0 : Int), (0 : Int), (0 : Int), (0 : Int), (0 : Int), (0 : Int)], (0 : Int), (0 : Int), (0 : Int), (0 : Int), (0 : Int), [], ())), SV.c (SC.v (Value.int IntKind.i64 (11 : Int)))]) (True ∧ br (!decide (wrapS arg = arg)) (([] : List Go.Eng.Res) = [] ∧ Ent.tup [SV.dat shT (newS (chkP vs ms cs fs ts).fst fs bound id fn arg).fst, SV.c (SC.v (Value.int IntKind.i64 (newS (chkP vs ms cs fs ts).fst fs bound id fn arg).snd))] = Ent.tup [SV.dat shT (((0 : Int), (0 : Int), (0 : Int), [(0 : Int), (0 : Int), (0 : Int), (0 : Int), (0 : Int), (0 : Int), (0 : Int), (0 : Int)], (0 : Int), (0 : Int), (0 : Int), (0 : Int), (0 : Int), [], ())), SV.c (SC.v (Value.int IntKind.i64 (2 : Int)))]) (((0 : Int) ≤ (0 : Int) ∧ (0 : Int) < (8 : Int)) ∧ (0 : Nat) < (8 : Nat) ∧ ((chkP vs ms cs fs ts).fst = (0 : Int) ∧ Formed ms fs bound (id, fn, (0 : Int), [(0 : Int), (0 : Int), (0 : Int), (0 : Int), (0 : Int), (0 : Int), (0 : Int), (0 : Int)].set (0 : Nat) arg, (0 : Int), (0 : Int), (0 : Int), (1 : Int), (0 : Int), [], ()) ∧ (0 : Nat) ≤ (1000000 : Nat) ∧ id ≤ (9223372036854775807 : I6.den) ∧ ([(0 : Int), (0 : Int), (0 : Int), (0 : Int), (0 : Int), (0 : Int), (0 : Int), (0 : Int)].set (0 : Nat) arg).length = (8 : Nat)) ∧ ([] : List Go.Eng.Res) = [] ∧ Ent.tup [SV.dat shT (newS (chkP vs ms cs fs ts).fst fs bound id fn arg).fst, SV.c (SC.v (Value.int IntKind.i64 (newS (chkP vs ms cs fs ts).fst fs bound id fn arg).snd))] = Ent.tup [SV.dat shT (stlS fs bound (256 : Nat) (id, fn, (0 : Int), [(0 : Int), (0 : Int), (0 : Int), (0 : Int), (0 : Int), (0 : Int), (0 : Int), (0 : Int)].set (0 : Nat) arg, (0 : Int), (0 : Int), (0 : Int), (1 : Int), (0 : Int), [], ())), SV.c (SC.v (Value.int IntKind.i64 (0 : Int)))])))) := by
  obtain ⟨hb, hid⟩ : bnd ((vs, ms, cs, fs, ts, ()), ()) ∧ id ≤ 9223372036854775807 := hpre
  refine ⟨hb, br_iff.2 ⟨fun h => ?_, fun h => ⟨hid, br_iff.2 ⟨fun h2 => ?_, fun h2 => br_iff.2 ⟨fun h3 => ?_, fun h3 => ⟨trivial, br_iff.2 ⟨fun h4 => ?_, fun h4 => ?_⟩⟩⟩⟩⟩⟩⟩
  · have h : stdS (chkP vs ms cs fs ts).1 bound ≠ 0 := by simpa using h
    have e : newS (chkP vs ms cs fs ts).1 fs bound id fn arg = (zT, stdS (chkP vs ms cs fs ts).1 bound) := by unfold newS; rw [if_pos h]
    rw [e]; exact ⟨rfl, rfl⟩
  all_goals have h : ¬ stdS (chkP vs ms cs fs ts).1 bound ≠ 0 := by simpa using h
  · have h2 : depthI id < 0 := by simpa using h2
    have e : newS (chkP vs ms cs fs ts).1 fs bound id fn arg = (zT, 2) := by unfold newS; rw [if_neg h, if_pos h2]
    rw [e]; exact ⟨rfl, rfl⟩
  all_goals have h2 : ¬ depthI id < 0 := by simpa using h2
  · have h3 : fn < 0 ∨ (fs.length : Int) ≤ fn := by simpa using h3
    have e : newS (chkP vs ms cs fs ts).1 fs bound id fn arg = (zT, 11) := by unfold newS; rw [if_neg h, if_neg h2, if_pos h3]
    rw [e]; exact ⟨rfl, rfl⟩
  all_goals have h3 : ¬ (fn < 0 ∨ (fs.length : Int) ≤ fn) := by simp only [Bool.or_eq_false_iff, decide_eq_false_iff_not] at h3; omega
  · have h4 : valS arg = false := by rw [val_wrap]; simpa using h4
    have e : newS (chkP vs ms cs fs ts).1 fs bound id fn arg = (zT, 2) := by unfold newS; rw [if_neg h, if_neg h2, if_neg h3, if_pos h4]
    rw [e]; exact ⟨rfl, rfl⟩
  · have h4 : ¬ valS arg = false := by rw [val_wrap]; simpa using h4
    have e : newS (chkP vs ms cs fs ts).1 fs bound id fn arg = (stlS fs bound 256 (id, fn, 0, [arg, 0, 0, 0, 0, 0, 0, 0], 0, 0, 0, 1, 0, [], ()), 0) := by unfold newS; rw [if_neg h, if_neg h2, if_neg h3, if_neg h4]
    have hs := std_zero.1 (Classical.not_not.1 h)
    rw [e]
    exact ⟨⟨by omega, by omega⟩, by omega, ⟨hs.1, new_formed ms hs.2.1 h2 h3 h4, by omega, hid, rfl⟩, rfl, rfl⟩
set_option maxHeartbeats 2000000 in
set_option maxRecDepth 100000 in
theorem f9_met : Go.Eng.Met Tryz.prog cx0.gd 9 ctNew :=
  (met_all (cx := cx0) (n := 50) (cl := cl9) (il := il9) (hl := hl9) (ml := ml9) (rc := [.data shT, .keep]) (lits := []) (suf := []) (by kernel_rfl) tis_ok ⟨f23_met, f24_met, f25_met, f26_met, trivial⟩ trivial trivial trivial Tryz.func9 (by kernel_rfl) (by kernel_rfl) rfl (by kernel_rfl) (by kernel_rfl) (by simp) fun d hd => by
    obtain ⟨⟨vs, ms, cs, fs, ts, ⟨⟩⟩, bound, id, fn, arg, ⟨⟩⟩ := d
    exact ex_of (ann9 vs ms cs fs ts bound id fn arg) (f9_vc vs ms cs fs ts bound id fn arg hd) (by kernel_rfl)).met
@[reducible] noncomputable def ctTV : CT := { ps := [shP, .int .i64, shT], pre := fun d => bnd (d.1, ()) ∧ d.2.2.1.2.2.2.2.2.2.2.2.2.1.length ≤ 1000000 ∧ d.2.2.1.1 ≤ 9223372036854775807 ∧ d.2.2.1.2.2.2.1.length = 8, res := fun d => ([], vB (decide (stdS (chkP d.1.1 d.1.2.1 d.1.2.2.1 d.1.2.2.2.1 d.1.2.2.2.2.1).1 d.2.1 = 0) && vldB d.1.2.1 d.1.2.2.2.1 d.2.1 d.2.2.1)) }
@[reducible] noncomputable def cl17 : List (Nat × CT) := [(23, ctStd), (31, ctVal2)]
@[reducible] def ann17 (vs : List VD) (ms : List ByteArray) (cs : List ByteArray) (fs : List FD) (ts : List SD) (bound : Int) (id : Int) (fn : Int) (pc : Int) (rg : List Int) (st : Int) (ch : Int) (ph : Int) (su : Int) (fa : Int) (he : List Int) : Nat → Option (St → Ann) := fun _ => none
@[reducible] def il17 : List (Nat × IP) := []
@[reducible] def hl17 : List (Nat × Nat × CT) := []
@[reducible] noncomputable def ml17 : List (Nat × MK) := []
set_option maxRecDepth 100000 in
theorem f17_vc (vs : List VD) (ms : List ByteArray) (cs : List ByteArray) (fs : List FD) (ts : List SD) (bound : Int) (id : Int) (fn : Int) (pc : Int) (rg : List Int) (st : Int) (ch : Int) (ph : Int) (su : Int) (fa : Int) (he : List Int) (hpre : ctTV.pre ((vs, ms, cs, fs, ts, ()), bound, (id, fn, pc, rg, st, ch, ph, su, fa, he, ()), ())) :
    (vs.length ≤ (1000000 : Nat) ∧ ms.length ≤ (1000000 : Nat) ∧ cs.length ≤ (1000000 : Nat) ∧ fs.length ≤ (1000000 : Nat) ∧ ts.length ≤ (1000000 : Nat) ∧ (∀ (x : Sh.str.den × (shI.sl.pair Sh.unit).den), x ∈ fs → List.length x.snd.fst ≤ (1000000 : Nat)) ∧ (instL fs).length ≤ (1000000 : Nat)) ∧ (decide (stdS (chkP vs ms cs fs ts).fst bound = (0 : Int)) = true → (chkP vs ms cs fs ts).fst = (0 : Int) ∧ he.length ≤ (1000000 : Nat) ∧ id ≤ (9223372036854775807 : I6.den) ∧ rg.length = (8 : Nat)) ∧ ([] : List Go.Eng.Res) = [] ∧ Ent.one (SV.c (SC.v (Value.bool (decide (stdS (chkP vs ms cs fs ts).fst bound = (0 : Int)) && vldB ms fs bound (id, fn, pc, rg, st, ch, ph, su, fa, he, ()))))) = Ent.one (SV.c (SC.v (Value.bool (decide (stdS (chkP vs ms cs fs ts).fst bound = (0 : Int)) && vldB ms fs bound (id, fn, pc, rg, st, ch, ph, su, fa, he, ()))))) := by
  obtain ⟨hb, hhe, hid, hrg⟩ : bnd ((vs, ms, cs, fs, ts, ()), ()) ∧ he.length ≤ 1000000 ∧ id ≤ 9223372036854775807 ∧ rg.length = 8 := hpre
  exact ⟨hb, fun h => ⟨(std_zero.1 (of_decide_eq_true h)).1, hhe, hid, hrg⟩, rfl, rfl⟩
set_option maxHeartbeats 2000000 in
set_option maxRecDepth 100000 in
theorem f17_met : Go.Eng.Met Tryz.prog cx0.gd 17 ctTV :=
  (met_all (cx := cx0) (n := 17) (cl := cl17) (il := il17) (hl := hl17) (ml := ml17) (rc := []) (lits := []) (suf := []) (by kernel_rfl) tis_ok ⟨f23_met, f31_met, trivial⟩ trivial trivial trivial Tryz.func17 (by kernel_rfl) (by kernel_rfl) rfl (by kernel_rfl) (by kernel_rfl) (by simp) fun d hd => by
    obtain ⟨⟨vs, ms, cs, fs, ts, ⟨⟩⟩, bound, ⟨id, fn, pc, rg, st, ch, ph, su, fa, he, ⟨⟩⟩, ⟨⟩⟩ := d
    exact ex_of (ann17 vs ms cs fs ts bound id fn pc rg st ch ph su fa he) (f17_vc vs ms cs fs ts bound id fn pc rg st ch ph su fa he hd) (by kernel_rfl)).met
@[reducible] noncomputable def ctSet : CT := { ps := [shP, .int .i64, shT], pre := fun d => bnd (d.1, ()) ∧ d.2.2.1.2.2.2.2.2.2.2.2.2.1.length ≤ 1000000 ∧ d.2.2.1.1 ≤ 9223372036854775807 ∧ d.2.2.1.2.2.2.1.length = 8, res := fun d => ([], .tup [.dat shT (setS (chkP d.1.1 d.1.2.1 d.1.2.2.1 d.1.2.2.2.1 d.1.2.2.2.2.1).1 d.1.2.1 d.1.2.2.2.1 d.2.1 d.2.2.1).1, .c (.v (.int .i64 (setS (chkP d.1.1 d.1.2.1 d.1.2.2.1 d.1.2.2.2.1 d.1.2.2.2.2.1).1 d.1.2.1 d.1.2.2.2.1 d.2.1 d.2.2.1).2))]) }
@[reducible] noncomputable def cl19 : List (Nat × CT) := [(23, ctStd), (44, ctFrm), (26, ctStl)]
@[reducible] def ann19 (vs : List VD) (ms : List ByteArray) (cs : List ByteArray) (fs : List FD) (ts : List SD) (bound : Int) (id : Int) (fn : Int) (pc : Int) (rg : List Int) (st : Int) (ch : Int) (ph : Int) (su : Int) (fa : Int) (he : List Int) : Nat → Option (St → Ann) := fun _ => none
@[reducible] def il19 : List (Nat × IP) := []
@[reducible] def hl19 : List (Nat × Nat × CT) := []
@[reducible] noncomputable def ml19 : List (Nat × MK) := []
set_option maxRecDepth 100000 in
theorem f19_vc (vs : List VD) (ms : List ByteArray) (cs : List ByteArray) (fs : List FD) (ts : List SD) (bound : Int) (id : Int) (fn : Int) (pc : Int) (rg : List Int) (st : Int) (ch : Int) (ph : Int) (su : Int) (fa : Int) (he : List Int) (hpre : ctSet.pre ((vs, ms, cs, fs, ts, ()), bound, (id, fn, pc, rg, st, ch, ph, su, fa, he, ()), ())) :
    (vs.length ≤ (1000000 : Nat) ∧ ms.length ≤ (1000000 : Nat) ∧ cs.length ≤ (1000000 : Nat) ∧ fs.length ≤ (1000000 : Nat) ∧ ts.length ≤ (1000000 : Nat) ∧ (∀ (x : Sh.str.den × (shI.sl.pair Sh.unit).den), x ∈ fs → List.length x.snd.fst ≤ (1000000 : Nat)) ∧ (instL fs).length ≤ (1000000 : Nat)) ∧ br (!decide (stdS (chkP vs ms cs fs ts).fst bound = (0 : Int))) (([] : List Go.Eng.Res) = [] ∧ Ent.tup [SV.dat shT (setS (chkP vs ms cs fs ts).fst ms fs bound (id, fn, pc, rg, st, ch, ph, su, fa, he, ())).fst, SV.c (SC.v (Value.int IntKind.i64 (setS (chkP vs ms cs fs ts).fst ms fs bound (id, fn, pc, rg, st, ch, ph, su, fa, he, ())).snd))] = Ent.tup [SV.dat shT (((0 : Int), (0 : Int), (0 : Int), [(0 : Int), (0 : Int), (0 : Int), (0 : Int), (0 : Int), (0 : Int), (0 : Int), (0 : Int)], (0 : Int), (0 : Int), (0 : Int), (0 : Int), (0 : Int), [], ())), SV.c (SC.v (Value.int IntKind.i64 (stdS (chkP vs ms cs fs ts).fst bound)))]) ((True ∧ he.length ≤ (1000000 : Nat) ∧ id ≤ (9223372036854775807 : I6.den) ∧ rg.length = (8 : Nat)) ∧ br (!formedB ms fs bound (id, fn, pc, rg, st, ch, ph, su, fa, he, ()) || !decide (fa = (0 : Int))) (([] : List Go.Eng.Res) = [] ∧ Ent.tup [SV.dat shT (setS (chkP vs ms cs fs ts).fst ms fs bound (id, fn, pc, rg, st, ch, ph, su, fa, he, ())).fst, SV.c (SC.v (Value.int IntKind.i64 (setS (chkP vs ms cs fs ts).fst ms fs bound (id, fn, pc, rg, st, ch, ph, su, fa, he, ())).snd))] = Ent.tup [SV.dat shT (((0 : Int), (0 : Int), (0 : Int), [(0 : Int), (0 : Int), (0 : Int), (0 : Int), (0 : Int), (0 : Int), (0 : Int), (0 : Int)], (0 : Int), (0 : Int), (0 : Int), (0 : Int), (0 : Int), [], ())), SV.c (SC.v (Value.int IntKind.i64 (1 : Int)))]) (br (!decide (su = (1 : Int))) (([] : List Go.Eng.Res) = [] ∧ Ent.tup [SV.dat shT (setS (chkP vs ms cs fs ts).fst ms fs bound (id, fn, pc, rg, st, ch, ph, su, fa, he, ())).fst, SV.c (SC.v (Value.int IntKind.i64 (setS (chkP vs ms cs fs ts).fst ms fs bound (id, fn, pc, rg, st, ch, ph, su, fa, he, ())).snd))] = Ent.tup [SV.dat shT (((0 : Int), (0 : Int), (0 : Int), [(0 : Int), (0 : Int), (0 : Int), (0 : Int), (0 : Int), (0 : Int), (0 : Int), (0 : Int)], (0 : Int), (0 : Int), (0 : Int), (0 : Int), (0 : Int), [], ())), SV.c (SC.v (Value.int IntKind.i64 (30 : Int)))]) (((chkP vs ms cs fs ts).fst = (0 : Int) ∧ Formed ms fs bound (id, fn, pc, rg, st, ch, ph, su, fa, he, ()) ∧ he.length ≤ (1000000 : Nat) ∧ id ≤ (9223372036854775807 : I6.den) ∧ rg.length = (8 : Nat)) ∧ ([] : List Go.Eng.Res) = [] ∧ Ent.tup [SV.dat shT (setS (chkP vs ms cs fs ts).fst ms fs bound (id, fn, pc, rg, st, ch, ph, su, fa, he, ())).fst, SV.c (SC.v (Value.int IntKind.i64 (setS (chkP vs ms cs fs ts).fst ms fs bound (id, fn, pc, rg, st, ch, ph, su, fa, he, ())).snd))] = Ent.tup [SV.dat shT (stlS fs bound (256 : Nat) (id, fn, pc, rg, st, ch, ph, su, fa, he, ())), SV.c (SC.v (Value.int IntKind.i64 (0 : Int)))]))) := by
  obtain ⟨hb, hhe, hid, hrg⟩ : bnd ((vs, ms, cs, fs, ts, ()), ()) ∧ he.length ≤ 1000000 ∧ id ≤ 9223372036854775807 ∧ rg.length = 8 := hpre
  refine ⟨hb, br_iff.2 ⟨fun h => ?_, fun h => ⟨⟨trivial, hhe, hid, hrg⟩, br_iff.2 ⟨fun h2 => ?_, fun h2 => br_iff.2 ⟨fun h3 => ?_, fun h3 => ?_⟩⟩⟩⟩⟩
  · have h : stdS (chkP vs ms cs fs ts).1 bound ≠ 0 := by simpa using h
    have e : setS (chkP vs ms cs fs ts).1 ms fs bound (id, fn, pc, rg, st, ch, ph, su, fa, he, ()) = (zT, stdS (chkP vs ms cs fs ts).1 bound) := by unfold setS; rw [if_pos h]
    rw [e]; exact ⟨rfl, rfl⟩
  all_goals have h : ¬ stdS (chkP vs ms cs fs ts).1 bound ≠ 0 := by simpa using h
  · have h2 : ¬ Formed ms fs bound (id, fn, pc, rg, st, ch, ph, su, fa, he, ()) ∨ fa ≠ 0 := by
      rw [Bool.or_eq_true] at h2
      rcases h2 with q | q
      · left; intro q2; rw [formedB_iff.2 q2] at q; cases q
      · right; simpa using q
    have e : setS (chkP vs ms cs fs ts).1 ms fs bound (id, fn, pc, rg, st, ch, ph, su, fa, he, ()) = (zT, 1) := by unfold setS; rw [if_neg h, if_pos h2]
    rw [e]; exact ⟨rfl, rfl⟩
  all_goals
    have hF : Formed ms fs bound (id, fn, pc, rg, st, ch, ph, su, fa, he, ()) := formedB_iff.1 (by simpa using (Bool.or_eq_false_iff.1 h2).1)
    have hf0 : fa = 0 := by simpa using (Bool.or_eq_false_iff.1 h2).2
    have h2 : ¬ (¬ Formed ms fs bound (id, fn, pc, rg, st, ch, ph, su, fa, he, ()) ∨ fa ≠ 0) := fun q => q.elim (fun q => q hF) (fun q => q hf0)
  · have h3 : su ≠ 1 := by simpa using h3
    have e : setS (chkP vs ms cs fs ts).1 ms fs bound (id, fn, pc, rg, st, ch, ph, su, fa, he, ()) = (zT, 30) := by unfold setS; rw [if_neg h, if_neg h2, if_pos h3]
    rw [e]; exact ⟨rfl, rfl⟩
  · have h3 : ¬ su ≠ 1 := by simpa using h3
    have e : setS (chkP vs ms cs fs ts).1 ms fs bound (id, fn, pc, rg, st, ch, ph, su, fa, he, ()) = (stlS fs bound 256 (id, fn, pc, rg, st, ch, ph, su, fa, he, ()), 0) := by unfold setS; rw [if_neg h, if_neg h2, if_neg h3]
    have hs := std_zero.1 (Classical.not_not.1 h)
    rw [e]
    exact ⟨⟨hs.1, hF, hhe, hid, hrg⟩, rfl, rfl⟩
set_option maxHeartbeats 2000000 in
set_option maxRecDepth 100000 in
theorem f19_met : Go.Eng.Met Tryz.prog cx0.gd 19 ctSet :=
  (met_all (cx := cx0) (n := 35) (cl := cl19) (il := il19) (hl := hl19) (ml := ml19) (rc := [.data shT, .keep]) (lits := []) (suf := []) (by kernel_rfl) tis_ok ⟨f23_met, f44_met, f26_met, trivial⟩ trivial trivial trivial Tryz.func19 (by kernel_rfl) (by kernel_rfl) rfl (by kernel_rfl) (by kernel_rfl) (by simp) fun d hd => by
    obtain ⟨⟨vs, ms, cs, fs, ts, ⟨⟩⟩, bound, ⟨id, fn, pc, rg, st, ch, ph, su, fa, he, ⟨⟩⟩, ⟨⟩⟩ := d
    exact ex_of (ann19 vs ms cs fs ts bound id fn pc rg st ch ph su fa he) (f19_vc vs ms cs fs ts bound id fn pc rg st ch ph su fa he hd) (by kernel_rfl)).met
@[reducible] noncomputable def ctPnd : CT := { ps := [shP, shT], pre := fun d => bnd (d.1, ()) ∧ d.2.1.2.2.2.2.2.2.2.2.2.1.length ≤ 1000000 ∧ d.2.1.1 ≤ 9223372036854775807 ∧ d.2.1.2.2.2.1.length = 8, res := fun d => ([], .tup [.agg [.v (.int .i64 ((pndS (chkP d.1.1 d.1.2.1 d.1.2.2.1 d.1.2.2.2.1 d.1.2.2.2.2.1).1 d.1.2.1 d.1.2.2.2.1 d.2.1).1).1), .v (.int .i64 ((pndS (chkP d.1.1 d.1.2.1 d.1.2.2.1 d.1.2.2.2.1 d.1.2.2.2.2.1).1 d.1.2.1 d.1.2.2.2.1 d.2.1).1).2.1), .v (.int .i64 ((pndS (chkP d.1.1 d.1.2.1 d.1.2.2.1 d.1.2.2.2.1 d.1.2.2.2.2.1).1 d.1.2.1 d.1.2.2.2.1 d.2.1).1).2.2.1), .v (.int .i64 ((pndS (chkP d.1.1 d.1.2.1 d.1.2.2.1 d.1.2.2.2.1 d.1.2.2.2.2.1).1 d.1.2.1 d.1.2.2.2.1 d.2.1).1).2.2.2.1), .v (.int .i64 ((pndS (chkP d.1.1 d.1.2.1 d.1.2.2.1 d.1.2.2.2.1 d.1.2.2.2.2.1).1 d.1.2.1 d.1.2.2.2.1 d.2.1).1).2.2.2.2.1), .v (.int .i64 ((pndS (chkP d.1.1 d.1.2.1 d.1.2.2.1 d.1.2.2.2.1 d.1.2.2.2.2.1).1 d.1.2.1 d.1.2.2.2.1 d.2.1).1).2.2.2.2.2.1), .v (.int .i64 ((pndS (chkP d.1.1 d.1.2.1 d.1.2.2.1 d.1.2.2.2.1 d.1.2.2.2.2.1).1 d.1.2.1 d.1.2.2.2.1 d.2.1).1).2.2.2.2.2.2.1), .v (.int .i64 ((pndS (chkP d.1.1 d.1.2.1 d.1.2.2.1 d.1.2.2.2.1 d.1.2.2.2.2.1).1 d.1.2.1 d.1.2.2.2.1 d.2.1).1).2.2.2.2.2.2.2.1)], .c (.v (.bool (pndS (chkP d.1.1 d.1.2.1 d.1.2.2.1 d.1.2.2.2.1 d.1.2.2.2.2.1).1 d.1.2.1 d.1.2.2.2.1 d.2.1).2))]) }
@[reducible] noncomputable def cl15 : List (Nat × CT) := [(17, ctTV), (32, ctAt)]
@[reducible] def ann15 (vs : List VD) (ms : List ByteArray) (cs : List ByteArray) (fs : List FD) (ts : List SD) (id : Int) (fn : Int) (pc : Int) (rg : List Int) (st : Int) (ch : Int) (ph : Int) (su : Int) (fa : Int) (he : List Int) : Nat → Option (St → Ann) := fun _ => none
@[reducible] def il15 : List (Nat × IP) := []
@[reducible] def hl15 : List (Nat × Nat × CT) := []
@[reducible] noncomputable def ml15 : List (Nat × MK) := []
set_option maxRecDepth 100000 in
theorem f15_vc (vs : List VD) (ms : List ByteArray) (cs : List ByteArray) (fs : List FD) (ts : List SD) (id : Int) (fn : Int) (pc : Int) (rg : List Int) (st : Int) (ch : Int) (ph : Int) (su : Int) (fa : Int) (he : List Int) (hpre : ctPnd.pre ((vs, ms, cs, fs, ts, ()), (id, fn, pc, rg, st, ch, ph, su, fa, he, ()), ())) :
    ((!!decide (su = (1 : Int))) = true → (vs.length ≤ (1000000 : Nat) ∧ ms.length ≤ (1000000 : Nat) ∧ cs.length ≤ (1000000 : Nat) ∧ fs.length ≤ (1000000 : Nat) ∧ ts.length ≤ (1000000 : Nat) ∧ (∀ (x : Sh.str.den × (shI.sl.pair Sh.unit).den), x ∈ fs → List.length x.snd.fst ≤ (1000000 : Nat)) ∧ (instL fs).length ≤ (1000000 : Nat)) ∧ he.length ≤ (1000000 : Nat) ∧ id ≤ (9223372036854775807 : I6.den) ∧ rg.length = (8 : Nat)) ∧ br (!decide (su = (1 : Int)) || !(decide (stdS (chkP vs ms cs fs ts).fst (32 : Int) = (0 : Int)) && vldB ms fs (32 : Int) (id, fn, pc, rg, st, ch, ph, su, fa, he, ()))) (([] : List Go.Eng.Res) = [] ∧ Ent.tup [SV.agg [SC.v (Value.int IntKind.i64 (pndS (chkP vs ms cs fs ts).fst ms fs (id, fn, pc, rg, st, ch, ph, su, fa, he, ())).fst.fst), SC.v (Value.int IntKind.i64 (pndS (chkP vs ms cs fs ts).fst ms fs (id, fn, pc, rg, st, ch, ph, su, fa, he, ())).fst.snd.fst), SC.v (Value.int IntKind.i64 (pndS (chkP vs ms cs fs ts).fst ms fs (id, fn, pc, rg, st, ch, ph, su, fa, he, ())).fst.snd.snd.fst), SC.v (Value.int IntKind.i64 (pndS (chkP vs ms cs fs ts).fst ms fs (id, fn, pc, rg, st, ch, ph, su, fa, he, ())).fst.snd.snd.snd.fst), SC.v (Value.int IntKind.i64 (pndS (chkP vs ms cs fs ts).fst ms fs (id, fn, pc, rg, st, ch, ph, su, fa, he, ())).fst.snd.snd.snd.snd.fst), SC.v (Value.int IntKind.i64 (pndS (chkP vs ms cs fs ts).fst ms fs (id, fn, pc, rg, st, ch, ph, su, fa, he, ())).fst.snd.snd.snd.snd.snd.fst), SC.v (Value.int IntKind.i64 (pndS (chkP vs ms cs fs ts).fst ms fs (id, fn, pc, rg, st, ch, ph, su, fa, he, ())).fst.snd.snd.snd.snd.snd.snd.fst), SC.v (Value.int IntKind.i64 (pndS (chkP vs ms cs fs ts).fst ms fs (id, fn, pc, rg, st, ch, ph, su, fa, he, ())).fst.snd.snd.snd.snd.snd.snd.snd.fst)], SV.c (SC.v (Value.bool (pndS (chkP vs ms cs fs ts).fst ms fs (id, fn, pc, rg, st, ch, ph, su, fa, he, ())).snd))] = Ent.tup [SV.agg [SC.v (Value.int IntKind.i64 (0 : Int)), SC.v (Value.int IntKind.i64 (0 : Int)), SC.v (Value.int IntKind.i64 (0 : Int)), SC.v (Value.int IntKind.i64 (0 : Int)), SC.v (Value.int IntKind.i64 (0 : Int)), SC.v (Value.int IntKind.i64 (0 : Int)), SC.v (Value.int IntKind.i64 (0 : Int)), SC.v (Value.int IntKind.i64 (0 : Int))], SV.c (SC.v (Value.bool false))]) (((0 : I6.den) ≤ fn ∧ fn < (↑fs.length : I6.den) ∧ (0 : I6.den) ≤ pc) ∧ ([] : List Go.Eng.Res) = [] ∧ Ent.tup [SV.agg [SC.v (Value.int IntKind.i64 (pndS (chkP vs ms cs fs ts).fst ms fs (id, fn, pc, rg, st, ch, ph, su, fa, he, ())).fst.fst), SC.v (Value.int IntKind.i64 (pndS (chkP vs ms cs fs ts).fst ms fs (id, fn, pc, rg, st, ch, ph, su, fa, he, ())).fst.snd.fst), SC.v (Value.int IntKind.i64 (pndS (chkP vs ms cs fs ts).fst ms fs (id, fn, pc, rg, st, ch, ph, su, fa, he, ())).fst.snd.snd.fst), SC.v (Value.int IntKind.i64 (pndS (chkP vs ms cs fs ts).fst ms fs (id, fn, pc, rg, st, ch, ph, su, fa, he, ())).fst.snd.snd.snd.fst), SC.v (Value.int IntKind.i64 (pndS (chkP vs ms cs fs ts).fst ms fs (id, fn, pc, rg, st, ch, ph, su, fa, he, ())).fst.snd.snd.snd.snd.fst), SC.v (Value.int IntKind.i64 (pndS (chkP vs ms cs fs ts).fst ms fs (id, fn, pc, rg, st, ch, ph, su, fa, he, ())).fst.snd.snd.snd.snd.snd.fst), SC.v (Value.int IntKind.i64 (pndS (chkP vs ms cs fs ts).fst ms fs (id, fn, pc, rg, st, ch, ph, su, fa, he, ())).fst.snd.snd.snd.snd.snd.snd.fst), SC.v (Value.int IntKind.i64 (pndS (chkP vs ms cs fs ts).fst ms fs (id, fn, pc, rg, st, ch, ph, su, fa, he, ())).fst.snd.snd.snd.snd.snd.snd.snd.fst)], SV.c (SC.v (Value.bool (pndS (chkP vs ms cs fs ts).fst ms fs (id, fn, pc, rg, st, ch, ph, su, fa, he, ())).snd))] = Ent.tup [SV.agg [SC.v (Value.int IntKind.i64 (atR fs fn pc).fst.fst), SC.v (Value.int IntKind.i64 (atR fs fn pc).fst.snd.fst), SC.v (Value.int IntKind.i64 (atR fs fn pc).fst.snd.snd.fst), SC.v (Value.int IntKind.i64 (atR fs fn pc).fst.snd.snd.snd.fst), SC.v (Value.int IntKind.i64 (atR fs fn pc).fst.snd.snd.snd.snd.fst), SC.v (Value.int IntKind.i64 (atR fs fn pc).fst.snd.snd.snd.snd.snd.fst), SC.v (Value.int IntKind.i64 (atR fs fn pc).fst.snd.snd.snd.snd.snd.snd.fst), SC.v (Value.int IntKind.i64 (atR fs fn pc).fst.snd.snd.snd.snd.snd.snd.snd.fst)], SV.c (SC.v (Value.bool (atR fs fn pc).snd))]) := by
  obtain ⟨hb, hhe, hid, hrg⟩ : bnd ((vs, ms, cs, fs, ts, ()), ()) ∧ he.length ≤ 1000000 ∧ id ≤ 9223372036854775807 ∧ rg.length = 8 := hpre
  have key : ((chkP vs ms cs fs ts).1 = 0 ∧ su = 1 ∧ Vld ms fs 32 (id, fn, pc, rg, st, ch, ph, su, fa, he, ())) ↔ (!decide (su = 1) || !(decide (stdS (chkP vs ms cs fs ts).1 32 = 0) && vldB ms fs 32 (id, fn, pc, rg, st, ch, ph, su, fa, he, ()))) = false := by
    rw [Bool.or_eq_false_iff, Bool.not_eq_false', Bool.not_eq_false', Bool.and_eq_true, decide_eq_true_iff, decide_eq_true_iff, std_zero, vldB_iff]
    constructor
    · rintro ⟨q1, q2, q3⟩; exact ⟨q2, ⟨q1, by omega, by omega⟩, q3⟩
    · rintro ⟨q2, ⟨q1, _⟩, q3⟩; exact ⟨q1, q2, q3⟩
  refine ⟨fun _ => ⟨hb, hhe, hid, hrg⟩, br_iff.2 ⟨fun h => ?_, fun h => ?_⟩⟩
  · have e : pndS (chkP vs ms cs fs ts).1 ms fs (id, fn, pc, rg, st, ch, ph, su, fa, he, ()) = ((0, 0, 0, 0, 0, 0, 0, 0, ()), false) := by
      unfold pndS
      rw [if_neg]
      intro q
      rw [key.1 q] at h; cases h
    rw [e]; exact ⟨rfl, rfl⟩
  · have q := key.2 h
    have e : pndS (chkP vs ms cs fs ts).1 ms fs (id, fn, pc, rg, st, ch, ph, su, fa, he, ()) = atR fs fn pc := by
      unfold pndS
      rw [if_pos q]
    have hF := q.2.2.1
    rw [e]
    exact ⟨⟨hF.2.1.1, hF.2.1.2, hF.2.2.1.1⟩, rfl, rfl⟩
set_option maxHeartbeats 2000000 in
set_option maxRecDepth 100000 in
theorem f15_met : Go.Eng.Met Tryz.prog cx0.gd 15 ctPnd :=
  (met_all (cx := cx0) (n := 21) (cl := cl15) (il := il15) (hl := hl15) (ml := ml15) (rc := []) (lits := []) (suf := []) (by kernel_rfl) tis_ok ⟨f17_met, f32_met, trivial⟩ trivial trivial trivial Tryz.func15 (by kernel_rfl) (by kernel_rfl) rfl (by kernel_rfl) (by kernel_rfl) (by simp) fun d hd => by
    obtain ⟨⟨vs, ms, cs, fs, ts, ⟨⟩⟩, ⟨id, fn, pc, rg, st, ch, ph, su, fa, he, ⟨⟩⟩, ⟨⟩⟩ := d
    exact ex_of (ann15 vs ms cs fs ts id fn pc rg st ch ph su fa he) (f15_vc vs ms cs fs ts id fn pc rg st ch ph su fa he hd) (by kernel_rfl)).met
def waitS : TD → Int → TD
  | (id, fn, pc, rg, st, ch, ph, su, fa, he, _), m => if ph = 0 then (id, fn, pc, rg, st, ch, 1, su, fa, remI he m, ()) else if ph = 1 then (id, fn, pc, rg, st, ch, 2, su, fa, he, ()) else (id, fn, pc + 1, rg, st, ch, 0, su, fa, addI he m, ())
@[reducible] def ctWai : CT := { ps := [shT, .int .i64], pre := fun d => d.1.2.2.2.2.2.2.2.2.2.1.length ≤ 999999 ∧ 0 ≤ d.1.2.2.1 ∧ d.1.2.2.1 ≤ 1000000, res := fun d => ([], .one (.dat shT (waitS d.1 d.2.1))) }
@[reducible] def cl34 : List (Nat × CT) := [(36, ctRem), (35, ctAdd)]
@[reducible] def ann34 (id : Int) (fn : Int) (pc : Int) (rg : List Int) (st : Int) (ch : Int) (ph : Int) (su : Int) (fa : Int) (he : List Int) (m : Int) : Nat → Option (St → Ann) := fun _ => none
@[reducible] def il34 : List (Nat × IP) := []
@[reducible] def hl34 : List (Nat × Nat × CT) := []
@[reducible] def ml34 : List (Nat × MK) := []
set_option maxRecDepth 100000 in
theorem f34_vc (id : Int) (fn : Int) (pc : Int) (rg : List Int) (st : Int) (ch : Int) (ph : Int) (su : Int) (fa : Int) (he : List Int) (m : Int) (hpre : ctWai.pre ((id, fn, pc, rg, st, ch, ph, su, fa, he, ()), m, ())) :
    br (decide (ph = (0 : Int))) (he.length ≤ (1000000 : Nat) ∧ ([] : List Go.Eng.Res) = [] ∧ Ent.one (SV.dat shT (waitS (id, fn, pc, rg, st, ch, ph, su, fa, he, ()) m)) = Ent.one (SV.dat shT ((id, fn, pc, rg, st, ch, (1 : Int), su, fa, filI (makeI he) [m] false, ())))) (br (decide (ph = (1 : Int))) (([] : List Go.Eng.Res) = [] ∧ Ent.one (SV.dat shT (waitS (id, fn, pc, rg, st, ch, ph, su, fa, he, ()) m)) = Ent.one (SV.dat shT ((id, fn, pc, rg, st, ch, (2 : Int), su, fa, he, ())))) (he.length ≤ (999999 : Nat) ∧ InR IntKind.i64 (pc + (1 : Int)) ∧ ([] : List Go.Eng.Res) = [] ∧ Ent.one (SV.dat shT (waitS (id, fn, pc, rg, st, ch, ph, su, fa, he, ()) m)) = Ent.one (SV.dat shT ((id, fn, pc + (1 : Int), rg, st, ch, (0 : Int), su, fa, makeI (he ++ [m]), ()))))) := by
  obtain ⟨hhe, hp0, hp1⟩ : he.length ≤ 999999 ∧ 0 ≤ pc ∧ pc ≤ 1000000 := hpre
  refine br_iff.2 ⟨fun h => ?_, fun h => br_iff.2 ⟨fun h2 => ?_, fun h2 => ?_⟩⟩
  · have h : ph = 0 := by simpa using h
    have e : waitS (id, fn, pc, rg, st, ch, ph, su, fa, he, ()) m = (id, fn, pc, rg, st, ch, 1, su, fa, remI he m, ()) := by simp only [waitS]; rw [if_pos h]
    rw [e]; exact ⟨by omega, rfl, rfl⟩
  · have h : ¬ ph = 0 := by simpa using h
    have h2 : ph = 1 := by simpa using h2
    have e : waitS (id, fn, pc, rg, st, ch, ph, su, fa, he, ()) m = (id, fn, pc, rg, st, ch, 2, su, fa, he, ()) := by simp only [waitS]; rw [if_neg h, if_pos h2]
    rw [e]; exact ⟨rfl, rfl⟩
  · have h : ¬ ph = 0 := by simpa using h
    have h2 : ¬ ph = 1 := by simpa using h2
    have e : waitS (id, fn, pc, rg, st, ch, ph, su, fa, he, ()) m = (id, fn, pc + 1, rg, st, ch, 0, su, fa, addI he m, ()) := by simp only [waitS]; rw [if_neg h, if_neg h2]
    rw [e]; exact ⟨hhe, InR_i64.2 (by omega), rfl, rfl⟩
set_option maxHeartbeats 2000000 in
set_option maxRecDepth 100000 in
theorem f34_met : Go.Eng.Met Tryz.prog cx0.gd 34 ctWai :=
  (met_all (cx := cx0) (n := 29) (cl := cl34) (il := il34) (hl := hl34) (ml := ml34) (rc := [.data shT]) (lits := []) (suf := []) (by kernel_rfl) tis_ok ⟨f36_met, f35_met, trivial⟩ trivial trivial trivial Tryz.func34 (by kernel_rfl) (by kernel_rfl) rfl (by kernel_rfl) (by kernel_rfl) (by simp) fun d hd => by
    obtain ⟨⟨id, fn, pc, rg, st, ch, ph, su, fa, he, ⟨⟩⟩, m, ⟨⟩⟩ := d
    exact ex_of (ann34 id fn pc rg st ch ph su fa he m) (f34_vc id fn pc rg st ch ph su fa he m hd) (by kernel_rfl)).met
@[reducible] noncomputable def ctCom : CT := { ps := [shP, .int .i64, shT, .int .i64], pre := fun d => bnd (d.1, ()) ∧ d.2.2.1.2.2.2.2.2.2.2.2.2.1.length ≤ 1000000 ∧ d.2.2.1.1 ≤ 9223372036854775807 ∧ d.2.2.1.2.2.2.1.length = 8, res := fun d => ([], .tup [.dat shT (comS (chkP d.1.1 d.1.2.1 d.1.2.2.1 d.1.2.2.2.1 d.1.2.2.2.2.1).1 d.1.2.1 d.1.2.2.2.1 d.2.1 d.2.2.1 d.2.2.2.1).1, .c (.v (.int .i64 (comS (chkP d.1.1 d.1.2.1 d.1.2.2.1 d.1.2.2.2.1 d.1.2.2.2.2.1).1 d.1.2.1 d.1.2.2.2.1 d.2.1 d.2.2.1 d.2.2.2.1).2))]) }
@[reducible] noncomputable def cl13 : List (Nat × CT) := [(23, ctStd), (31, ctVal2), (25, ctWrap), (32, ctAt), (33, ctDef), (26, ctStl), (34, ctWai), (35, ctAdd), (36, ctRem)]
@[reducible] def ann13 (vs : List VD) (ms : List ByteArray) (cs : List ByteArray) (fs : List FD) (ts : List SD) (bound : Int) (id : Int) (fn : Int) (pc : Int) (rg : List Int) (st : Int) (ch : Int) (ph : Int) (su : Int) (fa : Int) (he : List Int) (r : Int) : Nat → Option (St → Ann) := fun _ => none
@[reducible] def il13 : List (Nat × IP) := []
@[reducible] def hl13 : List (Nat × Nat × CT) := []
@[reducible] noncomputable def ml13 : List (Nat × MK) := []
set_option maxRecDepth 100000 in
theorem f13_vc (vs : List VD) (ms : List ByteArray) (cs : List ByteArray) (fs : List FD) (ts : List SD) (bound : Int) (id : Int) (fn : Int) (pc : Int) (rg : List Int) (st : Int) (ch : Int) (ph : Int) (su : Int) (fa : Int) (he : List Int) (r : Int) (hpre : ctCom.pre ((vs, ms, cs, fs, ts, ()), bound, (id, fn, pc, rg, st, ch, ph, su, fa, he, ()), r, ())) :
    (vs.length ≤ (1000000 : Nat) ∧ ms.length ≤ (1000000 : Nat) ∧ cs.length ≤ (1000000 : Nat) ∧ fs.length ≤ (1000000 : Nat) ∧ ts.length ≤ (1000000 : Nat) ∧ (∀ (x : Sh.str.den × (shI.sl.pair Sh.unit).den), x ∈ fs → List.length x.snd.fst ≤ (1000000 : Nat)) ∧ (instL fs).length ≤ (1000000 : Nat)) ∧ br (!decide (stdS (chkP vs ms cs fs ts).fst bound = (0 : Int))) (([] : List Go.Eng.Res) = [] ∧ Ent.tup [SV.dat shT (comS (chkP vs ms cs fs ts).fst ms fs bound (id, fn, pc, rg, st, ch, ph, su, fa, he, ()) r).fst, SV.c (SC.v (Value.int IntKind.i64 (comS (chkP vs ms cs fs ts).fst ms fs bound (id, fn, pc, rg, st, ch, ph, su, fa, he, ()) r).snd))] = Ent.tup [SV.dat shT (((0 : Int), (0 : Int), (0 : Int), [(0 : Int), (0 : Int), (0 : Int), (0 : Int), (0 : Int), (0 : Int), (0 : Int), (0 : Int)], (0 : Int), (0 : Int), (0 : Int), (0 : Int), (0 : Int), [], ())), SV.c (SC.v (Value.int IntKind.i64 (stdS (chkP vs ms cs fs ts).fst bound)))]) (((chkP vs ms cs fs ts).fst = (0 : Int) ∧ he.length ≤ (1000000 : Nat) ∧ id ≤ (9223372036854775807 : I6.den) ∧ rg.length = (8 : Nat)) ∧ br (!vldB ms fs bound (id, fn, pc, rg, st, ch, ph, su, fa, he, ())) (([] : List Go.Eng.Res) = [] ∧ Ent.tup [SV.dat shT (comS (chkP vs ms cs fs ts).fst ms fs bound (id, fn, pc, rg, st, ch, ph, su, fa, he, ()) r).fst, SV.c (SC.v (Value.int IntKind.i64 (comS (chkP vs ms cs fs ts).fst ms fs bound (id, fn, pc, rg, st, ch, ph, su, fa, he, ()) r).snd))] = Ent.tup [SV.dat shT (((0 : Int), (0 : Int), (0 : Int), [(0 : Int), (0 : Int), (0 : Int), (0 : Int), (0 : Int), (0 : Int), (0 : Int), (0 : Int)], (0 : Int), (0 : Int), (0 : Int), (0 : Int), (0 : Int), [], ())), SV.c (SC.v (Value.int IntKind.i64 (1 : Int)))]) (br (!decide (su = (1 : Int))) (([] : List Go.Eng.Res) = [] ∧ Ent.tup [SV.dat shT (comS (chkP vs ms cs fs ts).fst ms fs bound (id, fn, pc, rg, st, ch, ph, su, fa, he, ()) r).fst, SV.c (SC.v (Value.int IntKind.i64 (comS (chkP vs ms cs fs ts).fst ms fs bound (id, fn, pc, rg, st, ch, ph, su, fa, he, ()) r).snd))] = Ent.tup [SV.dat shT (((0 : Int), (0 : Int), (0 : Int), [(0 : Int), (0 : Int), (0 : Int), (0 : Int), (0 : Int), (0 : Int), (0 : Int), (0 : Int)], (0 : Int), (0 : Int), (0 : Int), (0 : Int), (0 : Int), [], ())), SV.c (SC.v (Value.int IntKind.i64 (30 : Int)))]) (True ∧ br (!decide (wrapS r = r)) (([] : List Go.Eng.Res) = [] ∧ Ent.tup [SV.dat shT (comS (chkP vs ms cs fs ts).fst ms fs bound (id, fn, pc, rg, st, ch, ph, su, fa, he, ()) r).fst, SV.c (SC.v (Value.int IntKind.i64 (comS (chkP vs ms cs fs ts).fst ms fs bound (id, fn, pc, rg, st, ch, ph, su, fa, he, ()) r).snd))] = Ent.tup [SV.dat shT (((0 : Int), (0 : Int), (0 : Int), [(0 : Int), (0 : Int), (0 : Int), (0 : Int), (0 : Int), (0 : Int), (0 : Int), (0 : Int)], (0 : Int), (0 : Int), (0 : Int), (0 : Int), (0 : Int), [], ())), SV.c (SC.v (Value.int IntKind.i64 (2 : Int)))]) (((0 : I6.den) ≤ fn ∧ fn < (↑fs.length : I6.den) ∧ (0 : I6.den) ≤ pc) ∧ InR IntKind.i64 (st + (1 : Int)) ∧ True ∧ br (defS (atR fs fn pc).fst).snd (((0 : Int) ≤ (defS (atR fs fn pc).fst).fst ∧ (defS (atR fs fn pc).fst).fst < (8 : Int)) ∧ (defS (atR fs fn pc).fst).fst.toNat < (8 : Nat) ∧ br (decide ((atR fs fn pc).fst.fst = (18 : Int))) ((he.length ≤ (999999 : Nat) ∧ (0 : I6.den) ≤ pc ∧ pc ≤ (1000000 : I6.den)) ∧ ((chkP vs ms cs fs ts).fst = (0 : Int) ∧ Formed ms fs bound (waitS (id, fn, pc, rg.set (defS (atR fs fn pc).fst).fst.toNat r, st + (1 : Int), ch, ph, su, fa, he, ()) (atR fs fn pc).fst.snd.snd.snd.snd.snd.fst) ∧ List.length (waitS (id, fn, pc, rg.set (defS (atR fs fn pc).fst).fst.toNat r, st + (1 : Int), ch, ph, su, fa, he, ()) (atR fs fn pc).fst.snd.snd.snd.snd.snd.fst).snd.snd.snd.snd.snd.snd.snd.snd.snd.fst ≤ (1000000 : Nat) ∧ (waitS (id, fn, pc, rg.set (defS (atR fs fn pc).fst).fst.toNat r, st + (1 : Int), ch, ph, su, fa, he, ()) (atR fs fn pc).fst.snd.snd.snd.snd.snd.fst).fst ≤ (9223372036854775807 : I6.den) ∧ List.length (waitS (id, fn, pc, rg.set (defS (atR fs fn pc).fst).fst.toNat r, st + (1 : Int), ch, ph, su, fa, he, ()) (atR fs fn pc).fst.snd.snd.snd.snd.snd.fst).snd.snd.snd.fst = (8 : Nat)) ∧ ([] : List Go.Eng.Res) = [] ∧ Ent.tup [SV.dat shT (comS (chkP vs ms cs fs ts).fst ms fs bound (id, fn, pc, rg, st, ch, ph, su, fa, he, ()) r).fst, SV.c (SC.v (Value.int IntKind.i64 (comS (chkP vs ms cs fs ts).fst ms fs bound (id, fn, pc, rg, st, ch, ph, su, fa, he, ()) r).snd))] = Ent.tup [SV.dat shT (stlS fs bound (256 : Nat) (waitS (id, fn, pc, rg.set (defS (atR fs fn pc).fst).fst.toNat r, st + (1 : Int), ch, ph, su, fa, he, ()) (atR fs fn pc).fst.snd.snd.snd.snd.snd.fst)), SV.c (SC.v (Value.int IntKind.i64 (0 : Int)))]) (br (decide ((atR fs fn pc).fst.fst = (17 : Int))) (br (decide (r = (0 : Int))) (InR IntKind.i64 (pc + (1 : Int)) ∧ ((chkP vs ms cs fs ts).fst = (0 : Int) ∧ Formed ms fs bound (id, fn, pc + (1 : Int), rg.set (defS (atR fs fn pc).fst).fst.toNat r, st + (1 : Int), ch, ph, su, fa, he, ()) ∧ he.length ≤ (1000000 : Nat) ∧ id ≤ (9223372036854775807 : I6.den) ∧ (rg.set (defS (atR fs fn pc).fst).fst.toNat r).length = (8 : Nat)) ∧ ([] : List Go.Eng.Res) = [] ∧ Ent.tup [SV.dat shT (comS (chkP vs ms cs fs ts).fst ms fs bound (id, fn, pc, rg, st, ch, ph, su, fa, he, ()) r).fst, SV.c (SC.v (Value.int IntKind.i64 (comS (chkP vs ms cs fs ts).fst ms fs bound (id, fn, pc, rg, st, ch, ph, su, fa, he, ()) r).snd))] = Ent.tup [SV.dat shT (stlS fs bound (256 : Nat) (id, fn, pc + (1 : Int), rg.set (defS (atR fs fn pc).fst).fst.toNat r, st + (1 : Int), ch, ph, su, fa, he, ())), SV.c (SC.v (Value.int IntKind.i64 (0 : Int)))]) (he.length ≤ (999999 : Nat) ∧ InR IntKind.i64 (pc + (1 : Int)) ∧ ((chkP vs ms cs fs ts).fst = (0 : Int) ∧ Formed ms fs bound (id, fn, pc + (1 : Int), rg.set (defS (atR fs fn pc).fst).fst.toNat r, st + (1 : Int), ch, ph, su, fa, makeI (he ++ [(atR fs fn pc).fst.snd.snd.snd.snd.fst]), ()) ∧ (makeI (he ++ [(atR fs fn pc).fst.snd.snd.snd.snd.fst])).length ≤ (1000000 : Nat) ∧ id ≤ (9223372036854775807 : I6.den) ∧ (rg.set (defS (atR fs fn pc).fst).fst.toNat r).length = (8 : Nat)) ∧ ([] : List Go.Eng.Res) = [] ∧ Ent.tup [SV.dat shT (comS (chkP vs ms cs fs ts).fst ms fs bound (id, fn, pc, rg, st, ch, ph, su, fa, he, ()) r).fst, SV.c (SC.v (Value.int IntKind.i64 (comS (chkP vs ms cs fs ts).fst ms fs bound (id, fn, pc, rg, st, ch, ph, su, fa, he, ()) r).snd))] = Ent.tup [SV.dat shT (stlS fs bound (256 : Nat) (id, fn, pc + (1 : Int), rg.set (defS (atR fs fn pc).fst).fst.toNat r, st + (1 : Int), ch, ph, su, fa, makeI (he ++ [(atR fs fn pc).fst.snd.snd.snd.snd.fst]), ())), SV.c (SC.v (Value.int IntKind.i64 (0 : Int)))])) (br (decide ((atR fs fn pc).fst.fst = (15 : Int))) (he.length ≤ (999999 : Nat) ∧ InR IntKind.i64 (pc + (1 : Int)) ∧ ((chkP vs ms cs fs ts).fst = (0 : Int) ∧ Formed ms fs bound (id, fn, pc + (1 : Int), rg.set (defS (atR fs fn pc).fst).fst.toNat r, st + (1 : Int), ch, ph, su, fa, makeI (he ++ [(atR fs fn pc).fst.snd.snd.snd.snd.fst]), ()) ∧ (makeI (he ++ [(atR fs fn pc).fst.snd.snd.snd.snd.fst])).length ≤ (1000000 : Nat) ∧ id ≤ (9223372036854775807 : I6.den) ∧ (rg.set (defS (atR fs fn pc).fst).fst.toNat r).length = (8 : Nat)) ∧ ([] : List Go.Eng.Res) = [] ∧ Ent.tup [SV.dat shT (comS (chkP vs ms cs fs ts).fst ms fs bound (id, fn, pc, rg, st, ch, ph, su, fa, he, ()) r).fst, SV.c (SC.v (Value.int IntKind.i64 (comS (chkP vs ms cs fs ts).fst ms fs bound (id, fn, pc, rg, st, ch, ph, su, fa, he, ()) r).snd))] = Ent.tup [SV.dat shT (stlS fs bound (256 : Nat) (id, fn, pc + (1 : Int), rg.set (defS (atR fs fn pc).fst).fst.toNat r, st + (1 : Int), ch, ph, su, fa, makeI (he ++ [(atR fs fn pc).fst.snd.snd.snd.snd.fst]), ())), SV.c (SC.v (Value.int IntKind.i64 (0 : Int)))]) (br (decide ((atR fs fn pc).fst.fst = (16 : Int))) (he.length ≤ (1000000 : Nat) ∧ InR IntKind.i64 (pc + (1 : Int)) ∧ ((chkP vs ms cs fs ts).fst = (0 : Int) ∧ Formed ms fs bound (id, fn, pc + (1 : Int), rg.set (defS (atR fs fn pc).fst).fst.toNat r, st + (1 : Int), ch, ph, su, fa, filI (makeI he) [(atR fs fn pc).fst.snd.snd.snd.snd.fst] false, ()) ∧ (filI (makeI he) [(atR fs fn pc).fst.snd.snd.snd.snd.fst] false).length ≤ (1000000 : Nat) ∧ id ≤ (9223372036854775807 : I6.den) ∧ (rg.set (defS (atR fs fn pc).fst).fst.toNat r).length = (8 : Nat)) ∧ ([] : List Go.Eng.Res) = [] ∧ Ent.tup [SV.dat shT (comS (chkP vs ms cs fs ts).fst ms fs bound (id, fn, pc, rg, st, ch, ph, su, fa, he, ()) r).fst, SV.c (SC.v (Value.int IntKind.i64 (comS (chkP vs ms cs fs ts).fst ms fs bound (id, fn, pc, rg, st, ch, ph, su, fa, he, ()) r).snd))] = Ent.tup [SV.dat shT (stlS fs bound (256 : Nat) (id, fn, pc + (1 : Int), rg.set (defS (atR fs fn pc).fst).fst.toNat r, st + (1 : Int), ch, ph, su, fa, filI (makeI he) [(atR fs fn pc).fst.snd.snd.snd.snd.fst] false, ())), SV.c (SC.v (Value.int IntKind.i64 (0 : Int)))]) (br (decide ((atR fs fn pc).fst.fst = (21 : Int))) (InR IntKind.i64 (ch + (1 : Int)) ∧ InR IntKind.i64 (pc + (1 : Int)) ∧ ((chkP vs ms cs fs ts).fst = (0 : Int) ∧ Formed ms fs bound (id, fn, pc + (1 : Int), rg.set (defS (atR fs fn pc).fst).fst.toNat r, st + (1 : Int), ch + (1 : Int), ph, su, fa, he, ()) ∧ he.length ≤ (1000000 : Nat) ∧ id ≤ (9223372036854775807 : I6.den) ∧ (rg.set (defS (atR fs fn pc).fst).fst.toNat r).length = (8 : Nat)) ∧ ([] : List Go.Eng.Res) = [] ∧ Ent.tup [SV.dat shT (comS (chkP vs ms cs fs ts).fst ms fs bound (id, fn, pc, rg, st, ch, ph, su, fa, he, ()) r).fst, SV.c (SC.v (Value.int IntKind.i64 (comS (chkP vs ms cs fs ts).fst ms fs bound (id, fn, pc, rg, st, ch, ph, su, fa, he, ()) r).snd))] = Ent.tup [SV.dat shT (stlS fs bound (256 : Nat) (id, fn, pc + (1 : Int), rg.set (defS (atR fs fn pc).fst).fst.toNat r, st + (1 : Int), ch + (1 : Int), ph, su, fa, he, ())), SV.c (SC.v (Value.int IntKind.i64 (0 : Int)))]) (InR IntKind.i64 (pc + (1 : Int)) ∧ ((chkP vs ms cs fs ts).fst = (0 : Int) ∧ Formed ms fs bound (id, fn, pc + (1 : Int), rg.set (defS (atR fs fn pc).fst).fst.toNat r, st + (1 : Int), ch, ph, su, fa, he, ()) ∧ he.length ≤ (1000000 : Nat) ∧ id ≤ (9223372036854775807 : I6.den) ∧ (rg.set (defS (atR fs fn pc).fst).fst.toNat r).length = (8 : Nat)) ∧ ([] : List Go.Eng.Res) = [] ∧ Ent.tup [SV.dat shT (comS (chkP vs ms cs fs ts).fst ms fs bound (id, fn, pc, rg, st, ch, ph, su, fa, he, ()) r).fst, SV.c (SC.v (Value.int IntKind.i64 (comS (chkP vs ms cs fs ts).fst ms fs bound (id, fn, pc, rg, st, ch, ph, su, fa, he, ()) r).snd))] = Ent.tup [SV.dat shT (stlS fs bound (256 : Nat) (id, fn, pc + (1 : Int), rg.set (defS (atR fs fn pc).fst).fst.toNat r, st + (1 : Int), ch, ph, su, fa, he, ())), SV.c (SC.v (Value.int IntKind.i64 (0 : Int)))])))))) (br (decide ((atR fs fn pc).fst.fst = (18 : Int))) ((he.length ≤ (999999 : Nat) ∧ (0 : I6.den) ≤ pc ∧ pc ≤ (1000000 : I6.den)) ∧ ((chkP vs ms cs fs ts).fst = (0 : Int) ∧ Formed ms fs bound (waitS (id, fn, pc, rg, st + (1 : Int), ch, ph, su, fa, he, ()) (atR fs fn pc).fst.snd.snd.snd.snd.snd.fst) ∧ List.length (waitS (id, fn, pc, rg, st + (1 : Int), ch, ph, su, fa, he, ()) (atR fs fn pc).fst.snd.snd.snd.snd.snd.fst).snd.snd.snd.snd.snd.snd.snd.snd.snd.fst ≤ (1000000 : Nat) ∧ (waitS (id, fn, pc, rg, st + (1 : Int), ch, ph, su, fa, he, ()) (atR fs fn pc).fst.snd.snd.snd.snd.snd.fst).fst ≤ (9223372036854775807 : I6.den) ∧ List.length (waitS (id, fn, pc, rg, st + (1 : Int), ch, ph, su, fa, he, ()) (atR fs fn pc).fst.snd.snd.snd.snd.snd.fst).snd.snd.snd.fst = (8 : Nat)) ∧ ([] : List Go.Eng.Res) = [] ∧ Ent.tup [SV.dat shT (comS (chkP vs ms cs fs ts).fst ms fs bound (id, fn, pc, rg, st, ch, ph, su, fa, he, ()) r).fst, SV.c (SC.v (Value.int IntKind.i64 (comS (chkP vs ms cs fs ts).fst ms fs bound (id, fn, pc, rg, st, ch, ph, su, fa, he, ()) r).snd))] = Ent.tup [SV.dat shT (stlS fs bound (256 : Nat) (waitS (id, fn, pc, rg, st + (1 : Int), ch, ph, su, fa, he, ()) (atR fs fn pc).fst.snd.snd.snd.snd.snd.fst)), SV.c (SC.v (Value.int IntKind.i64 (0 : Int)))]) (br (decide ((atR fs fn pc).fst.fst = (17 : Int))) (br (decide (r = (0 : Int))) (InR IntKind.i64 (pc + (1 : Int)) ∧ ((chkP vs ms cs fs ts).fst = (0 : Int) ∧ Formed ms fs bound (id, fn, pc + (1 : Int), rg, st + (1 : Int), ch, ph, su, fa, he, ()) ∧ he.length ≤ (1000000 : Nat) ∧ id ≤ (9223372036854775807 : I6.den) ∧ rg.length = (8 : Nat)) ∧ ([] : List Go.Eng.Res) = [] ∧ Ent.tup [SV.dat shT (comS (chkP vs ms cs fs ts).fst ms fs bound (id, fn, pc, rg, st, ch, ph, su, fa, he, ()) r).fst, SV.c (SC.v (Value.int IntKind.i64 (comS (chkP vs ms cs fs ts).fst ms fs bound (id, fn, pc, rg, st, ch, ph, su, fa, he, ()) r).snd))] = Ent.tup [SV.dat shT (stlS fs bound (256 : Nat) (id, fn, pc + (1 : Int), rg, st + (1 : Int), ch, ph, su, fa, he, ())), SV.c (SC.v (Value.int IntKind.i64 (0 : Int)))]) (he.length ≤ (999999 : Nat) ∧ InR IntKind.i64 (pc + (1 : Int)) ∧ ((chkP vs ms cs fs ts).fst = (0 : Int) ∧ Formed ms fs bound (id, fn, pc + (1 : Int), rg, st + (1 : Int), ch, ph, su, fa, makeI (he ++ [(atR fs fn pc).fst.snd.snd.snd.snd.fst]), ()) ∧ (makeI (he ++ [(atR fs fn pc).fst.snd.snd.snd.snd.fst])).length ≤ (1000000 : Nat) ∧ id ≤ (9223372036854775807 : I6.den) ∧ rg.length = (8 : Nat)) ∧ ([] : List Go.Eng.Res) = [] ∧ Ent.tup [SV.dat shT (comS (chkP vs ms cs fs ts).fst ms fs bound (id, fn, pc, rg, st, ch, ph, su, fa, he, ()) r).fst, SV.c (SC.v (Value.int IntKind.i64 (comS (chkP vs ms cs fs ts).fst ms fs bound (id, fn, pc, rg, st, ch, ph, su, fa, he, ()) r).snd))] = Ent.tup [SV.dat shT (stlS fs bound (256 : Nat) (id, fn, pc + (1 : Int), rg, st + (1 : Int), ch, ph, su, fa, makeI (he ++ [(atR fs fn pc).fst.snd.snd.snd.snd.fst]), ())), SV.c (SC.v (Value.int IntKind.i64 (0 : Int)))])) (br (decide ((atR fs fn pc).fst.fst = (15 : Int))) (he.length ≤ (999999 : Nat) ∧ InR IntKind.i64 (pc + (1 : Int)) ∧ ((chkP vs ms cs fs ts).fst = (0 : Int) ∧ Formed ms fs bound (id, fn, pc + (1 : Int), rg, st + (1 : Int), ch, ph, su, fa, makeI (he ++ [(atR fs fn pc).fst.snd.snd.snd.snd.fst]), ()) ∧ (makeI (he ++ [(atR fs fn pc).fst.snd.snd.snd.snd.fst])).length ≤ (1000000 : Nat) ∧ id ≤ (9223372036854775807 : I6.den) ∧ rg.length = (8 : Nat)) ∧ ([] : List Go.Eng.Res) = [] ∧ Ent.tup [SV.dat shT (comS (chkP vs ms cs fs ts).fst ms fs bound (id, fn, pc, rg, st, ch, ph, su, fa, he, ()) r).fst, SV.c (SC.v (Value.int IntKind.i64 (comS (chkP vs ms cs fs ts).fst ms fs bound (id, fn, pc, rg, st, ch, ph, su, fa, he, ()) r).snd))] = Ent.tup [SV.dat shT (stlS fs bound (256 : Nat) (id, fn, pc + (1 : Int), rg, st + (1 : Int), ch, ph, su, fa, makeI (he ++ [(atR fs fn pc).fst.snd.snd.snd.snd.fst]), ())), SV.c (SC.v (Value.int IntKind.i64 (0 : Int)))]) (br (decide ((atR fs fn pc).fst.fst = (16 : Int))) (he.length ≤ (1000000 : Nat) ∧ InR IntKind.i64 (pc + (1 : Int)) ∧ ((chkP vs ms cs fs ts).fst = (0 : Int) ∧ Formed ms fs bound (id, fn, pc + (1 : Int), rg, st + (1 : Int), ch, ph, su, fa, filI (makeI he) [(atR fs fn pc).fst.snd.snd.snd.snd.fst] false, ()) ∧ (filI (makeI he) [(atR fs fn pc).fst.snd.snd.snd.snd.fst] false).length ≤ (1000000 : Nat) ∧ id ≤ (9223372036854775807 : I6.den) ∧ rg.length = (8 : Nat)) ∧ ([] : List Go.Eng.Res) = [] ∧ Ent.tup [SV.dat shT (comS (chkP vs ms cs fs ts).fst ms fs bound (id, fn, pc, rg, st, ch, ph, su, fa, he, ()) r).fst, SV.c (SC.v (Value.int IntKind.i64 (comS (chkP vs ms cs fs ts).fst ms fs bound (id, fn, pc, rg, st, ch, ph, su, fa, he, ()) r).snd))] = Ent.tup [SV.dat shT (stlS fs bound (256 : Nat) (id, fn, pc + (1 : Int), rg, st + (1 : Int), ch, ph, su, fa, filI (makeI he) [(atR fs fn pc).fst.snd.snd.snd.snd.fst] false, ())), SV.c (SC.v (Value.int IntKind.i64 (0 : Int)))]) (br (decide ((atR fs fn pc).fst.fst = (21 : Int))) (InR IntKind.i64 (ch + (1 : Int)) ∧ InR IntKind.i64 (pc + (1 : Int)) ∧ ((chkP vs ms cs fs ts).fst = (0 : Int) ∧ Formed ms fs bound (id, fn, pc + (1 : Int), rg, st + (1 : Int), ch + (1 : Int), ph, su, fa, he, ()) ∧ he.length ≤ (1000000 : Nat) ∧ id ≤ (9223372036854775807 : I6.den) ∧ rg.length = (8 : Nat)) ∧ ([] : List Go.Eng.Res) = [] ∧ Ent.tup [SV.dat shT (comS (chkP vs ms cs fs ts).fst ms fs bound (id, fn, pc, rg, st, ch, ph, su, fa, he, ()) r).fst, SV.c (SC.v (Value.int IntKind.i64 (comS (chkP vs ms cs fs ts).fst ms fs bound (id, fn, pc, rg, st, ch, ph, su, fa, he, ()) r).snd))] = Ent.tup [SV.dat shT (stlS fs bound (256 : Nat) (id, fn, pc + (1 : Int), rg, st + (1 : Int), ch + (1 : Int), ph, su, fa, he, ())), SV.c (SC.v (Value.int IntKind.i64 (0 : Int)))]) (InR IntKind.i64 (pc + (1 : Int)) ∧ ((chkP vs ms cs fs ts).fst = (0 : Int) ∧ Formed ms fs bound (id, fn, pc + (1 : Int), rg, st + (1 : Int), ch, ph, su, fa, he, ()) ∧ he.length ≤ (1000000 : Nat) ∧ id ≤ (9223372036854775807 : I6.den) ∧ rg.length = (8 : Nat)) ∧ ([] : List Go.Eng.Res) = [] ∧ Ent.tup [SV.dat shT (comS (chkP vs ms cs fs ts).fst ms fs bound (id, fn, pc, rg, st, ch, ph, su, fa, he, ()) r).fst, SV.c (SC.v (Value.int IntKind.i64 (comS (chkP vs ms cs fs ts).fst ms fs bound (id, fn, pc, rg, st, ch, ph, su, fa, he, ()) r).snd))] = Ent.tup [SV.dat shT (stlS fs bound (256 : Nat) (id, fn, pc + (1 : Int), rg, st + (1 : Int), ch, ph, su, fa, he, ())), SV.c (SC.v (Value.int IntKind.i64 (0 : Int)))])))))))))) := by
  obtain ⟨hb, hhe, hid, hrg⟩ : bnd ((vs, ms, cs, fs, ts, ()), ()) ∧ he.length ≤ 1000000 ∧ id ≤ 9223372036854775807 ∧ rg.length = 8 := hpre
  refine ⟨hb, br_iff.2 ⟨fun h => ?_, fun h => ?_⟩⟩
  · have h : stdS (chkP vs ms cs fs ts).1 bound ≠ 0 := by simpa using h
    have e : comS (chkP vs ms cs fs ts).1 ms fs bound (id, fn, pc, rg, st, ch, ph, su, fa, he, ()) r = (zT, stdS (chkP vs ms cs fs ts).1 bound) := by unfold comS; rw [if_pos h]
    rw [e]; exact ⟨rfl, rfl⟩
  have h : ¬ stdS (chkP vs ms cs fs ts).1 bound ≠ 0 := by simpa using h
  have hs := std_zero.1 (Classical.not_not.1 h)
  refine ⟨⟨hs.1, hhe, hid, hrg⟩, br_iff.2 ⟨fun h2 => ?_, fun h2 => ?_⟩⟩
  · have h2 : ¬ Vld ms fs bound (id, fn, pc, rg, st, ch, ph, su, fa, he, ()) := fun q => by rw [vldB_iff.2 q] at h2; cases h2
    have e : comS (chkP vs ms cs fs ts).1 ms fs bound (id, fn, pc, rg, st, ch, ph, su, fa, he, ()) r = (zT, 1) := by unfold comS; rw [if_neg h, if_pos h2]
    rw [e]; exact ⟨rfl, rfl⟩
  have hV : Vld ms fs bound (id, fn, pc, rg, st, ch, ph, su, fa, he, ()) := vldB_iff.1 (by simpa using h2)
  have h2 : ¬ ¬ Vld ms fs bound (id, fn, pc, rg, st, ch, ph, su, fa, he, ()) := fun q => q hV
  refine br_iff.2 ⟨fun h3 => ?_, fun h3 => ⟨trivial, br_iff.2 ⟨fun h4 => ?_, fun h4 => ?_⟩⟩⟩
  · have h3 : su ≠ 1 := by simpa using h3
    have e : comS (chkP vs ms cs fs ts).1 ms fs bound (id, fn, pc, rg, st, ch, ph, su, fa, he, ()) r = (zT, 30) := by unfold comS; rw [if_neg h, if_neg h2, if_pos h3]
    rw [e]; exact ⟨rfl, rfl⟩
  all_goals
    have h1 : su = 1 := by simpa using h3
    have h3 : ¬ su ≠ 1 := fun q => q h1
  · have h4 : valS r = false := by rw [val_wrap]; simpa using h4
    have e : comS (chkP vs ms cs fs ts).1 ms fs bound (id, fn, pc, rg, st, ch, ph, su, fa, he, ()) r = (zT, 2) := by unfold comS; rw [if_neg h, if_neg h2, if_neg h3, if_pos h4]
    rw [e]; exact ⟨rfl, rfl⟩
  have hvr : valS r = true := by rw [val_wrap]; simpa using h4
  have h4 : ¬ valS r = false := by rw [hvr]; simp
  obtain ⟨f0, s0, i, ha, vi, oi⟩ := run_at hV h1
  have ha : atS fs fn pc = some i := ha
  have s0 : st < bound := s0
  have hF : Formed ms fs bound (id, fn, pc, rg, st, ch, ph, su, fa, he, ()) := hV.1
  have hfn := hF.2.1
  have hpc := hF.2.2.1
  have hst := hF.2.2.2.2.1
  have hch := hF.2.2.2.2.2.1
  have h64 := code_short hs.1 hfn
  have hci := (ci_zero (at_ok hs.1 hfn ha)).1
  have hm4 := co_ms (chk_zero hs.1).1
  have h4e : he.length ≤ 4 := formed_short hF hm4
  have leaf : ∀ t' : TD, t' = cmpS (id, fn, pc, rg, st, ch, ph, su, fa, he, ()) i r → (((chkP vs ms cs fs ts).1 = 0 ∧ Formed ms fs bound t' ∧ t'.2.2.2.2.2.2.2.2.2.1.length ≤ 1000000 ∧ t'.1 ≤ 9223372036854775807 ∧ t'.2.2.2.1.length = 8) ∧ ([] : List Go.Eng.Res) = [] ∧
      Ent.tup [SV.dat shT (comS (chkP vs ms cs fs ts).1 ms fs bound (id, fn, pc, rg, st, ch, ph, su, fa, he, ()) r).1, SV.c (SC.v (Value.int .i64 (comS (chkP vs ms cs fs ts).1 ms fs bound (id, fn, pc, rg, st, ch, ph, su, fa, he, ()) r).2))] = Ent.tup [SV.dat shT (stlS fs bound 256 t'), SV.c (SC.v (Value.int .i64 0))]) := by
    intro t' et
    subst et
    have hf := cmp_formed hs.1 hV h1 ha hvr
    have e : comS (chkP vs ms cs fs ts).1 ms fs bound (id, fn, pc, rg, st, ch, ph, su, fa, he, ()) r = (stlS fs bound 256 (cmpS (id, fn, pc, rg, st, ch, ph, su, fa, he, ()) i r), 0) := by
      unfold comS
      rw [if_neg h, if_neg h2, if_neg h3, if_neg h4]
      show (stlS fs bound 256 (cmpS (id, fn, pc, rg, st, ch, ph, su, fa, he, ()) (atR fs fn pc).1 r), (0 : Int)) = _
      rw [show atR fs fn pc = (i, true) by unfold atR; rw [ha]]
    rw [e]
    exact ⟨⟨hs.1, hf, Nat.le_trans (formed_short hf hm4) (by omega), formed_id hf, (cmp_len _ _ _).trans hrg⟩, rfl, rfl⟩
  rw [show atR fs fn pc = (i, true) by unfold atR; rw [ha]]
  dsimp only
  have e9 : he.length ≤ 999999 := by omega
  have ep : InR .i64 (pc + 1) := InR_i64.2 (by omega)
  have ec : InR .i64 (ch + 1) := InR_i64.2 (by omega)
  refine ⟨⟨hfn.1, hfn.2, hpc.1⟩, InR_i64.2 (by omega), trivial, br_iff.2 ⟨fun hd => ?_, fun hd => ?_⟩⟩
  · have hr := defS_reg hci hd
    refine ⟨hr, by omega, ?_⟩
    refine br_dec.2 ⟨fun q => ⟨⟨e9, hpc.1, show pc ≤ 1000000 by omega⟩, leaf _ (by simp only [waitS, cmpS, if_pos q, if_pos hd])⟩, fun n18 => br_dec.2 ⟨fun n17 => br_dec.2 ⟨fun q => ⟨ep, leaf _ (by simp [cmpS, n17, hd, q])⟩, fun q => ⟨e9, ep, leaf _ (by simp [cmpS, n17, hd, q, addI])⟩⟩,
      fun n17 => br_dec.2 ⟨fun q => ⟨e9, ep, leaf _ (by simp [cmpS, q, hd, addI])⟩, fun n15 => br_dec.2 ⟨fun q => ⟨hhe, ep, leaf _ (by simp [cmpS, q, hd, remI])⟩, fun n16 => br_dec.2 ⟨fun q => ⟨ec, ep, leaf _ (by simp [cmpS, q, hd])⟩, fun n21 => ⟨ep, leaf _ (by simp [cmpS, n18, n17, n15, n16, n21, hd])⟩⟩⟩⟩⟩⟩
  · refine br_dec.2 ⟨fun q => ⟨⟨e9, hpc.1, show pc ≤ 1000000 by omega⟩, leaf _ (by simp only [waitS, cmpS, if_pos q, hd]; simp)⟩, fun n18 => br_dec.2 ⟨fun n17 => br_dec.2 ⟨fun q => ⟨ep, leaf _ (by simp [cmpS, n17, hd, q])⟩, fun q => ⟨e9, ep, leaf _ (by simp [cmpS, n17, hd, q, addI])⟩⟩,
      fun n17 => br_dec.2 ⟨fun q => ⟨e9, ep, leaf _ (by simp [cmpS, q, hd, addI])⟩, fun n15 => br_dec.2 ⟨fun q => ⟨hhe, ep, leaf _ (by simp [cmpS, q, hd, remI])⟩, fun n16 => br_dec.2 ⟨fun q => ⟨ec, ep, leaf _ (by simp [cmpS, q, hd])⟩, fun n21 => ⟨ep, leaf _ (by simp [cmpS, n18, n17, n15, n16, n21, hd])⟩⟩⟩⟩⟩⟩
set_option maxHeartbeats 2000000 in
set_option maxRecDepth 100000 in
theorem f13_met : Go.Eng.Met Tryz.prog cx0.gd 13 ctCom :=
  (met_all (cx := cx0) (n := 103) (cl := cl13) (il := il13) (hl := hl13) (ml := ml13) (rc := [.data shT, .keep]) (lits := []) (suf := []) (by kernel_rfl) tis_ok ⟨f23_met, f31_met, f25_met, f32_met, f33_met, f26_met, f34_met, f35_met, f36_met, trivial⟩ trivial trivial trivial Tryz.func13 (by kernel_rfl) (by kernel_rfl) rfl (by kernel_rfl) (by kernel_rfl) (by simp) fun d hd => by
    obtain ⟨⟨vs, ms, cs, fs, ts, ⟨⟩⟩, bound, ⟨id, fn, pc, rg, st, ch, ph, su, fa, he, ⟨⟩⟩, r, ⟨⟩⟩ := d
    exact ex_of (ann13 vs ms cs fs ts bound id fn pc rg st ch ph su fa he r) (f13_vc vs ms cs fs ts bound id fn pc rg st ch ph su fa he r hd) (by kernel_rfl)).met
end Go.Proofs.YtklnffdjhoacoaaGreatDoor
set_option linter.unusedSimpArgs false
set_option linter.unusedVariables false
set_option maxRecDepth 100000
namespace Go.Proofs.YtklnffdjhoacoaaGreatDoor
open Go Go.Eng

open Classical in
noncomputable def sameB (a b : TD) : Bool := decide (a = b)
open Classical in
theorem sameB_iff {a b : TD} : sameB a b = true ↔ a = b := by
  unfold sameB; rw [decide_eq_true_iff]
@[reducible] noncomputable def ctSame : CT := { ps := [shT, shT], pre := fun d => d.1.2.2.2.2.2.2.2.2.2.1.length ≤ 1000000, res := fun d => ([], vB (sameB d.1 d.2.1)) }
@[reducible] def cl11 : List (Nat × CT) := []
@[reducible] def ann11 (id : Int) (fn : Int) (pc : Int) (rg : List Int) (st : Int) (ch : Int) (ph : Int) (su : Int) (fa : Int) (he : List Int) (id2 : Int) (fn2 : Int) (pc2 : Int) (rg2 : List Int) (st2 : Int) (ch2 : Int) (ph2 : Int) (su2 : Int) (fa2 : Int) (he2 : List Int) : Nat → Option (St → Ann) := fun k => match k with
  | 4 => some fun _ => .inv { α := Nat, slots := fun k => [(5, .c (.v (.int .i64 k)))], res := fun _ => [], inv := fun k => k ≤ he.length ∧ ∀ j < k, he[j]? = he2[j]?, meas := fun k => he.length - k }
  | _ => none
@[reducible] def il11 : List (Nat × IP) := []
@[reducible] def hl11 : List (Nat × Nat × CT) := []
@[reducible] def ml11 : List (Nat × MK) := []
set_option maxRecDepth 100000 in
theorem f11_vc (id : Int) (fn : Int) (pc : Int) (rg : List Int) (st : Int) (ch : Int) (ph : Int) (su : Int) (fa : Int) (he : List Int) (id2 : Int) (fn2 : Int) (pc2 : Int) (rg2 : List Int) (st2 : Int) (ch2 : Int) (ph2 : Int) (su2 : Int) (fa2 : Int) (he2 : List Int) (hpre : ctSame.pre ((id, fn, pc, rg, st, ch, ph, su, fa, he, ()), (id2, fn2, pc2, rg2, st2, ch2, ph2, su2, fa2, he2, ()), ())) :
    br (!decide ((↑he.length : Int) = (↑he2.length : Int))) (([] : List Go.Eng.Res) = [] ∧ Ent.one (SV.c (SC.v (Value.bool (sameB (id, fn, pc, rg, st, ch, ph, su, fa, he, ()) (id2, fn2, pc2, rg2, st2, ch2, ph2, su2, fa2, he2, ()))))) = Ent.one (SV.c (SC.v (Value.bool false)))) ((∃ x, (x ≤ he.length ∧ ∀ (j : Nat), j < x → he[j]? = he2[j]?) ∧ (SV.c (SC.v (Value.int IntKind.i64 (0 : Int))) = SV.c (SC.v (Value.int IntKind.i64 (↑x : Int))) ∧ True) ∧ [(([] : Go.Eng.Gd), Res.obj (38 : Nat) shT (id, fn, pc, rg, st, ch, ph, su, fa, he, ())), (([] : Go.Eng.Gd), Res.obj (38 : Nat) shT (id2, fn2, pc2, rg2, st2, ch2, ph2, su2, fa2, he2, ()))] = [(([] : Go.Eng.Gd), Res.obj (38 : Nat) shT (id, fn, pc, rg, st, ch, ph, su, fa, he, ())), (([] : Go.Eng.Gd), Res.obj (38 : Nat) shT (id2, fn2, pc2, rg2, st2, ch2, ph2, su2, fa2, he2, ()))]) ∧ ∀ (x : Nat), (x ≤ he.length ∧ ∀ (j : Nat), j < x → he[j]? = he2[j]?) → br (decide ((↑x : Int) < (↑he.length : Int))) (((0 : Int) ≤ (↑x : Int) ∧ (↑x : Int) < (↑he.length : Int)) ∧ ∀ (d : Int), he[(↑x : Int).toNat]? = some d → ((0 : Int) ≤ (↑x : Int) ∧ (↑x : Int) < (↑he2.length : Int)) ∧ ∀ (d_1 : Int), he2[(↑x : Int).toNat]? = some d_1 → br (!decide (d = d_1)) (([] : List Go.Eng.Res) = [] ∧ Ent.one (SV.c (SC.v (Value.bool (sameB (id, fn, pc, rg, st, ch, ph, su, fa, he, ()) (id2, fn2, pc2, rg2, st2, ch2, ph2, su2, fa2, he2, ()))))) = Ent.one (SV.c (SC.v (Value.bool false)))) (InR IntKind.i64 ((↑x : Int) + (1 : Int)) ∧ ∃ x', (x' ≤ he.length ∧ ∀ (j : Nat), j < x' → he[j]? = he2[j]?) ∧ (SV.c (SC.v (Value.int IntKind.i64 ((↑x : Int) + (1 : Int)))) = SV.c (SC.v (Value.int IntKind.i64 (↑x' : Int))) ∧ True) ∧ [(([] : Go.Eng.Gd), Res.obj (38 : Nat) shT (id, fn, pc, rg, st, ch, ph, su, fa, he, ())), (([] : Go.Eng.Gd), Res.obj (38 : Nat) shT (id2, fn2, pc2, rg2, st2, ch2, ph2, su2, fa2, he2, ()))] = [(([] : Go.Eng.Gd), Res.obj (38 : Nat) shT (id, fn, pc, rg, st, ch, ph, su, fa, he, ())), (([] : Go.Eng.Gd), Res.obj (38 : Nat) shT (id2, fn2, pc2, rg2, st2, ch2, ph2, su2, fa2, he2, ()))] ∧ he.length - x' < he.length - x)) (br (!decide (id = id2) || !decide (fn = fn2) || !decide (pc = pc2) || !decide (rg = rg2) || !decide (st = st2)) (([] : List Go.Eng.Res) = [] ∧ Ent.one (SV.c (SC.v (Value.bool (sameB (id, fn, pc, rg, st, ch, ph, su, fa, he, ()) (id2, fn2, pc2, rg2, st2, ch2, ph2, su2, fa2, he2, ()))))) = Ent.one (SV.c (SC.v (Value.bool false)))) (([] : List Go.Eng.Res) = [] ∧ Ent.one (SV.c (SC.v (Value.bool (sameB (id, fn, pc, rg, st, ch, ph, su, fa, he, ()) (id2, fn2, pc2, rg2, st2, ch2, ph2, su2, fa2, he2, ()))))) = Ent.one (SV.c (SC.v (Value.bool (decide (ch = ch2) && decide (ph = ph2) && decide (su = su2) && decide (fa = fa2)))))))) := by
  have hp : he.length ≤ 1000000 := hpre
  have sF : ¬ (id, fn, pc, rg, st, ch, ph, su, fa, he, ()) = (id2, fn2, pc2, rg2, st2, ch2, ph2, su2, fa2, he2, ()) → ([] : List Go.Eng.Res) = [] ∧ Ent.one (SV.c (SC.v (Value.bool (sameB (id, fn, pc, rg, st, ch, ph, su, fa, he, ()) (id2, fn2, pc2, rg2, st2, ch2, ph2, su2, fa2, he2, ()))))) = Ent.one (SV.c (SC.v (Value.bool false))) := fun q => ⟨rfl, by rw [show sameB (id, fn, pc, rg, st, ch, ph, su, fa, he, ()) (id2, fn2, pc2, rg2, st2, ch2, ph2, su2, fa2, he2, ()) = false from Bool.eq_false_iff.2 fun h => q (sameB_iff.1 h)]⟩
  refine br_iff.2 ⟨fun h => sF fun q => ?_, fun h => ?_⟩
  · have := congrArg (fun t : TD => t.2.2.2.2.2.2.2.2.2.1.length) q
    simp at h; simp at this; omega
  have h : he.length = he2.length := by simp at h; omega
  refine ⟨⟨0, ⟨by omega, fun j hj => by omega⟩, ⟨rfl, trivial⟩, rfl⟩, fun k hk => br_iff.2 ⟨fun h2 => ?_, fun h2 => ?_⟩⟩
  · simp only [decide_eq_true_eq] at h2
    refine ⟨by omega, fun d hd => ⟨by omega, fun d1 hd1 => br_iff.2 ⟨fun h3 => sF fun q => ?_, fun h3 => ⟨InR_i64.2 (by omega), k + 1, ⟨by omega, fun j hj => ?_⟩, ⟨rfl, trivial⟩, rfl, by omega⟩⟩⟩⟩
    · have : he = he2 := congrArg (fun t : TD => t.2.2.2.2.2.2.2.2.2.1) q
      rw [this, hd1] at hd; cases hd
      simp at h3
    · have h3 : d = d1 := by simpa using h3
      by_cases hjk : j = k
      · subst hjk
        have a : he[j]? = some d := hd
        have b : he2[j]? = some d1 := hd1
        rw [a, b, h3]
      · exact hk.2 j (by omega)
  simp only [decide_eq_false_iff_not] at h2
  have hh : he = he2 := List.ext_getElem? fun j => by
    by_cases hj : j < k
    · exact hk.2 j hj
    · rw [List.getElem?_eq_none (by omega), List.getElem?_eq_none (by omega)]
  subst hh
  refine br_iff.2 ⟨fun h3 => sF fun q => ?_, fun h3 => ⟨rfl, ?_⟩⟩
  · simp only [Prod.mk.injEq] at q
    obtain ⟨q1, q2, q3, q4, q5, _⟩ := q
    subst q1; subst q2; subst q3; subst q4; subst q5
    simp at h3
  · simp only [Bool.or_eq_false_iff, Bool.not_eq_false', decide_eq_true_eq] at h3
    obtain ⟨⟨⟨⟨e1, e2⟩, e3⟩, e4⟩, e5⟩ := h3
    subst e1; subst e2; subst e3; subst e4; subst e5
    have : sameB (id, fn, pc, rg, st, ch, ph, su, fa, he, ()) (id, fn, pc, rg, st, ch2, ph2, su2, fa2, he, ()) = (decide (ch = ch2) && decide (ph = ph2) && decide (su = su2) && decide (fa = fa2)) := by
      rw [Bool.eq_iff_iff, sameB_iff]
      simp [and_assoc]
    rw [this]
set_option maxHeartbeats 2000000 in
set_option maxRecDepth 100000 in
theorem f11_met : Go.Eng.Met Tryz.prog cx0.gd 11 ctSame :=
  (met_all (cx := cx0) (n := 90) (cl := cl11) (il := il11) (hl := hl11) (ml := ml11) (rc := []) (lits := []) (suf := []) (by kernel_rfl) tis_ok trivial trivial trivial trivial Tryz.func11 (by kernel_rfl) (by kernel_rfl) rfl (by kernel_rfl) (by kernel_rfl) (by simp) fun d hd => by
    obtain ⟨⟨id, fn, pc, rg, st, ch, ph, su, fa, he, ⟨⟩⟩, ⟨id2, fn2, pc2, rg2, st2, ch2, ph2, su2, fa2, he2, ⟨⟩⟩, ⟨⟩⟩ := d
    exact ex_of (ann11 id fn pc rg st ch ph su fa he id2 fn2 pc2 rg2 st2 ch2 ph2 su2 fa2 he2) (f11_vc id fn pc rg st ch ph su fa he id2 fn2 pc2 rg2 st2 ch2 ph2 su2 fa2 he2 hd) (by kernel_rfl)).met
def exP (l : List ID) : PD := ([(⟨#[120]⟩, 0, ())], [], [], [(⟨#[102]⟩, l, ())], [(0, 0, ())], ())
@[reducible] def ctEx : CT := { ps := [.sl shI], pre := fun d => True, res := fun d => ([], .one (ofDat shP (exP d.1))) }
@[reducible] def cl21 : List (Nat × CT) := []
@[reducible] def ann21 (l : List ID) : Nat → Option (St → Ann) := fun _ => none
@[reducible] def il21 : List (Nat × IP) := []
@[reducible] def hl21 : List (Nat × Nat × CT) := []
@[reducible] def ml21 : List (Nat × MK) := []
set_option maxRecDepth 100000 in
theorem f21_vc (l : List ID) :
    ([] : List Go.Eng.Res) = [] ∧ Ent.one (SV.agg [SC.sl (Sh.str.pair (I6.pair Sh.unit)) [({ data := #[(120 : UInt8)] : ByteArray }, (0 : Int), ())], SC.sl Sh.str [], SC.sl Sh.str [], SC.sl (Sh.str.pair (shI.sl.pair Sh.unit)) [({ data := #[(102 : UInt8)] : ByteArray }, l, ())], SC.sl (I6.pair (I6.pair Sh.unit)) [((0 : Int), (0 : Int), ())]]) = Ent.one (SV.agg [SC.sl (Sh.str.pair (I6.pair Sh.unit)) [({ data := #[(120 : UInt8)] : ByteArray }, (0 : Int), ())], SC.sl Sh.str [], SC.sl Sh.str [], SC.sl (Sh.str.pair (shI.sl.pair Sh.unit)) [({ data := #[(102 : UInt8)] : ByteArray }, l, ())], SC.sl (I6.pair (I6.pair Sh.unit)) [((0 : Int), (0 : Int), ())]]) := by
  exact ⟨rfl, rfl⟩
set_option maxHeartbeats 2000000 in
set_option maxRecDepth 100000 in
theorem f21_met : Go.Eng.Met Tryz.prog cx0.gd 21 ctEx :=
  (met_all (cx := cx0) (n := 11) (cl := cl21) (il := il21) (hl := hl21) (ml := ml21) (rc := [.data shP]) (lits := []) (suf := []) (by kernel_rfl) tis_ok trivial trivial trivial trivial Tryz.func21 (by kernel_rfl) (by kernel_rfl) rfl (by kernel_rfl) (by kernel_rfl) (by simp) fun d hd => by
    obtain ⟨l, ⟨⟩⟩ := d
    exact ex_of (ann21 l) (f21_vc l) (by kernel_rfl)).met
def exF : List FD := [(⟨#[102]⟩, [(1, 1, 0, 0, 0, 5, 0, 0, ()), (9, 0, 1, 0, 0, 0, 0, 0, ())], ())]
def exT : TD := stlS exF 1 256 (0, 0, 0, [3, 0, 0, 0, 0, 0, 0, 0], 0, 0, 0, 1, 0, [], ())
@[reducible] def ctLiv : CT := { ps := [], pre := fun _ => True, res := fun _ => ([], vB true) }
@[reducible] noncomputable def cl8 : List (Nat × CT) := [(21, ctEx), (9, ctNew), (17, ctTV), (13, ctCom), (22, ctChi)]
@[reducible] def ann8  : Nat → Option (St → Ann) := fun _ => none
@[reducible] def il8 : List (Nat × IP) := []
@[reducible] def hl8 : List (Nat × Nat × CT) := []
@[reducible] noncomputable def ml8 : List (Nat × MK) := []
set_option maxRecDepth 100000 in
theorem f8_vc  :
    True ∧ (((1 : Nat) ≤ (1000000 : Nat) ∧ (0 : Nat) ≤ (1000000 : Nat) ∧ (0 : Nat) ≤ (1000000 : Nat) ∧ (1 : Nat) ≤ (1000000 : Nat) ∧ (1 : Nat) ≤ (1000000 : Nat) ∧ (∀ (x : Sh.str.den × (shI.sl.pair Sh.unit).den), x ∈ [({ data := #[(102 : UInt8)] : ByteArray }, [((1 : Int), (1 : Int), (0 : Int), (0 : Int), (0 : Int), (5 : Int), (0 : Int), (0 : Int), ()), ((9 : Int), (0 : Int), (1 : Int), (0 : Int), (0 : Int), (0 : Int), (0 : Int), (0 : Int), ())], ())] → List.length x.snd.fst ≤ (1000000 : Nat)) ∧ (2 : Nat) ≤ (1000000 : Nat)) ∧ (0 : Int) ≤ (9223372036854775807 : I6.den)) ∧ (true = true → (0 : Int) ≤ (0 : Int) ∧ (0 : Int) < (8 : Int)) ∧ (true = true → (0 : Nat) < (8 : Nat)) ∧ ∀ (d : Int), (true = true → ([(3 : Int), (0 : Int), (0 : Int), (0 : Int), (0 : Int), (0 : Int), (0 : Int), (0 : Int)].set (1 : Nat) (5 : Int))[(0 : Nat)]? = some d) → ((!(false || !decide (d = (3 : Int)))) = true → (0 : Int) ≤ (1 : Int) ∧ (1 : Int) < (8 : Int)) ∧ ((!(false || !decide (d = (3 : Int)))) = true → (1 : Nat) < (8 : Nat)) ∧ ∀ (d_1 : Int), ((!(false || !decide (d = (3 : Int)))) = true → ([(3 : Int), (0 : Int), (0 : Int), (0 : Int), (0 : Int), (0 : Int), (0 : Int), (0 : Int)].set (1 : Nat) (5 : Int))[(1 : Nat)]? = some d_1) → ((!(false || !decide (d = (3 : Int)) || !decide (d_1 = (5 : Int)) || false)) = true → ((1 : Nat) ≤ (1000000 : Nat) ∧ (0 : Nat) ≤ (1000000 : Nat) ∧ (0 : Nat) ≤ (1000000 : Nat) ∧ (1 : Nat) ≤ (1000000 : Nat) ∧ (1 : Nat) ≤ (1000000 : Nat) ∧ (∀ (x : Sh.str.den × (shI.sl.pair Sh.unit).den), x ∈ [({ data := #[(102 : UInt8)] : ByteArray }, [((1 : Int), (1 : Int), (0 : Int), (0 : Int), (0 : Int), (5 : Int), (0 : Int), (0 : Int), ()), ((9 : Int), (0 : Int), (1 : Int), (0 : Int), (0 : Int), (0 : Int), (0 : Int), (0 : Int), ())], ())] → List.length x.snd.fst ≤ (1000000 : Nat)) ∧ (2 : Nat) ≤ (1000000 : Nat)) ∧ (0 : Nat) ≤ (1000000 : Nat) ∧ (0 : Int) ≤ (9223372036854775807 : I6.den) ∧ (8 : Nat) = (8 : Nat)) ∧ br (false || !decide (d = (3 : Int)) || !decide (d_1 = (5 : Int)) || false || !vldB [] exF 1 exT) (([] : List Go.Eng.Res) = [] ∧ Ent.one (SV.c (SC.v (Value.bool true))) = Ent.one (SV.c (SC.v (Value.bool false)))) ((((1 : Nat) ≤ (1000000 : Nat) ∧ (0 : Nat) ≤ (1000000 : Nat) ∧ (0 : Nat) ≤ (1000000 : Nat) ∧ (1 : Nat) ≤ (1000000 : Nat) ∧ (1 : Nat) ≤ (1000000 : Nat) ∧ (∀ (x : Sh.str.den × (shI.sl.pair Sh.unit).den), x ∈ [({ data := #[(102 : UInt8)] : ByteArray }, [((1 : Int), (1 : Int), (0 : Int), (0 : Int), (0 : Int), (5 : Int), (0 : Int), (0 : Int), ()), ((9 : Int), (0 : Int), (1 : Int), (0 : Int), (0 : Int), (0 : Int), (0 : Int), (0 : Int), ())], ())] → List.length x.snd.fst ≤ (1000000 : Nat)) ∧ (2 : Nat) ≤ (1000000 : Nat)) ∧ (0 : Nat) ≤ (1000000 : Nat) ∧ (0 : Int) ≤ (9223372036854775807 : I6.den) ∧ (8 : Nat) = (8 : Nat)) ∧ True ∧ (((1 : Nat) ≤ (1000000 : Nat) ∧ (0 : Nat) ≤ (1000000 : Nat) ∧ (0 : Nat) ≤ (1000000 : Nat) ∧ (1 : Nat) ≤ (1000000 : Nat) ∧ (1 : Nat) ≤ (1000000 : Nat) ∧ (∀ (x : Sh.str.den × (shI.sl.pair Sh.unit).den), x ∈ [({ data := #[(102 : UInt8)] : ByteArray }, [((4 : Int), (0 : Int), (0 : Int), (0 : Int), (0 : Int), (0 : Int), (0 : Int), (0 : Int), ())], ())] → List.length x.snd.fst ≤ (1000000 : Nat)) ∧ (1 : Nat) ≤ (1000000 : Nat)) ∧ (0 : Int) ≤ (9223372036854775807 : I6.den)) ∧ (1 : Int) ≤ (9223372036854775807 : I6.den) ∧ ([] : List Go.Eng.Res) = [] ∧ Ent.one (SV.c (SC.v (Value.bool true))) = Ent.one (SV.c (SC.v (Value.bool (decide ((comS 0 [] exF 1 exT 0).2 = 0) && decide ((comS 0 [] exF 1 exT 0).1.2.2.1 = 2) && decide ((comS 0 [] exF 1 exT 0).1.2.2.2.2.1 = 1) && decide ((comS 0 [] exF 1 exT 0).1.2.2.2.2.2.2.2.1 = 2) && true && true && true && true && true))))) := by
  have hc : (chkP [(⟨#[120]⟩, 0, ())] [] [] exF [(0, 0, ())]).1 = 0 := by decide
  have hT : exT = (0, 0, 1, [3, 5, 0, 0, 0, 0, 0, 0], 0, 0, 0, 1, 0, [], ()) := by kernel_rfl
  have hV : Vld [] exF 1 exT := stl_vld hc (by omega) _ _ (new_formed [] (by omega) (by decide) (by decide) (by decide)) rfl rfl
  have hC : comS 0 [] exF 1 exT 0 = ((0, 0, 2, [3, 5, 0, 0, 0, 0, 0, 0], 1, 0, 0, 2, 0, [], ()), 0) := by
    rw [comS, if_neg (by decide), if_neg (fun q => q hV), if_neg (by rw [hT]; simp), if_neg (by decide)]
    kernel_rfl
  rw [hC, vldB_iff.2 hV]
  simp
set_option maxHeartbeats 2000000 in
set_option maxRecDepth 100000 in
theorem f8_met : Go.Eng.Met Tryz.prog cx0.gd 8 ctLiv :=
  (met_all (cx := cx0) (n := 105) (cl := cl8) (il := il8) (hl := hl8) (ml := ml8) (rc := []) (lits := []) (suf := []) (by kernel_rfl) tis_ok ⟨f21_met, f9_met, f17_met, f13_met, f22_met, trivial⟩ trivial trivial trivial Tryz.func8 (by kernel_rfl) (by kernel_rfl) rfl (by kernel_rfl) (by kernel_rfl) (by simp) fun d hd => by
    obtain ⟨⟩ := d
    exact ex_of (ann8 ) (f8_vc ) (by kernel_rfl)).met
@[reducible] def ctSml : CT := { ps := [.pair shP (.pair (.int .i64) (.pair (.int .i64) (.pair shT .unit)))], pre := fun d => True, res := fun d => ([], vB (smS d.1.1.1 d.1.1.2.1 d.1.1.2.2.1 d.1.1.2.2.2.1 d.1.1.2.2.2.2.1 && decide (d.1.2.2.2.1.2.2.2.2.2.2.2.2.2.1.length ≤ 20))) }
@[reducible] def cl12 : List (Nat × CT) := [(7, ctSm)]
@[reducible] def ann12 (vs : List VD) (ms : List ByteArray) (cs : List ByteArray) (fs : List FD) (ts : List SD) (bound : Int) (r : Int) (id : Int) (fn : Int) (pc : Int) (rg : List Int) (st : Int) (ch : Int) (ph : Int) (su : Int) (fa : Int) (he : List Int) : Nat → Option (St → Ann) := fun _ => none
@[reducible] def il12 : List (Nat × IP) := []
@[reducible] def hl12 : List (Nat × Nat × CT) := []
@[reducible] def ml12 : List (Nat × MK) := []
set_option maxRecDepth 100000 in
theorem f12_vc (vs : List VD) (ms : List ByteArray) (cs : List ByteArray) (fs : List FD) (ts : List SD) (bound : Int) (r : Int) (id : Int) (fn : Int) (pc : Int) (rg : List Int) (st : Int) (ch : Int) (ph : Int) (su : Int) (fa : Int) (he : List Int) :
    True ∧ ([] : List Go.Eng.Res) = [] ∧ Ent.one (SV.c (SC.v (Value.bool (smS vs ms cs fs ts && decide (he.length ≤ (20 : Nat)))))) = Ent.one (SV.c (SC.v (Value.bool (smS vs ms cs fs ts && decide ((↑he.length : Int) ≤ (20 : Int)))))) := by
  refine ⟨trivial, rfl, ?_⟩
  rw [show decide (he.length ≤ 20) = decide ((he.length : Int) ≤ 20) by rw [Bool.eq_iff_iff]; simp; omega]
set_option maxHeartbeats 2000000 in
set_option maxRecDepth 100000 in
theorem f12_met : Go.Eng.Met Tryz.prog cx0.gd 12 ctSml :=
  (met_all (cx := cx0) (n := 13) (cl := cl12) (il := il12) (hl := hl12) (ml := ml12) (rc := []) (lits := []) (suf := []) (by kernel_rfl) tis_ok ⟨f7_met, trivial⟩ trivial trivial trivial Tryz.func12 (by kernel_rfl) (by kernel_rfl) rfl (by kernel_rfl) (by kernel_rfl) (by simp) fun d hd => by
    obtain ⟨⟨⟨vs, ms, cs, fs, ts, ⟨⟩⟩, bound, r, ⟨id, fn, pc, rg, st, ch, ph, su, fa, he, ⟨⟩⟩, ⟨⟩⟩, ⟨⟩⟩ := d
    exact ex_of (ann12 vs ms cs fs ts bound r id fn pc rg st ch ph su fa he) (f12_vc vs ms cs fs ts bound r id fn pc rg st ch ph su fa he) (by kernel_rfl)).met
theorem child_ok {id ch : Int} (h : (childS id ch).2 = true) : (childS id ch).1 = 8 * (id + 1) + ch ∧ (0 ≤ ch ∧ ch < 7) ∧ parentS (childS id ch).1 = (id, true) ∧ depthM (childS id ch).1 = depthM id + 1 ∧ 8 ≤ (childS id ch).1 ∧ depthM (childS id ch).1 ≤ 4 ∧ (childS id ch).1 ≤ 1000000 ∧ (0 ≤ depthM id ∧ depthM id ≤ 4) := by
  unfold childS at h ⊢
  split at h
  · cases h
  rename_i q
  rw [if_neg q]
  have q1 : 0 ≤ depthI id := by omega
  have q2 : depthI id ≠ 4 := by omega
  obtain ⟨e1, e2⟩ := child_depth q1 q2 (ch := ch) (by omega) (by omega)
  have hl := depthI_lt q1
  have hr := depthI_rng id
  refine ⟨rfl, by omega, ?_, ?_, by simp only; omega, ?_, by simp only; omega, ?_⟩
  · unfold parentS
    rw [if_neg (by rw [e1]; omega), e2]
  · unfold depthM
    rw [e1, if_neg (by omega), if_neg (by omega)]
  · unfold depthM
    rw [e1, if_neg (by omega)]; omega
  · unfold depthM
    rw [if_neg (by omega)]; omega
@[reducible] def ctTL3 : CT := { ps := [shT, shT], pre := fun d => d.1.1 ≤ 9223372036854775807 ∧ d.2.1.1 ≤ 9223372036854775807, res := fun d => ([], vB (true)) }
theorem top_len {fs : List FD} {bound : Int} {t : TD} {rest : ID → TD} (hr : ∀ i, (rest i).2.2.2.1.length = t.2.2.2.1.length) : (topS fs bound t rest).2.2.2.1.length = t.2.2.2.1.length := by
  obtain ⟨id, fn, pc, rg, st, ch, ph, su, fa, hd, u⟩ := t
  unfold topS
  simp only
  split
  · rfl
  split
  · repeat' split
    all_goals rfl
  · exact hr _
theorem stl_len (fs : List FD) (bound : Int) : ∀ (k : Nat) (t : TD), (stlS fs bound k t).2.2.2.1.length = t.2.2.2.1.length := by
  intro k
  induction k with
  | zero =>
    intro t
    rw [stlS]
    exact top_len fun i => rfl
  | succ k ih =>
    intro t
    rw [stlS]
    refine top_len fun i => ?_
    split
    · exact (ih _).trans (loc_len t i)
    · exact loc_len t i
theorem new_ok {vs : List VD} {ms cs : List ByteArray} {fs : List FD} {ts : List SD} {bound id fn r : Int} (h : (newS (chkP vs ms cs fs ts).1 fs bound id fn r).2 = 0) : stdS (chkP vs ms cs fs ts).1 bound = 0 ∧ Vld ms fs bound (newS (chkP vs ms cs fs ts).1 fs bound id fn r).1 ∧ (newS (chkP vs ms cs fs ts).1 fs bound id fn r).1.2.2.2.1.length = 8 := by
  unfold newS at h ⊢
  split at h
  · rename_i q; exact absurd h q
  split at h
  · cases h
  split at h
  · cases h
  split at h
  · cases h
  rename_i q1 q2 q3 q4
  rw [if_neg q1, if_neg q2, if_neg q3, if_neg q4]
  have hs := std_zero.1 (Classical.not_not.1 q1)
  exact ⟨Classical.not_not.1 q1, stl_vld hs.1 hs.2.1 _ _ (new_formed ms hs.2.1 q2 q3 q4) rfl rfl, stl_len _ _ _ _⟩
theorem set_ok {vs : List VD} {ms cs : List ByteArray} {fs : List FD} {ts : List SD} {bound : Int} {t : TD} (hl : t.2.2.2.1.length = 8) (h : (setS (chkP vs ms cs fs ts).1 ms fs bound t).2 = 0) : stdS (chkP vs ms cs fs ts).1 bound = 0 ∧ Formed ms fs bound t ∧ t.2.2.2.2.2.2.2.2.1 = 0 ∧ t.2.2.2.2.2.2.2.1 = 1 ∧ (setS (chkP vs ms cs fs ts).1 ms fs bound t).1 = stlS fs bound 256 t ∧ Vld ms fs bound (setS (chkP vs ms cs fs ts).1 ms fs bound t).1 ∧ (setS (chkP vs ms cs fs ts).1 ms fs bound t).1.2.2.2.1.length = 8 := by
  unfold setS at h ⊢
  split at h
  · rename_i q; exact absurd h q
  split at h
  · cases h
  split at h
  · cases h
  rename_i q1 q2 q3
  rw [if_neg q1, if_neg q2, if_neg q3]
  have hs := std_zero.1 (Classical.not_not.1 q1)
  have q4 : Formed ms fs bound t := Classical.not_not.1 fun q => q2 (.inl q)
  have q5 : t.2.2.2.2.2.2.2.2.1 = 0 := Classical.not_not.1 fun q => q2 (.inr q)
  have q6 : t.2.2.2.2.2.2.2.1 = 1 := Classical.not_not.1 q3
  exact ⟨Classical.not_not.1 q1, q4, q5, q6, rfl, stl_vld hs.1 hs.2.1 _ _ q4 q6 q5, (stl_len _ _ _ _).trans hl⟩
theorem com_ok {vs : List VD} {ms cs : List ByteArray} {fs : List FD} {ts : List SD} {bound r : Int} {t : TD} (hl : t.2.2.2.1.length = 8) (h : (comS (chkP vs ms cs fs ts).1 ms fs bound t r).2 = 0) : stdS (chkP vs ms cs fs ts).1 bound = 0 ∧ Vld ms fs bound (comS (chkP vs ms cs fs ts).1 ms fs bound t r).1 ∧ (comS (chkP vs ms cs fs ts).1 ms fs bound t r).1.2.2.2.1.length = 8 ∧
    (comS (chkP vs ms cs fs ts).1 ms fs bound t r).1.2.2.2.2.1 = t.2.2.2.2.1 + 1 ∧ (comS (chkP vs ms cs fs ts).1 ms fs bound t r).1.1 = t.1 ∧ (comS (chkP vs ms cs fs ts).1 ms fs bound t r).1.2.1 = t.2.1 ∧ (0 ≤ t.2.2.2.2.1 ∧ t.2.2.2.2.1 < 32) := by
  unfold comS at h ⊢
  split at h
  · rename_i q; exact absurd h q
  split at h
  · cases h
  split at h
  · cases h
  split at h
  · cases h
  rename_i q1 q2 q3 q4
  rw [if_neg q1, if_neg q2, if_neg q3, if_neg q4]
  have hs := std_zero.1 (Classical.not_not.1 q1)
  have hV := Classical.not_not.1 q2
  have h1 : t.2.2.2.2.2.2.2.1 = 1 := Classical.not_not.1 q3
  have hv : valS r = true := by simpa using q4
  obtain ⟨f0, s0, i, ha, vi, oi⟩ := run_at hV h1
  have ea : (atR fs t.2.1 t.2.2.1).1 = i := by unfold atR; rw [ha]
  rw [ea]
  have hf := cmp_formed hs.1 hV h1 ha hv
  have hk := cmp_keep t i r
  have hk2 := stl_keep fs bound 256 (cmpS t i r)
  refine ⟨Classical.not_not.1 q1, stl_vld hs.1 hs.2.1 _ _ hf (hk.2.2.2.1.trans h1) (hk.2.2.2.2.trans f0), ((stl_len _ _ _ _).trans (cmp_len _ _ _)).trans hl, hk2.2.2.1.trans hk.2.2.1, hk2.1.trans hk.1, hk2.2.1.trans hk.2.1, ?_⟩
  obtain ⟨id, fn, pc, rg, st, ch, ph, su, fa, he, u⟩ := t
  have := hV.1.2.2.2.2.1
  have s0 : st < bound := s0
  show 0 ≤ st ∧ st < 32
  have : 0 ≤ st ∧ st ≤ bound := this
  omega
theorem vld_formed {ms : List ByteArray} {fs : List FD} {bound : Int} {t : TD} (h : Vld ms fs bound t) : Formed ms fs bound t := by
  obtain ⟨id, fn, pc, rg, st, ch, ph, su, fa, he, u⟩ := t
  exact h.1
theorem formed_fn {ms : List ByteArray} {fs : List FD} {bound : Int} {t : TD} (h : Formed ms fs bound t) : (0 ≤ t.2.1 ∧ t.2.1 < (fs.length : Int)) ∧ 0 ≤ t.2.2.1 := by
  obtain ⟨id, fn, pc, rg, st, ch, ph, su, fa, he, u⟩ := t
  exact ⟨h.2.1, h.2.2.1.1⟩
theorem vld_mono {ms : List ByteArray} {fs : List FD} {b c : Int} (hbc : b ≤ c) {t : TD} (h : Vld ms fs b t) : Vld ms fs c t := by
  obtain ⟨id, fn, pc, rg, st, ch, ph, su, fa, he, u⟩ := t
  obtain ⟨⟨h1, h2, h3, h4, h5, h6⟩, q⟩ := h
  refine ⟨⟨h1, h2, h3, h4, ⟨h5.1, Int.le_trans h5.2 hbc⟩, h6⟩, ?_⟩
  rcases q with ⟨q1, q2⟩ | q
  · refine .inl ⟨?_, q2⟩
    rcases q1 with ⟨a, b'⟩ | q1
    · exact .inl ⟨a, Int.lt_of_lt_of_le b' hbc⟩
    · exact .inr q1
  · exact .inr q
theorem vld_lens {vs : List VD} {ms cs : List ByteArray} {fs : List FD} {ts : List SD} {bound : Int} {t : TD} (hs : stdS (chkP vs ms cs fs ts).1 bound = 0) (h : Vld ms fs bound t) : t.2.2.2.2.2.2.2.2.2.1.length ≤ 1000000 ∧ t.1 ≤ 9223372036854775807 := by
  have hf : Formed ms fs bound t := by
    obtain ⟨id, fn, pc, rg, st, ch, ph, su, fa, he, u⟩ := t
    exact h.1
  exact ⟨Nat.le_trans (formed_short hf (co_ms (chk_zero (std_zero.1 hs).1).1)) (by omega), formed_id hf⟩
@[reducible] def ctTL5 : CT := { ps := [.pair shP (.pair (.int .i64) (.pair (.int .i64) (.pair shT .unit)))], pre := fun d => d.1.2.2.2.1.1 ≤ 9223372036854775807 ∧ d.1.2.2.2.1.2.2.2.1.length = 8, res := fun d => ([], vB (true)) }
end Go.Proofs.YtklnffdjhoacoaaGreatDoor
set_option linter.unusedSimpArgs false
set_option linter.unusedVariables false
set_option maxRecDepth 100000
namespace Go.Proofs.YtklnffdjhoacoaaGreatDoor
open Go Go.Eng

@[reducible] def ctrWrap : CT := { ps := [.int .i64], pre := fun d => True, res := fun d => ([], .one (.c (.v (.int .i64 (wrapS d.1))))) }
@[reducible] def cl96 : List (Nat × CT) := []
@[reducible] def ann96 (n : Int) : Nat → Option (St → Ann) := fun _ => none
set_option maxRecDepth 100000 in
theorem f96_vc (n : Int) :
    (4294967296 : Int) ≠ (0 : Int) ∧ br (decide (n.tmod (4294967296 : Int) < (0 : Int))) (InR IntKind.i64 (n.tmod (4294967296 : Int) + (4294967296 : Int)) ∧ br (decide ((2147483647 : Int) < n.tmod (4294967296 : Int) + (4294967296 : Int))) (InR IntKind.i64 (n.tmod (4294967296 : Int) + (4294967296 : Int) - (4294967296 : Int)) ∧ ([] : List Go.Eng.Res) = [] ∧ Ent.one (SV.c (SC.v (Value.int IntKind.i64 (wrapS n)))) = Ent.one (SV.c (SC.v (Value.int IntKind.i64 (n.tmod (4294967296 : Int) + (4294967296 : Int) - (4294967296 : Int)))))) (([] : List Go.Eng.Res) = [] ∧ Ent.one (SV.c (SC.v (Value.int IntKind.i64 (wrapS n)))) = Ent.one (SV.c (SC.v (Value.int IntKind.i64 (n.tmod (4294967296 : Int) + (4294967296 : Int))))))) (br (decide ((2147483647 : Int) < n.tmod (4294967296 : Int))) (InR IntKind.i64 (n.tmod (4294967296 : Int) - (4294967296 : Int)) ∧ ([] : List Go.Eng.Res) = [] ∧ Ent.one (SV.c (SC.v (Value.int IntKind.i64 (wrapS n)))) = Ent.one (SV.c (SC.v (Value.int IntKind.i64 (n.tmod (4294967296 : Int) - (4294967296 : Int)))))) (([] : List Go.Eng.Res) = [] ∧ Ent.one (SV.c (SC.v (Value.int IntKind.i64 (wrapS n)))) = Ent.one (SV.c (SC.v (Value.int IntKind.i64 (n.tmod (4294967296 : Int))))))) := by
  have hw := wrapR_eq n
  unfold wrapR at hw
  have hr : -4294967296 < n.tmod 4294967296 ∧ n.tmod 4294967296 < 4294967296 := by
    rw [tmod_cases n (by omega)]; split <;> omega
  refine ⟨by decide, br_dec.2 ⟨fun h => ⟨InR_i64.2 (by omega), br_dec.2 ⟨fun h2 => ⟨InR_i64.2 (by omega), rfl, ?_⟩, fun h2 => ⟨rfl, ?_⟩⟩⟩, fun h => br_dec.2 ⟨fun h2 => ⟨InR_i64.2 (by omega), rfl, ?_⟩, fun h2 => ⟨rfl, ?_⟩⟩⟩⟩
  · rw [if_pos h, if_pos h2] at hw; rw [← hw]
  · rw [if_pos h, if_neg h2] at hw; rw [← hw]
  · rw [if_neg h, if_pos h2] at hw; rw [← hw]
  · rw [if_neg h, if_neg h2] at hw; rw [← hw]
set_option maxHeartbeats 2000000 in
set_option maxRecDepth 100000 in
theorem f96_met : Go.Eng.Met Tryz.prog cx0.gd 96 ctrWrap :=
  met_of (cx := cx0) (n := 15) (cl := cl96) (by kernel_rfl) tis_ok trivial Tryz.func96 (by kernel_rfl) (by kernel_rfl) rfl (by kernel_rfl) (by kernel_rfl) fun d hd => by
    obtain ⟨n, ⟨⟩⟩ := d
    exact ex_of (ann96 n) (f96_vc n) (by kernel_rfl)
@[reducible] def ctrTru : CT := { ps := [.bool], pre := fun d => True, res := fun d => ([], .one (.c (.v (.int .i64 (if d.1 = true then 1 else 0))))) }
@[reducible] def cl98 : List (Nat × CT) := []
@[reducible] def ann98 (b : Bool) : Nat → Option (St → Ann) := fun _ => none
set_option maxRecDepth 100000 in
theorem f98_vc (b : Bool) :
    br b (([] : List Go.Eng.Res) = [] ∧ Ent.one (SV.c (SC.v (Value.int IntKind.i64 (if b = true then (1 : Int) else (0 : Int))))) = Ent.one (SV.c (SC.v (Value.int IntKind.i64 (1 : Int))))) (([] : List Go.Eng.Res) = [] ∧ Ent.one (SV.c (SC.v (Value.int IntKind.i64 (if b = true then (1 : Int) else (0 : Int))))) = Ent.one (SV.c (SC.v (Value.int IntKind.i64 (0 : Int))))) := by
  rw [br_iff]
  cases b <;> simp
set_option maxHeartbeats 2000000 in
set_option maxRecDepth 100000 in
theorem f98_met : Go.Eng.Met Tryz.prog cx0.gd 98 ctrTru :=
  met_of (cx := cx0) (n := 4) (cl := cl98) (by kernel_rfl) tis_ok trivial Tryz.func98 (by kernel_rfl) (by kernel_rfl) rfl (by kernel_rfl) (by kernel_rfl) fun d hd => by
    obtain ⟨b, ⟨⟩⟩ := d
    exact ex_of (ann98 b) (f98_vc b) (by kernel_rfl)
@[reducible] def ctBit : CT := { ps := [.int .i64, .int .i64, .arr 4 (.int .i64)], pre := fun d => (-2147483648 ≤ d.1 ∧ d.1 ≤ 2147483647) ∧ (-2147483648 ≤ d.2.1 ∧ d.2.1 ≤ 2147483647) ∧ (∀ v ∈ d.2.2.1, v = 0 ∨ v = 1), res := fun d => ([], .one (.c (.v (.int .i64 (wrapS (bitsN (d.1 % 4294967296).toNat (d.2.1 % 4294967296).toNat d.2.2.1 32)))))) }
@[reducible] def cl97 : List (Nat × CT) := [(96, ctrWrap)]
@[reducible] def ann97 (x : Int) (y : Int) (rs : List Int) : Nat → Option (St → Ann) := fun k => match k with
  | 8 => some fun _ => .inv { α := Nat, slots := fun i => [(9, .c (.v (.int .i64 i))), (7, .c (.v (.int .i64 (bitsN (x % 4294967296).toNat (y % 4294967296).toNat rs i)))), (8, .c (.v (.int .i64 ((2 ^ i : Nat) : Int)))), (0, .c (.v (.int .i64 (((x % 4294967296).toNat / 2 ^ i : Nat) : Int)))), (1, .c (.v (.int .i64 (((y % 4294967296).toNat / 2 ^ i : Nat) : Int))))], res := fun _ => [], inv := fun i => i ≤ 32, meas := fun i => 32 - i }
  | _ => none
@[reducible] def il97 : List (Nat × IP) := []
@[reducible] def hl97 : List (Nat × Nat × CT) := []
@[reducible] def ml97 : List (Nat × MK) := []
set_option maxRecDepth 100000 in
theorem f97_vc (x : Int) (y : Int) (rs : List Int) (hpre : ctBit.pre (x, y, rs, ())) :
    br (decide (x < (0 : Int))) (InR IntKind.i64 (x + (4294967296 : Int)) ∧ br (decide (y < (0 : Int))) (InR IntKind.i64 (y + (4294967296 : Int)) ∧ (∃ x_1, x_1 ≤ (32 : Nat) ∧ (SV.c (SC.v (Value.int IntKind.i64 (0 : Int))) = SV.c (SC.v (Value.int IntKind.i64 (↑x_1 : Int))) ∧ SV.c (SC.v (Value.int IntKind.i64 (0 : Int))) = SV.c (SC.v (Value.int IntKind.i64 (bitsN (x % (4294967296 : Int)).toNat (y % (4294967296 : Int)).toNat rs x_1))) ∧ SV.c (SC.v (Value.int IntKind.i64 (1 : Int))) = SV.c (SC.v (Value.int IntKind.i64 (↑((2 : Nat) ^ x_1) : Int))) ∧ SV.c (SC.v (Value.int IntKind.i64 (x + (4294967296 : Int)))) = SV.c (SC.v (Value.int IntKind.i64 (↑((x % (4294967296 : Int)).toNat / (2 : Nat) ^ x_1) : Int))) ∧ SV.c (SC.v (Value.int IntKind.i64 (y + (4294967296 : Int)))) = SV.c (SC.v (Value.int IntKind.i64 (↑((y % (4294967296 : Int)).toNat / (2 : Nat) ^ x_1) : Int))) ∧ True) ∧ [(([] : Go.Eng.Gd), Res.obj (128 : Nat) (Sh.arr (4 : Nat) I6) rs)] = [(([] : Go.Eng.Gd), Res.obj (128 : Nat) (Sh.arr (4 : Nat) I6) rs)]) ∧ ∀ (x_1 : Nat), x_1 ≤ (32 : Nat) → br (decide ((↑x_1 : Int) < (32 : Int))) ((2 : Int) ≠ (0 : Int) ∧ InR IntKind.i64 ((2 : Int) * (↑((x % (4294967296 : Int)).toNat / (2 : Nat) ^ x_1) : Int).tmod (2 : Int)) ∧ (2 : Int) ≠ (0 : Int) ∧ InR IntKind.i64 ((2 : Int) * (↑((x % (4294967296 : Int)).toNat / (2 : Nat) ^ x_1) : Int).tmod (2 : Int) + (↑((y % (4294967296 : Int)).toNat / (2 : Nat) ^ x_1) : Int).tmod (2 : Int)) ∧ ((0 : Int) ≤ (2 : Int) * (↑((x % (4294967296 : Int)).toNat / (2 : Nat) ^ x_1) : Int).tmod (2 : Int) + (↑((y % (4294967296 : Int)).toNat / (2 : Nat) ^ x_1) : Int).tmod (2 : Int) ∧ (2 : Int) * (↑((x % (4294967296 : Int)).toNat / (2 : Nat) ^ x_1) : Int).tmod (2 : Int) + (↑((y % (4294967296 : Int)).toNat / (2 : Nat) ^ x_1) : Int).tmod (2 : Int) < (4 : Int)) ∧ ((2 : Int) * (↑((x % (4294967296 : Int)).toNat / (2 : Nat) ^ x_1) : Int).tmod (2 : Int) + (↑((y % (4294967296 : Int)).toNat / (2 : Nat) ^ x_1) : Int).tmod (2 : Int)).toNat < (4 : Nat) ∧ ∀ (d : Int), rs[((2 : Int) * (↑((x % (4294967296 : Int)).toNat / (2 : Nat) ^ x_1) : Int).tmod (2 : Int) + (↑((y % (4294967296 : Int)).toNat / (2 : Nat) ^ x_1) : Int).tmod (2 : Int)).toNat]? = some d → InR IntKind.i64 ((↑((2 : Nat) ^ x_1) : Int) * d) ∧ InR IntKind.i64 (bitsN (x % (4294967296 : Int)).toNat (y % (4294967296 : Int)).toNat rs x_1 + (↑((2 : Nat) ^ x_1) : Int) * d) ∧ (2 : Int) ≠ (0 : Int) ∧ InR IntKind.i64 ((↑((x % (4294967296 : Int)).toNat / (2 : Nat) ^ x_1) : Int).tdiv (2 : Int)) ∧ (2 : Int) ≠ (0 : Int) ∧ InR IntKind.i64 ((↑((y % (4294967296 : Int)).toNat / (2 : Nat) ^ x_1) : Int).tdiv (2 : Int)) ∧ InR IntKind.i64 ((2 : Int) * (↑((2 : Nat) ^ x_1) : Int)) ∧ InR IntKind.i64 ((↑x_1 : Int) + (1 : Int)) ∧ ∃ x', x' ≤ (32 : Nat) ∧ (SV.c (SC.v (Value.int IntKind.i64 ((↑x_1 : Int) + (1 : Int)))) = SV.c (SC.v (Value.int IntKind.i64 (↑x' : Int))) ∧ SV.c (SC.v (Value.int IntKind.i64 (bitsN (x % (4294967296 : Int)).toNat (y % (4294967296 : Int)).toNat rs x_1 + (↑((2 : Nat) ^ x_1) : Int) * d))) = SV.c (SC.v (Value.int IntKind.i64 (bitsN (x % (4294967296 : Int)).toNat (y % (4294967296 : Int)).toNat rs x'))) ∧ SV.c (SC.v (Value.int IntKind.i64 ((2 : Int) * (↑((2 : Nat) ^ x_1) : Int)))) = SV.c (SC.v (Value.int IntKind.i64 (↑((2 : Nat) ^ x') : Int))) ∧ SV.c (SC.v (Value.int IntKind.i64 ((↑((x % (4294967296 : Int)).toNat / (2 : Nat) ^ x_1) : Int).tdiv (2 : Int)))) = SV.c (SC.v (Value.int IntKind.i64 (↑((x % (4294967296 : Int)).toNat / (2 : Nat) ^ x') : Int))) ∧ SV.c (SC.v (Value.int IntKind.i64 ((↑((y % (4294967296 : Int)).toNat / (2 : Nat) ^ x_1) : Int).tdiv (2 : Int)))) = SV.c (SC.v (Value.int IntKind.i64 (↑((y % (4294967296 : Int)).toNat / (2 : Nat) ^ x') : Int))) ∧ True) ∧ [(([] : Go.Eng.Gd), Res.obj (128 : Nat) (Sh.arr (4 : Nat) I6) rs)] = [(([] : Go.Eng.Gd), Res.obj (128 : Nat) (Sh.arr (4 : Nat) I6) rs)] ∧ (32 : Nat) - x' < (32 : Nat) - x_1) (True ∧ ([] : List Go.Eng.Res) = [] ∧ Ent.one (SV.c (SC.v (Value.int IntKind.i64 (wrapS (bitsN (Int.toNat (x % (4294967296 : I6.den))) (Int.toNat (y % (4294967296 : I6.den))) rs (32 : Nat)))))) = Ent.one (SV.c (SC.v (Value.int IntKind.i64 (wrapS (bitsN (x % (4294967296 : Int)).toNat (y % (4294967296 : Int)).toNat rs x_1))))))) ((∃ x_1, x_1 ≤ (32 : Nat) ∧ (SV.c (SC.v (Value.int IntKind.i64 (0 : Int))) = SV.c (SC.v (Value.int IntKind.i64 (↑x_1 : Int))) ∧ SV.c (SC.v (Value.int IntKind.i64 (0 : Int))) = SV.c (SC.v (Value.int IntKind.i64 (bitsN (x % (4294967296 : Int)).toNat (y % (4294967296 : Int)).toNat rs x_1))) ∧ SV.c (SC.v (Value.int IntKind.i64 (1 : Int))) = SV.c (SC.v (Value.int IntKind.i64 (↑((2 : Nat) ^ x_1) : Int))) ∧ SV.c (SC.v (Value.int IntKind.i64 (x + (4294967296 : Int)))) = SV.c (SC.v (Value.int IntKind.i64 (↑((x % (4294967296 : Int)).toNat / (2 : Nat) ^ x_1) : Int))) ∧ SV.c (SC.v (Value.int IntKind.i64 y)) = SV.c (SC.v (Value.int IntKind.i64 (↑((y % (4294967296 : Int)).toNat / (2 : Nat) ^ x_1) : Int))) ∧ True) ∧ [(([] : Go.Eng.Gd), Res.obj (128 : Nat) (Sh.arr (4 : Nat) I6) rs)] = [(([] : Go.Eng.Gd), Res.obj (128 : Nat) (Sh.arr (4 : Nat) I6) rs)]) ∧ ∀ (x_1 : Nat), x_1 ≤ (32 : Nat) → br (decide ((↑x_1 : Int) < (32 : Int))) ((2 : Int) ≠ (0 : Int) ∧ InR IntKind.i64 ((2 : Int) * (↑((x % (4294967296 : Int)).toNat / (2 : Nat) ^ x_1) : Int).tmod (2 : Int)) ∧ (2 : Int) ≠ (0 : Int) ∧ InR IntKind.i64 ((2 : Int) * (↑((x % (4294967296 : Int)).toNat / (2 : Nat) ^ x_1) : Int).tmod (2 : Int) + (↑((y % (4294967296 : Int)).toNat / (2 : Nat) ^ x_1) : Int).tmod (2 : Int)) ∧ ((0 : Int) ≤ (2 : Int) * (↑((x % (4294967296 : Int)).toNat / (2 : Nat) ^ x_1) : Int).tmod (2 : Int) + (↑((y % (4294967296 : Int)).toNat / (2 : Nat) ^ x_1) : Int).tmod (2 : Int) ∧ (2 : Int) * (↑((x % (4294967296 : Int)).toNat / (2 : Nat) ^ x_1) : Int).tmod (2 : Int) + (↑((y % (4294967296 : Int)).toNat / (2 : Nat) ^ x_1) : Int).tmod (2 : Int) < (4 : Int)) ∧ ((2 : Int) * (↑((x % (4294967296 : Int)).toNat / (2 : Nat) ^ x_1) : Int).tmod (2 : Int) + (↑((y % (4294967296 : Int)).toNat / (2 : Nat) ^ x_1) : Int).tmod (2 : Int)).toNat < (4 : Nat) ∧ ∀ (d : Int), rs[((2 : Int) * (↑((x % (4294967296 : Int)).toNat / (2 : Nat) ^ x_1) : Int).tmod (2 : Int) + (↑((y % (4294967296 : Int)).toNat / (2 : Nat) ^ x_1) : Int).tmod (2 : Int)).toNat]? = some d → InR IntKind.i64 ((↑((2 : Nat) ^ x_1) : Int) * d) ∧ InR IntKind.i64 (bitsN (x % (4294967296 : Int)).toNat (y % (4294967296 : Int)).toNat rs x_1 + (↑((2 : Nat) ^ x_1) : Int) * d) ∧ (2 : Int) ≠ (0 : Int) ∧ InR IntKind.i64 ((↑((x % (4294967296 : Int)).toNat / (2 : Nat) ^ x_1) : Int).tdiv (2 : Int)) ∧ (2 : Int) ≠ (0 : Int) ∧ InR IntKind.i64 ((↑((y % (4294967296 : Int)).toNat / (2 : Nat) ^ x_1) : Int).tdiv (2 : Int)) ∧ InR IntKind.i64 ((2 : Int) * (↑((2 : Nat) ^ x_1) : Int)) ∧ InR IntKind.i64 ((↑x_1 : Int) + (1 : Int)) ∧ ∃ x', x' ≤ (32 : Nat) ∧ (SV.c (SC.v (Value.int IntKind.i64 ((↑x_1 : Int) + (1 : Int)))) = SV.c (SC.v (Value.int IntKind.i64 (↑x' : Int))) ∧ SV.c (SC.v (Value.int IntKind.i64 (bitsN (x % (4294967296 : Int)).toNat (y % (4294967296 : Int)).toNat rs x_1 + (↑((2 : Nat) ^ x_1) : Int) * d))) = SV.c (SC.v (Value.int IntKind.i64 (bitsN (x % (4294967296 : Int)).toNat (y % (4294967296 : Int)).toNat rs x'))) ∧ SV.c (SC.v (Value.int IntKind.i64 ((2 : Int) * (↑((2 : Nat) ^ x_1) : Int)))) = SV.c (SC.v (Value.int IntKind.i64 (↑((2 : Nat) ^ x') : Int))) ∧ SV.c (SC.v (Value.int IntKind.i64 ((↑((x % (4294967296 : Int)).toNat / (2 : Nat) ^ x_1) : Int).tdiv (2 : Int)))) = SV.c (SC.v (Value.int IntKind.i64 (↑((x % (4294967296 : Int)).toNat / (2 : Nat) ^ x') : Int))) ∧ SV.c (SC.v (Value.int IntKind.i64 ((↑((y % (4294967296 : Int)).toNat / (2 : Nat) ^ x_1) : Int).tdiv (2 : Int)))) = SV.c (SC.v (Value.int IntKind.i64 (↑((y % (4294967296 : Int)).toNat / (2 : Nat) ^ x') : Int))) ∧ True) ∧ [(([] : Go.Eng.Gd), Res.obj (128 : Nat) (Sh.arr (4 : Nat) I6) rs)] = [(([] : Go.Eng.Gd), Res.obj (128 : Nat) (Sh.arr (4 : Nat) I6) rs)] ∧ (32 : Nat) - x' < (32 : Nat) - x_1) (True ∧ ([] : List Go.Eng.Res) = [] ∧ Ent.one (SV.c (SC.v (Value.int IntKind.i64 (wrapS (bitsN (Int.toNat (x % (4294967296 : I6.den))) (Int.toNat (y % (4294967296 : I6.den))) rs (32 : Nat)))))) = Ent.one (SV.c (SC.v (Value.int IntKind.i64 (wrapS (bitsN (x % (4294967296 : Int)).toNat (y % (4294967296 : Int)).toNat rs x_1)))))))) (br (decide (y < (0 : Int))) (InR IntKind.i64 (y + (4294967296 : Int)) ∧ (∃ x_1, x_1 ≤ (32 : Nat) ∧ (SV.c (SC.v (Value.int IntKind.i64 (0 : Int))) = SV.c (SC.v (Value.int IntKind.i64 (↑x_1 : Int))) ∧ SV.c (SC.v (Value.int IntKind.i64 (0 : Int))) = SV.c (SC.v (Value.int IntKind.i64 (bitsN (x % (4294967296 : Int)).toNat (y % (4294967296 : Int)).toNat rs x_1))) ∧ SV.c (SC.v (Value.int IntKind.i64 (1 : Int))) = SV.c (SC.v (Value.int IntKind.i64 (↑((2 : Nat) ^ x_1) : Int))) ∧ SV.c (SC.v (Value.int IntKind.i64 x)) = SV.c (SC.v (Value.int IntKind.i64 (↑((x % (4294967296 : Int)).toNat / (2 : Nat) ^ x_1) : Int))) ∧ SV.c (SC.v (Value.int IntKind.i64 (y + (4294967296 : Int)))) = SV.c (SC.v (Value.int IntKind.i64 (↑((y % (4294967296 : Int)).toNat / (2 : Nat) ^ x_1) : Int))) ∧ True) ∧ [(([] : Go.Eng.Gd), Res.obj (128 : Nat) (Sh.arr (4 : Nat) I6) rs)] = [(([] : Go.Eng.Gd), Res.obj (128 : Nat) (Sh.arr (4 : Nat) I6) rs)]) ∧ ∀ (x_1 : Nat), x_1 ≤ (32 : Nat) → br (decide ((↑x_1 : Int) < (32 : Int))) ((2 : Int) ≠ (0 : Int) ∧ InR IntKind.i64 ((2 : Int) * (↑((x % (4294967296 : Int)).toNat / (2 : Nat) ^ x_1) : Int).tmod (2 : Int)) ∧ (2 : Int) ≠ (0 : Int) ∧ InR IntKind.i64 ((2 : Int) * (↑((x % (4294967296 : Int)).toNat / (2 : Nat) ^ x_1) : Int).tmod (2 : Int) + (↑((y % (4294967296 : Int)).toNat / (2 : Nat) ^ x_1) : Int).tmod (2 : Int)) ∧ ((0 : Int) ≤ (2 : Int) * (↑((x % (4294967296 : Int)).toNat / (2 : Nat) ^ x_1) : Int).tmod (2 : Int) + (↑((y % (4294967296 : Int)).toNat / (2 : Nat) ^ x_1) : Int).tmod (2 : Int) ∧ (2 : Int) * (↑((x % (4294967296 : Int)).toNat / (2 : Nat) ^ x_1) : Int).tmod (2 : Int) + (↑((y % (4294967296 : Int)).toNat / (2 : Nat) ^ x_1) : Int).tmod (2 : Int) < (4 : Int)) ∧ ((2 : Int) * (↑((x % (4294967296 : Int)).toNat / (2 : Nat) ^ x_1) : Int).tmod (2 : Int) + (↑((y % (4294967296 : Int)).toNat / (2 : Nat) ^ x_1) : Int).tmod (2 : Int)).toNat < (4 : Nat) ∧ ∀ (d : Int), rs[((2 : Int) * (↑((x % (4294967296 : Int)).toNat / (2 : Nat) ^ x_1) : Int).tmod (2 : Int) + (↑((y % (4294967296 : Int)).toNat / (2 : Nat) ^ x_1) : Int).tmod (2 : Int)).toNat]? = some d → InR IntKind.i64 ((↑((2 : Nat) ^ x_1) : Int) * d) ∧ InR IntKind.i64 (bitsN (x % (4294967296 : Int)).toNat (y % (4294967296 : Int)).toNat rs x_1 + (↑((2 : Nat) ^ x_1) : Int) * d) ∧ (2 : Int) ≠ (0 : Int) ∧ InR IntKind.i64 ((↑((x % (4294967296 : Int)).toNat / (2 : Nat) ^ x_1) : Int).tdiv (2 : Int)) ∧ (2 : Int) ≠ (0 : Int) ∧ InR IntKind.i64 ((↑((y % (4294967296 : Int)).toNat / (2 : Nat) ^ x_1) : Int).tdiv (2 : Int)) ∧ InR IntKind.i64 ((2 : Int) * (↑((2 : Nat) ^ x_1) : Int)) ∧ InR IntKind.i64 ((↑x_1 : Int) + (1 : Int)) ∧ ∃ x', x' ≤ (32 : Nat) ∧ (SV.c (SC.v (Value.int IntKind.i64 ((↑x_1 : Int) + (1 : Int)))) = SV.c (SC.v (Value.int IntKind.i64 (↑x' : Int))) ∧ SV.c (SC.v (Value.int IntKind.i64 (bitsN (x % (4294967296 : Int)).toNat (y % (4294967296 : Int)).toNat rs x_1 + (↑((2 : Nat) ^ x_1) : Int) * d))) = SV.c (SC.v (Value.int IntKind.i64 (bitsN (x % (4294967296 : Int)).toNat (y % (4294967296 : Int)).toNat rs x'))) ∧ SV.c (SC.v (Value.int IntKind.i64 ((2 : Int) * (↑((2 : Nat) ^ x_1) : Int)))) = SV.c (SC.v (Value.int IntKind.i64 (↑((2 : Nat) ^ x') : Int))) ∧ SV.c (SC.v (Value.int IntKind.i64 ((↑((x % (4294967296 : Int)).toNat / (2 : Nat) ^ x_1) : Int).tdiv (2 : Int)))) = SV.c (SC.v (Value.int IntKind.i64 (↑((x % (4294967296 : Int)).toNat / (2 : Nat) ^ x') : Int))) ∧ SV.c (SC.v (Value.int IntKind.i64 ((↑((y % (4294967296 : Int)).toNat / (2 : Nat) ^ x_1) : Int).tdiv (2 : Int)))) = SV.c (SC.v (Value.int IntKind.i64 (↑((y % (4294967296 : Int)).toNat / (2 : Nat) ^ x') : Int))) ∧ True) ∧ [(([] : Go.Eng.Gd), Res.obj (128 : Nat) (Sh.arr (4 : Nat) I6) rs)] = [(([] : Go.Eng.Gd), Res.obj (128 : Nat) (Sh.arr (4 : Nat) I6) rs)] ∧ (32 : Nat) - x' < (32 : Nat) - x_1) (True ∧ ([] : List Go.Eng.Res) = [] ∧ Ent.one (SV.c (SC.v (Value.int IntKind.i64 (wrapS (bitsN (Int.toNat (x % (4294967296 : I6.den))) (Int.toNat (y % (4294967296 : I6.den))) rs (32 : Nat)))))) = Ent.one (SV.c (SC.v (Value.int IntKind.i64 (wrapS (bitsN (x % (4294967296 : Int)).toNat (y % (4294967296 : Int)).toNat rs x_1))))))) ((∃ x_1, x_1 ≤ (32 : Nat) ∧ (SV.c (SC.v (Value.int IntKind.i64 (0 : Int))) = SV.c (SC.v (Value.int IntKind.i64 (↑x_1 : Int))) ∧ SV.c (SC.v (Value.int IntKind.i64 (0 : Int))) = SV.c (SC.v (Value.int IntKind.i64 (bitsN (x % (4294967296 : Int)).toNat (y % (4294967296 : Int)).toNat rs x_1))) ∧ SV.c (SC.v (Value.int IntKind.i64 (1 : Int))) = SV.c (SC.v (Value.int IntKind.i64 (↑((2 : Nat) ^ x_1) : Int))) ∧ SV.c (SC.v (Value.int IntKind.i64 x)) = SV.c (SC.v (Value.int IntKind.i64 (↑((x % (4294967296 : Int)).toNat / (2 : Nat) ^ x_1) : Int))) ∧ SV.c (SC.v (Value.int IntKind.i64 y)) = SV.c (SC.v (Value.int IntKind.i64 (↑((y % (4294967296 : Int)).toNat / (2 : Nat) ^ x_1) : Int))) ∧ True) ∧ [(([] : Go.Eng.Gd), Res.obj (128 : Nat) (Sh.arr (4 : Nat) I6) rs)] = [(([] : Go.Eng.Gd), Res.obj (128 : Nat) (Sh.arr (4 : Nat) I6) rs)]) ∧ ∀ (x_1 : Nat), x_1 ≤ (32 : Nat) → br (decide ((↑x_1 : Int) < (32 : Int))) ((2 : Int) ≠ (0 : Int) ∧ InR IntKind.i64 ((2 : Int) * (↑((x % (4294967296 : Int)).toNat / (2 : Nat) ^ x_1) : Int).tmod (2 : Int)) ∧ (2 : Int) ≠ (0 : Int) ∧ InR IntKind.i64 ((2 : Int) * (↑((x % (4294967296 : Int)).toNat / (2 : Nat) ^ x_1) : Int).tmod (2 : Int) + (↑((y % (4294967296 : Int)).toNat / (2 : Nat) ^ x_1) : Int).tmod (2 : Int)) ∧ ((0 : Int) ≤ (2 : Int) * (↑((x % (4294967296 : Int)).toNat / (2 : Nat) ^ x_1) : Int).tmod (2 : Int) + (↑((y % (4294967296 : Int)).toNat / (2 : Nat) ^ x_1) : Int).tmod (2 : Int) ∧ (2 : Int) * (↑((x % (4294967296 : Int)).toNat / (2 : Nat) ^ x_1) : Int).tmod (2 : Int) + (↑((y % (4294967296 : Int)).toNat / (2 : Nat) ^ x_1) : Int).tmod (2 : Int) < (4 : Int)) ∧ ((2 : Int) * (↑((x % (4294967296 : Int)).toNat / (2 : Nat) ^ x_1) : Int).tmod (2 : Int) + (↑((y % (4294967296 : Int)).toNat / (2 : Nat) ^ x_1) : Int).tmod (2 : Int)).toNat < (4 : Nat) ∧ ∀ (d : Int), rs[((2 : Int) * (↑((x % (4294967296 : Int)).toNat / (2 : Nat) ^ x_1) : Int).tmod (2 : Int) + (↑((y % (4294967296 : Int)).toNat / (2 : Nat) ^ x_1) : Int).tmod (2 : Int)).toNat]? = some d → InR IntKind.i64 ((↑((2 : Nat) ^ x_1) : Int) * d) ∧ InR IntKind.i64 (bitsN (x % (4294967296 : Int)).toNat (y % (4294967296 : Int)).toNat rs x_1 + (↑((2 : Nat) ^ x_1) : Int) * d) ∧ (2 : Int) ≠ (0 : Int) ∧ InR IntKind.i64 ((↑((x % (4294967296 : Int)).toNat / (2 : Nat) ^ x_1) : Int).tdiv (2 : Int)) ∧ (2 : Int) ≠ (0 : Int) ∧ InR IntKind.i64 ((↑((y % (4294967296 : Int)).toNat / (2 : Nat) ^ x_1) : Int).tdiv (2 : Int)) ∧ InR IntKind.i64 ((2 : Int) * (↑((2 : Nat) ^ x_1) : Int)) ∧ InR IntKind.i64 ((↑x_1 : Int) + (1 : Int)) ∧ ∃ x', x' ≤ (32 : Nat) ∧ (SV.c (SC.v (Value.int IntKind.i64 ((↑x_1 : Int) + (1 : Int)))) = SV.c (SC.v (Value.int IntKind.i64 (↑x' : Int))) ∧ SV.c (SC.v (Value.int IntKind.i64 (bitsN (x % (4294967296 : Int)).toNat (y % (4294967296 : Int)).toNat rs x_1 + (↑((2 : Nat) ^ x_1) : Int) * d))) = SV.c (SC.v (Value.int IntKind.i64 (bitsN (x % (4294967296 : Int)).toNat (y % (4294967296 : Int)).toNat rs x'))) ∧ SV.c (SC.v (Value.int IntKind.i64 ((2 : Int) * (↑((2 : Nat) ^ x_1) : Int)))) = SV.c (SC.v (Value.int IntKind.i64 (↑((2 : Nat) ^ x') : Int))) ∧ SV.c (SC.v (Value.int IntKind.i64 ((↑((x % (4294967296 : Int)).toNat / (2 : Nat) ^ x_1) : Int).tdiv (2 : Int)))) = SV.c (SC.v (Value.int IntKind.i64 (↑((x % (4294967296 : Int)).toNat / (2 : Nat) ^ x') : Int))) ∧ SV.c (SC.v (Value.int IntKind.i64 ((↑((y % (4294967296 : Int)).toNat / (2 : Nat) ^ x_1) : Int).tdiv (2 : Int)))) = SV.c (SC.v (Value.int IntKind.i64 (↑((y % (4294967296 : Int)).toNat / (2 : Nat) ^ x') : Int))) ∧ True) ∧ [(([] : Go.Eng.Gd), Res.obj (128 : Nat) (Sh.arr (4 : Nat) I6) rs)] = [(([] : Go.Eng.Gd), Res.obj (128 : Nat) (Sh.arr (4 : Nat) I6) rs)] ∧ (32 : Nat) - x' < (32 : Nat) - x_1) (True ∧ ([] : List Go.Eng.Res) = [] ∧ Ent.one (SV.c (SC.v (Value.int IntKind.i64 (wrapS (bitsN (Int.toNat (x % (4294967296 : I6.den))) (Int.toNat (y % (4294967296 : I6.den))) rs (32 : Nat)))))) = Ent.one (SV.c (SC.v (Value.int IntKind.i64 (wrapS (bitsN (x % (4294967296 : Int)).toNat (y % (4294967296 : Int)).toNat rs x_1)))))))) := by
  obtain ⟨hx, hy, hv⟩ : (-2147483648 ≤ x ∧ x ≤ 2147483647) ∧ (-2147483648 ≤ y ∧ y ≤ 2147483647) ∧ (∀ v ∈ rs, v = 0 ∨ v = 1) := hpre
  have vi : ∀ {a b : Int}, a = b → SV.c (SC.v (Value.int .i64 a)) = SV.c (SC.v (Value.int .i64 b)) := fun h => by rw [h]
  have x0 : ∀ (z : Int), ((z % 4294967296).toNat / 2 ^ 0 : Nat) = (z % 4294967296).toNat := fun z => by simp
  have step : ∀ i : Nat, i ≤ 32 → br (decide ((i : Int) < 32)) ((2 : Int) ≠ 0 ∧ InR .i64 (2 * ((((x % 4294967296).toNat / 2 ^ i : Nat) : Int)).tmod 2) ∧ (2 : Int) ≠ 0 ∧ InR .i64 (2 * ((((x % 4294967296).toNat / 2 ^ i : Nat) : Int)).tmod 2 + ((((y % 4294967296).toNat / 2 ^ i : Nat) : Int)).tmod 2) ∧ (0 ≤ 2 * ((((x % 4294967296).toNat / 2 ^ i : Nat) : Int)).tmod 2 + ((((y % 4294967296).toNat / 2 ^ i : Nat) : Int)).tmod 2 ∧ 2 * ((((x % 4294967296).toNat / 2 ^ i : Nat) : Int)).tmod 2 + ((((y % 4294967296).toNat / 2 ^ i : Nat) : Int)).tmod 2 < 4) ∧ (2 * ((((x % 4294967296).toNat / 2 ^ i : Nat) : Int)).tmod 2 + ((((y % 4294967296).toNat / 2 ^ i : Nat) : Int)).tmod 2).toNat < 4 ∧
      ∀ (d : Int), rs[(2 * ((((x % 4294967296).toNat / 2 ^ i : Nat) : Int)).tmod 2 + ((((y % 4294967296).toNat / 2 ^ i : Nat) : Int)).tmod 2).toNat]? = some d → InR .i64 (((2 ^ i : Nat) : Int) * d) ∧ InR .i64 (bitsN (x % 4294967296).toNat (y % 4294967296).toNat rs i + ((2 ^ i : Nat) : Int) * d) ∧ (2 : Int) ≠ 0 ∧ InR .i64 ((((x % 4294967296).toNat / 2 ^ i : Nat) : Int).tdiv 2) ∧ (2 : Int) ≠ 0 ∧ InR .i64 ((((y % 4294967296).toNat / 2 ^ i : Nat) : Int).tdiv 2) ∧ InR .i64 (2 * ((2 ^ i : Nat) : Int)) ∧ InR .i64 ((i : Int) + 1) ∧
        ∃ x' : Nat, x' ≤ 32 ∧ (SV.c (SC.v (Value.int .i64 ((i : Int) + 1))) = SV.c (SC.v (Value.int .i64 (x' : Int))) ∧ SV.c (SC.v (Value.int .i64 (bitsN (x % 4294967296).toNat (y % 4294967296).toNat rs i + ((2 ^ i : Nat) : Int) * d))) = SV.c (SC.v (Value.int .i64 (bitsN (x % 4294967296).toNat (y % 4294967296).toNat rs x'))) ∧ SV.c (SC.v (Value.int .i64 (2 * ((2 ^ i : Nat) : Int)))) = SV.c (SC.v (Value.int .i64 ((2 ^ x' : Nat) : Int))) ∧ SV.c (SC.v (Value.int .i64 ((((x % 4294967296).toNat / 2 ^ i : Nat) : Int).tdiv 2))) = SV.c (SC.v (Value.int .i64 (((x % 4294967296).toNat / 2 ^ x' : Nat) : Int))) ∧ SV.c (SC.v (Value.int .i64 ((((y % 4294967296).toNat / 2 ^ i : Nat) : Int).tdiv 2))) = SV.c (SC.v (Value.int .i64 (((y % 4294967296).toNat / 2 ^ x' : Nat) : Int))) ∧ True) ∧ [(([] : Go.Eng.Gd), Res.obj 128 (.arr 4 (.int .i64)) rs)] = [(([] : Go.Eng.Gd), Res.obj 128 (.arr 4 (.int .i64)) rs)] ∧ 32 - x' < 32 - i) (True ∧ ([] : List Go.Eng.Res) = [] ∧ Ent.one (SV.c (SC.v (Value.int .i64 (wrapS (bitsN (x % 4294967296).toNat (y % 4294967296).toNat rs 32))))) = Ent.one (SV.c (SC.v (Value.int .i64 (wrapS (bitsN (x % 4294967296).toNat (y % 4294967296).toNat rs i)))))) := by
    intro i hi
    have hr := bitsN_rng (X := (x % 4294967296).toNat) (Y := (y % 4294967296).toNat) hv i
    have hX : (x % 4294967296).toNat < 4294967296 := by omega
    have hY : (y % 4294967296).toNat < 4294967296 := by omega
    have hb : bitsN (x % 4294967296).toNat (y % 4294967296).toNat rs (i + 1) = bitsN (x % 4294967296).toNat (y % 4294967296).toNat rs i + 2 ^ i * rs.getD (2 * ((x % 4294967296).toNat / 2 ^ i % 2) + (y % 4294967296).toNat / 2 ^ i % 2) 0 := rfl
    generalize (x % 4294967296).toNat = X at *
    generalize (y % 4294967296).toNat = Y at *
    have hc : (2 : Int) ^ i = ((2 ^ i : Nat) : Int) := by push_cast; rfl
    rw [hc] at hr hb
    have hu : X / 2 ^ (i + 1) = X / 2 ^ i / 2 := by rw [Nat.pow_succ, Nat.div_div_eq_div_mul]
    have hw : Y / 2 ^ (i + 1) = Y / 2 ^ i / 2 := by rw [Nat.pow_succ, Nat.div_div_eq_div_mul]
    have lx : X / 2 ^ i ≤ X := Nat.div_le_self _ _
    have ly : Y / 2 ^ i ≤ Y := Nat.div_le_self _ _
    have hp1 : 2 ^ (i + 1) = 2 * 2 ^ i := by rw [Nat.pow_succ]; omega
    refine br_dec.2 ⟨fun h => ?_, fun h => ⟨trivial, rfl, ?_⟩⟩
    · have hp : 2 ^ i ≤ 2147483648 := by
        have := Nat.pow_le_pow_right (n := 2) (by omega) (show i ≤ 31 by omega)
        simpa using this
      generalize X / 2 ^ i = u at *
      generalize Y / 2 ^ i = w at *
      have t1 : ((u : Int)).tmod 2 = ((u % 2 : Nat) : Int) := by rw [Int.tmod_eq_emod_of_nonneg (by omega)]; omega
      have t2 : ((w : Int)).tmod 2 = ((w % 2 : Nat) : Int) := by rw [Int.tmod_eq_emod_of_nonneg (by omega)]; omega
      have t3 : ((u : Int)).tdiv 2 = ((u / 2 : Nat) : Int) := by rw [Int.tdiv_eq_ediv_of_nonneg (by omega)]; omega
      have t4 : ((w : Int)).tdiv 2 = ((w / 2 : Nat) : Int) := by rw [Int.tdiv_eq_ediv_of_nonneg (by omega)]; omega
      rw [t1, t2, t3, t4]
      have ei : (2 * ((u % 2 : Nat) : Int) + ((w % 2 : Nat) : Int)).toNat = 2 * (u % 2) + w % 2 := by omega
      rw [ei]
      refine ⟨by decide, InR_i64.2 (by omega), by decide, InR_i64.2 (by omega), by omega, by omega, fun d hd => ?_⟩
      have hd1 := hv d (List.mem_of_getElem? hd)
      have hg : rs.getD (2 * (u % 2) + w % 2) 0 = d := by rw [List.getD_eq_getElem?_getD, hd]; rfl
      rw [hg] at hb
      have hm : ((2 ^ i : Nat) : Int) * d = 0 ∨ ((2 ^ i : Nat) : Int) * d = ((2 ^ i : Nat) : Int) := by
        rcases hd1 with e | e
        · left; rw [e]; simp
        · right; rw [e]; simp
      refine ⟨InR_i64.2 (by omega), InR_i64.2 (by omega), by decide, InR_i64.2 (by omega), by decide, InR_i64.2 (by omega), InR_i64.2 (by omega), InR_i64.2 (by omega), i + 1, by omega, ⟨rfl, vi hb.symm, vi (by rw [hp1]; omega), vi (by rw [hu]), vi (by rw [hw]), trivial⟩, rfl, by omega⟩
    · have : i = 32 := by omega
      rw [this]
  refine br_dec.2 ⟨fun h => ⟨InR_i64.2 (by omega), br_dec.2 ⟨fun h2 => ⟨InR_i64.2 (by omega), ⟨0, by omega, ⟨rfl, rfl, rfl, vi (by rw [x0]; omega), vi (by rw [x0]; omega), trivial⟩, rfl⟩, step⟩, fun h2 => ⟨⟨0, by omega, ⟨rfl, rfl, rfl, vi (by rw [x0]; omega), vi (by rw [x0]; omega), trivial⟩, rfl⟩, step⟩⟩⟩,
    fun h => br_dec.2 ⟨fun h2 => ⟨InR_i64.2 (by omega), ⟨0, by omega, ⟨rfl, rfl, rfl, vi (by rw [x0]; omega), vi (by rw [x0]; omega), trivial⟩, rfl⟩, step⟩, fun h2 => ⟨⟨0, by omega, ⟨rfl, rfl, rfl, vi (by rw [x0]; omega), vi (by rw [x0]; omega), trivial⟩, rfl⟩, step⟩⟩⟩
set_option maxHeartbeats 2000000 in
set_option maxRecDepth 100000 in
theorem f97_met : Go.Eng.Met Tryz.prog cx0.gd 97 ctBit :=
  (met_all (cx := cx0) (n := 42) (cl := cl97) (il := il97) (hl := hl97) (ml := ml97) (rc := []) (lits := []) (suf := []) (by kernel_rfl) tis_ok ⟨f96_met, trivial⟩ trivial trivial trivial Tryz.func97 (by kernel_rfl) (by kernel_rfl) rfl (by kernel_rfl) (by kernel_rfl) (by simp) fun d hd => by
    obtain ⟨x, y, rs, ⟨⟩⟩ := d
    exact ex_of (ann97 x y rs) (f97_vc x y rs hd) (by kernel_rfl)).met
@[reducible] def ctrApp : CT := { ps := [.int .i64, .int .i64, .int .i64], pre := fun d => True, res := fun d => ([], .tup [.c (.v (.int .i64 (applyS d.1 d.2.1 d.2.2.1).1)), .c (.v (.int .i64 (applyS d.1 d.2.1 d.2.2.1).2))]) }
@[reducible] def cl75 : List (Nat × CT) := [(96, ctrWrap), (98, ctrTru), (97, ctBit)]
@[reducible] def ann75 (f : Int) (a : Int) (b : Int) : Nat → Option (St → Ann) := fun _ => none
@[reducible] def il75 : List (Nat × IP) := []
@[reducible] def hl75 : List (Nat × Nat × CT) := []
@[reducible] def ml75 : List (Nat × MK) := []
set_option maxRecDepth 100000 in
theorem f75_vc (f : Int) (a : Int) (b : Int) :
    True ∧ True ∧ br (decide (f = (1 : Int))) (InR IntKind.i64 (wrapS a + wrapS b) ∧ True ∧ ([] : List Go.Eng.Res) = [] ∧ Ent.tup [SV.c (SC.v (Value.int IntKind.i64 (applyS f a b).fst)), SV.c (SC.v (Value.int IntKind.i64 (applyS f a b).snd))] = Ent.tup [SV.c (SC.v (Value.int IntKind.i64 (wrapS (wrapS a + wrapS b)))), SV.c (SC.v (Value.int IntKind.i64 (0 : Int)))]) (br (decide (f = (2 : Int))) (InR IntKind.i64 (wrapS a - wrapS b) ∧ True ∧ ([] : List Go.Eng.Res) = [] ∧ Ent.tup [SV.c (SC.v (Value.int IntKind.i64 (applyS f a b).fst)), SV.c (SC.v (Value.int IntKind.i64 (applyS f a b).snd))] = Ent.tup [SV.c (SC.v (Value.int IntKind.i64 (wrapS (wrapS a - wrapS b)))), SV.c (SC.v (Value.int IntKind.i64 (0 : Int)))]) (br (decide (f = (3 : Int))) (InR IntKind.i64 (wrapS a * wrapS b) ∧ True ∧ ([] : List Go.Eng.Res) = [] ∧ Ent.tup [SV.c (SC.v (Value.int IntKind.i64 (applyS f a b).fst)), SV.c (SC.v (Value.int IntKind.i64 (applyS f a b).snd))] = Ent.tup [SV.c (SC.v (Value.int IntKind.i64 (wrapS (wrapS a * wrapS b)))), SV.c (SC.v (Value.int IntKind.i64 (0 : Int)))]) (br (decide (f = (4 : Int))) ((((-2147483648 : I6.den) ≤ wrapS a ∧ wrapS a ≤ (2147483647 : I6.den)) ∧ ((-2147483648 : I6.den) ≤ wrapS b ∧ wrapS b ≤ (2147483647 : I6.den)) ∧ ∀ (v : Int), v ∈ [(0 : Int), (0 : Int), (0 : Int), (1 : Int)] → v = (0 : I6.den) ∨ v = (1 : I6.den)) ∧ ([] : List Go.Eng.Res) = [] ∧ Ent.tup [SV.c (SC.v (Value.int IntKind.i64 (applyS f a b).fst)), SV.c (SC.v (Value.int IntKind.i64 (applyS f a b).snd))] = Ent.tup [SV.c (SC.v (Value.int IntKind.i64 (wrapS (bitsN (Int.toNat (wrapS a % (4294967296 : I6.den))) (Int.toNat (wrapS b % (4294967296 : I6.den))) [(0 : Int), (0 : Int), (0 : Int), (1 : Int)] (32 : Nat))))), SV.c (SC.v (Value.int IntKind.i64 (0 : Int)))]) (br (decide (f = (5 : Int))) ((((-2147483648 : I6.den) ≤ wrapS a ∧ wrapS a ≤ (2147483647 : I6.den)) ∧ ((-2147483648 : I6.den) ≤ wrapS b ∧ wrapS b ≤ (2147483647 : I6.den)) ∧ ∀ (v : Int), v ∈ [(0 : Int), (1 : Int), (1 : Int), (1 : Int)] → v = (0 : I6.den) ∨ v = (1 : I6.den)) ∧ ([] : List Go.Eng.Res) = [] ∧ Ent.tup [SV.c (SC.v (Value.int IntKind.i64 (applyS f a b).fst)), SV.c (SC.v (Value.int IntKind.i64 (applyS f a b).snd))] = Ent.tup [SV.c (SC.v (Value.int IntKind.i64 (wrapS (bitsN (Int.toNat (wrapS a % (4294967296 : I6.den))) (Int.toNat (wrapS b % (4294967296 : I6.den))) [(0 : Int), (1 : Int), (1 : Int), (1 : Int)] (32 : Nat))))), SV.c (SC.v (Value.int IntKind.i64 (0 : Int)))]) (br (decide (f = (6 : Int))) ((((-2147483648 : I6.den) ≤ wrapS a ∧ wrapS a ≤ (2147483647 : I6.den)) ∧ ((-2147483648 : I6.den) ≤ wrapS b ∧ wrapS b ≤ (2147483647 : I6.den)) ∧ ∀ (v : Int), v ∈ [(0 : Int), (1 : Int), (1 : Int), (0 : Int)] → v = (0 : I6.den) ∨ v = (1 : I6.den)) ∧ ([] : List Go.Eng.Res) = [] ∧ Ent.tup [SV.c (SC.v (Value.int IntKind.i64 (applyS f a b).fst)), SV.c (SC.v (Value.int IntKind.i64 (applyS f a b).snd))] = Ent.tup [SV.c (SC.v (Value.int IntKind.i64 (wrapS (bitsN (Int.toNat (wrapS a % (4294967296 : I6.den))) (Int.toNat (wrapS b % (4294967296 : I6.den))) [(0 : Int), (1 : Int), (1 : Int), (0 : Int)] (32 : Nat))))), SV.c (SC.v (Value.int IntKind.i64 (0 : Int)))]) (br (decide (f = (7 : Int))) (True ∧ ([] : List Go.Eng.Res) = [] ∧ Ent.tup [SV.c (SC.v (Value.int IntKind.i64 (applyS f a b).fst)), SV.c (SC.v (Value.int IntKind.i64 (applyS f a b).snd))] = Ent.tup [SV.c (SC.v (Value.int IntKind.i64 (if decide (wrapS a = wrapS b) = true then (1 : Int) else (0 : Int)))), SV.c (SC.v (Value.int IntKind.i64 (0 : Int)))]) (br (decide (f = (8 : Int))) (True ∧ ([] : List Go.Eng.Res) = [] ∧ Ent.tup [SV.c (SC.v (Value.int IntKind.i64 (applyS f a b).fst)), SV.c (SC.v (Value.int IntKind.i64 (applyS f a b).snd))] = Ent.tup [SV.c (SC.v (Value.int IntKind.i64 (if (!decide (wrapS a = wrapS b)) = true then (1 : Int) else (0 : Int)))), SV.c (SC.v (Value.int IntKind.i64 (0 : Int)))]) (br (decide (f = (9 : Int))) (True ∧ ([] : List Go.Eng.Res) = [] ∧ Ent.tup [SV.c (SC.v (Value.int IntKind.i64 (applyS f a b).fst)), SV.c (SC.v (Value.int IntKind.i64 (applyS f a b).snd))] = Ent.tup [SV.c (SC.v (Value.int IntKind.i64 (if decide (wrapS a < wrapS b) = true then (1 : Int) else (0 : Int)))), SV.c (SC.v (Value.int IntKind.i64 (0 : Int)))]) (br (decide (f = (10 : Int))) (True ∧ ([] : List Go.Eng.Res) = [] ∧ Ent.tup [SV.c (SC.v (Value.int IntKind.i64 (applyS f a b).fst)), SV.c (SC.v (Value.int IntKind.i64 (applyS f a b).snd))] = Ent.tup [SV.c (SC.v (Value.int IntKind.i64 (if decide (wrapS a ≤ wrapS b) = true then (1 : Int) else (0 : Int)))), SV.c (SC.v (Value.int IntKind.i64 (0 : Int)))]) (([] : List Go.Eng.Res) = [] ∧ Ent.tup [SV.c (SC.v (Value.int IntKind.i64 (applyS f a b).fst)), SV.c (SC.v (Value.int IntKind.i64 (applyS f a b).snd))] = Ent.tup [SV.c (SC.v (Value.int IntKind.i64 (0 : Int))), SV.c (SC.v (Value.int IntKind.i64 (8 : Int)))])))))))))) := by
  have ha := wrapS_rng a
  have hb := wrapS_rng b
  have hm := mul32 ha hb
  have b1 := bits_and (x := wrapS a) (y := wrapS b)
  have b2 := bits_or (x := wrapS a) (y := wrapS b)
  have b3 := bits_xor (x := wrapS a) (y := wrapS b)
  unfold applyS
  refine ⟨trivial, trivial, br_dec.2 ⟨fun h => ⟨InR_i64.2 (by omega), trivial, rfl, by rw [if_pos h]⟩, fun n1 => br_dec.2 ⟨fun h => ⟨InR_i64.2 (by omega), trivial, rfl, by rw [if_neg n1, if_pos h]⟩, fun n2 => br_dec.2 ⟨fun h => ⟨InR_i64.2 (by omega), trivial, rfl, by rw [if_neg n1, if_neg n2, if_pos h]⟩, fun n3 => br_dec.2 ⟨fun h => ⟨⟨ha, hb, fun v hv => by simp at hv; omega⟩, rfl, by rw [if_neg n1, if_neg n2, if_neg n3, if_pos h]; exact congrArg (fun z => Ent.tup [SV.c (SC.v (Value.int .i64 z)), SV.c (SC.v (Value.int .i64 0))]) b1.symm⟩, fun n4 => br_dec.2 ⟨fun h => ⟨⟨ha, hb, fun v hv => by simp at hv; omega⟩, rfl, by rw [if_neg n1, if_neg n2, if_neg n3, if_neg n4, if_pos h]; exact congrArg (fun z => Ent.tup [SV.c (SC.v (Value.int .i64 z)), SV.c (SC.v (Value.int .i64 0))]) b2.symm⟩, fun n5 => br_dec.2 ⟨fun h => ⟨⟨ha, hb, fun v hv => by simp at hv; omega⟩, rfl, by rw [if_neg n1, if_neg n2, if_neg n3, if_neg n4, if_neg n5, if_pos h]; exact congrArg (fun z => Ent.tup [SV.c (SC.v (Value.int .i64 z)), SV.c (SC.v (Value.int .i64 0))]) b3.symm⟩, fun n6 => br_dec.2 ⟨fun h => ⟨trivial, rfl, by simp [h]⟩, fun n7 => br_dec.2 ⟨fun h => ⟨trivial, rfl, by simp [h]⟩, fun n8 => br_dec.2 ⟨fun h => ⟨trivial, rfl, by simp [h]⟩, fun n9 => br_dec.2 ⟨fun h => ⟨trivial, rfl, by simp [h]⟩, fun n10 => ⟨rfl, by simp [n1, n2, n3, n4, n5, n6, n7, n8, n9, n10]⟩⟩⟩⟩⟩⟩⟩⟩⟩⟩⟩⟩
set_option maxHeartbeats 2000000 in
set_option maxRecDepth 100000 in
theorem f75_met : Go.Eng.Met Tryz.prog cx0.gd 75 ctrApp :=
  (met_all (cx := cx0) (n := 75) (cl := cl75) (il := il75) (hl := hl75) (ml := ml75) (rc := []) (lits := []) (suf := []) (by kernel_rfl) tis_ok ⟨f96_met, f98_met, f97_met, trivial⟩ trivial trivial trivial Tryz.func75 (by kernel_rfl) (by kernel_rfl) rfl (by kernel_rfl) (by kernel_rfl) (by simp) fun d hd => by
    obtain ⟨f, a, b, ⟨⟩⟩ := d
    exact ex_of (ann75 f a b) (f75_vc f a b) (by kernel_rfl)).met
@[reducible] def ctrVis : CT := { ps := [.int .i64], pre := fun d => True, res := fun d => ([], vB (visS d.1)) }
@[reducible] def cl42 : List (Nat × CT) := []
@[reducible] def ann42 (op : Int) : Nat → Option (St → Ann) := fun _ => none
set_option maxRecDepth 100000 in
theorem f42_vc (op : Int) :
    ([] : List Go.Eng.Res) = [] ∧ Ent.one (SV.c (SC.v (Value.bool (visS op)))) = Ent.one (SV.c (SC.v (Value.bool (decide ((8 : Int) ≤ op) && decide (op ≤ (22 : Int)))))) := by
  refine ⟨rfl, ?_⟩
  rw [show visS op = (decide (8 ≤ op) && decide (op ≤ 22)) by unfold visS; rw [Bool.eq_iff_iff]; simp]
set_option maxHeartbeats 2000000 in
set_option maxRecDepth 100000 in
theorem f42_met : Go.Eng.Met Tryz.prog cx0.gd 42 ctrVis :=
  met_of (cx := cx0) (n := 9) (cl := cl42) (by kernel_rfl) tis_ok trivial Tryz.func42 (by kernel_rfl) (by kernel_rfl) rfl (by kernel_rfl) (by kernel_rfl) fun d hd => by
    obtain ⟨op, ⟨⟩⟩ := d
    exact ex_of (ann42 op) (f42_vc op) (by kernel_rfl)
@[reducible] def ctrDef : CT := { ps := [shI], pre := fun d => True, res := fun d => ([], .tup [.c (.v (.int .i64 (defS d.1).1)), .c (.v (.bool (defS d.1).2))]) }
@[reducible] def cl38 : List (Nat × CT) := [(58, ct12), (59, ct33)]
@[reducible] def ann38 (op : Int) (a : Int) (b : Int) (c : Int) (obj : Int) (n : Int) (fo : Int) (ord : Int) : Nat → Option (St → Ann) := fun _ => none
set_option maxRecDepth 100000 in
theorem f38_vc (op : Int) (a : Int) (b : Int) (c : Int) (obj : Int) (n : Int) (fo : Int) (ord : Int) :
    True ∧ ((!!decide (chkS op a b c obj n fo ord = (0 : Int))) = true → True) ∧ br (!decide (chkS op a b c obj n fo ord = (0 : Int)) || !hasF op (65 : Int)) (([] : List Go.Eng.Res) = [] ∧ Ent.tup [SV.c (SC.v (Value.int IntKind.i64 (defS (op, a, b, c, obj, n, fo, ord, ())).fst)), SV.c (SC.v (Value.bool (defS (op, a, b, c, obj, n, fo, ord, ())).snd))] = Ent.tup [SV.c (SC.v (Value.int IntKind.i64 (0 : Int))), SV.c (SC.v (Value.bool false))]) (([] : List Go.Eng.Res) = [] ∧ Ent.tup [SV.c (SC.v (Value.int IntKind.i64 (defS (op, a, b, c, obj, n, fo, ord, ())).fst)), SV.c (SC.v (Value.bool (defS (op, a, b, c, obj, n, fo, ord, ())).snd))] = Ent.tup [SV.c (SC.v (Value.int IntKind.i64 a)), SV.c (SC.v (Value.bool true))]) := by
  rw [(has_use op).1]
  refine ⟨trivial, fun _ => trivial, br_iff.2 ⟨fun h => ?_, fun h => ?_⟩⟩
  · have e : defS (op, a, b, c, obj, n, fo, ord, ()) = (0, false) := by
      unfold defS
      rw [if_pos]
      rw [Bool.or_eq_true] at h
      rcases h with q | q
      · left; simpa using q
      · right; simpa using q
    rw [e]; exact ⟨rfl, rfl⟩
  · have e : defS (op, a, b, c, obj, n, fo, ord, ()) = (a, true) := by
      unfold defS
      rw [if_neg]
      rw [Bool.or_eq_false_iff] at h
      rintro (q | q)
      · exact q (by simpa using h.1)
      · have := h.2
        rw [q] at this; cases this
    rw [e]; exact ⟨rfl, rfl⟩
set_option maxHeartbeats 2000000 in
set_option maxRecDepth 100000 in
theorem f38_met : Go.Eng.Met Tryz.prog cx0.gd 38 ctrDef :=
  met_of (cx := cx0) (n := 15) (cl := cl38) (by kernel_rfl) tis_ok ⟨f58_met, f59_met, trivial⟩ Tryz.func38 (by kernel_rfl) (by kernel_rfl) rfl (by kernel_rfl) (by kernel_rfl) fun d hd => by
    obtain ⟨⟨op, a, b, c, obj, n, fo, ord, ⟨⟩⟩, ⟨⟩⟩ := d
    exact ex_of (ann38 op a b c obj n fo ord) (f38_vc op a b c obj n fo ord) (by kernel_rfl)
@[reducible] def ctIsI : CT := { ps := [.int .i64], pre := fun d => d.1 ≤ 9223372036854775807, res := fun d => ([], vB (decide (0 ≤ depthI d.1))) }
@[reducible] def cl28 : List (Nat × CT) := []
@[reducible] def ann28 (id : Int) : Nat → Option (St → Ann) := fun k => match k with
  | 2 => some fun _ => .inv { α := Nat × Int, slots := fun x => [(3, .c (.v (.int .i64 x.1))), (0, .c (.v (.int .i64 x.2)))], res := fun _ => [], inv := fun x => x.1 ≤ 5 ∧ x.2 ≤ 9223372036854775807 ∧ depthI id = if x.2 < 0 then -1 else depthF (5 - x.1) x.1 x.2, meas := fun x => 5 - x.1 }
  | _ => none
set_option maxRecDepth 100000 in
theorem f28_vc (id : Int) (hpre : ctIsI.pre (id, ())) :
    (∃ (x : Nat × Int), (x.fst ≤ (5 : Nat) ∧ x.snd ≤ (9223372036854775807 : Int) ∧ depthI id = if x.snd < (0 : Int) then (-1 : Int) else depthF ((5 : Nat) - x.fst) (↑x.fst : Int) x.snd) ∧ (SV.c (SC.v (Value.int IntKind.i64 (0 : Int))) = SV.c (SC.v (Value.int IntKind.i64 (↑x.fst : Int))) ∧ SV.c (SC.v (Value.int IntKind.i64 id)) = SV.c (SC.v (Value.int IntKind.i64 x.snd)) ∧ True) ∧ ([] : List (Go.Eng.Gd × Go.Eng.Res)) = []) ∧ ∀ (x : Nat × Int), (x.fst ≤ (5 : Nat) ∧ x.snd ≤ (9223372036854775807 : Int) ∧ depthI id = if x.snd < (0 : Int) then (-1 : Int) else depthF ((5 : Nat) - x.fst) (↑x.fst : Int) x.snd) → br (decide ((↑x.fst : Int) ≤ (4 : Int))) (br (decide (x.snd < (0 : Int))) (([] : List Go.Eng.Res) = [] ∧ Ent.one (SV.c (SC.v (Value.bool (decide ((0 : Int) ≤ depthI id))))) = Ent.one (SV.c (SC.v (Value.bool false)))) (br (decide (x.snd < (8 : Int))) (([] : List Go.Eng.Res) = [] ∧ Ent.one (SV.c (SC.v (Value.bool (decide ((0 : Int) ≤ depthI id))))) = Ent.one (SV.c (SC.v (Value.bool true)))) ((8 : Int) ≠ (0 : Int) ∧ br (decide ((7 : Int) ≤ x.snd.tmod (8 : Int))) (([] : List Go.Eng.Res) = [] ∧ Ent.one (SV.c (SC.v (Value.bool (decide ((0 : Int) ≤ depthI id))))) = Ent.one (SV.c (SC.v (Value.bool false)))) ((8 : Int) ≠ (0 : Int) ∧ InR IntKind.i64 (x.snd.tdiv (8 : Int)) ∧ InR IntKind.i64 (x.snd.tdiv (8 : Int) - (1 : Int)) ∧ InR IntKind.i64 ((↑x.fst : Int) + (1 : Int)) ∧ ∃ (x' : Nat × Int), (x'.fst ≤ (5 : Nat) ∧ x'.snd ≤ (9223372036854775807 : Int) ∧ depthI id = if x'.snd < (0 : Int) then (-1 : Int) else depthF ((5 : Nat) - x'.fst) (↑x'.fst : Int) x'.snd) ∧ (SV.c (SC.v (Value.int IntKind.i64 ((↑x.fst : Int) + (1 : Int)))) = SV.c (SC.v (Value.int IntKind.i64 (↑x'.fst : Int))) ∧ SV.c (SC.v (Value.int IntKind.i64 (x.snd.tdiv (8 : Int) - (1 : Int)))) = SV.c (SC.v (Value.int IntKind.i64 x'.snd)) ∧ True) ∧ ([] : List (Go.Eng.Gd × Go.Eng.Res)) = [] ∧ (5 : Nat) - x'.fst < (5 : Nat) - x.fst)))) (([] : List Go.Eng.Res) = [] ∧ Ent.one (SV.c (SC.v (Value.bool (decide ((0 : Int) ≤ depthI id))))) = Ent.one (SV.c (SC.v (Value.bool false)))) := by
  have hp : id ≤ 9223372036854775807 := hpre
  refine ⟨⟨(0, id), ⟨by omega, hp, rfl⟩, ⟨rfl, rfl, trivial⟩, rfl⟩, fun x hx => ?_⟩
  obtain ⟨k, v⟩ := x
  obtain ⟨x1, x2, x3⟩ := hx
  have x1 : k ≤ 5 := x1
  have x2 : v ≤ 9223372036854775807 := x2
  have x3 : depthI id = if v < 0 then -1 else depthF (5 - k) k v := x3
  refine br_dec.2 ⟨fun h => br_dec.2 ⟨fun h2 => ?_, fun h2 => br_dec.2 ⟨fun h3 => ?_, fun h3 => ⟨by decide, br_dec.2 ⟨fun h4 => ?_, fun h4 => ?_⟩⟩⟩⟩, fun h => ?_⟩
  · have h2 : v < 0 := h2
    rw [if_pos h2] at x3
    rw [x3]; exact ⟨rfl, rfl⟩
  all_goals first | (have h : k ≤ 4 := by (have : (k : Int) ≤ 4 := h); omega) | skip
  all_goals first | (have h2 : ¬ v < 0 := h2) | skip
  · have h3 : v < 8 := h3
    rw [if_neg h2] at x3
    obtain ⟨m, hm⟩ : ∃ m, 5 - k = m + 1 := ⟨4 - k, by omega⟩
    rw [hm, depthF, if_pos h3] at x3
    rw [x3, show decide ((0 : Int) ≤ k) = true from decide_eq_true (by omega)]; exact ⟨rfl, rfl⟩
  · have h3 : ¬ v < 8 := h3
    have h4 : 7 ≤ v.tmod 8 := h4
    rw [if_neg h2] at x3
    obtain ⟨m, hm⟩ : ∃ m, 5 - k = m + 1 := ⟨4 - k, by omega⟩
    rw [hm, depthF, if_neg h3, if_pos h4] at x3
    rw [x3]; exact ⟨rfl, rfl⟩
  · have h3 : ¬ v < 8 := h3
    have h4 : ¬ 7 ≤ v.tmod 8 := h4
    rw [if_neg h2] at x3
    obtain ⟨m, hm⟩ : ∃ m, 5 - k = m + 1 := ⟨4 - k, by omega⟩
    rw [hm, depthF, if_neg h3, if_neg h4] at x3
    have e : v.tdiv 8 = v / 8 := Int.tdiv_eq_ediv_of_nonneg (by omega)
    refine ⟨by decide, InR_i64.2 (show (-9223372036854775808 : Int) ≤ v.tdiv 8 ∧ v.tdiv 8 ≤ 9223372036854775807 by omega), InR_i64.2 (show (-9223372036854775808 : Int) ≤ v.tdiv 8 - 1 ∧ v.tdiv 8 - 1 ≤ 9223372036854775807 by omega), InR_i64.2 (show (-9223372036854775808 : Int) ≤ (k : Int) + 1 ∧ (k : Int) + 1 ≤ 9223372036854775807 by omega), (k + 1, v.tdiv 8 - 1), ⟨show k + 1 ≤ 5 by omega, show v.tdiv 8 - 1 ≤ 9223372036854775807 by omega, ?_⟩, ⟨rfl, rfl, trivial⟩, rfl, show 5 - (k + 1) < 5 - k by omega⟩
    show depthI id = if v.tdiv 8 - 1 < 0 then -1 else depthF (5 - (k + 1)) ((k + 1 : Nat) : Int) (v.tdiv 8 - 1)
    rw [if_neg (by omega), x3, show 5 - (k + 1) = m by omega]; rfl
  · have h : ¬ k ≤ 4 := by have : ¬ (k : Int) ≤ 4 := h
                           omega
    rw [show 5 - k = 0 by omega] at x3
    have : depthI id = -1 := by rw [x3]; split <;> rfl
    rw [this]; exact ⟨rfl, rfl⟩
set_option maxHeartbeats 2000000 in
set_option maxRecDepth 100000 in
theorem f28_met : Go.Eng.Met Tryz.prog cx0.gd 28 ctIsI :=
  met_of (cx := cx0) (n := 18) (cl := cl28) (by kernel_rfl) tis_ok trivial Tryz.func28 (by kernel_rfl) (by kernel_rfl) rfl (by kernel_rfl) (by kernel_rfl) fun d hd => by
    obtain ⟨id, ⟨⟩⟩ := d
    exact ex_of (ann28 id) (f28_vc id hd) (by kernel_rfl)
@[reducible] def ctrDp : CT := { ps := [.int .i64], pre := fun d => d.1 ≤ 9223372036854775807, res := fun d => ([], .one (.c (.v (.int .i64 (depthM d.1))))) }
@[reducible] def cl60 : List (Nat × CT) := [(28, ctIsI)]
@[reducible] def ann60 (id : Int) : Nat → Option (St → Ann) := fun k => match k with
  | 4 => some fun _ => .inv { α := Nat × Int, slots := fun x => [(3, .c (.v (.int .i64 x.1))), (0, .c (.v (.int .i64 x.2)))], res := fun _ => [], inv := fun x => x.1 ≤ 4 ∧ 0 ≤ x.2 ∧ x.2 ≤ 9223372036854775807 ∧ 0 ≤ depthI id ∧ depthF (5 - x.1) x.1 x.2 = depthI id, meas := fun x => x.2.toNat }
  | _ => none
set_option maxRecDepth 100000 in
theorem f60_vc (id : Int) (hpre : ctrDp.pre (id, ())) :
    id ≤ (9223372036854775807 : I6.den) ∧ br (!decide ((0 : Int) ≤ depthI id)) (([] : List Go.Eng.Res) = [] ∧ Ent.one (SV.c (SC.v (Value.int IntKind.i64 (depthM id)))) = Ent.one (SV.c (SC.v (Value.int IntKind.i64 (0 : Int))))) ((∃ (x : Nat × Int), (x.fst ≤ (4 : Nat) ∧ (0 : Int) ≤ x.snd ∧ x.snd ≤ (9223372036854775807 : Int) ∧ (0 : Int) ≤ depthI id ∧ depthF ((5 : Nat) - x.fst) (↑x.fst : Int) x.snd = depthI id) ∧ (SV.c (SC.v (Value.int IntKind.i64 (0 : Int))) = SV.c (SC.v (Value.int IntKind.i64 (↑x.fst : Int))) ∧ SV.c (SC.v (Value.int IntKind.i64 id)) = SV.c (SC.v (Value.int IntKind.i64 x.snd)) ∧ True) ∧ ([] : List (Go.Eng.Gd × Go.Eng.Res)) = []) ∧ ∀ (x : Nat × Int), x.fst ≤ (4 : Nat) ∧ (0 : Int) ≤ x.snd ∧ x.snd ≤ (9223372036854775807 : Int) ∧ (0 : Int) ≤ depthI id ∧ depthF ((5 : Nat) - x.fst) (↑x.fst : Int) x.snd = depthI id → br (decide ((8 : Int) ≤ x.snd)) ((8 : Int) ≠ (0 : Int) ∧ InR IntKind.i64 (x.snd.tdiv (8 : Int)) ∧ InR IntKind.i64 (x.snd.tdiv (8 : Int) - (1 : Int)) ∧ InR IntKind.i64 ((↑x.fst : Int) + (1 : Int)) ∧ ∃ (x' : Nat × Int), (x'.fst ≤ (4 : Nat) ∧ (0 : Int) ≤ x'.snd ∧ x'.snd ≤ (9223372036854775807 : Int) ∧ (0 : Int) ≤ depthI id ∧ depthF ((5 : Nat) - x'.fst) (↑x'.fst : Int) x'.snd = depthI id) ∧ (SV.c (SC.v (Value.int IntKind.i64 ((↑x.fst : Int) + (1 : Int)))) = SV.c (SC.v (Value.int IntKind.i64 (↑x'.fst : Int))) ∧ SV.c (SC.v (Value.int IntKind.i64 (x.snd.tdiv (8 : Int) - (1 : Int)))) = SV.c (SC.v (Value.int IntKind.i64 x'.snd)) ∧ True) ∧ ([] : List (Go.Eng.Gd × Go.Eng.Res)) = [] ∧ x'.snd.toNat < x.snd.toNat) (([] : List Go.Eng.Res) = [] ∧ Ent.one (SV.c (SC.v (Value.int IntKind.i64 (depthM id)))) = Ent.one (SV.c (SC.v (Value.int IntKind.i64 (↑x.fst : Int)))))) := by
  have hp : id ≤ 9223372036854775807 := hpre
  refine ⟨hp, br_iff.2 ⟨fun h => ?_, fun h => ?_⟩⟩
  · have h : ¬ 0 ≤ depthI id := by simpa using h
    have e : depthM id = 0 := by unfold depthM; rw [if_pos (by omega)]
    rw [e]; exact ⟨rfl, rfl⟩
  have h : 0 ≤ depthI id := by simpa using h
  have hl := depthI_lt h
  have em : depthM id = depthI id := by unfold depthM; rw [if_neg (by omega)]
  refine ⟨⟨(0, id), ⟨by omega, hl.1, hp, h, by unfold depthI; rw [if_neg (by omega)]; rfl⟩, ⟨rfl, rfl, trivial⟩, rfl⟩, fun x hx => ?_⟩
  obtain ⟨k, v⟩ := x
  obtain ⟨x1, x2, x3, _, x4⟩ := hx
  have x1 : k ≤ 4 := x1
  have x2 : 0 ≤ v := x2
  have x3 : v ≤ 9223372036854775807 := x3
  have x4 : depthF (5 - k) k v = depthI id := x4
  obtain ⟨m, hm⟩ : ∃ m, 5 - k = m + 1 := ⟨4 - k, by omega⟩
  rw [hm, depthF] at x4
  refine br_dec.2 ⟨fun h2 => ?_, fun h2 => ?_⟩
  · have h2 : ¬ v < 8 := by have : 8 ≤ v := h2
                            omega
    rw [if_neg h2] at x4
    split at x4
    · omega
    have e : v.tdiv 8 = v / 8 := Int.tdiv_eq_ediv_of_nonneg x2
    have hm0 : m ≠ 0 := by
      intro q
      subst q
      simp [depthF] at x4; omega
    refine ⟨by decide, InR_i64.2 (show (-9223372036854775808 : Int) ≤ v.tdiv 8 ∧ v.tdiv 8 ≤ 9223372036854775807 by omega), InR_i64.2 (show (-9223372036854775808 : Int) ≤ v.tdiv 8 - 1 ∧ v.tdiv 8 - 1 ≤ 9223372036854775807 by omega), InR_i64.2 (show (-9223372036854775808 : Int) ≤ (k : Int) + 1 ∧ (k : Int) + 1 ≤ 9223372036854775807 by omega), (k + 1, v.tdiv 8 - 1), ⟨show k + 1 ≤ 4 by omega, show 0 ≤ v.tdiv 8 - 1 by omega, show v.tdiv 8 - 1 ≤ 9223372036854775807 by omega, h, ?_⟩, ⟨rfl, rfl, trivial⟩, rfl, show (v.tdiv 8 - 1).toNat < v.toNat by omega⟩
    show depthF (5 - (k + 1)) ((k + 1 : Nat) : Int) (v.tdiv 8 - 1) = depthI id
    rw [← x4, show 5 - (k + 1) = m by omega]; rfl
  · have h2 : v < 8 := by have : ¬ 8 ≤ v := h2
                          omega
    rw [if_pos h2] at x4
    rw [em, ← x4]; exact ⟨rfl, rfl⟩
set_option maxHeartbeats 2000000 in
set_option maxRecDepth 100000 in
theorem f60_met : Go.Eng.Met Tryz.prog cx0.gd 60 ctrDp :=
  met_of (cx := cx0) (n := 15) (cl := cl60) (by kernel_rfl) tis_ok ⟨f28_met, trivial⟩ Tryz.func60 (by kernel_rfl) (by kernel_rfl) rfl (by kernel_rfl) (by kernel_rfl) fun d hd => by
    obtain ⟨id, ⟨⟩⟩ := d
    exact ex_of (ann60 id) (f60_vc id hd) (by kernel_rfl)
@[reducible] def ctrCh : CT := { ps := [shT], pre := fun d => d.1.1 ≤ 9223372036854775807, res := fun d => ([], .tup [.c (.v (.int .i64 (childS d.1.1 d.1.2.2.2.2.2.1).1)), .c (.v (.bool (childS d.1.1 d.1.2.2.2.2.2.1).2))]) }
@[reducible] def cl62 : List (Nat × CT) := [(28, ctIsI), (60, ctrDp)]
@[reducible] def ann62 (id : Int) (fn : Int) (pc : Int) (rg : List Int) (st : Int) (ch : Int) (ph : Int) (su : Int) (fa : Int) (he : List Int) : Nat → Option (St → Ann) := fun _ => none
set_option maxRecDepth 100000 in
theorem f62_vc (id : Int) (fn : Int) (pc : Int) (rg : List Int) (st : Int) (ch : Int) (ph : Int) (su : Int) (fa : Int) (he : List Int) (hpre : ctrCh.pre ((id, fn, pc, rg, st, ch, ph, su, fa, he, ()), ())) :
    id ≤ (9223372036854775807 : I6.den) ∧ ((!!decide ((0 : Int) ≤ depthI id)) = true → id ≤ (9223372036854775807 : I6.den)) ∧ br (!decide ((0 : Int) ≤ depthI id) || decide (depthM id = (4 : Int)) || decide (ch < (0 : Int)) || decide ((7 : Int) ≤ ch)) (([] : List Go.Eng.Res) = [] ∧ Ent.tup [SV.c (SC.v (Value.int IntKind.i64 (childS id ch).fst)), SV.c (SC.v (Value.bool (childS id ch).snd))] = Ent.tup [SV.c (SC.v (Value.int IntKind.i64 (0 : Int))), SV.c (SC.v (Value.bool false))]) (InR IntKind.i64 (id + (1 : Int)) ∧ InR IntKind.i64 ((8 : Int) * (id + (1 : Int))) ∧ InR IntKind.i64 ((8 : Int) * (id + (1 : Int)) + ch) ∧ ([] : List Go.Eng.Res) = [] ∧ Ent.tup [SV.c (SC.v (Value.int IntKind.i64 (childS id ch).fst)), SV.c (SC.v (Value.bool (childS id ch).snd))] = Ent.tup [SV.c (SC.v (Value.int IntKind.i64 ((8 : Int) * (id + (1 : Int)) + ch))), SV.c (SC.v (Value.bool true))]) := by
  have hp : id ≤ 9223372036854775807 := hpre
  refine ⟨hp, fun _ => hp, br_iff.2 ⟨fun h => ?_, fun h => ?_⟩⟩
  · have e : childS id ch = (0, false) := by
      unfold childS
      rw [if_pos]
      unfold depthM at h
      simp only [Bool.or_eq_true, Bool.not_eq_true', decide_eq_true_eq, decide_eq_false_iff_not] at h
      split at h <;> omega
    rw [e]; exact ⟨rfl, rfl⟩
  · simp only [Bool.or_eq_false_iff, Bool.not_eq_false', decide_eq_true_eq, decide_eq_false_iff_not] at h
    obtain ⟨⟨⟨h1, h2⟩, h3⟩, h4⟩ := h
    unfold depthM at h2
    rw [if_neg (by omega)] at h2
    have e : childS id ch = (8 * (id + 1) + ch, true) := by
      unfold childS
      rw [if_neg (by omega)]
    have := depthI_lt h1
    rw [e]
    exact ⟨InR_i64.2 (by omega), InR_i64.2 (by omega), InR_i64.2 (by omega), rfl, rfl⟩
set_option maxHeartbeats 2000000 in
set_option maxRecDepth 100000 in
theorem f62_met : Go.Eng.Met Tryz.prog cx0.gd 62 ctrCh :=
  met_of (cx := cx0) (n := 31) (cl := cl62) (by kernel_rfl) tis_ok ⟨f28_met, f60_met, trivial⟩ Tryz.func62 (by kernel_rfl) (by kernel_rfl) rfl (by kernel_rfl) (by kernel_rfl) fun d hd => by
    obtain ⟨⟨id, fn, pc, rg, st, ch, ph, su, fa, he, ⟨⟩⟩, ⟨⟩⟩ := d
    exact ex_of (ann62 id fn pc rg st ch ph su fa he) (f62_vc id fn pc rg st ch ph su fa he hd) (by kernel_rfl)
@[reducible] def ctrHas : CT := { ps := [.sl (.int .i64), .int .i64], pre := fun d => d.1.length ≤ 1000000, res := fun d => ([], vB (hasI d.1 d.2.1)) }
@[reducible] def cl61 : List (Nat × CT) := []
@[reducible] def ann61 (l : List Int) (x : Int) : Nat → Option (St → Ann) := fun k => match k with
  | 2 => some fun _ => .inv { α := Nat, slots := fun k => [(5, .c (.v (.int .i64 k)))], res := fun k => [], inv := fun k => k ≤ (l).length ∧ ∀ j < k, ∀ y, l[j]? = some y → ¬ y = x, meas := fun k => (l).length - k }
  | _ => none
set_option maxRecDepth 100000 in
theorem f61_vc (l : List Int) (x : Int) (hpre : ctrHas.pre (l, x, ())) :
    (∃ x_1, (x_1 ≤ l.length ∧ ∀ (j : Nat), j < x_1 → ∀ (y : Int), l[j]? = some y → ¬y = x) ∧ (SV.c (SC.v (Value.int IntKind.i64 (0 : Int))) = SV.c (SC.v (Value.int IntKind.i64 (↑x_1 : Int))) ∧ True) ∧ ([] : List (Go.Eng.Gd × Go.Eng.Res)) = []) ∧ ∀ (x_1 : Nat), (x_1 ≤ l.length ∧ ∀ (j : Nat), j < x_1 → ∀ (y : Int), l[j]? = some y → ¬y = x) → br (decide ((↑x_1 : Int) < (↑l.length : Int))) (((0 : Int) ≤ (↑x_1 : Int) ∧ (↑x_1 : Int) < (↑l.length : Int)) ∧ ∀ (d : Int), l[(↑x_1 : Int).toNat]? = some d → br (decide (d = x)) (([] : List Go.Eng.Res) = [] ∧ Ent.one (SV.c (SC.v (Value.bool (hasI l x)))) = Ent.one (SV.c (SC.v (Value.bool true)))) (InR IntKind.i64 ((↑x_1 : Int) + (1 : Int)) ∧ ∃ x', (x' ≤ l.length ∧ ∀ (j : Nat), j < x' → ∀ (y : Int), l[j]? = some y → ¬y = x) ∧ (SV.c (SC.v (Value.int IntKind.i64 ((↑x_1 : Int) + (1 : Int)))) = SV.c (SC.v (Value.int IntKind.i64 (↑x' : Int))) ∧ True) ∧ ([] : List (Go.Eng.Gd × Go.Eng.Res)) = [] ∧ l.length - x' < l.length - x_1)) (([] : List Go.Eng.Res) = [] ∧ Ent.one (SV.c (SC.v (Value.bool (hasI l x)))) = Ent.one (SV.c (SC.v (Value.bool false)))) := by
  have hp : l.length ≤ 1000000 := hpre
  refine ⟨⟨0, ⟨by omega, fun j hj => by omega⟩, ⟨rfl, trivial⟩, rfl⟩, fun k hk => br_iff.2 ⟨fun h => ?_, fun h => ?_⟩⟩
  · simp only [decide_eq_true_eq] at h
    have hN : (↑k : Int).toNat = k := by omega
    rw [hN]
    refine ⟨by omega, fun d hd => br_iff.2 ⟨fun h2 => ⟨rfl, ?_⟩, fun h2 => ⟨InR_i64.2 (by omega), k + 1, ⟨by omega, fun j hj y hy => ?_⟩, ⟨rfl, trivial⟩, rfl, by omega⟩⟩⟩
    · have e : hasI l x = true := by
        unfold hasI
        exact List.any_eq_true.2 ⟨d, List.mem_of_getElem? hd, h2⟩
      rw [e]
    · by_cases hjk : j = k
      · subst hjk
        rw [hd] at hy; cases hy; simpa using h2
      · exact hk.2 j (by omega) y hy
  · simp only [decide_eq_false_iff_not] at h
    have e : hasI l x = false := by
      unfold hasI
      rw [List.any_eq_false]
      intro i hi
      obtain ⟨j, hj⟩ := List.getElem?_of_mem hi
      simpa using hk.2 j (by have := (List.getElem?_eq_some_iff.1 hj).1; omega) i hj
    rw [e]; exact ⟨rfl, rfl⟩
set_option maxHeartbeats 2000000 in
set_option maxRecDepth 100000 in
theorem f61_met : Go.Eng.Met Tryz.prog cx0.gd 61 ctrHas :=
  met_of (cx := cx0) (n := 18) (cl := cl61) (by kernel_rfl) tis_ok trivial Tryz.func61 (by kernel_rfl) (by kernel_rfl) rfl (by kernel_rfl) (by kernel_rfl) fun d hd => by
    obtain ⟨l, x, ⟨⟩⟩ := d
    exact ex_of (ann61 l x) (f61_vc l x hd) (by kernel_rfl)
@[reducible] def ctWith : CT := { ps := [.sl (.int .i64), .int .i64], pre := fun d => d.1.length ≤ 100000, res := fun d => ([.row 3 (.int .i64) (d.1.filter (fun x => decide (x < d.2.1)) ++ [d.2.1] ++ d.1.filter (fun x => decide (d.2.1 < x)))], .one (.c (.row 0))) }
@[reducible] def cl39 : List (Nat × CT) := []
@[reducible] def ann39 (l : List Int) (n : Int) : Nat → Option (St → Ann) := fun k => match k with
  | 3 => some fun _ => .inv { α := Nat, slots := fun k => [(6, .c (.v (.int .i64 k))), (5, .c (.row 0))], res := fun k => [(0, .row 3 (.int .i64) ((l.take k).filter fun x => decide (x < n)))], inv := fun k => k ≤ l.length, meas := fun k => l.length - k, nil := [(5, 3, .int .i64)] }
  | 9 => some fun _ => .inv { α := Nat, slots := fun k => [(7, .c (.v (.int .i64 k))), (5, .c (.row 0))], res := fun k => [(0, .row 3 (.int .i64) (l.filter (fun x => decide (x < n)) ++ [n] ++ (l.take k).filter fun x => decide (n < x)))], inv := fun k => k ≤ l.length, meas := fun k => l.length - k, drop := [30] }
  | _ => none
@[reducible] def il39 : List (Nat × IP) := []
@[reducible] def hl39 : List (Nat × Nat × CT) := []
@[reducible] def ml39 : List (Nat × MK) := []
set_option maxRecDepth 100000 in
theorem f39_vc (l : List Int) (n : Int) (hpre : ctWith.pre (l, n, ())) :
    (∃ x, x ≤ l.length ∧ (SV.c (SC.v (Value.int IntKind.i64 (0 : Int))) = SV.c (SC.v (Value.int IntKind.i64 (↑x : Int))) ∧ SV.c (SC.row (0 : Nat)) = SV.c (SC.row (0 : Nat)) ∧ True) ∧ [(([] : Go.Eng.Gd), Res.row (3 : TypeId) I6 [])] = [(([] : Go.Eng.Gd), Res.row (3 : TypeId) I6 (List.filter (fun x => decide (x < n)) (List.take x l)))]) ∧ ∀ (x : Nat), x ≤ l.length → br (decide ((↑x : Int) < (↑l.length : Int))) (((0 : Int) ≤ (↑x : Int) ∧ (↑x : Int) < (↑l.length : Int)) ∧ ∀ (d : Int), l[(↑x : Int).toNat]? = some d → br (decide (d < n)) (((0 : Int) ≤ (↑x : Int) ∧ (↑x : Int) < (↑l.length : Int)) ∧ ∀ (d : Int), l[(↑x : Int).toNat]? = some d → InA (List.length (List.filter (fun x => decide (x < n)) (List.take x l)) + List.length ([d])) (8 : Nat) ∧ InR IntKind.i64 ((↑x : Int) + (1 : Int)) ∧ ∃ x', x' ≤ l.length ∧ (SV.c (SC.v (Value.int IntKind.i64 ((↑x : Int) + (1 : Int)))) = SV.c (SC.v (Value.int IntKind.i64 (↑x' : Int))) ∧ SV.c (SC.row (0 : Nat)) = SV.c (SC.row (0 : Nat)) ∧ True) ∧ [(([] : Go.Eng.Gd), Res.row (3 : TypeId) I6 (List.filter (fun x => decide (x < n)) (List.take x l) ++ [d]))] = [(([] : Go.Eng.Gd), Res.row (3 : TypeId) I6 (List.filter (fun x => decide (x < n)) (List.take x' l)))] ∧ l.length - x' < l.length - x) (InR IntKind.i64 ((↑x : Int) + (1 : Int)) ∧ ∃ x', x' ≤ l.length ∧ (SV.c (SC.v (Value.int IntKind.i64 ((↑x : Int) + (1 : Int)))) = SV.c (SC.v (Value.int IntKind.i64 (↑x' : Int))) ∧ SV.c (SC.row (0 : Nat)) = SV.c (SC.row (0 : Nat)) ∧ True) ∧ [(([] : Go.Eng.Gd), Res.row (3 : TypeId) I6 (List.filter (fun x => decide (x < n)) (List.take x l)))] = [(([] : Go.Eng.Gd), Res.row (3 : TypeId) I6 (List.filter (fun x => decide (x < n)) (List.take x' l)))] ∧ l.length - x' < l.length - x)) (InA (List.length (List.filter (fun x => decide (x < n)) (List.take x l)) + List.length ([n])) (8 : Nat) ∧ (∃ x_1, x_1 ≤ l.length ∧ (SV.c (SC.v (Value.int IntKind.i64 (0 : Int))) = SV.c (SC.v (Value.int IntKind.i64 (↑x_1 : Int))) ∧ SV.c (SC.row (0 : Nat)) = SV.c (SC.row (0 : Nat)) ∧ True) ∧ [(([] : Go.Eng.Gd), Res.row (3 : TypeId) I6 (List.filter (fun x => decide (x < n)) (List.take x l) ++ [n])), (([] : Go.Eng.Gd), Res.row (3 : TypeId) I6 [n])] = [(([] : Go.Eng.Gd), Res.row (3 : TypeId) I6 (List.filter (fun x => decide (x < n)) l ++ [n] ++ List.filter (fun x => decide (n < x)) (List.take x_1 l))), (([] : Go.Eng.Gd), Res.row (3 : TypeId) I6 [n])]) ∧ ∀ (x : Nat), x ≤ l.length → br (decide ((↑x : Int) < (↑l.length : Int))) (((0 : Int) ≤ (↑x : Int) ∧ (↑x : Int) < (↑l.length : Int)) ∧ ∀ (d : Int), l[(↑x : Int).toNat]? = some d → br (decide (n < d)) (((0 : Int) ≤ (↑x : Int) ∧ (↑x : Int) < (↑l.length : Int)) ∧ ∀ (d : Int), l[(↑x : Int).toNat]? = some d → InA (List.length ((List.filter (fun x => decide (x < n)) l ++ [n] ++ List.filter (fun x => decide (n < x)) (List.take x l))) + List.length ([d])) (8 : Nat) ∧ InR IntKind.i64 ((↑x : Int) + (1 : Int)) ∧ ∃ x', x' ≤ l.length ∧ (SV.c (SC.v (Value.int IntKind.i64 ((↑x : Int) + (1 : Int)))) = SV.c (SC.v (Value.int IntKind.i64 (↑x' : Int))) ∧ SV.c (SC.row (0 : Nat)) = SV.c (SC.row (0 : Nat)) ∧ True) ∧ [(([] : Go.Eng.Gd), Res.row (3 : TypeId) I6 ((List.filter (fun x => decide (x < n)) l ++ [n] ++ List.filter (fun x => decide (n < x)) (List.take x l)) ++ [d])), (([] : Go.Eng.Gd), Res.row (3 : TypeId) I6 [n])] = [(([] : Go.Eng.Gd), Res.row (3 : TypeId) I6 (List.filter (fun x => decide (x < n)) l ++ [n] ++ List.filter (fun x => decide (n < x)) (List.take x' l))), (([] : Go.Eng.Gd), Res.row (3 : TypeId) I6 [n])] ∧ l.length - x' < l.length - x) (InR IntKind.i64 ((↑x : Int) + (1 : Int)) ∧ ∃ x', x' ≤ l.length ∧ (SV.c (SC.v (Value.int IntKind.i64 ((↑x : Int) + (1 : Int)))) = SV.c (SC.v (Value.int IntKind.i64 (↑x' : Int))) ∧ SV.c (SC.row (0 : Nat)) = SV.c (SC.row (0 : Nat)) ∧ True) ∧ [(([] : Go.Eng.Gd), Res.row (3 : TypeId) I6 (List.filter (fun x => decide (x < n)) l ++ [n] ++ List.filter (fun x => decide (n < x)) (List.take x l))), (([] : Go.Eng.Gd), Res.row (3 : TypeId) I6 [n])] = [(([] : Go.Eng.Gd), Res.row (3 : TypeId) I6 (List.filter (fun x => decide (x < n)) l ++ [n] ++ List.filter (fun x => decide (n < x)) (List.take x' l))), (([] : Go.Eng.Gd), Res.row (3 : TypeId) I6 [n])] ∧ l.length - x' < l.length - x)) ([Res.row (3 : TypeId) I6 (List.filter (fun x => decide (x < (l, n, ()).snd.fst)) l ++ [n] ++ List.filter (fun x => decide ((l, n, ()).snd.fst < x)) l)] = [Res.row (3 : TypeId) I6 (List.filter (fun x => decide (x < n)) l ++ [n] ++ List.filter (fun x => decide (n < x)) (List.take x l))] ∧ Ent.one (SV.c (SC.row (0 : Nat))) = Ent.one (SV.c (SC.row (0 : Nat))))) := by
  have hp : l.length ≤ 100000 := hpre
  have fl : ∀ (q : Int → Bool) (k : Nat), ((l.take k).filter q).length ≤ 100000 := fun q k => Nat.le_trans (List.length_filter_le _ _) (by rw [List.length_take]; omega)
  have fl2 : ∀ (q : Int → Bool), (l.filter q).length ≤ 100000 := fun q => Nat.le_trans (List.length_filter_le _ _) hp
  have stp : ∀ (q : Int → Bool) (k : Nat) (d : Int), l[k]? = some d → (l.take (k + 1)).filter q = (l.take k).filter q ++ (if q d = true then [d] else []) := fun q k d hd => by
    rw [List.take_add_one, hd, Option.toList_some, List.filter_append]
    congr 1
    simp only [List.filter_cons, List.filter_nil]
  refine ⟨⟨0, by omega, ⟨rfl, rfl, trivial⟩, rfl⟩, fun k hk => br_dec.2 ⟨fun h => ?_, fun h => ?_⟩⟩
  · refine ⟨by omega, fun d hd => br_dec.2 ⟨fun h2 => ⟨by omega, fun d2 hd2 => ⟨?_, InR_i64.2 (by omega), k + 1, by omega, ⟨rfl, rfl, trivial⟩, ?_, by omega⟩⟩, fun h2 => ⟨InR_i64.2 (by omega), k + 1, by omega, ⟨rfl, rfl, trivial⟩, ?_, by omega⟩⟩⟩
    · have := fl (fun x => decide (x < n)) k
      rw [InA_iff]; simp only [List.length_cons, List.length_nil]; omega
    · have hd : l[k]? = some d := hd
      have hd2 : l[k]? = some d2 := hd2
      rw [hd] at hd2; cases hd2
      rw [stp _ k d hd, if_pos (decide_eq_true h2)]
    · have hd : l[k]? = some d := hd
      rw [stp _ k d hd, if_neg (by simpa using h2), List.append_nil]
  · have hk : l.take k = l := List.take_of_length_le (by omega)
    rw [hk]
    have f1 := fl2 (fun x => decide (x < n))
    refine ⟨?_, ⟨0, by omega, ⟨rfl, rfl, trivial⟩, by simp⟩, fun m hm => br_dec.2 ⟨fun h => ?_, fun h => ?_⟩⟩
    · rw [InA_iff]; simp only [List.length_cons, List.length_nil]; omega
    · refine ⟨by omega, fun d hd => br_dec.2 ⟨fun h2 => ⟨by omega, fun d2 hd2 => ⟨?_, InR_i64.2 (by omega), m + 1, by omega, ⟨rfl, rfl, trivial⟩, ?_, by omega⟩⟩, fun h2 => ⟨InR_i64.2 (by omega), m + 1, by omega, ⟨rfl, rfl, trivial⟩, ?_, by omega⟩⟩⟩
      · have := fl (fun x => decide (n < x)) m
        rw [InA_iff]; simp only [List.length_append, List.length_cons, List.length_nil]; omega
      · have hd : l[m]? = some d := hd
        have hd2 : l[m]? = some d2 := hd2
        rw [hd] at hd2; cases hd2
        rw [stp _ m d hd, if_pos (decide_eq_true h2)]; simp
      · have hd : l[m]? = some d := hd
        rw [stp _ m d hd, if_neg (by simpa using h2), List.append_nil]
    · rw [List.take_of_length_le (by omega)]; exact ⟨rfl, rfl⟩
set_option maxHeartbeats 2000000 in
set_option maxRecDepth 100000 in
theorem f39_met : Go.Eng.Met Tryz.prog cx0.gd 39 ctWith :=
  (met_all (cx := cx0) (n := 51) (cl := cl39) (il := il39) (hl := hl39) (ml := ml39) (rc := []) (lits := []) (suf := []) (by kernel_rfl) tis_ok trivial trivial trivial trivial Tryz.func39 (by kernel_rfl) (by kernel_rfl) rfl (by kernel_rfl) (by kernel_rfl) (by simp) fun d hd => by
    obtain ⟨l, n, ⟨⟩⟩ := d
    exact ex_of (ann39 l n) (f39_vc l n hd) (by kernel_rfl)).met
@[reducible] def ctWout : CT := { ps := [.sl (.int .i64), .int .i64], pre := fun d => d.1.length ≤ 100000, res := fun d => ([.row 3 (.int .i64) (d.1.filter (fun x => decide (x ≠ d.2.1)))], .one (.c (.row 0))) }
@[reducible] def cl40 : List (Nat × CT) := []
@[reducible] def ann40 (l : List Int) (n : Int) : Nat → Option (St → Ann) := fun k => match k with
  | 3 => some fun _ => .inv { α := Nat, slots := fun k => [(6, .c (.v (.int .i64 k))), (5, .c (.row 0))], res := fun k => [(0, .row 3 (.int .i64) ((l.take k).filter fun x => decide (x ≠ n)))], inv := fun k => k ≤ l.length, meas := fun k => l.length - k, nil := [(5, 3, .int .i64)] }
  | _ => none
@[reducible] def il40 : List (Nat × IP) := []
@[reducible] def hl40 : List (Nat × Nat × CT) := []
@[reducible] def ml40 : List (Nat × MK) := []
set_option maxRecDepth 100000 in
theorem f40_vc (l : List Int) (n : Int) (hpre : ctWout.pre (l, n, ())) :
    (∃ x, x ≤ l.length ∧ (SV.c (SC.v (Value.int IntKind.i64 (0 : Int))) = SV.c (SC.v (Value.int IntKind.i64 (↑x : Int))) ∧ SV.c (SC.row (0 : Nat)) = SV.c (SC.row (0 : Nat)) ∧ True) ∧ [(([] : Go.Eng.Gd), Res.row (3 : TypeId) I6 [])] = [(([] : Go.Eng.Gd), Res.row (3 : TypeId) I6 (List.filter (fun x => decide (x ≠ n)) (List.take x l)))]) ∧ ∀ (x : Nat), x ≤ l.length → br (decide ((↑x : Int) < (↑l.length : Int))) (((0 : Int) ≤ (↑x : Int) ∧ (↑x : Int) < (↑l.length : Int)) ∧ ∀ (d : Int), l[(↑x : Int).toNat]? = some d → br (!decide (d = n)) (((0 : Int) ≤ (↑x : Int) ∧ (↑x : Int) < (↑l.length : Int)) ∧ ∀ (d : Int), l[(↑x : Int).toNat]? = some d → InA (List.length (List.filter (fun x => decide (x ≠ n)) (List.take x l)) + List.length ([d])) (8 : Nat) ∧ InR IntKind.i64 ((↑x : Int) + (1 : Int)) ∧ ∃ x', x' ≤ l.length ∧ (SV.c (SC.v (Value.int IntKind.i64 ((↑x : Int) + (1 : Int)))) = SV.c (SC.v (Value.int IntKind.i64 (↑x' : Int))) ∧ SV.c (SC.row (0 : Nat)) = SV.c (SC.row (0 : Nat)) ∧ True) ∧ [(([] : Go.Eng.Gd), Res.row (3 : TypeId) I6 (List.filter (fun x => decide (x ≠ n)) (List.take x l) ++ [d]))] = [(([] : Go.Eng.Gd), Res.row (3 : TypeId) I6 (List.filter (fun x => decide (x ≠ n)) (List.take x' l)))] ∧ l.length - x' < l.length - x) (InR IntKind.i64 ((↑x : Int) + (1 : Int)) ∧ ∃ x', x' ≤ l.length ∧ (SV.c (SC.v (Value.int IntKind.i64 ((↑x : Int) + (1 : Int)))) = SV.c (SC.v (Value.int IntKind.i64 (↑x' : Int))) ∧ SV.c (SC.row (0 : Nat)) = SV.c (SC.row (0 : Nat)) ∧ True) ∧ [(([] : Go.Eng.Gd), Res.row (3 : TypeId) I6 (List.filter (fun x => decide (x ≠ n)) (List.take x l)))] = [(([] : Go.Eng.Gd), Res.row (3 : TypeId) I6 (List.filter (fun x => decide (x ≠ n)) (List.take x' l)))] ∧ l.length - x' < l.length - x)) ([Res.row (3 : TypeId) I6 (List.filter (fun x => decide (x ≠ (l, n, ()).snd.fst)) l)] = [Res.row (3 : TypeId) I6 (List.filter (fun x => decide (x ≠ n)) (List.take x l))] ∧ Ent.one (SV.c (SC.row (0 : Nat))) = Ent.one (SV.c (SC.row (0 : Nat)))) := by
  have hp : l.length ≤ 100000 := hpre
  have fl : ∀ (q : Int → Bool) (k : Nat), ((l.take k).filter q).length ≤ 100000 := fun q k => Nat.le_trans (List.length_filter_le _ _) (by rw [List.length_take]; omega)
  have stp : ∀ (q : Int → Bool) (k : Nat) (d : Int), l[k]? = some d → (l.take (k + 1)).filter q = (l.take k).filter q ++ (if q d = true then [d] else []) := fun q k d hd => by
    rw [List.take_add_one, hd, Option.toList_some, List.filter_append]
    congr 1
    simp only [List.filter_cons, List.filter_nil]
  refine ⟨⟨0, by omega, ⟨rfl, rfl, trivial⟩, rfl⟩, fun k hk => br_dec.2 ⟨fun h => ?_, fun h => ?_⟩⟩
  · refine ⟨by omega, fun d hd => br_iff.2 ⟨fun h2 => ⟨by omega, fun d2 hd2 => ⟨?_, InR_i64.2 (by omega), k + 1, by omega, ⟨rfl, rfl, trivial⟩, ?_, by omega⟩⟩, fun h2 => ⟨InR_i64.2 (by omega), k + 1, by omega, ⟨rfl, rfl, trivial⟩, ?_, by omega⟩⟩⟩
    · have := fl (fun x => decide (x ≠ n)) k
      rw [InA_iff]; simp only [List.length_cons, List.length_nil]; omega
    · have hd : l[k]? = some d := hd
      have hd2 : l[k]? = some d2 := hd2
      rw [hd] at hd2; cases hd2
      rw [stp _ k d hd, if_pos (by simpa using h2)]
    · have hd : l[k]? = some d := hd
      rw [stp _ k d hd, if_neg (by simpa using h2), List.append_nil]
  · rw [List.take_of_length_le (by omega)]; exact ⟨rfl, rfl⟩
set_option maxHeartbeats 2000000 in
set_option maxRecDepth 100000 in
theorem f40_met : Go.Eng.Met Tryz.prog cx0.gd 40 ctWout :=
  (met_all (cx := cx0) (n := 27) (cl := cl40) (il := il40) (hl := hl40) (ml := ml40) (rc := [.row 3 (.int .i64)]) (lits := []) (suf := []) (by kernel_rfl) tis_ok trivial trivial trivial trivial Tryz.func40 (by kernel_rfl) (by kernel_rfl) rfl (by kernel_rfl) (by kernel_rfl) (by simp) fun d hd => by
    obtain ⟨l, n, ⟨⟩⟩ := d
    exact ex_of (ann40 l n) (f40_vc l n hd) (by kernel_rfl)).met
@[reducible] def ctrV20 : CT := { ps := [.int .i64], pre := fun d => True, res := fun d => ([], vB (valS d.1)) }
@[reducible] def cl29 : List (Nat × CT) := []
@[reducible] def ann29 (n : Int) : Nat → Option (St → Ann) := fun _ => none
set_option maxRecDepth 100000 in
theorem f29_vc (n : Int) :
    ([] : List Go.Eng.Res) = [] ∧ Ent.one (SV.c (SC.v (Value.bool (valS n)))) = Ent.one (SV.c (SC.v (Value.bool (decide ((-2147483648 : Int) ≤ n) && decide (n ≤ (2147483647 : Int)))))) := by
  refine ⟨rfl, ?_⟩
  rw [show valS n = (decide (-2147483648 ≤ n) && decide (n ≤ 2147483647)) by unfold valS; rw [Bool.eq_iff_iff]; simp]
set_option maxHeartbeats 2000000 in
set_option maxRecDepth 100000 in
theorem f29_met : Go.Eng.Met Tryz.prog cx0.gd 29 ctrV20 :=
  met_of (cx := cx0) (n := 9) (cl := cl29) (by kernel_rfl) tis_ok trivial Tryz.func29 (by kernel_rfl) (by kernel_rfl) rfl (by kernel_rfl) (by kernel_rfl) fun d hd => by
    obtain ⟨n, ⟨⟩⟩ := d
    exact ex_of (ann29 n) (f29_vc n) (by kernel_rfl)
@[reducible] def ctCode : CT := { ps := [shP, shT], pre := fun d => 0 ≤ d.2.1.2.1 ∧ d.2.1.2.1 < d.1.2.2.2.1.length, res := fun d => ([], .one (.c (.sl shI (codeF d.1.2.2.2.1 d.2.1.2.1)))) }
@[reducible] def cl37 : List (Nat × CT) := []
@[reducible] def ann37 (vs : List VD) (ms : List ByteArray) (cs : List ByteArray) (fs : List FD) (ts : List SD) (id : Int) (fn : Int) (pc : Int) (rg : List Int) (st : Int) (ch : Int) (ph : Int) (su : Int) (fa : Int) (he : List Int) : Nat → Option (St → Ann) := fun _ => none
@[reducible] def il37 : List (Nat × IP) := []
@[reducible] def hl37 : List (Nat × Nat × CT) := []
@[reducible] def ml37 : List (Nat × MK) := []
set_option maxRecDepth 100000 in
theorem f37_vc (vs : List VD) (ms : List ByteArray) (cs : List ByteArray) (fs : List FD) (ts : List SD) (id : Int) (fn : Int) (pc : Int) (rg : List Int) (st : Int) (ch : Int) (ph : Int) (su : Int) (fa : Int) (he : List Int) (hpre : ctCode.pre ((vs, ms, cs, fs, ts, ()), (id, fn, pc, rg, st, ch, ph, su, fa, he, ()), ())) :
    ((0 : Int) ≤ fn ∧ fn < (↑fs.length : Int)) ∧ ∀ (d : Sh.str.den × (shI.sl.pair Sh.unit).den), fs[fn.toNat]? = some d → ([] : List Go.Eng.Res) = [] ∧ Ent.one (SV.c (SC.sl shI (codeF fs fn))) = Ent.one (SV.c (SC.sl shI d.snd.fst)) := by
  have hp : 0 ≤ fn ∧ fn < (fs.length : Int) := hpre
  refine ⟨hp, fun d hd => ⟨rfl, ?_⟩⟩
  obtain ⟨y, hy, ey⟩ := codeF_get hp
  rw [hd] at hy; cases hy
  rw [ey]
set_option maxHeartbeats 2000000 in
set_option maxRecDepth 100000 in
theorem f37_met : Go.Eng.Met Tryz.prog cx0.gd 37 ctCode :=
  (met_all (cx := cx0) (n := 12) (cl := cl37) (il := il37) (hl := hl37) (ml := ml37) (rc := []) (lits := []) (suf := []) (by kernel_rfl) tis_ok trivial trivial trivial trivial Tryz.func37 (by kernel_rfl) (by kernel_rfl) rfl (by kernel_rfl) (by kernel_rfl) (by simp) fun d hd => by
    obtain ⟨⟨vs, ms, cs, fs, ts, ⟨⟩⟩, ⟨id, fn, pc, rg, st, ch, ph, su, fa, he, ⟨⟩⟩, ⟨⟩⟩ := d
    exact ex_of (ann37 vs ms cs fs ts id fn pc rg st ch ph su fa he) (f37_vc vs ms cs fs ts id fn pc rg st ch ph su fa he hd) (by kernel_rfl)).met
@[reducible] def ctFlt : CT := { ps := [shT, shI], pre := fun d => d.1.2.2.2.2.2.2.2.2.2.1.length ≤ 1000000 ∧ d.1.1 ≤ 9223372036854775807, res := fun d => ([], .one (.c (.v (.int .i64 (obsS d.1.1 d.1.2.2.2.2.2.1 d.1.2.2.2.2.2.2.1 d.1.2.2.2.2.2.2.2.2.2.1 d.2.1))))) }
@[reducible] def cl43 : List (Nat × CT) := [(61, ctrHas), (62, ctrCh)]
@[reducible] def ann43 (id : Int) (fn : Int) (pc : Int) (rg : List Int) (st : Int) (ch : Int) (ph : Int) (su : Int) (fa : Int) (he : List Int) (op : Int) (a : Int) (b : Int) (c : Int) (obj : Int) (n : Int) (fo : Int) (ord : Int) : Nat → Option (St → Ann) := fun _ => none
@[reducible] def il43 : List (Nat × IP) := []
@[reducible] def hl43 : List (Nat × Nat × CT) := []
@[reducible] def ml43 : List (Nat × MK) := []
set_option maxRecDepth 100000 in
theorem f43_vc (id : Int) (fn : Int) (pc : Int) (rg : List Int) (st : Int) (ch : Int) (ph : Int) (su : Int) (fa : Int) (he : List Int) (op : Int) (a : Int) (b : Int) (c : Int) (obj : Int) (n : Int) (fo : Int) (ord : Int) (hpre : ctFlt.pre ((id, fn, pc, rg, st, ch, ph, su, fa, he, ()), (op, a, b, c, obj, n, fo, ord, ()), ())) :
    br (!decide (ph = (0 : Int))) (([] : List Go.Eng.Res) = [] ∧ Ent.one (SV.c (SC.v (Value.int IntKind.i64 (obsS id ch ph he (op, a, b, c, obj, n, fo, ord, ()))))) = Ent.one (SV.c (SC.v (Value.int IntKind.i64 (0 : Int))))) ((decide (op = (16 : Int)) = true → he.length ≤ (1000000 : Nat)) ∧ ((decide (op = (18 : Int)) && !(decide (op = (16 : Int)) && !hasI he obj)) = true → he.length ≤ (1000000 : Nat)) ∧ br (decide (op = (16 : Int)) && !hasI he obj || decide (op = (18 : Int)) && !hasI he n) (([] : List Go.Eng.Res) = [] ∧ Ent.one (SV.c (SC.v (Value.int IntKind.i64 (obsS id ch ph he (op, a, b, c, obj, n, fo, ord, ()))))) = Ent.one (SV.c (SC.v (Value.int IntKind.i64 (27 : Int))))) (br (decide (op = (21 : Int))) (id ≤ (9223372036854775807 : I6.den) ∧ br (!(childS id ch).snd) (([] : List Go.Eng.Res) = [] ∧ Ent.one (SV.c (SC.v (Value.int IntKind.i64 (obsS id ch ph he (op, a, b, c, obj, n, fo, ord, ()))))) = Ent.one (SV.c (SC.v (Value.int IntKind.i64 (28 : Int))))) (([] : List Go.Eng.Res) = [] ∧ Ent.one (SV.c (SC.v (Value.int IntKind.i64 (obsS id ch ph he (op, a, b, c, obj, n, fo, ord, ()))))) = Ent.one (SV.c (SC.v (Value.int IntKind.i64 (0 : Int)))))) (([] : List Go.Eng.Res) = [] ∧ Ent.one (SV.c (SC.v (Value.int IntKind.i64 (obsS id ch ph he (op, a, b, c, obj, n, fo, ord, ()))))) = Ent.one (SV.c (SC.v (Value.int IntKind.i64 (0 : Int))))))) := by
  obtain ⟨h1, h2⟩ : he.length ≤ 1000000 ∧ id ≤ 9223372036854775807 := hpre
  unfold obsS
  refine br_iff.2 ⟨fun h => ⟨rfl, ?_⟩, fun h => ⟨fun _ => h1, fun _ => h1, br_iff.2 ⟨fun q => ⟨rfl, ?_⟩, fun q => br_dec.2 ⟨fun q2 => ⟨h2, br_iff.2 ⟨fun q3 => ⟨rfl, ?_⟩, fun q3 => ⟨rfl, ?_⟩⟩⟩, fun q2 => ⟨rfl, ?_⟩⟩⟩⟩⟩
  · have h : ph ≠ 0 := by simpa using h
    rw [if_pos h]
  all_goals
    have h : ¬ ph ≠ 0 := by simpa using h
    rw [if_neg h]
  · by_cases e : op = 18
    · subst e
      simp at q
      simp [q]
    · by_cases e2 : op = 16
      · subst e2
        simp at q
        simp [q]
      · simp [e, e2] at q
  · subst q2
    simp at q3
    simp [q3]
  · subst q2
    simp at q3
    simp [q3]
  · by_cases e : op = 18
    · subst e
      simp at q
      simp [q]
    · by_cases e2 : op = 16
      · subst e2
        simp at q
        simp [q]
      · simp [e, e2, q2]
set_option maxHeartbeats 2000000 in
set_option maxRecDepth 100000 in
theorem f43_met : Go.Eng.Met Tryz.prog cx0.gd 43 ctFlt :=
  (met_all (cx := cx0) (n := 44) (cl := cl43) (il := il43) (hl := hl43) (ml := ml43) (rc := []) (lits := []) (suf := []) (by kernel_rfl) tis_ok ⟨f61_met, f62_met, trivial⟩ trivial trivial trivial Tryz.func43 (by kernel_rfl) (by kernel_rfl) rfl (by kernel_rfl) (by kernel_rfl) (by simp) fun d hd => by
    obtain ⟨⟨id, fn, pc, rg, st, ch, ph, su, fa, he, ⟨⟩⟩, ⟨op, a, b, c, obj, n, fo, ord, ⟨⟩⟩, ⟨⟩⟩ := d
    exact ex_of (ann43 id fn pc rg st ch ph su fa he op a b c obj n fo ord) (f43_vc id fn pc rg st ch ph su fa he op a b c obj n fo ord hd) (by kernel_rfl)).met
@[reducible] def ctFai : CT := { ps := [shT, .int .i64], pre := fun d => True, res := fun d => ([], .one (.dat shT (endS d.1 3 d.2.1))) }
@[reducible] def cl53 : List (Nat × CT) := []
@[reducible] def ann53 (id : Int) (fn : Int) (pc : Int) (rg : List Int) (st : Int) (ch : Int) (ph : Int) (su : Int) (fa : Int) (he : List Int) (er : Int) : Nat → Option (St → Ann) := fun _ => none
@[reducible] def il53 : List (Nat × IP) := []
@[reducible] def hl53 : List (Nat × Nat × CT) := []
@[reducible] def ml53 : List (Nat × MK) := []
set_option maxRecDepth 100000 in
theorem f53_vc (id : Int) (fn : Int) (pc : Int) (rg : List Int) (st : Int) (ch : Int) (ph : Int) (su : Int) (fa : Int) (he : List Int) (er : Int) :
    ([] : List Go.Eng.Res) = [] ∧ Ent.one (SV.dat shT (endS (id, fn, pc, rg, st, ch, ph, su, fa, he, ()) (3 : Int) er)) = Ent.one (SV.dat shT ((id, fn, pc, rg, st, ch, ph, (3 : Int), er, he, ()))) := by
  exact ⟨rfl, rfl⟩
set_option maxHeartbeats 2000000 in
set_option maxRecDepth 100000 in
theorem f53_met : Go.Eng.Met Tryz.prog cx0.gd 53 ctFai :=
  (met_all (cx := cx0) (n := 9) (cl := cl53) (il := il53) (hl := hl53) (ml := ml53) (rc := [.data shT]) (lits := []) (suf := []) (by kernel_rfl) tis_ok trivial trivial trivial trivial Tryz.func53 (by kernel_rfl) (by kernel_rfl) rfl (by kernel_rfl) (by kernel_rfl) (by simp) fun d hd => by
    obtain ⟨⟨id, fn, pc, rg, st, ch, ph, su, fa, he, ⟨⟩⟩, er, ⟨⟩⟩ := d
    exact ex_of (ann53 id fn pc rg st ch ph su fa he er) (f53_vc id fn pc rg st ch ph su fa he er) (by kernel_rfl)).met
@[reducible] def ctrLoc : CT := { ps := [shT, shI], pre := fun d => (0 ≤ d.2.1.2.1 ∧ d.2.1.2.1 < 8) ∧ (0 ≤ d.2.1.2.2.1 ∧ d.2.1.2.2.1 < 8) ∧ (0 ≤ d.2.1.2.2.2.1 ∧ d.2.1.2.2.2.1 < 8) ∧ (0 ≤ d.1.2.2.1 ∧ d.1.2.2.1 ≤ 1000000) ∧ (d.2.1.1 = 3 → (applyS d.2.1.2.2.2.2.2.2.1 (d.1.2.2.2.1.getD d.2.1.2.2.1.toNat 0) (d.1.2.2.2.1.getD d.2.1.2.2.2.1.toNat 0)).2 = 0) ∧ ¬ (d.2.1.1 = 6 ∧ d.1.2.2.2.1.getD d.2.1.2.2.1.toNat 0 = 0) ∧ d.2.1.1 ≠ 7, res := fun d => ([], .one (.dat shT (locS d.1 d.2.1).1)) }
@[reducible] def cl54 : List (Nat × CT) := [(75, ctrApp)]
@[reducible] def ann54 (id : Int) (fn : Int) (pc : Int) (rg : List Int) (st : Int) (ch : Int) (ph : Int) (su : Int) (fa : Int) (he : List Int) (op : Int) (a : Int) (b : Int) (c : Int) (obj : Int) (n : Int) (fo : Int) (ord : Int) : Nat → Option (St → Ann) := fun _ => none
@[reducible] def il54 : List (Nat × IP) := []
@[reducible] def hl54 : List (Nat × Nat × CT) := []
@[reducible] def ml54 : List (Nat × MK) := []
set_option maxRecDepth 100000 in
theorem f54_vc (id : Int) (fn : Int) (pc : Int) (rg : List Int) (st : Int) (ch : Int) (ph : Int) (su : Int) (fa : Int) (he : List Int) (op : Int) (a : Int) (b : Int) (c : Int) (obj : Int) (n : Int) (fo : Int) (ord : Int) (hpre : ctrLoc.pre ((id, fn, pc, rg, st, ch, ph, su, fa, he, ()), (op, a, b, c, obj, n, fo, ord, ()), ())) :
    InR IntKind.i64 (pc + (1 : Int)) ∧ br (decide (op = (1 : Int))) (((0 : Int) ≤ a ∧ a < (8 : Int)) ∧ a.toNat < (8 : Nat) ∧ ([] : List Go.Eng.Res) = [] ∧ Ent.one (SV.dat shT (locS (id, fn, pc, rg, st, ch, ph, su, fa, he, ()) (op, a, b, c, obj, n, fo, ord, ())).fst) = Ent.one (SV.dat shT ((id, fn, pc + (1 : Int), rg.set a.toNat n, st, ch, ph, su, fa, he, ())))) (br (decide (op = (2 : Int))) (((0 : Int) ≤ b ∧ b < (8 : Int)) ∧ b.toNat < (8 : Nat) ∧ ∀ (d : Int), rg[b.toNat]? = some d → ((0 : Int) ≤ a ∧ a < (8 : Int)) ∧ a.toNat < (8 : Nat) ∧ ([] : List Go.Eng.Res) = [] ∧ Ent.one (SV.dat shT (locS (id, fn, pc, rg, st, ch, ph, su, fa, he, ()) (op, a, b, c, obj, n, fo, ord, ())).fst) = Ent.one (SV.dat shT ((id, fn, pc + (1 : Int), rg.set a.toNat d, st, ch, ph, su, fa, he, ())))) (br (decide (op = (3 : Int))) (((0 : Int) ≤ b ∧ b < (8 : Int)) ∧ b.toNat < (8 : Nat) ∧ ∀ (d : Int), rg[b.toNat]? = some d → ((0 : Int) ≤ c ∧ c < (8 : Int)) ∧ c.toNat < (8 : Nat) ∧ ∀ (d_1 : Int), rg[c.toNat]? = some d_1 → True ∧ ((0 : Int) ≤ a ∧ a < (8 : Int)) ∧ a.toNat < (8 : Nat) ∧ ([] : List Go.Eng.Res) = [] ∧ Ent.one (SV.dat shT (locS (id, fn, pc, rg, st, ch, ph, su, fa, he, ()) (op, a, b, c, obj, n, fo, ord, ())).fst) = Ent.one (SV.dat shT ((id, fn, pc + (1 : Int), rg.set a.toNat (applyS fo d d_1).fst, st, ch, ph, su, fa, he, ())))) (br (decide (op = (4 : Int))) (([] : List Go.Eng.Res) = [] ∧ Ent.one (SV.dat shT (locS (id, fn, pc, rg, st, ch, ph, su, fa, he, ()) (op, a, b, c, obj, n, fo, ord, ())).fst) = Ent.one (SV.dat shT ((id, fn, n, rg, st, ch, ph, su, fa, he, ())))) (br (decide (op = (5 : Int))) (((0 : Int) ≤ b ∧ b < (8 : Int)) ∧ b.toNat < (8 : Nat) ∧ ∀ (d : Int), rg[b.toNat]? = some d → br (!decide (d = (0 : Int))) (([] : List Go.Eng.Res) = [] ∧ Ent.one (SV.dat shT (locS (id, fn, pc, rg, st, ch, ph, su, fa, he, ()) (op, a, b, c, obj, n, fo, ord, ())).fst) = Ent.one (SV.dat shT ((id, fn, n, rg, st, ch, ph, su, fa, he, ())))) (([] : List Go.Eng.Res) = [] ∧ Ent.one (SV.dat shT (locS (id, fn, pc, rg, st, ch, ph, su, fa, he, ()) (op, a, b, c, obj, n, fo, ord, ())).fst) = Ent.one (SV.dat shT ((id, fn, pc + (1 : Int), rg, st, ch, ph, su, fa, he, ()))))) (([] : List Go.Eng.Res) = [] ∧ Ent.one (SV.dat shT (locS (id, fn, pc, rg, st, ch, ph, su, fa, he, ()) (op, a, b, c, obj, n, fo, ord, ())).fst) = Ent.one (SV.dat shT ((id, fn, pc + (1 : Int), rg, st, ch, ph, su, fa, he, ())))))))) := by
  obtain ⟨hA, hB, hC, ⟨hp0, hp1⟩, h33, h66, h77⟩ : (0 ≤ a ∧ a < 8) ∧ (0 ≤ b ∧ b < 8) ∧ (0 ≤ c ∧ c < 8) ∧ (0 ≤ pc ∧ pc ≤ 1000000) ∧ (op = 3 → (applyS fo (rg.getD b.toNat 0) (rg.getD c.toNat 0)).2 = 0) ∧ ¬ (op = 6 ∧ rg.getD b.toNat 0 = 0) ∧ op ≠ 7 := hpre
  have hA8 : a.toNat < 8 := by omega
  have hB8 : b.toNat < 8 := by omega
  have hC8 : c.toNat < 8 := by omega
  have gd : ∀ {x d : Int}, rg[x.toNat]? = some d → rg.getD x.toNat 0 = d := fun hd => by rw [List.getD_eq_getElem?_getD, hd]; rfl
  refine ⟨InR_i64.2 (by omega), br_dec.2 ⟨fun h => ?_, fun h => br_dec.2 ⟨fun h2 => ?_, fun h2 => br_dec.2 ⟨fun h3 => ?_, fun h3 => br_dec.2 ⟨fun h4 => ?_, fun h4 => br_dec.2 ⟨fun h5 => ?_, fun h5 => ?_⟩⟩⟩⟩⟩⟩
  · have e : locS (id, fn, pc, rg, st, ch, ph, su, fa, he, ()) (op, a, b, c, obj, n, fo, ord, ()) = ((id, fn, pc + 1, rg.set a.toNat n, st, ch, ph, su, fa, he, ()), true) := by simp only [locS, if_pos h]
    rw [e]; exact ⟨hA, hA8, rfl, rfl⟩
  · refine ⟨hB, hB8, fun d hd => ?_⟩
    have e : locS (id, fn, pc, rg, st, ch, ph, su, fa, he, ()) (op, a, b, c, obj, n, fo, ord, ()) = ((id, fn, pc + 1, rg.set a.toNat d, st, ch, ph, su, fa, he, ()), true) := by simp only [locS, if_neg h, if_pos h2, gd hd]
    rw [e]; exact ⟨hA, hA8, rfl, rfl⟩
  · refine ⟨hB, hB8, fun d hd => ⟨hC, hC8, fun d1 hd1 => ⟨trivial, hA, hA8, rfl, ?_⟩⟩⟩
    have h8 := h33 h3
    rw [gd hd, gd hd1] at h8
    have e : locS (id, fn, pc, rg, st, ch, ph, su, fa, he, ()) (op, a, b, c, obj, n, fo, ord, ()) = ((id, fn, pc + 1, rg.set a.toNat (applyS fo d d1).1, st, ch, ph, su, fa, he, ()), true) := by simp only [locS, if_neg h, if_neg h2, if_pos h3, gd hd, gd hd1, if_pos h8]
    rw [e]
  · have e : locS (id, fn, pc, rg, st, ch, ph, su, fa, he, ()) (op, a, b, c, obj, n, fo, ord, ()) = ((id, fn, n, rg, st, ch, ph, su, fa, he, ()), true) := by simp only [locS, if_neg h, if_neg h2, if_neg h3, if_pos h4]
    rw [e]; exact ⟨rfl, rfl⟩
  · refine ⟨hB, hB8, fun d hd => br_iff.2 ⟨fun h8 => ?_, fun h8 => ?_⟩⟩
    · have h8 : ¬ d = 0 := by simpa using h8
      have e : locS (id, fn, pc, rg, st, ch, ph, su, fa, he, ()) (op, a, b, c, obj, n, fo, ord, ()) = ((id, fn, n, rg, st, ch, ph, su, fa, he, ()), true) := by simp only [locS, if_neg h, if_neg h2, if_neg h3, if_neg h4, if_pos h5, gd hd, if_neg h8]
      rw [e]; exact ⟨rfl, rfl⟩
    · have h8 : d = 0 := by simpa using h8
      have e : locS (id, fn, pc, rg, st, ch, ph, su, fa, he, ()) (op, a, b, c, obj, n, fo, ord, ()) = ((id, fn, pc + 1, rg, st, ch, ph, su, fa, he, ()), true) := by simp only [locS, if_neg h, if_neg h2, if_neg h3, if_neg h4, if_pos h5, gd hd, if_pos h8]
      rw [e]; exact ⟨rfl, rfl⟩
  · have e : locS (id, fn, pc, rg, st, ch, ph, su, fa, he, ()) (op, a, b, c, obj, n, fo, ord, ()) = ((id, fn, pc + 1, rg, st, ch, ph, su, fa, he, ()), true) := by simp only [locS, if_neg h, if_neg h2, if_neg h3, if_neg h4, if_neg h5, if_neg h77]; rw [if_neg h66]
    rw [e]; exact ⟨rfl, rfl⟩
set_option maxHeartbeats 2000000 in
set_option maxRecDepth 100000 in
theorem f54_met : Go.Eng.Met Tryz.prog cx0.gd 54 ctrLoc :=
  (met_all (cx := cx0) (n := 72) (cl := cl54) (il := il54) (hl := hl54) (ml := ml54) (rc := [.data shT]) (lits := []) (suf := []) (by kernel_rfl) tis_ok ⟨f75_met, trivial⟩ trivial trivial trivial Tryz.func54 (by kernel_rfl) (by kernel_rfl) rfl (by kernel_rfl) (by kernel_rfl) (by simp) fun d hd => by
    obtain ⟨⟨id, fn, pc, rg, st, ch, ph, su, fa, he, ⟨⟩⟩, ⟨op, a, b, c, obj, n, fo, ord, ⟨⟩⟩, ⟨⟩⟩ := d
    exact ex_of (ann54 id fn pc rg st ch ph su fa he op a b c obj n fo ord) (f54_vc id fn pc rg st ch ph su fa he op a b c obj n fo ord hd) (by kernel_rfl)).met
end Go.Proofs.YtklnffdjhoacoaaGreatDoor
set_option linter.unusedSimpArgs false
set_option linter.unusedVariables false
set_option maxRecDepth 100000
namespace Go.Proofs.YtklnffdjhoacoaaGreatDoor
open Go Go.Eng

@[reducible] def ctrStd : CT := { ps := [shP, .int .i64], pre := fun d => bnd (d.1, ()), res := fun d => ([], .one (.c (.v (.int .i64 (stdS (chkP d.1.1 d.1.2.1 d.1.2.2.1 d.1.2.2.2.1 d.1.2.2.2.2.1).1 d.2.1))))) }
@[reducible] noncomputable def cl27 : List (Nat × CT) := [(52, ctrChk)]
@[reducible] def ann27 (vs : List VD) (ms : List ByteArray) (cs : List ByteArray) (fs : List FD) (ts : List SD) (bound : Int) : Nat → Option (St → Ann) := fun _ => none
set_option maxRecDepth 100000 in
theorem f27_vc (vs : List VD) (ms : List ByteArray) (cs : List ByteArray) (fs : List FD) (ts : List SD) (bound : Int) (hpre : ctrStd.pre ((vs, ms, cs, fs, ts, ()), bound, ())) :
    (vs.length ≤ (1000000 : Nat) ∧ ms.length ≤ (1000000 : Nat) ∧ cs.length ≤ (1000000 : Nat) ∧ fs.length ≤ (1000000 : Nat) ∧ ts.length ≤ (1000000 : Nat) ∧ (∀ (x : Sh.str.den × (shI.sl.pair Sh.unit).den), x ∈ fs → List.length x.snd.fst ≤ (1000000 : Nat)) ∧ (instL fs).length ≤ (1000000 : Nat)) ∧ br (!decide ((chkP vs ms cs fs ts).fst = (0 : Int))) (([] : List Go.Eng.Res) = [] ∧ Ent.one (SV.c (SC.v (Value.int IntKind.i64 (stdS (chkP vs ms cs fs ts).fst bound)))) = Ent.one (SV.c (SC.v (Value.int IntKind.i64 (chkP vs ms cs fs ts).fst)))) (br (decide (bound < (1 : Int)) || decide ((32 : Int) < bound)) (([] : List Go.Eng.Res) = [] ∧ Ent.one (SV.c (SC.v (Value.int IntKind.i64 (stdS (chkP vs ms cs fs ts).fst bound)))) = Ent.one (SV.c (SC.v (Value.int IntKind.i64 (2 : Int))))) (([] : List Go.Eng.Res) = [] ∧ Ent.one (SV.c (SC.v (Value.int IntKind.i64 (stdS (chkP vs ms cs fs ts).fst bound)))) = Ent.one (SV.c (SC.v (Value.int IntKind.i64 (0 : Int)))))) := by
  have hb : bnd ((vs, ms, cs, fs, ts, ()), ()) := hpre
  refine ⟨hb, br_iff.2 ⟨fun h => ?_, fun h => br_iff.2 ⟨fun h2 => ?_, fun h2 => ?_⟩⟩⟩
  · have h : (chkP vs ms cs fs ts).1 ≠ 0 := by simpa using h
    unfold stdS
    rw [if_pos h]; exact ⟨rfl, rfl⟩
  · have h : ¬ (chkP vs ms cs fs ts).1 ≠ 0 := by simpa using h
    have h2 : bound < 1 ∨ 32 < bound := by simpa using h2
    unfold stdS
    rw [if_neg h, if_pos h2]; exact ⟨rfl, rfl⟩
  · have h : ¬ (chkP vs ms cs fs ts).1 ≠ 0 := by simpa using h
    have h2 : ¬ (bound < 1 ∨ 32 < bound) := by simp only [Bool.or_eq_false_iff, decide_eq_false_iff_not] at h2; omega
    unfold stdS
    rw [if_neg h, if_neg h2]; exact ⟨rfl, rfl⟩
set_option maxHeartbeats 2000000 in
set_option maxRecDepth 100000 in
theorem f27_met : Go.Eng.Met Tryz.prog cx0.gd 27 ctrStd :=
  met_of (cx := cx0) (n := 23) (cl := cl27) (by kernel_rfl) tis_ok ⟨f52_met, trivial⟩ Tryz.func27 (by kernel_rfl) (by kernel_rfl) rfl (by kernel_rfl) (by kernel_rfl) fun d hd => by
    obtain ⟨⟨vs, ms, cs, fs, ts, ⟨⟩⟩, bound, ⟨⟩⟩ := d
    exact ex_of (ann27 vs ms cs fs ts bound) (f27_vc vs ms cs fs ts bound hd) (by kernel_rfl)
@[reducible] noncomputable def ctrFrm : CT := { ps := [shP, .int .i64, shT], pre := fun d => True ∧ d.2.2.1.2.2.2.2.2.2.2.2.2.1.length ≤ 1000000 ∧ d.2.2.1.1 ≤ 9223372036854775807 ∧ d.2.2.1.2.2.2.1.length = 8, res := fun d => ([], vB (formedB d.1.2.1 d.1.2.2.2.1 d.2.1 d.2.2.1)) }
@[reducible] noncomputable def cl41 : List (Nat × CT) := [(28, ctIsI), (37, ctCode), (29, ctrV20), (60, ctrDp), (61, ctrHas)]
@[reducible] def ann41 (vs : List VD) (ms : List ByteArray) (cs : List ByteArray) (fs : List FD) (ts : List SD) (bound : Int) (id : Int) (fn : Int) (pc : Int) (rg : List Int) (st : Int) (ch : Int) (ph : Int) (su : Int) (fa : Int) (he : List Int) : Nat → Option (St → Ann) := fun k => match k with
  | 4 => some fun _ => .inv { α := Nat, slots := fun k => [(7, .c (.v (.int .i64 k)))], res := fun _ => [], inv := fun k => k ≤ 8 ∧ ∀ j < k, ∀ r, rg[j]? = some r → valS r = true, meas := fun k => 8 - k }
  | 11 => some fun _ => .inv { α := Nat, slots := fun k => [(8, .c (.v (.int .i64 k)))], res := fun _ => [], inv := fun k => k ≤ he.length ∧ (∀ j < k, ∀ m, he[j]? = some m → 0 ≤ m ∧ m < ms.length) ∧ ∀ j, j + 1 < k → ∀ x y, he[j]? = some x → he[j + 1]? = some y → x < y, meas := fun k => he.length - k }
  | _ => none
@[reducible] def il41 : List (Nat × IP) := []
@[reducible] def hl41 : List (Nat × Nat × CT) := []
@[reducible] noncomputable def ml41 : List (Nat × MK) := []
set_option maxRecDepth 100000 in
theorem f41_vc (vs : List VD) (ms : List ByteArray) (cs : List ByteArray) (fs : List FD) (ts : List SD) (bound : Int) (id : Int) (fn : Int) (pc : Int) (rg : List Int) (st : Int) (ch : Int) (ph : Int) (su : Int) (fa : Int) (he : List Int) (hpre : ctrFrm.pre ((vs, ms, cs, fs, ts, ()), bound, (id, fn, pc, rg, st, ch, ph, su, fa, he, ()), ())) :
    id ≤ (9223372036854775807 : I6.den) ∧ ((!(!decide ((0 : Int) ≤ depthI id) || decide (fn < (0 : Int)) || decide ((↑fs.length : Int) ≤ fn) || decide (pc < (0 : Int)))) = true → (0 : I6.den) ≤ fn ∧ fn < (↑fs.length : I6.den)) ∧ br (!decide ((0 : Int) ≤ depthI id) || decide (fn < (0 : Int)) || decide ((↑fs.length : Int) ≤ fn) || decide (pc < (0 : Int)) || decide ((↑(codeF fs fn).length : Int) < pc)) (([] : List Go.Eng.Res) = [] ∧ Ent.one (SV.c (SC.v (Value.bool (formedB ms fs bound (id, fn, pc, rg, st, ch, ph, su, fa, he, ()))))) = Ent.one (SV.c (SC.v (Value.bool false)))) ((∃ x, (x ≤ (8 : Nat) ∧ ∀ (j : Nat), j < x → ∀ (r : Int), rg[j]? = some r → valS r = true) ∧ (SV.c (SC.v (Value.int IntKind.i64 (0 : Int))) = SV.c (SC.v (Value.int IntKind.i64 (↑x : Int))) ∧ True) ∧ [(([] : Go.Eng.Gd), Res.blk (27 : Nat) [SC.sl (Sh.str.pair (I6.pair Sh.unit)) vs, SC.sl Sh.str ms, SC.sl Sh.str cs, SC.sl (Sh.str.pair (shI.sl.pair Sh.unit)) fs, SC.sl (I6.pair (I6.pair Sh.unit)) ts]), (([] : Go.Eng.Gd), Res.obj (38 : Nat) shT (id, fn, pc, rg, st, ch, ph, su, fa, he, ()))] = [(([] : Go.Eng.Gd), Res.blk (27 : Nat) [SC.sl (Sh.str.pair (I6.pair Sh.unit)) vs, SC.sl Sh.str ms, SC.sl Sh.str cs, SC.sl (Sh.str.pair (shI.sl.pair Sh.unit)) fs, SC.sl (I6.pair (I6.pair Sh.unit)) ts]), (([] : Go.Eng.Gd), Res.obj (38 : Nat) shT (id, fn, pc, rg, st, ch, ph, su, fa, he, ()))]) ∧ ∀ (x : Nat), (x ≤ (8 : Nat) ∧ ∀ (j : Nat), j < x → ∀ (r : Int), rg[j]? = some r → valS r = true) → br (decide ((↑x : Int) < (8 : Int))) (((0 : Int) ≤ (↑x : Int) ∧ (↑x : Int) < (8 : Int)) ∧ (↑x : Int).toNat < (8 : Nat) ∧ ∀ (d : Int), rg[(↑x : Int).toNat]? = some d → True ∧ br (!valS d) (([] : List Go.Eng.Res) = [] ∧ Ent.one (SV.c (SC.v (Value.bool (formedB ms fs bound (id, fn, pc, rg, st, ch, ph, su, fa, he, ()))))) = Ent.one (SV.c (SC.v (Value.bool false)))) (InR IntKind.i64 ((↑x : Int) + (1 : Int)) ∧ ∃ x', (x' ≤ (8 : Nat) ∧ ∀ (j : Nat), j < x' → ∀ (r : Int), rg[j]? = some r → valS r = true) ∧ (SV.c (SC.v (Value.int IntKind.i64 ((↑x : Int) + (1 : Int)))) = SV.c (SC.v (Value.int IntKind.i64 (↑x' : Int))) ∧ True) ∧ [(([] : Go.Eng.Gd), Res.blk (27 : Nat) [SC.sl (Sh.str.pair (I6.pair Sh.unit)) vs, SC.sl Sh.str ms, SC.sl Sh.str cs, SC.sl (Sh.str.pair (shI.sl.pair Sh.unit)) fs, SC.sl (I6.pair (I6.pair Sh.unit)) ts]), (([] : Go.Eng.Gd), Res.obj (38 : Nat) shT (id, fn, pc, rg, st, ch, ph, su, fa, he, ()))] = [(([] : Go.Eng.Gd), Res.blk (27 : Nat) [SC.sl (Sh.str.pair (I6.pair Sh.unit)) vs, SC.sl Sh.str ms, SC.sl Sh.str cs, SC.sl (Sh.str.pair (shI.sl.pair Sh.unit)) fs, SC.sl (I6.pair (I6.pair Sh.unit)) ts]), (([] : Go.Eng.Gd), Res.obj (38 : Nat) shT (id, fn, pc, rg, st, ch, ph, su, fa, he, ()))] ∧ (8 : Nat) - x' < (8 : Nat) - x)) (((decide ((0 : Int) < ch) && !(decide (st < (0 : Int)) || decide (bound < st) || decide (ch < (0 : Int)) || decide ((7 : Int) < ch))) = true → id ≤ (9223372036854775807 : I6.den)) ∧ br (decide (st < (0 : Int)) || decide (bound < st) || decide (ch < (0 : Int)) || decide ((7 : Int) < ch) || decide ((0 : Int) < ch) && decide (depthM id = (4 : Int))) (([] : List Go.Eng.Res) = [] ∧ Ent.one (SV.c (SC.v (Value.bool (formedB ms fs bound (id, fn, pc, rg, st, ch, ph, su, fa, he, ()))))) = Ent.one (SV.c (SC.v (Value.bool false)))) ((∃ x, (x ≤ he.length ∧ (∀ (j : Nat), j < x → ∀ (m : Int), he[j]? = some m → (0 : Int) ≤ m ∧ m < (↑ms.length : Int)) ∧ ∀ (j : Nat), j + (1 : Nat) < x → ∀ (x y : Int), he[j]? = some x → he[j + (1 : Nat)]? = some y → x < y) ∧ (SV.c (SC.v (Value.int IntKind.i64 (0 : Int))) = SV.c (SC.v (Value.int IntKind.i64 (↑x : Int))) ∧ True) ∧ [(([] : Go.Eng.Gd), Res.blk (27 : Nat) [SC.sl (Sh.str.pair (I6.pair Sh.unit)) vs, SC.sl Sh.str ms, SC.sl Sh.str cs, SC.sl (Sh.str.pair (shI.sl.pair Sh.unit)) fs, SC.sl (I6.pair (I6.pair Sh.unit)) ts]), (([] : Go.Eng.Gd), Res.obj (38 : Nat) shT (id, fn, pc, rg, st, ch, ph, su, fa, he, ()))] = [(([] : Go.Eng.Gd), Res.blk (27 : Nat) [SC.sl (Sh.str.pair (I6.pair Sh.unit)) vs, SC.sl Sh.str ms, SC.sl Sh.str cs, SC.sl (Sh.str.pair (shI.sl.pair Sh.unit)) fs, SC.sl (I6.pair (I6.pair Sh.unit)) ts]), (([] : Go.Eng.Gd), Res.obj (38 : Nat) shT (id, fn, pc, rg, st, ch, ph, su, fa, he, ()))]) ∧ ∀ (x : Nat), (x ≤ he.length ∧ (∀ (j : Nat), j < x → ∀ (m : Int), he[j]? = some m → (0 : Int) ≤ m ∧ m < (↑ms.length : Int)) ∧ ∀ (j : Nat), j + (1 : Nat) < x → ∀ (x y : Int), he[j]? = some x → he[j + (1 : Nat)]? = some y → x < y) → br (decide ((↑x : Int) < (↑he.length : Int))) (((0 : Int) ≤ (↑x : Int) ∧ (↑x : Int) < (↑he.length : Int)) ∧ ∀ (d : Int), he[(↑x : Int).toNat]? = some d → ((!decide (d < (0 : Int))) = true → (0 : Int) ≤ (↑x : Int) ∧ (↑x : Int) < (↑he.length : Int)) ∧ ∀ (d_1 : Int), ((!decide (d < (0 : Int))) = true → he[(↑x : Int).toNat]? = some d_1) → ((decide ((0 : Int) < (↑x : Int)) && !(decide (d < (0 : Int)) || decide ((↑ms.length : Int) ≤ d_1))) = true → InR IntKind.i64 ((↑x : Int) - (1 : Int))) ∧ ((decide ((0 : Int) < (↑x : Int)) && !(decide (d < (0 : Int)) || decide ((↑ms.length : Int) ≤ d_1))) = true → (0 : Int) ≤ (↑x : Int) - (1 : Int) ∧ (↑x : Int) - (1 : Int) < (↑he.length : Int)) ∧ ∀ (d_2 : Int), ((decide ((0 : Int) < (↑x : Int)) && !(decide (d < (0 : Int)) || decide ((↑ms.length : Int) ≤ d_1))) = true → he[((↑x : Int) - (1 : Int)).toNat]? = some d_2) → ((decide ((0 : Int) < (↑x : Int)) && !(decide (d < (0 : Int)) || decide ((↑ms.length : Int) ≤ d_1))) = true → (0 : Int) ≤ (↑x : Int) ∧ (↑x : Int) < (↑he.length : Int)) ∧ ∀ (d_3 : Int), ((decide ((0 : Int) < (↑x : Int)) && !(decide (d < (0 : Int)) || decide ((↑ms.length : Int) ≤ d_1))) = true → he[(↑x : Int).toNat]? = some d_3) → br (decide (d < (0 : Int)) || decide ((↑ms.length : Int) ≤ d_1) || decide ((0 : Int) < (↑x : Int)) && decide (d_3 ≤ d_2)) (([] : List Go.Eng.Res) = [] ∧ Ent.one (SV.c (SC.v (Value.bool (formedB ms fs bound (id, fn, pc, rg, st, ch, ph, su, fa, he, ()))))) = Ent.one (SV.c (SC.v (Value.bool false)))) (InR IntKind.i64 ((↑x : Int) + (1 : Int)) ∧ ∃ x', (x' ≤ he.length ∧ (∀ (j : Nat), j < x' → ∀ (m : Int), he[j]? = some m → (0 : Int) ≤ m ∧ m < (↑ms.length : Int)) ∧ ∀ (j : Nat), j + (1 : Nat) < x' → ∀ (x y : Int), he[j]? = some x → he[j + (1 : Nat)]? = some y → x < y) ∧ (SV.c (SC.v (Value.int IntKind.i64 ((↑x : Int) + (1 : Int)))) = SV.c (SC.v (Value.int IntKind.i64 (↑x' : Int))) ∧ True) ∧ [(([] : Go.Eng.Gd), Res.blk (27 : Nat) [SC.sl (Sh.str.pair (I6.pair Sh.unit)) vs, SC.sl Sh.str ms, SC.sl Sh.str cs, SC.sl (Sh.str.pair (shI.sl.pair Sh.unit)) fs, SC.sl (I6.pair (I6.pair Sh.unit)) ts]), (([] : Go.Eng.Gd), Res.obj (38 : Nat) shT (id, fn, pc, rg, st, ch, ph, su, fa, he, ()))] = [(([] : Go.Eng.Gd), Res.blk (27 : Nat) [SC.sl (Sh.str.pair (I6.pair Sh.unit)) vs, SC.sl Sh.str ms, SC.sl Sh.str cs, SC.sl (Sh.str.pair (shI.sl.pair Sh.unit)) fs, SC.sl (I6.pair (I6.pair Sh.unit)) ts]), (([] : Go.Eng.Gd), Res.obj (38 : Nat) shT (id, fn, pc, rg, st, ch, ph, su, fa, he, ()))] ∧ he.length - x' < he.length - x)) (br (decide (ph = (0 : Int))) (([] : List Go.Eng.Res) = [] ∧ Ent.one (SV.c (SC.v (Value.bool (formedB ms fs bound (id, fn, pc, rg, st, ch, ph, su, fa, he, ()))))) = Ent.one (SV.c (SC.v (Value.bool true)))) (((!(!decide (ph = (1 : Int)) && !decide (ph = (2 : Int)))) = true → (0 : I6.den) ≤ fn ∧ fn < (↑fs.length : I6.den)) ∧ br (!decide (ph = (1 : Int)) && !decide (ph = (2 : Int)) || decide (pc = (↑(codeF fs fn).length : Int))) (([] : List Go.Eng.Res) = [] ∧ Ent.one (SV.c (SC.v (Value.bool (formedB ms fs bound (id, fn, pc, rg, st, ch, ph, su, fa, he, ()))))) = Ent.one (SV.c (SC.v (Value.bool false)))) ((((0 : I6.den) ≤ fn ∧ fn < (↑fs.length : I6.den)) ∧ ((0 : Int) ≤ pc ∧ pc < (↑(codeF fs fn).length : Int)) ∧ ∀ (d : I6.den × (I6.pair (I6.pair (I6.pair (I6.pair (I6.pair (I6.pair (I6.pair Sh.unit))))))).den), (codeF fs fn)[pc.toNat]? = some d → (decide (d.fst = (18 : Int)) = true → he.length ≤ (1000000 : Nat)) ∧ ([] : List Go.Eng.Res) = [] ∧ Ent.one (SV.c (SC.v (Value.bool (formedB ms fs bound (id, fn, pc, rg, st, ch, ph, su, fa, he, ()))))) = Ent.one (SV.c (SC.v (Value.bool (decide (d.fst = (18 : Int)) && !hasI he d.snd.snd.snd.snd.snd.fst))))) ∧ ((0 : I6.den) ≤ fn ∧ fn < (↑fs.length : I6.den)) ∧ ((0 : Int) ≤ pc ∧ pc < (↑(codeF fs fn).length : Int)) ∧ ∀ (d : I6.den × (I6.pair (I6.pair (I6.pair (I6.pair (I6.pair (I6.pair (I6.pair Sh.unit))))))).den), (codeF fs fn)[pc.toNat]? = some d → (decide (d.fst = (18 : Int)) = true → he.length ≤ (1000000 : Nat)) ∧ ([] : List Go.Eng.Res) = [] ∧ Ent.one (SV.c (SC.v (Value.bool (formedB ms fs bound (id, fn, pc, rg, st, ch, ph, su, fa, he, ()))))) = Ent.one (SV.c (SC.v (Value.bool (decide (d.fst = (18 : Int)) && !hasI he d.snd.snd.snd.snd.snd.fst)))))))))) := by
  obtain ⟨_, hhe, hid, hrg⟩ : True ∧ he.length ≤ 1000000 ∧ id ≤ 9223372036854775807 ∧ rg.length = 8 := hpre
  have both : ∀ {A : Prop}, A → A ∧ A := fun q => ⟨q, q⟩
  have fF : ¬ Formed ms fs bound (id, fn, pc, rg, st, ch, ph, su, fa, he, ()) → ([] : List Go.Eng.Res) = [] ∧ Ent.one (SV.c (SC.v (Value.bool (formedB ms fs bound (id, fn, pc, rg, st, ch, ph, su, fa, he, ()))))) = Ent.one (SV.c (SC.v (Value.bool false))) := fun q => ⟨rfl, by rw [formedB_false q]⟩
  refine ⟨hid, fun g => by
    simp only [Bool.not_eq_true', Bool.or_eq_false_iff, decide_eq_false_iff_not, Bool.not_eq_false', decide_eq_true_eq] at g
    show (0 : Int) ≤ fn ∧ fn < (fs.length : Int)
    omega, br_iff.2 ⟨fun h => ?_, fun h => ?_⟩⟩
  · refine fF fun q => ?_
    obtain ⟨q1, q2, q3, _⟩ := q
    simp only [Bool.or_eq_true, Bool.not_eq_true', decide_eq_true_eq, decide_eq_false_iff_not] at h; omega
  simp only [Bool.or_eq_false_iff, Bool.not_eq_false', decide_eq_true_eq, decide_eq_false_iff_not] at h
  obtain ⟨⟨⟨⟨h1, h2⟩, h3⟩, h4⟩, h5⟩ := h
  have hfn : 0 ≤ fn ∧ fn < (fs.length : Int) := by omega
  have hpc : 0 ≤ pc ∧ pc ≤ ((codeF fs fn).length : Int) := by omega
  refine ⟨⟨0, ⟨by omega, fun j hj => by omega⟩, ⟨rfl, trivial⟩, rfl⟩, fun k hk => br_iff.2 ⟨fun h => ?_, fun h => ?_⟩⟩
  · simp only [decide_eq_true_eq] at h
    refine ⟨by omega, by omega, fun d hd => ⟨trivial, br_iff.2 ⟨fun h6 => ?_, fun h6 => ⟨InR_i64.2 (by omega), k + 1, ⟨by omega, fun j hj r hr => ?_⟩, ⟨rfl, trivial⟩, rfl, by omega⟩⟩⟩⟩
    · refine fF fun q => ?_
      have := q.2.2.2.1 k (by omega) d hd
      rw [this] at h6; cases h6
    · by_cases hjk : j = k
      · subst hjk
        have hd : rg[j]? = some d := hd
        rw [hd] at hr; cases hr
        simpa using h6
      · exact hk.2 j (by omega) r hr
  simp only [decide_eq_false_iff_not] at h
  have hr : ∀ k < 8, ∀ r, rg[k]? = some r → valS r = true := fun j hj r hr => hk.2 j (by omega) r hr
  have hdm : depthM id = depthI id := by unfold depthM; rw [if_neg (by omega)]
  rw [hdm]
  refine ⟨fun _ => hid, br_iff.2 ⟨fun h7 => ?_, fun h7 => ?_⟩⟩
  · refine fF fun q => ?_
    obtain ⟨_, _, _, _, q5, q6, q7, _⟩ := q
    simp at h7; omega
  simp only [Bool.or_eq_false_iff, Bool.and_eq_false_iff, decide_eq_false_iff_not] at h7
  obtain ⟨⟨⟨⟨a1, a2⟩, a3⟩, a4⟩, a5⟩ := h7
  refine ⟨⟨0, ⟨by omega, fun j hj => by omega, fun j hj => by omega⟩, ⟨rfl, trivial⟩, rfl⟩, fun m hm => br_iff.2 ⟨fun h8 => ?_, fun h8 => ?_⟩⟩
  · simp only [decide_eq_true_eq] at h8
    refine ⟨by omega, fun d hd => ⟨fun _ => by omega, fun d1 hd1 => ⟨fun _ => InR_i64.2 (by omega), fun g => by simp at g; omega, fun d2 hd2 => ⟨fun _ => by omega, fun d3 hd3 => br_iff.2 ⟨fun h9 => ?_, fun h9 => ⟨InR_i64.2 (by omega), m + 1, ⟨by omega, fun j hj r hr => ?_, fun j hj x y hx hy => ?_⟩, ⟨rfl, trivial⟩, rfl, by omega⟩⟩⟩⟩⟩⟩
    · refine fF fun q => ?_
      have hd : he[m]? = some d := hd
      have hq := q.2.2.2.2.2.2.2.1 d (List.mem_of_getElem? hd)
      have hd1 := hd1 (by simp; omega)
      have hd1 : he[m]? = some d1 := hd1
      rw [hd] at hd1; cases hd1
      by_cases m0 : m = 0
      · subst m0; simp at h9; omega
      have g : (decide (0 < (m : Int)) && !(decide (d < 0) || decide ((ms.length : Int) ≤ d))) = true := by simp; omega
      have hd2 := hd2 g
      have hd3 := hd3 g
      rw [show ((m : Int) - 1).toNat = m - 1 by omega] at hd2
      have hd2 : he[m - 1]? = some d2 := hd2
      have hd3 : he[m - 1 + 1]? = some d3 := by rw [show m - 1 + 1 = m by omega]; exact hd3
      have := adj_ss q.2.2.2.2.2.2.1 hd2 hd3
      simp at h9; omega
    all_goals
      have hd : he[m]? = some d := hd
      have q0 : 0 ≤ d := by simp at h9; omega
      have hd1 := hd1 (by simp; omega)
      have hd1 : he[m]? = some d1 := hd1
      rw [hd] at hd1; cases hd1
    · by_cases hjk : j = m
      · subst hjk
        rw [hd] at hr; cases hr
        simp at h9; omega
      · exact hm.2.1 j (by omega) r hr
    · by_cases hjk : j + 1 = m
      · have g : (decide (0 < (m : Int)) && !(decide (d < 0) || decide ((ms.length : Int) ≤ d))) = true := by simp at h9 ⊢; omega
        have hd2 := hd2 g
        have hd3 := hd3 g
        rw [show ((m : Int) - 1).toNat = j by omega] at hd2
        have hd2 : he[j]? = some d2 := hd2
        have hd3 : he[m]? = some d3 := hd3
        rw [hjk, hd] at hy; cases hy
        rw [hd] at hd3; cases hd3
        rw [hd2] at hx; cases hx
        simp at h9; omega
      · exact hm.2.2 j (by omega) x y hx hy
  simp only [decide_eq_false_iff_not] at h8
  have hmm : ∀ m ∈ he, 0 ≤ m ∧ m < (ms.length : Int) := fun y hy => by
    obtain ⟨j, hj⟩ := List.getElem?_of_mem hy
    exact hm.2.1 j (by have := (List.getElem?_eq_some_iff.1 hj).1; omega) y hj
  have hss : SS he := ss_adj fun j x y hx hy => hm.2.2 j (by have := (List.getElem?_eq_some_iff.1 hy).1; omega) x y hx hy
  have base : (ph = 0 ∨ ((ph = 1 ∨ ph = 2) ∧ ∃ i, atS fs fn pc = some i ∧ i.1 = 18 ∧ hasI he i.2.2.2.2.2.1 = false)) ↔ Formed ms fs bound (id, fn, pc, rg, st, ch, ph, su, fa, he, ()) :=
    ⟨fun q => ⟨by omega, hfn, hpc, hr, by omega, ⟨by omega, by omega, fun e => by omega⟩, hss, hmm, q⟩, fun q => q.2.2.2.2.2.2.2.2⟩
  have fB : ∀ b : Bool, (b = true ↔ (ph = 0 ∨ ((ph = 1 ∨ ph = 2) ∧ ∃ i, atS fs fn pc = some i ∧ i.1 = 18 ∧ hasI he i.2.2.2.2.2.1 = false))) → Ent.one (SV.c (SC.v (Value.bool (formedB ms fs bound (id, fn, pc, rg, st, ch, ph, su, fa, he, ()))))) = Ent.one (SV.c (SC.v (Value.bool b))) := fun b hb => by
    have : formedB ms fs bound (id, fn, pc, rg, st, ch, ph, su, fa, he, ()) = b := by
      rw [Bool.eq_iff_iff, hb, base, formedB_iff]
    rw [this]
  refine br_dec.2 ⟨fun h9 => ⟨rfl, fB _ (by simp [h9])⟩, fun h9 => ⟨fun _ => hfn, br_iff.2 ⟨fun g => ⟨rfl, fB _ ?_⟩, fun g => both ⟨hfn, ?_, fun d hd => ⟨fun _ => hhe, rfl, fB _ ?_⟩⟩⟩⟩⟩
  · by_cases g2 : pc = ((codeF fs fn).length : Int)
    · have ha : atS fs fn pc = none := List.getElem?_eq_none (by omega)
      simp [h9, ha]
    · simp [g2] at g
      simp [h9, g]
  · simp at g; omega
  · have ha : atS fs fn pc = some d := hd
    simp at g
    have : ph = 1 ∨ ph = 2 := by omega
    simp [h9, ha, this]
set_option maxHeartbeats 2000000 in
set_option maxRecDepth 100000 in
theorem f41_met : Go.Eng.Met Tryz.prog cx0.gd 41 ctrFrm :=
  (met_all (cx := cx0) (n := 161) (cl := cl41) (il := il41) (hl := hl41) (ml := ml41) (rc := []) (lits := []) (suf := []) (by kernel_rfl) tis_ok ⟨f28_met, f37_met, f29_met, f60_met, f61_met, trivial⟩ trivial trivial trivial Tryz.func41 (by kernel_rfl) (by kernel_rfl) rfl (by kernel_rfl) (by kernel_rfl) (by simp) fun d hd => by
    obtain ⟨⟨vs, ms, cs, fs, ts, ⟨⟩⟩, bound, ⟨id, fn, pc, rg, st, ch, ph, su, fa, he, ⟨⟩⟩, ⟨⟩⟩ := d
    exact ex_of (ann41 vs ms cs fs ts bound id fn pc rg st ch ph su fa he) (f41_vc vs ms cs fs ts bound id fn pc rg st ch ph su fa he hd) (by kernel_rfl)).met
theorem loc_stop {id fn pc st ch ph su fa : Int} {rg he : List Int} {u : Unit} {i : ID} (h : i.1 = 7) : locS (id, fn, pc, rg, st, ch, ph, su, fa, he, u) i = ((id, fn, pc, rg, st, ch, ph, 2, 0, he, ()), false) := by
  obtain ⟨op, a, b, c, obj, n, f, ord, u2⟩ := i
  have h : op = 7 := h
  subst h
  simp [locS]
theorem loc_assert {id fn pc st ch ph su fa : Int} {rg he : List Int} {u : Unit} {i : ID} (h : i.1 = 6) (h0 : rg.getD i.2.2.1.toNat 0 = 0) : locS (id, fn, pc, rg, st, ch, ph, su, fa, he, u) i = ((id, fn, pc, rg, st, ch, ph, 3, 26, he, ()), false) := by
  obtain ⟨op, a, b, c, obj, n, f, ord, u2⟩ := i
  have h : op = 6 := h
  have h0 : rg.getD b.toNat 0 = 0 := h0
  subst h
  simp only [locS]
  rw [if_neg (by decide), if_neg (by decide), if_neg (by decide), if_neg (by decide), if_neg (by decide), if_pos ⟨trivial, h0⟩]
theorem loc_more {id fn pc st ch ph su fa : Int} {rg he : List Int} {u : Unit} {i : ID} (h7 : i.1 ≠ 7) (h6 : ¬ (i.1 = 6 ∧ rg.getD i.2.2.1.toNat 0 = 0)) : (locS (id, fn, pc, rg, st, ch, ph, su, fa, he, u) i).2 = true := by
  obtain ⟨op, a, b, c, obj, n, f, ord, u2⟩ := i
  have h7 : op ≠ 7 := h7
  have h6 : ¬ (op = 6 ∧ rg.getD b.toNat 0 = 0) := h6
  simp only [locS]
  rw [if_neg h6, if_neg h7]
  repeat' split
  all_goals rfl
theorem app_zero {f a b : Int} (h : 1 ≤ f ∧ f ≤ 10) : (applyS f a b).2 = 0 := by
  unfold applyS
  repeat' split
  all_goals first | rfl | omega
@[reducible] def ctrStl : CT := { ps := [shP, .int .i64, shT], pre := fun d => (chkP d.1.1 d.1.2.1 d.1.2.2.1 d.1.2.2.2.1 d.1.2.2.2.2.1).1 = 0 ∧ Formed d.1.2.1 d.1.2.2.2.1 d.2.1 d.2.2.1 ∧ d.2.2.1.2.2.2.2.2.2.2.2.1 = 0 ∧ d.2.2.1.2.2.2.2.2.2.2.2.2.1.length ≤ 1000000 ∧ d.2.2.1.1 ≤ 9223372036854775807 ∧ d.2.2.1.2.2.2.1.length = 8, res := fun d => ([], .one (.dat shT (stlS d.1.2.2.2.1 d.2.1 256 d.2.2.1))) }
@[reducible] noncomputable def cl30 : List (Nat × CT) := [(37, ctCode), (42, ctrVis), (43, ctFlt), (53, ctFai), (54, ctrLoc)]
@[reducible] def ann30 (vs : List VD) (ms : List ByteArray) (cs : List ByteArray) (fs : List FD) (ts : List SD) (bound : Int) (id : Int) (fn : Int) (pc : Int) (rg : List Int) (st : Int) (ch : Int) (ph : Int) (su : Int) (fa : Int) (he : List Int) : Nat → Option (St → Ann) := fun k => match k with
  | 4 => some fun _ => .inv { α := Nat × TD, slots := fun x => [(7, .c (.v (.int .i64 x.1)))], res := fun x => [(1, .obj 38 shT x.2)], inv := fun x => x.1 ≤ 256 ∧ Formed ms fs bound x.2 ∧ x.2.2.2.2.2.2.2.2.2.2.1 = he ∧ x.2.1 = id ∧ x.2.2.2.2.1.length = 8 ∧ x.2.2.2.2.2.2.2.2.2.1 = 0 ∧ stlS fs bound (256 - x.1) x.2 = stlS fs bound 256 (id, fn, pc, rg, st, ch, ph, su, fa, he, ()), meas := fun x => 257 - x.1 }
  | _ => none
@[reducible] def il30 : List (Nat × IP) := []
@[reducible] def hl30 : List (Nat × Nat × CT) := []
@[reducible] noncomputable def ml30 : List (Nat × MK) := []
set_option maxRecDepth 100000 in
theorem f30_vc (vs : List VD) (ms : List ByteArray) (cs : List ByteArray) (fs : List FD) (ts : List SD) (bound : Int) (id : Int) (fn : Int) (pc : Int) (rg : List Int) (st : Int) (ch : Int) (ph : Int) (su : Int) (fa : Int) (he : List Int) (hpre : ctrStl.pre ((vs, ms, cs, fs, ts, ()), bound, (id, fn, pc, rg, st, ch, ph, su, fa, he, ()), ())) :
    InA ((0 : Nat) + List.length (he)) (8 : Nat) ∧ (∃ (x : Nat × TD), (x.fst ≤ (256 : Nat) ∧ Formed ms fs bound x.snd ∧ x.snd.snd.snd.snd.snd.snd.snd.snd.snd.snd.fst = he ∧ x.snd.fst = id ∧ x.snd.snd.snd.snd.fst.length = (8 : Nat) ∧ x.snd.snd.snd.snd.snd.snd.snd.snd.snd.fst = (0 : Int) ∧ stlS fs bound ((256 : Nat) - x.fst) x.snd = stlS fs bound (256 : Nat) (id, fn, pc, rg, st, ch, ph, su, fa, he, ())) ∧ (SV.c (SC.v (Value.int IntKind.i64 (0 : Int))) = SV.c (SC.v (Value.int IntKind.i64 (↑x.fst : Int))) ∧ True) ∧ [(([] : Go.Eng.Gd), Res.blk (27 : Nat) [SC.sl (Sh.str.pair (I6.pair Sh.unit)) vs, SC.sl Sh.str ms, SC.sl Sh.str cs, SC.sl (Sh.str.pair (shI.sl.pair Sh.unit)) fs, SC.sl (I6.pair (I6.pair Sh.unit)) ts]), (([] : Go.Eng.Gd), Res.obj (38 : Nat) shT (id, fn, pc, rg, st, ch, ph, su, fa, ([] ++ he), ())), (([] : Go.Eng.Gd), Res.obj (38 : Nat) shT ((0 : Int), (0 : Int), (0 : Int), List.replicate (8 : Nat) (0 : Int), (0 : Int), (0 : Int), (0 : Int), (0 : Int), (0 : Int), [], ())), (([] : Go.Eng.Gd), Res.gone)] = [(([] : Go.Eng.Gd), Res.blk (27 : Nat) [SC.sl (Sh.str.pair (I6.pair Sh.unit)) vs, SC.sl Sh.str ms, SC.sl Sh.str cs, SC.sl (Sh.str.pair (shI.sl.pair Sh.unit)) fs, SC.sl (I6.pair (I6.pair Sh.unit)) ts]), (([] : Go.Eng.Gd), Res.obj (38 : TypeId) shT x.snd), (([] : Go.Eng.Gd), Res.obj (38 : Nat) shT ((0 : Int), (0 : Int), (0 : Int), List.replicate (8 : Nat) (0 : Int), (0 : Int), (0 : Int), (0 : Int), (0 : Int), (0 : Int), [], ())), (([] : Go.Eng.Gd), Res.gone)]) ∧ ∀ (x : Nat × TD), x.fst ≤ (256 : Nat) ∧ Formed ms fs bound x.snd ∧ x.snd.snd.snd.snd.snd.snd.snd.snd.snd.snd.fst = he ∧ x.snd.fst = id ∧ x.snd.snd.snd.snd.fst.length = (8 : Nat) ∧ x.snd.snd.snd.snd.snd.snd.snd.snd.snd.fst = (0 : Int) ∧ stlS fs bound ((256 : Nat) - x.fst) x.snd = stlS fs bound (256 : Nat) (id, fn, pc, rg, st, ch, ph, su, fa, he, ()) → ((0 : I6.den) ≤ x.snd.snd.fst ∧ x.snd.snd.fst < (↑fs.length : I6.den)) ∧ br (decide (x.snd.snd.snd.fst = (↑(codeF fs x.snd.snd.fst).length : Int))) (([] : List Go.Eng.Res) = [] ∧ Ent.one (SV.dat shT (stlS fs bound (256 : Nat) (id, fn, pc, rg, st, ch, ph, su, fa, he, ()))) = Ent.one (SV.dat shT ((x.2.fst, x.2.2.fst, x.2.2.2.fst, x.2.2.2.2.fst, x.2.2.2.2.2.fst, x.2.2.2.2.2.2.fst, x.2.2.2.2.2.2.2.fst, (2 : Int), x.2.2.2.2.2.2.2.2.snd)))) ((((0 : I6.den) ≤ x.snd.snd.fst ∧ x.snd.snd.fst < (↑fs.length : I6.den)) ∧ ((0 : Int) ≤ x.snd.snd.snd.fst ∧ x.snd.snd.snd.fst < (↑(codeF fs x.snd.snd.fst).length : Int)) ∧ ∀ (d : I6.den × (I6.pair (I6.pair (I6.pair (I6.pair (I6.pair (I6.pair (I6.pair Sh.unit))))))).den), (codeF fs x.snd.snd.fst)[Int.toNat x.snd.snd.snd.fst]? = some d → True ∧ br (visS d.fst) ((List.length x.snd.snd.snd.snd.snd.snd.snd.snd.snd.snd.fst ≤ (1000000 : Nat) ∧ x.snd.fst ≤ (9223372036854775807 : I6.den)) ∧ br (!decide (obsS x.snd.fst x.snd.snd.snd.snd.snd.snd.fst x.snd.snd.snd.snd.snd.snd.snd.fst x.snd.snd.snd.snd.snd.snd.snd.snd.snd.snd.fst d = (0 : Int))) (True ∧ ([] : List Go.Eng.Res) = [] ∧ Ent.one (SV.dat shT (stlS fs bound (256 : Nat) (id, fn, pc, rg, st, ch, ph, su, fa, he, ()))) = Ent.one (SV.dat shT (endS x.snd (3 : Int) (obsS x.snd.fst x.snd.snd.snd.snd.snd.snd.fst x.snd.snd.snd.snd.snd.snd.snd.fst x.snd.snd.snd.snd.snd.snd.snd.snd.snd.snd.fst d)))) (br (decide (x.snd.snd.snd.snd.snd.fst = bound)) (([] : List Go.Eng.Res) = [] ∧ Ent.one (SV.dat shT (stlS fs bound (256 : Nat) (id, fn, pc, rg, st, ch, ph, su, fa, he, ()))) = Ent.one (SV.dat shT ((x.2.fst, x.2.2.fst, x.2.2.2.fst, x.2.2.2.2.fst, x.2.2.2.2.2.fst, x.2.2.2.2.2.2.fst, x.2.2.2.2.2.2.2.fst, (4 : Int), x.2.2.2.2.2.2.2.2.snd)))) (([] : List Go.Eng.Res) = [] ∧ Ent.one (SV.dat shT (stlS fs bound (256 : Nat) (id, fn, pc, rg, st, ch, ph, su, fa, he, ()))) = Ent.one (SV.dat shT (x.snd))))) (br (decide ((↑x.fst : Int) = (256 : Int))) (True ∧ ([] : List Go.Eng.Res) = [] ∧ Ent.one (SV.dat shT (stlS fs bound (256 : Nat) (id, fn, pc, rg, st, ch, ph, su, fa, he, ()))) = Ent.one (SV.dat shT (endS x.snd (3 : Int) (29 : Int)))) (br (decide (d.fst = (7 : Int))) (([] : List Go.Eng.Res) = [] ∧ Ent.one (SV.dat shT (stlS fs bound (256 : Nat) (id, fn, pc, rg, st, ch, ph, su, fa, he, ()))) = Ent.one (SV.dat shT ((x.2.fst, x.2.2.fst, x.2.2.2.fst, x.2.2.2.2.fst, x.2.2.2.2.2.fst, x.2.2.2.2.2.2.fst, x.2.2.2.2.2.2.2.fst, (2 : Int), x.2.2.2.2.2.2.2.2.snd)))) ((decide (d.fst = (6 : Int)) = true → (0 : Int) ≤ d.snd.snd.fst ∧ d.snd.snd.fst < (8 : Int)) ∧ (decide (d.fst = (6 : Int)) = true → Int.toNat d.snd.snd.fst < (8 : Nat)) ∧ ∀ (d_1 : Int), (decide (d.fst = (6 : Int)) = true → (x.2.2.2.2.fst, (8 : Nat), (0 : Nat)).fst[Int.toNat d.snd.snd.fst]? = some d_1) → br (decide (d.fst = (6 : Int)) && decide (d_1 = (0 : Int))) (True ∧ ([] : List Go.Eng.Res) = [] ∧ Ent.one (SV.dat shT (stlS fs bound (256 : Nat) (id, fn, pc, rg, st, ch, ph, su, fa, he, ()))) = Ent.one (SV.dat shT (endS x.snd (3 : Int) (26 : Int)))) ((((0 : I6.den) ≤ d.snd.fst ∧ d.snd.fst < (8 : I6.den)) ∧ ((0 : I6.den) ≤ d.snd.snd.fst ∧ d.snd.snd.fst < (8 : I6.den)) ∧ ((0 : I6.den) ≤ d.snd.snd.snd.fst ∧ d.snd.snd.snd.fst < (8 : I6.den)) ∧ ((0 : I6.den) ≤ x.snd.snd.snd.fst ∧ x.snd.snd.snd.fst ≤ (1000000 : I6.den)) ∧ (d.fst = (3 : I6.den) → (applyS (d.snd.snd.snd.snd.snd.snd.fst, d.snd.snd.snd.snd.snd.snd.snd.fst, ()).fst (List.getD x.snd.snd.snd.snd.fst (Int.toNat d.snd.snd.fst) (0 : I6.den)) (List.getD x.snd.snd.snd.snd.fst (Int.toNat d.snd.snd.snd.fst) (0 : I6.den))).snd = (0 : Int)) ∧ ¬(d.fst = (6 : I6.den) ∧ List.getD x.snd.snd.snd.snd.fst (Int.toNat d.snd.snd.fst) (0 : I6.den) = (0 : I6.den)) ∧ d.fst ≠ (7 : I6.den)) ∧ InR IntKind.i64 ((↑x.fst : Int) + (1 : Int)) ∧ ∃ (x' : Nat × TD), (x'.fst ≤ (256 : Nat) ∧ Formed ms fs bound x'.snd ∧ x'.snd.snd.snd.snd.snd.snd.snd.snd.snd.snd.fst = he ∧ x'.snd.fst = id ∧ x'.snd.snd.snd.snd.fst.length = (8 : Nat) ∧ x'.snd.snd.snd.snd.snd.snd.snd.snd.snd.fst = (0 : Int) ∧ stlS fs bound ((256 : Nat) - x'.fst) x'.snd = stlS fs bound (256 : Nat) (id, fn, pc, rg, st, ch, ph, su, fa, he, ())) ∧ (SV.c (SC.v (Value.int IntKind.i64 ((↑x.fst : Int) + (1 : Int)))) = SV.c (SC.v (Value.int IntKind.i64 (↑x'.fst : Int))) ∧ True) ∧ [(([] : Go.Eng.Gd), Res.blk (27 : Nat) [SC.sl (Sh.str.pair (I6.pair Sh.unit)) vs, SC.sl Sh.str ms, SC.sl Sh.str cs, SC.sl (Sh.str.pair (shI.sl.pair Sh.unit)) fs, SC.sl (I6.pair (I6.pair Sh.unit)) ts]), (([] : Go.Eng.Gd), Res.obj (38 : TypeId) shT ((locS x.snd d).fst)), (([] : Go.Eng.Gd), Res.obj (38 : Nat) shT ((0 : Int), (0 : Int), (0 : Int), List.replicate (8 : Nat) (0 : Int), (0 : Int), (0 : Int), (0 : Int), (0 : Int), (0 : Int), [], ())), (([] : Go.Eng.Gd), Res.gone)] = [(([] : Go.Eng.Gd), Res.blk (27 : Nat) [SC.sl (Sh.str.pair (I6.pair Sh.unit)) vs, SC.sl Sh.str ms, SC.sl Sh.str cs, SC.sl (Sh.str.pair (shI.sl.pair Sh.unit)) fs, SC.sl (I6.pair (I6.pair Sh.unit)) ts]), (([] : Go.Eng.Gd), Res.obj (38 : TypeId) shT x'.snd), (([] : Go.Eng.Gd), Res.obj (38 : Nat) shT ((0 : Int), (0 : Int), (0 : Int), List.replicate (8 : Nat) (0 : Int), (0 : Int), (0 : Int), (0 : Int), (0 : Int), (0 : Int), [], ())), (([] : Go.Eng.Gd), Res.gone)] ∧ (257 : Nat) - x'.fst < (257 : Nat) - x.fst))))) ∧ ((0 : I6.den) ≤ x.snd.snd.fst ∧ x.snd.snd.fst < (↑fs.length : I6.den)) ∧ ((0 : Int) ≤ x.snd.snd.snd.fst ∧ x.snd.snd.snd.fst < (↑(codeF fs x.snd.snd.fst).length : Int)) ∧ ∀ (d : I6.den × (I6.pair (I6.pair (I6.pair (I6.pair (I6.pair (I6.pair (I6.pair Sh.unit))))))).den), (codeF fs x.snd.snd.fst)[Int.toNat x.snd.snd.snd.fst]? = some d → True ∧ br (visS d.fst) ((List.length x.snd.snd.snd.snd.snd.snd.snd.snd.snd.snd.fst ≤ (1000000 : Nat) ∧ x.snd.fst ≤ (9223372036854775807 : I6.den)) ∧ br (!decide (obsS x.snd.fst x.snd.snd.snd.snd.snd.snd.fst x.snd.snd.snd.snd.snd.snd.snd.fst x.snd.snd.snd.snd.snd.snd.snd.snd.snd.snd.fst d = (0 : Int))) (True ∧ ([] : List Go.Eng.Res) = [] ∧ Ent.one (SV.dat shT (stlS fs bound (256 : Nat) (id, fn, pc, rg, st, ch, ph, su, fa, he, ()))) = Ent.one (SV.dat shT (endS x.snd (3 : Int) (obsS x.snd.fst x.snd.snd.snd.snd.snd.snd.fst x.snd.snd.snd.snd.snd.snd.snd.fst x.snd.snd.snd.snd.snd.snd.snd.snd.snd.snd.fst d)))) (br (decide (x.snd.snd.snd.snd.snd.fst = bound)) (([] : List Go.Eng.Res) = [] ∧ Ent.one (SV.dat shT (stlS fs bound (256 : Nat) (id, fn, pc, rg, st, ch, ph, su, fa, he, ()))) = Ent.one (SV.dat shT ((x.2.fst, x.2.2.fst, x.2.2.2.fst, x.2.2.2.2.fst, x.2.2.2.2.2.fst, x.2.2.2.2.2.2.fst, x.2.2.2.2.2.2.2.fst, (4 : Int), x.2.2.2.2.2.2.2.2.snd)))) (([] : List Go.Eng.Res) = [] ∧ Ent.one (SV.dat shT (stlS fs bound (256 : Nat) (id, fn, pc, rg, st, ch, ph, su, fa, he, ()))) = Ent.one (SV.dat shT (x.snd))))) (br (decide ((↑x.fst : Int) = (256 : Int))) (True ∧ ([] : List Go.Eng.Res) = [] ∧ Ent.one (SV.dat shT (stlS fs bound (256 : Nat) (id, fn, pc, rg, st, ch, ph, su, fa, he, ()))) = Ent.one (SV.dat shT (endS x.snd (3 : Int) (29 : Int)))) (br (decide (d.fst = (7 : Int))) (([] : List Go.Eng.Res) = [] ∧ Ent.one (SV.dat shT (stlS fs bound (256 : Nat) (id, fn, pc, rg, st, ch, ph, su, fa, he, ()))) = Ent.one (SV.dat shT ((x.2.fst, x.2.2.fst, x.2.2.2.fst, x.2.2.2.2.fst, x.2.2.2.2.2.fst, x.2.2.2.2.2.2.fst, x.2.2.2.2.2.2.2.fst, (2 : Int), x.2.2.2.2.2.2.2.2.snd)))) ((decide (d.fst = (6 : Int)) = true → (0 : Int) ≤ d.snd.snd.fst ∧ d.snd.snd.fst < (8 : Int)) ∧ (decide (d.fst = (6 : Int)) = true → Int.toNat d.snd.snd.fst < (8 : Nat)) ∧ ∀ (d_1 : Int), (decide (d.fst = (6 : Int)) = true → (x.2.2.2.2.fst, (8 : Nat), (0 : Nat)).fst[Int.toNat d.snd.snd.fst]? = some d_1) → br (decide (d.fst = (6 : Int)) && decide (d_1 = (0 : Int))) (True ∧ ([] : List Go.Eng.Res) = [] ∧ Ent.one (SV.dat shT (stlS fs bound (256 : Nat) (id, fn, pc, rg, st, ch, ph, su, fa, he, ()))) = Ent.one (SV.dat shT (endS x.snd (3 : Int) (26 : Int)))) ((((0 : I6.den) ≤ d.snd.fst ∧ d.snd.fst < (8 : I6.den)) ∧ ((0 : I6.den) ≤ d.snd.snd.fst ∧ d.snd.snd.fst < (8 : I6.den)) ∧ ((0 : I6.den) ≤ d.snd.snd.snd.fst ∧ d.snd.snd.snd.fst < (8 : I6.den)) ∧ ((0 : I6.den) ≤ x.snd.snd.snd.fst ∧ x.snd.snd.snd.fst ≤ (1000000 : I6.den)) ∧ (d.fst = (3 : I6.den) → (applyS (d.snd.snd.snd.snd.snd.snd.fst, d.snd.snd.snd.snd.snd.snd.snd.fst, ()).fst (List.getD x.snd.snd.snd.snd.fst (Int.toNat d.snd.snd.fst) (0 : I6.den)) (List.getD x.snd.snd.snd.snd.fst (Int.toNat d.snd.snd.snd.fst) (0 : I6.den))).snd = (0 : Int)) ∧ ¬(d.fst = (6 : I6.den) ∧ List.getD x.snd.snd.snd.snd.fst (Int.toNat d.snd.snd.fst) (0 : I6.den) = (0 : I6.den)) ∧ d.fst ≠ (7 : I6.den)) ∧ InR IntKind.i64 ((↑x.fst : Int) + (1 : Int)) ∧ ∃ (x' : Nat × TD), (x'.fst ≤ (256 : Nat) ∧ Formed ms fs bound x'.snd ∧ x'.snd.snd.snd.snd.snd.snd.snd.snd.snd.snd.fst = he ∧ x'.snd.fst = id ∧ x'.snd.snd.snd.snd.fst.length = (8 : Nat) ∧ x'.snd.snd.snd.snd.snd.snd.snd.snd.snd.fst = (0 : Int) ∧ stlS fs bound ((256 : Nat) - x'.fst) x'.snd = stlS fs bound (256 : Nat) (id, fn, pc, rg, st, ch, ph, su, fa, he, ())) ∧ (SV.c (SC.v (Value.int IntKind.i64 ((↑x.fst : Int) + (1 : Int)))) = SV.c (SC.v (Value.int IntKind.i64 (↑x'.fst : Int))) ∧ True) ∧ [(([] : Go.Eng.Gd), Res.blk (27 : Nat) [SC.sl (Sh.str.pair (I6.pair Sh.unit)) vs, SC.sl Sh.str ms, SC.sl Sh.str cs, SC.sl (Sh.str.pair (shI.sl.pair Sh.unit)) fs, SC.sl (I6.pair (I6.pair Sh.unit)) ts]), (([] : Go.Eng.Gd), Res.obj (38 : TypeId) shT ((locS x.snd d).fst)), (([] : Go.Eng.Gd), Res.obj (38 : Nat) shT ((0 : Int), (0 : Int), (0 : Int), List.replicate (8 : Nat) (0 : Int), (0 : Int), (0 : Int), (0 : Int), (0 : Int), (0 : Int), [], ())), (([] : Go.Eng.Gd), Res.gone)] = [(([] : Go.Eng.Gd), Res.blk (27 : Nat) [SC.sl (Sh.str.pair (I6.pair Sh.unit)) vs, SC.sl Sh.str ms, SC.sl Sh.str cs, SC.sl (Sh.str.pair (shI.sl.pair Sh.unit)) fs, SC.sl (I6.pair (I6.pair Sh.unit)) ts]), (([] : Go.Eng.Gd), Res.obj (38 : TypeId) shT x'.snd), (([] : Go.Eng.Gd), Res.obj (38 : Nat) shT ((0 : Int), (0 : Int), (0 : Int), List.replicate (8 : Nat) (0 : Int), (0 : Int), (0 : Int), (0 : Int), (0 : Int), (0 : Int), [], ())), (([] : Go.Eng.Gd), Res.gone)] ∧ (257 : Nat) - x'.fst < (257 : Nat) - x.fst))))) := by
  obtain ⟨hc, hF, hf0, hhe, hid, hrg⟩ : (chkP vs ms cs fs ts).1 = 0 ∧ Formed ms fs bound (id, fn, pc, rg, st, ch, ph, su, fa, he, ()) ∧ fa = 0 ∧ he.length ≤ 1000000 ∧ id ≤ 9223372036854775807 ∧ rg.length = 8 := hpre
  have both : ∀ {A : Prop}, A → A ∧ A := fun q => ⟨q, q⟩
  refine ⟨InA_iff.2 (by omega), ⟨(0, (id, fn, pc, rg, st, ch, ph, su, fa, he, ())), ⟨by omega, hF, rfl, rfl, hrg, hf0, rfl⟩, ⟨rfl, trivial⟩, rfl⟩, fun x hx => ?_⟩
  obtain ⟨k, id', fn', pc', rg', st', ch', ph', su', fa', he', ⟨⟩⟩ := x
  obtain ⟨x1, x2, x3, x4, x5, x7, x6⟩ := hx
  have x1 : k ≤ 256 := x1
  have x3 : he' = he := x3
  have x4 : id' = id := x4
  have x5 : rg'.length = 8 := x5
  have x7 : fa' = 0 := x7
  have x6 : stlS fs bound (256 - k) (id', fn', pc', rg', st', ch', ph', su', fa', he', ()) = stlS fs bound 256 (id, fn, pc, rg, st, ch, ph, su, fa, he, ()) := x6
  have x2 : Formed ms fs bound (id', fn', pc', rg', st', ch', ph', su', fa', he', ()) := x2
  subst x3; subst x4; subst x7
  rw [← x6]
  have hfn := x2.2.1
  have hpc := x2.2.2.1
  refine ⟨hfn, br_dec.2 ⟨fun h => ?_, fun h => both ⟨hfn, ⟨hpc.1, ?_⟩, fun i ha => ?_⟩⟩⟩
  · have ha : atS fs fn' pc' = none := by
      have h : pc' = ((codeF fs fn').length : Int) := h
      exact List.getElem?_eq_none (by omega)
    rw [stl_none ha]; exact ⟨rfl, rfl⟩
  · have h : ¬ pc' = ((codeF fs fn').length : Int) := h
    show pc' < ((codeF fs fn').length : Int)
    omega
  have ha : atS fs fn' pc' = some i := ha
  have hci := (ci_zero (at_ok hc hfn ha)).1
  obtain ⟨r1, r2, r3, r4⟩ := chkI_regs hci
  have h64 := code_short hc hfn
  refine ⟨trivial, br_iff.2 ⟨fun hv => ?_, fun hv => ?_⟩⟩
  · have hv : visS i.1 = true := hv
    rw [stl_vis ha hv]
    refine ⟨⟨hhe, hid⟩, br_iff.2 ⟨fun h1 => ?_, fun h1 => br_dec.2 ⟨fun h2 => ?_, fun h2 => ?_⟩⟩⟩
    · have h1 : obsS id' ch' ph' he' i ≠ 0 := by simpa using h1
      rw [if_pos h1]; exact ⟨trivial, rfl, rfl⟩
    · have h1 : ¬ obsS id' ch' ph' he' i ≠ 0 := by simpa using h1
      have h2 : st' = bound := h2
      rw [if_neg h1, if_pos h2]; exact ⟨rfl, rfl⟩
    · have h1 : ¬ obsS id' ch' ph' he' i ≠ 0 := by simpa using h1
      have h2 : ¬ st' = bound := h2
      rw [if_neg h1, if_neg h2]; exact ⟨rfl, rfl⟩
  · have hv : visS i.1 = false := hv
    refine br_dec.2 ⟨fun h1 => ?_, fun h1 => ?_⟩
    · have h1 : k = 256 := by have : (k : Int) = 256 := h1
                              omega
      rw [h1, show 256 - 256 = 0 from rfl, stl_zero ha hv]
      exact ⟨trivial, rfl, rfl⟩
    · have h1 : ¬ k = 256 := by have : ¬ (k : Int) = 256 := h1
                                omega
      obtain ⟨m, hm⟩ : ∃ m, 256 - k = m + 1 := ⟨255 - k, by omega⟩
      rw [hm, stl_succ ha hv]
      have hk := loc_keep (id', fn', pc', rg', st', ch', ph', su', 0, he', ()) i
      have hlen := loc_len (id', fn', pc', rg', st', ch', ph', su', 0, he', ()) i
      have hfo := loc_formed hc x2 ha hv
      refine br_dec.2 ⟨fun h7 => ?_, fun h7 => ⟨fun _ => r2, fun _ => by omega, fun d1 hd1 => br_iff.2 ⟨fun g => ?_, fun g => ?_⟩⟩⟩
      · rw [loc_stop h7]; exact ⟨rfl, rfl⟩
      · rw [Bool.and_eq_true] at g
        have h6 : i.1 = 6 := of_decide_eq_true g.1
        have h0 : d1 = 0 := of_decide_eq_true g.2
        have hd1 : rg'[i.2.2.1.toNat]? = some d1 := hd1 (decide_eq_true h6)
        have e0 : rg'.getD i.2.2.1.toNat 0 = 0 := by rw [List.getD_eq_getElem?_getD, hd1]; exact h0
        rw [loc_assert h6 e0]; exact ⟨trivial, rfl, rfl⟩
      · have h6 : ¬ (i.1 = 6 ∧ rg'.getD i.2.2.1.toNat 0 = 0) := fun q => by
          have hd1 : rg'[i.2.2.1.toNat]? = some d1 := hd1 (decide_eq_true q.1)
          have e0 : rg'.getD i.2.2.1.toNat 0 = d1 := by rw [List.getD_eq_getElem?_getD, hd1]; rfl
          have := q.2
          rw [e0] at this
          rw [Bool.and_eq_false_iff] at g
          rcases g with g | g
          · exact absurd q.1 (of_decide_eq_false g)
          · exact absurd this (of_decide_eq_false g)
        have hmo := loc_more (id := id') (fn := fn') (pc := pc') (st := st') (ch := ch') (ph := ph') (su := su') (fa := 0) (he := he') (u := ()) h7 h6
        refine ⟨⟨r1, r2, r3, ⟨hpc.1, show pc' ≤ 1000000 by omega⟩, fun h3 => app_zero (chkI_fn hci h3), h6, h7⟩, InR_i64.2 (show (-9223372036854775808 : Int) ≤ (k : Int) + 1 ∧ (k : Int) + 1 ≤ 9223372036854775807 by omega), (k + 1, (locS (id', fn', pc', rg', st', ch', ph', su', 0, he', ()) i).1), ⟨show k + 1 ≤ 256 by omega, hfo, hk.2.2.2.2.2.1, hk.1, hlen.trans x5, (hk.2.2.2.2.2.2 hmo).2, ?_⟩, ⟨rfl, trivial⟩, rfl, show 257 - (k + 1) < 257 - k by omega⟩
        show stlS fs bound (256 - (k + 1)) _ = _
        rw [if_pos hmo, show 256 - (k + 1) = m by omega]
set_option maxHeartbeats 2000000 in
set_option maxRecDepth 100000 in
theorem f30_met : Go.Eng.Met Tryz.prog cx0.gd 30 ctrStl :=
  (met_all (cx := cx0) (n := 75) (cl := cl30) (il := il30) (hl := hl30) (ml := ml30) (rc := [.data shT]) (lits := []) (suf := []) (by kernel_rfl) tis_ok ⟨f37_met, f42_met, f43_met, f53_met, f54_met, trivial⟩ trivial trivial trivial Tryz.func30 (by kernel_rfl) (by kernel_rfl) rfl (by kernel_rfl) (by kernel_rfl) (by simp) fun d hd => by
    obtain ⟨⟨vs, ms, cs, fs, ts, ⟨⟩⟩, bound, ⟨id, fn, pc, rg, st, ch, ph, su, fa, he, ⟨⟩⟩, ⟨⟩⟩ := d
    exact ex_of (ann30 vs ms cs fs ts bound id fn pc rg st ch ph su fa he) (f30_vc vs ms cs fs ts bound id fn pc rg st ch ph su fa he hd) (by kernel_rfl)).met
@[reducible] noncomputable def ctrTV : CT := { ps := [shP, .int .i64, shT], pre := fun d => bnd (d.1, ()) ∧ d.2.2.1.2.2.2.2.2.2.2.2.2.1.length ≤ 1000000 ∧ d.2.2.1.1 ≤ 9223372036854775807 ∧ d.2.2.1.2.2.2.1.length = 8, res := fun d => ([], vB (decide (stdS (chkP d.1.1 d.1.2.1 d.1.2.2.1 d.1.2.2.2.1 d.1.2.2.2.2.1).1 d.2.1 = 0) && vldB d.1.2.1 d.1.2.2.2.1 d.2.1 d.2.2.1)) }
@[reducible] noncomputable def cl18 : List (Nat × CT) := [(27, ctrStd), (41, ctrFrm), (37, ctCode), (42, ctrVis), (43, ctFlt)]
@[reducible] def ann18 (vs : List VD) (ms : List ByteArray) (cs : List ByteArray) (fs : List FD) (ts : List SD) (bound : Int) (id : Int) (fn : Int) (pc : Int) (rg : List Int) (st : Int) (ch : Int) (ph : Int) (su : Int) (fa : Int) (he : List Int) : Nat → Option (St → Ann) := fun _ => none
@[reducible] def il18 : List (Nat × IP) := []
@[reducible] def hl18 : List (Nat × Nat × CT) := []
@[reducible] noncomputable def ml18 : List (Nat × MK) := []
set_option maxRecDepth 100000 in
theorem f18_vc (vs : List VD) (ms : List ByteArray) (cs : List ByteArray) (fs : List FD) (ts : List SD) (bound : Int) (id : Int) (fn : Int) (pc : Int) (rg : List Int) (st : Int) (ch : Int) (ph : Int) (su : Int) (fa : Int) (he : List Int) (hpre : ctrTV.pre ((vs, ms, cs, fs, ts, ()), bound, (id, fn, pc, rg, st, ch, ph, su, fa, he, ()), ())) :
    (vs.length ≤ (1000000 : Nat) ∧ ms.length ≤ (1000000 : Nat) ∧ cs.length ≤ (1000000 : Nat) ∧ fs.length ≤ (1000000 : Nat) ∧ ts.length ≤ (1000000 : Nat) ∧ (∀ (x : Sh.str.den × (shI.sl.pair Sh.unit).den), x ∈ fs → List.length x.snd.fst ≤ (1000000 : Nat)) ∧ (instL fs).length ≤ (1000000 : Nat)) ∧ ((!!decide (stdS (chkP vs ms cs fs ts).fst bound = (0 : Int))) = true → True ∧ he.length ≤ (1000000 : Nat) ∧ id ≤ (9223372036854775807 : I6.den) ∧ rg.length = (8 : Nat)) ∧ br (!decide (stdS (chkP vs ms cs fs ts).fst bound = (0 : Int)) || !formedB ms fs bound (id, fn, pc, rg, st, ch, ph, su, fa, he, ())) (([] : List Go.Eng.Res) = [] ∧ Ent.one (SV.c (SC.v (Value.bool (decide (stdS (chkP vs ms cs fs ts).fst bound = (0 : Int)) && vldB ms fs bound (id, fn, pc, rg, st, ch, ph, su, fa, he, ()))))) = Ent.one (SV.c (SC.v (Value.bool false)))) (((0 : I6.den) ≤ fn ∧ fn < (↑fs.length : I6.den)) ∧ br (decide (su = (2 : Int))) (((!decide (pc = (↑(codeF fs fn).length : Int)) && (decide (fa = (0 : Int)) && decide (ph = (0 : Int)))) = true → (0 : I6.den) ≤ fn ∧ fn < (↑fs.length : I6.den)) ∧ ((!decide (pc = (↑(codeF fs fn).length : Int)) && (decide (fa = (0 : Int)) && decide (ph = (0 : Int)))) = true → (0 : Int) ≤ pc ∧ pc < (↑(codeF fs fn).length : Int)) ∧ ∀ (d : I6.den × (I6.pair (I6.pair (I6.pair (I6.pair (I6.pair (I6.pair (I6.pair Sh.unit))))))).den), ((!decide (pc = (↑(codeF fs fn).length : Int)) && (decide (fa = (0 : Int)) && decide (ph = (0 : Int)))) = true → (codeF fs fn)[pc.toNat]? = some d) → ([] : List Go.Eng.Res) = [] ∧ Ent.one (SV.c (SC.v (Value.bool (decide (stdS (chkP vs ms cs fs ts).fst bound = (0 : Int)) && vldB ms fs bound (id, fn, pc, rg, st, ch, ph, su, fa, he, ()))))) = Ent.one (SV.c (SC.v (Value.bool (decide (fa = (0 : Int)) && decide (ph = (0 : Int)) && (decide (pc = (↑(codeF fs fn).length : Int)) || decide (d.fst = (7 : Int)))))))) (br (decide (pc = (↑(codeF fs fn).length : Int))) (([] : List Go.Eng.Res) = [] ∧ Ent.one (SV.c (SC.v (Value.bool (decide (stdS (chkP vs ms cs fs ts).fst bound = (0 : Int)) && vldB ms fs bound (id, fn, pc, rg, st, ch, ph, su, fa, he, ()))))) = Ent.one (SV.c (SC.v (Value.bool false)))) ((((0 : I6.den) ≤ fn ∧ fn < (↑fs.length : I6.den)) ∧ ((0 : Int) ≤ pc ∧ pc < (↑(codeF fs fn).length : Int)) ∧ ∀ (d : I6.den × (I6.pair (I6.pair (I6.pair (I6.pair (I6.pair (I6.pair (I6.pair Sh.unit))))))).den), (codeF fs fn)[pc.toNat]? = some d → True ∧ br (decide (su = (1 : Int)) || decide (su = (4 : Int))) (((decide (fa = (0 : Int)) && visS d.fst) = true → he.length ≤ (1000000 : Nat) ∧ id ≤ (9223372036854775807 : I6.den)) ∧ ([] : List Go.Eng.Res) = [] ∧ Ent.one (SV.c (SC.v (Value.bool (decide (stdS (chkP vs ms cs fs ts).fst bound = (0 : Int)) && vldB ms fs bound (id, fn, pc, rg, st, ch, ph, su, fa, he, ()))))) = Ent.one (SV.c (SC.v (Value.bool (decide (fa = (0 : Int)) && visS d.fst && decide (obsS id ch ph he d = (0 : Int)) && (decide (su = (1 : Int)) && decide (st < bound) || decide (su = (4 : Int)) && decide ((1 : Int) ≤ st))))))) (br (!decide (su = (3 : Int)) || !decide (ph = (0 : Int))) (([] : List Go.Eng.Res) = [] ∧ Ent.one (SV.c (SC.v (Value.bool (decide (stdS (chkP vs ms cs fs ts).fst bound = (0 : Int)) && vldB ms fs bound (id, fn, pc, rg, st, ch, ph, su, fa, he, ()))))) = Ent.one (SV.c (SC.v (Value.bool false)))) (br (decide (fa = (26 : Int))) ((decide (d.fst = (6 : Int)) = true → (0 : Int) ≤ d.snd.snd.fst ∧ d.snd.snd.fst < (8 : Int)) ∧ (decide (d.fst = (6 : Int)) = true → Int.toNat d.snd.snd.fst < (8 : Nat)) ∧ ∀ (d_1 : Int), (decide (d.fst = (6 : Int)) = true → rg[Int.toNat d.snd.snd.fst]? = some d_1) → ([] : List Go.Eng.Res) = [] ∧ Ent.one (SV.c (SC.v (Value.bool (decide (stdS (chkP vs ms cs fs ts).fst bound = (0 : Int)) && vldB ms fs bound (id, fn, pc, rg, st, ch, ph, su, fa, he, ()))))) = Ent.one (SV.c (SC.v (Value.bool (decide (d.fst = (6 : Int)) && decide (d_1 = (0 : Int))))))) (br (decide (fa = (29 : Int))) (([] : List Go.Eng.Res) = [] ∧ Ent.one (SV.c (SC.v (Value.bool (decide (stdS (chkP vs ms cs fs ts).fst bound = (0 : Int)) && vldB ms fs bound (id, fn, pc, rg, st, ch, ph, su, fa, he, ()))))) = Ent.one (SV.c (SC.v (Value.bool !visS d.fst)))) (((!decide (fa = (0 : Int)) && visS d.fst) = true → he.length ≤ (1000000 : Nat) ∧ id ≤ (9223372036854775807 : I6.den)) ∧ ([] : List Go.Eng.Res) = [] ∧ Ent.one (SV.c (SC.v (Value.bool (decide (stdS (chkP vs ms cs fs ts).fst bound = (0 : Int)) && vldB ms fs bound (id, fn, pc, rg, st, ch, ph, su, fa, he, ()))))) = Ent.one (SV.c (SC.v (Value.bool (!decide (fa = (0 : Int)) && visS d.fst && decide (fa = obsS id ch ph he d)))))))))) ∧ ((0 : I6.den) ≤ fn ∧ fn < (↑fs.length : I6.den)) ∧ ((0 : Int) ≤ pc ∧ pc < (↑(codeF fs fn).length : Int)) ∧ ∀ (d : I6.den × (I6.pair (I6.pair (I6.pair (I6.pair (I6.pair (I6.pair (I6.pair Sh.unit))))))).den), (codeF fs fn)[pc.toNat]? = some d → True ∧ br (decide (su = (1 : Int)) || decide (su = (4 : Int))) (((decide (fa = (0 : Int)) && visS d.fst) = true → he.length ≤ (1000000 : Nat) ∧ id ≤ (9223372036854775807 : I6.den)) ∧ ([] : List Go.Eng.Res) = [] ∧ Ent.one (SV.c (SC.v (Value.bool (decide (stdS (chkP vs ms cs fs ts).fst bound = (0 : Int)) && vldB ms fs bound (id, fn, pc, rg, st, ch, ph, su, fa, he, ()))))) = Ent.one (SV.c (SC.v (Value.bool (decide (fa = (0 : Int)) && visS d.fst && decide (obsS id ch ph he d = (0 : Int)) && (decide (su = (1 : Int)) && decide (st < bound) || decide (su = (4 : Int)) && decide ((1 : Int) ≤ st))))))) (br (!decide (su = (3 : Int)) || !decide (ph = (0 : Int))) (([] : List Go.Eng.Res) = [] ∧ Ent.one (SV.c (SC.v (Value.bool (decide (stdS (chkP vs ms cs fs ts).fst bound = (0 : Int)) && vldB ms fs bound (id, fn, pc, rg, st, ch, ph, su, fa, he, ()))))) = Ent.one (SV.c (SC.v (Value.bool false)))) (br (decide (fa = (26 : Int))) ((decide (d.fst = (6 : Int)) = true → (0 : Int) ≤ d.snd.snd.fst ∧ d.snd.snd.fst < (8 : Int)) ∧ (decide (d.fst = (6 : Int)) = true → Int.toNat d.snd.snd.fst < (8 : Nat)) ∧ ∀ (d_1 : Int), (decide (d.fst = (6 : Int)) = true → rg[Int.toNat d.snd.snd.fst]? = some d_1) → ([] : List Go.Eng.Res) = [] ∧ Ent.one (SV.c (SC.v (Value.bool (decide (stdS (chkP vs ms cs fs ts).fst bound = (0 : Int)) && vldB ms fs bound (id, fn, pc, rg, st, ch, ph, su, fa, he, ()))))) = Ent.one (SV.c (SC.v (Value.bool (decide (d.fst = (6 : Int)) && decide (d_1 = (0 : Int))))))) (br (decide (fa = (29 : Int))) (([] : List Go.Eng.Res) = [] ∧ Ent.one (SV.c (SC.v (Value.bool (decide (stdS (chkP vs ms cs fs ts).fst bound = (0 : Int)) && vldB ms fs bound (id, fn, pc, rg, st, ch, ph, su, fa, he, ()))))) = Ent.one (SV.c (SC.v (Value.bool !visS d.fst)))) (((!decide (fa = (0 : Int)) && visS d.fst) = true → he.length ≤ (1000000 : Nat) ∧ id ≤ (9223372036854775807 : I6.den)) ∧ ([] : List Go.Eng.Res) = [] ∧ Ent.one (SV.c (SC.v (Value.bool (decide (stdS (chkP vs ms cs fs ts).fst bound = (0 : Int)) && vldB ms fs bound (id, fn, pc, rg, st, ch, ph, su, fa, he, ()))))) = Ent.one (SV.c (SC.v (Value.bool (!decide (fa = (0 : Int)) && visS d.fst && decide (fa = obsS id ch ph he d)))))))))))) := by
  obtain ⟨hb, hhe, hid, hrg⟩ : bnd ((vs, ms, cs, fs, ts, ()), ()) ∧ he.length ≤ 1000000 ∧ id ≤ 9223372036854775807 ∧ rg.length = 8 := hpre
  have both : ∀ {A : Prop}, A → A ∧ A := fun q => ⟨q, q⟩
  refine ⟨hb, fun _ => ⟨trivial, hhe, hid, hrg⟩, br_iff.2 ⟨fun h => ⟨rfl, ?_⟩, fun h => ?_⟩⟩
  · have e : (decide (stdS (chkP vs ms cs fs ts).1 bound = 0) && vldB ms fs bound (id, fn, pc, rg, st, ch, ph, su, fa, he, ())) = false := by
      rw [Bool.or_eq_true] at h
      rcases h with q | q
      · rw [show decide (stdS (chkP vs ms cs fs ts).1 bound = 0) = false by simpa using q]; rfl
      · rw [vldB_false fun q2 => (by rw [formedB_iff.2 q2.1] at q; cases q), Bool.and_false]
    rw [e]
  rw [Bool.or_eq_false_iff] at h
  have hs0 : stdS (chkP vs ms cs fs ts).1 bound = 0 := by simpa using h.1
  have hF : Formed ms fs bound (id, fn, pc, rg, st, ch, ph, su, fa, he, ()) := formedB_iff.1 (by simpa using h.2)
  have hc := (std_zero.1 hs0).1
  have hfn := hF.2.1
  have hpc := hF.2.2.1
  refine ⟨hfn, ?_⟩
  have W : ∀ b : Bool, (b = true ↔ (((su = 1 ∧ st < bound ∨ su = 4 ∧ 1 ≤ st) ∧ fa = 0 ∧ ∃ i, atS fs fn pc = some i ∧ visS i.1 = true ∧ obsS id ch ph he i = 0) ∨
     (su = 2 ∧ fa = 0 ∧ ph = 0 ∧ ∀ i, atS fs fn pc = some i → i.1 = 7) ∨
     (su = 3 ∧ ph = 0 ∧ ∃ i, atS fs fn pc = some i ∧ (fa = 26 ∧ i.1 = 6 ∧ rg.getD i.2.2.1.toNat 0 = 0 ∨ fa = 29 ∧ visS i.1 = false ∨ fa ≠ 26 ∧ fa ≠ 29 ∧ fa ≠ 0 ∧ obsS id ch ph he i = fa)))) →
      Ent.one (SV.c (SC.v (Value.bool (decide (stdS (chkP vs ms cs fs ts).1 bound = 0) && vldB ms fs bound (id, fn, pc, rg, st, ch, ph, su, fa, he, ()))))) = Ent.one (SV.c (SC.v (Value.bool b))) := fun b hb => by
    have : (decide (stdS (chkP vs ms cs fs ts).1 bound = 0) && vldB ms fs bound (id, fn, pc, rg, st, ch, ph, su, fa, he, ())) = b := by
      rw [decide_eq_true hs0, Bool.true_and, Bool.eq_iff_iff, hb, vldB_iff]
      exact ⟨fun q => q.2, fun q => ⟨hF, q⟩⟩
    rw [this]
  refine br_dec.2 ⟨fun h2 => ⟨fun _ => hfn, fun g => ?_, fun d hd => ⟨rfl, W _ ?_⟩⟩, fun h2 => br_dec.2 ⟨fun hl => ⟨rfl, W _ ?_⟩, fun hl => both ⟨hfn, by omega, fun i ha => ⟨trivial, br_iff.2 ⟨fun h3 => ⟨fun _ => ⟨hhe, hid⟩, rfl, W _ ?_⟩, fun h3 => br_iff.2 ⟨fun h4 => ⟨rfl, W _ ?_⟩, fun h4 => br_dec.2 ⟨fun h5 => ⟨fun g => ?_, fun g => ?_, fun d1 hd1 => ⟨rfl, W _ ?_⟩⟩, fun h5 => br_dec.2 ⟨fun h6 => ⟨rfl, W _ ?_⟩, fun h6 => ⟨fun _ => ⟨hhe, hid⟩, rfl, W _ ?_⟩⟩⟩⟩⟩⟩⟩⟩⟩
  · simp at g; omega
  · by_cases hl : pc = ((codeF fs fn).length : Int)
    · have ha : atS fs fn pc = none := List.getElem?_eq_none (by omega)
      rw [decide_eq_true hl]
      simp [h2, ha]
    · by_cases g : fa = 0 ∧ ph = 0
      · have ha : atS fs fn pc = some d := hd (by simp [g.1, g.2, hl])
        simp [h2, hl, ha, g.1, g.2]
      · have : ¬ (fa = 0 ∧ ph = 0 ∧ ∀ i, atS fs fn pc = some i → i.1 = 7) := fun q => g ⟨q.1, q.2.1⟩
        simp only [h2]
        simp only [Bool.and_eq_true, decide_eq_true_eq]
        constructor
        · intro q; exact absurd ⟨q.1.1, q.1.2⟩ g
        · rintro (q | q | q)
          · omega
          · exact absurd q.2 this
          · omega
  · have ha : atS fs fn pc = none := List.getElem?_eq_none (by omega)
    simp [ha, h2]
  all_goals
    have ha : atS fs fn pc = some i := ha
    obtain ⟨r1, r2, r3, r4⟩ := chkI_regs (ci_zero (at_ok hc hfn ha)).1
  · simp only [ha]
    simp only [Bool.or_eq_true, decide_eq_true_eq] at h3
    rcases h3 with e | e <;> (subst e; simp <;> grind)
  · simp only [ha]
    simp only [Bool.or_eq_false_iff, decide_eq_false_iff_not] at h3
    simp only [Bool.or_eq_true, Bool.not_eq_true', decide_eq_false_iff_not] at h4
    simp [h2, h3.1, h3.2]
    intro e1 e2
    exact absurd e2 (h4.resolve_left (fun q => q e1))
  · exact r2
  · omega
  · simp only [Bool.or_eq_false_iff, Bool.not_eq_false', decide_eq_true_eq] at h4
    by_cases e6 : i.1 = 6
    · have hd1 : rg[i.2.2.1.toNat]? = some d1 := hd1 (decide_eq_true e6)
      have e0 : rg.getD i.2.2.1.toNat 0 = d1 := by rw [List.getD_eq_getElem?_getD, hd1]; rfl
      simp only [ha, h4.1, h4.2, h5, e6]
      simp only [Option.some.injEq, exists_eq_left', e6, e0]
      simp
    · simp [ha, h4.1, h4.2, h5, e6]
  · simp only [Bool.or_eq_false_iff, Bool.not_eq_false', decide_eq_true_eq] at h4
    simp [ha, h4.1, h4.2, h6]
  · simp only [Bool.or_eq_false_iff, Bool.not_eq_false', decide_eq_true_eq] at h4
    have hvo : visS i.1 = false → obsS id ch ph he i = 0 := fun q => by
      unfold obsS
      have : i.1 ≠ 18 ∧ i.1 ≠ 16 ∧ i.1 ≠ 21 := by
        refine ⟨?_, ?_, ?_⟩ <;> (intro e; rw [e] at q; cases q)
      simp [this.1, this.2.1, this.2.2]
    simp only [ha, h4.1, h4.2]
    cases hv : visS i.1 with
    | false =>
      have := hvo hv
      simp [h5, h6, this]
      rw [h4.2] at this
      intro q1 q2
      rw [this] at q2
      omega
    | true =>
      simp [h5, h6]
      intro q1
      exact eq_comm
set_option maxHeartbeats 2000000 in
set_option maxRecDepth 100000 in
theorem f18_met : Go.Eng.Met Tryz.prog cx0.gd 18 ctrTV :=
  (met_all (cx := cx0) (n := 146) (cl := cl18) (il := il18) (hl := hl18) (ml := ml18) (rc := []) (lits := []) (suf := []) (by kernel_rfl) tis_ok ⟨f27_met, f41_met, f37_met, f42_met, f43_met, trivial⟩ trivial trivial trivial Tryz.func18 (by kernel_rfl) (by kernel_rfl) rfl (by kernel_rfl) (by kernel_rfl) (by simp) fun d hd => by
    obtain ⟨⟨vs, ms, cs, fs, ts, ⟨⟩⟩, bound, ⟨id, fn, pc, rg, st, ch, ph, su, fa, he, ⟨⟩⟩, ⟨⟩⟩ := d
    exact ex_of (ann18 vs ms cs fs ts bound id fn pc rg st ch ph su fa he) (f18_vc vs ms cs fs ts bound id fn pc rg st ch ph su fa he hd) (by kernel_rfl)).met
@[reducible] def ctrNew : CT := { ps := [shP, .int .i64, .int .i64, .int .i64, .int .i64], pre := fun d => bnd (d.1, ()) ∧ d.2.2.1 ≤ 9223372036854775807, res := fun d => ([], .tup [.dat shT (newS (chkP d.1.1 d.1.2.1 d.1.2.2.1 d.1.2.2.2.1 d.1.2.2.2.2.1).1 d.1.2.2.2.1 d.2.1 d.2.2.1 d.2.2.2.1 d.2.2.2.2.1).1, .c (.v (.int .i64 (newS (chkP d.1.1 d.1.2.1 d.1.2.2.1 d.1.2.2.2.1 d.1.2.2.2.2.1).1 d.1.2.2.2.1 d.2.1 d.2.2.1 d.2.2.2.1 d.2.2.2.2.1).2))]) }
@[reducible] noncomputable def cl10 : List (Nat × CT) := [(27, ctrStd), (28, ctIsI), (29, ctrV20), (30, ctrStl)]
@[reducible] def ann10 (vs : List VD) (ms : List ByteArray) (cs : List ByteArray) (fs : List FD) (ts : List SD) (bound : Int) (id : Int) (fn : Int) (arg : Int) : Nat → Option (St → Ann) := fun _ => none
@[reducible] def il10 : List (Nat × IP) := []
@[reducible] def hl10 : List (Nat × Nat × CT) := []
@[reducible] noncomputable def ml10 : List (Nat × MK) := []
set_option maxRecDepth 100000 in
theorem f10_vc (vs : List VD) (ms : List ByteArray) (cs : List ByteArray) (fs : List FD) (ts : List SD) (bound : Int) (id : Int) (fn : Int) (arg : Int) (hpre : ctrNew.pre ((vs, ms, cs, fs, ts, ()), bound, id, fn, arg, ())) :
    (vs.length ≤ (1000000 : Nat) ∧ ms.length ≤ (1000000 : Nat) ∧ cs.length ≤ (1000000 : Nat) ∧ fs.length ≤ (1000000 : Nat) ∧ ts.length ≤ (1000000 : Nat) ∧ (∀ (x : Sh.str.den × (shI.sl.pair Sh.unit).den), x ∈ fs → List.length x.snd.fst ≤ (1000000 : Nat)) ∧ (instL fs).length ≤ (1000000 : Nat)) ∧ br (!decide (stdS (chkP vs ms cs fs ts).fst bound = (0 : Int))) (([] : List Go.Eng.Res) = [] ∧ Ent.tup [SV.dat shT (newS (chkP vs ms cs fs ts).fst fs bound id fn arg).fst, SV.c (SC.v (Value.int IntKind.i64 (newS (chkP vs ms cs fs ts).fst fs bound id fn arg).snd))] = Ent.tup [SV.dat shT (((0 : Int), (0 : Int), (0 : Int), [(0 : Int), (0 : Int), (0 : Int), (0 : Int), (0 : Int), (0 : Int), (0 : Int), (0 : Int)], (0 : Int), (0 : Int), (0 : Int), (0 : Int), (0 : Int), [], ())), SV.c (SC.v (Value.int IntKind.i64 (stdS (chkP vs ms cs fs ts).fst bound)))]) (id ≤ (9223372036854775807 : I6.den) ∧ br (!decide ((0 : Int) ≤ depthI id)) (([] : List Go.Eng.Res) = [] ∧ Ent.tup [SV.dat shT (newS (chkP vs ms cs fs ts).fst fs bound id fn arg).fst, SV.c (SC.v (Value.int IntKind.i64 (newS (chkP vs ms cs fs ts).fst fs bound id fn arg).snd))] = Ent.tup [SV.dat shT (((0 : Int), (0 : Int), (0 : Int), [(0 : Int), (0 : Int), (0 : Int), (0 : Int), (0 : Int), (0 : Int), (0 : Int), (0 : Int)], (0 : Int), (0 : Int), (0 : Int), (0 : Int), (0 : Int), [], ())), SV.c (SC.v (Value.int IntKind.i64 (2 : Int)))]) (br (decide (fn < (0 : Int)) || decide ((↑fs.length : Int) ≤ fn)) (([] : List Go.Eng.Res) = [] ∧ Ent.tup [SV.dat shT (newS (chkP vs ms cs fs ts).fst fs bound id fn arg).fst, SV.c (SC.v (Value.int IntKind.i64 (newS (chkP vs ms cs fs ts).fst fs bound id fn arg).snd))] = Ent.tup [SV.dat shT (((0 : Int), (0 : Int), (0 : Int), [(0 : Int), (0 : Int), (0 : Int), (0 : Int), (0 : Int), (0 : Int), (0 : Int), (0 : Int)], (0 : Int), (0 : Int), (0 : Int), (0 : Int), (0 : Int), [], ())), SV.c (SC.v (Value.int IntKind.i64 (11 : Int)))]) (True ∧ br (!valS arg) (([] : List Go.Eng.Res) = [] ∧ Ent.tup [SV.dat shT (newS (chkP vs ms cs fs ts).fst fs bound id fn arg).fst, SV.c (SC.v (Value.int IntKind.i64 (newS (chkP vs ms cs fs ts).fst fs bound id fn arg).snd))] = Ent.tup [SV.dat shT (((0 : Int), (0 : Int), (0 : Int), [(0 : Int), (0 : Int), (0 : Int), (0 : Int), (0 : Int), (0 : Int), (0 : Int), (0 : Int)], (0 : Int), (0 : Int), (0 : Int), (0 : Int), (0 : Int), [], ())), SV.c (SC.v (Value.int IntKind.i64 (2 : Int)))]) (((0 : Int) ≤ (0 : Int) ∧ (0 : Int) < (8 : Int)) ∧ (0 : Nat) < (8 : Nat) ∧ ((chkP vs ms cs fs ts).fst = (0 : Int) ∧ Formed ms fs bound (id, fn, (0 : Int), [(0 : Int), (0 : Int), (0 : Int), (0 : Int), (0 : Int), (0 : Int), (0 : Int), (0 : Int)].set (0 : Nat) arg, (0 : Int), (0 : Int), (0 : Int), (1 : Int), (0 : Int), [], ()) ∧ (0 : Int) = (0 : I6.den) ∧ (0 : Nat) ≤ (1000000 : Nat) ∧ id ≤ (9223372036854775807 : I6.den) ∧ ([(0 : Int), (0 : Int), (0 : Int), (0 : Int), (0 : Int), (0 : Int), (0 : Int), (0 : Int)].set (0 : Nat) arg).length = (8 : Nat)) ∧ ([] : List Go.Eng.Res) = [] ∧ Ent.tup [SV.dat shT (newS (chkP vs ms cs fs ts).fst fs bound id fn arg).fst, SV.c (SC.v (Value.int IntKind.i64 (newS (chkP vs ms cs fs ts).fst fs bound id fn arg).snd))] = Ent.tup [SV.dat shT (stlS fs bound (256 : Nat) (id, fn, (0 : Int), [(0 : Int), (0 : Int), (0 : Int), (0 : Int), (0 : Int), (0 : Int), (0 : Int), (0 : Int)].set (0 : Nat) arg, (0 : Int), (0 : Int), (0 : Int), (1 : Int), (0 : Int), [], ())), SV.c (SC.v (Value.int IntKind.i64 (0 : Int)))])))) := by
  obtain ⟨hb, hid⟩ : bnd ((vs, ms, cs, fs, ts, ()), ()) ∧ id ≤ 9223372036854775807 := hpre
  refine ⟨hb, br_iff.2 ⟨fun h => ?_, fun h => ⟨hid, br_iff.2 ⟨fun h2 => ?_, fun h2 => br_iff.2 ⟨fun h3 => ?_, fun h3 => ⟨trivial, br_iff.2 ⟨fun h4 => ?_, fun h4 => ?_⟩⟩⟩⟩⟩⟩⟩
  · have h : stdS (chkP vs ms cs fs ts).1 bound ≠ 0 := by simpa using h
    have e : newS (chkP vs ms cs fs ts).1 fs bound id fn arg = (zT, stdS (chkP vs ms cs fs ts).1 bound) := by unfold newS; rw [if_pos h]
    rw [e]; exact ⟨rfl, rfl⟩
  all_goals have h : ¬ stdS (chkP vs ms cs fs ts).1 bound ≠ 0 := by simpa using h
  · have h2 : depthI id < 0 := by simpa using h2
    have e : newS (chkP vs ms cs fs ts).1 fs bound id fn arg = (zT, 2) := by unfold newS; rw [if_neg h, if_pos h2]
    rw [e]; exact ⟨rfl, rfl⟩
  all_goals have h2 : ¬ depthI id < 0 := by simpa using h2
  · have h3 : fn < 0 ∨ (fs.length : Int) ≤ fn := by simpa using h3
    have e : newS (chkP vs ms cs fs ts).1 fs bound id fn arg = (zT, 11) := by unfold newS; rw [if_neg h, if_neg h2, if_pos h3]
    rw [e]; exact ⟨rfl, rfl⟩
  all_goals have h3 : ¬ (fn < 0 ∨ (fs.length : Int) ≤ fn) := by simp only [Bool.or_eq_false_iff, decide_eq_false_iff_not] at h3; omega
  · have h4 : valS arg = false := by simpa using h4
    have e : newS (chkP vs ms cs fs ts).1 fs bound id fn arg = (zT, 2) := by unfold newS; rw [if_neg h, if_neg h2, if_neg h3, if_pos h4]
    rw [e]; exact ⟨rfl, rfl⟩
  · have h4 : ¬ valS arg = false := by simpa using h4
    have e : newS (chkP vs ms cs fs ts).1 fs bound id fn arg = (stlS fs bound 256 (id, fn, 0, [arg, 0, 0, 0, 0, 0, 0, 0], 0, 0, 0, 1, 0, [], ()), 0) := by unfold newS; rw [if_neg h, if_neg h2, if_neg h3, if_neg h4]
    have hs := std_zero.1 (Classical.not_not.1 h)
    rw [e]
    exact ⟨by omega, by omega, ⟨hs.1, new_formed ms hs.2.1 h2 h3 h4, rfl, by omega, hid, rfl⟩, rfl, rfl⟩
set_option maxHeartbeats 2000000 in
set_option maxRecDepth 100000 in
theorem f10_met : Go.Eng.Met Tryz.prog cx0.gd 10 ctrNew :=
  (met_all (cx := cx0) (n := 49) (cl := cl10) (il := il10) (hl := hl10) (ml := ml10) (rc := [.data shT, .keep]) (lits := []) (suf := []) (by kernel_rfl) tis_ok ⟨f27_met, f28_met, f29_met, f30_met, trivial⟩ trivial trivial trivial Tryz.func10 (by kernel_rfl) (by kernel_rfl) rfl (by kernel_rfl) (by kernel_rfl) (by simp) fun d hd => by
    obtain ⟨⟨vs, ms, cs, fs, ts, ⟨⟩⟩, bound, id, fn, arg, ⟨⟩⟩ := d
    exact ex_of (ann10 vs ms cs fs ts bound id fn arg) (f10_vc vs ms cs fs ts bound id fn arg hd) (by kernel_rfl)).met
@[reducible] noncomputable def ctrPnd : CT := { ps := [shP, shT], pre := fun d => bnd (d.1, ()) ∧ d.2.1.2.2.2.2.2.2.2.2.2.1.length ≤ 1000000 ∧ d.2.1.1 ≤ 9223372036854775807 ∧ d.2.1.2.2.2.1.length = 8, res := fun d => ([], .tup [.agg [.v (.int .i64 ((pndS (chkP d.1.1 d.1.2.1 d.1.2.2.1 d.1.2.2.2.1 d.1.2.2.2.2.1).1 d.1.2.1 d.1.2.2.2.1 d.2.1).1).1), .v (.int .i64 ((pndS (chkP d.1.1 d.1.2.1 d.1.2.2.1 d.1.2.2.2.1 d.1.2.2.2.2.1).1 d.1.2.1 d.1.2.2.2.1 d.2.1).1).2.1), .v (.int .i64 ((pndS (chkP d.1.1 d.1.2.1 d.1.2.2.1 d.1.2.2.2.1 d.1.2.2.2.2.1).1 d.1.2.1 d.1.2.2.2.1 d.2.1).1).2.2.1), .v (.int .i64 ((pndS (chkP d.1.1 d.1.2.1 d.1.2.2.1 d.1.2.2.2.1 d.1.2.2.2.2.1).1 d.1.2.1 d.1.2.2.2.1 d.2.1).1).2.2.2.1), .v (.int .i64 ((pndS (chkP d.1.1 d.1.2.1 d.1.2.2.1 d.1.2.2.2.1 d.1.2.2.2.2.1).1 d.1.2.1 d.1.2.2.2.1 d.2.1).1).2.2.2.2.1), .v (.int .i64 ((pndS (chkP d.1.1 d.1.2.1 d.1.2.2.1 d.1.2.2.2.1 d.1.2.2.2.2.1).1 d.1.2.1 d.1.2.2.2.1 d.2.1).1).2.2.2.2.2.1), .v (.int .i64 ((pndS (chkP d.1.1 d.1.2.1 d.1.2.2.1 d.1.2.2.2.1 d.1.2.2.2.2.1).1 d.1.2.1 d.1.2.2.2.1 d.2.1).1).2.2.2.2.2.2.1), .v (.int .i64 ((pndS (chkP d.1.1 d.1.2.1 d.1.2.2.1 d.1.2.2.2.1 d.1.2.2.2.2.1).1 d.1.2.1 d.1.2.2.2.1 d.2.1).1).2.2.2.2.2.2.2.1)], .c (.v (.bool (pndS (chkP d.1.1 d.1.2.1 d.1.2.2.1 d.1.2.2.2.1 d.1.2.2.2.2.1).1 d.1.2.1 d.1.2.2.2.1 d.2.1).2))]) }
@[reducible] noncomputable def cl16 : List (Nat × CT) := [(18, ctrTV), (37, ctCode)]
@[reducible] def ann16 (vs : List VD) (ms : List ByteArray) (cs : List ByteArray) (fs : List FD) (ts : List SD) (id : Int) (fn : Int) (pc : Int) (rg : List Int) (st : Int) (ch : Int) (ph : Int) (su : Int) (fa : Int) (he : List Int) : Nat → Option (St → Ann) := fun _ => none
@[reducible] def il16 : List (Nat × IP) := []
@[reducible] def hl16 : List (Nat × Nat × CT) := []
@[reducible] noncomputable def ml16 : List (Nat × MK) := []
set_option maxRecDepth 100000 in
theorem f16_vc (vs : List VD) (ms : List ByteArray) (cs : List ByteArray) (fs : List FD) (ts : List SD) (id : Int) (fn : Int) (pc : Int) (rg : List Int) (st : Int) (ch : Int) (ph : Int) (su : Int) (fa : Int) (he : List Int) (hpre : ctrPnd.pre ((vs, ms, cs, fs, ts, ()), (id, fn, pc, rg, st, ch, ph, su, fa, he, ()), ())) :
    ((vs.length ≤ (1000000 : Nat) ∧ ms.length ≤ (1000000 : Nat) ∧ cs.length ≤ (1000000 : Nat) ∧ fs.length ≤ (1000000 : Nat) ∧ ts.length ≤ (1000000 : Nat) ∧ (∀ (x : Sh.str.den × (shI.sl.pair Sh.unit).den), x ∈ fs → List.length x.snd.fst ≤ (1000000 : Nat)) ∧ (instL fs).length ≤ (1000000 : Nat)) ∧ he.length ≤ (1000000 : Nat) ∧ id ≤ (9223372036854775807 : I6.den) ∧ rg.length = (8 : Nat)) ∧ br (!(decide (stdS (chkP vs ms cs fs ts).fst (32 : Int) = (0 : Int)) && vldB ms fs (32 : Int) (id, fn, pc, rg, st, ch, ph, su, fa, he, ())) || !decide (su = (1 : Int))) (([] : List Go.Eng.Res) = [] ∧ Ent.tup [SV.agg [SC.v (Value.int IntKind.i64 (pndS (chkP vs ms cs fs ts).fst ms fs (id, fn, pc, rg, st, ch, ph, su, fa, he, ())).fst.fst), SC.v (Value.int IntKind.i64 (pndS (chkP vs ms cs fs ts).fst ms fs (id, fn, pc, rg, st, ch, ph, su, fa, he, ())).fst.snd.fst), SC.v (Value.int IntKind.i64 (pndS (chkP vs ms cs fs ts).fst ms fs (id, fn, pc, rg, st, ch, ph, su, fa, he, ())).fst.snd.snd.fst), SC.v (Value.int IntKind.i64 (pndS (chkP vs ms cs fs ts).fst ms fs (id, fn, pc, rg, st, ch, ph, su, fa, he, ())).fst.snd.snd.snd.fst), SC.v (Value.int IntKind.i64 (pndS (chkP vs ms cs fs ts).fst ms fs (id, fn, pc, rg, st, ch, ph, su, fa, he, ())).fst.snd.snd.snd.snd.fst), SC.v (Value.int IntKind.i64 (pndS (chkP vs ms cs fs ts).fst ms fs (id, fn, pc, rg, st, ch, ph, su, fa, he, ())).fst.snd.snd.snd.snd.snd.fst), SC.v (Value.int IntKind.i64 (pndS (chkP vs ms cs fs ts).fst ms fs (id, fn, pc, rg, st, ch, ph, su, fa, he, ())).fst.snd.snd.snd.snd.snd.snd.fst), SC.v (Value.int IntKind.i64 (pndS (chkP vs ms cs fs ts).fst ms fs (id, fn, pc, rg, st, ch, ph, su, fa, he, ())).fst.snd.snd.snd.snd.snd.snd.snd.fst)], SV.c (SC.v (Value.bool (pndS (chkP vs ms cs fs ts).fst ms fs (id, fn, pc, rg, st, ch, ph, su, fa, he, ())).snd))] = Ent.tup [SV.agg [SC.v (Value.int IntKind.i64 (0 : Int)), SC.v (Value.int IntKind.i64 (0 : Int)), SC.v (Value.int IntKind.i64 (0 : Int)), SC.v (Value.int IntKind.i64 (0 : Int)), SC.v (Value.int IntKind.i64 (0 : Int)), SC.v (Value.int IntKind.i64 (0 : Int)), SC.v (Value.int IntKind.i64 (0 : Int)), SC.v (Value.int IntKind.i64 (0 : Int))], SV.c (SC.v (Value.bool false))]) (((0 : I6.den) ≤ fn ∧ fn < (↑fs.length : I6.den)) ∧ ((0 : Int) ≤ pc ∧ pc < (↑(codeF fs fn).length : Int)) ∧ ∀ (d : I6.den × (I6.pair (I6.pair (I6.pair (I6.pair (I6.pair (I6.pair (I6.pair Sh.unit))))))).den), (codeF fs fn)[pc.toNat]? = some d → ([] : List Go.Eng.Res) = [] ∧ Ent.tup [SV.agg [SC.v (Value.int IntKind.i64 (pndS (chkP vs ms cs fs ts).fst ms fs (id, fn, pc, rg, st, ch, ph, su, fa, he, ())).fst.fst), SC.v (Value.int IntKind.i64 (pndS (chkP vs ms cs fs ts).fst ms fs (id, fn, pc, rg, st, ch, ph, su, fa, he, ())).fst.snd.fst), SC.v (Value.int IntKind.i64 (pndS (chkP vs ms cs fs ts).fst ms fs (id, fn, pc, rg, st, ch, ph, su, fa, he, ())).fst.snd.snd.fst), SC.v (Value.int IntKind.i64 (pndS (chkP vs ms cs fs ts).fst ms fs (id, fn, pc, rg, st, ch, ph, su, fa, he, ())).fst.snd.snd.snd.fst), SC.v (Value.int IntKind.i64 (pndS (chkP vs ms cs fs ts).fst ms fs (id, fn, pc, rg, st, ch, ph, su, fa, he, ())).fst.snd.snd.snd.snd.fst), SC.v (Value.int IntKind.i64 (pndS (chkP vs ms cs fs ts).fst ms fs (id, fn, pc, rg, st, ch, ph, su, fa, he, ())).fst.snd.snd.snd.snd.snd.fst), SC.v (Value.int IntKind.i64 (pndS (chkP vs ms cs fs ts).fst ms fs (id, fn, pc, rg, st, ch, ph, su, fa, he, ())).fst.snd.snd.snd.snd.snd.snd.fst), SC.v (Value.int IntKind.i64 (pndS (chkP vs ms cs fs ts).fst ms fs (id, fn, pc, rg, st, ch, ph, su, fa, he, ())).fst.snd.snd.snd.snd.snd.snd.snd.fst)], SV.c (SC.v (Value.bool (pndS (chkP vs ms cs fs ts).fst ms fs (id, fn, pc, rg, st, ch, ph, su, fa, he, ())).snd))] = Ent.tup [SV.agg [SC.v (Value.int IntKind.i64 d.fst), SC.v (Value.int IntKind.i64 d.snd.fst), SC.v (Value.int IntKind.i64 d.snd.snd.fst), SC.v (Value.int IntKind.i64 d.snd.snd.snd.fst), SC.v (Value.int IntKind.i64 d.snd.snd.snd.snd.fst), SC.v (Value.int IntKind.i64 d.snd.snd.snd.snd.snd.fst), SC.v (Value.int IntKind.i64 d.snd.snd.snd.snd.snd.snd.fst), SC.v (Value.int IntKind.i64 d.snd.snd.snd.snd.snd.snd.snd.fst)], SV.c (SC.v (Value.bool true))]) := by
  obtain ⟨hb, hhe, hid, hrg⟩ : bnd ((vs, ms, cs, fs, ts, ()), ()) ∧ he.length ≤ 1000000 ∧ id ≤ 9223372036854775807 ∧ rg.length = 8 := hpre
  have key : ((chkP vs ms cs fs ts).1 = 0 ∧ su = 1 ∧ Vld ms fs 32 (id, fn, pc, rg, st, ch, ph, su, fa, he, ())) ↔ (!(decide (stdS (chkP vs ms cs fs ts).1 32 = 0) && vldB ms fs 32 (id, fn, pc, rg, st, ch, ph, su, fa, he, ())) || !decide (su = 1)) = false := by
    rw [Bool.or_eq_false_iff, Bool.not_eq_false', Bool.not_eq_false', Bool.and_eq_true, decide_eq_true_iff, decide_eq_true_iff, std_zero, vldB_iff]
    constructor
    · rintro ⟨q1, q2, q3⟩; exact ⟨⟨⟨q1, by omega, by omega⟩, q3⟩, q2⟩
    · rintro ⟨⟨⟨q1, _⟩, q3⟩, q2⟩; exact ⟨q1, q2, q3⟩
  refine ⟨⟨hb, hhe, hid, hrg⟩, br_iff.2 ⟨fun h => ?_, fun h => ?_⟩⟩
  · have e : pndS (chkP vs ms cs fs ts).1 ms fs (id, fn, pc, rg, st, ch, ph, su, fa, he, ()) = ((0, 0, 0, 0, 0, 0, 0, 0, ()), false) := by
      unfold pndS
      rw [if_neg]
      intro q
      rw [key.1 q] at h; cases h
    rw [e]; exact ⟨rfl, rfl⟩
  · have q := key.2 h
    have e : pndS (chkP vs ms cs fs ts).1 ms fs (id, fn, pc, rg, st, ch, ph, su, fa, he, ()) = atR fs fn pc := by
      unfold pndS
      rw [if_pos q]
    have hF := q.2.2.1
    obtain ⟨f0, s0, i, ha, vi, oi⟩ := run_at q.2.2 q.2.1
    have ha : atS fs fn pc = some i := ha
    have hpc := hF.2.2.1
    have hlt : pc < ((codeF fs fn).length : Int) := by
      have := (List.getElem?_eq_some_iff.1 ha).1
      omega
    rw [e, show atR fs fn pc = (i, true) by unfold atR; rw [ha]]
    refine ⟨hF.2.1, ⟨hpc.1, hlt⟩, fun d hd => ?_⟩
    have hd : atS fs fn pc = some d := hd
    rw [ha] at hd; cases hd
    exact ⟨rfl, rfl⟩
set_option maxHeartbeats 2000000 in
set_option maxRecDepth 100000 in
theorem f16_met : Go.Eng.Met Tryz.prog cx0.gd 16 ctrPnd :=
  (met_all (cx := cx0) (n := 23) (cl := cl16) (il := il16) (hl := hl16) (ml := ml16) (rc := []) (lits := []) (suf := []) (by kernel_rfl) tis_ok ⟨f18_met, f37_met, trivial⟩ trivial trivial trivial Tryz.func16 (by kernel_rfl) (by kernel_rfl) rfl (by kernel_rfl) (by kernel_rfl) (by simp) fun d hd => by
    obtain ⟨⟨vs, ms, cs, fs, ts, ⟨⟩⟩, ⟨id, fn, pc, rg, st, ch, ph, su, fa, he, ⟨⟩⟩, ⟨⟩⟩ := d
    exact ex_of (ann16 vs ms cs fs ts id fn pc rg st ch ph su fa he) (f16_vc vs ms cs fs ts id fn pc rg st ch ph su fa he hd) (by kernel_rfl)).met
end Go.Proofs.YtklnffdjhoacoaaGreatDoor
set_option linter.unusedSimpArgs false
set_option linter.unusedVariables false
set_option maxRecDepth 100000
namespace Go.Proofs.YtklnffdjhoacoaaGreatDoor
open Go Go.Eng

@[reducible] def ctN3 : CT := { ps := [.pair shP (.pair (.int .i64) (.pair (.int .i64) (.pair (.int .i64) (.pair (.int .i64) .unit))))], pre := fun d => d.1.2.2.1 ≤ 9223372036854775807, res := fun d => ([], vB (true)) }
@[reducible] noncomputable def cl3 : List (Nat × CT) := [(7, ctSm), (8, ctLiv), (9, ctNew), (10, ctrNew), (11, ctSame)]
@[reducible] def ann3 (vs : List VD) (ms : List ByteArray) (cs : List ByteArray) (fs : List FD) (ts : List SD) (bound : Int) (id : Int) (fn : Int) (arg : Int) : Nat → Option (St → Ann) := fun _ => none
@[reducible] def il3 : List (Nat × IP) := []
@[reducible] def hl3 : List (Nat × Nat × CT) := []
@[reducible] noncomputable def ml3 : List (Nat × MK) := []
set_option maxRecDepth 100000 in
theorem f3_vc (vs : List VD) (ms : List ByteArray) (cs : List ByteArray) (fs : List FD) (ts : List SD) (bound : Int) (id : Int) (fn : Int) (arg : Int) (hpre : ctN3.pre (((vs, ms, cs, fs, ts, ()), bound, id, fn, arg, ()), ())) :
    True ∧ br (!smS vs ms cs fs ts) (True ∧ ([] : List Go.Eng.Res) = [] ∧ Ent.one (SV.c (SC.v (Value.bool true))) = Ent.one (SV.c (SC.v (Value.bool true)))) (((vs.length ≤ (1000000 : Nat) ∧ ms.length ≤ (1000000 : Nat) ∧ cs.length ≤ (1000000 : Nat) ∧ fs.length ≤ (1000000 : Nat) ∧ ts.length ≤ (1000000 : Nat) ∧ (∀ (x : Sh.str.den × (shI.sl.pair Sh.unit).den), x ∈ fs → List.length x.snd.fst ≤ (1000000 : Nat)) ∧ (instL fs).length ≤ (1000000 : Nat)) ∧ id ≤ (9223372036854775807 : I6.den)) ∧ ((vs.length ≤ (1000000 : Nat) ∧ ms.length ≤ (1000000 : Nat) ∧ cs.length ≤ (1000000 : Nat) ∧ fs.length ≤ (1000000 : Nat) ∧ ts.length ≤ (1000000 : Nat) ∧ (∀ (x : Sh.str.den × (shI.sl.pair Sh.unit).den), x ∈ fs → List.length x.snd.fst ≤ (1000000 : Nat)) ∧ (instL fs).length ≤ (1000000 : Nat)) ∧ id ≤ (9223372036854775807 : I6.den)) ∧ (decide ((newS (chkP vs ms cs fs ts).fst fs bound id fn arg).snd = (newS (chkP vs ms cs fs ts).fst fs bound id fn arg).snd) = true → List.length ((newS (chkP vs ms cs fs ts).fst fs bound id fn arg).fst, (newS (chkP vs ms cs fs ts).fst fs bound id fn arg).fst, ()).fst.snd.snd.snd.snd.snd.snd.snd.snd.snd.fst ≤ (1000000 : Nat)) ∧ ((decide ((newS (chkP vs ms cs fs ts).fst fs bound id fn arg).snd = (newS (chkP vs ms cs fs ts).fst fs bound id fn arg).snd) && sameB ((newS (chkP vs ms cs fs ts).fst fs bound id fn arg).fst, (newS (chkP vs ms cs fs ts).fst fs bound id fn arg).fst, ()).fst (newS (chkP vs ms cs fs ts).fst fs bound id fn arg).fst) = true → True) ∧ ([] : List Go.Eng.Res) = [] ∧ Ent.one (SV.c (SC.v (Value.bool true))) = Ent.one (SV.c (SC.v (Value.bool (decide ((newS (chkP vs ms cs fs ts).fst fs bound id fn arg).snd = (newS (chkP vs ms cs fs ts).fst fs bound id fn arg).snd) && sameB ((newS (chkP vs ms cs fs ts).fst fs bound id fn arg).fst, (newS (chkP vs ms cs fs ts).fst fs bound id fn arg).fst, ()).fst (newS (chkP vs ms cs fs ts).fst fs bound id fn arg).fst && true))))) := by
  have hid : id ≤ 9223372036854775807 := hpre
  refine ⟨trivial, br_iff.2 ⟨fun _ => ⟨trivial, rfl, rfl⟩, fun h => ?_⟩⟩
  have h : smS vs ms cs fs ts = true := by simpa using h
  have hb : bnd ((vs, ms, cs, fs, ts, ()), ()) := small_bnd h
  have slen : (newS (chkP vs ms cs fs ts).1 fs bound id fn arg).1.2.2.2.2.2.2.2.2.2.1.length ≤ 1000000 := by
    by_cases q : (newS (chkP vs ms cs fs ts).1 fs bound id fn arg).2 = 0
    · exact (vld_lens (new_ok (ms := ms) q).1 (new_ok (ms := ms) q).2.1).1
    · unfold newS at q ⊢
      split at q
      · rename_i q1; rw [if_pos q1]; exact Nat.zero_le _
      split at q
      · rename_i q1 q2; rw [if_neg q1, if_pos q2]; exact Nat.zero_le _
      split at q
      · rename_i q1 q2 q3; rw [if_neg q1, if_neg q2, if_pos q3]; exact Nat.zero_le _
      split at q
      · rename_i q1 q2 q3 q4; rw [if_neg q1, if_neg q2, if_neg q3, if_pos q4]; exact Nat.zero_le _
      · exact absurd rfl q
  have e : sameB (newS (chkP vs ms cs fs ts).1 fs bound id fn arg).1 (newS (chkP vs ms cs fs ts).1 fs bound id fn arg).1 = true := sameB_iff.2 rfl
  refine ⟨⟨hb, hid⟩, ⟨hb, hid⟩, fun _ => slen, fun _ => trivial, rfl, ?_⟩
  dsimp only
  rw [e]
  simp
set_option maxHeartbeats 2000000 in
set_option maxRecDepth 100000 in
theorem f3_met : Go.Eng.Met Tryz.prog cx0.gd 3 ctN3 :=
  (met_all (cx := cx0) (n := 51) (cl := cl3) (il := il3) (hl := hl3) (ml := ml3) (rc := []) (lits := []) (suf := []) (by kernel_rfl) tis_ok ⟨f7_met, f8_met, f9_met, f10_met, f11_met, trivial⟩ trivial trivial trivial Tryz.func3 (by kernel_rfl) (by kernel_rfl) rfl (by kernel_rfl) (by kernel_rfl) (by simp) fun d hd => by
    obtain ⟨⟨⟨vs, ms, cs, fs, ts, ⟨⟩⟩, bound, id, fn, arg, ⟨⟩⟩, ⟨⟩⟩ := d
    exact ex_of (ann3 vs ms cs fs ts bound id fn arg) (f3_vc vs ms cs fs ts bound id fn arg hd) (by kernel_rfl)).met
@[reducible] def ctN5 : CT := { ps := [.pair shP (.pair (.int .i64) (.pair (.int .i64) (.pair shT .unit)))], pre := fun d => d.1.2.2.2.1.1 ≤ 9223372036854775807 ∧ d.1.2.2.2.1.2.2.2.1.length = 8, res := fun d => ([], vB (true)) }
@[reducible] noncomputable def cl5 : List (Nat × CT) := [(12, ctSml), (8, ctLiv), (17, ctTV), (15, ctPnd), (18, ctrTV), (16, ctrPnd)]
@[reducible] def ann5 (vs : List VD) (ms : List ByteArray) (cs : List ByteArray) (fs : List FD) (ts : List SD) (bound : Int) (r : Int) (id : Int) (fn : Int) (pc : Int) (rg : List Int) (st : Int) (ch : Int) (ph : Int) (su : Int) (fa : Int) (he : List Int) : Nat → Option (St → Ann) := fun _ => none
@[reducible] def il5 : List (Nat × IP) := []
@[reducible] def hl5 : List (Nat × Nat × CT) := []
@[reducible] noncomputable def ml5 : List (Nat × MK) := []
set_option maxRecDepth 100000 in
theorem f5_vc (vs : List VD) (ms : List ByteArray) (cs : List ByteArray) (fs : List FD) (ts : List SD) (bound : Int) (r : Int) (id : Int) (fn : Int) (pc : Int) (rg : List Int) (st : Int) (ch : Int) (ph : Int) (su : Int) (fa : Int) (he : List Int) (hpre : ctN5.pre (((vs, ms, cs, fs, ts, ()), bound, r, (id, fn, pc, rg, st, ch, ph, su, fa, he, ()), ()), ())) :
    True ∧ br (!(smS vs ms cs fs ts && decide (he.length ≤ (20 : Nat)))) (True ∧ ([] : List Go.Eng.Res) = [] ∧ Ent.one (SV.c (SC.v (Value.bool true))) = Ent.one (SV.c (SC.v (Value.bool true)))) (((vs.length ≤ (1000000 : Nat) ∧ ms.length ≤ (1000000 : Nat) ∧ cs.length ≤ (1000000 : Nat) ∧ fs.length ≤ (1000000 : Nat) ∧ ts.length ≤ (1000000 : Nat) ∧ (∀ (x : Sh.str.den × (shI.sl.pair Sh.unit).den), x ∈ fs → List.length x.snd.fst ≤ (1000000 : Nat)) ∧ (instL fs).length ≤ (1000000 : Nat)) ∧ he.length ≤ (1000000 : Nat) ∧ id ≤ (9223372036854775807 : I6.den) ∧ rg.length = (8 : Nat)) ∧ ((vs.length ≤ (1000000 : Nat) ∧ ms.length ≤ (1000000 : Nat) ∧ cs.length ≤ (1000000 : Nat) ∧ fs.length ≤ (1000000 : Nat) ∧ ts.length ≤ (1000000 : Nat) ∧ (∀ (x : Sh.str.den × (shI.sl.pair Sh.unit).den), x ∈ fs → List.length x.snd.fst ≤ (1000000 : Nat)) ∧ (instL fs).length ≤ (1000000 : Nat)) ∧ he.length ≤ (1000000 : Nat) ∧ id ≤ (9223372036854775807 : I6.den) ∧ rg.length = (8 : Nat)) ∧ ((vs.length ≤ (1000000 : Nat) ∧ ms.length ≤ (1000000 : Nat) ∧ cs.length ≤ (1000000 : Nat) ∧ fs.length ≤ (1000000 : Nat) ∧ ts.length ≤ (1000000 : Nat) ∧ (∀ (x : Sh.str.den × (shI.sl.pair Sh.unit).den), x ∈ fs → List.length x.snd.fst ≤ (1000000 : Nat)) ∧ (instL fs).length ≤ (1000000 : Nat)) ∧ he.length ≤ (1000000 : Nat) ∧ id ≤ (9223372036854775807 : I6.den) ∧ rg.length = (8 : Nat)) ∧ ((vs.length ≤ (1000000 : Nat) ∧ ms.length ≤ (1000000 : Nat) ∧ cs.length ≤ (1000000 : Nat) ∧ fs.length ≤ (1000000 : Nat) ∧ ts.length ≤ (1000000 : Nat) ∧ (∀ (x : Sh.str.den × (shI.sl.pair Sh.unit).den), x ∈ fs → List.length x.snd.fst ≤ (1000000 : Nat)) ∧ (instL fs).length ≤ (1000000 : Nat)) ∧ he.length ≤ (1000000 : Nat) ∧ id ≤ (9223372036854775807 : I6.den) ∧ rg.length = (8 : Nat)) ∧ (((decide (stdS (chkP vs ms cs fs ts).fst bound = (0 : Int)) && vldB ms fs bound (id, fn, pc, rg, st, ch, ph, su, fa, he, ())) == (decide (stdS (chkP vs ms cs fs ts).fst bound = (0 : Int)) && vldB ms fs bound (id, fn, pc, rg, st, ch, ph, su, fa, he, ())) && (true && (pndS (chkP vs ms cs fs ts).fst ms fs (id, fn, pc, rg, st, ch, ph, su, fa, he, ())).fst.fst == (pndS (chkP vs ms cs fs ts).fst ms fs (id, fn, pc, rg, st, ch, ph, su, fa, he, ())).fst.fst && (pndS (chkP vs ms cs fs ts).fst ms fs (id, fn, pc, rg, st, ch, ph, su, fa, he, ())).fst.snd.fst == (pndS (chkP vs ms cs fs ts).fst ms fs (id, fn, pc, rg, st, ch, ph, su, fa, he, ())).fst.snd.fst && (pndS (chkP vs ms cs fs ts).fst ms fs (id, fn, pc, rg, st, ch, ph, su, fa, he, ())).fst.snd.snd.fst == (pndS (chkP vs ms cs fs ts).fst ms fs (id, fn, pc, rg, st, ch, ph, su, fa, he, ())).fst.snd.snd.fst && (pndS (chkP vs ms cs fs ts).fst ms fs (id, fn, pc, rg, st, ch, ph, su, fa, he, ())).fst.snd.snd.snd.fst == (pndS (chkP vs ms cs fs ts).fst ms fs (id, fn, pc, rg, st, ch, ph, su, fa, he, ())).fst.snd.snd.snd.fst && (pndS (chkP vs ms cs fs ts).fst ms fs (id, fn, pc, rg, st, ch, ph, su, fa, he, ())).fst.snd.snd.snd.snd.fst == (pndS (chkP vs ms cs fs ts).fst ms fs (id, fn, pc, rg, st, ch, ph, su, fa, he, ())).fst.snd.snd.snd.snd.fst && (pndS (chkP vs ms cs fs ts).fst ms fs (id, fn, pc, rg, st, ch, ph, su, fa, he, ())).fst.snd.snd.snd.snd.snd.fst == (pndS (chkP vs ms cs fs ts).fst ms fs (id, fn, pc, rg, st, ch, ph, su, fa, he, ())).fst.snd.snd.snd.snd.snd.fst && (pndS (chkP vs ms cs fs ts).fst ms fs (id, fn, pc, rg, st, ch, ph, su, fa, he, ())).fst.snd.snd.snd.snd.snd.snd.fst == (pndS (chkP vs ms cs fs ts).fst ms fs (id, fn, pc, rg, st, ch, ph, su, fa, he, ())).fst.snd.snd.snd.snd.snd.snd.fst && (pndS (chkP vs ms cs fs ts).fst ms fs (id, fn, pc, rg, st, ch, ph, su, fa, he, ())).fst.snd.snd.snd.snd.snd.snd.snd.fst == (pndS (chkP vs ms cs fs ts).fst ms fs (id, fn, pc, rg, st, ch, ph, su, fa, he, ())).fst.snd.snd.snd.snd.snd.snd.snd.fst) && (pndS (chkP vs ms cs fs ts).fst ms fs (id, fn, pc, rg, st, ch, ph, su, fa, he, ())).snd == (pndS (chkP vs ms cs fs ts).fst ms fs (id, fn, pc, rg, st, ch, ph, su, fa, he, ())).snd) = true → True) ∧ ([] : List Go.Eng.Res) = [] ∧ Ent.one (SV.c (SC.v (Value.bool true))) = Ent.one (SV.c (SC.v (Value.bool ((decide (stdS (chkP vs ms cs fs ts).fst bound = (0 : Int)) && vldB ms fs bound (id, fn, pc, rg, st, ch, ph, su, fa, he, ())) == (decide (stdS (chkP vs ms cs fs ts).fst bound = (0 : Int)) && vldB ms fs bound (id, fn, pc, rg, st, ch, ph, su, fa, he, ())) && (true && (pndS (chkP vs ms cs fs ts).fst ms fs (id, fn, pc, rg, st, ch, ph, su, fa, he, ())).fst.fst == (pndS (chkP vs ms cs fs ts).fst ms fs (id, fn, pc, rg, st, ch, ph, su, fa, he, ())).fst.fst && (pndS (chkP vs ms cs fs ts).fst ms fs (id, fn, pc, rg, st, ch, ph, su, fa, he, ())).fst.snd.fst == (pndS (chkP vs ms cs fs ts).fst ms fs (id, fn, pc, rg, st, ch, ph, su, fa, he, ())).fst.snd.fst && (pndS (chkP vs ms cs fs ts).fst ms fs (id, fn, pc, rg, st, ch, ph, su, fa, he, ())).fst.snd.snd.fst == (pndS (chkP vs ms cs fs ts).fst ms fs (id, fn, pc, rg, st, ch, ph, su, fa, he, ())).fst.snd.snd.fst && (pndS (chkP vs ms cs fs ts).fst ms fs (id, fn, pc, rg, st, ch, ph, su, fa, he, ())).fst.snd.snd.snd.fst == (pndS (chkP vs ms cs fs ts).fst ms fs (id, fn, pc, rg, st, ch, ph, su, fa, he, ())).fst.snd.snd.snd.fst && (pndS (chkP vs ms cs fs ts).fst ms fs (id, fn, pc, rg, st, ch, ph, su, fa, he, ())).fst.snd.snd.snd.snd.fst == (pndS (chkP vs ms cs fs ts).fst ms fs (id, fn, pc, rg, st, ch, ph, su, fa, he, ())).fst.snd.snd.snd.snd.fst && (pndS (chkP vs ms cs fs ts).fst ms fs (id, fn, pc, rg, st, ch, ph, su, fa, he, ())).fst.snd.snd.snd.snd.snd.fst == (pndS (chkP vs ms cs fs ts).fst ms fs (id, fn, pc, rg, st, ch, ph, su, fa, he, ())).fst.snd.snd.snd.snd.snd.fst && (pndS (chkP vs ms cs fs ts).fst ms fs (id, fn, pc, rg, st, ch, ph, su, fa, he, ())).fst.snd.snd.snd.snd.snd.snd.fst == (pndS (chkP vs ms cs fs ts).fst ms fs (id, fn, pc, rg, st, ch, ph, su, fa, he, ())).fst.snd.snd.snd.snd.snd.snd.fst && (pndS (chkP vs ms cs fs ts).fst ms fs (id, fn, pc, rg, st, ch, ph, su, fa, he, ())).fst.snd.snd.snd.snd.snd.snd.snd.fst == (pndS (chkP vs ms cs fs ts).fst ms fs (id, fn, pc, rg, st, ch, ph, su, fa, he, ())).fst.snd.snd.snd.snd.snd.snd.snd.fst) && (pndS (chkP vs ms cs fs ts).fst ms fs (id, fn, pc, rg, st, ch, ph, su, fa, he, ())).snd == (pndS (chkP vs ms cs fs ts).fst ms fs (id, fn, pc, rg, st, ch, ph, su, fa, he, ())).snd && true))))) := by
  obtain ⟨hid, hrg⟩ : id ≤ 9223372036854775807 ∧ rg.length = 8 := hpre
  refine ⟨trivial, br_iff.2 ⟨fun _ => ⟨trivial, rfl, rfl⟩, fun h => ?_⟩⟩
  have h : smS vs ms cs fs ts = true ∧ he.length ≤ 20 := by simpa using h
  have hb : bnd ((vs, ms, cs, fs, ts, ()), ()) := small_bnd h.1
  have he6 : he.length ≤ 1000000 := by omega
  refine ⟨⟨hb, he6, hid, hrg⟩, ⟨hb, he6, hid, hrg⟩, ⟨hb, he6, hid, hrg⟩, ⟨hb, he6, hid, hrg⟩, fun _ => trivial, rfl, ?_⟩
  simp
set_option maxHeartbeats 2000000 in
set_option maxRecDepth 100000 in
theorem f5_met : Go.Eng.Met Tryz.prog cx0.gd 5 ctN5 :=
  (met_all (cx := cx0) (n := 55) (cl := cl5) (il := il5) (hl := hl5) (ml := ml5) (rc := []) (lits := []) (suf := []) (by kernel_rfl) tis_ok ⟨f12_met, f8_met, f17_met, f15_met, f18_met, f16_met, trivial⟩ trivial trivial trivial Tryz.func5 (by kernel_rfl) (by kernel_rfl) rfl (by kernel_rfl) (by kernel_rfl) (by simp) fun d hd => by
    obtain ⟨⟨⟨vs, ms, cs, fs, ts, ⟨⟩⟩, bound, r, ⟨id, fn, pc, rg, st, ch, ph, su, fa, he, ⟨⟩⟩, ⟨⟩⟩, ⟨⟩⟩ := d
    exact ex_of (ann5 vs ms cs fs ts bound r id fn pc rg st ch ph su fa he) (f5_vc vs ms cs fs ts bound r id fn pc rg st ch ph su fa he hd) (by kernel_rfl)).met
end Go.Proofs.YtklnffdjhoacoaaGreatDoor
