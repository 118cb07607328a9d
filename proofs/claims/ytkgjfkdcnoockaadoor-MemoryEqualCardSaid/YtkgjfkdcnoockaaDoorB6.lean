/- Texts of this claim, part 6: M4, M5, M6, M7, M9, M12, L5. Conditions: those of the given rows. -/
import Derived.Test.YtkgjfkdcnoockaaDoorB5
import Derived.Test.YtkgjfkdcnoockaaDoorCards
import Derived.Test.YtkgjfkdcnoockaaDoorTie
import Derived.WalkKit
import Derived.ProofKit
import Derived.OpenShut
import Derived.Deep.DeepHandedRow
import Derived.Lib.LaidTab
set_option linter.unusedSimpArgs false
set_option linter.unusedVariables false
set_option maxRecDepth 100000
namespace Go.Proofs.YtkgjfkdcnoockaaDoor
open Go Go.Eng

noncomputable def enqM (m : MD) (c id : Int) : MD × Int := if insM m c m.2.2.1.length = 0 then (if id < 0 then (zM, 2) else if waitsM m id = true then (zM, 30) else ((m.1, m.2.1, m.2.2.1.set c.toNat (m.2.2.1[c.toNat]?.getD [] ++ [id]), m.2.2.2), 0)) else (zM, insM m c m.2.2.1.length)
def addsI (sg l : List Int) : List Int := l.foldl (fun s x => makeI (s ++ [x])) sg
theorem addsI_take {sg l : List Int} {k : Nat} {d : Int} (h : l[k]? = some d) : addsI sg (l.take (k + 1)) = makeI (addsI sg (l.take k) ++ [d]) := by
  unfold addsI
  rw [List.take_add_one, h]; simp
theorem addsI_len : ∀ (l sg : List Int), (addsI sg l).length ≤ sg.length + l.length
  | [], sg => by simp [addsI]
  | x :: l, sg => by
    have := addsI_len l (makeI (sg ++ [x]))
    have h2 := make_le (sg ++ [x]) []
    have e : addsI sg (x :: l) = addsI (makeI (sg ++ [x])) l := rfl
    rw [e]
    unfold makeI at *
    simp only [List.length_append, List.length_cons, List.length_nil] at *
    omega
noncomputable def wkM (m : MD) (c n : Int) : MD × Int × Int := if insM m c m.2.2.1.length = 0 then ((m.1, m.2.1, m.2.2.1.set c.toNat ((m.2.2.1[c.toNat]?.getD []).drop (minI n ((m.2.2.1[c.toNat]?.getD []).length : Int)).toNat), addsI m.2.2.2.1 ((m.2.2.1[c.toNat]?.getD []).take (minI n ((m.2.2.1[c.toNat]?.getD []).length : Int)).toNat), ()), minI n ((m.2.2.1[c.toNat]?.getD []).length : Int), 0) else (zM, 0, insM m c m.2.2.1.length)
noncomputable def wakeM (m : MD) (id : Int) : MD × Int := if formM m = false then (zM, 1) else if hasI m.2.2.2.1 id = false then (zM, 30) else ((m.1, m.2.1, m.2.2.1, filI (makeI m.2.2.2.1) [id] false, ()), 0)
def newM (vs : List VD) (ms cs : List ByteArray) (fs : List FD) (ts : List SD) : MD × Int := if (chkP vs ms cs fs ts).1 = 0 then ((vs.map (·.2.1), List.replicate ms.length (-1), List.replicate cs.length [], [], ()), 0) else (zM, (chkP vs ms cs fs ts).1)
@[reducible] noncomputable def ctEnq : CT := { ps := [shM, .int .i64, .int .i64], pre := fun d => bndM d.1, res := fun d => ([], .tup [.agg [.sl (.int .i64) ((enqM d.1 d.2.1 d.2.2.1).1).1, .sl (.int .i64) ((enqM d.1 d.2.1 d.2.2.1).1).2.1, .sl (.sl (.int .i64)) ((enqM d.1 d.2.1 d.2.2.1).1).2.2.1, .sl (.int .i64) ((enqM d.1 d.2.1 d.2.2.1).1).2.2.2.1], .c (.v (.int .i64 ((enqM d.1 d.2.1 d.2.2.1).2)))]) }
@[reducible] noncomputable def cl18 : List (Nat × CT) := [(50, ctIns), (51, ctWts), (36, ctClO)]
@[reducible] def ann18 (vs : List Int) (os : List Int) (qs : List (List Int)) (sg : List Int) (c : Int) (id : Int) : Nat → Option (St → Ann) := fun _ => none
@[reducible] def il18 : List (Nat × IP) := []
@[reducible] def hl18 : List (Nat × Nat × CT) := []
@[reducible] noncomputable def ml18 : List (Nat × MK) := []
set_option maxRecDepth 100000 in
theorem f18_vc (vs : List Int) (os : List Int) (qs : List (List Int)) (sg : List Int) (c : Int) (id : Int) (hpre : ctEnq.pre ((vs, os, qs, sg, ()), c, id, ())) :
    bndM (vs, os, qs, sg, ()) ∧ br (!decide (insM (vs, os, qs, sg, ()) c (↑qs.length : Int) = (0 : Int))) (([] : List Go.Eng.Res) = [] ∧ Ent.tup [SV.agg [SC.sl I6 (enqM (vs, os, qs, sg, ()) c id).fst.fst, SC.sl I6 (enqM (vs, os, qs, sg, ()) c id).fst.snd.fst, SC.sl I6.sl (enqM (vs, os, qs, sg, ()) c id).fst.snd.snd.fst, SC.sl I6 (enqM (vs, os, qs, sg, ()) c id).fst.snd.snd.snd.fst], SV.c (SC.v (Value.int IntKind.i64 (enqM (vs, os, qs, sg, ()) c id).snd))] = Ent.tup [SV.agg [SC.sl I6 [], SC.sl I6 [], SC.sl I6.sl [], SC.sl I6 []], SV.c (SC.v (Value.int IntKind.i64 (insM (vs, os, qs, sg, ()) c (↑qs.length : Int))))]) (br (decide (id < (0 : Int))) (([] : List Go.Eng.Res) = [] ∧ Ent.tup [SV.agg [SC.sl I6 (enqM (vs, os, qs, sg, ()) c id).fst.fst, SC.sl I6 (enqM (vs, os, qs, sg, ()) c id).fst.snd.fst, SC.sl I6.sl (enqM (vs, os, qs, sg, ()) c id).fst.snd.snd.fst, SC.sl I6 (enqM (vs, os, qs, sg, ()) c id).fst.snd.snd.snd.fst], SV.c (SC.v (Value.int IntKind.i64 (enqM (vs, os, qs, sg, ()) c id).snd))] = Ent.tup [SV.agg [SC.sl I6 [], SC.sl I6 [], SC.sl I6.sl [], SC.sl I6 []], SV.c (SC.v (Value.int IntKind.i64 (2 : Int)))]) (bndM (vs, os, qs, sg, ()) ∧ br (waitsM (vs, os, qs, sg, ()) id) (([] : List Go.Eng.Res) = [] ∧ Ent.tup [SV.agg [SC.sl I6 (enqM (vs, os, qs, sg, ()) c id).fst.fst, SC.sl I6 (enqM (vs, os, qs, sg, ()) c id).fst.snd.fst, SC.sl I6.sl (enqM (vs, os, qs, sg, ()) c id).fst.snd.snd.fst, SC.sl I6 (enqM (vs, os, qs, sg, ()) c id).fst.snd.snd.snd.fst], SV.c (SC.v (Value.int IntKind.i64 (enqM (vs, os, qs, sg, ()) c id).snd))] = Ent.tup [SV.agg [SC.sl I6 [], SC.sl I6 [], SC.sl I6.sl [], SC.sl I6 []], SV.c (SC.v (Value.int IntKind.i64 (30 : Int)))]) (bndM (vs, os, qs, sg, ()) ∧ ((0 : Int) ≤ c ∧ c < (↑qs.length : Int)) ∧ c.toNat < qs.length ∧ ∀ (d : List I6.den), qs[c.toNat]? = some d → false = false ∧ (decide (c.toNat < qs.length) = true → ((decide (c.toNat < qs.length) = true ∧ c.toNat < qs.length) ∧ ∀ (d : List I6.den), qs[c.toNat]? = some d → InA (List.length (d) + List.length ([id])) (8 : Nat) ∧ ((0 : Int) ≤ c ∧ c < (↑qs.length : Int)) ∧ c.toNat < qs.length ∧ c.toNat = c.toNat ∧ ∀ (e0 : List I6.den), qs[c.toNat]? = some e0 → ([] : List Go.Eng.Res) = [] ∧ Ent.tup [SV.agg [SC.sl I6 (enqM (vs, os, qs, sg, ()) c id).fst.fst, SC.sl I6 (enqM (vs, os, qs, sg, ()) c id).fst.snd.fst, SC.sl I6.sl (enqM (vs, os, qs, sg, ()) c id).fst.snd.snd.fst, SC.sl I6 (enqM (vs, os, qs, sg, ()) c id).fst.snd.snd.snd.fst], SV.c (SC.v (Value.int IntKind.i64 (enqM (vs, os, qs, sg, ()) c id).snd))] = Ent.tup [SV.agg [SC.sl I6 vs, SC.sl I6 os, SC.sl I6.sl (qs.set c.toNat ((d ++ [id]))), SC.sl I6 sg], SV.c (SC.v (Value.int IntKind.i64 (0 : Int)))]) ∧ ((decide (c.toNat < qs.length) = true ∧ c.toNat < qs.length) ∧ ∀ (d : List I6.den), qs[c.toNat]? = some d → InA (List.length (d) + List.length ([id])) (8 : Nat) ∧ ((0 : Int) ≤ c ∧ c < (↑qs.length : Int)) ∧ c.toNat < qs.length ∧ c.toNat = c.toNat ∧ ∀ (e0 : List I6.den), qs[c.toNat]? = some e0 → ([] : List Go.Eng.Res) = [] ∧ Ent.tup [SV.agg [SC.sl I6 (enqM (vs, os, qs, sg, ()) c id).fst.fst, SC.sl I6 (enqM (vs, os, qs, sg, ()) c id).fst.snd.fst, SC.sl I6.sl (enqM (vs, os, qs, sg, ()) c id).fst.snd.snd.fst, SC.sl I6 (enqM (vs, os, qs, sg, ()) c id).fst.snd.snd.snd.fst], SV.c (SC.v (Value.int IntKind.i64 (enqM (vs, os, qs, sg, ()) c id).snd))] = Ent.tup [SV.agg [SC.sl I6 vs, SC.sl I6 os, SC.sl I6.sl (qs.set c.toNat ((d ++ [id]))), SC.sl I6 sg], SV.c (SC.v (Value.int IntKind.i64 (0 : Int)))]) ∧ (decide (c.toNat < qs.length) = true ∧ c.toNat < qs.length) ∧ ∀ (d : List I6.den), qs[c.toNat]? = some d → InA (List.length (d) + List.length ([id])) (8 : Nat) ∧ ((0 : Int) ≤ c ∧ c < (↑qs.length : Int)) ∧ c.toNat < qs.length ∧ c.toNat = c.toNat ∧ ∀ (e0 : List I6.den), qs[c.toNat]? = some e0 → ([] : List Go.Eng.Res) = [] ∧ Ent.tup [SV.agg [SC.sl I6 (enqM (vs, os, qs, sg, ()) c id).fst.fst, SC.sl I6 (enqM (vs, os, qs, sg, ()) c id).fst.snd.fst, SC.sl I6.sl (enqM (vs, os, qs, sg, ()) c id).fst.snd.snd.fst, SC.sl I6 (enqM (vs, os, qs, sg, ()) c id).fst.snd.snd.snd.fst], SV.c (SC.v (Value.int IntKind.i64 (enqM (vs, os, qs, sg, ()) c id).snd))] = Ent.tup [SV.agg [SC.sl I6 vs, SC.sl I6 os, SC.sl I6.sl (qs.set c.toNat ((d ++ [id]))), SC.sl I6 sg], SV.c (SC.v (Value.int IntKind.i64 (0 : Int)))]) ∧ (decide (c.toNat < qs.length) = false → False ∧ False ∧ False)))) := by
  unfold enqM
  have hb := hpre
  obtain ⟨b1, b2, b3, b4, b5, b6⟩ : vs.length ≤ 1000 ∧ os.length ≤ 1000 ∧ qs.length ≤ 1000 ∧ sg.length ≤ 1000 ∧ (∀ q ∈ qs, q.length ≤ 1000) ∧ qs.flatten.length ≤ 100000 := hpre
  refine ⟨hb, br_iff.2 ⟨fun h => ⟨rfl, ?_⟩, fun h => ?_⟩⟩
  · rw [if_neg (by simpa using h)]; rfl
  have h : insM (vs, os, qs, sg, ()) c qs.length = 0 := by simpa using h
  have hx := insM_zero.1 h
  rw [if_pos h]
  refine br_iff.2 ⟨fun g => ⟨rfl, ?_⟩, fun g => ⟨hb, br_iff.2 ⟨fun w => ⟨rfl, ?_⟩, fun w => ⟨hb, hx.2, by omega, fun d hd => ⟨rfl, ?_⟩⟩⟩⟩⟩
  · rw [if_pos (by simpa using g)]; rfl
  · rw [if_neg (by simpa using g), if_pos w]; rfl
  rw [if_neg (by simpa using g), if_neg (by simpa using w)]
  have hc : decide (c.toNat < qs.length) = true := by rw [decide_eq_true_eq]; omega
  have hl := b5 d (List.mem_of_getElem? hd)
  have e : (vs, os, qs, sg, ()).2.2.1[c.toNat]?.getD [] = d := by simp [hd]
  rw [e]
  have key : ∀ d' : List Int, qs[c.toNat]? = some d' → d' = d := fun d' h' => by rw [hd] at h'; cases h'; rfl
  have hI : InA (d.length + 1) 8 := InA_iff.2 (by omega)
  have hz : ¬ decide (c.toNat < qs.length) = false := by rw [hc]; simp
  refine ⟨fun _ => ?_, fun q => absurd q hz⟩
  have F : (decide (c.toNat < qs.length) = true ∧ c.toNat < qs.length) := ⟨hc, by omega⟩
  repeat' first | exact F | (refine And.intro ?_ ?_)
  all_goals
    intro d' h'
    cases key d' h'
    exact ⟨hI, hx.2, by omega, rfl, fun _ _ => ⟨rfl, rfl⟩⟩
set_option maxHeartbeats 2000000 in
set_option maxRecDepth 100000 in
theorem f18_met : Go.Eng.Met Tryd.prog cx0.gd 18 ctEnq :=
  (met_all (cx := cx0) (n := 42) (cl := cl18) (il := il18) (hl := hl18) (ml := ml18) (rc := [.data shM, .keep]) (lits := []) (suf := []) (by kernel_rfl) tis_ok ⟨f50_met, f51_met, f36_met, trivial⟩ trivial trivial trivial Tryd.func18 (by kernel_rfl) (by kernel_rfl) rfl (by kernel_rfl) (by kernel_rfl) (by simp) fun d hd => by
    obtain ⟨⟨vs, os, qs, sg, ⟨⟩⟩, c, id, ⟨⟩⟩ := d
    exact ex_of (ann18 vs os qs sg c id) (f18_vc vs os qs sg c id hd) (by kernel_rfl)).met
@[reducible] noncomputable def ctWks : CT := { ps := [shM, .int .i64, .int .i64], pre := fun d => bndM d.1 ∧ 0 ≤ d.2.2.1, res := fun d => ([], .tup [.agg [.sl (.int .i64) ((wkM d.1 d.2.1 d.2.2.1).1).1, .sl (.int .i64) ((wkM d.1 d.2.1 d.2.2.1).1).2.1, .sl (.sl (.int .i64)) ((wkM d.1 d.2.1 d.2.2.1).1).2.2.1, .sl (.int .i64) ((wkM d.1 d.2.1 d.2.2.1).1).2.2.2.1], .c (.v (.int .i64 ((wkM d.1 d.2.1 d.2.2.1).2.1))), .c (.v (.int .i64 ((wkM d.1 d.2.1 d.2.2.1).2.2)))]) }
@[reducible] noncomputable def cl52 : List (Nat × CT) := [(50, ctIns), (78, ctAdd), (60, ctCld), (36, ctClD)]
@[reducible] def ann52 (vs : List Int) (os : List Int) (qs : List (List Int)) (sg : List Int) (c : Int) (n : Int) : Nat → Option (St → Ann) := fun k => match k with
  | 7 => some fun s => .inv { α := Nat, can := [(5, .cell 6 3)], slots := fun k => [(41, .c (.v (.int .i64 k)))], res := fun k => [(5, .row 3 (.int .i64) (addsI sg ((slotL (.int .i64) s 39).take k)))], inv := fun k => k ≤ (slotL (.int .i64) s 39).length, meas := fun k => (slotL (.int .i64) s 39).length - k }
  | _ => none
@[reducible] def il52 : List (Nat × IP) := []
@[reducible] def hl52 : List (Nat × Nat × CT) := []
@[reducible] noncomputable def ml52 : List (Nat × MK) := []
set_option maxRecDepth 100000 in
theorem f52_vc (vs : List Int) (os : List Int) (qs : List (List Int)) (sg : List Int) (c : Int) (n : Int) (hpre : ctWks.pre ((vs, os, qs, sg, ()), c, n, ())) :
    bndM (vs, os, qs, sg, ()) ∧ br (!decide (insM (vs, os, qs, sg, ()) c (↑qs.length : Int) = (0 : Int))) (([] : List Go.Eng.Res) = [] ∧ Ent.tup [SV.agg [SC.sl I6 (wkM (vs, os, qs, sg, ()) c n).fst.fst, SC.sl I6 (wkM (vs, os, qs, sg, ()) c n).fst.snd.fst, SC.sl I6.sl (wkM (vs, os, qs, sg, ()) c n).fst.snd.snd.fst, SC.sl I6 (wkM (vs, os, qs, sg, ()) c n).fst.snd.snd.snd.fst], SV.c (SC.v (Value.int IntKind.i64 (wkM (vs, os, qs, sg, ()) c n).snd.fst)), SV.c (SC.v (Value.int IntKind.i64 (wkM (vs, os, qs, sg, ()) c n).snd.snd))] = Ent.tup [SV.agg [SC.sl I6 [], SC.sl I6 [], SC.sl I6.sl [], SC.sl I6 []], SV.c (SC.v (Value.int IntKind.i64 (0 : Int))), SV.c (SC.v (Value.int IntKind.i64 (insM (vs, os, qs, sg, ()) c (↑qs.length : Int))))]) (bndM (vs, os, qs, sg, ()) ∧ ((0 : Int) ≤ c ∧ c < (↑qs.length : Int)) ∧ c.toNat < qs.length ∧ ∀ (d : List I6.den), qs[c.toNat]? = some d → ((0 : Int) ≤ c ∧ c < (↑qs.length : Int)) ∧ c.toNat < qs.length ∧ ∀ (d_1 : List I6.den), qs[c.toNat]? = some d_1 → ((0 : Int) ≤ (0 : Int) ∧ (0 : Int) ≤ minI n (↑d.length : Int) ∧ minI n (↑d.length : Int) ≤ (↑d_1.length : Int)) ∧ (∃ x, x ≤ List.length (List.drop (0 : Nat) (List.take (minI n (↑d.length : Int)).toNat d_1)) ∧ (SV.c (SC.v (Value.int IntKind.i64 (0 : Int))) = SV.c (SC.v (Value.int IntKind.i64 (↑x : Int))) ∧ True) ∧ [(([] : Go.Eng.Gd), Res.blk (31 : Nat) [SC.sl I6 vs, SC.sl I6 os, SC.sl I6.sl qs, SC.sl I6 sg]), (([] : Go.Eng.Gd), Res.blk (31 : Nat) [SC.v (Value.slice none (0 : Nat) (0 : Nat)), SC.v (Value.slice none (0 : Nat) (0 : Nat)), SC.v (Value.slice none (0 : Nat) (0 : Nat)), SC.v (Value.slice none (0 : Nat) (0 : Nat))]), (([] : Go.Eng.Gd), Res.row (3 : TypeId) I6 vs), (([] : Go.Eng.Gd), Res.row (3 : TypeId) I6 os), (([] : Go.Eng.Gd), Res.row (28 : TypeId) I6.sl qs), (([] : Go.Eng.Gd), Res.row (3 : TypeId) I6 sg), (([] : Go.Eng.Gd), Res.blk (31 : Nat) [SC.row (2 : Nat), SC.row (3 : Nat), SC.row (4 : Nat), SC.row (5 : Nat)])] = [(([] : Go.Eng.Gd), Res.blk (31 : Nat) [SC.sl I6 vs, SC.sl I6 os, SC.sl I6.sl qs, SC.sl I6 sg]), (([] : Go.Eng.Gd), Res.blk (31 : Nat) [SC.v (Value.slice none (0 : Nat) (0 : Nat)), SC.v (Value.slice none (0 : Nat) (0 : Nat)), SC.v (Value.slice none (0 : Nat) (0 : Nat)), SC.v (Value.slice none (0 : Nat) (0 : Nat))]), (([] : Go.Eng.Gd), Res.row (3 : TypeId) I6 vs), (([] : Go.Eng.Gd), Res.row (3 : TypeId) I6 os), (([] : Go.Eng.Gd), Res.row (28 : TypeId) I6.sl qs), (([] : Go.Eng.Gd), Res.row (3 : TypeId) I6 (addsI sg (List.take x (List.drop (0 : Nat) (List.take (minI n (↑d.length : Int)).toNat d_1))))), (([] : Go.Eng.Gd), Res.blk (31 : Nat) [SC.row (2 : Nat), SC.row (3 : Nat), SC.row (4 : Nat), SC.row (5 : Nat)])]) ∧ ∀ (x : Nat), x ≤ List.length (List.drop (0 : Nat) (List.take (minI n (↑d.length : Int)).toNat d_1)) → br (decide ((↑x : Int) < (↑(List.drop (0 : Nat) (List.take (minI n (↑d.length : Int)).toNat d_1)).length : Int))) (((0 : Int) ≤ (↑x : Int) ∧ (↑x : Int) < (↑(List.drop (0 : Nat) (List.take (minI n (↑d.length : Int)).toNat d_1)).length : Int)) ∧ ∀ (d_2 : Int), (List.drop (0 : Nat) (List.take (minI n (↑d.length : Int)).toNat d_1))[(↑x : Int).toNat]? = some d_2 → (addsI sg (List.take x (List.drop (0 : Nat) (List.take (minI n (↑d.length : Int)).toNat d_1)))).length ≤ (999999 : Nat) ∧ InR IntKind.i64 ((↑x : Int) + (1 : Int)) ∧ ∃ x', x' ≤ List.length (List.drop (0 : Nat) (List.take (minI n (↑d.length : Int)).toNat d_1)) ∧ (SV.c (SC.v (Value.int IntKind.i64 ((↑x : Int) + (1 : Int)))) = SV.c (SC.v (Value.int IntKind.i64 (↑x' : Int))) ∧ True) ∧ [(([] : Go.Eng.Gd), Res.blk (31 : Nat) [SC.sl I6 vs, SC.sl I6 os, SC.sl I6.sl qs, SC.sl I6 sg]), (([] : Go.Eng.Gd), Res.blk (31 : Nat) [SC.v (Value.slice none (0 : Nat) (0 : Nat)), SC.v (Value.slice none (0 : Nat) (0 : Nat)), SC.v (Value.slice none (0 : Nat) (0 : Nat)), SC.v (Value.slice none (0 : Nat) (0 : Nat))]), (([] : Go.Eng.Gd), Res.row (3 : TypeId) I6 vs), (([] : Go.Eng.Gd), Res.row (3 : TypeId) I6 os), (([] : Go.Eng.Gd), Res.row (28 : TypeId) I6.sl qs), (([] : Go.Eng.Gd), Res.row (3 : TypeId) I6 (makeI (addsI sg (List.take x (List.drop (0 : Nat) (List.take (minI n (↑d.length : Int)).toNat d_1))) ++ [d_2]))), (([] : Go.Eng.Gd), Res.blk (31 : Nat) [SC.row (2 : Nat), SC.row (3 : Nat), SC.row (4 : Nat), SC.row (5 : Nat)])] = [(([] : Go.Eng.Gd), Res.blk (31 : Nat) [SC.sl I6 vs, SC.sl I6 os, SC.sl I6.sl qs, SC.sl I6 sg]), (([] : Go.Eng.Gd), Res.blk (31 : Nat) [SC.v (Value.slice none (0 : Nat) (0 : Nat)), SC.v (Value.slice none (0 : Nat) (0 : Nat)), SC.v (Value.slice none (0 : Nat) (0 : Nat)), SC.v (Value.slice none (0 : Nat) (0 : Nat))]), (([] : Go.Eng.Gd), Res.row (3 : TypeId) I6 vs), (([] : Go.Eng.Gd), Res.row (3 : TypeId) I6 os), (([] : Go.Eng.Gd), Res.row (28 : TypeId) I6.sl qs), (([] : Go.Eng.Gd), Res.row (3 : TypeId) I6 (addsI sg (List.take x' (List.drop (0 : Nat) (List.take (minI n (↑d.length : Int)).toNat d_1))))), (([] : Go.Eng.Gd), Res.blk (31 : Nat) [SC.row (2 : Nat), SC.row (3 : Nat), SC.row (4 : Nat), SC.row (5 : Nat)])] ∧ List.length (List.drop (0 : Nat) (List.take (minI n (↑d.length : Int)).toNat d_1)) - x' < List.length (List.drop (0 : Nat) (List.take (minI n (↑d.length : Int)).toNat d_1)) - x) (((0 : Int) ≤ c ∧ c < (↑qs.length : Int)) ∧ c.toNat < qs.length ∧ ∀ (d_2 : List I6.den), qs[c.toNat]? = some d_2 → ((0 : Int) ≤ minI n (↑d.length : Int) ∧ minI n (↑d.length : Int) ≤ (↑d_2.length : Int) ∧ (↑d_2.length : Int) ≤ (↑d_2.length : Int)) ∧ (List.drop (minI n (↑d.length : Int)).toNat (List.take (↑d_2.length : Int).toNat d_2)).length ≤ (1000000 : Nat) ∧ ((0 : Int) ≤ c ∧ c < (↑qs.length : Int)) ∧ c.toNat < qs.length ∧ ([] : List Go.Eng.Res) = [] ∧ Ent.tup [SV.agg [SC.sl I6 (wkM (vs, os, qs, sg, ()) c n).fst.fst, SC.sl I6 (wkM (vs, os, qs, sg, ()) c n).fst.snd.fst, SC.sl I6.sl (wkM (vs, os, qs, sg, ()) c n).fst.snd.snd.fst, SC.sl I6 (wkM (vs, os, qs, sg, ()) c n).fst.snd.snd.snd.fst], SV.c (SC.v (Value.int IntKind.i64 (wkM (vs, os, qs, sg, ()) c n).snd.fst)), SV.c (SC.v (Value.int IntKind.i64 (wkM (vs, os, qs, sg, ()) c n).snd.snd))] = Ent.tup [SV.agg [SC.sl I6 vs, SC.sl I6 os, SC.sl I6.sl (qs.set c.toNat (List.drop (minI n (↑d.length : Int)).toNat (List.take (↑d_2.length : Int).toNat d_2))), SC.sl I6 (addsI sg (List.take x (List.drop (0 : Nat) (List.take (minI n (↑d.length : Int)).toNat d_1))))], SV.c (SC.v (Value.int IntKind.i64 (minI n (↑d.length : Int)))), SV.c (SC.v (Value.int IntKind.i64 (0 : Int)))])) := by
  obtain ⟨hb, hn⟩ : bndM (vs, os, qs, sg, ()) ∧ 0 ≤ n := hpre
  unfold wkM
  obtain ⟨b1, b2, b3, b4, b5, b6⟩ : vs.length ≤ 1000 ∧ os.length ≤ 1000 ∧ qs.length ≤ 1000 ∧ sg.length ≤ 1000 ∧ (∀ q ∈ qs, q.length ≤ 1000) ∧ qs.flatten.length ≤ 100000 := id hb
  refine ⟨hb, br_iff.2 ⟨fun h => ⟨rfl, ?_⟩, fun h => ?_⟩⟩
  · rw [if_neg (by simpa using h)]; rfl
  have h : insM (vs, os, qs, sg, ()) c qs.length = 0 := by simpa using h
  have hx := insM_zero.1 h
  rw [if_pos h]
  refine ⟨hb, hx.2, by omega, fun d hd => ⟨hx.2, by omega, fun d1 hd1 => ?_⟩⟩
  rw [hd] at hd1; cases hd1
  have hl := b5 d (List.mem_of_getElem? hd)
  have e : (vs, os, qs, sg, ()).2.2.1[c.toNat]?.getD [] = d := by simp [hd]
  rw [e]
  have hm : 0 ≤ minI n (d.length : Int) ∧ minI n (d.length : Int) ≤ d.length := by unfold minI; split <;> omega
  generalize minI n (d.length : Int) = k at hm
  rw [List.drop_zero]
  have h2 : (d.take k.toNat).length ≤ 1000 := by rw [List.length_take]; omega
  refine ⟨⟨by omega, hm⟩, ⟨0, by omega, ⟨rfl, trivial⟩, rfl⟩, fun j hj => br_iff.2 ⟨fun g => ?_, fun g => ?_⟩⟩
  · simp only [decide_eq_true_eq] at g
    refine ⟨⟨by omega, by omega⟩, fun x hx2 => ⟨?_, InR_i64.2 (by omega), j + 1, by omega, ⟨rfl, trivial⟩, ?_, by omega⟩⟩
    · have := addsI_len ((d.take k.toNat).take j) sg
      rw [List.length_take] at this; omega
    · have hx2 : (d.take k.toNat)[j]? = some x := hx2
      rw [addsI_take hx2]
  simp only [decide_eq_false_iff_not] at g
  refine ⟨hx.2, by omega, fun d2 hd2 => ?_⟩
  rw [hd] at hd2; cases hd2
  have e2 : List.take (d.length : Int).toNat d = d := List.take_of_length_le (by omega)
  rw [e2]
  refine ⟨⟨by omega, by omega, by omega⟩, by rw [List.length_drop]; omega, hx.2, by omega, rfl, ?_⟩
  rw [List.take_of_length_le (i := j) (by omega)]
set_option maxHeartbeats 2000000 in
set_option maxRecDepth 100000 in
theorem f52_met : Go.Eng.Met Tryd.prog cx0.gd 52 ctWks :=
  (met_all (cx := cx0) (n := 65) (cl := cl52) (il := il52) (hl := hl52) (ml := ml52) (rc := [.data shM, .keep, .keep]) (lits := []) (suf := []) (by kernel_rfl) tis_ok ⟨f50_met, f78_met, f60_met, f36d_met, trivial⟩ trivial trivial trivial Tryd.func52 (by kernel_rfl) (by kernel_rfl) rfl (by kernel_rfl) (by kernel_rfl) (by simp) fun d hd => by
    obtain ⟨⟨vs, os, qs, sg, ⟨⟩⟩, c, n, ⟨⟩⟩ := d
    exact ex_of (ann52 vs os qs sg c n) (f52_vc vs os qs sg c n hd) (by kernel_rfl)).met
@[reducible] noncomputable def ctSig : CT := { ps := [shM, .int .i64], pre := fun d => bndM d.1, res := fun d => ([], .tup [.agg [.sl (.int .i64) ((wkM d.1 d.2.1 1).1).1, .sl (.int .i64) ((wkM d.1 d.2.1 1).1).2.1, .sl (.sl (.int .i64)) ((wkM d.1 d.2.1 1).1).2.2.1, .sl (.int .i64) ((wkM d.1 d.2.1 1).1).2.2.2.1], .c (.v (.int .i64 ((wkM d.1 d.2.1 1).2.1))), .c (.v (.int .i64 ((wkM d.1 d.2.1 1).2.2)))]) }
@[reducible] noncomputable def cl20 : List (Nat × CT) := [(52, ctWks)]
@[reducible] def ann20 (vs : List Int) (os : List Int) (qs : List (List Int)) (sg : List Int) (c : Int) : Nat → Option (St → Ann) := fun _ => none
@[reducible] def il20 : List (Nat × IP) := []
@[reducible] def hl20 : List (Nat × Nat × CT) := []
@[reducible] noncomputable def ml20 : List (Nat × MK) := []
set_option maxRecDepth 100000 in
theorem f20_vc (vs : List Int) (os : List Int) (qs : List (List Int)) (sg : List Int) (c : Int) (hpre : ctSig.pre ((vs, os, qs, sg, ()), c, ())) :
    (bndM (vs, os, qs, sg, ()) ∧ (0 : I6.den) ≤ (1 : Int)) ∧ ([] : List Go.Eng.Res) = [] ∧ Ent.tup [SV.agg [SC.sl I6 (wkM (vs, os, qs, sg, ()) c (1 : Int)).fst.fst, SC.sl I6 (wkM (vs, os, qs, sg, ()) c (1 : Int)).fst.snd.fst, SC.sl I6.sl (wkM (vs, os, qs, sg, ()) c (1 : Int)).fst.snd.snd.fst, SC.sl I6 (wkM (vs, os, qs, sg, ()) c (1 : Int)).fst.snd.snd.snd.fst], SV.c (SC.v (Value.int IntKind.i64 (wkM (vs, os, qs, sg, ()) c (1 : Int)).snd.fst)), SV.c (SC.v (Value.int IntKind.i64 (wkM (vs, os, qs, sg, ()) c (1 : Int)).snd.snd))] = Ent.tup [SV.agg [SC.sl I6 ((wkM (vs, os, qs, sg, ()) c (1 : Int)).fst.fst, (wkM (vs, os, qs, sg, ()) c (1 : Int)).fst.snd.fst, (wkM (vs, os, qs, sg, ()) c (1 : Int)).fst.snd.snd.fst, (wkM (vs, os, qs, sg, ()) c (1 : Int)).fst.snd.snd.snd.fst, ()).fst, SC.sl I6 ((wkM (vs, os, qs, sg, ()) c (1 : Int)).fst.snd.fst, (wkM (vs, os, qs, sg, ()) c (1 : Int)).fst.snd.snd.fst, (wkM (vs, os, qs, sg, ()) c (1 : Int)).fst.snd.snd.snd.fst, ()).fst, SC.sl I6.sl ((wkM (vs, os, qs, sg, ()) c (1 : Int)).fst.snd.snd.fst, (wkM (vs, os, qs, sg, ()) c (1 : Int)).fst.snd.snd.snd.fst, ()).fst, SC.sl I6 (wkM (vs, os, qs, sg, ()) c (1 : Int)).fst.snd.snd.snd.fst], SV.c (SC.v (Value.int IntKind.i64 (wkM (vs, os, qs, sg, ()) c (1 : Int)).snd.fst)), SV.c (SC.v (Value.int IntKind.i64 (wkM (vs, os, qs, sg, ()) c (1 : Int)).snd.snd))] := by
  exact ⟨⟨hpre, by decide⟩, rfl, rfl⟩
set_option maxHeartbeats 2000000 in
set_option maxRecDepth 100000 in
theorem f20_met : Go.Eng.Met Tryd.prog cx0.gd 20 ctSig :=
  (met_all (cx := cx0) (n := 13) (cl := cl20) (il := il20) (hl := hl20) (ml := ml20) (rc := [.data shM, .keep, .keep]) (lits := []) (suf := []) (by kernel_rfl) tis_ok ⟨f52_met, trivial⟩ trivial trivial trivial Tryd.func20 (by kernel_rfl) (by kernel_rfl) rfl (by kernel_rfl) (by kernel_rfl) (by simp) fun d hd => by
    obtain ⟨⟨vs, os, qs, sg, ⟨⟩⟩, c, ⟨⟩⟩ := d
    exact ex_of (ann20 vs os qs sg c) (f20_vc vs os qs sg c hd) (by kernel_rfl)).met
@[reducible] noncomputable def ctWke : CT := { ps := [shM, .int .i64], pre := fun d => bndM d.1, res := fun d => ([], .tup [.agg [.sl (.int .i64) ((wakeM d.1 d.2.1).1).1, .sl (.int .i64) ((wakeM d.1 d.2.1).1).2.1, .sl (.sl (.int .i64)) ((wakeM d.1 d.2.1).1).2.2.1, .sl (.int .i64) ((wakeM d.1 d.2.1).1).2.2.2.1], .c (.v (.int .i64 ((wakeM d.1 d.2.1).2)))]) }
@[reducible] noncomputable def cl24 : List (Nat × CT) := [(48, ctFm), (54, ctHas), (55, ctRem), (36, ctClD)]
@[reducible] def ann24 (vs : List Int) (os : List Int) (qs : List (List Int)) (sg : List Int) (id : Int) : Nat → Option (St → Ann) := fun _ => none
@[reducible] def il24 : List (Nat × IP) := []
@[reducible] def hl24 : List (Nat × Nat × CT) := []
@[reducible] noncomputable def ml24 : List (Nat × MK) := []
set_option maxRecDepth 100000 in
theorem f24_vc (vs : List Int) (os : List Int) (qs : List (List Int)) (sg : List Int) (id : Int) (hpre : ctWke.pre ((vs, os, qs, sg, ()), id, ())) :
    bndM (vs, os, qs, sg, ()) ∧ br (!formM (vs, os, qs, sg, ())) (([] : List Go.Eng.Res) = [] ∧ Ent.tup [SV.agg [SC.sl I6 (wakeM (vs, os, qs, sg, ()) id).fst.fst, SC.sl I6 (wakeM (vs, os, qs, sg, ()) id).fst.snd.fst, SC.sl I6.sl (wakeM (vs, os, qs, sg, ()) id).fst.snd.snd.fst, SC.sl I6 (wakeM (vs, os, qs, sg, ()) id).fst.snd.snd.snd.fst], SV.c (SC.v (Value.int IntKind.i64 (wakeM (vs, os, qs, sg, ()) id).snd))] = Ent.tup [SV.agg [SC.sl I6 [], SC.sl I6 [], SC.sl I6.sl [], SC.sl I6 []], SV.c (SC.v (Value.int IntKind.i64 (1 : Int)))]) (sg.length ≤ (1000000 : Nat) ∧ br (!hasI sg id) (([] : List Go.Eng.Res) = [] ∧ Ent.tup [SV.agg [SC.sl I6 (wakeM (vs, os, qs, sg, ()) id).fst.fst, SC.sl I6 (wakeM (vs, os, qs, sg, ()) id).fst.snd.fst, SC.sl I6.sl (wakeM (vs, os, qs, sg, ()) id).fst.snd.snd.fst, SC.sl I6 (wakeM (vs, os, qs, sg, ()) id).fst.snd.snd.snd.fst], SV.c (SC.v (Value.int IntKind.i64 (wakeM (vs, os, qs, sg, ()) id).snd))] = Ent.tup [SV.agg [SC.sl I6 [], SC.sl I6 [], SC.sl I6.sl [], SC.sl I6 []], SV.c (SC.v (Value.int IntKind.i64 (30 : Int)))]) (bndM (vs, os, qs, sg, ()) ∧ sg.length ≤ (1000000 : Nat) ∧ ([] : List Go.Eng.Res) = [] ∧ Ent.tup [SV.agg [SC.sl I6 (wakeM (vs, os, qs, sg, ()) id).fst.fst, SC.sl I6 (wakeM (vs, os, qs, sg, ()) id).fst.snd.fst, SC.sl I6.sl (wakeM (vs, os, qs, sg, ()) id).fst.snd.snd.fst, SC.sl I6 (wakeM (vs, os, qs, sg, ()) id).fst.snd.snd.snd.fst], SV.c (SC.v (Value.int IntKind.i64 (wakeM (vs, os, qs, sg, ()) id).snd))] = Ent.tup [SV.agg [SC.sl I6 vs, SC.sl I6 os, SC.sl I6.sl qs, SC.sl I6 (filI (makeI sg) [id] false)], SV.c (SC.v (Value.int IntKind.i64 (0 : Int)))])) := by
  have hb := hpre
  obtain ⟨b1, b2, b3, b4, b5, b6⟩ : vs.length ≤ 1000 ∧ os.length ≤ 1000 ∧ qs.length ≤ 1000 ∧ sg.length ≤ 1000 ∧ (∀ q ∈ qs, q.length ≤ 1000) ∧ qs.flatten.length ≤ 100000 := hpre
  unfold wakeM
  refine ⟨hb, br_iff.2 ⟨fun h => ⟨rfl, ?_⟩, fun h => ⟨by omega, br_iff.2 ⟨fun g => ⟨rfl, ?_⟩, fun g => ⟨hb, by omega, rfl, ?_⟩⟩⟩⟩⟩
  · rw [if_pos (by simpa using h)]; rfl
  · rw [if_neg (by simpa using h), if_pos (by simpa using g)]; rfl
  · rw [if_neg (by simpa using h), if_neg (by simpa using g)]
set_option maxHeartbeats 2000000 in
set_option maxRecDepth 100000 in
theorem f24_met : Go.Eng.Met Tryd.prog cx0.gd 24 ctWke :=
  (met_all (cx := cx0) (n := 25) (cl := cl24) (il := il24) (hl := hl24) (ml := ml24) (rc := [.data shM, .keep]) (lits := []) (suf := []) (by kernel_rfl) tis_ok ⟨f48_met, f54_met, f55_met, f36d_met, trivial⟩ trivial trivial trivial Tryd.func24 (by kernel_rfl) (by kernel_rfl) rfl (by kernel_rfl) (by kernel_rfl) (by simp) fun d hd => by
    obtain ⟨⟨vs, os, qs, sg, ⟨⟩⟩, id, ⟨⟩⟩ := d
    exact ex_of (ann24 vs os qs sg id) (f24_vc vs os qs sg id hd) (by kernel_rfl)).met
@[reducible] noncomputable def ctNew : CT := { ps := [shP], pre := fun d => bnd d, res := fun d => ([], .tup [.agg [.sl (.int .i64) ((newM d.1.1 d.1.2.1 d.1.2.2.1 d.1.2.2.2.1 d.1.2.2.2.2.1).1).1, .sl (.int .i64) ((newM d.1.1 d.1.2.1 d.1.2.2.1 d.1.2.2.2.1 d.1.2.2.2.2.1).1).2.1, .sl (.sl (.int .i64)) ((newM d.1.1 d.1.2.1 d.1.2.2.1 d.1.2.2.2.1 d.1.2.2.2.2.1).1).2.2.1, .sl (.int .i64) ((newM d.1.1 d.1.2.1 d.1.2.2.1 d.1.2.2.2.1 d.1.2.2.2.2.1).1).2.2.2.1], .c (.v (.int .i64 ((newM d.1.1 d.1.2.1 d.1.2.2.1 d.1.2.2.2.1 d.1.2.2.2.2.1).2)))]) }
@[reducible] noncomputable def cl13 : List (Nat × CT) := [(44, ctChk)]
@[reducible] def ann13 (vs : List VD) (ms : List ByteArray) (cs : List ByteArray) (fs : List FD) (ts : List SD) : Nat → Option (St → Ann) := fun k => match k with
  | 6 => some fun s => .inv { α := Nat, nilC := [(3, 0, 3, .int .i64)], slots := fun k => [(28, .c (.v (.int .i64 k)))], res := fun k => [(4, .row 3 (.int .i64) ((vs.take k).map (·.2.1)))], inv := fun k => k ≤ vs.length, meas := fun k => vs.length - k }
  | 11 => some fun s => .inv { α := Nat, nilC := [(3, 1, 3, .int .i64)], slots := fun k => [(43, .c (.v (.int .i64 k)))], res := fun k => [(5, .row 3 (.int .i64) (List.replicate k (-1)))], inv := fun k => k ≤ ms.length, meas := fun k => ms.length - k }
  | _ => none
@[reducible] def il13 : List (Nat × IP) := []
@[reducible] def hl13 : List (Nat × Nat × CT) := []
@[reducible] noncomputable def ml13 : List (Nat × MK) := []
set_option maxRecDepth 100000 in
theorem f13_vc (vs : List VD) (ms : List ByteArray) (cs : List ByteArray) (fs : List FD) (ts : List SD) (hpre : ctNew.pre ((vs, ms, cs, fs, ts, ()), ())) :
    (vs.length ≤ (1000000 : Nat) ∧ ms.length ≤ (1000000 : Nat) ∧ cs.length ≤ (1000000 : Nat) ∧ fs.length ≤ (1000000 : Nat) ∧ ts.length ≤ (1000000 : Nat) ∧ (∀ (x : Sh.str.den × (shI.sl.pair Sh.unit).den), x ∈ fs → List.length x.snd.fst ≤ (1000000 : Nat)) ∧ (instL fs).length ≤ (1000000 : Nat)) ∧ br (!decide ((chkP vs ms cs fs ts).fst = (0 : Int))) (([] : List Go.Eng.Res) = [] ∧ Ent.tup [SV.agg [SC.sl I6 (newM vs ms cs fs ts).fst.fst, SC.sl I6 (newM vs ms cs fs ts).fst.snd.fst, SC.sl I6.sl (newM vs ms cs fs ts).fst.snd.snd.fst, SC.sl I6 (newM vs ms cs fs ts).fst.snd.snd.snd.fst], SV.c (SC.v (Value.int IntKind.i64 (newM vs ms cs fs ts).snd))] = Ent.tup [SV.agg [SC.sl I6 [], SC.sl I6 [], SC.sl I6.sl [], SC.sl I6 []], SV.c (SC.v (Value.int IntKind.i64 (chkP vs ms cs fs ts).fst))]) (((0 : Int) ≤ (↑cs.length : Int) ∧ (↑cs.length : Int) ≤ (↑cs.length : Int) ∧ InA (↑cs.length : Int).toNat (24 : Nat)) ∧ (∃ x, x ≤ vs.length ∧ (SV.c (SC.v (Value.int IntKind.i64 (0 : Int))) = SV.c (SC.v (Value.int IntKind.i64 (↑x : Int))) ∧ True) ∧ [(([] : Go.Eng.Gd), Res.blk (27 : Nat) [SC.sl (Sh.str.pair (I6.pair Sh.unit)) vs, SC.sl Sh.str ms, SC.sl Sh.str cs, SC.sl (Sh.str.pair (shI.sl.pair Sh.unit)) fs, SC.sl (I6.pair (I6.pair Sh.unit)) ts]), (([] : Go.Eng.Gd), Res.blk (31 : Nat) [SC.v (Value.slice none (0 : Nat) (0 : Nat)), SC.v (Value.slice none (0 : Nat) (0 : Nat)), SC.v (Value.slice none (0 : Nat) (0 : Nat)), SC.v (Value.slice none (0 : Nat) (0 : Nat))]), (([] : Go.Eng.Gd), Res.row (28 : TypeId) I6.sl (List.replicate (↑cs.length : Int).toNat [])), (([] : Go.Eng.Gd), Res.blk (31 : Nat) [SC.row (Nat.succ (0 : Nat)).succ.succ.succ, SC.v (Value.slice none (0 : Nat) (0 : Nat)), SC.row (Nat.succ (0 : Nat)).succ, SC.v (Value.slice none (0 : Nat) (0 : Nat))]), (([] : Go.Eng.Gd), Res.row (3 : TypeId) I6 [])] = [(([] : Go.Eng.Gd), Res.blk (27 : Nat) [SC.sl (Sh.str.pair (I6.pair Sh.unit)) vs, SC.sl Sh.str ms, SC.sl Sh.str cs, SC.sl (Sh.str.pair (shI.sl.pair Sh.unit)) fs, SC.sl (I6.pair (I6.pair Sh.unit)) ts]), (([] : Go.Eng.Gd), Res.blk (31 : Nat) [SC.v (Value.slice none (0 : Nat) (0 : Nat)), SC.v (Value.slice none (0 : Nat) (0 : Nat)), SC.v (Value.slice none (0 : Nat) (0 : Nat)), SC.v (Value.slice none (0 : Nat) (0 : Nat))]), (([] : Go.Eng.Gd), Res.row (28 : TypeId) I6.sl (List.replicate (↑cs.length : Int).toNat [])), (([] : Go.Eng.Gd), Res.blk (31 : Nat) [SC.row (Nat.succ (0 : Nat)).succ.succ.succ, SC.v (Value.slice none (0 : Nat) (0 : Nat)), SC.row (Nat.succ (0 : Nat)).succ, SC.v (Value.slice none (0 : Nat) (0 : Nat))]), (([] : Go.Eng.Gd), Res.row (3 : TypeId) I6 (List.map (fun x => x.snd.fst) (List.take x vs)))]) ∧ ∀ (x : Nat), x ≤ vs.length → br (decide ((↑x : Int) < (↑vs.length : Int))) (((0 : Int) ≤ (↑x : Int) ∧ (↑x : Int) < (↑vs.length : Int)) ∧ ∀ (d : Sh.str.den × (I6.pair Sh.unit).den), vs[(↑x : Int).toNat]? = some d → InA (List.length (List.map (fun x => x.snd.fst) (List.take x vs)) + List.length ([d.snd.fst])) (8 : Nat) ∧ InR IntKind.i64 ((↑x : Int) + (1 : Int)) ∧ ∃ x', x' ≤ vs.length ∧ (SV.c (SC.v (Value.int IntKind.i64 ((↑x : Int) + (1 : Int)))) = SV.c (SC.v (Value.int IntKind.i64 (↑x' : Int))) ∧ True) ∧ [(([] : Go.Eng.Gd), Res.blk (27 : Nat) [SC.sl (Sh.str.pair (I6.pair Sh.unit)) vs, SC.sl Sh.str ms, SC.sl Sh.str cs, SC.sl (Sh.str.pair (shI.sl.pair Sh.unit)) fs, SC.sl (I6.pair (I6.pair Sh.unit)) ts]), (([] : Go.Eng.Gd), Res.blk (31 : Nat) [SC.v (Value.slice none (0 : Nat) (0 : Nat)), SC.v (Value.slice none (0 : Nat) (0 : Nat)), SC.v (Value.slice none (0 : Nat) (0 : Nat)), SC.v (Value.slice none (0 : Nat) (0 : Nat))]), (([] : Go.Eng.Gd), Res.row (28 : TypeId) I6.sl (List.replicate (↑cs.length : Int).toNat [])), (([] : Go.Eng.Gd), Res.blk (31 : Nat) [SC.row (Nat.succ (0 : Nat)).succ.succ.succ, SC.v (Value.slice none (0 : Nat) (0 : Nat)), SC.row (Nat.succ (0 : Nat)).succ, SC.v (Value.slice none (0 : Nat) (0 : Nat))]), (([] : Go.Eng.Gd), Res.row (3 : TypeId) I6 (List.map (fun x => x.snd.fst) (List.take x vs) ++ [d.snd.fst]))] = [(([] : Go.Eng.Gd), Res.blk (27 : Nat) [SC.sl (Sh.str.pair (I6.pair Sh.unit)) vs, SC.sl Sh.str ms, SC.sl Sh.str cs, SC.sl (Sh.str.pair (shI.sl.pair Sh.unit)) fs, SC.sl (I6.pair (I6.pair Sh.unit)) ts]), (([] : Go.Eng.Gd), Res.blk (31 : Nat) [SC.v (Value.slice none (0 : Nat) (0 : Nat)), SC.v (Value.slice none (0 : Nat) (0 : Nat)), SC.v (Value.slice none (0 : Nat) (0 : Nat)), SC.v (Value.slice none (0 : Nat) (0 : Nat))]), (([] : Go.Eng.Gd), Res.row (28 : TypeId) I6.sl (List.replicate (↑cs.length : Int).toNat [])), (([] : Go.Eng.Gd), Res.blk (31 : Nat) [SC.row (Nat.succ (0 : Nat)).succ.succ.succ, SC.v (Value.slice none (0 : Nat) (0 : Nat)), SC.row (Nat.succ (0 : Nat)).succ, SC.v (Value.slice none (0 : Nat) (0 : Nat))]), (([] : Go.Eng.Gd), Res.row (3 : TypeId) I6 (List.map (fun x => x.snd.fst) (List.take x' vs)))] ∧ vs.length - x' < vs.length - x) ((∃ x_1, x_1 ≤ ms.length ∧ (SV.c (SC.v (Value.int IntKind.i64 (0 : Int))) = SV.c (SC.v (Value.int IntKind.i64 (↑x_1 : Int))) ∧ True) ∧ [(([] : Go.Eng.Gd), Res.blk (27 : Nat) [SC.sl (Sh.str.pair (I6.pair Sh.unit)) vs, SC.sl Sh.str ms, SC.sl Sh.str cs, SC.sl (Sh.str.pair (shI.sl.pair Sh.unit)) fs, SC.sl (I6.pair (I6.pair Sh.unit)) ts]), (([] : Go.Eng.Gd), Res.blk (31 : Nat) [SC.v (Value.slice none (0 : Nat) (0 : Nat)), SC.v (Value.slice none (0 : Nat) (0 : Nat)), SC.v (Value.slice none (0 : Nat) (0 : Nat)), SC.v (Value.slice none (0 : Nat) (0 : Nat))]), (([] : Go.Eng.Gd), Res.row (28 : TypeId) I6.sl (List.replicate (↑cs.length : Int).toNat [])), (([] : Go.Eng.Gd), Res.blk (31 : Nat) [SC.row (Nat.succ (0 : Nat)).succ.succ.succ, SC.row (Nat.succ (0 : Nat)).succ.succ.succ.succ, SC.row (Nat.succ (0 : Nat)).succ, SC.v (Value.slice none (0 : Nat) (0 : Nat))]), (([] : Go.Eng.Gd), Res.row (3 : TypeId) I6 (List.map (fun x => x.snd.fst) (List.take x vs))), (([] : Go.Eng.Gd), Res.row (3 : TypeId) I6 [])] = [(([] : Go.Eng.Gd), Res.blk (27 : Nat) [SC.sl (Sh.str.pair (I6.pair Sh.unit)) vs, SC.sl Sh.str ms, SC.sl Sh.str cs, SC.sl (Sh.str.pair (shI.sl.pair Sh.unit)) fs, SC.sl (I6.pair (I6.pair Sh.unit)) ts]), (([] : Go.Eng.Gd), Res.blk (31 : Nat) [SC.v (Value.slice none (0 : Nat) (0 : Nat)), SC.v (Value.slice none (0 : Nat) (0 : Nat)), SC.v (Value.slice none (0 : Nat) (0 : Nat)), SC.v (Value.slice none (0 : Nat) (0 : Nat))]), (([] : Go.Eng.Gd), Res.row (28 : TypeId) I6.sl (List.replicate (↑cs.length : Int).toNat [])), (([] : Go.Eng.Gd), Res.blk (31 : Nat) [SC.row (Nat.succ (0 : Nat)).succ.succ.succ, SC.row (Nat.succ (0 : Nat)).succ.succ.succ.succ, SC.row (Nat.succ (0 : Nat)).succ, SC.v (Value.slice none (0 : Nat) (0 : Nat))]), (([] : Go.Eng.Gd), Res.row (3 : TypeId) I6 (List.map (fun x => x.snd.fst) (List.take x vs))), (([] : Go.Eng.Gd), Res.row (3 : TypeId) I6 (List.replicate x_1 (-1 : I6.den)))]) ∧ ∀ (x_1 : Nat), x_1 ≤ ms.length → br (decide ((↑x_1 : Int) < (↑ms.length : Int))) (InA (List.length (List.replicate x_1 (-1 : I6.den)) + (1 : Nat)) (8 : Nat) ∧ InR IntKind.i64 ((↑x_1 : Int) + (1 : Int)) ∧ ∃ x', x' ≤ ms.length ∧ (SV.c (SC.v (Value.int IntKind.i64 ((↑x_1 : Int) + (1 : Int)))) = SV.c (SC.v (Value.int IntKind.i64 (↑x' : Int))) ∧ True) ∧ [(([] : Go.Eng.Gd), Res.blk (27 : Nat) [SC.sl (Sh.str.pair (I6.pair Sh.unit)) vs, SC.sl Sh.str ms, SC.sl Sh.str cs, SC.sl (Sh.str.pair (shI.sl.pair Sh.unit)) fs, SC.sl (I6.pair (I6.pair Sh.unit)) ts]), (([] : Go.Eng.Gd), Res.blk (31 : Nat) [SC.v (Value.slice none (0 : Nat) (0 : Nat)), SC.v (Value.slice none (0 : Nat) (0 : Nat)), SC.v (Value.slice none (0 : Nat) (0 : Nat)), SC.v (Value.slice none (0 : Nat) (0 : Nat))]), (([] : Go.Eng.Gd), Res.row (28 : TypeId) I6.sl (List.replicate (↑cs.length : Int).toNat [])), (([] : Go.Eng.Gd), Res.blk (31 : Nat) [SC.row (Nat.succ (0 : Nat)).succ.succ.succ, SC.row (Nat.succ (0 : Nat)).succ.succ.succ.succ, SC.row (Nat.succ (0 : Nat)).succ, SC.v (Value.slice none (0 : Nat) (0 : Nat))]), (([] : Go.Eng.Gd), Res.row (3 : TypeId) I6 (List.map (fun x => x.snd.fst) (List.take x vs))), (([] : Go.Eng.Gd), Res.row (3 : TypeId) I6 (List.replicate x_1 (-1 : I6.den) ++ [(-1 : Int)]))] = [(([] : Go.Eng.Gd), Res.blk (27 : Nat) [SC.sl (Sh.str.pair (I6.pair Sh.unit)) vs, SC.sl Sh.str ms, SC.sl Sh.str cs, SC.sl (Sh.str.pair (shI.sl.pair Sh.unit)) fs, SC.sl (I6.pair (I6.pair Sh.unit)) ts]), (([] : Go.Eng.Gd), Res.blk (31 : Nat) [SC.v (Value.slice none (0 : Nat) (0 : Nat)), SC.v (Value.slice none (0 : Nat) (0 : Nat)), SC.v (Value.slice none (0 : Nat) (0 : Nat)), SC.v (Value.slice none (0 : Nat) (0 : Nat))]), (([] : Go.Eng.Gd), Res.row (28 : TypeId) I6.sl (List.replicate (↑cs.length : Int).toNat [])), (([] : Go.Eng.Gd), Res.blk (31 : Nat) [SC.row (Nat.succ (0 : Nat)).succ.succ.succ, SC.row (Nat.succ (0 : Nat)).succ.succ.succ.succ, SC.row (Nat.succ (0 : Nat)).succ, SC.v (Value.slice none (0 : Nat) (0 : Nat))]), (([] : Go.Eng.Gd), Res.row (3 : TypeId) I6 (List.map (fun x => x.snd.fst) (List.take x vs))), (([] : Go.Eng.Gd), Res.row (3 : TypeId) I6 (List.replicate x' (-1 : I6.den)))] ∧ ms.length - x' < ms.length - x_1) (([] : List Go.Eng.Res) = [] ∧ Ent.tup [SV.agg [SC.sl I6 (newM vs ms cs fs ts).fst.fst, SC.sl I6 (newM vs ms cs fs ts).fst.snd.fst, SC.sl I6.sl (newM vs ms cs fs ts).fst.snd.snd.fst, SC.sl I6 (newM vs ms cs fs ts).fst.snd.snd.snd.fst], SV.c (SC.v (Value.int IntKind.i64 (newM vs ms cs fs ts).snd))] = Ent.tup [SV.agg [SC.sl I6 (List.map (fun x => x.snd.fst) (List.take x vs)), SC.sl I6 (List.replicate x_1 (-1 : I6.den)), SC.sl I6.sl (List.replicate (↑cs.length : Int).toNat []), SC.sl I6 []], SV.c (SC.v (Value.int IntKind.i64 (0 : Int)))]))) := by
  have hb : vs.length ≤ 1000000 ∧ ms.length ≤ 1000000 ∧ cs.length ≤ 1000000 := ⟨hpre.1, hpre.2.1, hpre.2.2.1⟩
  obtain ⟨b1, b2, b3⟩ := hb
  unfold newM
  refine ⟨hpre, br_iff.2 ⟨fun h => ⟨rfl, ?_⟩, fun h => ?_⟩⟩
  · rw [if_neg (by simpa using h)]; rfl
  rw [if_pos (by simpa using h)]
  refine ⟨⟨by omega, by omega, InA_iff.2 (by omega)⟩, ⟨0, by omega, ⟨rfl, trivial⟩, rfl⟩, fun k hk => br_iff.2 ⟨fun g => ?_, fun g => ?_⟩⟩
  · simp only [decide_eq_true_eq] at g
    refine ⟨⟨by omega, by omega⟩, fun d hd => ⟨InA_iff.2 ?_, InR_i64.2 (by omega), k + 1, by omega, ⟨rfl, trivial⟩, ?_, by omega⟩⟩
    · simp only [List.length_map, List.length_take, List.length_cons, List.length_nil]; omega
    · have hd : vs[k]? = some d := hd
      have e : List.map (fun x : VD => x.snd.fst) (List.take (k + 1) vs) = List.map (fun x : VD => x.snd.fst) (List.take k vs) ++ [d.2.1] := by rw [List.take_add_one, hd]; simp
      rw [e]
  simp only [decide_eq_false_iff_not] at g
  rw [List.take_of_length_le (i := k) (by omega)]
  refine ⟨⟨0, by omega, ⟨rfl, trivial⟩, rfl⟩, fun j hj => br_iff.2 ⟨fun g2 => ?_, fun g2 => ?_⟩⟩
  · simp only [decide_eq_true_eq] at g2
    refine ⟨InA_iff.2 ?_, InR_i64.2 (by omega), j + 1, by omega, ⟨rfl, trivial⟩, ?_, by omega⟩
    · simp only [List.length_replicate]; omega
    · have e : List.replicate (j + 1) (-1 : Int) = List.replicate j (-1) ++ [-1] := List.replicate_succ'
      rw [show List.replicate (j + 1) (-1 : I6.den) = List.replicate j (-1) ++ [-1] from e]
  simp only [decide_eq_false_iff_not] at g2
  have ej : j = ms.length := by omega
  subst ej
  exact ⟨rfl, rfl⟩
set_option maxHeartbeats 2000000 in
set_option maxRecDepth 100000 in
theorem f13_met : Go.Eng.Met Tryd.prog cx0.gd 13 ctNew :=
  (met_all (cx := cx0) (n := 52) (cl := cl13) (il := il13) (hl := hl13) (ml := ml13) (rc := [.data shM, .keep]) (lits := []) (suf := []) (by kernel_rfl) tis_ok ⟨f44_met, trivial⟩ trivial trivial trivial Tryd.func13 (by kernel_rfl) (by kernel_rfl) rfl (by kernel_rfl) (by kernel_rfl) (by simp) fun d hd => by
    obtain ⟨⟨vs, ms, cs, fs, ts, ⟨⟩⟩, ⟨⟩⟩ := d
    exact ex_of (ann13 vs ms cs fs ts) (f13_vc vs ms cs fs ts hd) (by kernel_rfl)).met
end Go.Proofs.YtkgjfkdcnoockaaDoor
set_option linter.unusedSimpArgs false
set_option linter.unusedVariables false
set_option maxRecDepth 100000
namespace Go.Proofs.YtkgjfkdcnoockaaDoor
open Go Go.Eng

theorem ins_bad {m : MD} {i n : Int} (h : formM m = false) : insM m i n = 1 := by unfold insM; rw [if_pos h]
theorem ins_out {m : MD} {i n : Int} (h : formM m = true) (g : i < 0 ∨ n ≤ i) : insM m i n = 11 := by unfold insM; rw [if_neg (by simp [h]), if_pos g]
theorem ins_in {m : MD} {i n : Int} (h : formM m = true) (g : ¬ (i < 0 ∨ n ≤ i)) : insM m i n = 0 := by unfold insM; rw [if_neg (by simp [h]), if_neg g]
noncomputable def ownE (m : MD) (i id now : Int) : Int := if insM m i m.2.1.length = 0 then (if id < 0 then 2 else if m.2.1[i.toNat]?.getD 0 = now then 0 else 30) else insM m i m.2.1.length
theorem ownE_zero {m : MD} {i id now : Int} (h : ownE m i id now = 0) : insM m i m.2.1.length = 0 ∧ ¬ id < 0 ∧ m.2.1[i.toNat]?.getD 0 = now := by
  unfold ownE at h
  split at h
  · rename_i h0
    split at h
    · cases h
    · rename_i h1
      split at h
      · rename_i h2; exact ⟨h0, h1, h2⟩
      · cases h
  · rename_i h0; exact absurd h h0
theorem ownM_bad {m : MD} {i id frm to : Int} (h : ownE m i id frm ≠ 0) : ownM m i id frm to = (zM, ownE m i id frm) := by
  unfold ownE at h ⊢
  unfold ownM
  split
  · rename_i h0
    rw [if_pos h0] at h
    split
    · rfl
    · rename_i h1
      rw [if_neg h1] at h
      split
      · rename_i h2; rw [if_pos h2] at h; exact absurd rfl h
      · rfl
  · rfl
theorem ownM_ok {m : MD} {i id frm to : Int} (h : ownE m i id frm = 0) : ownM m i id frm to = ((m.1, m.2.1.set i.toNat to, m.2.2), 0) := by
  obtain ⟨h0, h1, h2⟩ := ownE_zero h
  unfold ownM
  rw [if_pos h0, if_neg h1, if_pos h2]

@[reducible] def cl37 : List (Nat × CT) := [(61, ctCop)]
@[reducible] def ann37 (vs : List Int) (os : List Int) (qs : List (List Int)) (sg : List Int) : Nat → Option (St → Ann) := fun k => match k with
  | 2 => some fun _ => .cut { α := Nat, pad := 4, can := [(2, .slot 3), (3, .cell 2 0), (4, .cell 2 1), (5, .cell 2 3)], slots := fun _ => [(3, .c (.own 2 0))], res := fun _ => [(2, .blk 31 [.row 3, .row 4, .v (.slice none 0 0), .row 5]), (3, .row 3 (.int .i64) (vs)), (4, .row 3 (.int .i64) (os)), (5, .row 3 (.int .i64) (sg))], inv := fun u => u = 0, meas := fun _ => 0 }
  | 3 => some fun _ => .inv { α := Nat, nilC := [(2, 2, 28, .sl (.int .i64))], slots := fun k => [(4, .c (.v (.int .i64 k)))], res := fun k => [(6, .row 28 (.sl (.int .i64)) (qs.take k))], inv := fun k => k ≤ qs.length, meas := fun k => qs.length - k }
  | _ => none
@[reducible] def il37 : List (Nat × IP) := []
@[reducible] def hl37 : List (Nat × Nat × CT) := []
@[reducible] def ml37 : List (Nat × MK) := []
set_option maxRecDepth 100000 in
theorem f37_vc (vs : List Int) (os : List Int) (qs : List (List Int)) (sg : List Int) (hpre : ctClD.pre ((vs, os, qs, sg, ()), ())) :
    ((vs.length ≤ (1000000 : Nat) ∧ (os.length ≤ (1000000 : Nat) ∧ (sg.length ≤ (1000000 : Nat) ∧ (∃ v, v = (0 : Nat) ∧ (SV.c (SC.own (2 : Nat) (0 : Nat)) = SV.c (SC.own (2 : Nat) (0 : Nat)) ∧ True) ∧ [(([] : Go.Eng.Gd), Res.blk (31 : Nat) [SC.sl I6 vs, SC.sl I6 os, SC.sl I6.sl qs, SC.sl I6 sg]), (([] : Go.Eng.Gd), Res.blk (31 : Nat) [SC.v (Value.slice none (0 : Nat) (0 : Nat)), SC.v (Value.slice none (0 : Nat) (0 : Nat)), SC.v (Value.slice none (0 : Nat) (0 : Nat)), SC.v (Value.slice none (0 : Nat) (0 : Nat))]), (([] : Go.Eng.Gd), Res.blk (31 : Nat) [SC.row (3 : Nat), SC.row (4 : Nat), SC.v (Value.slice none (0 : Nat) (0 : Nat)), SC.row (5 : Nat)]), (([] : Go.Eng.Gd), Res.row (3 : TypeId) I6 vs), (([] : Go.Eng.Gd), Res.row (3 : TypeId) I6 os), (([] : Go.Eng.Gd), Res.row (3 : TypeId) I6 sg)] = [(([] : Go.Eng.Gd), Res.blk (31 : Nat) [SC.sl I6 vs, SC.sl I6 os, SC.sl I6.sl qs, SC.sl I6 sg]), (([] : Go.Eng.Gd), Res.blk (31 : Nat) [SC.v (Value.slice none (0 : Nat) (0 : Nat)), SC.v (Value.slice none (0 : Nat) (0 : Nat)), SC.v (Value.slice none (0 : Nat) (0 : Nat)), SC.v (Value.slice none (0 : Nat) (0 : Nat))]), (([] : Go.Eng.Gd), Res.blk (31 : TypeId) [SC.row (3 : Nat), SC.row (4 : Nat), SC.v (Value.slice none (0 : Nat) (0 : Nat)), SC.row (5 : Nat)]), (([] : Go.Eng.Gd), Res.row (3 : TypeId) I6 vs), (([] : Go.Eng.Gd), Res.row (3 : TypeId) I6 os), (([] : Go.Eng.Gd), Res.row (3 : TypeId) I6 sg)]) ∧ ∃ v, v = (0 : Nat) ∧ (SV.c (SC.own (2 : Nat) (0 : Nat)) = SV.c (SC.own (2 : Nat) (0 : Nat)) ∧ True) ∧ [(([] : Go.Eng.Gd), Res.blk (31 : Nat) [SC.sl I6 vs, SC.sl I6 os, SC.sl I6.sl qs, SC.sl I6 sg]), (([] : Go.Eng.Gd), Res.blk (31 : Nat) [SC.v (Value.slice none (0 : Nat) (0 : Nat)), SC.v (Value.slice none (0 : Nat) (0 : Nat)), SC.v (Value.slice none (0 : Nat) (0 : Nat)), SC.v (Value.slice none (0 : Nat) (0 : Nat))]), (([] : Go.Eng.Gd), Res.blk (31 : Nat) [SC.row (3 : Nat), SC.row (4 : Nat), SC.v (Value.slice none (0 : Nat) (0 : Nat)), SC.row (5 : Nat)]), (([] : Go.Eng.Gd), Res.row (3 : TypeId) I6 vs), (([] : Go.Eng.Gd), Res.row (3 : TypeId) I6 os), (([] : Go.Eng.Gd), Res.row (3 : TypeId) I6 sg)] = [(([] : Go.Eng.Gd), Res.blk (31 : Nat) [SC.sl I6 vs, SC.sl I6 os, SC.sl I6.sl qs, SC.sl I6 sg]), (([] : Go.Eng.Gd), Res.blk (31 : Nat) [SC.v (Value.slice none (0 : Nat) (0 : Nat)), SC.v (Value.slice none (0 : Nat) (0 : Nat)), SC.v (Value.slice none (0 : Nat) (0 : Nat)), SC.v (Value.slice none (0 : Nat) (0 : Nat))]), (([] : Go.Eng.Gd), Res.blk (31 : TypeId) [SC.row (3 : Nat), SC.row (4 : Nat), SC.v (Value.slice none (0 : Nat) (0 : Nat)), SC.row (5 : Nat)]), (([] : Go.Eng.Gd), Res.row (3 : TypeId) I6 vs), (([] : Go.Eng.Gd), Res.row (3 : TypeId) I6 os), (([] : Go.Eng.Gd), Res.row (3 : TypeId) I6 sg)]) ∧ sg.length ≤ (1000000 : Nat) ∧ ∃ v, v = (0 : Nat) ∧ (SV.c (SC.own (2 : Nat) (0 : Nat)) = SV.c (SC.own (2 : Nat) (0 : Nat)) ∧ True) ∧ [(([] : Go.Eng.Gd), Res.blk (31 : Nat) [SC.sl I6 vs, SC.sl I6 os, SC.sl I6.sl qs, SC.sl I6 sg]), (([] : Go.Eng.Gd), Res.blk (31 : Nat) [SC.v (Value.slice none (0 : Nat) (0 : Nat)), SC.v (Value.slice none (0 : Nat) (0 : Nat)), SC.v (Value.slice none (0 : Nat) (0 : Nat)), SC.v (Value.slice none (0 : Nat) (0 : Nat))]), (([] : Go.Eng.Gd), Res.blk (31 : Nat) [SC.row (3 : Nat), SC.row (4 : Nat), SC.v (Value.slice none (0 : Nat) (0 : Nat)), SC.row (5 : Nat)]), (([] : Go.Eng.Gd), Res.row (3 : TypeId) I6 vs), (([] : Go.Eng.Gd), Res.row (3 : TypeId) I6 os), (([] : Go.Eng.Gd), Res.row (3 : TypeId) I6 sg)] = [(([] : Go.Eng.Gd), Res.blk (31 : Nat) [SC.sl I6 vs, SC.sl I6 os, SC.sl I6.sl qs, SC.sl I6 sg]), (([] : Go.Eng.Gd), Res.blk (31 : Nat) [SC.v (Value.slice none (0 : Nat) (0 : Nat)), SC.v (Value.slice none (0 : Nat) (0 : Nat)), SC.v (Value.slice none (0 : Nat) (0 : Nat)), SC.v (Value.slice none (0 : Nat) (0 : Nat))]), (([] : Go.Eng.Gd), Res.blk (31 : TypeId) [SC.row (3 : Nat), SC.row (4 : Nat), SC.v (Value.slice none (0 : Nat) (0 : Nat)), SC.row (5 : Nat)]), (([] : Go.Eng.Gd), Res.row (3 : TypeId) I6 vs), (([] : Go.Eng.Gd), Res.row (3 : TypeId) I6 os), (([] : Go.Eng.Gd), Res.row (3 : TypeId) I6 sg)]) ∧ os.length ≤ (1000000 : Nat) ∧ sg.length ≤ (1000000 : Nat) ∧ ∃ v, v = (0 : Nat) ∧ (SV.c (SC.own (2 : Nat) (0 : Nat)) = SV.c (SC.own (2 : Nat) (0 : Nat)) ∧ True) ∧ [(([] : Go.Eng.Gd), Res.blk (31 : Nat) [SC.sl I6 vs, SC.sl I6 os, SC.sl I6.sl qs, SC.sl I6 sg]), (([] : Go.Eng.Gd), Res.blk (31 : Nat) [SC.v (Value.slice none (0 : Nat) (0 : Nat)), SC.v (Value.slice none (0 : Nat) (0 : Nat)), SC.v (Value.slice none (0 : Nat) (0 : Nat)), SC.v (Value.slice none (0 : Nat) (0 : Nat))]), (([] : Go.Eng.Gd), Res.blk (31 : Nat) [SC.row (3 : Nat), SC.row (4 : Nat), SC.v (Value.slice none (0 : Nat) (0 : Nat)), SC.row (5 : Nat)]), (([] : Go.Eng.Gd), Res.row (3 : TypeId) I6 vs), (([] : Go.Eng.Gd), Res.row (3 : TypeId) I6 os), (([] : Go.Eng.Gd), Res.row (3 : TypeId) I6 sg)] = [(([] : Go.Eng.Gd), Res.blk (31 : Nat) [SC.sl I6 vs, SC.sl I6 os, SC.sl I6.sl qs, SC.sl I6 sg]), (([] : Go.Eng.Gd), Res.blk (31 : Nat) [SC.v (Value.slice none (0 : Nat) (0 : Nat)), SC.v (Value.slice none (0 : Nat) (0 : Nat)), SC.v (Value.slice none (0 : Nat) (0 : Nat)), SC.v (Value.slice none (0 : Nat) (0 : Nat))]), (([] : Go.Eng.Gd), Res.blk (31 : TypeId) [SC.row (3 : Nat), SC.row (4 : Nat), SC.v (Value.slice none (0 : Nat) (0 : Nat)), SC.row (5 : Nat)]), (([] : Go.Eng.Gd), Res.row (3 : TypeId) I6 vs), (([] : Go.Eng.Gd), Res.row (3 : TypeId) I6 os), (([] : Go.Eng.Gd), Res.row (3 : TypeId) I6 sg)]) ∧ vs.length ≤ (1000000 : Nat) ∧ os.length ≤ (1000000 : Nat) ∧ sg.length ≤ (1000000 : Nat) ∧ ∃ v, v = (0 : Nat) ∧ (SV.c (SC.own (2 : Nat) (0 : Nat)) = SV.c (SC.own (2 : Nat) (0 : Nat)) ∧ True) ∧ [(([] : Go.Eng.Gd), Res.blk (31 : Nat) [SC.sl I6 vs, SC.sl I6 os, SC.sl I6.sl qs, SC.sl I6 sg]), (([] : Go.Eng.Gd), Res.blk (31 : Nat) [SC.v (Value.slice none (0 : Nat) (0 : Nat)), SC.v (Value.slice none (0 : Nat) (0 : Nat)), SC.v (Value.slice none (0 : Nat) (0 : Nat)), SC.v (Value.slice none (0 : Nat) (0 : Nat))]), (([] : Go.Eng.Gd), Res.blk (31 : Nat) [SC.row (3 : Nat), SC.row (4 : Nat), SC.v (Value.slice none (0 : Nat) (0 : Nat)), SC.row (5 : Nat)]), (([] : Go.Eng.Gd), Res.row (3 : TypeId) I6 vs), (([] : Go.Eng.Gd), Res.row (3 : TypeId) I6 os), (([] : Go.Eng.Gd), Res.row (3 : TypeId) I6 sg)] = [(([] : Go.Eng.Gd), Res.blk (31 : Nat) [SC.sl I6 vs, SC.sl I6 os, SC.sl I6.sl qs, SC.sl I6 sg]), (([] : Go.Eng.Gd), Res.blk (31 : Nat) [SC.v (Value.slice none (0 : Nat) (0 : Nat)), SC.v (Value.slice none (0 : Nat) (0 : Nat)), SC.v (Value.slice none (0 : Nat) (0 : Nat)), SC.v (Value.slice none (0 : Nat) (0 : Nat))]), (([] : Go.Eng.Gd), Res.blk (31 : TypeId) [SC.row (3 : Nat), SC.row (4 : Nat), SC.v (Value.slice none (0 : Nat) (0 : Nat)), SC.row (5 : Nat)]), (([] : Go.Eng.Gd), Res.row (3 : TypeId) I6 vs), (([] : Go.Eng.Gd), Res.row (3 : TypeId) I6 os), (([] : Go.Eng.Gd), Res.row (3 : TypeId) I6 sg)]) ∧ ∀ (v : Nat), v = (0 : Nat) → (∃ x, x ≤ qs.length ∧ (SV.c (SC.v (Value.int IntKind.i64 (0 : Int))) = SV.c (SC.v (Value.int IntKind.i64 (↑x : Int))) ∧ True) ∧ [(([] : Go.Eng.Gd), Res.blk (31 : Nat) [SC.sl I6 vs, SC.sl I6 os, SC.sl I6.sl qs, SC.sl I6 sg]), (([] : Go.Eng.Gd), Res.blk (31 : Nat) [SC.v (Value.slice none (0 : Nat) (0 : Nat)), SC.v (Value.slice none (0 : Nat) (0 : Nat)), SC.v (Value.slice none (0 : Nat) (0 : Nat)), SC.v (Value.slice none (0 : Nat) (0 : Nat))]), (([] : Go.Eng.Gd), Res.blk (31 : TypeId) [SC.row (3 : Nat), SC.row (4 : Nat), SC.row (Nat.succ (0 : Nat)).succ.succ.succ.succ.succ, SC.row (5 : Nat)]), (([] : Go.Eng.Gd), Res.row (3 : TypeId) I6 vs), (([] : Go.Eng.Gd), Res.row (3 : TypeId) I6 os), (([] : Go.Eng.Gd), Res.row (3 : TypeId) I6 sg), (([] : Go.Eng.Gd), Res.row (28 : TypeId) I6.sl [])] = [(([] : Go.Eng.Gd), Res.blk (31 : Nat) [SC.sl I6 vs, SC.sl I6 os, SC.sl I6.sl qs, SC.sl I6 sg]), (([] : Go.Eng.Gd), Res.blk (31 : Nat) [SC.v (Value.slice none (0 : Nat) (0 : Nat)), SC.v (Value.slice none (0 : Nat) (0 : Nat)), SC.v (Value.slice none (0 : Nat) (0 : Nat)), SC.v (Value.slice none (0 : Nat) (0 : Nat))]), (([] : Go.Eng.Gd), Res.blk (31 : TypeId) [SC.row (3 : Nat), SC.row (4 : Nat), SC.row (Nat.succ (0 : Nat)).succ.succ.succ.succ.succ, SC.row (5 : Nat)]), (([] : Go.Eng.Gd), Res.row (3 : TypeId) I6 vs), (([] : Go.Eng.Gd), Res.row (3 : TypeId) I6 os), (([] : Go.Eng.Gd), Res.row (3 : TypeId) I6 sg), (([] : Go.Eng.Gd), Res.row (28 : TypeId) I6.sl (List.take x qs))]) ∧ ∀ (x : Nat), x ≤ qs.length → br (decide ((↑x : Int) < (↑qs.length : Int))) (((0 : Int) ≤ (↑x : Int) ∧ (↑x : Int) < (↑qs.length : Int)) ∧ ∀ (d : List I6.den), qs[(↑x : Int).toNat]? = some d → d.length ≤ (1000000 : Nat) ∧ InA (List.length (List.take x qs) + List.length ([d])) (24 : Nat) ∧ InR IntKind.i64 ((↑x : Int) + (1 : Int)) ∧ ∃ x', x' ≤ qs.length ∧ (SV.c (SC.v (Value.int IntKind.i64 ((↑x : Int) + (1 : Int)))) = SV.c (SC.v (Value.int IntKind.i64 (↑x' : Int))) ∧ True) ∧ [(([] : Go.Eng.Gd), Res.blk (31 : Nat) [SC.sl I6 vs, SC.sl I6 os, SC.sl I6.sl qs, SC.sl I6 sg]), (([] : Go.Eng.Gd), Res.blk (31 : Nat) [SC.v (Value.slice none (0 : Nat) (0 : Nat)), SC.v (Value.slice none (0 : Nat) (0 : Nat)), SC.v (Value.slice none (0 : Nat) (0 : Nat)), SC.v (Value.slice none (0 : Nat) (0 : Nat))]), (([] : Go.Eng.Gd), Res.blk (31 : TypeId) [SC.row (3 : Nat), SC.row (4 : Nat), SC.row (Nat.succ (0 : Nat)).succ.succ.succ.succ.succ, SC.row (5 : Nat)]), (([] : Go.Eng.Gd), Res.row (3 : TypeId) I6 vs), (([] : Go.Eng.Gd), Res.row (3 : TypeId) I6 os), (([] : Go.Eng.Gd), Res.row (3 : TypeId) I6 sg), (([] : Go.Eng.Gd), Res.row (28 : TypeId) I6.sl (List.take x qs ++ [d]))] = [(([] : Go.Eng.Gd), Res.blk (31 : Nat) [SC.sl I6 vs, SC.sl I6 os, SC.sl I6.sl qs, SC.sl I6 sg]), (([] : Go.Eng.Gd), Res.blk (31 : Nat) [SC.v (Value.slice none (0 : Nat) (0 : Nat)), SC.v (Value.slice none (0 : Nat) (0 : Nat)), SC.v (Value.slice none (0 : Nat) (0 : Nat)), SC.v (Value.slice none (0 : Nat) (0 : Nat))]), (([] : Go.Eng.Gd), Res.blk (31 : TypeId) [SC.row (3 : Nat), SC.row (4 : Nat), SC.row (Nat.succ (0 : Nat)).succ.succ.succ.succ.succ, SC.row (5 : Nat)]), (([] : Go.Eng.Gd), Res.row (3 : TypeId) I6 vs), (([] : Go.Eng.Gd), Res.row (3 : TypeId) I6 os), (([] : Go.Eng.Gd), Res.row (3 : TypeId) I6 sg), (([] : Go.Eng.Gd), Res.row (28 : TypeId) I6.sl (List.take x' qs))] ∧ qs.length - x' < qs.length - x) ([Res.row (3 : TypeId) I6 vs, Res.row (3 : TypeId) I6 os, Res.row (28 : TypeId) I6.sl qs, Res.row (3 : TypeId) I6 sg] = [Res.row (3 : TypeId) I6 vs, Res.row (3 : TypeId) I6 os, Res.row (28 : TypeId) I6.sl (List.take x qs), Res.row (3 : TypeId) I6 sg] ∧ Ent.one (SV.agg [SC.row (0 : Nat), SC.row (1 : Nat), SC.row (2 : Nat), SC.row (3 : Nat)]) = Ent.one (SV.agg [SC.row (0 : Nat), SC.row (Nat.succ (0 : Nat)), SC.row (Nat.succ (0 : Nat)).succ, SC.row (Nat.succ (0 : Nat)).succ.succ])) := by
  obtain ⟨b1, b2, b3, b4, b5, b6⟩ : vs.length ≤ 1000 ∧ os.length ≤ 1000 ∧ qs.length ≤ 1000 ∧ sg.length ≤ 1000 ∧ (∀ q ∈ qs, q.length ≤ 1000) ∧ qs.flatten.length ≤ 100000 := hpre
  refine ⟨?_, fun u hu => ⟨⟨0, by omega, ⟨rfl, trivial⟩, rfl⟩, fun k hk => br_iff.2 ⟨fun g => ?_, fun g => ?_⟩⟩⟩
  · repeat' first | exact ⟨0, rfl, ⟨rfl, trivial⟩, rfl⟩ | (refine And.intro ?_ ?_) | omega
  · simp only [decide_eq_true_eq] at g
    refine ⟨⟨by omega, by omega⟩, fun d hd => ⟨?_, InA_iff.2 ?_, InR_i64.2 (by omega), k + 1, by omega, ⟨rfl, trivial⟩, ?_, by omega⟩⟩
    · have := b5 d (List.mem_of_getElem? hd); omega
    · simp only [List.length_take, List.length_cons, List.length_nil]; omega
    · have hd : qs[k]? = some d := hd
      have e : qs.take (k + 1) = qs.take k ++ [d] := by rw [List.take_add_one, hd]; simp
      rw [e]
  simp only [decide_eq_false_iff_not] at g
  rw [List.take_of_length_le (i := k) (by omega)]
  exact ⟨rfl, rfl⟩
set_option maxHeartbeats 2000000 in
set_option maxRecDepth 100000 in
theorem f37_met : Go.Eng.Met Tryd.prog cx0.gd 37 ctClD :=
  (met_all (cx := cx0) (n := 34) (cl := cl37) (il := il37) (hl := hl37) (ml := ml37) (rc := []) (lits := []) (suf := []) (by kernel_rfl) tis_ok ⟨f61_met, trivial⟩ trivial trivial trivial Tryd.func37 (by kernel_rfl) (by kernel_rfl) rfl (by kernel_rfl) (by kernel_rfl) (by simp) fun d hd => by
    obtain ⟨⟨vs, os, qs, sg, ⟨⟩⟩, ⟨⟩⟩ := d
    exact ex_of (ann37 vs os qs sg) (f37_vc vs os qs sg hd) (by kernel_rfl)).met
@[reducible] noncomputable def cl27 : List (Nat × CT) := [(40, ctWf)]
@[reducible] def ann27 (vs : List Int) (os : List Int) (qs : List (List Int)) (sg : List Int) (x : Int) : Nat → Option (St → Ann) := fun _ => none
@[reducible] def il27 : List (Nat × IP) := []
@[reducible] def hl27 : List (Nat × Nat × CT) := []
@[reducible] noncomputable def ml27 : List (Nat × MK) := []
set_option maxRecDepth 100000 in
theorem f27_vc (vs : List Int) (os : List Int) (qs : List (List Int)) (sg : List Int) (x : Int) (hpre : ctRd.pre ((vs, os, qs, sg, ()), x, ())) :
    bndM (vs, os, qs, sg, ()) ∧ br (!formM (vs, os, qs, sg, ())) (([] : List Go.Eng.Res) = [] ∧ Ent.tup [SV.c (SC.v (Value.int IntKind.i64 (readM (vs, os, qs, sg, ()) x).fst)), SV.c (SC.v (Value.int IntKind.i64 (readM (vs, os, qs, sg, ()) x).snd))] = Ent.tup [SV.c (SC.v (Value.int IntKind.i64 (0 : Int))), SV.c (SC.v (Value.int IntKind.i64 (1 : Int)))]) (br (decide (x < (0 : Int)) || decide ((↑vs.length : Int) ≤ x)) (([] : List Go.Eng.Res) = [] ∧ Ent.tup [SV.c (SC.v (Value.int IntKind.i64 (readM (vs, os, qs, sg, ()) x).fst)), SV.c (SC.v (Value.int IntKind.i64 (readM (vs, os, qs, sg, ()) x).snd))] = Ent.tup [SV.c (SC.v (Value.int IntKind.i64 (0 : Int))), SV.c (SC.v (Value.int IntKind.i64 (11 : Int)))]) (((0 : Int) ≤ x ∧ x < (↑vs.length : Int)) ∧ ∀ (d : Int), vs[x.toNat]? = some d → ([] : List Go.Eng.Res) = [] ∧ Ent.tup [SV.c (SC.v (Value.int IntKind.i64 (readM (vs, os, qs, sg, ()) x).fst)), SV.c (SC.v (Value.int IntKind.i64 (readM (vs, os, qs, sg, ()) x).snd))] = Ent.tup [SV.c (SC.v (Value.int IntKind.i64 d)), SV.c (SC.v (Value.int IntKind.i64 (0 : Int)))])) := by
  unfold readM
  refine ⟨hpre, br_iff.2 ⟨fun h => ⟨rfl, ?_⟩, fun h => br_iff.2 ⟨fun g => ⟨rfl, ?_⟩, fun g => ?_⟩⟩⟩
  · rw [ins_bad (by simpa using h)]; rfl
  · rw [ins_out (by simpa using h) (by simpa using g)]; rfl
  · have g : ¬ (x < 0 ∨ (vs.length : Int) ≤ x) := by simpa using g
    refine ⟨⟨by omega, by omega⟩, fun d hd => ⟨rfl, ?_⟩⟩
    rw [ins_in (by simpa using h) g, if_pos rfl]
    simp [hd]
set_option maxHeartbeats 2000000 in
set_option maxRecDepth 100000 in
theorem f27_met : Go.Eng.Met Tryd.prog cx0.gd 27 ctRd :=
  (met_all (cx := cx0) (n := 23) (cl := cl27) (il := il27) (hl := hl27) (ml := ml27) (rc := []) (lits := []) (suf := []) (by kernel_rfl) tis_ok ⟨f40_met, trivial⟩ trivial trivial trivial Tryd.func27 (by kernel_rfl) (by kernel_rfl) rfl (by kernel_rfl) (by kernel_rfl) (by simp) fun d hd => by
    obtain ⟨⟨vs, os, qs, sg, ⟨⟩⟩, x, ⟨⟩⟩ := d
    exact ex_of (ann27 vs os qs sg x) (f27_vc vs os qs sg x hd) (by kernel_rfl)).met
@[reducible] noncomputable def cl29 : List (Nat × CT) := [(40, ctWf), (37, ctClD)]
@[reducible] def ann29 (vs : List Int) (os : List Int) (qs : List (List Int)) (sg : List Int) (x : Int) (v : Int) : Nat → Option (St → Ann) := fun _ => none
@[reducible] def il29 : List (Nat × IP) := []
@[reducible] def hl29 : List (Nat × Nat × CT) := []
@[reducible] noncomputable def ml29 : List (Nat × MK) := []
set_option maxRecDepth 100000 in
theorem f29_vc (vs : List Int) (os : List Int) (qs : List (List Int)) (sg : List Int) (x : Int) (v : Int) (hpre : ctWr.pre ((vs, os, qs, sg, ()), x, v, ())) :
    bndM (vs, os, qs, sg, ()) ∧ br (!formM (vs, os, qs, sg, ())) (([] : List Go.Eng.Res) = [] ∧ Ent.tup [SV.agg [SC.sl I6 (writeM (vs, os, qs, sg, ()) x v).fst.fst, SC.sl I6 (writeM (vs, os, qs, sg, ()) x v).fst.snd.fst, SC.sl I6.sl (writeM (vs, os, qs, sg, ()) x v).fst.snd.snd.fst, SC.sl I6 (writeM (vs, os, qs, sg, ()) x v).fst.snd.snd.snd.fst], SV.c (SC.v (Value.int IntKind.i64 (writeM (vs, os, qs, sg, ()) x v).snd))] = Ent.tup [SV.agg [SC.sl I6 [], SC.sl I6 [], SC.sl I6.sl [], SC.sl I6 []], SV.c (SC.v (Value.int IntKind.i64 (1 : Int)))]) (br (decide (x < (0 : Int)) || decide ((↑vs.length : Int) ≤ x)) (([] : List Go.Eng.Res) = [] ∧ Ent.tup [SV.agg [SC.sl I6 (writeM (vs, os, qs, sg, ()) x v).fst.fst, SC.sl I6 (writeM (vs, os, qs, sg, ()) x v).fst.snd.fst, SC.sl I6.sl (writeM (vs, os, qs, sg, ()) x v).fst.snd.snd.fst, SC.sl I6 (writeM (vs, os, qs, sg, ()) x v).fst.snd.snd.snd.fst], SV.c (SC.v (Value.int IntKind.i64 (writeM (vs, os, qs, sg, ()) x v).snd))] = Ent.tup [SV.agg [SC.sl I6 [], SC.sl I6 [], SC.sl I6.sl [], SC.sl I6 []], SV.c (SC.v (Value.int IntKind.i64 (11 : Int)))]) (br (decide (v < (-2147483648 : Int)) || decide ((2147483647 : Int) < v)) (([] : List Go.Eng.Res) = [] ∧ Ent.tup [SV.agg [SC.sl I6 (writeM (vs, os, qs, sg, ()) x v).fst.fst, SC.sl I6 (writeM (vs, os, qs, sg, ()) x v).fst.snd.fst, SC.sl I6.sl (writeM (vs, os, qs, sg, ()) x v).fst.snd.snd.fst, SC.sl I6 (writeM (vs, os, qs, sg, ()) x v).fst.snd.snd.snd.fst], SV.c (SC.v (Value.int IntKind.i64 (writeM (vs, os, qs, sg, ()) x v).snd))] = Ent.tup [SV.agg [SC.sl I6 [], SC.sl I6 [], SC.sl I6.sl [], SC.sl I6 []], SV.c (SC.v (Value.int IntKind.i64 (2 : Int)))]) (bndM (vs, os, qs, sg, ()) ∧ ((0 : Int) ≤ x ∧ x < (↑vs.length : Int)) ∧ x.toNat < vs.length ∧ ([] : List Go.Eng.Res) = [] ∧ Ent.tup [SV.agg [SC.sl I6 (writeM (vs, os, qs, sg, ()) x v).fst.fst, SC.sl I6 (writeM (vs, os, qs, sg, ()) x v).fst.snd.fst, SC.sl I6.sl (writeM (vs, os, qs, sg, ()) x v).fst.snd.snd.fst, SC.sl I6 (writeM (vs, os, qs, sg, ()) x v).fst.snd.snd.snd.fst], SV.c (SC.v (Value.int IntKind.i64 (writeM (vs, os, qs, sg, ()) x v).snd))] = Ent.tup [SV.agg [SC.sl I6 (vs.set x.toNat v), SC.sl I6 os, SC.sl I6.sl qs, SC.sl I6 sg], SV.c (SC.v (Value.int IntKind.i64 (0 : Int)))]))) := by
  unfold writeM
  have hb := hpre
  refine ⟨hpre, br_iff.2 ⟨fun h => ⟨rfl, ?_⟩, fun h => br_iff.2 ⟨fun g => ⟨rfl, ?_⟩, fun g => ?_⟩⟩⟩
  · rw [ins_bad (by simpa using h)]; rfl
  · rw [ins_out (by simpa using h) (by simpa using g)]; rfl
  · have g : ¬ (x < 0 ∨ (vs.length : Int) ≤ x) := by simpa using g
    rw [ins_in (by simpa using h) g, if_pos rfl]
    refine br_iff.2 ⟨fun g2 => ⟨rfl, ?_⟩, fun g2 => ⟨hb, ⟨by omega, by omega⟩, by omega, rfl, ?_⟩⟩
    · rw [if_neg (by rw [valS_iff]; simp at g2; omega)]; rfl
    · rw [if_pos (by rw [valS_iff]; simp at g2; omega)]
set_option maxHeartbeats 2000000 in
set_option maxRecDepth 100000 in
theorem f29_met : Go.Eng.Met Tryd.prog cx0.gd 29 ctWr :=
  (met_all (cx := cx0) (n := 38) (cl := cl29) (il := il29) (hl := hl29) (ml := ml29) (rc := [.data shM, .keep]) (lits := []) (suf := []) (by kernel_rfl) tis_ok ⟨f40_met, f37_met, trivial⟩ trivial trivial trivial Tryd.func29 (by kernel_rfl) (by kernel_rfl) rfl (by kernel_rfl) (by kernel_rfl) (by simp) fun d hd => by
    obtain ⟨⟨vs, os, qs, sg, ⟨⟩⟩, x, v, ⟨⟩⟩ := d
    exact ex_of (ann29 vs os qs sg x v) (f29_vc vs os qs sg x v hd) (by kernel_rfl)).met
@[reducible] noncomputable def cl35 : List (Nat × CT) := [(40, ctWf)]
@[reducible] def ann35 (vs : List Int) (os : List Int) (qs : List (List Int)) (sg : List Int) (i : Int) : Nat → Option (St → Ann) := fun _ => none
@[reducible] def il35 : List (Nat × IP) := []
@[reducible] def hl35 : List (Nat × Nat × CT) := []
@[reducible] noncomputable def ml35 : List (Nat × MK) := []
set_option maxRecDepth 100000 in
theorem f35_vc (vs : List Int) (os : List Int) (qs : List (List Int)) (sg : List Int) (i : Int) (hpre : ctFr.pre ((vs, os, qs, sg, ()), i, ())) :
    bndM (vs, os, qs, sg, ()) ∧ ((formM (vs, os, qs, sg, ()) && decide ((0 : Int) ≤ i) && decide (i < (↑os.length : Int))) = true → (0 : Int) ≤ i ∧ i < (↑os.length : Int)) ∧ ∀ (d : Int), ((formM (vs, os, qs, sg, ()) && decide ((0 : Int) ≤ i) && decide (i < (↑os.length : Int))) = true → os[i.toNat]? = some d) → ([] : List Go.Eng.Res) = [] ∧ Ent.one (SV.c (SC.v (Value.bool (freeM (vs, os, qs, sg, ()) i)))) = Ent.one (SV.c (SC.v (Value.bool (formM (vs, os, qs, sg, ()) && decide ((0 : Int) ≤ i) && decide (i < (↑os.length : Int)) && decide (d = (-1 : Int)))))) := by
  unfold freeM
  refine ⟨hpre, fun h => ?_, fun d hd => ⟨rfl, ?_⟩⟩
  · simp at h; omega
  · by_cases h : insM (vs, os, qs, sg, ()) i os.length = 0
    · have hx := insM_zero.1 h
      have := hd (by simp [hx])
      have e : (vs, os, qs, sg, ()).2.1[i.toNat]?.getD 0 = d := by show os[i.toNat]?.getD 0 = d; rw [this]; rfl
      rw [e]
      simp only [hx, h, decide_true, Bool.true_and]
    · have hx : ¬ (formM (vs, os, qs, sg, ()) = true ∧ 0 ≤ i ∧ i < os.length) := fun q => h (insM_zero.2 q)
      have e : (formM (vs, os, qs, sg, ()) && decide (0 ≤ i) && decide (i < (os.length : Int))) = false := by
        rw [Bool.eq_false_iff]; intro q; simp at q; exact hx ⟨q.1.1, q.1.2, q.2⟩
      rw [e]; simp [h]
set_option maxHeartbeats 2000000 in
set_option maxRecDepth 100000 in
theorem f35_met : Go.Eng.Met Tryd.prog cx0.gd 35 ctFr :=
  (met_all (cx := cx0) (n := 26) (cl := cl35) (il := il35) (hl := hl35) (ml := ml35) (rc := []) (lits := []) (suf := []) (by kernel_rfl) tis_ok ⟨f40_met, trivial⟩ trivial trivial trivial Tryd.func35 (by kernel_rfl) (by kernel_rfl) rfl (by kernel_rfl) (by kernel_rfl) (by simp) fun d hd => by
    obtain ⟨⟨vs, os, qs, sg, ⟨⟩⟩, i, ⟨⟩⟩ := d
    exact ex_of (ann35 vs os qs sg i) (f35_vc vs os qs sg i hd) (by kernel_rfl)).met
@[reducible] noncomputable def ctOwE : CT := { ps := [shM, .int .i64, .int .i64, .int .i64], pre := fun d => bndM d.1, res := fun d => ([], .one (.c (.v (.int .i64 (ownE d.1 d.2.1 d.2.2.1 d.2.2.2.1))))) }
@[reducible] noncomputable def cl59 : List (Nat × CT) := [(40, ctWf)]
@[reducible] def ann59 (vs : List Int) (os : List Int) (qs : List (List Int)) (sg : List Int) (i : Int) (id : Int) (now : Int) : Nat → Option (St → Ann) := fun _ => none
@[reducible] def il59 : List (Nat × IP) := []
@[reducible] def hl59 : List (Nat × Nat × CT) := []
@[reducible] noncomputable def ml59 : List (Nat × MK) := []
set_option maxRecDepth 100000 in
theorem f59_vc (vs : List Int) (os : List Int) (qs : List (List Int)) (sg : List Int) (i : Int) (id : Int) (now : Int) (hpre : ctOwE.pre ((vs, os, qs, sg, ()), i, id, now, ())) :
    bndM (vs, os, qs, sg, ()) ∧ br (!formM (vs, os, qs, sg, ())) (([] : List Go.Eng.Res) = [] ∧ Ent.one (SV.c (SC.v (Value.int IntKind.i64 (ownE (vs, os, qs, sg, ()) i id now)))) = Ent.one (SV.c (SC.v (Value.int IntKind.i64 (1 : Int))))) (br (decide (i < (0 : Int)) || decide ((↑os.length : Int) ≤ i)) (([] : List Go.Eng.Res) = [] ∧ Ent.one (SV.c (SC.v (Value.int IntKind.i64 (ownE (vs, os, qs, sg, ()) i id now)))) = Ent.one (SV.c (SC.v (Value.int IntKind.i64 (11 : Int))))) (br (decide (id < (0 : Int))) (([] : List Go.Eng.Res) = [] ∧ Ent.one (SV.c (SC.v (Value.int IntKind.i64 (ownE (vs, os, qs, sg, ()) i id now)))) = Ent.one (SV.c (SC.v (Value.int IntKind.i64 (2 : Int))))) (((0 : Int) ≤ i ∧ i < (↑os.length : Int)) ∧ ∀ (d : Int), os[i.toNat]? = some d → br (!decide (d = now)) (([] : List Go.Eng.Res) = [] ∧ Ent.one (SV.c (SC.v (Value.int IntKind.i64 (ownE (vs, os, qs, sg, ()) i id now)))) = Ent.one (SV.c (SC.v (Value.int IntKind.i64 (30 : Int))))) (([] : List Go.Eng.Res) = [] ∧ Ent.one (SV.c (SC.v (Value.int IntKind.i64 (ownE (vs, os, qs, sg, ()) i id now)))) = Ent.one (SV.c (SC.v (Value.int IntKind.i64 (0 : Int)))))))) := by
  unfold ownE
  refine ⟨hpre, br_iff.2 ⟨fun h => ⟨rfl, ?_⟩, fun h => br_iff.2 ⟨fun g => ⟨rfl, ?_⟩, fun g => ?_⟩⟩⟩
  · rw [ins_bad (by simpa using h)]; rfl
  · rw [ins_out (by simpa using h) (by simpa using g)]; rfl
  · have g : ¬ (i < 0 ∨ (os.length : Int) ≤ i) := by simpa using g
    rw [ins_in (by simpa using h) g, if_pos rfl]
    refine br_iff.2 ⟨fun g2 => ⟨rfl, ?_⟩, fun g2 => ⟨⟨by omega, by omega⟩, fun d hd => br_iff.2 ⟨fun g3 => ⟨rfl, ?_⟩, fun g3 => ⟨rfl, ?_⟩⟩⟩⟩
    · rw [if_pos (by simpa using g2)]
    all_goals
      rw [if_neg (by simpa using g2)]
      have e : (vs, os, qs, sg, ()).2.1[i.toNat]?.getD 0 = d := by simp [hd]
      rw [e]
    · rw [if_neg (by simpa using g3)]
    · rw [if_pos (by simpa using g3)]
set_option maxHeartbeats 2000000 in
set_option maxRecDepth 100000 in
theorem f59_met : Go.Eng.Met Tryd.prog cx0.gd 59 ctOwE :=
  (met_all (cx := cx0) (n := 30) (cl := cl59) (il := il59) (hl := hl59) (ml := ml59) (rc := []) (lits := []) (suf := []) (by kernel_rfl) tis_ok ⟨f40_met, trivial⟩ trivial trivial trivial Tryd.func59 (by kernel_rfl) (by kernel_rfl) rfl (by kernel_rfl) (by kernel_rfl) (by simp) fun d hd => by
    obtain ⟨⟨vs, os, qs, sg, ⟨⟩⟩, i, id, now, ⟨⟩⟩ := d
    exact ex_of (ann59 vs os qs sg i id now) (f59_vc vs os qs sg i id now hd) (by kernel_rfl)).met
@[reducible] noncomputable def cl31 : List (Nat × CT) := [(59, ctOwE), (37, ctClD)]
@[reducible] def ann31 (vs : List Int) (os : List Int) (qs : List (List Int)) (sg : List Int) (i : Int) (id : Int) : Nat → Option (St → Ann) := fun _ => none
@[reducible] def il31 : List (Nat × IP) := []
@[reducible] def hl31 : List (Nat × Nat × CT) := []
@[reducible] noncomputable def ml31 : List (Nat × MK) := []
set_option maxRecDepth 100000 in
theorem f31_vc (vs : List Int) (os : List Int) (qs : List (List Int)) (sg : List Int) (i : Int) (id : Int) (hpre : ctAcq.pre ((vs, os, qs, sg, ()), i, id, ())) :
    bndM (vs, os, qs, sg, ()) ∧ br (!decide (ownE (vs, os, qs, sg, ()) i id (-1 : Int) = (0 : Int))) (([] : List Go.Eng.Res) = [] ∧ Ent.tup [SV.agg [SC.sl I6 (ownM (vs, os, qs, sg, ()) i id (-1 : Int) id).fst.fst, SC.sl I6 (ownM (vs, os, qs, sg, ()) i id (-1 : Int) id).fst.snd.fst, SC.sl I6.sl (ownM (vs, os, qs, sg, ()) i id (-1 : Int) id).fst.snd.snd.fst, SC.sl I6 (ownM (vs, os, qs, sg, ()) i id (-1 : Int) id).fst.snd.snd.snd.fst], SV.c (SC.v (Value.int IntKind.i64 (ownM (vs, os, qs, sg, ()) i id (-1 : Int) id).snd))] = Ent.tup [SV.agg [SC.sl I6 [], SC.sl I6 [], SC.sl I6.sl [], SC.sl I6 []], SV.c (SC.v (Value.int IntKind.i64 (ownE (vs, os, qs, sg, ()) i id (-1 : Int))))]) (bndM (vs, os, qs, sg, ()) ∧ ((0 : Int) ≤ i ∧ i < (↑os.length : Int)) ∧ i.toNat < os.length ∧ ([] : List Go.Eng.Res) = [] ∧ Ent.tup [SV.agg [SC.sl I6 (ownM (vs, os, qs, sg, ()) i id (-1 : Int) id).fst.fst, SC.sl I6 (ownM (vs, os, qs, sg, ()) i id (-1 : Int) id).fst.snd.fst, SC.sl I6.sl (ownM (vs, os, qs, sg, ()) i id (-1 : Int) id).fst.snd.snd.fst, SC.sl I6 (ownM (vs, os, qs, sg, ()) i id (-1 : Int) id).fst.snd.snd.snd.fst], SV.c (SC.v (Value.int IntKind.i64 (ownM (vs, os, qs, sg, ()) i id (-1 : Int) id).snd))] = Ent.tup [SV.agg [SC.sl I6 vs, SC.sl I6 (os.set i.toNat id), SC.sl I6.sl qs, SC.sl I6 sg], SV.c (SC.v (Value.int IntKind.i64 (0 : Int)))]) := by
  refine ⟨hpre, br_iff.2 ⟨fun h => ⟨rfl, ?_⟩, fun h => ?_⟩⟩
  · rw [ownM_bad (by simpa using h)]; rfl
  · have h : ownE (vs, os, qs, sg, ()) i id (-1) = 0 := by simpa using h
    have hx := insM_zero.1 (ownE_zero h).1
    exact ⟨hpre, hx.2, by have := hx.2; simp at this; omega, rfl, by rw [ownM_ok h]⟩
set_option maxHeartbeats 2000000 in
set_option maxRecDepth 100000 in
theorem f31_met : Go.Eng.Met Tryd.prog cx0.gd 31 ctAcq :=
  (met_all (cx := cx0) (n := 26) (cl := cl31) (il := il31) (hl := hl31) (ml := ml31) (rc := [.data shM, .keep]) (lits := []) (suf := []) (by kernel_rfl) tis_ok ⟨f59_met, f37_met, trivial⟩ trivial trivial trivial Tryd.func31 (by kernel_rfl) (by kernel_rfl) rfl (by kernel_rfl) (by kernel_rfl) (by simp) fun d hd => by
    obtain ⟨⟨vs, os, qs, sg, ⟨⟩⟩, i, id, ⟨⟩⟩ := d
    exact ex_of (ann31 vs os qs sg i id) (f31_vc vs os qs sg i id hd) (by kernel_rfl)).met
@[reducible] noncomputable def cl33 : List (Nat × CT) := [(59, ctOwE), (37, ctClD)]
@[reducible] def ann33 (vs : List Int) (os : List Int) (qs : List (List Int)) (sg : List Int) (i : Int) (id : Int) : Nat → Option (St → Ann) := fun _ => none
@[reducible] def il33 : List (Nat × IP) := []
@[reducible] def hl33 : List (Nat × Nat × CT) := []
@[reducible] noncomputable def ml33 : List (Nat × MK) := []
set_option maxRecDepth 100000 in
theorem f33_vc (vs : List Int) (os : List Int) (qs : List (List Int)) (sg : List Int) (i : Int) (id : Int) (hpre : ctRel.pre ((vs, os, qs, sg, ()), i, id, ())) :
    bndM (vs, os, qs, sg, ()) ∧ br (!decide (ownE (vs, os, qs, sg, ()) i id id = (0 : Int))) (([] : List Go.Eng.Res) = [] ∧ Ent.tup [SV.agg [SC.sl I6 (ownM (vs, os, qs, sg, ()) i id id (-1 : Int)).fst.fst, SC.sl I6 (ownM (vs, os, qs, sg, ()) i id id (-1 : Int)).fst.snd.fst, SC.sl I6.sl (ownM (vs, os, qs, sg, ()) i id id (-1 : Int)).fst.snd.snd.fst, SC.sl I6 (ownM (vs, os, qs, sg, ()) i id id (-1 : Int)).fst.snd.snd.snd.fst], SV.c (SC.v (Value.int IntKind.i64 (ownM (vs, os, qs, sg, ()) i id id (-1 : Int)).snd))] = Ent.tup [SV.agg [SC.sl I6 [], SC.sl I6 [], SC.sl I6.sl [], SC.sl I6 []], SV.c (SC.v (Value.int IntKind.i64 (ownE (vs, os, qs, sg, ()) i id id)))]) (bndM (vs, os, qs, sg, ()) ∧ ((0 : Int) ≤ i ∧ i < (↑os.length : Int)) ∧ i.toNat < os.length ∧ ([] : List Go.Eng.Res) = [] ∧ Ent.tup [SV.agg [SC.sl I6 (ownM (vs, os, qs, sg, ()) i id id (-1 : Int)).fst.fst, SC.sl I6 (ownM (vs, os, qs, sg, ()) i id id (-1 : Int)).fst.snd.fst, SC.sl I6.sl (ownM (vs, os, qs, sg, ()) i id id (-1 : Int)).fst.snd.snd.fst, SC.sl I6 (ownM (vs, os, qs, sg, ()) i id id (-1 : Int)).fst.snd.snd.snd.fst], SV.c (SC.v (Value.int IntKind.i64 (ownM (vs, os, qs, sg, ()) i id id (-1 : Int)).snd))] = Ent.tup [SV.agg [SC.sl I6 vs, SC.sl I6 (os.set i.toNat (-1 : Int)), SC.sl I6.sl qs, SC.sl I6 sg], SV.c (SC.v (Value.int IntKind.i64 (0 : Int)))]) := by
  refine ⟨hpre, br_iff.2 ⟨fun h => ⟨rfl, ?_⟩, fun h => ?_⟩⟩
  · rw [ownM_bad (by simpa using h)]; rfl
  · have h : ownE (vs, os, qs, sg, ()) i id id = 0 := by simpa using h
    have hx := insM_zero.1 (ownE_zero h).1
    exact ⟨hpre, hx.2, by have := hx.2; simp at this; omega, rfl, by rw [ownM_ok h]⟩
set_option maxHeartbeats 2000000 in
set_option maxRecDepth 100000 in
theorem f33_met : Go.Eng.Met Tryd.prog cx0.gd 33 ctRel :=
  (met_all (cx := cx0) (n := 26) (cl := cl33) (il := il33) (hl := hl33) (ml := ml33) (rc := [.data shM, .keep]) (lits := []) (suf := []) (by kernel_rfl) tis_ok ⟨f59_met, f37_met, trivial⟩ trivial trivial trivial Tryd.func33 (by kernel_rfl) (by kernel_rfl) rfl (by kernel_rfl) (by kernel_rfl) (by simp) fun d hd => by
    obtain ⟨⟨vs, os, qs, sg, ⟨⟩⟩, i, id, ⟨⟩⟩ := d
    exact ex_of (ann33 vs os qs sg i id) (f33_vc vs os qs sg i id hd) (by kernel_rfl)).met
end Go.Proofs.YtkgjfkdcnoockaaDoor
set_option linter.unusedSimpArgs false
set_option linter.unusedVariables false
set_option maxRecDepth 100000
namespace Go.Proofs.YtkgjfkdcnoockaaDoor
open Go Go.Eng

def oneP : PD := ([(⟨#[120]⟩, 4, ())], [⟨#[109]⟩], [⟨#[99]⟩], [(⟨#[102]⟩, [], ())], [(0, 0, ())], ())
def fewM (m : MD) : Bool := decide (m.1.length ≤ 20) && decide (m.2.1.length ≤ 20) && decide (m.2.2.1.length ≤ 20) && decide (m.2.2.2.1.length ≤ 60) && m.2.2.1.all (fun q => decide (q.length ≤ 60))
@[reducible] def ctFew : CT := { ps := [shM], pre := fun d => True, res := fun d => ([], vB (fewM d.1)) }
@[reducible] def cl11 : List (Nat × CT) := []
@[reducible] def ann11 (vs : List Int) (os : List Int) (qs : List (List Int)) (sg : List Int) : Nat → Option (St → Ann) := fun k => match k with
  | 4 => some fun _ => .inv { α := Nat, slots := fun k => [(30, .c (.v (.int .i64 k)))], res := fun k => [], inv := fun k => k ≤ (qs).length ∧ ∀ j < k, ∀ q, qs[j]? = some q → q.length ≤ 60, meas := fun k => (qs).length - k }
  | _ => none
@[reducible] def il11 : List (Nat × IP) := []
@[reducible] def hl11 : List (Nat × Nat × CT) := []
@[reducible] def ml11 : List (Nat × MK) := []
set_option maxRecDepth 100000 in
theorem f11_vc (vs : List Int) (os : List Int) (qs : List (List Int)) (sg : List Int) :
    br (decide ((20 : Int) < (↑vs.length : Int)) || decide ((20 : Int) < (↑os.length : Int)) || decide ((20 : Int) < (↑qs.length : Int)) || decide ((60 : Int) < (↑sg.length : Int))) (([] : List Go.Eng.Res) = [] ∧ Ent.one (SV.c (SC.v (Value.bool (fewM (vs, os, qs, sg, ()))))) = Ent.one (SV.c (SC.v (Value.bool false)))) ((∃ x, (x ≤ qs.length ∧ ∀ (j : Nat), j < x → ∀ (q : List Int), qs[j]? = some q → q.length ≤ (60 : Nat)) ∧ (SV.c (SC.v (Value.int IntKind.i64 (0 : Int))) = SV.c (SC.v (Value.int IntKind.i64 (↑x : Int))) ∧ True) ∧ [(([] : Go.Eng.Gd), Res.blk (31 : Nat) [SC.sl I6 vs, SC.sl I6 os, SC.sl I6.sl qs, SC.sl I6 sg])] = [(([] : Go.Eng.Gd), Res.blk (31 : Nat) [SC.sl I6 vs, SC.sl I6 os, SC.sl I6.sl qs, SC.sl I6 sg])]) ∧ ∀ (x : Nat), (x ≤ qs.length ∧ ∀ (j : Nat), j < x → ∀ (q : List Int), qs[j]? = some q → q.length ≤ (60 : Nat)) → br (decide ((↑x : Int) < (↑qs.length : Int))) (((0 : Int) ≤ (↑x : Int) ∧ (↑x : Int) < (↑qs.length : Int)) ∧ ∀ (d : List I6.den), qs[(↑x : Int).toNat]? = some d → br (decide ((60 : Int) < (↑d.length : Int))) (([] : List Go.Eng.Res) = [] ∧ Ent.one (SV.c (SC.v (Value.bool (fewM (vs, os, qs, sg, ()))))) = Ent.one (SV.c (SC.v (Value.bool false)))) (InR IntKind.i64 ((↑x : Int) + (1 : Int)) ∧ ∃ x', (x' ≤ qs.length ∧ ∀ (j : Nat), j < x' → ∀ (q : List Int), qs[j]? = some q → q.length ≤ (60 : Nat)) ∧ (SV.c (SC.v (Value.int IntKind.i64 ((↑x : Int) + (1 : Int)))) = SV.c (SC.v (Value.int IntKind.i64 (↑x' : Int))) ∧ True) ∧ [(([] : Go.Eng.Gd), Res.blk (31 : Nat) [SC.sl I6 vs, SC.sl I6 os, SC.sl I6.sl qs, SC.sl I6 sg])] = [(([] : Go.Eng.Gd), Res.blk (31 : Nat) [SC.sl I6 vs, SC.sl I6 os, SC.sl I6.sl qs, SC.sl I6 sg])] ∧ qs.length - x' < qs.length - x)) (([] : List Go.Eng.Res) = [] ∧ Ent.one (SV.c (SC.v (Value.bool (fewM (vs, os, qs, sg, ()))))) = Ent.one (SV.c (SC.v (Value.bool true))))) := by
  refine br_iff.2 ⟨fun h => ⟨rfl, ?_⟩, fun h => ?_⟩
  · have e : fewM (vs, os, qs, sg, ()) = false := by
      unfold fewM
      rw [Bool.eq_false_iff]; intro q; simp at q h; omega
    rw [e]
  simp only [Bool.or_eq_false_iff, decide_eq_false_iff_not] at h
  refine ⟨⟨0, ⟨by omega, fun j hj => by omega⟩, ⟨rfl, trivial⟩, rfl⟩, fun k hk => br_iff.2 ⟨fun g => ?_, fun g => ?_⟩⟩
  · simp only [decide_eq_true_eq] at g
    refine ⟨⟨by omega, by omega⟩, fun d hd => br_iff.2 ⟨fun g2 => ⟨rfl, ?_⟩, fun g2 => ⟨InR_i64.2 (by omega), k + 1, ⟨by omega, fun j hj q hq => ?_⟩, ⟨rfl, trivial⟩, rfl, by omega⟩⟩⟩
    · have e : fewM (vs, os, qs, sg, ()) = false := by
        unfold fewM
        rw [Bool.eq_false_iff]; intro q
        simp only [Bool.and_eq_true, List.all_eq_true, decide_eq_true_eq] at q g2
        have := q.2 d (List.mem_of_getElem? hd)
        omega
      rw [e]
    · by_cases hjk : j = k
      · subst hjk
        have hd : qs[j]? = some d := hd
        rw [hd] at hq; cases hq
        simp at g2; omega
      · exact hk.2 j (by omega) q hq
  simp only [decide_eq_false_iff_not] at g
  have e : fewM (vs, os, qs, sg, ()) = true := by
    unfold fewM
    simp only [Bool.and_eq_true, List.all_eq_true, decide_eq_true_eq]
    refine ⟨⟨⟨⟨by omega, by omega⟩, by omega⟩, by omega⟩, fun q hq => ?_⟩
    obtain ⟨j, hj⟩ := List.getElem?_of_mem hq
    exact hk.2 j (by have := (List.getElem?_eq_some_iff.1 hj).1; omega) q hj
  exact ⟨rfl, by rw [e]⟩
set_option maxHeartbeats 2000000 in
set_option maxRecDepth 100000 in
theorem f11_met : Go.Eng.Met Tryd.prog cx0.gd 11 ctFew :=
  (met_all (cx := cx0) (n := 38) (cl := cl11) (il := il11) (hl := hl11) (ml := ml11) (rc := []) (lits := []) (suf := []) (by kernel_rfl) tis_ok trivial trivial trivial trivial Tryd.func11 (by kernel_rfl) (by kernel_rfl) rfl (by kernel_rfl) (by kernel_rfl) (by simp) fun d hd => by
    obtain ⟨⟨vs, os, qs, sg, ⟨⟩⟩, ⟨⟩⟩ := d
    exact ex_of (ann11 vs os qs sg) (f11_vc vs os qs sg) (by kernel_rfl)).met
@[reducible] def ctOne : CT := { ps := [], pre := fun d => True, res := fun d => ([], .one (ofDat shP oneP)) }
@[reducible] def cl43 : List (Nat × CT) := []
@[reducible] def ann43  : Nat → Option (St → Ann) := fun _ => none
@[reducible] def il43 : List (Nat × IP) := []
@[reducible] def hl43 : List (Nat × Nat × CT) := []
@[reducible] def ml43 : List (Nat × MK) := []
set_option maxRecDepth 100000 in
theorem f43_vc  :
    ([] : List Go.Eng.Res) = [] ∧ Ent.one (SV.agg [SC.sl (Sh.str.pair (I6.pair Sh.unit)) [({ data := #[(120 : UInt8)] : ByteArray }, (4 : Int), ())], SC.sl Sh.str [{ data := #[(109 : UInt8)] : ByteArray }], SC.sl Sh.str [{ data := #[(99 : UInt8)] : ByteArray }], SC.sl (Sh.str.pair (shI.sl.pair Sh.unit)) [({ data := #[(102 : UInt8)] : ByteArray }, [], ())], SC.sl (I6.pair (I6.pair Sh.unit)) [((0 : Int), (0 : Int), ())]]) = Ent.one (SV.agg [SC.sl (Sh.str.pair (I6.pair Sh.unit)) [({ data := #[(120 : UInt8)] : ByteArray }, (4 : Int), ())], SC.sl Sh.str [{ data := #[(109 : UInt8)] : ByteArray }], SC.sl Sh.str [{ data := #[(99 : UInt8)] : ByteArray }], SC.sl (Sh.str.pair (shI.sl.pair Sh.unit)) [({ data := #[(102 : UInt8)] : ByteArray }, [], ())], SC.sl (I6.pair (I6.pair Sh.unit)) [((0 : Int), (0 : Int), ())]]) := by
  exact ⟨rfl, rfl⟩
set_option maxHeartbeats 2000000 in
set_option maxRecDepth 100000 in
theorem f43_met : Go.Eng.Met Tryd.prog cx0.gd 43 ctOne :=
  (met_all (cx := cx0) (n := 10) (cl := cl43) (il := il43) (hl := hl43) (ml := ml43) (rc := [.data shP]) (lits := []) (suf := []) (by kernel_rfl) tis_ok trivial trivial trivial trivial Tryd.func43 (by kernel_rfl) (by kernel_rfl) rfl (by kernel_rfl) (by kernel_rfl) (by simp) fun d hd => by
    obtain ⟨⟩ := d
    exact ex_of (ann43 ) (f43_vc ) (by kernel_rfl)).met
theorem fm0 : formM (([4], [-1], [[]], [], ()) : MD) = true := formM_iff.2 ⟨by decide, by decide, by decide, validI_iff.1 (by decide), by decide, by decide, by decide, by decide⟩
theorem bd0 : bndM (([4], [-1], [[]], [], ()) : MD) := ⟨by decide, by decide, by decide, by decide, by decide, by decide⟩
theorem fm1 : formM (([4], [-1], [[3]], [], ()) : MD) = true := formM_iff.2 ⟨by decide, by decide, by decide, validI_iff.1 (by decide), by decide, by decide, by decide, by decide⟩
theorem bd1 : bndM (([4], [-1], [[3]], [], ()) : MD) := ⟨by decide, by decide, by decide, by decide, by decide, by decide⟩
theorem fm2 : formM (([4], [-1], [[3, 1]], [], ()) : MD) = true := formM_iff.2 ⟨by decide, by decide, by decide, validI_iff.1 (by decide), by decide, by decide, by decide, by decide⟩
theorem bd2 : bndM (([4], [-1], [[3, 1]], [], ()) : MD) := ⟨by decide, by decide, by decide, by decide, by decide, by decide⟩
theorem fm3 : formM (([4], [-1], [[1]], [3], ()) : MD) = true := formM_iff.2 ⟨by decide, by decide, by decide, validI_iff.1 (by decide), by decide, by decide, by decide, by decide⟩
theorem bd3 : bndM (([4], [-1], [[1]], [3], ()) : MD) := ⟨by decide, by decide, by decide, by decide, by decide, by decide⟩
theorem fm4 : formM (([4], [-1], [[1]], [], ()) : MD) = true := formM_iff.2 ⟨by decide, by decide, by decide, validI_iff.1 (by decide), by decide, by decide, by decide, by decide⟩
theorem bd4 : bndM (([4], [-1], [[1]], [], ()) : MD) := ⟨by decide, by decide, by decide, by decide, by decide, by decide⟩
theorem ex1 : enqM (([4], [-1], [[]], [], ()) : MD) 0 3 = ((([4], [-1], [[3]], [], ()) : MD), 0) := by
  unfold enqM
  rw [ins_in fm0 (by decide), if_pos rfl, if_neg (by decide), if_neg (by decide)]; rfl
theorem ex2 : enqM (([4], [-1], [[3]], [], ()) : MD) 0 1 = ((([4], [-1], [[3, 1]], [], ()) : MD), 0) := by
  unfold enqM
  rw [ins_in fm1 (by decide), if_pos rfl, if_neg (by decide), if_neg (by decide)]; rfl
theorem ex3 : wkM (([4], [-1], [[3, 1]], [], ()) : MD) 0 1 = ((([4], [-1], [[1]], [3], ()) : MD), 1, 0) := by
  unfold wkM
  rw [ins_in fm2 (by decide), if_pos rfl]; rfl
theorem ex4 : wakeM (([4], [-1], [[1]], [3], ()) : MD) 1 = (zM, 30) := by
  unfold wakeM
  rw [fm3, if_neg (by decide), if_pos (by decide)]
theorem ex5 : wakeM (([4], [-1], [[1]], [3], ()) : MD) 3 = ((([4], [-1], [[1]], [], ()) : MD), 0) := by
  unfold wakeM
  rw [fm3, if_neg (by decide), if_neg (by decide)]; rfl
theorem ex6 : readM (([4], [-1], [[1]], [], ()) : MD) 0 = (4, 0) := by
  unfold readM
  rw [ins_in fm4 (by decide), if_pos rfl]; rfl
theorem ex7 : freeM (([4], [-1], [[1]], [], ()) : MD) 0 = true := by
  unfold freeM
  rw [ins_in fm4 (by decide)]; rfl
@[reducible] def ctExa : CT := { ps := [], pre := fun d => True, res := fun d => ([], vB (true)) }
@[reducible] noncomputable def cl12 : List (Nat × CT) := [(43, ctOne), (13, ctNew), (18, ctEnq), (20, ctSig), (24, ctWke), (26, ctRd), (34, ctFr), (41, ct13)]
@[reducible] def ann12  : Nat → Option (St → Ann) := fun k => match k with
  | 2 => some fun _ => .cut { α := Nat, pad := 1, can := [(0, .slot 1)], slots := fun _ => [(1, .c (.own 0 0)), (2, .c (.v (.int .i64 0)))], res := fun _ => [(0, .blk 31 [.sl (.int .i64) [4], .sl (.int .i64) [-1], .sl (.sl (.int .i64)) [[]], .sl (.int .i64) []])], inv := fun u => u = 0, meas := fun _ => 0 }
  | 3 => some fun _ => .cut { α := Nat, pad := 1, can := [(1, .slot 3)], slots := fun _ => [(3, .c (.own 1 0)), (4, .c (.v (.int .i64 0)))], res := fun _ => [(1, .blk 31 [.sl (.int .i64) [4], .sl (.int .i64) [-1], .sl (.sl (.int .i64)) [[3]], .sl (.int .i64) []])], inv := fun u => u = 0, meas := fun _ => 0 }
  | 4 => some fun _ => .cut { α := Nat, pad := 1, can := [(2, .slot 5)], slots := fun _ => [(5, .c (.own 2 0)), (6, .c (.v (.int .i64 0)))], res := fun _ => [(2, .blk 31 [.sl (.int .i64) [4], .sl (.int .i64) [-1], .sl (.sl (.int .i64)) [[3, 1]], .sl (.int .i64) []])], inv := fun u => u = 0, meas := fun _ => 0 }
  | 5 => some fun _ => .cut { α := Nat, pad := 1, can := [(3, .slot 7)], slots := fun _ => [(7, .c (.own 3 0)), (8, .c (.v (.int .i64 1))), (9, .c (.v (.int .i64 0)))], res := fun _ => [(3, .blk 31 [.sl (.int .i64) [4], .sl (.int .i64) [-1], .sl (.sl (.int .i64)) [[1]], .sl (.int .i64) [3]])], inv := fun u => u = 0, meas := fun _ => 0 }
  | 6 => some fun _ => .cut { α := Nat, pad := 1, can := [(4, .slot 10)], slots := fun _ => [(10, .c (.own 4 0)), (11, .c (.v (.int .i64 30)))], res := fun _ => [(4, .blk 31 [.sl (.int .i64) [], .sl (.int .i64) [], .sl (.sl (.int .i64)) [], .sl (.int .i64) []])], inv := fun u => u = 0, meas := fun _ => 0 }
  | 7 => some fun _ => .cut { α := Nat, pad := 1, can := [(5, .slot 12)], slots := fun _ => [(12, .c (.own 5 0)), (13, .c (.v (.int .i64 0)))], res := fun _ => [(5, .blk 31 [.sl (.int .i64) [4], .sl (.int .i64) [-1], .sl (.sl (.int .i64)) [[1]], .sl (.int .i64) []])], inv := fun u => u = 0, meas := fun _ => 0 }
  | 10 => some fun _ => .cut { α := MD, slots := fun _ => [(14, .c (.v (.int .i64 4))), (15, .c (.v (.int .i64 0)))], res := fun u => [(5, .blk 31 [.sl (.int .i64) u.1, .sl (.int .i64) u.2.1, .sl (.sl (.int .i64)) u.2.2.1, .sl (.int .i64) u.2.2.2.1])], inv := fun u => u = ([4], [-1], [[1]], [], ()), meas := fun _ => 0 }
  | _ => none
@[reducible] def il12 : List (Nat × IP) := []
@[reducible] def hl12 : List (Nat × Nat × CT) := []
@[reducible] noncomputable def ml12 : List (Nat × MK) := []
set_option maxRecDepth 100000 in
theorem f12_vc  :
    (True ∧ ((1 : Nat) ≤ (1000000 : Nat) ∧ (1 : Nat) ≤ (1000000 : Nat) ∧ (1 : Nat) ≤ (1000000 : Nat) ∧ (1 : Nat) ≤ (1000000 : Nat) ∧ (1 : Nat) ≤ (1000000 : Nat) ∧ (∀ (x : Sh.str.den × (shI.sl.pair Sh.unit).den), x ∈ [({ data := #[(102 : UInt8)] : ByteArray }, [], ())] → List.length x.snd.fst ≤ (1000000 : Nat)) ∧ (0 : Nat) ≤ (1000000 : Nat)) ∧ ∃ v, v = (0 : Nat) ∧ (SV.c (SC.own (0 : Nat) (0 : Nat)) = SV.c (SC.own (0 : Nat) (0 : Nat)) ∧ SV.c (SC.v (Value.int IntKind.i64 (0 : Int))) = SV.c (SC.v (Value.int IntKind.i64 (0 : Int))) ∧ True) ∧ [(([] : Go.Eng.Gd), Res.blk (31 : Nat) [SC.sl I6 (List.map (fun x => x.snd.fst) [({ data := #[(120 : UInt8)] : ByteArray }, (4 : Int), ())]), SC.sl I6 (List.replicate (1 : Nat) (-1 : Int)), SC.sl I6.sl (List.replicate (1 : Nat) []), SC.sl I6 []])] = [(([] : Go.Eng.Gd), Res.blk (31 : TypeId) [SC.sl I6 [(4 : I6.den)], SC.sl I6 [(-1 : I6.den)], SC.sl I6.sl [[]], SC.sl I6 []])]) ∧ ∀ (v : Nat), v = (0 : Nat) → (bndM ([(4 : I6.den)], [(-1 : I6.den)], [[]], [], ()) ∧ ∃ v, v = (0 : Nat) ∧ (SV.c (SC.own (1 : Nat) (0 : Nat)) = SV.c (SC.own (1 : Nat) (0 : Nat)) ∧ SV.c (SC.v (Value.int IntKind.i64 (enqM ([(4 : I6.den)], [(-1 : I6.den)], [[]], [], ()) (0 : Int) (3 : Int)).snd)) = SV.c (SC.v (Value.int IntKind.i64 (0 : Int))) ∧ True) ∧ [(([] : Go.Eng.Gd), Res.blk (31 : TypeId) [SC.sl I6 [(4 : I6.den)], SC.sl I6 [(-1 : I6.den)], SC.sl I6.sl [[]], SC.sl I6 []]), (([] : Go.Eng.Gd), Res.blk (31 : Nat) [SC.sl I6 (enqM ([(4 : I6.den)], [(-1 : I6.den)], [[]], [], ()) (0 : Int) (3 : Int)).fst.fst, SC.sl I6 (enqM ([(4 : I6.den)], [(-1 : I6.den)], [[]], [], ()) (0 : Int) (3 : Int)).fst.snd.fst, SC.sl I6.sl (enqM ([(4 : I6.den)], [(-1 : I6.den)], [[]], [], ()) (0 : Int) (3 : Int)).fst.snd.snd.fst, SC.sl I6 (enqM ([(4 : I6.den)], [(-1 : I6.den)], [[]], [], ()) (0 : Int) (3 : Int)).fst.snd.snd.snd.fst])] = [(([] : Go.Eng.Gd), Res.blk (31 : TypeId) [SC.sl I6 [(4 : I6.den)], SC.sl I6 [(-1 : I6.den)], SC.sl I6.sl [[]], SC.sl I6 []]), (([] : Go.Eng.Gd), Res.blk (31 : TypeId) [SC.sl I6 [(4 : I6.den)], SC.sl I6 [(-1 : I6.den)], SC.sl I6.sl [[(3 : I6.den)]], SC.sl I6 []])]) ∧ ∀ (v : Nat), v = (0 : Nat) → (bndM ([(4 : I6.den)], [(-1 : I6.den)], [[(3 : I6.den)]], [], ()) ∧ ∃ v, v = (0 : Nat) ∧ (SV.c (SC.own (2 : Nat) (0 : Nat)) = SV.c (SC.own (2 : Nat) (0 : Nat)) ∧ SV.c (SC.v (Value.int IntKind.i64 (enqM ([(4 : I6.den)], [(-1 : I6.den)], [[(3 : I6.den)]], [], ()) (0 : Int) (1 : Int)).snd)) = SV.c (SC.v (Value.int IntKind.i64 (0 : Int))) ∧ True) ∧ [(([] : Go.Eng.Gd), Res.blk (31 : TypeId) [SC.sl I6 [(4 : I6.den)], SC.sl I6 [(-1 : I6.den)], SC.sl I6.sl [[]], SC.sl I6 []]), (([] : Go.Eng.Gd), Res.blk (31 : TypeId) [SC.sl I6 [(4 : I6.den)], SC.sl I6 [(-1 : I6.den)], SC.sl I6.sl [[(3 : I6.den)]], SC.sl I6 []]), (([] : Go.Eng.Gd), Res.blk (31 : Nat) [SC.sl I6 (enqM ([(4 : I6.den)], [(-1 : I6.den)], [[(3 : I6.den)]], [], ()) (0 : Int) (1 : Int)).fst.fst, SC.sl I6 (enqM ([(4 : I6.den)], [(-1 : I6.den)], [[(3 : I6.den)]], [], ()) (0 : Int) (1 : Int)).fst.snd.fst, SC.sl I6.sl (enqM ([(4 : I6.den)], [(-1 : I6.den)], [[(3 : I6.den)]], [], ()) (0 : Int) (1 : Int)).fst.snd.snd.fst, SC.sl I6 (enqM ([(4 : I6.den)], [(-1 : I6.den)], [[(3 : I6.den)]], [], ()) (0 : Int) (1 : Int)).fst.snd.snd.snd.fst])] = [(([] : Go.Eng.Gd), Res.blk (31 : TypeId) [SC.sl I6 [(4 : I6.den)], SC.sl I6 [(-1 : I6.den)], SC.sl I6.sl [[]], SC.sl I6 []]), (([] : Go.Eng.Gd), Res.blk (31 : TypeId) [SC.sl I6 [(4 : I6.den)], SC.sl I6 [(-1 : I6.den)], SC.sl I6.sl [[(3 : I6.den)]], SC.sl I6 []]), (([] : Go.Eng.Gd), Res.blk (31 : TypeId) [SC.sl I6 [(4 : I6.den)], SC.sl I6 [(-1 : I6.den)], SC.sl I6.sl [[(3 : I6.den), (1 : I6.den)]], SC.sl I6 []])]) ∧ ∀ (v : Nat), v = (0 : Nat) → (bndM ([(4 : I6.den)], [(-1 : I6.den)], [[(3 : I6.den), (1 : I6.den)]], [], ()) ∧ ∃ v, v = (0 : Nat) ∧ (SV.c (SC.own (3 : Nat) (0 : Nat)) = SV.c (SC.own (3 : Nat) (0 : Nat)) ∧ SV.c (SC.v (Value.int IntKind.i64 (wkM ([(4 : I6.den)], [(-1 : I6.den)], [[(3 : I6.den), (1 : I6.den)]], [], ()) (0 : Int) (1 : Int)).snd.fst)) = SV.c (SC.v (Value.int IntKind.i64 (1 : Int))) ∧ SV.c (SC.v (Value.int IntKind.i64 (wkM ([(4 : I6.den)], [(-1 : I6.den)], [[(3 : I6.den), (1 : I6.den)]], [], ()) (0 : Int) (1 : Int)).snd.snd)) = SV.c (SC.v (Value.int IntKind.i64 (0 : Int))) ∧ True) ∧ [(([] : Go.Eng.Gd), Res.blk (31 : TypeId) [SC.sl I6 [(4 : I6.den)], SC.sl I6 [(-1 : I6.den)], SC.sl I6.sl [[]], SC.sl I6 []]), (([] : Go.Eng.Gd), Res.blk (31 : TypeId) [SC.sl I6 [(4 : I6.den)], SC.sl I6 [(-1 : I6.den)], SC.sl I6.sl [[(3 : I6.den)]], SC.sl I6 []]), (([] : Go.Eng.Gd), Res.blk (31 : TypeId) [SC.sl I6 [(4 : I6.den)], SC.sl I6 [(-1 : I6.den)], SC.sl I6.sl [[(3 : I6.den), (1 : I6.den)]], SC.sl I6 []]), (([] : Go.Eng.Gd), Res.blk (31 : Nat) [SC.sl I6 (wkM ([(4 : I6.den)], [(-1 : I6.den)], [[(3 : I6.den), (1 : I6.den)]], [], ()) (0 : Int) (1 : Int)).fst.fst, SC.sl I6 (wkM ([(4 : I6.den)], [(-1 : I6.den)], [[(3 : I6.den), (1 : I6.den)]], [], ()) (0 : Int) (1 : Int)).fst.snd.fst, SC.sl I6.sl (wkM ([(4 : I6.den)], [(-1 : I6.den)], [[(3 : I6.den), (1 : I6.den)]], [], ()) (0 : Int) (1 : Int)).fst.snd.snd.fst, SC.sl I6 (wkM ([(4 : I6.den)], [(-1 : I6.den)], [[(3 : I6.den), (1 : I6.den)]], [], ()) (0 : Int) (1 : Int)).fst.snd.snd.snd.fst])] = [(([] : Go.Eng.Gd), Res.blk (31 : TypeId) [SC.sl I6 [(4 : I6.den)], SC.sl I6 [(-1 : I6.den)], SC.sl I6.sl [[]], SC.sl I6 []]), (([] : Go.Eng.Gd), Res.blk (31 : TypeId) [SC.sl I6 [(4 : I6.den)], SC.sl I6 [(-1 : I6.den)], SC.sl I6.sl [[(3 : I6.den)]], SC.sl I6 []]), (([] : Go.Eng.Gd), Res.blk (31 : TypeId) [SC.sl I6 [(4 : I6.den)], SC.sl I6 [(-1 : I6.den)], SC.sl I6.sl [[(3 : I6.den), (1 : I6.den)]], SC.sl I6 []]), (([] : Go.Eng.Gd), Res.blk (31 : TypeId) [SC.sl I6 [(4 : I6.den)], SC.sl I6 [(-1 : I6.den)], SC.sl I6.sl [[(1 : I6.den)]], SC.sl I6 [(3 : I6.den)]])]) ∧ ∀ (v : Nat), v = (0 : Nat) → (bndM ([(4 : I6.den)], [(-1 : I6.den)], [[(1 : I6.den)]], [(3 : I6.den)], ()) ∧ ∃ v, v = (0 : Nat) ∧ (SV.c (SC.own (4 : Nat) (0 : Nat)) = SV.c (SC.own (4 : Nat) (0 : Nat)) ∧ SV.c (SC.v (Value.int IntKind.i64 (wakeM ([(4 : I6.den)], [(-1 : I6.den)], [[(1 : I6.den)]], [(3 : I6.den)], ()) (1 : Int)).snd)) = SV.c (SC.v (Value.int IntKind.i64 (30 : Int))) ∧ True) ∧ [(([] : Go.Eng.Gd), Res.blk (31 : TypeId) [SC.sl I6 [(4 : I6.den)], SC.sl I6 [(-1 : I6.den)], SC.sl I6.sl [[]], SC.sl I6 []]), (([] : Go.Eng.Gd), Res.blk (31 : TypeId) [SC.sl I6 [(4 : I6.den)], SC.sl I6 [(-1 : I6.den)], SC.sl I6.sl [[(3 : I6.den)]], SC.sl I6 []]), (([] : Go.Eng.Gd), Res.blk (31 : TypeId) [SC.sl I6 [(4 : I6.den)], SC.sl I6 [(-1 : I6.den)], SC.sl I6.sl [[(3 : I6.den), (1 : I6.den)]], SC.sl I6 []]), (([] : Go.Eng.Gd), Res.blk (31 : TypeId) [SC.sl I6 [(4 : I6.den)], SC.sl I6 [(-1 : I6.den)], SC.sl I6.sl [[(1 : I6.den)]], SC.sl I6 [(3 : I6.den)]]), (([] : Go.Eng.Gd), Res.blk (31 : Nat) [SC.sl I6 (wakeM ([(4 : I6.den)], [(-1 : I6.den)], [[(1 : I6.den)]], [(3 : I6.den)], ()) (1 : Int)).fst.fst, SC.sl I6 (wakeM ([(4 : I6.den)], [(-1 : I6.den)], [[(1 : I6.den)]], [(3 : I6.den)], ()) (1 : Int)).fst.snd.fst, SC.sl I6.sl (wakeM ([(4 : I6.den)], [(-1 : I6.den)], [[(1 : I6.den)]], [(3 : I6.den)], ()) (1 : Int)).fst.snd.snd.fst, SC.sl I6 (wakeM ([(4 : I6.den)], [(-1 : I6.den)], [[(1 : I6.den)]], [(3 : I6.den)], ()) (1 : Int)).fst.snd.snd.snd.fst])] = [(([] : Go.Eng.Gd), Res.blk (31 : TypeId) [SC.sl I6 [(4 : I6.den)], SC.sl I6 [(-1 : I6.den)], SC.sl I6.sl [[]], SC.sl I6 []]), (([] : Go.Eng.Gd), Res.blk (31 : TypeId) [SC.sl I6 [(4 : I6.den)], SC.sl I6 [(-1 : I6.den)], SC.sl I6.sl [[(3 : I6.den)]], SC.sl I6 []]), (([] : Go.Eng.Gd), Res.blk (31 : TypeId) [SC.sl I6 [(4 : I6.den)], SC.sl I6 [(-1 : I6.den)], SC.sl I6.sl [[(3 : I6.den), (1 : I6.den)]], SC.sl I6 []]), (([] : Go.Eng.Gd), Res.blk (31 : TypeId) [SC.sl I6 [(4 : I6.den)], SC.sl I6 [(-1 : I6.den)], SC.sl I6.sl [[(1 : I6.den)]], SC.sl I6 [(3 : I6.den)]]), (([] : Go.Eng.Gd), Res.blk (31 : TypeId) [SC.sl I6 [], SC.sl I6 [], SC.sl I6.sl [], SC.sl I6 []])]) ∧ ∀ (v : Nat), v = (0 : Nat) → (bndM ([(4 : I6.den)], [(-1 : I6.den)], [[(1 : I6.den)]], [(3 : I6.den)], ()) ∧ ∃ v, v = (0 : Nat) ∧ (SV.c (SC.own (5 : Nat) (0 : Nat)) = SV.c (SC.own (5 : Nat) (0 : Nat)) ∧ SV.c (SC.v (Value.int IntKind.i64 (wakeM ([(4 : I6.den)], [(-1 : I6.den)], [[(1 : I6.den)]], [(3 : I6.den)], ()) (3 : Int)).snd)) = SV.c (SC.v (Value.int IntKind.i64 (0 : Int))) ∧ True) ∧ [(([] : Go.Eng.Gd), Res.blk (31 : TypeId) [SC.sl I6 [(4 : I6.den)], SC.sl I6 [(-1 : I6.den)], SC.sl I6.sl [[]], SC.sl I6 []]), (([] : Go.Eng.Gd), Res.blk (31 : TypeId) [SC.sl I6 [(4 : I6.den)], SC.sl I6 [(-1 : I6.den)], SC.sl I6.sl [[(3 : I6.den)]], SC.sl I6 []]), (([] : Go.Eng.Gd), Res.blk (31 : TypeId) [SC.sl I6 [(4 : I6.den)], SC.sl I6 [(-1 : I6.den)], SC.sl I6.sl [[(3 : I6.den), (1 : I6.den)]], SC.sl I6 []]), (([] : Go.Eng.Gd), Res.blk (31 : TypeId) [SC.sl I6 [(4 : I6.den)], SC.sl I6 [(-1 : I6.den)], SC.sl I6.sl [[(1 : I6.den)]], SC.sl I6 [(3 : I6.den)]]), (([] : Go.Eng.Gd), Res.blk (31 : TypeId) [SC.sl I6 [], SC.sl I6 [], SC.sl I6.sl [], SC.sl I6 []]), (([] : Go.Eng.Gd), Res.blk (31 : Nat) [SC.sl I6 (wakeM ([(4 : I6.den)], [(-1 : I6.den)], [[(1 : I6.den)]], [(3 : I6.den)], ()) (3 : Int)).fst.fst, SC.sl I6 (wakeM ([(4 : I6.den)], [(-1 : I6.den)], [[(1 : I6.den)]], [(3 : I6.den)], ()) (3 : Int)).fst.snd.fst, SC.sl I6.sl (wakeM ([(4 : I6.den)], [(-1 : I6.den)], [[(1 : I6.den)]], [(3 : I6.den)], ()) (3 : Int)).fst.snd.snd.fst, SC.sl I6 (wakeM ([(4 : I6.den)], [(-1 : I6.den)], [[(1 : I6.den)]], [(3 : I6.den)], ()) (3 : Int)).fst.snd.snd.snd.fst])] = [(([] : Go.Eng.Gd), Res.blk (31 : TypeId) [SC.sl I6 [(4 : I6.den)], SC.sl I6 [(-1 : I6.den)], SC.sl I6.sl [[]], SC.sl I6 []]), (([] : Go.Eng.Gd), Res.blk (31 : TypeId) [SC.sl I6 [(4 : I6.den)], SC.sl I6 [(-1 : I6.den)], SC.sl I6.sl [[(3 : I6.den)]], SC.sl I6 []]), (([] : Go.Eng.Gd), Res.blk (31 : TypeId) [SC.sl I6 [(4 : I6.den)], SC.sl I6 [(-1 : I6.den)], SC.sl I6.sl [[(3 : I6.den), (1 : I6.den)]], SC.sl I6 []]), (([] : Go.Eng.Gd), Res.blk (31 : TypeId) [SC.sl I6 [(4 : I6.den)], SC.sl I6 [(-1 : I6.den)], SC.sl I6.sl [[(1 : I6.den)]], SC.sl I6 [(3 : I6.den)]]), (([] : Go.Eng.Gd), Res.blk (31 : TypeId) [SC.sl I6 [], SC.sl I6 [], SC.sl I6.sl [], SC.sl I6 []]), (([] : Go.Eng.Gd), Res.blk (31 : TypeId) [SC.sl I6 [(4 : I6.den)], SC.sl I6 [(-1 : I6.den)], SC.sl I6.sl [[(1 : I6.den)]], SC.sl I6 []])]) ∧ ∀ (v : Nat), v = (0 : Nat) → (bndM ([(4 : I6.den)], [(-1 : I6.den)], [[(1 : I6.den)]], [], ()) ∧ ∃ v, v = ([(4 : Int)], [(-1 : Int)], [[(1 : Int)]], [], ()) ∧ (SV.c (SC.v (Value.int IntKind.i64 (readM ([(4 : I6.den)], [(-1 : I6.den)], [[(1 : I6.den)]], [], ()) (0 : Int)).fst)) = SV.c (SC.v (Value.int IntKind.i64 (4 : Int))) ∧ SV.c (SC.v (Value.int IntKind.i64 (readM ([(4 : I6.den)], [(-1 : I6.den)], [[(1 : I6.den)]], [], ()) (0 : Int)).snd)) = SV.c (SC.v (Value.int IntKind.i64 (0 : Int))) ∧ True) ∧ [(([] : Go.Eng.Gd), Res.blk (31 : TypeId) [SC.sl I6 [(4 : I6.den)], SC.sl I6 [(-1 : I6.den)], SC.sl I6.sl [[]], SC.sl I6 []]), (([] : Go.Eng.Gd), Res.blk (31 : TypeId) [SC.sl I6 [(4 : I6.den)], SC.sl I6 [(-1 : I6.den)], SC.sl I6.sl [[(3 : I6.den)]], SC.sl I6 []]), (([] : Go.Eng.Gd), Res.blk (31 : TypeId) [SC.sl I6 [(4 : I6.den)], SC.sl I6 [(-1 : I6.den)], SC.sl I6.sl [[(3 : I6.den), (1 : I6.den)]], SC.sl I6 []]), (([] : Go.Eng.Gd), Res.blk (31 : TypeId) [SC.sl I6 [(4 : I6.den)], SC.sl I6 [(-1 : I6.den)], SC.sl I6.sl [[(1 : I6.den)]], SC.sl I6 [(3 : I6.den)]]), (([] : Go.Eng.Gd), Res.blk (31 : TypeId) [SC.sl I6 [], SC.sl I6 [], SC.sl I6.sl [], SC.sl I6 []]), (([] : Go.Eng.Gd), Res.blk (31 : TypeId) [SC.sl I6 [(4 : I6.den)], SC.sl I6 [(-1 : I6.den)], SC.sl I6.sl [[(1 : I6.den)]], SC.sl I6 []])] = [(([] : Go.Eng.Gd), Res.blk (31 : TypeId) [SC.sl I6 [(4 : I6.den)], SC.sl I6 [(-1 : I6.den)], SC.sl I6.sl [[]], SC.sl I6 []]), (([] : Go.Eng.Gd), Res.blk (31 : TypeId) [SC.sl I6 [(4 : I6.den)], SC.sl I6 [(-1 : I6.den)], SC.sl I6.sl [[(3 : I6.den)]], SC.sl I6 []]), (([] : Go.Eng.Gd), Res.blk (31 : TypeId) [SC.sl I6 [(4 : I6.den)], SC.sl I6 [(-1 : I6.den)], SC.sl I6.sl [[(3 : I6.den), (1 : I6.den)]], SC.sl I6 []]), (([] : Go.Eng.Gd), Res.blk (31 : TypeId) [SC.sl I6 [(4 : I6.den)], SC.sl I6 [(-1 : I6.den)], SC.sl I6.sl [[(1 : I6.den)]], SC.sl I6 [(3 : I6.den)]]), (([] : Go.Eng.Gd), Res.blk (31 : TypeId) [SC.sl I6 [], SC.sl I6 [], SC.sl I6.sl [], SC.sl I6 []]), (([] : Go.Eng.Gd), Res.blk (31 : TypeId) [SC.sl I6 v.fst, SC.sl I6 v.snd.fst, SC.sl I6.sl v.snd.snd.fst, SC.sl I6 v.snd.snd.snd.fst])]) ∧ ∀ (v : List Int × List Int × List (List Int) × List Int × Unit), v = ([(4 : Int)], [(-1 : Int)], [[(1 : Int)]], [], ()) → (true = true → bndM v) ∧ ((true && freeM v (0 : Int)) = true → (0 : Int) ≤ (0 : Int) ∧ (0 : Int) < (↑v.snd.snd.fst.length : Int)) ∧ ∀ (d : List I6.den), ((true && freeM v (0 : Int)) = true → v.snd.snd.fst[(0 : Nat)]? = some d) → ((true && freeM v (0 : Int)) = true → d.length ≤ (4611686018427387904 : Nat)) ∧ ([] : List Go.Eng.Res) = [] ∧ Ent.one (SV.c (SC.v (Value.bool true))) = Ent.one (SV.c (SC.v (Value.bool (true && freeM v (0 : Int) && decide (d = [(1 : Int)]) && decide ((↑v.snd.snd.snd.fst.length : Int) = (0 : Int)))))) := by
  refine ⟨⟨trivial, ⟨by decide, by decide, by decide, by decide, by decide, fun x hx => ?_, by decide⟩, 0, rfl, ⟨rfl, rfl, trivial⟩, rfl⟩, fun _ _ => ?_⟩
  · rw [List.mem_singleton] at hx; subst hx; exact Nat.zero_le _
  refine ⟨⟨bd0, 0, rfl, ⟨rfl, by rw [ex1], trivial⟩, by rw [ex1]⟩, fun _ _ => ?_⟩
  refine ⟨⟨bd1, 0, rfl, ⟨rfl, by rw [ex2], trivial⟩, by rw [ex2]⟩, fun _ _ => ?_⟩
  refine ⟨⟨bd2, 0, rfl, ⟨rfl, by rw [ex3], by rw [ex3], trivial⟩, by rw [ex3]⟩, fun _ _ => ?_⟩
  refine ⟨⟨bd3, 0, rfl, ⟨rfl, by rw [ex4], trivial⟩, by rw [ex4]; rfl⟩, fun _ _ => ?_⟩
  refine ⟨⟨bd3, 0, rfl, ⟨rfl, by rw [ex5], trivial⟩, by rw [ex5]⟩, fun _ _ => ?_⟩
  refine ⟨⟨bd4, _, rfl, ⟨by rw [ex6], by rw [ex6], trivial⟩, rfl⟩, fun m hm => ?_⟩
  subst hm
  refine ⟨fun _ => bd4, fun _ => by decide, fun d hd => ?_⟩
  have e7 : (true && freeM ([4], [-1], [[1]], [], ()) 0) = true := ex7
  have hd : ([[1]] : List (List Int))[0]? = some d := hd e7
  cases hd
  exact ⟨fun _ => by decide, rfl, by rw [e7]; rfl⟩
set_option maxHeartbeats 2000000 in
set_option maxRecDepth 100000 in
theorem f12_met : Go.Eng.Met Tryd.prog cx0.gd 12 ctExa :=
  (met_all (cx := cx0) (n := 102) (cl := cl12) (il := il12) (hl := hl12) (ml := ml12) (rc := []) (lits := []) (suf := []) (by kernel_rfl) tis_ok ⟨f43_met, f13_met, f18_met, f20_met, f24_met, f26_met, f34_met, f41_met, trivial⟩ trivial trivial trivial Tryd.func12 (by kernel_rfl) (by kernel_rfl) rfl (by kernel_rfl) (by kernel_rfl) (by simp) fun d hd => by
    obtain ⟨⟩ := d
    exact ex_of (ann12 ) (f12_vc ) (by kernel_rfl)).met
end Go.Proofs.YtkgjfkdcnoockaaDoor
set_option linter.unusedSimpArgs false
set_option linter.unusedVariables false
set_option maxRecDepth 100000
namespace Go.Proofs.YtkgjfkdcnoockaaDoor
open Go Go.Eng

theorem few_bnd {m : MD} (h : fewM m = true) : bndM m := by
  obtain ⟨vs, os, qs, sg, ⟨⟩⟩ := m
  unfold fewM at h
  simp only [Bool.and_eq_true, List.all_eq_true, decide_eq_true_eq] at h
  obtain ⟨⟨⟨⟨h1, h2⟩, h3⟩, h4⟩, h5⟩ := h
  refine ⟨by show vs.length ≤ 1000; omega, by show os.length ≤ 1000; omega, by show qs.length ≤ 1000; omega, by show sg.length ≤ 1000; omega, fun q hq => by have := h5 q hq; omega, ?_⟩
  have key : ∀ l : List (List Int), (∀ q ∈ l, q.length ≤ 60) → l.flatten.length ≤ 60 * l.length := by
    intro l
    induction l with
    | nil => intro _; simp
    | cons a l ih =>
      intro hl
      have := ih fun q hq => hl q (by simp [hq])
      have := hl a (by simp)
      simp only [List.flatten_cons, List.length_append, List.length_cons]; omega
  have := key qs h5
  show qs.flatten.length ≤ 100000
  omega
theorem write_bnd {m : MD} {x v : Int} (h : bndM m) : bndM (writeM m x v).1 := by
  obtain ⟨vs, os, qs, sg, ⟨⟩⟩ := m
  unfold writeM
  have z : bndM zM := ⟨by decide, by decide, by decide, by decide, by decide, by decide⟩
  split
  · split
    · exact ⟨by have := h.1; simpa using this, h.2⟩
    · exact z
  · exact z
theorem own_bnd {m : MD} {i id frm to : Int} (h : bndM m) : bndM (ownM m i id frm to).1 := by
  obtain ⟨vs, os, qs, sg, ⟨⟩⟩ := m
  unfold ownM
  have z : bndM zM := ⟨by decide, by decide, by decide, by decide, by decide, by decide⟩
  split
  · split
    · exact z
    · split
      · exact ⟨h.1, by have := h.2.1; simpa using this, h.2.2⟩
      · exact z
  · exact z
@[reducible] def ctL5 : CT := { ps := [shM, .int .i64, .int .i64], pre := fun d => True, res := fun d => ([], vB (true)) }
@[reducible] noncomputable def cl5 : List (Nat × CT) := [(11, ctFew), (12, ctExa), (26, ctRd), (27, ctRd), (28, ctWr), (29, ctWr), (15, ctEq21)]
@[reducible] def ann5 (vs : List Int) (os : List Int) (qs : List (List Int)) (sg : List Int) (x : Int) (v : Int) : Nat → Option (St → Ann) := fun _ => none
@[reducible] def il5 : List (Nat × IP) := []
@[reducible] def hl5 : List (Nat × Nat × CT) := []
@[reducible] noncomputable def ml5 : List (Nat × MK) := []
set_option maxRecDepth 100000 in
theorem f5_vc (vs : List Int) (os : List Int) (qs : List (List Int)) (sg : List Int) (x : Int) (v : Int) :
    True ∧ br (!fewM (vs, os, qs, sg, ())) (True ∧ ([] : List Go.Eng.Res) = [] ∧ Ent.one (SV.c (SC.v (Value.bool true))) = Ent.one (SV.c (SC.v (Value.bool true)))) (bndM (vs, os, qs, sg, ()) ∧ bndM (vs, os, qs, sg, ()) ∧ bndM (vs, os, qs, sg, ()) ∧ bndM (vs, os, qs, sg, ()) ∧ ((decide ((readM (vs, os, qs, sg, ()) x).fst = (readM (vs, os, qs, sg, ()) x).fst) && decide ((readM (vs, os, qs, sg, ()) x).snd = (readM (vs, os, qs, sg, ()) x).snd) && decide ((writeM (vs, os, qs, sg, ()) x v).snd = (writeM (vs, os, qs, sg, ()) x v).snd)) = true → bndM ((writeM (vs, os, qs, sg, ()) x v).fst.fst, (writeM (vs, os, qs, sg, ()) x v).fst.snd.fst, (writeM (vs, os, qs, sg, ()) x v).fst.snd.snd.fst, (writeM (vs, os, qs, sg, ()) x v).fst.snd.snd.snd.fst, ())) ∧ ((decide ((readM (vs, os, qs, sg, ()) x).fst = (readM (vs, os, qs, sg, ()) x).fst) && decide ((readM (vs, os, qs, sg, ()) x).snd = (readM (vs, os, qs, sg, ()) x).snd) && decide ((writeM (vs, os, qs, sg, ()) x v).snd = (writeM (vs, os, qs, sg, ()) x v).snd) && decide (((writeM (vs, os, qs, sg, ()) x v).fst.fst, (writeM (vs, os, qs, sg, ()) x v).fst.snd.fst, (writeM (vs, os, qs, sg, ()) x v).fst.snd.snd.fst, (writeM (vs, os, qs, sg, ()) x v).fst.snd.snd.snd.fst, ()) = ((writeM (vs, os, qs, sg, ()) x v).fst.fst, (writeM (vs, os, qs, sg, ()) x v).fst.snd.fst, (writeM (vs, os, qs, sg, ()) x v).fst.snd.snd.fst, (writeM (vs, os, qs, sg, ()) x v).fst.snd.snd.snd.fst, ()))) = true → True) ∧ ([] : List Go.Eng.Res) = [] ∧ Ent.one (SV.c (SC.v (Value.bool true))) = Ent.one (SV.c (SC.v (Value.bool (decide ((readM (vs, os, qs, sg, ()) x).fst = (readM (vs, os, qs, sg, ()) x).fst) && decide ((readM (vs, os, qs, sg, ()) x).snd = (readM (vs, os, qs, sg, ()) x).snd) && decide ((writeM (vs, os, qs, sg, ()) x v).snd = (writeM (vs, os, qs, sg, ()) x v).snd) && decide (((writeM (vs, os, qs, sg, ()) x v).fst.fst, (writeM (vs, os, qs, sg, ()) x v).fst.snd.fst, (writeM (vs, os, qs, sg, ()) x v).fst.snd.snd.fst, (writeM (vs, os, qs, sg, ()) x v).fst.snd.snd.snd.fst, ()) = ((writeM (vs, os, qs, sg, ()) x v).fst.fst, (writeM (vs, os, qs, sg, ()) x v).fst.snd.fst, (writeM (vs, os, qs, sg, ()) x v).fst.snd.snd.fst, (writeM (vs, os, qs, sg, ()) x v).fst.snd.snd.snd.fst, ())) && true))))) := by
  refine ⟨trivial, br_iff.2 ⟨fun _ => ⟨trivial, rfl, rfl⟩, fun h => ?_⟩⟩
  have hb : bndM (vs, os, qs, sg, ()) := few_bnd (by simpa using h)
  refine ⟨hb, hb, hb, hb, fun _ => write_bnd hb, fun _ => trivial, rfl, ?_⟩
  simp
set_option maxHeartbeats 2000000 in
set_option maxRecDepth 100000 in
theorem f5_met : Go.Eng.Met Tryd.prog cx0.gd 5 ctL5 :=
  (met_all (cx := cx0) (n := 66) (cl := cl5) (il := il5) (hl := hl5) (ml := ml5) (rc := []) (lits := []) (suf := []) (by kernel_rfl) tis_ok ⟨f11_met, f12_met, f26_met, f27_met, f28_met, f29_met, f15_met, trivial⟩ trivial trivial trivial Tryd.func5 (by kernel_rfl) (by kernel_rfl) rfl (by kernel_rfl) (by kernel_rfl) (by simp) fun d hd => by
    obtain ⟨⟨vs, os, qs, sg, ⟨⟩⟩, x, v, ⟨⟩⟩ := d
    exact ex_of (ann5 vs os qs sg x v) (f5_vc vs os qs sg x v) (by kernel_rfl)).met
@[reducible] def ctL6 : CT := { ps := [shM, .int .i64, .int .i64], pre := fun d => True, res := fun d => ([], vB (true)) }
@[reducible] noncomputable def cl6 : List (Nat × CT) := [(11, ctFew), (12, ctExa), (30, ctAcq), (31, ctAcq), (32, ctRel), (33, ctRel), (34, ctFr), (35, ctFr), (15, ctEq21)]
@[reducible] def ann6 (vs : List Int) (os : List Int) (qs : List (List Int)) (sg : List Int) (i : Int) (id : Int) : Nat → Option (St → Ann) := fun _ => none
@[reducible] def il6 : List (Nat × IP) := []
@[reducible] def hl6 : List (Nat × Nat × CT) := []
@[reducible] noncomputable def ml6 : List (Nat × MK) := []
set_option maxRecDepth 100000 in
theorem f6_vc (vs : List Int) (os : List Int) (qs : List (List Int)) (sg : List Int) (i : Int) (id : Int) :
    True ∧ br (!fewM (vs, os, qs, sg, ())) (True ∧ ([] : List Go.Eng.Res) = [] ∧ Ent.one (SV.c (SC.v (Value.bool true))) = Ent.one (SV.c (SC.v (Value.bool true)))) (bndM (vs, os, qs, sg, ()) ∧ bndM (vs, os, qs, sg, ()) ∧ bndM (vs, os, qs, sg, ()) ∧ bndM (vs, os, qs, sg, ()) ∧ bndM (vs, os, qs, sg, ()) ∧ bndM (vs, os, qs, sg, ()) ∧ ((freeM (vs, os, qs, sg, ()) i == freeM (vs, os, qs, sg, ()) i && decide ((ownM (vs, os, qs, sg, ()) i id (-1 : Int) id).snd = (ownM (vs, os, qs, sg, ()) i id (-1 : Int) id).snd) && decide ((ownM (vs, os, qs, sg, ()) i id id (-1 : Int)).snd = (ownM (vs, os, qs, sg, ()) i id id (-1 : Int)).snd)) = true → bndM ((ownM (vs, os, qs, sg, ()) i id (-1 : Int) id).fst.fst, (ownM (vs, os, qs, sg, ()) i id (-1 : Int) id).fst.snd.fst, (ownM (vs, os, qs, sg, ()) i id (-1 : Int) id).fst.snd.snd.fst, (ownM (vs, os, qs, sg, ()) i id (-1 : Int) id).fst.snd.snd.snd.fst, ())) ∧ ((freeM (vs, os, qs, sg, ()) i == freeM (vs, os, qs, sg, ()) i && decide ((ownM (vs, os, qs, sg, ()) i id (-1 : Int) id).snd = (ownM (vs, os, qs, sg, ()) i id (-1 : Int) id).snd) && decide ((ownM (vs, os, qs, sg, ()) i id id (-1 : Int)).snd = (ownM (vs, os, qs, sg, ()) i id id (-1 : Int)).snd) && decide (((ownM (vs, os, qs, sg, ()) i id (-1 : Int) id).fst.fst, (ownM (vs, os, qs, sg, ()) i id (-1 : Int) id).fst.snd.fst, (ownM (vs, os, qs, sg, ()) i id (-1 : Int) id).fst.snd.snd.fst, (ownM (vs, os, qs, sg, ()) i id (-1 : Int) id).fst.snd.snd.snd.fst, ()) = ((ownM (vs, os, qs, sg, ()) i id (-1 : Int) id).fst.fst, (ownM (vs, os, qs, sg, ()) i id (-1 : Int) id).fst.snd.fst, (ownM (vs, os, qs, sg, ()) i id (-1 : Int) id).fst.snd.snd.fst, (ownM (vs, os, qs, sg, ()) i id (-1 : Int) id).fst.snd.snd.snd.fst, ()))) = true → bndM ((ownM (vs, os, qs, sg, ()) i id id (-1 : Int)).fst.fst, (ownM (vs, os, qs, sg, ()) i id id (-1 : Int)).fst.snd.fst, (ownM (vs, os, qs, sg, ()) i id id (-1 : Int)).fst.snd.snd.fst, (ownM (vs, os, qs, sg, ()) i id id (-1 : Int)).fst.snd.snd.snd.fst, ())) ∧ ((freeM (vs, os, qs, sg, ()) i == freeM (vs, os, qs, sg, ()) i && decide ((ownM (vs, os, qs, sg, ()) i id (-1 : Int) id).snd = (ownM (vs, os, qs, sg, ()) i id (-1 : Int) id).snd) && decide ((ownM (vs, os, qs, sg, ()) i id id (-1 : Int)).snd = (ownM (vs, os, qs, sg, ()) i id id (-1 : Int)).snd) && decide (((ownM (vs, os, qs, sg, ()) i id (-1 : Int) id).fst.fst, (ownM (vs, os, qs, sg, ()) i id (-1 : Int) id).fst.snd.fst, (ownM (vs, os, qs, sg, ()) i id (-1 : Int) id).fst.snd.snd.fst, (ownM (vs, os, qs, sg, ()) i id (-1 : Int) id).fst.snd.snd.snd.fst, ()) = ((ownM (vs, os, qs, sg, ()) i id (-1 : Int) id).fst.fst, (ownM (vs, os, qs, sg, ()) i id (-1 : Int) id).fst.snd.fst, (ownM (vs, os, qs, sg, ()) i id (-1 : Int) id).fst.snd.snd.fst, (ownM (vs, os, qs, sg, ()) i id (-1 : Int) id).fst.snd.snd.snd.fst, ())) && decide (((ownM (vs, os, qs, sg, ()) i id id (-1 : Int)).fst.fst, (ownM (vs, os, qs, sg, ()) i id id (-1 : Int)).fst.snd.fst, (ownM (vs, os, qs, sg, ()) i id id (-1 : Int)).fst.snd.snd.fst, (ownM (vs, os, qs, sg, ()) i id id (-1 : Int)).fst.snd.snd.snd.fst, ()) = ((ownM (vs, os, qs, sg, ()) i id id (-1 : Int)).fst.fst, (ownM (vs, os, qs, sg, ()) i id id (-1 : Int)).fst.snd.fst, (ownM (vs, os, qs, sg, ()) i id id (-1 : Int)).fst.snd.snd.fst, (ownM (vs, os, qs, sg, ()) i id id (-1 : Int)).fst.snd.snd.snd.fst, ()))) = true → True) ∧ ([] : List Go.Eng.Res) = [] ∧ Ent.one (SV.c (SC.v (Value.bool true))) = Ent.one (SV.c (SC.v (Value.bool (freeM (vs, os, qs, sg, ()) i == freeM (vs, os, qs, sg, ()) i && decide ((ownM (vs, os, qs, sg, ()) i id (-1 : Int) id).snd = (ownM (vs, os, qs, sg, ()) i id (-1 : Int) id).snd) && decide ((ownM (vs, os, qs, sg, ()) i id id (-1 : Int)).snd = (ownM (vs, os, qs, sg, ()) i id id (-1 : Int)).snd) && decide (((ownM (vs, os, qs, sg, ()) i id (-1 : Int) id).fst.fst, (ownM (vs, os, qs, sg, ()) i id (-1 : Int) id).fst.snd.fst, (ownM (vs, os, qs, sg, ()) i id (-1 : Int) id).fst.snd.snd.fst, (ownM (vs, os, qs, sg, ()) i id (-1 : Int) id).fst.snd.snd.snd.fst, ()) = ((ownM (vs, os, qs, sg, ()) i id (-1 : Int) id).fst.fst, (ownM (vs, os, qs, sg, ()) i id (-1 : Int) id).fst.snd.fst, (ownM (vs, os, qs, sg, ()) i id (-1 : Int) id).fst.snd.snd.fst, (ownM (vs, os, qs, sg, ()) i id (-1 : Int) id).fst.snd.snd.snd.fst, ())) && decide (((ownM (vs, os, qs, sg, ()) i id id (-1 : Int)).fst.fst, (ownM (vs, os, qs, sg, ()) i id id (-1 : Int)).fst.snd.fst, (ownM (vs, os, qs, sg, ()) i id id (-1 : Int)).fst.snd.snd.fst, (ownM (vs, os, qs, sg, ()) i id id (-1 : Int)).fst.snd.snd.snd.fst, ()) = ((ownM (vs, os, qs, sg, ()) i id id (-1 : Int)).fst.fst, (ownM (vs, os, qs, sg, ()) i id id (-1 : Int)).fst.snd.fst, (ownM (vs, os, qs, sg, ()) i id id (-1 : Int)).fst.snd.snd.fst, (ownM (vs, os, qs, sg, ()) i id id (-1 : Int)).fst.snd.snd.snd.fst, ())) && true))))) := by
  refine ⟨trivial, br_iff.2 ⟨fun _ => ⟨trivial, rfl, rfl⟩, fun h => ?_⟩⟩
  have hb : bndM (vs, os, qs, sg, ()) := few_bnd (by simpa using h)
  refine ⟨hb, hb, hb, hb, hb, hb, fun _ => own_bnd hb, fun _ => own_bnd hb, fun _ => trivial, rfl, ?_⟩
  simp
set_option maxHeartbeats 2000000 in
set_option maxRecDepth 100000 in
theorem f6_met : Go.Eng.Met Tryd.prog cx0.gd 6 ctL6 :=
  (met_all (cx := cx0) (n := 77) (cl := cl6) (il := il6) (hl := hl6) (ml := ml6) (rc := []) (lits := []) (suf := []) (by kernel_rfl) tis_ok ⟨f11_met, f12_met, f30_met, f31_met, f32_met, f33_met, f34_met, f35_met, f15_met, trivial⟩ trivial trivial trivial Tryd.func6 (by kernel_rfl) (by kernel_rfl) rfl (by kernel_rfl) (by kernel_rfl) (by simp) fun d hd => by
    obtain ⟨⟨vs, os, qs, sg, ⟨⟩⟩, i, id, ⟨⟩⟩ := d
    exact ex_of (ann6 vs os qs sg i id) (f6_vc vs os qs sg i id) (by kernel_rfl)).met
end Go.Proofs.YtkgjfkdcnoockaaDoor
set_option linter.unusedSimpArgs false
set_option linter.unusedVariables false
set_option maxRecDepth 100000
namespace Go.Proofs.YtkgjfkdcnoockaaDoor
open Go Go.Eng

@[reducible] def cl62 : List (Nat × CT) := []
@[reducible] def ann62 (l : List Int) (m : List Int) : Nat → Option (St → Ann) := fun k => match k with
  | 4 => some fun _ => .inv { α := Nat, slots := fun k => [(13, .c (.v (.int .i64 k)))], res := fun k => [], inv := fun k => k ≤ (l).length ∧ ∀ j < k, l[j]? = m[j]?, meas := fun k => (l).length - k }
  | _ => none
@[reducible] def il62 : List (Nat × IP) := []
@[reducible] def hl62 : List (Nat × Nat × CT) := []
@[reducible] def ml62 : List (Nat × MK) := []
set_option maxRecDepth 100000 in
theorem f62_vc (l : List Int) (m : List Int) (hpre : ctSm21.pre (l, m, ())) :
    br (!decide ((↑l.length : Int) = (↑m.length : Int))) (([] : List Go.Eng.Res) = [] ∧ Ent.one (SV.c (SC.v (Value.bool (decide (l = m))))) = Ent.one (SV.c (SC.v (Value.bool false)))) ((∃ x, (x ≤ l.length ∧ ∀ (j : Nat), j < x → l[j]? = m[j]?) ∧ (SV.c (SC.v (Value.int IntKind.i64 (0 : Int))) = SV.c (SC.v (Value.int IntKind.i64 (↑x : Int))) ∧ True) ∧ ([] : List (Go.Eng.Gd × Go.Eng.Res)) = []) ∧ ∀ (x : Nat), (x ≤ l.length ∧ ∀ (j : Nat), j < x → l[j]? = m[j]?) → br (decide ((↑x : Int) < (↑l.length : Int))) (((0 : Int) ≤ (↑x : Int) ∧ (↑x : Int) < (↑l.length : Int)) ∧ ∀ (d : Int), l[(↑x : Int).toNat]? = some d → ((0 : Int) ≤ (↑x : Int) ∧ (↑x : Int) < (↑m.length : Int)) ∧ ∀ (d_1 : Int), m[(↑x : Int).toNat]? = some d_1 → br (!decide (d = d_1)) (([] : List Go.Eng.Res) = [] ∧ Ent.one (SV.c (SC.v (Value.bool (decide (l = m))))) = Ent.one (SV.c (SC.v (Value.bool false)))) (InR IntKind.i64 ((↑x : Int) + (1 : Int)) ∧ ∃ x', (x' ≤ l.length ∧ ∀ (j : Nat), j < x' → l[j]? = m[j]?) ∧ (SV.c (SC.v (Value.int IntKind.i64 ((↑x : Int) + (1 : Int)))) = SV.c (SC.v (Value.int IntKind.i64 (↑x' : Int))) ∧ True) ∧ ([] : List (Go.Eng.Gd × Go.Eng.Res)) = [] ∧ l.length - x' < l.length - x)) (([] : List Go.Eng.Res) = [] ∧ Ent.one (SV.c (SC.v (Value.bool (decide (l = m))))) = Ent.one (SV.c (SC.v (Value.bool true))))) := by
  have hp : l.length ≤ 1000000 := hpre
  have fF : l ≠ m → ([] : List Go.Eng.Res) = [] ∧ Ent.one (SV.c (SC.v (Value.bool (decide (l = m))))) = Ent.one (SV.c (SC.v (Value.bool false))) := fun q => ⟨rfl, by rw [decide_eq_false q]⟩
  refine br_iff.2 ⟨fun h => fF fun q => ?_, fun h => ?_⟩
  · subst q; simp at h
  simp only [Bool.not_eq_false', decide_eq_true_eq] at h
  refine ⟨⟨0, ⟨by omega, fun j hj => by omega⟩, ⟨rfl, trivial⟩, rfl⟩, fun k hk => br_iff.2 ⟨fun g => ?_, fun g => ?_⟩⟩
  · simp only [decide_eq_true_eq] at g
    refine ⟨⟨by omega, by omega⟩, fun d hd => ⟨⟨by omega, by omega⟩, fun d1 hd1 => br_iff.2 ⟨fun g2 => fF fun q => ?_, fun g2 => ⟨InR_i64.2 (by omega), k + 1, ⟨by omega, fun j hj => ?_⟩, ⟨rfl, trivial⟩, rfl, by omega⟩⟩⟩⟩
    · subst q
      rw [hd] at hd1; cases hd1
      simp at g2
    · by_cases hjk : j = k
      · subst hjk
        have hd : l[j]? = some d := hd
        have hd1 : m[j]? = some d1 := hd1
        simp at g2
        rw [hd, hd1, g2]
      · exact hk.2 j (by omega)
  simp only [decide_eq_false_iff_not] at g
  have e : l = m := by
    apply List.ext_getElem?
    intro j
    by_cases hj : j < k
    · exact hk.2 j hj
    · rw [List.getElem?_eq_none (by omega), List.getElem?_eq_none (by omega)]
  exact ⟨rfl, by rw [decide_eq_true e]⟩
set_option maxHeartbeats 2000000 in
set_option maxRecDepth 100000 in
theorem f62_met : Go.Eng.Met Tryd.prog cx0.gd 62 ctSm21 :=
  (met_all (cx := cx0) (n := 26) (cl := cl62) (il := il62) (hl := hl62) (ml := ml62) (rc := []) (lits := []) (suf := []) (by kernel_rfl) tis_ok trivial trivial trivial trivial Tryd.func62 (by kernel_rfl) (by kernel_rfl) rfl (by kernel_rfl) (by kernel_rfl) (by simp) fun d hd => by
    obtain ⟨l, m, ⟨⟩⟩ := d
    exact ex_of (ann62 l m) (f62_vc l m hd) (by kernel_rfl)).met
@[reducible] def cl64 : List (Nat × CT) := [(62, ctSm21)]
@[reducible] def ann64 (l : List Int) (m : List Int) : Nat → Option (St → Ann) := fun _ => none
@[reducible] def il64 : List (Nat × IP) := []
@[reducible] def hl64 : List (Nat × Nat × CT) := []
@[reducible] def ml64 : List (Nat × MK) := []
set_option maxRecDepth 100000 in
theorem f64_vc (l : List Int) (m : List Int) (hpre : ctSm21.pre (l, m, ())) :
    l.length ≤ (1000000 : Nat) ∧ ([] : List Go.Eng.Res) = [] ∧ Ent.one (SV.c (SC.v (Value.bool (decide (l = m))))) = Ent.one (SV.c (SC.v (Value.bool (decide (l = m))))) := by
  exact ⟨hpre, rfl, rfl⟩
set_option maxHeartbeats 2000000 in
set_option maxRecDepth 100000 in
theorem f64_met : Go.Eng.Met Tryd.prog cx0.gd 64 ctSm21 :=
  (met_all (cx := cx0) (n := 8) (cl := cl64) (il := il64) (hl := hl64) (ml := ml64) (rc := []) (lits := []) (suf := []) (by kernel_rfl) tis_ok ⟨f62_met, trivial⟩ trivial trivial trivial Tryd.func64 (by kernel_rfl) (by kernel_rfl) rfl (by kernel_rfl) (by kernel_rfl) (by simp) fun d hd => by
    obtain ⟨l, m, ⟨⟩⟩ := d
    exact ex_of (ann64 l m) (f64_vc l m hd) (by kernel_rfl)).met
@[reducible] def ctEqF : CT := { ps := [.sl (.sl (.int .i64)), .sl (.sl (.int .i64))], pre := fun d => d.1.length ≤ 1000000 ∧ ∀ q ∈ d.1, q.length ≤ 1000000, res := fun d => ([], vB (decide (d.1 = d.2.1))) }
@[reducible] def cl63 : List (Nat × CT) := [(64, ctSm21)]
@[reducible] def ann63 (l : List (List Int)) (m : List (List Int)) : Nat → Option (St → Ann) := fun k => match k with
  | 4 => some fun _ => .inv { α := Nat, slots := fun k => [(17, .c (.v (.int .i64 k)))], res := fun k => [], inv := fun k => k ≤ (l).length ∧ ∀ j < k, l[j]? = m[j]?, meas := fun k => (l).length - k }
  | _ => none
@[reducible] def il63 : List (Nat × IP) := []
@[reducible] def hl63 : List (Nat × Nat × CT) := []
@[reducible] def ml63 : List (Nat × MK) := []
set_option maxRecDepth 100000 in
theorem f63_vc (l : List (List Int)) (m : List (List Int)) (hpre : ctEqF.pre (l, m, ())) :
    br (!decide ((↑l.length : Int) = (↑m.length : Int))) (([] : List Go.Eng.Res) = [] ∧ Ent.one (SV.c (SC.v (Value.bool (decide (l = m))))) = Ent.one (SV.c (SC.v (Value.bool false)))) ((∃ x, (x ≤ l.length ∧ ∀ (j : Nat), j < x → l[j]? = m[j]?) ∧ (SV.c (SC.v (Value.int IntKind.i64 (0 : Int))) = SV.c (SC.v (Value.int IntKind.i64 (↑x : Int))) ∧ True) ∧ ([] : List (Go.Eng.Gd × Go.Eng.Res)) = []) ∧ ∀ (x : Nat), (x ≤ l.length ∧ ∀ (j : Nat), j < x → l[j]? = m[j]?) → br (decide ((↑x : Int) < (↑l.length : Int))) (((0 : Int) ≤ (↑x : Int) ∧ (↑x : Int) < (↑l.length : Int)) ∧ ∀ (d : List I6.den), l[(↑x : Int).toNat]? = some d → ((0 : Int) ≤ (↑x : Int) ∧ (↑x : Int) < (↑m.length : Int)) ∧ ∀ (d_1 : List I6.den), m[(↑x : Int).toNat]? = some d_1 → d.length ≤ (1000000 : Nat) ∧ br (!decide (d = d_1)) (([] : List Go.Eng.Res) = [] ∧ Ent.one (SV.c (SC.v (Value.bool (decide (l = m))))) = Ent.one (SV.c (SC.v (Value.bool false)))) (InR IntKind.i64 ((↑x : Int) + (1 : Int)) ∧ ∃ x', (x' ≤ l.length ∧ ∀ (j : Nat), j < x' → l[j]? = m[j]?) ∧ (SV.c (SC.v (Value.int IntKind.i64 ((↑x : Int) + (1 : Int)))) = SV.c (SC.v (Value.int IntKind.i64 (↑x' : Int))) ∧ True) ∧ ([] : List (Go.Eng.Gd × Go.Eng.Res)) = [] ∧ l.length - x' < l.length - x)) (([] : List Go.Eng.Res) = [] ∧ Ent.one (SV.c (SC.v (Value.bool (decide (l = m))))) = Ent.one (SV.c (SC.v (Value.bool true))))) := by
  obtain ⟨hp, h6⟩ : l.length ≤ 1000000 ∧ ∀ q ∈ l, q.length ≤ 1000000 := hpre
  have fF : l ≠ m → ([] : List Go.Eng.Res) = [] ∧ Ent.one (SV.c (SC.v (Value.bool (decide (l = m))))) = Ent.one (SV.c (SC.v (Value.bool false))) := fun q => ⟨rfl, by rw [decide_eq_false q]⟩
  refine br_iff.2 ⟨fun h => fF fun q => ?_, fun h => ?_⟩
  · subst q; simp at h
  simp only [Bool.not_eq_false', decide_eq_true_eq] at h
  refine ⟨⟨0, ⟨by omega, fun j hj => by omega⟩, ⟨rfl, trivial⟩, rfl⟩, fun k hk => br_iff.2 ⟨fun g => ?_, fun g => ?_⟩⟩
  · simp only [decide_eq_true_eq] at g
    refine ⟨⟨by omega, by omega⟩, fun d hd => ⟨⟨by omega, by omega⟩, fun d1 hd1 => ⟨h6 d (List.mem_of_getElem? hd), br_iff.2 ⟨fun g2 => fF fun q => ?_, fun g2 => ⟨InR_i64.2 (by omega), k + 1, ⟨by omega, fun j hj => ?_⟩, ⟨rfl, trivial⟩, rfl, by omega⟩⟩⟩⟩⟩
    · subst q
      rw [hd] at hd1; cases hd1
      simp at g2
    · by_cases hjk : j = k
      · subst hjk
        have hd : l[j]? = some d := hd
        have hd1 : m[j]? = some d1 := hd1
        simp at g2
        rw [hd, hd1, g2]
      · exact hk.2 j (by omega)
  simp only [decide_eq_false_iff_not] at g
  have e : l = m := by
    apply List.ext_getElem?
    intro j
    by_cases hj : j < k
    · exact hk.2 j hj
    · rw [List.getElem?_eq_none (by omega), List.getElem?_eq_none (by omega)]
  exact ⟨rfl, by rw [decide_eq_true e]⟩
set_option maxHeartbeats 2000000 in
set_option maxRecDepth 100000 in
theorem f63_metx : MetX Tryd.prog cx0.gd 63 [.func (.func 64) #[] #[]] ctEqF :=
  (met_all (cx := cx0) (n := 32) (cl := cl63) (il := il63) (hl := hl63) (ml := ml63) (rc := []) (lits := []) (suf := [.func (.func 64) #[] #[]]) (by kernel_rfl) tis_ok ⟨f64_met, trivial⟩ trivial trivial trivial Tryd.func63 (by kernel_rfl) (by kernel_rfl) rfl (by kernel_rfl) (by kernel_rfl) (by simp) fun d hd => by
    obtain ⟨l, m, ⟨⟩⟩ := d
    exact ex_of (ann63 l m) (f63_vc l m hd) (by kernel_rfl))
@[reducible] def cl39 : List (Nat × CT) := [(62, ctSm21)]
@[reducible] def ann39 (vs : List Int) (os : List Int) (qs : List (List Int)) (sg : List Int) (vs2 : List Int) (os2 : List Int) (qs2 : List (List Int)) (sg2 : List Int) : Nat → Option (St → Ann) := fun _ => none
@[reducible] def il39 : List (Nat × IP) := []
@[reducible] def hl39 : List (Nat × Nat × CT) := [(63, 64, ctEqF)]
@[reducible] def ml39 : List (Nat × MK) := []
set_option maxRecDepth 100000 in
theorem f39_vc (vs : List Int) (os : List Int) (qs : List (List Int)) (sg : List Int) (vs2 : List Int) (os2 : List Int) (qs2 : List (List Int)) (sg2 : List Int) (hpre : ctEq21.pre ((vs, os, qs, sg, ()), (vs2, os2, qs2, sg2, ()), ())) :
    vs.length ≤ (1000000 : Nat) ∧ (decide (vs = vs2) = true → os.length ≤ (1000000 : Nat)) ∧ ((decide (vs = vs2) && decide (os = os2)) = true → sg.length ≤ (1000000 : Nat)) ∧ ((decide (vs = vs2) && decide (os = os2) && decide (sg = sg2)) = true → qs.length ≤ (1000000 : Nat) ∧ ∀ (q : List I6.den), q ∈ qs → q.length ≤ (1000000 : Nat)) ∧ ([] : List Go.Eng.Res) = [] ∧ Ent.one (SV.c (SC.v (Value.bool (decide ((vs, os, qs, sg, ()) = (vs2, os2, qs2, sg2, ())))))) = Ent.one (SV.c (SC.v (Value.bool (decide (vs = vs2) && decide (os = os2) && decide (sg = sg2) && decide (qs = qs2))))) := by
  obtain ⟨b1, b2, b3, b4, b5, b6⟩ : vs.length ≤ 1000 ∧ os.length ≤ 1000 ∧ qs.length ≤ 1000 ∧ sg.length ≤ 1000 ∧ (∀ q ∈ qs, q.length ≤ 1000) ∧ qs.flatten.length ≤ 100000 := hpre
  have e : decide ((vs, os, qs, sg, ()) = (vs2, os2, qs2, sg2, ())) = (decide (vs = vs2) && decide (os = os2) && decide (sg = sg2) && decide (qs = qs2)) := by
    rw [Bool.eq_iff_iff]
    simp only [decide_eq_true_eq, Bool.and_eq_true, Prod.mk.injEq, and_true]
    constructor
    · rintro ⟨h1, h2, h3, h4⟩; exact ⟨⟨⟨h1, h2⟩, h4⟩, h3⟩
    · rintro ⟨⟨⟨h1, h2⟩, h4⟩, h3⟩; exact ⟨h1, h2, h3, h4⟩
  refine ⟨by omega, fun _ => by omega, fun _ => by omega, fun _ => ⟨by omega, fun q hq => by have := b5 q hq; omega⟩, rfl, ?_⟩
  rw [e]
set_option maxHeartbeats 2000000 in
set_option maxRecDepth 100000 in
theorem f39_met : Go.Eng.Met Tryd.prog cx0.gd 39 ctEq21 :=
  (met_all (cx := cx0) (n := 31) (cl := cl39) (il := il39) (hl := hl39) (ml := ml39) (rc := []) (lits := []) (suf := []) (by kernel_rfl) tis_ok ⟨f62_met, trivial⟩ trivial ⟨f63_metx, trivial⟩ trivial Tryd.func39 (by kernel_rfl) (by kernel_rfl) rfl (by kernel_rfl) (by kernel_rfl) (by simp) fun d hd => by
    obtain ⟨⟨vs, os, qs, sg, ⟨⟩⟩, ⟨vs2, os2, qs2, sg2, ⟨⟩⟩, ⟨⟩⟩ := d
    exact ex_of (ann39 vs os qs sg vs2 os2 qs2 sg2) (f39_vc vs os qs sg vs2 os2 qs2 sg2 hd) (by kernel_rfl)).met
theorem mutex_facts {vs os : List Int} {qs : List (List Int)} {sg : List Int} {i id other : Int} (hE : ownE (vs, os, qs, sg, ()) i id (-1) = 0) :
    (ownM (vs, os.set i.toNat id, qs, sg, ()) i other (-1) other).2 ≠ 0 ∧ (¬ other = id → (ownM (vs, os.set i.toNat id, qs, sg, ()) i other other (-1)).2 ≠ 0) ∧
    ownM (vs, os.set i.toNat id, qs, sg, ()) i id id (-1) = ((vs, os, qs, sg, ()), 0) ∧ freeM (vs, os.set i.toNat id, qs, sg, ()) i = false ∧ freeM (vs, os, qs, sg, ()) i = true := by
  obtain ⟨k0, k1, k2⟩ := ownE_zero hE
  obtain ⟨x1, x2, x3⟩ := insM_zero.1 k0
  have k2 : os[i.toNat]?.getD 0 = -1 := k2
  have x3 : i < os.length := x3
  have hn : i.toNat < os.length := by omega
  obtain ⟨q1, q2, q3, q4, q5, q6, q7, q8⟩ : vs.length ≤ 8 ∧ os.length ≤ 4 ∧ qs.length ≤ 4 ∧ SS sg ∧ (∀ v ∈ vs, valS v = true) ∧ (∀ o ∈ os, -1 ≤ o) ∧ (∀ x ∈ sg ++ qs.flatten, 0 ≤ x) ∧ (sg ++ qs.flatten).Nodup := formM_iff.1 x1
  have fA : formM (vs, os.set i.toNat id, qs, sg, ()) = true := formM_iff.2 ⟨q1, by rw [List.length_set]; exact q2, q3, q4, q5, fun o ho => by
    rcases List.mem_or_eq_of_mem_set ho with h | h
    · exact q6 o h
    · omega, q7, q8⟩
  have iA : insM (vs, os.set i.toNat id, qs, sg, ()) i (os.set i.toNat id).length = 0 := insM_zero.2 ⟨fA, x2, by rw [List.length_set]; exact x3⟩
  have gA : (os.set i.toNat id)[i.toNat]?.getD 0 = id := by rw [List.getElem?_set_self hn]; rfl
  have s2 : (os.set i.toNat id).set i.toNat (-1) = os := by
    rw [List.set_set]
    apply List.ext_getElem?
    intro j
    by_cases hj : i.toNat = j
    · subst hj
      rw [List.getElem?_set_self hn, List.getElem?_eq_getElem hn] 
      rw [List.getElem?_eq_getElem hn] at k2
      exact congrArg some k2.symm
    · rw [List.getElem?_set_ne hj]
  refine ⟨?_, fun hne => ?_, ?_, ?_, ?_⟩
  · unfold ownM
    rw [if_pos iA]
    split
    · decide
    · rw [show (vs, os.set i.toNat id, qs, sg, ()).2.1[i.toNat]?.getD 0 = id from gA, if_neg (by omega)]; decide
  · unfold ownM
    rw [if_pos iA]
    split
    · decide
    · rw [show (vs, os.set i.toNat id, qs, sg, ()).2.1[i.toNat]?.getD 0 = id from gA, if_neg (fun h => hne h.symm)]; decide
  · unfold ownM
    rw [if_pos iA, if_neg k1, if_pos gA]
    show ((vs, (os.set i.toNat id).set i.toNat (-1), qs, sg, ()), (0 : Int)) = _
    rw [s2]
  · unfold freeM
    rw [show (vs, os.set i.toNat id, qs, sg, ()).2.1[i.toNat]?.getD 0 = id from gA, decide_eq_false (show ¬ id = -1 by omega), Bool.and_false]
  · unfold freeM
    rw [decide_eq_true k0, decide_eq_true (show (vs, os, qs, sg, ()).2.1[i.toNat]?.getD 0 = -1 from k2)]; rfl
@[reducible] def ctL9 : CT := { ps := [.pair shM (.pair (.int .i64) (.pair (.int .i64) (.pair (.int .i64) .unit)))], pre := fun d => True, res := fun d => ([], vB (true)) }
@[reducible] noncomputable def cl9 : List (Nat × CT) := [(11, ctFew), (12, ctExa), (30, ctAcq), (32, ctRel), (34, ctFr), (39, ctEq21)]
@[reducible] def ann9 (vs : List Int) (os : List Int) (qs : List (List Int)) (sg : List Int) (i : Int) (id : Int) (other : Int) : Nat → Option (St → Ann) := fun _ => none
@[reducible] def il9 : List (Nat × IP) := []
@[reducible] def hl9 : List (Nat × Nat × CT) := []
@[reducible] noncomputable def ml9 : List (Nat × MK) := []
set_option maxRecDepth 100000 in
theorem f9_vc (vs : List Int) (os : List Int) (qs : List (List Int)) (sg : List Int) (i : Int) (id : Int) (other : Int) :
    True ∧ br (!fewM (vs, os, qs, sg, ())) (True ∧ ([] : List Go.Eng.Res) = [] ∧ Ent.one (SV.c (SC.v (Value.bool true))) = Ent.one (SV.c (SC.v (Value.bool true)))) (bndM (vs, os, qs, sg, ()) ∧ br (!decide ((ownM (vs, os, qs, sg, ()) i id (-1 : Int) id).snd = (0 : Int))) (True ∧ ([] : List Go.Eng.Res) = [] ∧ Ent.one (SV.c (SC.v (Value.bool true))) = Ent.one (SV.c (SC.v (Value.bool true)))) (bndM ((ownM (vs, os, qs, sg, ()) i id (-1 : Int) id).fst.fst, (ownM (vs, os, qs, sg, ()) i id (-1 : Int) id).fst.snd.fst, (ownM (vs, os, qs, sg, ()) i id (-1 : Int) id).fst.snd.snd.fst, (ownM (vs, os, qs, sg, ()) i id (-1 : Int) id).fst.snd.snd.snd.fst, ()) ∧ bndM ((ownM (vs, os, qs, sg, ()) i id (-1 : Int) id).fst.fst, (ownM (vs, os, qs, sg, ()) i id (-1 : Int) id).fst.snd.fst, (ownM (vs, os, qs, sg, ()) i id (-1 : Int) id).fst.snd.snd.fst, (ownM (vs, os, qs, sg, ()) i id (-1 : Int) id).fst.snd.snd.snd.fst, ()) ∧ bndM ((ownM (vs, os, qs, sg, ()) i id (-1 : Int) id).fst.fst, (ownM (vs, os, qs, sg, ()) i id (-1 : Int) id).fst.snd.fst, (ownM (vs, os, qs, sg, ()) i id (-1 : Int) id).fst.snd.snd.fst, (ownM (vs, os, qs, sg, ()) i id (-1 : Int) id).fst.snd.snd.snd.fst, ()) ∧ bndM ((ownM (vs, os, qs, sg, ()) i id (-1 : Int) id).fst.fst, (ownM (vs, os, qs, sg, ()) i id (-1 : Int) id).fst.snd.fst, (ownM (vs, os, qs, sg, ()) i id (-1 : Int) id).fst.snd.snd.fst, (ownM (vs, os, qs, sg, ()) i id (-1 : Int) id).fst.snd.snd.snd.fst, ()) ∧ ((!freeM ((ownM (vs, os, qs, sg, ()) i id (-1 : Int) id).fst.fst, (ownM (vs, os, qs, sg, ()) i id (-1 : Int) id).fst.snd.fst, (ownM (vs, os, qs, sg, ()) i id (-1 : Int) id).fst.snd.snd.fst, (ownM (vs, os, qs, sg, ()) i id (-1 : Int) id).fst.snd.snd.snd.fst, ()) i) = true → bndM (vs, os, qs, sg, ())) ∧ br (freeM ((ownM (vs, os, qs, sg, ()) i id (-1 : Int) id).fst.fst, (ownM (vs, os, qs, sg, ()) i id (-1 : Int) id).fst.snd.fst, (ownM (vs, os, qs, sg, ()) i id (-1 : Int) id).fst.snd.snd.fst, (ownM (vs, os, qs, sg, ()) i id (-1 : Int) id).fst.snd.snd.snd.fst, ()) i || !freeM (vs, os, qs, sg, ()) i || decide ((ownM ((ownM (vs, os, qs, sg, ()) i id (-1 : Int) id).fst.fst, (ownM (vs, os, qs, sg, ()) i id (-1 : Int) id).fst.snd.fst, (ownM (vs, os, qs, sg, ()) i id (-1 : Int) id).fst.snd.snd.fst, (ownM (vs, os, qs, sg, ()) i id (-1 : Int) id).fst.snd.snd.snd.fst, ()) i other (-1 : Int) other).snd = (0 : Int)) || !decide (other = id) && decide ((ownM ((ownM (vs, os, qs, sg, ()) i id (-1 : Int) id).fst.fst, (ownM (vs, os, qs, sg, ()) i id (-1 : Int) id).fst.snd.fst, (ownM (vs, os, qs, sg, ()) i id (-1 : Int) id).fst.snd.snd.fst, (ownM (vs, os, qs, sg, ()) i id (-1 : Int) id).fst.snd.snd.snd.fst, ()) i other other (-1 : Int)).snd = (0 : Int))) (([] : List Go.Eng.Res) = [] ∧ Ent.one (SV.c (SC.v (Value.bool true))) = Ent.one (SV.c (SC.v (Value.bool false)))) ((decide ((ownM ((ownM (vs, os, qs, sg, ()) i id (-1 : Int) id).fst.fst, (ownM (vs, os, qs, sg, ()) i id (-1 : Int) id).fst.snd.fst, (ownM (vs, os, qs, sg, ()) i id (-1 : Int) id).fst.snd.snd.fst, (ownM (vs, os, qs, sg, ()) i id (-1 : Int) id).fst.snd.snd.snd.fst, ()) i id id (-1 : Int)).snd = (0 : Int)) = true → bndM ((ownM ((ownM (vs, os, qs, sg, ()) i id (-1 : Int) id).fst.fst, (ownM (vs, os, qs, sg, ()) i id (-1 : Int) id).fst.snd.fst, (ownM (vs, os, qs, sg, ()) i id (-1 : Int) id).fst.snd.snd.fst, (ownM (vs, os, qs, sg, ()) i id (-1 : Int) id).fst.snd.snd.snd.fst, ()) i id id (-1 : Int)).fst.fst, (ownM ((ownM (vs, os, qs, sg, ()) i id (-1 : Int) id).fst.fst, (ownM (vs, os, qs, sg, ()) i id (-1 : Int) id).fst.snd.fst, (ownM (vs, os, qs, sg, ()) i id (-1 : Int) id).fst.snd.snd.fst, (ownM (vs, os, qs, sg, ()) i id (-1 : Int) id).fst.snd.snd.snd.fst, ()) i id id (-1 : Int)).fst.snd.fst, (ownM ((ownM (vs, os, qs, sg, ()) i id (-1 : Int) id).fst.fst, (ownM (vs, os, qs, sg, ()) i id (-1 : Int) id).fst.snd.fst, (ownM (vs, os, qs, sg, ()) i id (-1 : Int) id).fst.snd.snd.fst, (ownM (vs, os, qs, sg, ()) i id (-1 : Int) id).fst.snd.snd.snd.fst, ()) i id id (-1 : Int)).fst.snd.snd.fst, (ownM ((ownM (vs, os, qs, sg, ()) i id (-1 : Int) id).fst.fst, (ownM (vs, os, qs, sg, ()) i id (-1 : Int) id).fst.snd.fst, (ownM (vs, os, qs, sg, ()) i id (-1 : Int) id).fst.snd.snd.fst, (ownM (vs, os, qs, sg, ()) i id (-1 : Int) id).fst.snd.snd.snd.fst, ()) i id id (-1 : Int)).fst.snd.snd.snd.fst, ())) ∧ ((decide ((ownM ((ownM (vs, os, qs, sg, ()) i id (-1 : Int) id).fst.fst, (ownM (vs, os, qs, sg, ()) i id (-1 : Int) id).fst.snd.fst, (ownM (vs, os, qs, sg, ()) i id (-1 : Int) id).fst.snd.snd.fst, (ownM (vs, os, qs, sg, ()) i id (-1 : Int) id).fst.snd.snd.snd.fst, ()) i id id (-1 : Int)).snd = (0 : Int)) && decide (((ownM ((ownM (vs, os, qs, sg, ()) i id (-1 : Int) id).fst.fst, (ownM (vs, os, qs, sg, ()) i id (-1 : Int) id).fst.snd.fst, (ownM (vs, os, qs, sg, ()) i id (-1 : Int) id).fst.snd.snd.fst, (ownM (vs, os, qs, sg, ()) i id (-1 : Int) id).fst.snd.snd.snd.fst, ()) i id id (-1 : Int)).fst.fst, (ownM ((ownM (vs, os, qs, sg, ()) i id (-1 : Int) id).fst.fst, (ownM (vs, os, qs, sg, ()) i id (-1 : Int) id).fst.snd.fst, (ownM (vs, os, qs, sg, ()) i id (-1 : Int) id).fst.snd.snd.fst, (ownM (vs, os, qs, sg, ()) i id (-1 : Int) id).fst.snd.snd.snd.fst, ()) i id id (-1 : Int)).fst.snd.fst, (ownM ((ownM (vs, os, qs, sg, ()) i id (-1 : Int) id).fst.fst, (ownM (vs, os, qs, sg, ()) i id (-1 : Int) id).fst.snd.fst, (ownM (vs, os, qs, sg, ()) i id (-1 : Int) id).fst.snd.snd.fst, (ownM (vs, os, qs, sg, ()) i id (-1 : Int) id).fst.snd.snd.snd.fst, ()) i id id (-1 : Int)).fst.snd.snd.fst, (ownM ((ownM (vs, os, qs, sg, ()) i id (-1 : Int) id).fst.fst, (ownM (vs, os, qs, sg, ()) i id (-1 : Int) id).fst.snd.fst, (ownM (vs, os, qs, sg, ()) i id (-1 : Int) id).fst.snd.snd.fst, (ownM (vs, os, qs, sg, ()) i id (-1 : Int) id).fst.snd.snd.snd.fst, ()) i id id (-1 : Int)).fst.snd.snd.snd.fst, ()) = (vs, os, qs, sg, ()))) = true → True) ∧ ([] : List Go.Eng.Res) = [] ∧ Ent.one (SV.c (SC.v (Value.bool true))) = Ent.one (SV.c (SC.v (Value.bool (decide ((ownM ((ownM (vs, os, qs, sg, ()) i id (-1 : Int) id).fst.fst, (ownM (vs, os, qs, sg, ()) i id (-1 : Int) id).fst.snd.fst, (ownM (vs, os, qs, sg, ()) i id (-1 : Int) id).fst.snd.snd.fst, (ownM (vs, os, qs, sg, ()) i id (-1 : Int) id).fst.snd.snd.snd.fst, ()) i id id (-1 : Int)).snd = (0 : Int)) && decide (((ownM ((ownM (vs, os, qs, sg, ()) i id (-1 : Int) id).fst.fst, (ownM (vs, os, qs, sg, ()) i id (-1 : Int) id).fst.snd.fst, (ownM (vs, os, qs, sg, ()) i id (-1 : Int) id).fst.snd.snd.fst, (ownM (vs, os, qs, sg, ()) i id (-1 : Int) id).fst.snd.snd.snd.fst, ()) i id id (-1 : Int)).fst.fst, (ownM ((ownM (vs, os, qs, sg, ()) i id (-1 : Int) id).fst.fst, (ownM (vs, os, qs, sg, ()) i id (-1 : Int) id).fst.snd.fst, (ownM (vs, os, qs, sg, ()) i id (-1 : Int) id).fst.snd.snd.fst, (ownM (vs, os, qs, sg, ()) i id (-1 : Int) id).fst.snd.snd.snd.fst, ()) i id id (-1 : Int)).fst.snd.fst, (ownM ((ownM (vs, os, qs, sg, ()) i id (-1 : Int) id).fst.fst, (ownM (vs, os, qs, sg, ()) i id (-1 : Int) id).fst.snd.fst, (ownM (vs, os, qs, sg, ()) i id (-1 : Int) id).fst.snd.snd.fst, (ownM (vs, os, qs, sg, ()) i id (-1 : Int) id).fst.snd.snd.snd.fst, ()) i id id (-1 : Int)).fst.snd.snd.fst, (ownM ((ownM (vs, os, qs, sg, ()) i id (-1 : Int) id).fst.fst, (ownM (vs, os, qs, sg, ()) i id (-1 : Int) id).fst.snd.fst, (ownM (vs, os, qs, sg, ()) i id (-1 : Int) id).fst.snd.snd.fst, (ownM (vs, os, qs, sg, ()) i id (-1 : Int) id).fst.snd.snd.snd.fst, ()) i id id (-1 : Int)).fst.snd.snd.snd.fst, ()) = (vs, os, qs, sg, ())) && true))))))) := by
  refine ⟨trivial, br_iff.2 ⟨fun _ => ⟨trivial, rfl, rfl⟩, fun h => ?_⟩⟩
  have hb : bndM (vs, os, qs, sg, ()) := few_bnd (by simpa using h)
  refine ⟨hb, br_iff.2 ⟨fun _ => ⟨trivial, rfl, rfl⟩, fun h0 => ?_⟩⟩
  have h0 : (ownM (vs, os, qs, sg, ()) i id (-1) id).2 = 0 := by simpa using h0
  have hE : ownE (vs, os, qs, sg, ()) i id (-1) = 0 := by
    refine Classical.byContradiction fun q => ?_
    rw [ownM_bad q] at h0; exact q h0
  have eX : ownM (vs, os, qs, sg, ()) i id (-1) id = ((vs, os.set i.toNat id, qs, sg, ()), 0) := ownM_ok hE
  have ba : bndM (vs, os.set i.toNat id, qs, sg, ()) := by
    have := own_bnd (i := i) (id := id) (frm := -1) (to := id) hb
    rw [eX] at this; exact this
  obtain ⟨e2, e3, e4, e5, e6⟩ := mutex_facts (other := other) hE
  rw [eX]
  refine ⟨ba, ba, ba, ba, fun _ => hb, br_iff.2 ⟨fun g => ?_, fun g => ⟨fun _ => own_bnd ba, fun _ => trivial, rfl, ?_⟩⟩⟩
  · have g : (freeM (vs, os.set i.toNat id, qs, sg, ()) i || !freeM (vs, os, qs, sg, ()) i || decide ((ownM (vs, os.set i.toNat id, qs, sg, ()) i other (-1) other).2 = 0) || !decide (other = id) && decide ((ownM (vs, os.set i.toNat id, qs, sg, ()) i other other (-1)).2 = 0)) = true := g
    rw [e5, e6, decide_eq_false e2] at g
    simp at g
    exact absurd g.2 (e3 g.1)
  · have e : (decide ((ownM (vs, os.set i.toNat id, qs, sg, ()) i id id (-1)).2 = 0) && decide ((ownM (vs, os.set i.toNat id, qs, sg, ()) i id id (-1)).1 = (vs, os, qs, sg, ())) && true) = true := by rw [e4]; simp
    exact congrArg (fun b => Ent.one (SV.c (SC.v (Value.bool b)))) e.symm
set_option maxHeartbeats 2000000 in
set_option maxRecDepth 100000 in
theorem f9_met : Go.Eng.Met Tryd.prog cx0.gd 9 ctL9 :=
  (met_all (cx := cx0) (n := 90) (cl := cl9) (il := il9) (hl := hl9) (ml := ml9) (rc := []) (lits := []) (suf := []) (by kernel_rfl) tis_ok ⟨f11_met, f12_met, f30_met, f32_met, f34_met, f39_met, trivial⟩ trivial trivial trivial Tryd.func9 (by kernel_rfl) (by kernel_rfl) rfl (by kernel_rfl) (by kernel_rfl) (by simp) fun d hd => by
    obtain ⟨⟨⟨vs, os, qs, sg, ⟨⟩⟩, i, id, other, ⟨⟩⟩, ⟨⟩⟩ := d
    exact ex_of (ann9 vs os qs sg i id other) (f9_vc vs os qs sg i id other) (by kernel_rfl)).met
end Go.Proofs.YtkgjfkdcnoockaaDoor
set_option linter.unusedSimpArgs false
set_option linter.unusedVariables false
set_option maxRecDepth 100000
namespace Go.Proofs.YtkgjfkdcnoockaaDoor
open Go Go.Eng

@[reducible] def rowT (s : St) (i : Nat) : Nat := match nthL s.T i with
  | some (_, .row t _ _) => t
  | _ => 0
@[reducible] def cx1 : Cx := { ti := tis, gd := gd0, wr := true }
def incW (l : List Int) : List Int := l.map fun x => IntKind.i64.wrap (x + 1)
theorem incW_len (l : List Int) : (incW l).length = l.length := by simp [incW]
def incQ (qs : List (List Int)) (k : Nat) : List (List Int) := (qs.map incW).take k ++ qs.drop k
theorem incQ_len {qs : List (List Int)} {k : Nat} (h : k ≤ qs.length) : (incQ qs k).length = qs.length := by simp [incQ]; omega
theorem incQ_at {qs : List (List Int)} {k : Nat} (h : k < qs.length) : (incQ qs k)[k]? = qs[k]? := by
  unfold incQ
  rw [List.getElem?_append_right (by simp; omega), List.length_take, List.length_map, show k - min k qs.length = 0 by omega, List.getElem?_drop, Nat.add_zero]
theorem incQ_set {qs : List (List Int)} {k : Nat} {d : List Int} (h : qs[k]? = some d) : (incQ qs k).set k (incW d) = incQ qs (k + 1) := by
  obtain ⟨hk, _⟩ := List.getElem?_eq_some_iff.1 h
  unfold incQ
  rw [List.set_append_right _ _ (by simp; omega), List.length_take, List.length_map, show k - min k qs.length = 0 by omega, List.drop_eq_getElem_cons hk, List.set_cons_zero, List.take_add_one, List.getElem?_map, h]
  simp
@[reducible] def ipScr : IP := { sh := .int .i64, ps := [], pre := fun l d => l.length ≤ 100000, res := fun l d => incW l, back := false }

@[reducible] def cl38 : List (Nat × CT) := []
@[reducible] def ann38 (l : List Int) : Nat → Option (St → Ann) := fun n => match n with
  | 1 => some fun s => .inv { α := Nat, slots := fun k => [(2, .c (.v (.int .i64 k)))], res := fun k => [(0, .row (rowT s 0) (.int .i64) ((incW l).take k ++ l.drop k))], inv := fun k => k ≤ l.length, meas := fun k => l.length - k }
  | _ => none
@[reducible] def il38 : List (Nat × IP) := []
@[reducible] def hl38 : List (Nat × Nat × CT) := []
@[reducible] def ml38 : List (Nat × MK) := []
set_option maxRecDepth 100000 in
theorem f38_vc (l : List Int) (t : TypeId) (hpre : ipScr.pre l ()) :
    (∃ x, x ≤ l.length ∧ (SV.c (SC.v (Value.int IntKind.i64 (0 : Int))) = SV.c (SC.v (Value.int IntKind.i64 (↑x : Int))) ∧ True) ∧ [(([] : Go.Eng.Gd), Res.row t I6 l)] = [(([] : Go.Eng.Gd), Res.row t I6 (List.take x (incW l) ++ List.drop x l))]) ∧ ∀ (x : Nat), x ≤ l.length → br (decide ((↑x : Int) < (↑(List.take x (incW l) ++ List.drop x l).length : Int))) (((0 : Int) ≤ (↑x : Int) ∧ (↑x : Int) < (↑(List.take x (incW l) ++ List.drop x l).length : Int)) ∧ (↑x : Int).toNat < (List.take x (incW l) ++ List.drop x l).length ∧ ∀ (d : Int), (List.take x (incW l) ++ List.drop x l)[(↑x : Int).toNat]? = some d → ((0 : Int) ≤ (↑x : Int) ∧ (↑x : Int) < (↑(List.take x (incW l) ++ List.drop x l).length : Int)) ∧ (↑x : Int).toNat < (List.take x (incW l) ++ List.drop x l).length ∧ ∃ x', x' ≤ l.length ∧ (SV.c (SC.v (Value.int IntKind.i64 (IntKind.i64.wrap ((↑x : Int) + (1 : Int))))) = SV.c (SC.v (Value.int IntKind.i64 (↑x' : Int))) ∧ True) ∧ [(([] : Go.Eng.Gd), Res.row t I6 ((List.take x (incW l) ++ List.drop x l).set (↑x : Int).toNat (IntKind.i64.wrap (d + (1 : Int)))))] = [(([] : Go.Eng.Gd), Res.row t I6 (List.take x' (incW l) ++ List.drop x' l))] ∧ l.length - x' < l.length - x) (t = t ∧ incW l = (List.take x (incW l) ++ List.drop x l)) := by
  have hl : l.length ≤ 100000 := hpre
  have len : ∀ x, x ≤ l.length → (List.take x (incW l) ++ List.drop x l).length = l.length := by
    intro x hx; rw [List.length_append, List.length_take, List.length_drop, incW_len]; omega
  refine ⟨⟨0, by omega, ⟨rfl, trivial⟩, by simp⟩, fun x hx => br_iff.2 ⟨fun g => ?_, fun g => ?_⟩⟩
  · simp only [decide_eq_true_eq] at g
    rw [len x hx] at g
    have hx2 : x < l.length := by omega
    rw [len x hx]
    refine ⟨⟨by omega, by omega⟩, by omega, fun d hd => ⟨⟨by omega, by omega⟩, by omega, x + 1, by omega, ⟨?_, trivial⟩, ?_, by omega⟩⟩
    · rw [show IntKind.i64.wrap ((x : Int) + 1) = (x : Int) + 1 from InR_i64.2 (by omega)]; rfl
    · have hd : (List.take x (incW l) ++ List.drop x l)[x]? = some d := hd
      rw [List.getElem?_append_right (by rw [List.length_take, incW_len]; omega), List.length_take, incW_len, show x - min x l.length = 0 by omega, List.getElem?_drop, Nat.add_zero] at hd
      have key : (List.take x (incW l) ++ List.drop x l).set (↑x : Int).toNat (IntKind.i64.wrap (d + 1)) = List.take (x + 1) (incW l) ++ List.drop (x + 1) l := by
        rw [show (↑x : Int).toNat = x by omega, List.set_append_right _ _ (by rw [List.length_take]; omega), List.length_take, incW_len, show x - min x l.length = 0 by omega, List.drop_eq_getElem_cons hx2, List.set_cons_zero, List.take_add_one]
        have : (incW l)[x]? = some (IntKind.i64.wrap (d + 1)) := by
          simp only [incW, List.getElem?_map, hd, Option.map_some]
        rw [this]; simp
      rw [key]
  · simp only [decide_eq_false_iff_not] at g
    rw [len x hx] at g
    have : x = l.length := by omega
    subst this
    refine ⟨rfl, ?_⟩
    rw [List.drop_length, List.append_nil, List.take_of_length_le (by rw [incW_len]; omega)]
set_option maxHeartbeats 2000000 in
set_option maxRecDepth 100000 in
theorem f38_ip : MetIP Tryd.prog cx1.gd 38 ipScr :=
  metip_all (cx := cx1) (n := 17) (cl := cl38) (il := il38) (hl := hl38) (ml := ml38) (lits := []) (by kernel_rfl) tis_ok trivial trivial trivial trivial Tryd.func38 (by kernel_rfl) (by kernel_rfl) rfl (by kernel_rfl) (by kernel_rfl) rfl (by kernel_rfl) rfl rfl fun t l d hd => by
    obtain ⟨⟩ := d
    exact ex_of (ann38 l) (f38_vc l t hd) (by kernel_rfl)
@[reducible] def ctL7 : CT := { ps := [shM, shM], pre := fun d => True, res := fun d => ([], vB (true)) }
@[reducible] noncomputable def cl7 : List (Nat × CT) := [(11, ctFew), (12, ctExa), (36, ctClO), (15, ctEq21), (37, ctClD), (39, ctEq21)]
@[reducible] def il7 : List (Nat × IP) := [(38, ipScr)]
@[reducible] noncomputable def ann7 (vs : List Int) (os : List Int) (qs : List (List Int)) (sg : List Int) (vs2 : List Int) (os2 : List Int) (qs2 : List (List Int)) (sg2 : List Int) : Nat → Option (St → Ann) := fun k => match k with
  | 11 => some fun s => .inv { α := Nat, slots := fun k => [(7, .c (.v (.int .i64 k)))], res := fun k => [(4, .deep 28 (.sl (.int .i64)) (incQ qs k) 3 (.int .i64) 0 (fun j => decide (j < qs.length)) [])], inv := fun k => k ≤ qs.length, meas := fun k => qs.length - k }
  | _ => none
@[reducible] def hl7 : List (Nat × Nat × CT) := []
@[reducible] noncomputable def ml7 : List (Nat × MK) := []
set_option maxRecDepth 100000 in
theorem f7_vc (vs : List Int) (os : List Int) (qs : List (List Int)) (sg : List Int) (vs2 : List Int) (os2 : List Int) (qs2 : List (List Int)) (sg2 : List Int) :
    True ∧ ((!!fewM (vs, os, qs, sg, ())) = true → True) ∧ br (!fewM (vs, os, qs, sg, ()) || !fewM (vs2, os2, qs2, sg2, ())) (True ∧ ([] : List Go.Eng.Res) = [] ∧ Ent.one (SV.c (SC.v (Value.bool true))) = Ent.one (SV.c (SC.v (Value.bool true)))) (bndM (vs, os, qs, sg, ()) ∧ bndM (vs, os, qs, sg, ()) ∧ br (!decide ((vs, os, qs, sg, ()) = (vs, os, qs, sg, ()))) (([] : List Go.Eng.Res) = [] ∧ Ent.one (SV.c (SC.v (Value.bool true))) = Ent.one (SV.c (SC.v (Value.bool false)))) (bndM (vs, os, qs, sg, ()) ∧ List.length (vs) ≤ (100000 : Nat) ∧ List.length (os) ≤ (100000 : Nat) ∧ List.length (sg) ≤ (100000 : Nat) ∧ (∃ x, x ≤ qs.length ∧ (SV.c (SC.v (Value.int IntKind.i64 (0 : Int))) = SV.c (SC.v (Value.int IntKind.i64 (↑x : Int))) ∧ True) ∧ [(([] : Go.Eng.Gd), Res.blk (31 : Nat) [SC.sl I6 vs, SC.sl I6 os, SC.sl I6.sl qs, SC.sl I6 sg]), (([] : Go.Eng.Gd), Res.blk (31 : Nat) [SC.sl I6 vs2, SC.sl I6 os2, SC.sl I6.sl qs2, SC.sl I6 sg2]), (([] : Go.Eng.Gd), Res.row (3 : TypeId) I6 (incW (vs))), (([] : Go.Eng.Gd), Res.row (3 : TypeId) I6 (incW (os))), (([] : Go.Eng.Gd), Res.deep (28 : TypeId) I6.sl qs (3 : TypeId) I6 (0 : Nat) (fun j => decide (j < List.length (vs, os, qs, sg, ()).snd.snd.fst)) []), (([] : Go.Eng.Gd), Res.row (3 : TypeId) I6 (incW (sg))), (([] : Go.Eng.Gd), Res.blk (31 : Nat) [SC.row (2 : Nat), SC.row (3 : Nat), SC.row (4 : Nat), SC.row (5 : Nat)]), (([] : Go.Eng.Gd), Res.row (3 : TypeId) I6 vs), (([] : Go.Eng.Gd), Res.row (3 : TypeId) I6 os), (([] : Go.Eng.Gd), Res.row (28 : TypeId) I6.sl qs), (([] : Go.Eng.Gd), Res.row (3 : TypeId) I6 sg), (([] : Go.Eng.Gd), Res.blk (31 : Nat) [SC.row (7 : Nat), SC.row (8 : Nat), SC.row (9 : Nat), SC.row (10 : Nat)])] = [(([] : Go.Eng.Gd), Res.blk (31 : Nat) [SC.sl I6 vs, SC.sl I6 os, SC.sl I6.sl qs, SC.sl I6 sg]), (([] : Go.Eng.Gd), Res.blk (31 : Nat) [SC.sl I6 vs2, SC.sl I6 os2, SC.sl I6.sl qs2, SC.sl I6 sg2]), (([] : Go.Eng.Gd), Res.row (3 : TypeId) I6 (incW (vs))), (([] : Go.Eng.Gd), Res.row (3 : TypeId) I6 (incW (os))), (([] : Go.Eng.Gd), Res.deep (28 : TypeId) I6.sl (incQ qs x) (3 : TypeId) I6 (0 : Nat) (fun j => decide (j < qs.length)) []), (([] : Go.Eng.Gd), Res.row (3 : TypeId) I6 (incW (sg))), (([] : Go.Eng.Gd), Res.blk (31 : Nat) [SC.row (2 : Nat), SC.row (3 : Nat), SC.row (4 : Nat), SC.row (5 : Nat)]), (([] : Go.Eng.Gd), Res.row (3 : TypeId) I6 vs), (([] : Go.Eng.Gd), Res.row (3 : TypeId) I6 os), (([] : Go.Eng.Gd), Res.row (28 : TypeId) I6.sl qs), (([] : Go.Eng.Gd), Res.row (3 : TypeId) I6 sg), (([] : Go.Eng.Gd), Res.blk (31 : Nat) [SC.row (7 : Nat), SC.row (8 : Nat), SC.row (9 : Nat), SC.row (10 : Nat)])]) ∧ ∀ (x : Nat), x ≤ qs.length → br (decide ((↑x : Int) < (↑(incQ qs x).length : Int))) (((0 : Int) ≤ (↑x : Int) ∧ (↑x : Int) < (↑(incQ qs x).length : Int)) ∧ (↑x : Int).toNat < (incQ qs x).length ∧ ∀ (d : List I6.den), (incQ qs x)[(↑x : Int).toNat]? = some d → false = false ∧ (decide ((↑x : Int).toNat < qs.length) = true → (decide ((↑x : Int).toNat < qs.length) = true ∧ false = false ∧ (↑x : Int).toNat < (incQ qs x).length) ∧ ∀ (d0 : List I6.den), (incQ qs x)[(↑x : Int).toNat]? = some d0 → List.length (d0) ≤ (100000 : Nat) ∧ InR IntKind.i64 ((↑x : Int) + (1 : Int)) ∧ ∃ x', x' ≤ qs.length ∧ (SV.c (SC.v (Value.int IntKind.i64 ((↑x : Int) + (1 : Int)))) = SV.c (SC.v (Value.int IntKind.i64 (↑x' : Int))) ∧ True) ∧ [(([] : Go.Eng.Gd), Res.blk (31 : Nat) [SC.sl I6 vs, SC.sl I6 os, SC.sl I6.sl qs, SC.sl I6 sg]), (([] : Go.Eng.Gd), Res.blk (31 : Nat) [SC.sl I6 vs2, SC.sl I6 os2, SC.sl I6.sl qs2, SC.sl I6 sg2]), (([] : Go.Eng.Gd), Res.row (3 : TypeId) I6 (incW (vs))), (([] : Go.Eng.Gd), Res.row (3 : TypeId) I6 (incW (os))), (([] : Go.Eng.Gd), Res.deep (28 : TypeId) I6.sl ((incQ qs x).set (↑x : Int).toNat (incW (d0))) (3 : TypeId) I6 (0 : Nat) (fun j => decide (j < qs.length)) []), (([] : Go.Eng.Gd), Res.row (3 : TypeId) I6 (incW (sg))), (([] : Go.Eng.Gd), Res.blk (31 : Nat) [SC.row (2 : Nat), SC.row (3 : Nat), SC.row (4 : Nat), SC.row (5 : Nat)]), (([] : Go.Eng.Gd), Res.row (3 : TypeId) I6 vs), (([] : Go.Eng.Gd), Res.row (3 : TypeId) I6 os), (([] : Go.Eng.Gd), Res.row (28 : TypeId) I6.sl qs), (([] : Go.Eng.Gd), Res.row (3 : TypeId) I6 sg), (([] : Go.Eng.Gd), Res.blk (31 : Nat) [SC.row (7 : Nat), SC.row (8 : Nat), SC.row (9 : Nat), SC.row (10 : Nat)])] = [(([] : Go.Eng.Gd), Res.blk (31 : Nat) [SC.sl I6 vs, SC.sl I6 os, SC.sl I6.sl qs, SC.sl I6 sg]), (([] : Go.Eng.Gd), Res.blk (31 : Nat) [SC.sl I6 vs2, SC.sl I6 os2, SC.sl I6.sl qs2, SC.sl I6 sg2]), (([] : Go.Eng.Gd), Res.row (3 : TypeId) I6 (incW (vs))), (([] : Go.Eng.Gd), Res.row (3 : TypeId) I6 (incW (os))), (([] : Go.Eng.Gd), Res.deep (28 : TypeId) I6.sl (incQ qs x') (3 : TypeId) I6 (0 : Nat) (fun j => decide (j < qs.length)) []), (([] : Go.Eng.Gd), Res.row (3 : TypeId) I6 (incW (sg))), (([] : Go.Eng.Gd), Res.blk (31 : Nat) [SC.row (2 : Nat), SC.row (3 : Nat), SC.row (4 : Nat), SC.row (5 : Nat)]), (([] : Go.Eng.Gd), Res.row (3 : TypeId) I6 vs), (([] : Go.Eng.Gd), Res.row (3 : TypeId) I6 os), (([] : Go.Eng.Gd), Res.row (28 : TypeId) I6.sl qs), (([] : Go.Eng.Gd), Res.row (3 : TypeId) I6 sg), (([] : Go.Eng.Gd), Res.blk (31 : Nat) [SC.row (7 : Nat), SC.row (8 : Nat), SC.row (9 : Nat), SC.row (10 : Nat)])] ∧ qs.length - x' < qs.length - x) ∧ (decide ((↑x : Int).toNat < qs.length) = false → False)) (bndM (vs, os, qs, sg, ()) ∧ (decide ((vs, os, qs, sg, ()) = (vs, os, qs, sg, ())) = true → bndM (vs, os, qs, sg, ())) ∧ (decide ((vs, os, qs, sg, ()) = (vs, os, qs, sg, ())) = true → bndM (vs, os, qs, sg, ())) ∧ ((decide ((vs, os, qs, sg, ()) = (vs, os, qs, sg, ())) && decide ((vs, os, qs, sg, ()) = (vs2, os2, qs2, sg2, ())) == decide ((vs, os, qs, sg, ()) = (vs2, os2, qs2, sg2, ()))) = true → bndM (vs, os, qs, sg, ())) ∧ ((decide ((vs, os, qs, sg, ()) = (vs, os, qs, sg, ())) && decide ((vs, os, qs, sg, ()) = (vs2, os2, qs2, sg2, ())) == decide ((vs, os, qs, sg, ()) = (vs2, os2, qs2, sg2, ())) && decide ((vs, os, qs, sg, ()) = (vs, os, qs, sg, ()))) = true → True) ∧ ([] : List Go.Eng.Res) = [] ∧ Ent.one (SV.c (SC.v (Value.bool true))) = Ent.one (SV.c (SC.v (Value.bool (decide ((vs, os, qs, sg, ()) = (vs, os, qs, sg, ())) && decide ((vs, os, qs, sg, ()) = (vs2, os2, qs2, sg2, ())) == decide ((vs, os, qs, sg, ()) = (vs2, os2, qs2, sg2, ())) && decide ((vs, os, qs, sg, ()) = (vs, os, qs, sg, ())) && true))))))) := by
  generalize eq1 : decide ((vs, os, qs, sg, ()) = (vs, os, qs, sg, ())) = B
  rw [decide_eq_true rfl] at eq1
  subst eq1
  refine ⟨trivial, fun _ => trivial, br_iff.2 ⟨fun _ => ⟨trivial, rfl, rfl⟩, fun h => ?_⟩⟩
  have hf : fewM (vs, os, qs, sg, ()) = true := by
    revert h
    cases fewM (vs, os, qs, sg, ()) <;> simp
  have hb : bndM (vs, os, qs, sg, ()) := few_bnd hf
  have hb2 := hb
  obtain ⟨b1, b2, b3, b4, b5, b6⟩ : vs.length ≤ 1000 ∧ os.length ≤ 1000 ∧ qs.length ≤ 1000 ∧ sg.length ≤ 1000 ∧ (∀ q ∈ qs, q.length ≤ 1000) ∧ qs.flatten.length ≤ 100000 := hb2
  refine ⟨hb, hb, br_iff.2 ⟨fun q => by simp at q, fun _ => ⟨hb, ?_, ?_, ?_, ⟨0, by omega, ⟨rfl, trivial⟩, by simp [incQ]⟩, fun x hx => br_iff.2 ⟨fun g => ?_, fun g => ⟨hb, ?_⟩⟩⟩⟩⟩
  · show vs.length ≤ 100000; omega
  · show os.length ≤ 100000; omega
  · show sg.length ≤ 100000; omega
  · simp only [decide_eq_true_eq] at g
    rw [incQ_len hx] at g
    have hxq : x < qs.length := by omega
    rw [incQ_len hx]
    refine ⟨⟨by omega, by omega⟩, by omega, fun d hd => ⟨rfl, fun _ => ⟨⟨decide_eq_true (by omega), rfl, by omega⟩, fun d0 hd0 => ?_⟩, fun q => ?_⟩⟩
    · have hd0 : qs[x]? = some d0 := by
        rw [← incQ_at hxq]; exact hd0
      have bd := b5 d0 (List.mem_of_getElem? hd0)
      refine ⟨?_, InR_i64.2 (by omega), x + 1, by omega, ⟨rfl, trivial⟩, ?_, by omega⟩
      · show d0.length ≤ 100000; omega
      · have e : (incQ qs x).set (↑x : Int).toNat (incW d0) = incQ qs (x + 1) := incQ_set hd0
        rw [e]
    · rw [decide_eq_false_iff_not] at q; omega
  · refine ⟨fun _ => hb, fun _ => hb, fun _ => hb, fun _ => trivial, rfl, ?_⟩
    simp
set_option maxHeartbeats 2000000 in
set_option maxRecDepth 100000 in
theorem f7_met : Go.Eng.Met Tryd.prog cx0.gd 7 ctL7 :=
  (met_all (cx := cx0) (n := 67) (cl := cl7) (il := il7) (hl := hl7) (ml := ml7) (rc := []) (lits := []) (suf := []) (by kernel_rfl) tis_ok ⟨f11_met, f12_met, f36_met, f15_met, f37_met, f39_met, trivial⟩ ⟨f38_ip, trivial⟩ trivial trivial Tryd.func7 (by kernel_rfl) (by kernel_rfl) rfl (by kernel_rfl) (by kernel_rfl) (by simp) fun d hd => by
    obtain ⟨⟨vs, os, qs, sg, ⟨⟩⟩, ⟨vs2, os2, qs2, sg2, ⟨⟩⟩, ⟨⟩⟩ := d
    exact ex_of (ann7 vs os qs sg vs2 os2 qs2 sg2) (f7_vc vs os qs sg vs2 os2 qs2 sg2) (by kernel_rfl)).met
end Go.Proofs.YtkgjfkdcnoockaaDoor
set_option linter.unusedSimpArgs false
set_option linter.unusedVariables false
set_option maxRecDepth 1000000
namespace Go.Proofs.YtkgjfkdcnoockaaDoor
open Go Go.Eng Go.ChangeShapes Go.WideShapes Go.ChangeAt Go.RowKit
theorem own : ownKnob Tryd.prog.godebug = none := by kernel_rfl
theorem laidOut : laidOutB Tryd.prog = true := by kernel_rfl
theorem rowed : mapsRowed Tryd.prog = true := by kernel_rfl
theorem full : ∀ t e, t < Tryd.prog.types.size → Tryd.prog.underlying t = some (.slice e) → 0 < Tryd.prog.cellsOf e := slices_full_of _ (by kernel_rfl)
theorem gname0 : Tryd.prog.globalNamed "modelcheck/inst.rows" = some 0 := by kernel_rfl
theorem gtype0 : (Tryd.prog.globals[0]?).map (·.type) = some 118 := by kernel_rfl
theorem gsok0 : (SOK Tryd.prog (.arr 22 (.pair .str (.pair (.arr 7 .bool) .unit)))).1 118 = true := by kernel_rfl
theorem gname1 : Tryd.prog.globalNamed "modelcheck/value.names" = some 1 := by kernel_rfl
theorem gtype1 : (Tryd.prog.globals[1]?).map (·.type) = some 126 := by kernel_rfl
theorem gsok1 : (SOK Tryd.prog (.arr 10 .str)).1 126 = true := by kernel_rfl
noncomputable def laidWorld (os : Os) : World :=
  { World.holding Tryd.prog os ⟨#[], #[], []⟩ with heap := (((World.holding Tryd.prog os ⟨#[], #[], []⟩).heap).modify 0 (lay #[.string ⟨#[99, 111, 110, 115, 116]⟩, .bool true, .bool false, .bool false, .bool false, .bool true, .bool false, .bool false, .string ⟨#[99, 111, 112, 121]⟩, .bool true, .bool true, .bool false, .bool false, .bool false, .bool false, .bool false, .string ⟨#[99, 97, 108, 99]⟩, .bool true, .bool true, .bool true, .bool false, .bool false, .bool true, .bool false, .string ⟨#[106, 117, 109, 112]⟩, .bool false, .bool false, .bool false, .bool false, .bool true, .bool false, .bool false, .string ⟨#[98, 114, 97, 110, 99, 104]⟩, .bool false, .bool true, .bool false, .bool false, .bool true, .bool false, .bool false, .string ⟨#[97, 115, 115, 101, 114, 116]⟩, .bool false, .bool true, .bool false, .bool false, .bool false, .bool false, .bool false, .string ⟨#[115, 116, 111, 112]⟩, .bool false, .bool false, .bool false, .bool false, .bool false, .bool false, .bool false, .string ⟨#[108, 111, 97, 100]⟩, .bool true, .bool false, .bool false, .bool true, .bool false, .bool false, .bool true, .string ⟨#[115, 116, 111, 114, 101]⟩, .bool false, .bool true, .bool false, .bool true, .bool false, .bool false, .bool true, .string ⟨#[115, 119, 97, 112]⟩, .bool true, .bool true, .bool false, .bool true, .bool false, .bool false, .bool true, .string ⟨#[102, 101, 116, 99, 104, 97, 100, 100]⟩, .bool true, .bool true, .bool false, .bool true, .bool false, .bool false, .bool true, .string ⟨#[99, 97, 115]⟩, .bool true, .bool true, .bool true, .bool true, .bool false, .bool false, .bool true, .string ⟨#[102, 101, 110, 99, 101]⟩, .bool false, .bool false, .bool false, .bool false, .bool false, .bool false, .bool false, .string ⟨#[97, 119, 97, 105, 116]⟩, .bool true, .bool true, .bool false, .bool true, .bool false, .bool true, .bool true, .string ⟨#[108, 111, 99, 107]⟩, .bool false, .bool false, .bool false, .bool true, .bool false, .bool false, .bool false, .string ⟨#[117, 110, 108, 111, 99, 107]⟩, .bool false, .bool false, .bool false, .bool true, .bool false, .bool false, .bool false, .string ⟨#[116, 114, 121, 108, 111, 99, 107]⟩, .bool true, .bool false, .bool false, .bool true, .bool false, .bool false, .bool false, .string ⟨#[119, 97, 105, 116]⟩, .bool false, .bool false, .bool false, .bool true, .bool true, .bool false, .bool false, .string ⟨#[115, 105, 103, 110, 97, 108]⟩, .bool false, .bool false, .bool false, .bool true, .bool false, .bool false, .bool false, .string ⟨#[98, 114, 111, 97, 100, 99, 97, 115, 116]⟩, .bool false, .bool false, .bool false, .bool true, .bool false, .bool false, .bool false, .string ⟨#[115, 112, 97, 119, 110]⟩, .bool true, .bool true, .bool false, .bool true, .bool false, .bool false, .bool false, .string ⟨#[106, 111, 105, 110]⟩, .bool false, .bool true, .bool false, .bool false, .bool false, .bool false, .bool false])).modify 1 (lay #[.string ⟨#[97, 100, 100]⟩, .string ⟨#[115, 117, 98]⟩, .string ⟨#[109, 117, 108]⟩, .string ⟨#[97, 110, 100]⟩, .string ⟨#[111, 114]⟩, .string ⟨#[120, 111, 114]⟩, .string ⟨#[101, 113]⟩, .string ⟨#[110, 101]⟩, .string ⟨#[108, 116]⟩, .string ⟨#[108, 101]⟩]) }
namespace memoryEqualL
theorem globs {W : World} (hL : laidMetH Tryd.prog Rows.memoryEqualRow.laid W) : GlobOK gd0 (FH.all W) := by
  intro g p hp
  unfold gd0 at hp
  split at hp
  · cases hp; exact glob_open hL (by kernel_rfl) (n := "modelcheck/inst.rows") (D := Rows.laid_modelcheck_inst_rows) (by simp [Rows.memoryEqualRow]) gname0 gtype0 gsok0 (by kernel_rfl)
  · cases hp; exact glob_open hL (by kernel_rfl) (n := "modelcheck/value.names") (D := Rows.laid_modelcheck_value_names) (by simp [Rows.memoryEqualRow]) gname1 gtype1 gsok1 (by kernel_rfl)
  · cases hp
theorem laid_met (os : Os) : laidMet Tryd.prog Rows.memoryEqualRow.laid ((laidWorld os).forCall (fun _ _ => 0) ⟨#[], #[.agg #[.slice none 0 0, .slice none 0 0, .slice none 0 0, .slice none 0 0], .agg #[.slice none 0 0, .slice none 0 0, .slice none 0 0, .slice none 0 0]], []⟩).memory :=
  laidMet_of_run' 20 (by kernel_rfl) (by kernel_rfl)
theorem reads (os : Os) {H : Type} (enc : TypeId × Value → H) : ∃ places, DataW.whole enc Tryd.prog ((laidWorld os).forCall (fun _ _ => 0) ⟨#[], #[.agg #[.slice none 0 0, .slice none 0 0, .slice none 0 0, .slice none 0 0], .agg #[.slice none 0 0, .slice none 0 0, .slice none 0 0, .slice none 0 0]], []⟩).memory Tryd.f7.params.toList Rows.memoryEqualSpec.vars false (#[.agg #[.slice none 0 0, .slice none 0 0, .slice none 0 0, .slice none 0 0], .agg #[.slice none 0 0, .slice none 0 0, .slice none 0 0, .slice none 0 0]] : Array Value).toList 20 = some ([.agg [.nil, .nil, .nil, .nil], .agg [.nil, .nil, .nil, .nil]], [], places) :=
  ⟨[], by kernel_rfl⟩
theorem lifted (os : Os) (started : os.Started) (H : Type) (enc : TypeId × Value → H) (F : Stop.Interp) :
    ReturnsInHanded {} Tryd.checked os 7 .any ((OpenSpec.ofChange Rows.memoryEqualSpec).preRow enc Tryd.prog Tryd.f7 Rows.memoryEqualRow.domain false Rows.memoryEqualRow.laid) (((OpenSpec.ofChange Rows.memoryEqualSpec).at F).post enc Tryd.prog Tryd.f7 false true false false) := by
  obtain ⟨places, hx⟩ := reads os enc
  refine returnsInHanded_of_row (C := Tryd.checked) (s := OpenSpec.ofChange Rows.memoryEqualSpec) own started (by kernel_rfl) Tryd.func7
    (witness_row_at (enc := enc) (C := Tryd.checked) false (laidWorld os) #[.agg #[.slice none 0 0, .slice none 0 0, .slice none 0 0, .slice none 0 0], .agg #[.slice none 0 0, .slice none 0 0, .slice none 0 0, .slice none 0 0]] rfl (by kernel_rfl) (by kernel_rfl) (by kernel_rfl)
      (OpenSpec.preRow_of_cond 20 hx (by kernel_rfl) (fun k hk => by cases hk) (by kernel_rfl) (laid_met os))) ?_
  intro W base args ds gs before hval hW _ hcond hwt hL _ _
  refine call_true (fn := Tryd.f7) f7_met laidOut rowed full (by decide +kernel) (t := 4) (by kernel_rfl) (by kernel_rfl) rfl (by kernel_rfl) (fun _ => rfl) (fun d hd hwf => ?_) hval hW (globs hL)
  match ds, rdats_len hd with
  | [d0, d1], _ => exact ⟨rfl, by trivial⟩
theorem said : Rows.MemoryEqualSaid :=
  OpenClaim.holds_of_cond 7 Tryd.f7 rfl rfl rfl rfl rfl rfl rfl ⟨rfl, rfl, rfl, rfl, rfl⟩ rfl rfl rfl rfl rfl (by kernel_rfl) Tryd.func7 (by kernel_rfl)
    (of_decide_eq_true (by kernel_rfl)) (by unfold Func.isWrapper; first | (rw [if_pos (by decide +kernel)]; kernel_rfl) | (rw [if_neg (by decide +kernel)]; exact ⟨rfl, rfl⟩))
    (fun os started H enc _ F => by rw [OpenClaim.pre_eq_preRow]; exact lifted os started H enc F)
theorem plain (f : FuncId) (fn : Func) (hf : Tryd.pinned.checked.prog.funcNamed "modelcheck/modelchecklaw21.MemoryEqual" = some f) (hfn : Tryd.pinned.checked.prog.funcs[f]? = some fn) :
    false = Tryd.pinned.checked.prog.looks [] ∧ ∀ (j : Nat) t, fn.params[j]? = some t → Tryd.pinned.checked.prog.wantsStandIn t = false := by
  obtain rfl : f = 7 := Option.some.inj ((show Tryd.prog.funcNamed "modelcheck/modelchecklaw21.MemoryEqual" = some 7 by kernel_rfl).symm.trans hf) |>.symm
  obtain rfl : fn = Tryd.f7 := (Option.some.inj (Tryd.func7.symm.trans hfn)).symm
  refine ⟨by kernel_rfl, fun j t ht => ?_⟩
  have hm : t ∈ Tryd.f7.params.toList := List.mem_of_getElem? (by simpa using ht)
  have key : ∀ t ∈ Tryd.f7.params.toList, Tryd.prog.wantsStandIn t = false := by decide +kernel
  exact key t hm
theorem card : Rows.MemoryEqualCardSaid :=
  Claim7.holds_tied_plain_at .later [] _ _ _ _ said (fun _ h => by cases h) (by kernel_rfl) (fun _ h => by cases h) memoryEqual_row_tie rfl ⟨rfl, rfl⟩ (by kernel_rfl) rfl plain (by kernel_rfl)
end memoryEqualL
end Go.Proofs.YtkgjfkdcnoockaaDoor
