/- The Program chapter, part 9: the references, the check. -/
import Derived.Test.YtiikkjlghfhgcaaDoorPV8
set_option linter.unusedSimpArgs false
set_option linter.unusedVariables false
set_option maxRecDepth 100000
namespace Go.Proofs.YtiikkjlghfhgcaaDoor
open Go Go.Eng

@[reducible] def ctrVN : CT := { ps := [.str], pre := fun d => True, res := fun d => ([], vB (validN d.1)) }
@[reducible] def cl24 : List (Nat × CT) := []
@[reducible] def ann24 (s : ByteArray) : Nat → Option (St → Ann) := fun k => match k with
  | 4 => some fun _ => .inv { α := Nat, slots := fun k => [(3, .c (.v (.int .i64 k)))], res := fun k => [], inv := fun k => k ≤ ((List.range s.size)).length ∧ ∀ j < k, (letS (byt s j) = true ∨ (j ≠ 0 ∧ okB (byt s j) = true)), meas := fun k => ((List.range s.size)).length - k }
  | _ => none
set_option maxRecDepth 100000 in
theorem f24_vc (s : ByteArray) :
    br (decide ((↑s.size : Int) < (1 : Int)) || decide ((16 : Int) < (↑s.size : Int))) (([] : List Go.Eng.Res) = [] ∧ Ent.one (SV.c (SC.v (Value.bool (validN s)))) = Ent.one (SV.c (SC.v (Value.bool false)))) ((∃ x, (x ≤ (List.range s.size).length ∧ ∀ (j : Nat), j < x → letS (byt s j) = true ∨ j ≠ (0 : Nat) ∧ okB (byt s j) = true) ∧ (SV.c (SC.v (Value.int IntKind.i64 (0 : Int))) = SV.c (SC.v (Value.int IntKind.i64 (↑x : Int))) ∧ True) ∧ ([] : List (Go.Eng.Gd × Go.Eng.Res)) = []) ∧ ∀ (x : Nat), (x ≤ (List.range s.size).length ∧ ∀ (j : Nat), j < x → letS (byt s j) = true ∨ j ≠ (0 : Nat) ∧ okB (byt s j) = true) → br (decide ((↑x : Int) < (↑s.size : Int))) (((0 : Int) ≤ (↑x : Int) ∧ (↑x : Int) < (↑s.size : Int)) ∧ ∀ (u : UInt8), s[(↑x : Int).toNat]? = some u → br (!(decide ((97 : Int) ≤ (↑u.toNat : Int)) && decide ((↑u.toNat : Int) ≤ (122 : Int)) || decide ((65 : Int) ≤ (↑u.toNat : Int)) && decide ((↑u.toNat : Int) ≤ (90 : Int))) && (decide ((↑x : Int) = (0 : Int)) || !decide ((↑u.toNat : Int) = (95 : Int)) && (decide ((↑u.toNat : Int) < (48 : Int)) || decide ((57 : Int) < (↑u.toNat : Int))))) (([] : List Go.Eng.Res) = [] ∧ Ent.one (SV.c (SC.v (Value.bool (validN s)))) = Ent.one (SV.c (SC.v (Value.bool false)))) (InR IntKind.i64 ((↑x : Int) + (1 : Int)) ∧ ∃ x', (x' ≤ (List.range s.size).length ∧ ∀ (j : Nat), j < x' → letS (byt s j) = true ∨ j ≠ (0 : Nat) ∧ okB (byt s j) = true) ∧ (SV.c (SC.v (Value.int IntKind.i64 ((↑x : Int) + (1 : Int)))) = SV.c (SC.v (Value.int IntKind.i64 (↑x' : Int))) ∧ True) ∧ ([] : List (Go.Eng.Gd × Go.Eng.Res)) = [] ∧ (List.range s.size).length - x' < (List.range s.size).length - x)) (([] : List Go.Eng.Res) = [] ∧ Ent.one (SV.c (SC.v (Value.bool (validN s)))) = Ent.one (SV.c (SC.v (Value.bool true))))) := by
  have hl : (List.range s.size).length = s.size := List.length_range
  rw [hl]
  by_cases hs : ¬ (1 ≤ s.size ∧ s.size ≤ 16)
  · have : validN s = false := by unfold validN; rw [decide_eq_false hs]; rfl
    rw [this]
    refine br_iff.2 ⟨fun _ => ⟨rfl, rfl⟩, fun h => ?_⟩
    simp only [Bool.or_eq_false_iff, decide_eq_false_iff_not] at h
    omega
  have hs := Classical.not_not.1 hs
  refine br_iff.2 ⟨fun h => ?_, fun _ => ⟨⟨0, ⟨by omega, fun j hj => by omega⟩, ⟨rfl, trivial⟩, rfl⟩, fun k hk => br_iff.2 ⟨fun h => ?_, fun h => ?_⟩⟩⟩
  · simp only [Bool.or_eq_true, decide_eq_true_eq] at h
    omega
  · simp only [decide_eq_true_eq] at h
    have hN : (↑k : Int).toNat = k := by omega
    rw [hN]
    refine ⟨by omega, fun u hu => ?_⟩
    have eu := byt_of hu
    have eL : letS (byt s k) = (decide (97 ≤ (↑u.toNat : Int)) && decide ((↑u.toNat : Int) ≤ 122) || decide (65 ≤ (↑u.toNat : Int)) && decide ((↑u.toNat : Int) ≤ 90)) := by
      rw [eu]; unfold letS; rw [Bool.eq_iff_iff]; simp
    rw [← eL]
    refine br_iff.2 ⟨fun h2 => ⟨rfl, ?_⟩, fun h2 => ⟨InR_i64.2 (by omega), k + 1, ⟨by omega, fun j hj => ?_⟩, ⟨rfl, trivial⟩, rfl, by omega⟩⟩
    · have : validN s = false := by
        simp only [Bool.and_eq_true, Bool.or_eq_true, Bool.not_eq_true', decide_eq_true_eq, decide_eq_false_iff_not] at h2
        obtain ⟨a, b⟩ := h2
        unfold validN
        rcases b with b | b
        · have : k = 0 := by omega
          subst this
          rw [a]; simp
        · have hb : okB (byt s k) = false := by
            unfold okB
            rw [a, eu]; simp; omega
          rw [show ((List.range s.size).all fun i => okB (byt s i)) = false from List.all_eq_false.2 ⟨k, by simp; omega, by rw [hb]; simp⟩, Bool.and_false]
      rw [this]
    · by_cases hjk : j = k
      · subst hjk
        cases hA : letS (byt s j) with
        | true => exact .inl rfl
        | false =>
          rw [hA] at h2
          refine .inr ?_
          simp at h2
          refine ⟨by omega, ?_⟩
          unfold okB
          rw [eu]; simp; omega
      · exact hk.2 j (by omega)
  · simp only [decide_eq_false_iff_not] at h
    have : validN s = true := by
      unfold validN
      have h0 : letS (byt s 0) = true := (hk.2 0 (by omega)).elim id fun q => absurd rfl q.1
      rw [decide_eq_true hs, h0]
      simp only [Bool.true_and]
      rw [List.all_eq_true]
      intro i hi
      simp at hi
      rcases hk.2 i (by omega) with q | q
      · unfold okB; rw [q]; rfl
      · exact q.2
    rw [this]; exact ⟨rfl, rfl⟩
set_option maxHeartbeats 2000000 in
set_option maxRecDepth 100000 in
theorem f24_met : Go.Eng.Met Tryd.prog cx0.gd 24 ctrVN :=
  met_of (cx := cx0) (n := 55) (cl := cl24) (by kernel_rfl) tis_ok trivial Tryd.func24 (by kernel_rfl) (by kernel_rfl) rfl (by kernel_rfl) (by kernel_rfl) fun d hd => by
    obtain ⟨s, ⟨⟩⟩ := d
    exact ex_of (ann24 s) (f24_vc s) (by kernel_rfl)
@[reducible] def ctrNms : CT := { ps := [.sl .str], pre := fun d => d.1.length ≤ 1000000, res := fun d => ([], .tup [.c (.v (.int .i64 (if (nmsE d.1).1 = 0 then 0 else (nmsE d.1).2))), .c (.v (.int .i64 (nmsE d.1).1))]) }
@[reducible] def cl37 : List (Nat × CT) := [(24, ctrVN)]
@[reducible] def ann37 (l : List ByteArray) : Nat → Option (St → Ann) := fun k => match k with
  | 2 => some fun _ => .inv { α := Nat, slots := fun k => [(4, .c (.v (.int .i64 k)))], res := fun _ => [], inv := fun k => k ≤ l.length ∧ ∀ j < k, validN (l.getD j ⟨#[]⟩) = true ∧ hasS (l.take j) (l.getD j ⟨#[]⟩) = false, meas := fun k => l.length - k }
  | 7 => some fun s => .inv { α := Nat, slots := fun k => [(5, .c (.v (.int .i64 k)))], res := fun _ => [], inv := fun k => k ≤ (slotI s 4).toNat ∧ ∀ j < k, ¬ l.getD j ⟨#[]⟩ = l.getD ((slotI s 4).toNat) ⟨#[]⟩, meas := fun k => (slotI s 4).toNat - k }
  | _ => none
set_option maxRecDepth 100000 in
theorem f37_vc (l : List ByteArray) (hpre : ctrNms.pre (l, ())) :
    (∃ x, (x ≤ l.length ∧ ∀ (j : Nat), j < x → validN (l.getD j { data := #[] : ByteArray }) = true ∧ hasS (List.take j l) (l.getD j { data := #[] : ByteArray }) = false) ∧ (SV.c (SC.v (Value.int IntKind.i64 (0 : Int))) = SV.c (SC.v (Value.int IntKind.i64 (↑x : Int))) ∧ True) ∧ ([] : List (Go.Eng.Gd × Go.Eng.Res)) = []) ∧ ∀ (x : Nat), (x ≤ l.length ∧ ∀ (j : Nat), j < x → validN (l.getD j { data := #[] : ByteArray }) = true ∧ hasS (List.take j l) (l.getD j { data := #[] : ByteArray }) = false) → br (decide ((↑x : Int) < (↑l.length : Int))) (((0 : Int) ≤ (↑x : Int) ∧ (↑x : Int) < (↑l.length : Int)) ∧ ∀ (d : ByteArray), l[(↑x : Int).toNat]? = some d → True ∧ br (!validN d) (([] : List Go.Eng.Res) = [] ∧ Ent.tup [SV.c (SC.v (Value.int IntKind.i64 (if (nmsE l).fst = (0 : Int) then (0 : Int) else (nmsE l).snd))), SV.c (SC.v (Value.int IntKind.i64 (nmsE l).fst))] = Ent.tup [SV.c (SC.v (Value.int IntKind.i64 (↑x : Int))), SV.c (SC.v (Value.int IntKind.i64 (6 : Int)))]) ((∃ x_1, (x_1 ≤ (↑x : Int).toNat ∧ ∀ (j : Nat), j < x_1 → ¬l.getD j { data := #[] : ByteArray } = l.getD (↑x : Int).toNat { data := #[] : ByteArray }) ∧ (SV.c (SC.v (Value.int IntKind.i64 (0 : Int))) = SV.c (SC.v (Value.int IntKind.i64 (↑x_1 : Int))) ∧ True) ∧ ([] : List (Go.Eng.Gd × Go.Eng.Res)) = []) ∧ ∀ (x_1 : Nat), (x_1 ≤ (↑x : Int).toNat ∧ ∀ (j : Nat), j < x_1 → ¬l.getD j { data := #[] : ByteArray } = l.getD (↑x : Int).toNat { data := #[] : ByteArray }) → br (decide ((↑x_1 : Int) < (↑x : Int))) (((0 : Int) ≤ (↑x_1 : Int) ∧ (↑x_1 : Int) < (↑l.length : Int)) ∧ ∀ (d_1 : ByteArray), l[(↑x_1 : Int).toNat]? = some d_1 → ((0 : Int) ≤ (↑x : Int) ∧ (↑x : Int) < (↑l.length : Int)) ∧ ∀ (d_2 : ByteArray), l[(↑x : Int).toNat]? = some d_2 → br (decide (d_1 = d_2)) (([] : List Go.Eng.Res) = [] ∧ Ent.tup [SV.c (SC.v (Value.int IntKind.i64 (if (nmsE l).fst = (0 : Int) then (0 : Int) else (nmsE l).snd))), SV.c (SC.v (Value.int IntKind.i64 (nmsE l).fst))] = Ent.tup [SV.c (SC.v (Value.int IntKind.i64 (↑x : Int))), SV.c (SC.v (Value.int IntKind.i64 (7 : Int)))]) (InR IntKind.i64 ((↑x_1 : Int) + (1 : Int)) ∧ ∃ x', (x' ≤ (↑x : Int).toNat ∧ ∀ (j : Nat), j < x' → ¬l.getD j { data := #[] : ByteArray } = l.getD (↑x : Int).toNat { data := #[] : ByteArray }) ∧ (SV.c (SC.v (Value.int IntKind.i64 ((↑x_1 : Int) + (1 : Int)))) = SV.c (SC.v (Value.int IntKind.i64 (↑x' : Int))) ∧ True) ∧ ([] : List (Go.Eng.Gd × Go.Eng.Res)) = [] ∧ (↑x : Int).toNat - x' < (↑x : Int).toNat - x_1)) (InR IntKind.i64 ((↑x : Int) + (1 : Int)) ∧ ∃ x', (x' ≤ l.length ∧ ∀ (j : Nat), j < x' → validN (l.getD j { data := #[] : ByteArray }) = true ∧ hasS (List.take j l) (l.getD j { data := #[] : ByteArray }) = false) ∧ (SV.c (SC.v (Value.int IntKind.i64 ((↑x : Int) + (1 : Int)))) = SV.c (SC.v (Value.int IntKind.i64 (↑x' : Int))) ∧ True) ∧ ([] : List (Go.Eng.Gd × Go.Eng.Res)) = [] ∧ l.length - x' < l.length - x))) (([] : List Go.Eng.Res) = [] ∧ Ent.tup [SV.c (SC.v (Value.int IntKind.i64 (if (nmsE l).fst = (0 : Int) then (0 : Int) else (nmsE l).snd))), SV.c (SC.v (Value.int IntKind.i64 (nmsE l).fst))] = Ent.tup [SV.c (SC.v (Value.int IntKind.i64 (0 : Int))), SV.c (SC.v (Value.int IntKind.i64 (0 : Int)))]) := by
  have hp : l.length ≤ 1000000 := hpre
  refine ⟨⟨0, ⟨by omega, fun j hj => by omega⟩, ⟨rfl, trivial⟩, rfl⟩, fun k hk => br_iff.2 ⟨fun h => ?_, fun h => ?_⟩⟩
  · simp only [decide_eq_true_eq] at h
    have hN : (↑k : Int).toNat = k := by omega
    rw [hN]
    refine ⟨by omega, fun d hd => ?_⟩
    have hg : l.getD k ⟨#[]⟩ = d := by rw [List.getD_eq_getElem?_getD, hd]; rfl
    refine ⟨trivial, br_iff.2 ⟨fun h2 => ⟨rfl, ?_⟩, fun h2 => ⟨⟨0, ⟨by omega, fun j hj => by omega⟩, ⟨rfl, trivial⟩, rfl⟩, fun m hm => br_iff.2 ⟨fun h3 => ?_, fun h3 => ⟨InR_i64.2 (by omega), k + 1, ⟨by omega, fun j hj => ?_⟩, ⟨rfl, trivial⟩, rfl, by omega⟩⟩⟩⟩⟩
    · have h2 : validN d = false := by simpa using h2
      rw [nms_found (by omega) hk.2 (.inl (by rw [hg]; exact h2)), hg, h2]; rfl
    · simp only [decide_eq_true_eq] at h3
      have hM : (↑m : Int).toNat = m := by omega
      rw [hM]
      refine ⟨by omega, fun d1 hd1 => ⟨by omega, fun d2 hd2 => ?_⟩⟩
      rw [hd] at hd2; cases hd2
      have hg1 : l.getD m ⟨#[]⟩ = d1 := by rw [List.getD_eq_getElem?_getD, hd1]; rfl
      refine br_iff.2 ⟨fun h4 => ⟨rfl, ?_⟩, fun h4 => ⟨InR_i64.2 (by omega), m + 1, ⟨by omega, fun j hj => ?_⟩, ⟨rfl, trivial⟩, rfl, by omega⟩⟩
      · have h3' : hasS (l.take k) d = true := List.any_eq_true.2 ⟨d1, List.mem_of_getElem? (i := m) (by rw [List.getElem?_take_of_lt (by omega)]; exact hd1), h4⟩
        have h2v : validN d = true := by simpa using h2
        rw [nms_found (by omega) hk.2 (.inr (by rw [hg]; exact h3')), hg, h2v]; rfl
      · by_cases hjm : j = m
        · subst hjm
          rw [hg1, hg]; simpa using h4
        · exact hm.2 j (by omega)
    · simp only [decide_eq_false_iff_not] at h3
      by_cases hjk : j = k
      · subst hjk
        rw [hg]
        refine ⟨by simpa using h2, ?_⟩
        unfold hasS
        rw [List.any_eq_false]
        intro y hy
        obtain ⟨i, hi⟩ := List.getElem?_of_mem hy
        have hij : i < j := by
          have := (List.getElem?_eq_some_iff.1 hi).1
          simp at this; omega
        rw [List.getElem?_take_of_lt hij] at hi
        have := hm.2 i (by omega)
        rw [hg, List.getD_eq_getElem?_getD, hi] at this
        simpa using this
      · exact hk.2 j (by omega)
  · simp only [decide_eq_false_iff_not] at h
    rw [nms_none fun j hj => hk.2 j (by omega)]; exact ⟨rfl, rfl⟩
set_option maxHeartbeats 2000000 in
set_option maxRecDepth 100000 in
theorem f37_met : Go.Eng.Met Tryd.prog cx0.gd 37 ctrNms :=
  met_of (cx := cx0) (n := 34) (cl := cl37) (by kernel_rfl) tis_ok ⟨f24_met, trivial⟩ Tryd.func37 (by kernel_rfl) (by kernel_rfl) rfl (by kernel_rfl) (by kernel_rfl) fun d hd => by
    obtain ⟨l, ⟨⟩⟩ := d
    exact ex_of (ann37 l) (f37_vc l hd) (by kernel_rfl)
@[reducible] def ctrLs : CT := { ps := [shP], pre := fun d => d.1.1.length ≤ 1000000 ∧ d.1.2.2.2.1.length ≤ 1000000, res := fun d => ([.row 9 .str (nmsV d.1.1), .row 9 .str (nmsF d.1.2.2.2.1)], .tup [.c (.row 0), .c (.row 1)]) }
@[reducible] def cl36 : List (Nat × CT) := []
@[reducible] def ann36 (vs : List VD) (ms : List ByteArray) (cs : List ByteArray) (fs : List FD) (ts : List SD) : Nat → Option (St → Ann) := fun k => match k with
  | 3 => some fun _ => .inv { α := Nat, slots := fun k => [(6, .c (.v (.int .i64 k))), (4, .c (.row 1))], res := fun k => [(1, .row 9 .str (nmsV (vs.take k)))], inv := fun k => k ≤ vs.length, meas := fun k => vs.length - k, nil := [(4, 9, .str)] }
  | 7 => some fun _ => .inv { α := Nat, slots := fun k => [(7, .c (.v (.int .i64 k))), (5, .c (.row 2))], res := fun k => [(2, .row 9 .str (nmsF (fs.take k)))], inv := fun k => k ≤ fs.length, meas := fun k => fs.length - k, nil := [(5, 9, .str)] }
  | _ => none
set_option maxRecDepth 100000 in
theorem f36_vc (vs : List VD) (ms : List ByteArray) (cs : List ByteArray) (fs : List FD) (ts : List SD) (hpre : ctrLs.pre ((vs, ms, cs, fs, ts, ()), ())) :
    (∃ x, x ≤ vs.length ∧ (SV.c (SC.v (Value.int IntKind.i64 (0 : Int))) = SV.c (SC.v (Value.int IntKind.i64 (↑x : Int))) ∧ SV.c (SC.row (Nat.succ (0 : Nat))) = SV.c (SC.row (1 : Nat)) ∧ True) ∧ [(([] : Go.Eng.Gd), Res.blk (27 : Nat) [SC.sl (Sh.str.pair ((Sh.int IntKind.i64).pair Sh.unit)) vs, SC.sl Sh.str ms, SC.sl Sh.str cs, SC.sl (Sh.str.pair (((Sh.int IntKind.i64).pair ((Sh.int IntKind.i64).pair ((Sh.int IntKind.i64).pair ((Sh.int IntKind.i64).pair ((Sh.int IntKind.i64).pair ((Sh.int IntKind.i64).pair ((Sh.int IntKind.i64).pair ((Sh.int IntKind.i64).pair Sh.unit)))))))).sl.pair Sh.unit)) fs, SC.sl ((Sh.int IntKind.i64).pair ((Sh.int IntKind.i64).pair Sh.unit)) ts]), (([] : Go.Eng.Gd), Res.row (9 : TypeId) Sh.str [])] = [(([] : Go.Eng.Gd), Res.blk (27 : Nat) [SC.sl (Sh.str.pair ((Sh.int IntKind.i64).pair Sh.unit)) vs, SC.sl Sh.str ms, SC.sl Sh.str cs, SC.sl (Sh.str.pair (((Sh.int IntKind.i64).pair ((Sh.int IntKind.i64).pair ((Sh.int IntKind.i64).pair ((Sh.int IntKind.i64).pair ((Sh.int IntKind.i64).pair ((Sh.int IntKind.i64).pair ((Sh.int IntKind.i64).pair ((Sh.int IntKind.i64).pair Sh.unit)))))))).sl.pair Sh.unit)) fs, SC.sl ((Sh.int IntKind.i64).pair ((Sh.int IntKind.i64).pair Sh.unit)) ts]), (([] : Go.Eng.Gd), Res.row (9 : TypeId) Sh.str (nmsV (List.take x vs)))]) ∧ ∀ (x : Nat), x ≤ vs.length → br (decide ((↑x : Int) < (↑vs.length : Int))) (((0 : Int) ≤ (↑x : Int) ∧ (↑x : Int) < (↑vs.length : Int)) ∧ ∀ (d : Sh.str.den × ((Sh.int IntKind.i64).pair Sh.unit).den), vs[(↑x : Int).toNat]? = some d → InA (List.length (nmsV (List.take x vs)) + List.length ([d.fst])) (16 : Nat) ∧ InR IntKind.i64 ((↑x : Int) + (1 : Int)) ∧ ∃ x', x' ≤ vs.length ∧ (SV.c (SC.v (Value.int IntKind.i64 ((↑x : Int) + (1 : Int)))) = SV.c (SC.v (Value.int IntKind.i64 (↑x' : Int))) ∧ SV.c (SC.row (1 : Nat)) = SV.c (SC.row (1 : Nat)) ∧ True) ∧ [(([] : Go.Eng.Gd), Res.blk (27 : Nat) [SC.sl (Sh.str.pair ((Sh.int IntKind.i64).pair Sh.unit)) vs, SC.sl Sh.str ms, SC.sl Sh.str cs, SC.sl (Sh.str.pair (((Sh.int IntKind.i64).pair ((Sh.int IntKind.i64).pair ((Sh.int IntKind.i64).pair ((Sh.int IntKind.i64).pair ((Sh.int IntKind.i64).pair ((Sh.int IntKind.i64).pair ((Sh.int IntKind.i64).pair ((Sh.int IntKind.i64).pair Sh.unit)))))))).sl.pair Sh.unit)) fs, SC.sl ((Sh.int IntKind.i64).pair ((Sh.int IntKind.i64).pair Sh.unit)) ts]), (([] : Go.Eng.Gd), Res.row (9 : TypeId) Sh.str (nmsV (List.take x vs) ++ [d.fst]))] = [(([] : Go.Eng.Gd), Res.blk (27 : Nat) [SC.sl (Sh.str.pair ((Sh.int IntKind.i64).pair Sh.unit)) vs, SC.sl Sh.str ms, SC.sl Sh.str cs, SC.sl (Sh.str.pair (((Sh.int IntKind.i64).pair ((Sh.int IntKind.i64).pair ((Sh.int IntKind.i64).pair ((Sh.int IntKind.i64).pair ((Sh.int IntKind.i64).pair ((Sh.int IntKind.i64).pair ((Sh.int IntKind.i64).pair ((Sh.int IntKind.i64).pair Sh.unit)))))))).sl.pair Sh.unit)) fs, SC.sl ((Sh.int IntKind.i64).pair ((Sh.int IntKind.i64).pair Sh.unit)) ts]), (([] : Go.Eng.Gd), Res.row (9 : TypeId) Sh.str (nmsV (List.take x' vs)))] ∧ vs.length - x' < vs.length - x) ((∃ x_1, x_1 ≤ fs.length ∧ (SV.c (SC.v (Value.int IntKind.i64 (0 : Int))) = SV.c (SC.v (Value.int IntKind.i64 (↑x_1 : Int))) ∧ SV.c (SC.row (Nat.succ (0 : Nat)).succ) = SV.c (SC.row (2 : Nat)) ∧ True) ∧ [(([] : Go.Eng.Gd), Res.blk (27 : Nat) [SC.sl (Sh.str.pair ((Sh.int IntKind.i64).pair Sh.unit)) vs, SC.sl Sh.str ms, SC.sl Sh.str cs, SC.sl (Sh.str.pair (((Sh.int IntKind.i64).pair ((Sh.int IntKind.i64).pair ((Sh.int IntKind.i64).pair ((Sh.int IntKind.i64).pair ((Sh.int IntKind.i64).pair ((Sh.int IntKind.i64).pair ((Sh.int IntKind.i64).pair ((Sh.int IntKind.i64).pair Sh.unit)))))))).sl.pair Sh.unit)) fs, SC.sl ((Sh.int IntKind.i64).pair ((Sh.int IntKind.i64).pair Sh.unit)) ts]), (([] : Go.Eng.Gd), Res.row (9 : TypeId) Sh.str (nmsV (List.take x vs))), (([] : Go.Eng.Gd), Res.row (9 : TypeId) Sh.str [])] = [(([] : Go.Eng.Gd), Res.blk (27 : Nat) [SC.sl (Sh.str.pair ((Sh.int IntKind.i64).pair Sh.unit)) vs, SC.sl Sh.str ms, SC.sl Sh.str cs, SC.sl (Sh.str.pair (((Sh.int IntKind.i64).pair ((Sh.int IntKind.i64).pair ((Sh.int IntKind.i64).pair ((Sh.int IntKind.i64).pair ((Sh.int IntKind.i64).pair ((Sh.int IntKind.i64).pair ((Sh.int IntKind.i64).pair ((Sh.int IntKind.i64).pair Sh.unit)))))))).sl.pair Sh.unit)) fs, SC.sl ((Sh.int IntKind.i64).pair ((Sh.int IntKind.i64).pair Sh.unit)) ts]), (([] : Go.Eng.Gd), Res.row (9 : TypeId) Sh.str (nmsV (List.take x vs))), (([] : Go.Eng.Gd), Res.row (9 : TypeId) Sh.str (nmsF (List.take x_1 fs)))]) ∧ ∀ (x_1 : Nat), x_1 ≤ fs.length → br (decide ((↑x_1 : Int) < (↑fs.length : Int))) (((0 : Int) ≤ (↑x_1 : Int) ∧ (↑x_1 : Int) < (↑fs.length : Int)) ∧ ∀ (d : Sh.str.den × (((Sh.int IntKind.i64).pair ((Sh.int IntKind.i64).pair ((Sh.int IntKind.i64).pair ((Sh.int IntKind.i64).pair ((Sh.int IntKind.i64).pair ((Sh.int IntKind.i64).pair ((Sh.int IntKind.i64).pair ((Sh.int IntKind.i64).pair Sh.unit)))))))).sl.pair Sh.unit).den), fs[(↑x_1 : Int).toNat]? = some d → InA (List.length (nmsF (List.take x_1 fs)) + List.length ([d.fst])) (16 : Nat) ∧ InR IntKind.i64 ((↑x_1 : Int) + (1 : Int)) ∧ ∃ x', x' ≤ fs.length ∧ (SV.c (SC.v (Value.int IntKind.i64 ((↑x_1 : Int) + (1 : Int)))) = SV.c (SC.v (Value.int IntKind.i64 (↑x' : Int))) ∧ SV.c (SC.row (2 : Nat)) = SV.c (SC.row (2 : Nat)) ∧ True) ∧ [(([] : Go.Eng.Gd), Res.blk (27 : Nat) [SC.sl (Sh.str.pair ((Sh.int IntKind.i64).pair Sh.unit)) vs, SC.sl Sh.str ms, SC.sl Sh.str cs, SC.sl (Sh.str.pair (((Sh.int IntKind.i64).pair ((Sh.int IntKind.i64).pair ((Sh.int IntKind.i64).pair ((Sh.int IntKind.i64).pair ((Sh.int IntKind.i64).pair ((Sh.int IntKind.i64).pair ((Sh.int IntKind.i64).pair ((Sh.int IntKind.i64).pair Sh.unit)))))))).sl.pair Sh.unit)) fs, SC.sl ((Sh.int IntKind.i64).pair ((Sh.int IntKind.i64).pair Sh.unit)) ts]), (([] : Go.Eng.Gd), Res.row (9 : TypeId) Sh.str (nmsV (List.take x vs))), (([] : Go.Eng.Gd), Res.row (9 : TypeId) Sh.str (nmsF (List.take x_1 fs) ++ [d.fst]))] = [(([] : Go.Eng.Gd), Res.blk (27 : Nat) [SC.sl (Sh.str.pair ((Sh.int IntKind.i64).pair Sh.unit)) vs, SC.sl Sh.str ms, SC.sl Sh.str cs, SC.sl (Sh.str.pair (((Sh.int IntKind.i64).pair ((Sh.int IntKind.i64).pair ((Sh.int IntKind.i64).pair ((Sh.int IntKind.i64).pair ((Sh.int IntKind.i64).pair ((Sh.int IntKind.i64).pair ((Sh.int IntKind.i64).pair ((Sh.int IntKind.i64).pair Sh.unit)))))))).sl.pair Sh.unit)) fs, SC.sl ((Sh.int IntKind.i64).pair ((Sh.int IntKind.i64).pair Sh.unit)) ts]), (([] : Go.Eng.Gd), Res.row (9 : TypeId) Sh.str (nmsV (List.take x vs))), (([] : Go.Eng.Gd), Res.row (9 : TypeId) Sh.str (nmsF (List.take x' fs)))] ∧ fs.length - x' < fs.length - x_1) ([Res.row (9 : TypeId) Sh.str (nmsV vs), Res.row (9 : TypeId) Sh.str (nmsF fs)] = [Res.row (9 : TypeId) Sh.str (nmsV (List.take x vs)), Res.row (9 : TypeId) Sh.str (nmsF (List.take x_1 fs))] ∧ Ent.tup [SV.c (SC.row (0 : Nat)), SV.c (SC.row (1 : Nat))] = Ent.tup [SV.c (SC.row (0 : Nat)), SV.c (SC.row (Nat.succ (0 : Nat)))])) := by
  obtain ⟨hp1, hp2⟩ : vs.length ≤ 1000000 ∧ fs.length ≤ 1000000 := hpre
  refine ⟨⟨0, by omega, ⟨rfl, rfl, trivial⟩, rfl⟩, fun k hk => br_iff.2 ⟨fun h => ?_, fun h => ⟨⟨0, by omega, ⟨rfl, rfl, trivial⟩, rfl⟩, fun m hm => br_iff.2 ⟨fun h2 => ?_, fun h2 => ?_⟩⟩⟩⟩
  · simp only [decide_eq_true_eq] at h
    refine ⟨by omega, fun d hd => ?_⟩
    have hd : vs[k]? = some d := by simpa using hd
    have e : nmsV (vs.take (k + 1)) = nmsV (vs.take k) ++ [d.1] := by
      unfold nmsV
      rw [List.take_add_one, hd]; simp
    refine ⟨?_, InR_i64.2 (by omega), k + 1, by omega, ⟨rfl, rfl, trivial⟩, ?_, by omega⟩
    · have : (nmsV (vs.take k)).length ≤ 1000000 := by simp [nmsV]; omega
      exact InA_iff.2 (by simp only [List.length_cons, List.length_nil]; omega)
    · rw [e]
  · simp only [decide_eq_true_eq] at h2
    refine ⟨by omega, fun d hd => ?_⟩
    have hd : fs[m]? = some d := by simpa using hd
    have e : nmsF (fs.take (m + 1)) = nmsF (fs.take m) ++ [d.1] := by
      unfold nmsF
      rw [List.take_add_one, hd]; simp
    refine ⟨?_, InR_i64.2 (by omega), m + 1, by omega, ⟨rfl, rfl, trivial⟩, ?_, by omega⟩
    · have : (nmsF (fs.take m)).length ≤ 1000000 := by simp [nmsF]; omega
      exact InA_iff.2 (by simp only [List.length_cons, List.length_nil]; omega)
    · rw [e]
  · simp only [decide_eq_false_iff_not] at h h2
    rw [List.take_of_length_le (by omega), List.take_of_length_le (by omega)]; exact ⟨rfl, rfl⟩
set_option maxHeartbeats 2000000 in
set_option maxRecDepth 100000 in
theorem f36_met : Go.Eng.Met Tryd.prog cx0.gd 36 ctrLs :=
  met_of (cx := cx0) (n := 42) (cl := cl36) (by kernel_rfl) tis_ok trivial Tryd.func36 (by kernel_rfl) (by kernel_rfl) rfl (by kernel_rfl) (by kernel_rfl) fun d hd => by
    obtain ⟨⟨vs, ms, cs, fs, ts, ⟨⟩⟩, ⟨⟩⟩ := d
    exact ex_of (ann36 vs ms cs fs ts) (f36_vc vs ms cs fs ts hd) (by kernel_rfl)
/-- The first fault of a function's code, and its place. -/
def cdS (vs : List VD) (ms cs : List ByteArray) (fs : List FD) (l : List ID) : Int × Int := if 64 < l.length then (4, -1) else match l.findIdx? (fun i => decide (ciI vs ms cs fs i l.length ≠ 0)) with
  | some k => (ciI vs ms cs fs (l.getD k (0, 0, 0, 0, 0, 0, 0, 0, ())) l.length, k)
  | none => (0, -1)
theorem cd_found {vs : List VD} {ms cs : List ByteArray} {fs : List FD} {l : List ID} {k : Nat} {d : ID} (hl : ¬ 64 < l.length) (hd : l[k]? = some d) (hb : ciI vs ms cs fs d l.length ≠ 0) (hn : ∀ j < k, ∀ i, l[j]? = some i → ciI vs ms cs fs i l.length = 0) : cdS vs ms cs fs l = (ciI vs ms cs fs d l.length, (k : Int)) := by
  have hlt : k < l.length := (List.getElem?_eq_some_iff.1 hd).1
  have : l.findIdx? (fun i => decide (ciI vs ms cs fs i l.length ≠ 0)) = some k := by
    rw [List.findIdx?_eq_some_iff_getElem]
    refine ⟨hlt, by rw [(List.getElem?_eq_some_iff.1 hd).2]; simpa using hb, fun j hj => ?_⟩
    have := hn j hj l[j] (List.getElem?_eq_getElem (by omega))
    simpa using this
  unfold cdS
  rw [if_neg hl, this]
  show (ciI vs ms cs fs (l.getD k _) l.length, (k : Int)) = _
  rw [List.getD_eq_getElem?_getD, hd]; rfl
theorem cd_none {vs : List VD} {ms cs : List ByteArray} {fs : List FD} {l : List ID} (hl : ¬ 64 < l.length) (hn : ∀ (j : Nat) i, l[j]? = some i → ciI vs ms cs fs i l.length = 0) : cdS vs ms cs fs l = (0, -1) := by
  have : l.findIdx? (fun i => decide (ciI vs ms cs fs i l.length ≠ 0)) = none := by
    rw [List.findIdx?_eq_none_iff]
    intro y hy
    obtain ⟨j, hj⟩ := List.getElem?_of_mem hy
    simpa using hn j y hj
  unfold cdS
  rw [if_neg hl, this]
theorem ci_1 {vs : List VD} {ms cs : List ByteArray} {fs : List FD} {d : ID} {m : Int} (h : chkI d ≠ 0) : ciI vs ms cs fs d m = chkI d := by unfold ciI ciS; rw [if_pos h]
theorem ci_2 {vs : List VD} {ms cs : List ByteArray} {fs : List FD} {d : ID} {m : Int} (h : chkI d = 0) (h2 : exS vs ms cs fs d.1 d.2.2.2.2.1 d.2.2.2.2.2.1 = false) : ciI vs ms cs fs d m = 11 := by
  unfold exS at h2
  unfold ciI ciS
  rw [if_neg (by simpa using h)]
  split
  · rfl
  · rename_i h3
    rw [decide_eq_false h3] at h2
    rw [Bool.not_false, Bool.true_and, Bool.not_eq_false'] at h2
    rw [if_pos (of_decide_eq_true h2)]
theorem ci_3 {vs : List VD} {ms cs : List ByteArray} {fs : List FD} {d : ID} {m : Int} (h : chkI d = 0) (h2 : exS vs ms cs fs d.1 d.2.2.2.2.1 d.2.2.2.2.2.1 = true) : ciI vs ms cs fs d m = if (d.1 = 4 ∨ d.1 = 5) ∧ (d.2.2.2.2.2.1 < 0 ∨ m < d.2.2.2.2.2.1) then 12 else 0 := by
  unfold exS at h2
  rw [Bool.and_eq_true, Bool.not_eq_true', Bool.not_eq_true'] at h2
  unfold ciI ciS
  rw [if_neg (by simpa using h), if_neg (of_decide_eq_false h2.1), if_neg (of_decide_eq_false h2.2)]
@[reducible] def ctrCd : CT := { ps := [shP, shF], pre := fun d => True, res := fun d => ([], .tup [.c (.v (.int .i64 (cdS d.1.1 d.1.2.1 d.1.2.2.1 d.1.2.2.2.1 d.2.1.2.1).1)), .c (.v (.int .i64 (cdS d.1.1 d.1.2.1 d.1.2.2.1 d.1.2.2.2.1 d.2.1.2.1).2))]) }
@[reducible] def cl39 : List (Nat × CT) := [(66, ct12), (67, ctrEx)]
@[reducible] def ann39 (vs : List VD) (ms : List ByteArray) (cs : List ByteArray) (fs : List FD) (ts : List SD) (nm : ByteArray) (l : List ID) : Nat → Option (St → Ann) := fun k => match k with
  | 4 => some fun _ => .inv { α := Nat, slots := fun k => [(6, .c (.v (.int .i64 k)))], res := fun k => [], inv := fun k => k ≤ (l).length ∧ ∀ j < k, ∀ i, l[j]? = some i → ciI vs ms cs fs i l.length = 0, meas := fun k => (l).length - k }
  | _ => none
set_option maxRecDepth 100000 in
theorem f39_vc (vs : List VD) (ms : List ByteArray) (cs : List ByteArray) (fs : List FD) (ts : List SD) (nm : ByteArray) (l : List ID) :
    br (decide ((64 : Int) < (↑l.length : Int))) (([] : List Go.Eng.Res) = [] ∧ Ent.tup [SV.c (SC.v (Value.int IntKind.i64 (cdS vs ms cs fs l).fst)), SV.c (SC.v (Value.int IntKind.i64 (cdS vs ms cs fs l).snd))] = Ent.tup [SV.c (SC.v (Value.int IntKind.i64 (4 : Int))), SV.c (SC.v (Value.int IntKind.i64 (-1 : Int)))]) ((∃ x, (x ≤ l.length ∧ ∀ (j : Nat), j < x → ∀ (i : Int × Int × Int × Int × Int × Int × Int × Int × Unit), l[j]? = some i → ciS vs ms cs fs (chkS i.fst i.snd.fst i.snd.snd.fst i.snd.snd.snd.fst i.snd.snd.snd.snd.fst i.snd.snd.snd.snd.snd.fst i.snd.snd.snd.snd.snd.snd.fst i.snd.snd.snd.snd.snd.snd.snd.fst) i.fst i.snd.snd.snd.snd.fst i.snd.snd.snd.snd.snd.fst (↑l.length : Int) = (0 : Int)) ∧ (SV.c (SC.v (Value.int IntKind.i64 (0 : Int))) = SV.c (SC.v (Value.int IntKind.i64 (↑x : Int))) ∧ True) ∧ [(([] : Go.Eng.Gd), Res.blk (27 : Nat) [SC.sl (Sh.str.pair ((Sh.int IntKind.i64).pair Sh.unit)) vs, SC.sl Sh.str ms, SC.sl Sh.str cs, SC.sl (Sh.str.pair (((Sh.int IntKind.i64).pair ((Sh.int IntKind.i64).pair ((Sh.int IntKind.i64).pair ((Sh.int IntKind.i64).pair ((Sh.int IntKind.i64).pair ((Sh.int IntKind.i64).pair ((Sh.int IntKind.i64).pair ((Sh.int IntKind.i64).pair Sh.unit)))))))).sl.pair Sh.unit)) fs, SC.sl ((Sh.int IntKind.i64).pair ((Sh.int IntKind.i64).pair Sh.unit)) ts]), (([] : Go.Eng.Gd), Res.blk (44 : Nat) [SC.v (Value.string nm), SC.sl ((Sh.int IntKind.i64).pair ((Sh.int IntKind.i64).pair ((Sh.int IntKind.i64).pair ((Sh.int IntKind.i64).pair ((Sh.int IntKind.i64).pair ((Sh.int IntKind.i64).pair ((Sh.int IntKind.i64).pair ((Sh.int IntKind.i64).pair Sh.unit)))))))) l])] = [(([] : Go.Eng.Gd), Res.blk (27 : Nat) [SC.sl (Sh.str.pair ((Sh.int IntKind.i64).pair Sh.unit)) vs, SC.sl Sh.str ms, SC.sl Sh.str cs, SC.sl (Sh.str.pair (((Sh.int IntKind.i64).pair ((Sh.int IntKind.i64).pair ((Sh.int IntKind.i64).pair ((Sh.int IntKind.i64).pair ((Sh.int IntKind.i64).pair ((Sh.int IntKind.i64).pair ((Sh.int IntKind.i64).pair ((Sh.int IntKind.i64).pair Sh.unit)))))))).sl.pair Sh.unit)) fs, SC.sl ((Sh.int IntKind.i64).pair ((Sh.int IntKind.i64).pair Sh.unit)) ts]), (([] : Go.Eng.Gd), Res.blk (44 : Nat) [SC.v (Value.string nm), SC.sl ((Sh.int IntKind.i64).pair ((Sh.int IntKind.i64).pair ((Sh.int IntKind.i64).pair ((Sh.int IntKind.i64).pair ((Sh.int IntKind.i64).pair ((Sh.int IntKind.i64).pair ((Sh.int IntKind.i64).pair ((Sh.int IntKind.i64).pair Sh.unit)))))))) l])]) ∧ ∀ (x : Nat), (x ≤ l.length ∧ ∀ (j : Nat), j < x → ∀ (i : Int × Int × Int × Int × Int × Int × Int × Int × Unit), l[j]? = some i → ciS vs ms cs fs (chkS i.fst i.snd.fst i.snd.snd.fst i.snd.snd.snd.fst i.snd.snd.snd.snd.fst i.snd.snd.snd.snd.snd.fst i.snd.snd.snd.snd.snd.snd.fst i.snd.snd.snd.snd.snd.snd.snd.fst) i.fst i.snd.snd.snd.snd.fst i.snd.snd.snd.snd.snd.fst (↑l.length : Int) = (0 : Int)) → br (decide ((↑x : Int) < (↑l.length : Int))) (((0 : Int) ≤ (↑x : Int) ∧ (↑x : Int) < (↑l.length : Int)) ∧ ∀ (d : (Sh.int IntKind.i64).den × ((Sh.int IntKind.i64).pair ((Sh.int IntKind.i64).pair ((Sh.int IntKind.i64).pair ((Sh.int IntKind.i64).pair ((Sh.int IntKind.i64).pair ((Sh.int IntKind.i64).pair ((Sh.int IntKind.i64).pair Sh.unit))))))).den), l[(↑x : Int).toNat]? = some d → True ∧ br (!decide (chkS (d.fst, d.snd.fst, d.snd.snd.fst, d.snd.snd.snd.fst, d.snd.snd.snd.snd.fst, d.snd.snd.snd.snd.snd.fst, d.snd.snd.snd.snd.snd.snd.fst, d.snd.snd.snd.snd.snd.snd.snd.fst, ()).fst (d.snd.fst, d.snd.snd.fst, d.snd.snd.snd.fst, d.snd.snd.snd.snd.fst, d.snd.snd.snd.snd.snd.fst, d.snd.snd.snd.snd.snd.snd.fst, d.snd.snd.snd.snd.snd.snd.snd.fst, ()).fst (d.snd.snd.fst, d.snd.snd.snd.fst, d.snd.snd.snd.snd.fst, d.snd.snd.snd.snd.snd.fst, d.snd.snd.snd.snd.snd.snd.fst, d.snd.snd.snd.snd.snd.snd.snd.fst, ()).fst (d.snd.snd.snd.fst, d.snd.snd.snd.snd.fst, d.snd.snd.snd.snd.snd.fst, d.snd.snd.snd.snd.snd.snd.fst, d.snd.snd.snd.snd.snd.snd.snd.fst, ()).fst (d.snd.snd.snd.snd.fst, d.snd.snd.snd.snd.snd.fst, d.snd.snd.snd.snd.snd.snd.fst, d.snd.snd.snd.snd.snd.snd.snd.fst, ()).fst (d.snd.snd.snd.snd.snd.fst, d.snd.snd.snd.snd.snd.snd.fst, d.snd.snd.snd.snd.snd.snd.snd.fst, ()).fst (d.snd.snd.snd.snd.snd.snd.fst, d.snd.snd.snd.snd.snd.snd.snd.fst, ()).fst (d.snd.snd.snd.snd.snd.snd.snd.fst, ()).fst = (0 : Int))) (([] : List Go.Eng.Res) = [] ∧ Ent.tup [SV.c (SC.v (Value.int IntKind.i64 (cdS vs ms cs fs l).fst)), SV.c (SC.v (Value.int IntKind.i64 (cdS vs ms cs fs l).snd))] = Ent.tup [SV.c (SC.v (Value.int IntKind.i64 (chkS (d.fst, d.snd.fst, d.snd.snd.fst, d.snd.snd.snd.fst, d.snd.snd.snd.snd.fst, d.snd.snd.snd.snd.snd.fst, d.snd.snd.snd.snd.snd.snd.fst, d.snd.snd.snd.snd.snd.snd.snd.fst, ()).fst (d.snd.fst, d.snd.snd.fst, d.snd.snd.snd.fst, d.snd.snd.snd.snd.fst, d.snd.snd.snd.snd.snd.fst, d.snd.snd.snd.snd.snd.snd.fst, d.snd.snd.snd.snd.snd.snd.snd.fst, ()).fst (d.snd.snd.fst, d.snd.snd.snd.fst, d.snd.snd.snd.snd.fst, d.snd.snd.snd.snd.snd.fst, d.snd.snd.snd.snd.snd.snd.fst, d.snd.snd.snd.snd.snd.snd.snd.fst, ()).fst (d.snd.snd.snd.fst, d.snd.snd.snd.snd.fst, d.snd.snd.snd.snd.snd.fst, d.snd.snd.snd.snd.snd.snd.fst, d.snd.snd.snd.snd.snd.snd.snd.fst, ()).fst (d.snd.snd.snd.snd.fst, d.snd.snd.snd.snd.snd.fst, d.snd.snd.snd.snd.snd.snd.fst, d.snd.snd.snd.snd.snd.snd.snd.fst, ()).fst (d.snd.snd.snd.snd.snd.fst, d.snd.snd.snd.snd.snd.snd.fst, d.snd.snd.snd.snd.snd.snd.snd.fst, ()).fst (d.snd.snd.snd.snd.snd.snd.fst, d.snd.snd.snd.snd.snd.snd.snd.fst, ()).fst (d.snd.snd.snd.snd.snd.snd.snd.fst, ()).fst))), SV.c (SC.v (Value.int IntKind.i64 (↑x : Int)))]) (True ∧ br (!exS vs ms cs fs (d.fst, d.snd.fst, d.snd.snd.fst, d.snd.snd.snd.fst, d.snd.snd.snd.snd.fst, d.snd.snd.snd.snd.snd.fst, d.snd.snd.snd.snd.snd.snd.fst, d.snd.snd.snd.snd.snd.snd.snd.fst, ()).fst (d.snd.snd.snd.snd.fst, d.snd.snd.snd.snd.snd.fst, d.snd.snd.snd.snd.snd.snd.fst, d.snd.snd.snd.snd.snd.snd.snd.fst, ()).fst (d.snd.snd.snd.snd.snd.fst, d.snd.snd.snd.snd.snd.snd.fst, d.snd.snd.snd.snd.snd.snd.snd.fst, ()).fst) (([] : List Go.Eng.Res) = [] ∧ Ent.tup [SV.c (SC.v (Value.int IntKind.i64 (cdS vs ms cs fs l).fst)), SV.c (SC.v (Value.int IntKind.i64 (cdS vs ms cs fs l).snd))] = Ent.tup [SV.c (SC.v (Value.int IntKind.i64 (11 : Int))), SV.c (SC.v (Value.int IntKind.i64 (↑x : Int)))]) (br ((decide (d.fst = (4 : Int)) || decide (d.fst = (5 : Int))) && (decide (d.snd.snd.snd.snd.snd.fst < (0 : Int)) || decide ((↑l.length : Int) < d.snd.snd.snd.snd.snd.fst))) (([] : List Go.Eng.Res) = [] ∧ Ent.tup [SV.c (SC.v (Value.int IntKind.i64 (cdS vs ms cs fs l).fst)), SV.c (SC.v (Value.int IntKind.i64 (cdS vs ms cs fs l).snd))] = Ent.tup [SV.c (SC.v (Value.int IntKind.i64 (12 : Int))), SV.c (SC.v (Value.int IntKind.i64 (↑x : Int)))]) (InR IntKind.i64 ((↑x : Int) + (1 : Int)) ∧ ∃ x', (x' ≤ l.length ∧ ∀ (j : Nat), j < x' → ∀ (i : Int × Int × Int × Int × Int × Int × Int × Int × Unit), l[j]? = some i → ciS vs ms cs fs (chkS i.fst i.snd.fst i.snd.snd.fst i.snd.snd.snd.fst i.snd.snd.snd.snd.fst i.snd.snd.snd.snd.snd.fst i.snd.snd.snd.snd.snd.snd.fst i.snd.snd.snd.snd.snd.snd.snd.fst) i.fst i.snd.snd.snd.snd.fst i.snd.snd.snd.snd.snd.fst (↑l.length : Int) = (0 : Int)) ∧ (SV.c (SC.v (Value.int IntKind.i64 ((↑x : Int) + (1 : Int)))) = SV.c (SC.v (Value.int IntKind.i64 (↑x' : Int))) ∧ True) ∧ [(([] : Go.Eng.Gd), Res.blk (27 : Nat) [SC.sl (Sh.str.pair ((Sh.int IntKind.i64).pair Sh.unit)) vs, SC.sl Sh.str ms, SC.sl Sh.str cs, SC.sl (Sh.str.pair (((Sh.int IntKind.i64).pair ((Sh.int IntKind.i64).pair ((Sh.int IntKind.i64).pair ((Sh.int IntKind.i64).pair ((Sh.int IntKind.i64).pair ((Sh.int IntKind.i64).pair ((Sh.int IntKind.i64).pair ((Sh.int IntKind.i64).pair Sh.unit)))))))).sl.pair Sh.unit)) fs, SC.sl ((Sh.int IntKind.i64).pair ((Sh.int IntKind.i64).pair Sh.unit)) ts]), (([] : Go.Eng.Gd), Res.blk (44 : Nat) [SC.v (Value.string nm), SC.sl ((Sh.int IntKind.i64).pair ((Sh.int IntKind.i64).pair ((Sh.int IntKind.i64).pair ((Sh.int IntKind.i64).pair ((Sh.int IntKind.i64).pair ((Sh.int IntKind.i64).pair ((Sh.int IntKind.i64).pair ((Sh.int IntKind.i64).pair Sh.unit)))))))) l])] = [(([] : Go.Eng.Gd), Res.blk (27 : Nat) [SC.sl (Sh.str.pair ((Sh.int IntKind.i64).pair Sh.unit)) vs, SC.sl Sh.str ms, SC.sl Sh.str cs, SC.sl (Sh.str.pair (((Sh.int IntKind.i64).pair ((Sh.int IntKind.i64).pair ((Sh.int IntKind.i64).pair ((Sh.int IntKind.i64).pair ((Sh.int IntKind.i64).pair ((Sh.int IntKind.i64).pair ((Sh.int IntKind.i64).pair ((Sh.int IntKind.i64).pair Sh.unit)))))))).sl.pair Sh.unit)) fs, SC.sl ((Sh.int IntKind.i64).pair ((Sh.int IntKind.i64).pair Sh.unit)) ts]), (([] : Go.Eng.Gd), Res.blk (44 : Nat) [SC.v (Value.string nm), SC.sl ((Sh.int IntKind.i64).pair ((Sh.int IntKind.i64).pair ((Sh.int IntKind.i64).pair ((Sh.int IntKind.i64).pair ((Sh.int IntKind.i64).pair ((Sh.int IntKind.i64).pair ((Sh.int IntKind.i64).pair ((Sh.int IntKind.i64).pair Sh.unit)))))))) l])] ∧ l.length - x' < l.length - x)))) (([] : List Go.Eng.Res) = [] ∧ Ent.tup [SV.c (SC.v (Value.int IntKind.i64 (cdS vs ms cs fs l).fst)), SV.c (SC.v (Value.int IntKind.i64 (cdS vs ms cs fs l).snd))] = Ent.tup [SV.c (SC.v (Value.int IntKind.i64 (0 : Int))), SV.c (SC.v (Value.int IntKind.i64 (-1 : Int)))])) := by
  by_cases hc : 64 < l.length
  · have e : cdS vs ms cs fs l = (4, -1) := by unfold cdS; rw [if_pos hc]
    rw [e]
    refine br_iff.2 ⟨fun _ => ⟨rfl, rfl⟩, fun h => ?_⟩
    simp only [decide_eq_false_iff_not] at h
    omega
  refine br_iff.2 ⟨fun h => ?_, fun _ => ⟨⟨0, ⟨by omega, fun j hj => by omega⟩, ⟨rfl, trivial⟩, rfl⟩, fun k hk => br_iff.2 ⟨fun h => ?_, fun h => ?_⟩⟩⟩
  · simp only [decide_eq_true_eq] at h
    omega
  · simp only [decide_eq_true_eq] at h
    have hN : (↑k : Int).toNat = k := by omega
    rw [hN]
    refine ⟨by omega, fun d hd => ⟨trivial, br_iff.2 ⟨fun h2 => ⟨rfl, ?_⟩, fun h2 => ⟨trivial, br_iff.2 ⟨fun h3 => ⟨rfl, ?_⟩, fun h3 => br_iff.2 ⟨fun h4 => ⟨rfl, ?_⟩, fun h4 => ⟨InR_i64.2 (by omega), k + 1, ⟨by omega, fun j hj i hi => ?_⟩, ⟨rfl, trivial⟩, rfl, by omega⟩⟩⟩⟩⟩⟩⟩
    · have h2 : chkI d ≠ 0 := by simpa using h2
      rw [cd_found hc hd (by rw [ci_1 h2]; exact h2) hk.2, ci_1 h2]
    all_goals have h2 : chkI d = 0 := by simpa using h2
    · have h3 : exS vs ms cs fs d.1 d.2.2.2.2.1 d.2.2.2.2.2.1 = false := by simpa using h3
      have e := ci_2 (m := (l.length : Int)) h2 h3
      rw [cd_found hc hd (by rw [e]; simp) hk.2, e]
    all_goals have h3 : exS vs ms cs fs d.1 d.2.2.2.2.1 d.2.2.2.2.2.1 = true := by simpa using h3
    all_goals have e := ci_3 (m := (l.length : Int)) h2 h3
    · rw [if_pos (by simpa using h4)] at e
      rw [cd_found hc hd (by rw [e]; simp) hk.2, e]
    · by_cases hjk : j = k
      · subst hjk
        rw [hd] at hi; cases hi
        rw [if_neg (fun q => by
          have : ((decide (d.1 = 4) || decide (d.1 = 5)) && (decide (d.2.2.2.2.2.1 < 0) || decide ((l.length : Int) < d.2.2.2.2.2.1))) = true := by simpa using q
          rw [h4] at this; cases this)] at e
        exact e
      · exact hk.2 j (by omega) i hi
  · simp only [decide_eq_false_iff_not] at h
    rw [cd_none hc fun j i hj => hk.2 j (by have := (List.getElem?_eq_some_iff.1 hj).1; omega) i hj]; exact ⟨rfl, rfl⟩
set_option maxHeartbeats 2000000 in
set_option maxRecDepth 100000 in
theorem f39_met : Go.Eng.Met Tryd.prog cx0.gd 39 ctrCd :=
  met_of (cx := cx0) (n := 58) (cl := cl39) (by kernel_rfl) tis_ok ⟨f66_met, f67_met, trivial⟩ Tryd.func39 (by kernel_rfl) (by kernel_rfl) rfl (by kernel_rfl) (by kernel_rfl) fun d hd => by
    obtain ⟨⟨vs, ms, cs, fs, ts, ⟨⟩⟩, ⟨nm, l, ⟨⟩⟩, ⟨⟩⟩ := d
    exact ex_of (ann39 vs ms cs fs ts nm l) (f39_vc vs ms cs fs ts nm l) (by kernel_rfl)
end Go.Proofs.YtiikkjlghfhgcaaDoor
