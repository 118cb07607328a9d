/- Texts of this claim, part 8: M6, M7, M10, M13, L6. Conditions: those of the given rows. -/
import Derived.Test.YtkgjfkdcnoockaaDoorB7
import Derived.Test.YtkgjfkdcnoockaaDoorCards
import Derived.Test.YtkgjfkdcnoockaaDoorTie
import Derived.WalkKit
import Derived.ProofKit
import Derived.OpenShut
import Derived.Deep.DeepHandedRow
import Derived.Lib.LaidTab
set_option linter.unusedSimpArgs false
set_option linter.unusedVariables false
set_option maxRecDepth 100000
namespace Go.Proofs.YtkgjfkdcnoockaaDoor
open Go Go.Eng

def oneP : PD := ([(⟨#[120]⟩, 4, ())], [⟨#[109]⟩], [⟨#[99]⟩], [(⟨#[102]⟩, [], ())], [(0, 0, ())], ())
def fewM (m : MD) : Bool := decide (m.1.length ≤ 20) && decide (m.2.1.length ≤ 20) && decide (m.2.2.1.length ≤ 20) && decide (m.2.2.2.1.length ≤ 60) && m.2.2.1.all (fun q => decide (q.length ≤ 60))
@[reducible] def ctFew : CT := { ps := [shM], pre := fun d => True, res := fun d => ([], vB (fewM d.1)) }
@[reducible] def cl11 : List (Nat × CT) := []
@[reducible] def ann11 (vs : List Int) (os : List Int) (qs : List (List Int)) (sg : List Int) : Nat → Option (St → Ann) := fun k => match k with
  | 4 => some fun _ => .inv { α := Nat, slots := fun k => [(30, .c (.v (.int .i64 k)))], res := fun k => [], inv := fun k => k ≤ (qs).length ∧ ∀ j < k, ∀ q, qs[j]? = some q → q.length ≤ 60, meas := fun k => (qs).length - k }
  | _ => none
@[reducible] def il11 : List (Nat × IP) := []
@[reducible] def hl11 : List (Nat × Nat × CT) := []
@[reducible] def ml11 : List (Nat × MK) := []
set_option maxRecDepth 100000 in
theorem f11_vc (vs : List Int) (os : List Int) (qs : List (List Int)) (sg : List Int) :
    br (decide ((20 : Int) < (↑vs.length : Int)) || decide ((20 : Int) < (↑os.length : Int)) || decide ((20 : Int) < (↑qs.length : Int)) || decide ((60 : Int) < (↑sg.length : Int))) (([] : List Go.Eng.Res) = [] ∧ Ent.one (SV.c (SC.v (Value.bool (fewM (vs, os, qs, sg, ()))))) = Ent.one (SV.c (SC.v (Value.bool false)))) ((∃ x, (x ≤ qs.length ∧ ∀ (j : Nat), j < x → ∀ (q : List Int), qs[j]? = some q → q.length ≤ (60 : Nat)) ∧ (SV.c (SC.v (Value.int IntKind.i64 (0 : Int))) = SV.c (SC.v (Value.int IntKind.i64 (↑x : Int))) ∧ True) ∧ [(([] : Go.Eng.Gd), bM6 vs os qs sg)] = [(([] : Go.Eng.Gd), bM6 vs os qs sg)]) ∧ ∀ (x : Nat), (x ≤ qs.length ∧ ∀ (j : Nat), j < x → ∀ (q : List Int), qs[j]? = some q → q.length ≤ (60 : Nat)) → br (decide ((↑x : Int) < (↑qs.length : Int))) (((0 : Int) ≤ (↑x : Int) ∧ (↑x : Int) < (↑qs.length : Int)) ∧ ∀ (d : List I6.den), qs[(↑x : Int).toNat]? = some d → br (decide ((60 : Int) < (↑d.length : Int))) (([] : List Go.Eng.Res) = [] ∧ Ent.one (SV.c (SC.v (Value.bool (fewM (vs, os, qs, sg, ()))))) = Ent.one (SV.c (SC.v (Value.bool false)))) (InR IntKind.i64 ((↑x : Int) + (1 : Int)) ∧ ∃ x', (x' ≤ qs.length ∧ ∀ (j : Nat), j < x' → ∀ (q : List Int), qs[j]? = some q → q.length ≤ (60 : Nat)) ∧ (SV.c (SC.v (Value.int IntKind.i64 ((↑x : Int) + (1 : Int)))) = SV.c (SC.v (Value.int IntKind.i64 (↑x' : Int))) ∧ True) ∧ [(([] : Go.Eng.Gd), bM6 vs os qs sg)] = [(([] : Go.Eng.Gd), bM6 vs os qs sg)] ∧ qs.length - x' < qs.length - x)) (([] : List Go.Eng.Res) = [] ∧ Ent.one (SV.c (SC.v (Value.bool (fewM (vs, os, qs, sg, ()))))) = Ent.one (SV.c (SC.v (Value.bool true))))) := by
  refine br_iff.2 ⟨fun h => ⟨rfl, ?_⟩, fun h => ?_⟩
  · have e : fewM (vs, os, qs, sg, ()) = false := by
      unfold fewM
      rw [Bool.eq_false_iff]; intro q; simp at q h; omega
    rw [e]
  simp only [Bool.or_eq_false_iff, decide_eq_false_iff_not] at h
  refine ⟨⟨0, ⟨by omega, fun j hj => by omega⟩, ⟨rfl, trivial⟩, rfl⟩, fun k hk => br_iff.2 ⟨fun g => ?_, fun g => ?_⟩⟩
  · simp only [decide_eq_true_eq] at g
    refine ⟨⟨by omega, by omega⟩, fun d hd => br_iff.2 ⟨fun g2 => ⟨rfl, ?_⟩, fun g2 => ⟨InR_i64.2 (by omega), k + 1, ⟨by omega, fun j hj q hq => ?_⟩, ⟨rfl, trivial⟩, rfl, by omega⟩⟩⟩
    · have e : fewM (vs, os, qs, sg, ()) = false := by
        unfold fewM
        rw [Bool.eq_false_iff]; intro q
        simp only [Bool.and_eq_true, List.all_eq_true, decide_eq_true_eq] at q g2
        have := q.2 d (List.mem_of_getElem? hd)
        omega
      rw [e]
    · by_cases hjk : j = k
      · subst hjk
        have hd : qs[j]? = some d := hd
        rw [hd] at hq; cases hq
        simp at g2; omega
      · exact hk.2 j (by omega) q hq
  simp only [decide_eq_false_iff_not] at g
  have e : fewM (vs, os, qs, sg, ()) = true := by
    unfold fewM
    simp only [Bool.and_eq_true, List.all_eq_true, decide_eq_true_eq]
    refine ⟨⟨⟨⟨by omega, by omega⟩, by omega⟩, by omega⟩, fun q hq => ?_⟩
    obtain ⟨j, hj⟩ := List.getElem?_of_mem hq
    exact hk.2 j (by have := (List.getElem?_eq_some_iff.1 hj).1; omega) q hj
  exact ⟨rfl, by rw [e]⟩
set_option maxHeartbeats 2000000 in
set_option maxRecDepth 100000 in
theorem f11_met : Go.Eng.Met Tryd.prog cx0.gd 11 ctFew :=
  (met_all (cx := cx0) (n := 38) (cl := cl11) (il := il11) (hl := hl11) (ml := ml11) (rc := []) (lits := []) (suf := []) (by kernel_rfl) tis_ok trivial trivial trivial trivial Tryd.func11 (by kernel_rfl) (by kernel_rfl) rfl (by kernel_rfl) (by kernel_rfl) (by simp) fun d hd => by
    obtain ⟨⟨vs, os, qs, sg, ⟨⟩⟩, ⟨⟩⟩ := d
    exact ex_of (ann11 vs os qs sg) (f11_vc vs os qs sg) (by kernel_rfl)).met
@[reducible] def ctOne : CT := { ps := [], pre := fun d => True, res := fun d => ([], .one (ofDat shP oneP)) }
@[reducible] def cl43 : List (Nat × CT) := []
@[reducible] def ann43  : Nat → Option (St → Ann) := fun _ => none
@[reducible] def il43 : List (Nat × IP) := []
@[reducible] def hl43 : List (Nat × Nat × CT) := []
@[reducible] def ml43 : List (Nat × MK) := []
set_option maxRecDepth 100000 in
theorem f43_vc  :
    ([] : List Go.Eng.Res) = [] ∧ Ent.one (SV.agg [SC.sl (Sh.str.pair (I6.pair Sh.unit)) [({ data := #[(120 : UInt8)] : ByteArray }, (4 : Int), ())], SC.sl Sh.str [{ data := #[(109 : UInt8)] : ByteArray }], SC.sl Sh.str [{ data := #[(99 : UInt8)] : ByteArray }], SC.sl (Sh.str.pair (shI.sl.pair Sh.unit)) [({ data := #[(102 : UInt8)] : ByteArray }, [], ())], SC.sl (I6.pair (I6.pair Sh.unit)) [((0 : Int), (0 : Int), ())]]) = Ent.one (SV.agg [SC.sl (Sh.str.pair (I6.pair Sh.unit)) [({ data := #[(120 : UInt8)] : ByteArray }, (4 : Int), ())], SC.sl Sh.str [{ data := #[(109 : UInt8)] : ByteArray }], SC.sl Sh.str [{ data := #[(99 : UInt8)] : ByteArray }], SC.sl (Sh.str.pair (shI.sl.pair Sh.unit)) [({ data := #[(102 : UInt8)] : ByteArray }, [], ())], SC.sl (I6.pair (I6.pair Sh.unit)) [((0 : Int), (0 : Int), ())]]) := by
  exact ⟨rfl, rfl⟩
set_option maxHeartbeats 2000000 in
set_option maxRecDepth 100000 in
theorem f43_met : Go.Eng.Met Tryd.prog cx0.gd 43 ctOne :=
  (met_all (cx := cx0) (n := 10) (cl := cl43) (il := il43) (hl := hl43) (ml := ml43) (rc := [.data shP]) (lits := []) (suf := []) (by kernel_rfl) tis_ok trivial trivial trivial trivial Tryd.func43 (by kernel_rfl) (by kernel_rfl) rfl (by kernel_rfl) (by kernel_rfl) (by simp) fun d hd => by
    obtain ⟨⟩ := d
    exact ex_of (ann43 ) (f43_vc ) (by kernel_rfl)).met
theorem fm0 : formM (([4], [-1], [[]], [], ()) : MD) = true := formM_iff.2 ⟨by decide, by decide, by decide, validI_iff.1 (by decide), by decide, by decide, by decide, by decide⟩
theorem bd0 : bndM (([4], [-1], [[]], [], ()) : MD) := ⟨by decide, by decide, by decide, by decide, by decide, by decide⟩
theorem fm1 : formM (([4], [-1], [[3]], [], ()) : MD) = true := formM_iff.2 ⟨by decide, by decide, by decide, validI_iff.1 (by decide), by decide, by decide, by decide, by decide⟩
theorem bd1 : bndM (([4], [-1], [[3]], [], ()) : MD) := ⟨by decide, by decide, by decide, by decide, by decide, by decide⟩
theorem fm2 : formM (([4], [-1], [[3, 1]], [], ()) : MD) = true := formM_iff.2 ⟨by decide, by decide, by decide, validI_iff.1 (by decide), by decide, by decide, by decide, by decide⟩
theorem bd2 : bndM (([4], [-1], [[3, 1]], [], ()) : MD) := ⟨by decide, by decide, by decide, by decide, by decide, by decide⟩
theorem fm3 : formM (([4], [-1], [[1]], [3], ()) : MD) = true := formM_iff.2 ⟨by decide, by decide, by decide, validI_iff.1 (by decide), by decide, by decide, by decide, by decide⟩
theorem bd3 : bndM (([4], [-1], [[1]], [3], ()) : MD) := ⟨by decide, by decide, by decide, by decide, by decide, by decide⟩
theorem fm4 : formM (([4], [-1], [[1]], [], ()) : MD) = true := formM_iff.2 ⟨by decide, by decide, by decide, validI_iff.1 (by decide), by decide, by decide, by decide, by decide⟩
theorem bd4 : bndM (([4], [-1], [[1]], [], ()) : MD) := ⟨by decide, by decide, by decide, by decide, by decide, by decide⟩
theorem ex1 : enqM (([4], [-1], [[]], [], ()) : MD) 0 3 = ((([4], [-1], [[3]], [], ()) : MD), 0) := by
  unfold enqM
  rw [ins_in fm0 (by decide), if_pos rfl, if_neg (by decide), if_neg (by decide)]; rfl
theorem ex2 : enqM (([4], [-1], [[3]], [], ()) : MD) 0 1 = ((([4], [-1], [[3, 1]], [], ()) : MD), 0) := by
  unfold enqM
  rw [ins_in fm1 (by decide), if_pos rfl, if_neg (by decide), if_neg (by decide)]; rfl
theorem ex3 : wkM (([4], [-1], [[3, 1]], [], ()) : MD) 0 1 = ((([4], [-1], [[1]], [3], ()) : MD), 1, 0) := by
  unfold wkM
  rw [ins_in fm2 (by decide), if_pos rfl]; rfl
theorem ex4 : wakeM (([4], [-1], [[1]], [3], ()) : MD) 1 = (zM, 30) := by
  unfold wakeM
  rw [fm3, if_neg (by decide), if_pos (by decide)]
theorem ex5 : wakeM (([4], [-1], [[1]], [3], ()) : MD) 3 = ((([4], [-1], [[1]], [], ()) : MD), 0) := by
  unfold wakeM
  rw [fm3, if_neg (by decide), if_neg (by decide)]; rfl
theorem ex6 : readM (([4], [-1], [[1]], [], ()) : MD) 0 = (4, 0) := by
  unfold readM
  rw [ins_in fm4 (by decide), if_pos rfl]; rfl
theorem ex7 : freeM (([4], [-1], [[1]], [], ()) : MD) 0 = true := by
  unfold freeM
  rw [ins_in fm4 (by decide)]; rfl
@[reducible] def ctExa : CT := { ps := [], pre := fun d => True, res := fun d => ([], vB (true)) }
@[reducible] noncomputable def cl12 : List (Nat × CT) := [(43, ctOne), (13, ctNew), (18, ctEnq), (20, ctSig), (24, ctWke), (26, ctRd), (34, ctFr), (41, ct13)]
@[reducible] def ann12  : Nat → Option (St → Ann) := fun k => match k with
  | 2 => some fun _ => .cut { α := Nat, pad := 1, can := [(0, .slot 1)], slots := fun _ => [(1, .c (.own 0 0)), (2, .c (.v (.int .i64 0)))], res := fun _ => [(0, .blk 31 [.sl (.int .i64) [4], .sl (.int .i64) [-1], .sl (.sl (.int .i64)) [[]], .sl (.int .i64) []])], inv := fun u => u = 0, meas := fun _ => 0 }
  | 3 => some fun _ => .cut { α := Nat, pad := 1, can := [(1, .slot 3)], slots := fun _ => [(3, .c (.own 1 0)), (4, .c (.v (.int .i64 0)))], res := fun _ => [(1, .blk 31 [.sl (.int .i64) [4], .sl (.int .i64) [-1], .sl (.sl (.int .i64)) [[3]], .sl (.int .i64) []])], inv := fun u => u = 0, meas := fun _ => 0 }
  | 4 => some fun _ => .cut { α := Nat, pad := 1, can := [(2, .slot 5)], slots := fun _ => [(5, .c (.own 2 0)), (6, .c (.v (.int .i64 0)))], res := fun _ => [(2, .blk 31 [.sl (.int .i64) [4], .sl (.int .i64) [-1], .sl (.sl (.int .i64)) [[3, 1]], .sl (.int .i64) []])], inv := fun u => u = 0, meas := fun _ => 0 }
  | 5 => some fun _ => .cut { α := Nat, pad := 1, can := [(3, .slot 7)], slots := fun _ => [(7, .c (.own 3 0)), (8, .c (.v (.int .i64 1))), (9, .c (.v (.int .i64 0)))], res := fun _ => [(3, .blk 31 [.sl (.int .i64) [4], .sl (.int .i64) [-1], .sl (.sl (.int .i64)) [[1]], .sl (.int .i64) [3]])], inv := fun u => u = 0, meas := fun _ => 0 }
  | 6 => some fun _ => .cut { α := Nat, pad := 1, can := [(4, .slot 10)], slots := fun _ => [(10, .c (.own 4 0)), (11, .c (.v (.int .i64 30)))], res := fun _ => [(4, .blk 31 [.sl (.int .i64) [], .sl (.int .i64) [], .sl (.sl (.int .i64)) [], .sl (.int .i64) []])], inv := fun u => u = 0, meas := fun _ => 0 }
  | 7 => some fun _ => .cut { α := Nat, pad := 1, can := [(5, .slot 12)], slots := fun _ => [(12, .c (.own 5 0)), (13, .c (.v (.int .i64 0)))], res := fun _ => [(5, .blk 31 [.sl (.int .i64) [4], .sl (.int .i64) [-1], .sl (.sl (.int .i64)) [[1]], .sl (.int .i64) []])], inv := fun u => u = 0, meas := fun _ => 0 }
  | 10 => some fun _ => .cut { α := MD, slots := fun _ => [(14, .c (.v (.int .i64 4))), (15, .c (.v (.int .i64 0)))], res := fun u => [(5, .blk 31 [.sl (.int .i64) u.1, .sl (.int .i64) u.2.1, .sl (.sl (.int .i64)) u.2.2.1, .sl (.int .i64) u.2.2.2.1])], inv := fun u => u = ([4], [-1], [[1]], [], ()), meas := fun _ => 0 }
  | _ => none
@[reducible] def il12 : List (Nat × IP) := []
@[reducible] def hl12 : List (Nat × Nat × CT) := []
@[reducible] noncomputable def ml12 : List (Nat × MK) := []
set_option maxRecDepth 100000 in
theorem f12_vc  :
    (True ∧ ((1 : Nat) ≤ (1000000 : Nat) ∧ (1 : Nat) ≤ (1000000 : Nat) ∧ (1 : Nat) ≤ (1000000 : Nat) ∧ (1 : Nat) ≤ (1000000 : Nat) ∧ (1 : Nat) ≤ (1000000 : Nat) ∧ (∀ (x : Sh.str.den × (shI.sl.pair Sh.unit).den), x ∈ [({ data := #[(102 : UInt8)] : ByteArray }, [], ())] → List.length x.snd.fst ≤ (1000000 : Nat)) ∧ (0 : Nat) ≤ (1000000 : Nat)) ∧ ∃ v, v = (0 : Nat) ∧ (SV.c (SC.own (0 : Nat) (0 : Nat)) = SV.c (SC.own (0 : Nat) (0 : Nat)) ∧ SV.c (SC.v (Value.int IntKind.i64 (0 : Int))) = SV.c (SC.v (Value.int IntKind.i64 (0 : Int))) ∧ True) ∧ [(([] : Go.Eng.Gd), Res.blk (31 : Nat) [SC.sl I6 (List.map (fun x => x.snd.fst) [({ data := #[(120 : UInt8)] : ByteArray }, (4 : Int), ())]), SC.sl I6 (List.replicate (1 : Nat) (-1 : Int)), SC.sl I6.sl (List.replicate (1 : Nat) []), SC.sl I6 []])] = [(([] : Go.Eng.Gd), Res.blk (31 : TypeId) [SC.sl I6 [(4 : I6.den)], SC.sl I6 [(-1 : I6.den)], SC.sl I6.sl [[]], SC.sl I6 []])]) ∧ ∀ (v : Nat), v = (0 : Nat) → (bndM ([(4 : I6.den)], [(-1 : I6.den)], [[]], [], ()) ∧ ∃ v, v = (0 : Nat) ∧ (SV.c (SC.own (1 : Nat) (0 : Nat)) = SV.c (SC.own (1 : Nat) (0 : Nat)) ∧ SV.c (SC.v (Value.int IntKind.i64 (enqM ([(4 : I6.den)], [(-1 : I6.den)], [[]], [], ()) (0 : Int) (3 : Int)).snd)) = SV.c (SC.v (Value.int IntKind.i64 (0 : Int))) ∧ True) ∧ [(([] : Go.Eng.Gd), Res.blk (31 : TypeId) [SC.sl I6 [(4 : I6.den)], SC.sl I6 [(-1 : I6.den)], SC.sl I6.sl [[]], SC.sl I6 []]), (([] : Go.Eng.Gd), Res.blk (31 : Nat) [SC.sl I6 (enqM ([(4 : I6.den)], [(-1 : I6.den)], [[]], [], ()) (0 : Int) (3 : Int)).fst.fst, SC.sl I6 (enqM ([(4 : I6.den)], [(-1 : I6.den)], [[]], [], ()) (0 : Int) (3 : Int)).fst.snd.fst, SC.sl I6.sl (enqM ([(4 : I6.den)], [(-1 : I6.den)], [[]], [], ()) (0 : Int) (3 : Int)).fst.snd.snd.fst, SC.sl I6 (enqM ([(4 : I6.den)], [(-1 : I6.den)], [[]], [], ()) (0 : Int) (3 : Int)).fst.snd.snd.snd.fst])] = [(([] : Go.Eng.Gd), Res.blk (31 : TypeId) [SC.sl I6 [(4 : I6.den)], SC.sl I6 [(-1 : I6.den)], SC.sl I6.sl [[]], SC.sl I6 []]), (([] : Go.Eng.Gd), Res.blk (31 : TypeId) [SC.sl I6 [(4 : I6.den)], SC.sl I6 [(-1 : I6.den)], SC.sl I6.sl [[(3 : I6.den)]], SC.sl I6 []])]) ∧ ∀ (v : Nat), v = (0 : Nat) → (bndM ([(4 : I6.den)], [(-1 : I6.den)], [[(3 : I6.den)]], [], ()) ∧ ∃ v, v = (0 : Nat) ∧ (SV.c (SC.own (2 : Nat) (0 : Nat)) = SV.c (SC.own (2 : Nat) (0 : Nat)) ∧ SV.c (SC.v (Value.int IntKind.i64 (enqM ([(4 : I6.den)], [(-1 : I6.den)], [[(3 : I6.den)]], [], ()) (0 : Int) (1 : Int)).snd)) = SV.c (SC.v (Value.int IntKind.i64 (0 : Int))) ∧ True) ∧ [(([] : Go.Eng.Gd), Res.blk (31 : TypeId) [SC.sl I6 [(4 : I6.den)], SC.sl I6 [(-1 : I6.den)], SC.sl I6.sl [[]], SC.sl I6 []]), (([] : Go.Eng.Gd), Res.blk (31 : TypeId) [SC.sl I6 [(4 : I6.den)], SC.sl I6 [(-1 : I6.den)], SC.sl I6.sl [[(3 : I6.den)]], SC.sl I6 []]), (([] : Go.Eng.Gd), Res.blk (31 : Nat) [SC.sl I6 (enqM ([(4 : I6.den)], [(-1 : I6.den)], [[(3 : I6.den)]], [], ()) (0 : Int) (1 : Int)).fst.fst, SC.sl I6 (enqM ([(4 : I6.den)], [(-1 : I6.den)], [[(3 : I6.den)]], [], ()) (0 : Int) (1 : Int)).fst.snd.fst, SC.sl I6.sl (enqM ([(4 : I6.den)], [(-1 : I6.den)], [[(3 : I6.den)]], [], ()) (0 : Int) (1 : Int)).fst.snd.snd.fst, SC.sl I6 (enqM ([(4 : I6.den)], [(-1 : I6.den)], [[(3 : I6.den)]], [], ()) (0 : Int) (1 : Int)).fst.snd.snd.snd.fst])] = [(([] : Go.Eng.Gd), Res.blk (31 : TypeId) [SC.sl I6 [(4 : I6.den)], SC.sl I6 [(-1 : I6.den)], SC.sl I6.sl [[]], SC.sl I6 []]), (([] : Go.Eng.Gd), Res.blk (31 : TypeId) [SC.sl I6 [(4 : I6.den)], SC.sl I6 [(-1 : I6.den)], SC.sl I6.sl [[(3 : I6.den)]], SC.sl I6 []]), (([] : Go.Eng.Gd), Res.blk (31 : TypeId) [SC.sl I6 [(4 : I6.den)], SC.sl I6 [(-1 : I6.den)], SC.sl I6.sl [[(3 : I6.den), (1 : I6.den)]], SC.sl I6 []])]) ∧ ∀ (v : Nat), v = (0 : Nat) → (bndM ([(4 : I6.den)], [(-1 : I6.den)], [[(3 : I6.den), (1 : I6.den)]], [], ()) ∧ ∃ v, v = (0 : Nat) ∧ (SV.c (SC.own (3 : Nat) (0 : Nat)) = SV.c (SC.own (3 : Nat) (0 : Nat)) ∧ SV.c (SC.v (Value.int IntKind.i64 (wkM ([(4 : I6.den)], [(-1 : I6.den)], [[(3 : I6.den), (1 : I6.den)]], [], ()) (0 : Int) (1 : Int)).snd.fst)) = SV.c (SC.v (Value.int IntKind.i64 (1 : Int))) ∧ SV.c (SC.v (Value.int IntKind.i64 (wkM ([(4 : I6.den)], [(-1 : I6.den)], [[(3 : I6.den), (1 : I6.den)]], [], ()) (0 : Int) (1 : Int)).snd.snd)) = SV.c (SC.v (Value.int IntKind.i64 (0 : Int))) ∧ True) ∧ [(([] : Go.Eng.Gd), Res.blk (31 : TypeId) [SC.sl I6 [(4 : I6.den)], SC.sl I6 [(-1 : I6.den)], SC.sl I6.sl [[]], SC.sl I6 []]), (([] : Go.Eng.Gd), Res.blk (31 : TypeId) [SC.sl I6 [(4 : I6.den)], SC.sl I6 [(-1 : I6.den)], SC.sl I6.sl [[(3 : I6.den)]], SC.sl I6 []]), (([] : Go.Eng.Gd), Res.blk (31 : TypeId) [SC.sl I6 [(4 : I6.den)], SC.sl I6 [(-1 : I6.den)], SC.sl I6.sl [[(3 : I6.den), (1 : I6.den)]], SC.sl I6 []]), (([] : Go.Eng.Gd), Res.blk (31 : Nat) [SC.sl I6 (wkM ([(4 : I6.den)], [(-1 : I6.den)], [[(3 : I6.den), (1 : I6.den)]], [], ()) (0 : Int) (1 : Int)).fst.fst, SC.sl I6 (wkM ([(4 : I6.den)], [(-1 : I6.den)], [[(3 : I6.den), (1 : I6.den)]], [], ()) (0 : Int) (1 : Int)).fst.snd.fst, SC.sl I6.sl (wkM ([(4 : I6.den)], [(-1 : I6.den)], [[(3 : I6.den), (1 : I6.den)]], [], ()) (0 : Int) (1 : Int)).fst.snd.snd.fst, SC.sl I6 (wkM ([(4 : I6.den)], [(-1 : I6.den)], [[(3 : I6.den), (1 : I6.den)]], [], ()) (0 : Int) (1 : Int)).fst.snd.snd.snd.fst])] = [(([] : Go.Eng.Gd), Res.blk (31 : TypeId) [SC.sl I6 [(4 : I6.den)], SC.sl I6 [(-1 : I6.den)], SC.sl I6.sl [[]], SC.sl I6 []]), (([] : Go.Eng.Gd), Res.blk (31 : TypeId) [SC.sl I6 [(4 : I6.den)], SC.sl I6 [(-1 : I6.den)], SC.sl I6.sl [[(3 : I6.den)]], SC.sl I6 []]), (([] : Go.Eng.Gd), Res.blk (31 : TypeId) [SC.sl I6 [(4 : I6.den)], SC.sl I6 [(-1 : I6.den)], SC.sl I6.sl [[(3 : I6.den), (1 : I6.den)]], SC.sl I6 []]), (([] : Go.Eng.Gd), Res.blk (31 : TypeId) [SC.sl I6 [(4 : I6.den)], SC.sl I6 [(-1 : I6.den)], SC.sl I6.sl [[(1 : I6.den)]], SC.sl I6 [(3 : I6.den)]])]) ∧ ∀ (v : Nat), v = (0 : Nat) → (bndM ([(4 : I6.den)], [(-1 : I6.den)], [[(1 : I6.den)]], [(3 : I6.den)], ()) ∧ ∃ v, v = (0 : Nat) ∧ (SV.c (SC.own (4 : Nat) (0 : Nat)) = SV.c (SC.own (4 : Nat) (0 : Nat)) ∧ SV.c (SC.v (Value.int IntKind.i64 (wakeM ([(4 : I6.den)], [(-1 : I6.den)], [[(1 : I6.den)]], [(3 : I6.den)], ()) (1 : Int)).snd)) = SV.c (SC.v (Value.int IntKind.i64 (30 : Int))) ∧ True) ∧ [(([] : Go.Eng.Gd), Res.blk (31 : TypeId) [SC.sl I6 [(4 : I6.den)], SC.sl I6 [(-1 : I6.den)], SC.sl I6.sl [[]], SC.sl I6 []]), (([] : Go.Eng.Gd), Res.blk (31 : TypeId) [SC.sl I6 [(4 : I6.den)], SC.sl I6 [(-1 : I6.den)], SC.sl I6.sl [[(3 : I6.den)]], SC.sl I6 []]), (([] : Go.Eng.Gd), Res.blk (31 : TypeId) [SC.sl I6 [(4 : I6.den)], SC.sl I6 [(-1 : I6.den)], SC.sl I6.sl [[(3 : I6.den), (1 : I6.den)]], SC.sl I6 []]), (([] : Go.Eng.Gd), Res.blk (31 : TypeId) [SC.sl I6 [(4 : I6.den)], SC.sl I6 [(-1 : I6.den)], SC.sl I6.sl [[(1 : I6.den)]], SC.sl I6 [(3 : I6.den)]]), (([] : Go.Eng.Gd), Res.blk (31 : Nat) [SC.sl I6 (wakeM ([(4 : I6.den)], [(-1 : I6.den)], [[(1 : I6.den)]], [(3 : I6.den)], ()) (1 : Int)).fst.fst, SC.sl I6 (wakeM ([(4 : I6.den)], [(-1 : I6.den)], [[(1 : I6.den)]], [(3 : I6.den)], ()) (1 : Int)).fst.snd.fst, SC.sl I6.sl (wakeM ([(4 : I6.den)], [(-1 : I6.den)], [[(1 : I6.den)]], [(3 : I6.den)], ()) (1 : Int)).fst.snd.snd.fst, SC.sl I6 (wakeM ([(4 : I6.den)], [(-1 : I6.den)], [[(1 : I6.den)]], [(3 : I6.den)], ()) (1 : Int)).fst.snd.snd.snd.fst])] = [(([] : Go.Eng.Gd), Res.blk (31 : TypeId) [SC.sl I6 [(4 : I6.den)], SC.sl I6 [(-1 : I6.den)], SC.sl I6.sl [[]], SC.sl I6 []]), (([] : Go.Eng.Gd), Res.blk (31 : TypeId) [SC.sl I6 [(4 : I6.den)], SC.sl I6 [(-1 : I6.den)], SC.sl I6.sl [[(3 : I6.den)]], SC.sl I6 []]), (([] : Go.Eng.Gd), Res.blk (31 : TypeId) [SC.sl I6 [(4 : I6.den)], SC.sl I6 [(-1 : I6.den)], SC.sl I6.sl [[(3 : I6.den), (1 : I6.den)]], SC.sl I6 []]), (([] : Go.Eng.Gd), Res.blk (31 : TypeId) [SC.sl I6 [(4 : I6.den)], SC.sl I6 [(-1 : I6.den)], SC.sl I6.sl [[(1 : I6.den)]], SC.sl I6 [(3 : I6.den)]]), (([] : Go.Eng.Gd), Res.blk (31 : TypeId) [SC.sl I6 [], SC.sl I6 [], SC.sl I6.sl [], SC.sl I6 []])]) ∧ ∀ (v : Nat), v = (0 : Nat) → (bndM ([(4 : I6.den)], [(-1 : I6.den)], [[(1 : I6.den)]], [(3 : I6.den)], ()) ∧ ∃ v, v = (0 : Nat) ∧ (SV.c (SC.own (5 : Nat) (0 : Nat)) = SV.c (SC.own (5 : Nat) (0 : Nat)) ∧ SV.c (SC.v (Value.int IntKind.i64 (wakeM ([(4 : I6.den)], [(-1 : I6.den)], [[(1 : I6.den)]], [(3 : I6.den)], ()) (3 : Int)).snd)) = SV.c (SC.v (Value.int IntKind.i64 (0 : Int))) ∧ True) ∧ [(([] : Go.Eng.Gd), Res.blk (31 : TypeId) [SC.sl I6 [(4 : I6.den)], SC.sl I6 [(-1 : I6.den)], SC.sl I6.sl [[]], SC.sl I6 []]), (([] : Go.Eng.Gd), Res.blk (31 : TypeId) [SC.sl I6 [(4 : I6.den)], SC.sl I6 [(-1 : I6.den)], SC.sl I6.sl [[(3 : I6.den)]], SC.sl I6 []]), (([] : Go.Eng.Gd), Res.blk (31 : TypeId) [SC.sl I6 [(4 : I6.den)], SC.sl I6 [(-1 : I6.den)], SC.sl I6.sl [[(3 : I6.den), (1 : I6.den)]], SC.sl I6 []]), (([] : Go.Eng.Gd), Res.blk (31 : TypeId) [SC.sl I6 [(4 : I6.den)], SC.sl I6 [(-1 : I6.den)], SC.sl I6.sl [[(1 : I6.den)]], SC.sl I6 [(3 : I6.den)]]), (([] : Go.Eng.Gd), Res.blk (31 : TypeId) [SC.sl I6 [], SC.sl I6 [], SC.sl I6.sl [], SC.sl I6 []]), (([] : Go.Eng.Gd), Res.blk (31 : Nat) [SC.sl I6 (wakeM ([(4 : I6.den)], [(-1 : I6.den)], [[(1 : I6.den)]], [(3 : I6.den)], ()) (3 : Int)).fst.fst, SC.sl I6 (wakeM ([(4 : I6.den)], [(-1 : I6.den)], [[(1 : I6.den)]], [(3 : I6.den)], ()) (3 : Int)).fst.snd.fst, SC.sl I6.sl (wakeM ([(4 : I6.den)], [(-1 : I6.den)], [[(1 : I6.den)]], [(3 : I6.den)], ()) (3 : Int)).fst.snd.snd.fst, SC.sl I6 (wakeM ([(4 : I6.den)], [(-1 : I6.den)], [[(1 : I6.den)]], [(3 : I6.den)], ()) (3 : Int)).fst.snd.snd.snd.fst])] = [(([] : Go.Eng.Gd), Res.blk (31 : TypeId) [SC.sl I6 [(4 : I6.den)], SC.sl I6 [(-1 : I6.den)], SC.sl I6.sl [[]], SC.sl I6 []]), (([] : Go.Eng.Gd), Res.blk (31 : TypeId) [SC.sl I6 [(4 : I6.den)], SC.sl I6 [(-1 : I6.den)], SC.sl I6.sl [[(3 : I6.den)]], SC.sl I6 []]), (([] : Go.Eng.Gd), Res.blk (31 : TypeId) [SC.sl I6 [(4 : I6.den)], SC.sl I6 [(-1 : I6.den)], SC.sl I6.sl [[(3 : I6.den), (1 : I6.den)]], SC.sl I6 []]), (([] : Go.Eng.Gd), Res.blk (31 : TypeId) [SC.sl I6 [(4 : I6.den)], SC.sl I6 [(-1 : I6.den)], SC.sl I6.sl [[(1 : I6.den)]], SC.sl I6 [(3 : I6.den)]]), (([] : Go.Eng.Gd), Res.blk (31 : TypeId) [SC.sl I6 [], SC.sl I6 [], SC.sl I6.sl [], SC.sl I6 []]), (([] : Go.Eng.Gd), Res.blk (31 : TypeId) [SC.sl I6 [(4 : I6.den)], SC.sl I6 [(-1 : I6.den)], SC.sl I6.sl [[(1 : I6.den)]], SC.sl I6 []])]) ∧ ∀ (v : Nat), v = (0 : Nat) → (bndM ([(4 : I6.den)], [(-1 : I6.den)], [[(1 : I6.den)]], [], ()) ∧ ∃ v, v = ([(4 : Int)], [(-1 : Int)], [[(1 : Int)]], [], ()) ∧ (SV.c (SC.v (Value.int IntKind.i64 (readM ([(4 : I6.den)], [(-1 : I6.den)], [[(1 : I6.den)]], [], ()) (0 : Int)).fst)) = SV.c (SC.v (Value.int IntKind.i64 (4 : Int))) ∧ SV.c (SC.v (Value.int IntKind.i64 (readM ([(4 : I6.den)], [(-1 : I6.den)], [[(1 : I6.den)]], [], ()) (0 : Int)).snd)) = SV.c (SC.v (Value.int IntKind.i64 (0 : Int))) ∧ True) ∧ [(([] : Go.Eng.Gd), Res.blk (31 : TypeId) [SC.sl I6 [(4 : I6.den)], SC.sl I6 [(-1 : I6.den)], SC.sl I6.sl [[]], SC.sl I6 []]), (([] : Go.Eng.Gd), Res.blk (31 : TypeId) [SC.sl I6 [(4 : I6.den)], SC.sl I6 [(-1 : I6.den)], SC.sl I6.sl [[(3 : I6.den)]], SC.sl I6 []]), (([] : Go.Eng.Gd), Res.blk (31 : TypeId) [SC.sl I6 [(4 : I6.den)], SC.sl I6 [(-1 : I6.den)], SC.sl I6.sl [[(3 : I6.den), (1 : I6.den)]], SC.sl I6 []]), (([] : Go.Eng.Gd), Res.blk (31 : TypeId) [SC.sl I6 [(4 : I6.den)], SC.sl I6 [(-1 : I6.den)], SC.sl I6.sl [[(1 : I6.den)]], SC.sl I6 [(3 : I6.den)]]), (([] : Go.Eng.Gd), Res.blk (31 : TypeId) [SC.sl I6 [], SC.sl I6 [], SC.sl I6.sl [], SC.sl I6 []]), (([] : Go.Eng.Gd), Res.blk (31 : TypeId) [SC.sl I6 [(4 : I6.den)], SC.sl I6 [(-1 : I6.den)], SC.sl I6.sl [[(1 : I6.den)]], SC.sl I6 []])] = [(([] : Go.Eng.Gd), Res.blk (31 : TypeId) [SC.sl I6 [(4 : I6.den)], SC.sl I6 [(-1 : I6.den)], SC.sl I6.sl [[]], SC.sl I6 []]), (([] : Go.Eng.Gd), Res.blk (31 : TypeId) [SC.sl I6 [(4 : I6.den)], SC.sl I6 [(-1 : I6.den)], SC.sl I6.sl [[(3 : I6.den)]], SC.sl I6 []]), (([] : Go.Eng.Gd), Res.blk (31 : TypeId) [SC.sl I6 [(4 : I6.den)], SC.sl I6 [(-1 : I6.den)], SC.sl I6.sl [[(3 : I6.den), (1 : I6.den)]], SC.sl I6 []]), (([] : Go.Eng.Gd), Res.blk (31 : TypeId) [SC.sl I6 [(4 : I6.den)], SC.sl I6 [(-1 : I6.den)], SC.sl I6.sl [[(1 : I6.den)]], SC.sl I6 [(3 : I6.den)]]), (([] : Go.Eng.Gd), Res.blk (31 : TypeId) [SC.sl I6 [], SC.sl I6 [], SC.sl I6.sl [], SC.sl I6 []]), (([] : Go.Eng.Gd), Res.blk (31 : TypeId) [SC.sl I6 v.fst, SC.sl I6 v.snd.fst, SC.sl I6.sl v.snd.snd.fst, SC.sl I6 v.snd.snd.snd.fst])]) ∧ ∀ (v : List Int × List Int × List (List Int) × List Int × Unit), v = ([(4 : Int)], [(-1 : Int)], [[(1 : Int)]], [], ()) → (true = true → bndM v) ∧ ((true && freeM v (0 : Int)) = true → (0 : Int) ≤ (0 : Int) ∧ (0 : Int) < (↑v.snd.snd.fst.length : Int)) ∧ ∀ (d : List I6.den), ((true && freeM v (0 : Int)) = true → v.snd.snd.fst[(0 : Nat)]? = some d) → ((true && freeM v (0 : Int)) = true → d.length ≤ (4611686018427387904 : Nat)) ∧ ([] : List Go.Eng.Res) = [] ∧ Ent.one (SV.c (SC.v (Value.bool true))) = Ent.one (SV.c (SC.v (Value.bool (true && freeM v (0 : Int) && decide (d = [(1 : Int)]) && decide ((↑v.snd.snd.snd.fst.length : Int) = (0 : Int)))))) := by
  refine ⟨⟨trivial, ⟨by decide, by decide, by decide, by decide, by decide, fun x hx => ?_, by decide⟩, 0, rfl, ⟨rfl, rfl, trivial⟩, rfl⟩, fun _ _ => ?_⟩
  · rw [List.mem_singleton] at hx; subst hx; exact Nat.zero_le _
  refine ⟨⟨bd0, 0, rfl, ⟨rfl, by rw [ex1], trivial⟩, by rw [ex1]⟩, fun _ _ => ?_⟩
  refine ⟨⟨bd1, 0, rfl, ⟨rfl, by rw [ex2], trivial⟩, by rw [ex2]⟩, fun _ _ => ?_⟩
  refine ⟨⟨bd2, 0, rfl, ⟨rfl, by rw [ex3], by rw [ex3], trivial⟩, by rw [ex3]⟩, fun _ _ => ?_⟩
  refine ⟨⟨bd3, 0, rfl, ⟨rfl, by rw [ex4], trivial⟩, by rw [ex4]; rfl⟩, fun _ _ => ?_⟩
  refine ⟨⟨bd3, 0, rfl, ⟨rfl, by rw [ex5], trivial⟩, by rw [ex5]⟩, fun _ _ => ?_⟩
  refine ⟨⟨bd4, _, rfl, ⟨by rw [ex6], by rw [ex6], trivial⟩, rfl⟩, fun m hm => ?_⟩
  subst hm
  refine ⟨fun _ => bd4, fun _ => by decide, fun d hd => ?_⟩
  have e7 : (true && freeM ([4], [-1], [[1]], [], ()) 0) = true := ex7
  have hd : ([[1]] : List (List Int))[0]? = some d := hd e7
  cases hd
  exact ⟨fun _ => by decide, rfl, by rw [e7]; rfl⟩
set_option maxHeartbeats 2000000 in
set_option maxRecDepth 100000 in
theorem f12_met : Go.Eng.Met Tryd.prog cx0.gd 12 ctExa :=
  (met_all (cx := cx0) (n := 102) (cl := cl12) (il := il12) (hl := hl12) (ml := ml12) (rc := []) (lits := []) (suf := []) (by kernel_rfl) tis_ok ⟨f43_met, f13_met, f18_met, f20_met, f24_met, f26_met, f34_met, f41_met, trivial⟩ trivial trivial trivial Tryd.func12 (by kernel_rfl) (by kernel_rfl) rfl (by kernel_rfl) (by kernel_rfl) (by simp) fun d hd => by
    obtain ⟨⟩ := d
    exact ex_of (ann12 ) (f12_vc ) (by kernel_rfl)).met
end Go.Proofs.YtkgjfkdcnoockaaDoor
set_option linter.unusedSimpArgs false
set_option linter.unusedVariables false
set_option maxRecDepth 100000
namespace Go.Proofs.YtkgjfkdcnoockaaDoor
open Go Go.Eng

theorem few_bnd {m : MD} (h : fewM m = true) : bndM m := by
  obtain ⟨vs, os, qs, sg, ⟨⟩⟩ := m
  unfold fewM at h
  simp only [Bool.and_eq_true, List.all_eq_true, decide_eq_true_eq] at h
  obtain ⟨⟨⟨⟨h1, h2⟩, h3⟩, h4⟩, h5⟩ := h
  refine ⟨by show vs.length ≤ 1000; omega, by show os.length ≤ 1000; omega, by show qs.length ≤ 1000; omega, by show sg.length ≤ 1000; omega, fun q hq => by have := h5 q hq; omega, ?_⟩
  have key : ∀ l : List (List Int), (∀ q ∈ l, q.length ≤ 60) → l.flatten.length ≤ 60 * l.length := by
    intro l
    induction l with
    | nil => intro _; simp
    | cons a l ih =>
      intro hl
      have := ih fun q hq => hl q (by simp [hq])
      have := hl a (by simp)
      simp only [List.flatten_cons, List.length_append, List.length_cons]; omega
  have := key qs h5
  show qs.flatten.length ≤ 100000
  omega
end Go.Proofs.YtkgjfkdcnoockaaDoor
set_option linter.unusedSimpArgs false
set_option linter.unusedVariables false
set_option maxRecDepth 100000
namespace Go.Proofs.YtkgjfkdcnoockaaDoor
open Go Go.Eng

theorem adds_ss : ∀ (l sg : List Int), SS sg → SS (addsI sg l) ∧ ∀ y, y ∈ addsI sg l ↔ y ∈ sg ∨ y ∈ l
  | [], sg, h => ⟨h, fun y => by simp [addsI]⟩
  | x :: l, sg, h => by
    have ih := adds_ss l (makeI (sg ++ [x])) (make_ss _)
    have e : addsI sg (x :: l) = addsI (makeI (sg ++ [x])) l := rfl
    rw [e]
    refine ⟨ih.1, fun y => ?_⟩
    rw [ih.2 y, make_mem]
    simp [or_assoc]
theorem adds_make {sg : List Int} (h : SS sg) (l : List Int) : addsI sg l = makeI (sg ++ l) :=
  ss_ext (adds_ss l sg h).1 (make_ss _) fun y => by rw [(adds_ss l sg h).2 y, make_mem, List.mem_append]
def mostM (qs : List (List Int)) : Int := qs.foldl (fun a q => maxI a q.length) 0
theorem most_take {qs : List (List Int)} {k : Nat} {d : List Int} (h : qs[k]? = some d) : mostM (qs.take (k + 1)) = maxI (mostM (qs.take k)) d.length := by
  unfold mostM
  rw [List.take_add_one, h]; simp
theorem most_ge : ∀ (qs : List (List Int)) (a : Int), a ≤ qs.foldl (fun a q => maxI a (q.length : Int)) a ∧ ∀ q ∈ qs, (q.length : Int) ≤ qs.foldl (fun a q => maxI a (q.length : Int)) a
  | [], a => ⟨Int.le_refl _, fun q hq => by cases hq⟩
  | x :: qs, a => by
    have ih := most_ge qs (maxI a x.length)
    have h : a ≤ maxI a x.length ∧ (x.length : Int) ≤ maxI a x.length := by unfold maxI; split <;> omega
    refine ⟨Int.le_trans h.1 ih.1, fun q hq => ?_⟩
    rcases List.mem_cons.1 hq with rfl | hq
    · exact Int.le_trans h.2 ih.1
    · exact ih.2 q hq
def wovM (m : MD) (c n : Int) : MD := (m.1, m.2.1, m.2.2.1.set c.toNat ((m.2.2.1[c.toNat]?.getD []).drop n.toNat), makeI (m.2.2.2.1 ++ (m.2.2.1[c.toNat]?.getD []).take n.toNat), ())
theorem wk_wov {m : MD} {c n : Int} (h : insM m c m.2.2.1.length = 0) : wkM m c n = (wovM m c (minI n ((m.2.2.1[c.toNat]?.getD []).length : Int)), minI n ((m.2.2.1[c.toNat]?.getD []).length : Int), 0) := by
  have hs : SS m.2.2.2.1 := (formM_iff.1 (insM_zero.1 h).1).2.2.2.1
  unfold wkM wovM
  rw [if_pos h, adds_make hs]
@[reducible] noncomputable def ctBro : CT := { ps := [shM, .int .i64], pre := fun d => bndM d.1, res := fun d => ([], .tup [.agg [.sl (.int .i64) ((wkM d.1 d.2.1 (mostM d.1.2.2.1)).1).1, .sl (.int .i64) ((wkM d.1 d.2.1 (mostM d.1.2.2.1)).1).2.1, .sl (.sl (.int .i64)) ((wkM d.1 d.2.1 (mostM d.1.2.2.1)).1).2.2.1, .sl (.int .i64) ((wkM d.1 d.2.1 (mostM d.1.2.2.1)).1).2.2.2.1], .c (.v (.int .i64 ((wkM d.1 d.2.1 (mostM d.1.2.2.1)).2.1))), .c (.v (.int .i64 ((wkM d.1 d.2.1 (mostM d.1.2.2.1)).2.2)))]) }
@[reducible] noncomputable def cl22 : List (Nat × CT) := [(52, ctWks)]
@[reducible] def ann22 (vs : List Int) (os : List Int) (qs : List (List Int)) (sg : List Int) (c : Int) : Nat → Option (St → Ann) := fun k => match k with
  | 3 => some fun _ => .inv { α := Nat, slots := fun k => [(13, .c (.v (.int .i64 k))), (7, .c (.v (.int .i64 (mostM (qs.take k)))))], res := fun k => [], inv := fun k => k ≤ (qs).length, meas := fun k => (qs).length - k }
  | _ => none
@[reducible] def il22 : List (Nat × IP) := []
@[reducible] def hl22 : List (Nat × Nat × CT) := []
@[reducible] noncomputable def ml22 : List (Nat × MK) := []
set_option maxRecDepth 100000 in
theorem f22_vc (vs : List Int) (os : List Int) (qs : List (List Int)) (sg : List Int) (c : Int) (hpre : ctBro.pre ((vs, os, qs, sg, ()), c, ())) :
    (∃ x, x ≤ qs.length ∧ (SV.c (SC.v (Value.int IntKind.i64 (0 : Int))) = SV.c (SC.v (Value.int IntKind.i64 (↑x : Int))) ∧ SV.c (SC.v (Value.int IntKind.i64 (0 : Int))) = SV.c (SC.v (Value.int IntKind.i64 (mostM (List.take x qs)))) ∧ True) ∧ [(([] : Go.Eng.Gd), bM6 vs os qs sg), (([] : Go.Eng.Gd), zM6)] = [(([] : Go.Eng.Gd), bM6 vs os qs sg), (([] : Go.Eng.Gd), zM6)]) ∧ ∀ (x : Nat), x ≤ qs.length → br (decide ((↑x : Int) < (↑qs.length : Int))) (((0 : Int) ≤ (↑x : Int) ∧ (↑x : Int) < (↑qs.length : Int)) ∧ ∀ (d : List I6.den), qs[(↑x : Int).toNat]? = some d → InR IntKind.i64 ((↑x : Int) + (1 : Int)) ∧ ∃ x', x' ≤ qs.length ∧ (SV.c (SC.v (Value.int IntKind.i64 ((↑x : Int) + (1 : Int)))) = SV.c (SC.v (Value.int IntKind.i64 (↑x' : Int))) ∧ SV.c (SC.v (Value.int IntKind.i64 (maxI (mostM (List.take x qs)) (↑d.length : Int)))) = SV.c (SC.v (Value.int IntKind.i64 (mostM (List.take x' qs)))) ∧ True) ∧ [(([] : Go.Eng.Gd), bM6 vs os qs sg), (([] : Go.Eng.Gd), zM6)] = [(([] : Go.Eng.Gd), bM6 vs os qs sg), (([] : Go.Eng.Gd), zM6)] ∧ qs.length - x' < qs.length - x) ((bndM (vs, os, qs, sg, ()) ∧ (0 : I6.den) ≤ mostM (List.take x qs)) ∧ ([] : List Go.Eng.Res) = [] ∧ Ent.tup [SV.agg [SC.sl I6 (wkM (vs, os, qs, sg, ()) c (mostM qs)).fst.fst, SC.sl I6 (wkM (vs, os, qs, sg, ()) c (mostM qs)).fst.snd.fst, SC.sl I6.sl (wkM (vs, os, qs, sg, ()) c (mostM qs)).fst.snd.snd.fst, SC.sl I6 (wkM (vs, os, qs, sg, ()) c (mostM qs)).fst.snd.snd.snd.fst], SV.c (SC.v (Value.int IntKind.i64 (wkM (vs, os, qs, sg, ()) c (mostM qs)).snd.fst)), SV.c (SC.v (Value.int IntKind.i64 (wkM (vs, os, qs, sg, ()) c (mostM qs)).snd.snd))] = Ent.tup [SV.agg [SC.sl I6 ((wkM (vs, os, qs, sg, ()) c (mostM (List.take x qs))).fst.fst, (wkM (vs, os, qs, sg, ()) c (mostM (List.take x qs))).fst.snd.fst, (wkM (vs, os, qs, sg, ()) c (mostM (List.take x qs))).fst.snd.snd.fst, (wkM (vs, os, qs, sg, ()) c (mostM (List.take x qs))).fst.snd.snd.snd.fst, ()).fst, SC.sl I6 ((wkM (vs, os, qs, sg, ()) c (mostM (List.take x qs))).fst.snd.fst, (wkM (vs, os, qs, sg, ()) c (mostM (List.take x qs))).fst.snd.snd.fst, (wkM (vs, os, qs, sg, ()) c (mostM (List.take x qs))).fst.snd.snd.snd.fst, ()).fst, SC.sl I6.sl ((wkM (vs, os, qs, sg, ()) c (mostM (List.take x qs))).fst.snd.snd.fst, (wkM (vs, os, qs, sg, ()) c (mostM (List.take x qs))).fst.snd.snd.snd.fst, ()).fst, SC.sl I6 (wkM (vs, os, qs, sg, ()) c (mostM (List.take x qs))).fst.snd.snd.snd.fst], SV.c (SC.v (Value.int IntKind.i64 (wkM (vs, os, qs, sg, ()) c (mostM (List.take x qs))).snd.fst)), SV.c (SC.v (Value.int IntKind.i64 (wkM (vs, os, qs, sg, ()) c (mostM (List.take x qs))).snd.snd))]) := by
  have hb := hpre
  obtain ⟨b1, b2, b3, b4, b5, b6⟩ : vs.length ≤ 1000 ∧ os.length ≤ 1000 ∧ qs.length ≤ 1000 ∧ sg.length ≤ 1000 ∧ (∀ q ∈ qs, q.length ≤ 1000) ∧ qs.flatten.length ≤ 100000 := hpre
  refine ⟨⟨0, by omega, ⟨rfl, rfl, trivial⟩, rfl⟩, fun k hk => br_iff.2 ⟨fun g => ?_, fun g => ?_⟩⟩
  · simp only [decide_eq_true_eq] at g
    refine ⟨⟨by omega, by omega⟩, fun d hd => ⟨InR_i64.2 (by omega), k + 1, by omega, ⟨rfl, ?_, trivial⟩, rfl, by omega⟩⟩
    have hd : qs[k]? = some d := hd
    rw [most_take hd]
  simp only [decide_eq_false_iff_not] at g
  rw [List.take_of_length_le (i := k) (by omega)]
  exact ⟨⟨hb, (most_ge qs 0).1⟩, rfl, rfl⟩
set_option maxHeartbeats 2000000 in
set_option maxRecDepth 100000 in
theorem f22_met : Go.Eng.Met Tryd.prog cx0.gd 22 ctBro :=
  (met_all (cx := cx0) (n := 29) (cl := cl22) (il := il22) (hl := hl22) (ml := ml22) (rc := [.data shM, .keep, .keep]) (lits := []) (suf := []) (by kernel_rfl) tis_ok ⟨f52_met, trivial⟩ trivial trivial trivial Tryd.func22 (by kernel_rfl) (by kernel_rfl) rfl (by kernel_rfl) (by kernel_rfl) (by simp) fun d hd => by
    obtain ⟨⟨vs, os, qs, sg, ⟨⟩⟩, c, ⟨⟩⟩ := d
    exact ex_of (ann22 vs os qs sg c) (f22_vc vs os qs sg c hd) (by kernel_rfl)).met
@[reducible] def ctWov : CT := { ps := [shM, .int .i64, .int .i64], pre := fun d => bndM d.1 ∧ 0 ≤ d.2.1 ∧ d.2.1 < d.1.2.2.1.length ∧ 0 ≤ d.2.2.1 ∧ d.2.2.1 ≤ ((d.1.2.2.1[d.2.1.toNat]?.getD []).length : Int), res := fun d => ([], .one (.agg [.sl (.int .i64) ((wovM d.1 d.2.1 d.2.2.1)).1, .sl (.int .i64) ((wovM d.1 d.2.1 d.2.2.1)).2.1, .sl (.sl (.int .i64)) ((wovM d.1 d.2.1 d.2.2.1)).2.2.1, .sl (.int .i64) ((wovM d.1 d.2.1 d.2.2.1)).2.2.2.1])) }
@[reducible] noncomputable def cl53 : List (Nat × CT) := [(37, ctClD), (79, ctrUn), (61, ctCop)]
@[reducible] def ann53 (vs : List Int) (os : List Int) (qs : List (List Int)) (sg : List Int) (c : Int) (n : Int) : Nat → Option (St → Ann) := fun _ => none
@[reducible] def il53 : List (Nat × IP) := []
@[reducible] def hl53 : List (Nat × Nat × CT) := []
@[reducible] noncomputable def ml53 : List (Nat × MK) := []
set_option maxRecDepth 100000 in
theorem f53_vc (vs : List Int) (os : List Int) (qs : List (List Int)) (sg : List Int) (c : Int) (n : Int) (hpre : ctWov.pre ((vs, os, qs, sg, ()), c, n, ())) :
    bndM (vs, os, qs, sg, ()) ∧ ((0 : Int) ≤ c ∧ c < (↑qs.length : Int)) ∧ c.toNat < qs.length ∧ ∀ (d : List I6.den), qs[c.toNat]? = some d → ((0 : Int) ≤ (0 : Int) ∧ (0 : Int) ≤ n ∧ n ≤ (↑d.length : Int)) ∧ (sg.length ≤ (500000 : Nat) ∧ (List.drop (0 : Nat) (List.take n.toNat d)).length ≤ (500000 : Nat)) ∧ ((0 : Int) ≤ c ∧ c < (↑qs.length : Int)) ∧ c.toNat < qs.length ∧ ∀ (d_1 : List I6.den), qs[c.toNat]? = some d_1 → ((0 : Int) ≤ n ∧ n ≤ (↑d_1.length : Int) ∧ (↑d_1.length : Int) ≤ (↑d_1.length : Int)) ∧ (List.drop n.toNat (List.take (↑d_1.length : Int).toNat d_1)).length ≤ (1000000 : Nat) ∧ ((0 : Int) ≤ c ∧ c < (↑qs.length : Int)) ∧ c.toNat < qs.length ∧ ([] : List Go.Eng.Res) = [] ∧ Ent.one (SV.agg [SC.sl I6 (wovM (vs, os, qs, sg, ()) c n).fst, SC.sl I6 os, SC.sl I6.sl (qs.set c.toNat (List.drop n.toNat (qs[c.toNat]?.getD []))), SC.sl I6 (makeI (sg ++ List.take n.toNat (qs[c.toNat]?.getD [])))]) = Ent.one (SV.agg [SC.sl I6 vs, SC.sl I6 os, SC.sl I6.sl (qs.set c.toNat (List.drop n.toNat (List.take (↑d_1.length : Int).toNat d_1))), SC.sl I6 (makeI (sg ++ List.drop (0 : Nat) (List.take n.toNat d)))]) := by
  obtain ⟨hb, c0, c1, n0, n1⟩ : bndM (vs, os, qs, sg, ()) ∧ 0 ≤ c ∧ c < qs.length ∧ 0 ≤ n ∧ n ≤ ((qs[c.toNat]?.getD []).length : Int) := hpre
  obtain ⟨b1, b2, b3, b4, b5, b6⟩ : vs.length ≤ 1000 ∧ os.length ≤ 1000 ∧ qs.length ≤ 1000 ∧ sg.length ≤ 1000 ∧ (∀ q ∈ qs, q.length ≤ 1000) ∧ qs.flatten.length ≤ 100000 := id hb
  have hc : c.toNat < qs.length := by omega
  refine ⟨hb, ⟨c0, c1⟩, hc, fun d hd => ?_⟩
  have e : qs[c.toNat]?.getD [] = d := by rw [hd]; rfl
  rw [e] at n1
  have hl := b5 d (List.mem_of_getElem? hd)
  refine ⟨⟨by omega, n0, n1⟩, ⟨by omega, by rw [List.drop_zero, List.length_take]; omega⟩, ⟨c0, c1⟩, hc, fun d1 hd1 => ?_⟩
  rw [hd] at hd1; cases hd1
  have e2 : List.take (d.length : Int).toNat d = d := List.take_of_length_le (by omega)
  rw [e2, List.drop_zero]
  refine ⟨⟨n0, n1, by omega⟩, by rw [List.length_drop]; omega, ⟨c0, c1⟩, hc, rfl, ?_⟩
  rw [e]; rfl
set_option maxHeartbeats 2000000 in
set_option maxRecDepth 100000 in
theorem f53_met : Go.Eng.Met Tryd.prog cx0.gd 53 ctWov :=
  (met_all (cx := cx0) (n := 34) (cl := cl53) (il := il53) (hl := hl53) (ml := ml53) (rc := [.data shM]) (lits := []) (suf := []) (by kernel_rfl) tis_ok ⟨f37_met, f79_met, f61_met, trivial⟩ trivial trivial trivial Tryd.func53 (by kernel_rfl) (by kernel_rfl) rfl (by kernel_rfl) (by kernel_rfl) (by simp) fun d hd => by
    obtain ⟨⟨vs, os, qs, sg, ⟨⟩⟩, c, n, ⟨⟩⟩ := d
    exact ex_of (ann53 vs os qs sg c n) (f53_vc vs os qs sg c n hd) (by kernel_rfl)).met
@[reducible] noncomputable def cl21 : List (Nat × CT) := [(40, ctWf), (53, ctWov)]
@[reducible] def ann21 (vs : List Int) (os : List Int) (qs : List (List Int)) (sg : List Int) (c : Int) : Nat → Option (St → Ann) := fun _ => none
@[reducible] def il21 : List (Nat × IP) := []
@[reducible] def hl21 : List (Nat × Nat × CT) := []
@[reducible] noncomputable def ml21 : List (Nat × MK) := []
set_option maxRecDepth 100000 in
theorem f21_vc (vs : List Int) (os : List Int) (qs : List (List Int)) (sg : List Int) (c : Int) (hpre : ctSig.pre ((vs, os, qs, sg, ()), c, ())) :
    bndM (vs, os, qs, sg, ()) ∧ br (!formM (vs, os, qs, sg, ())) (([] : List Go.Eng.Res) = [] ∧ Ent.tup [SV.agg [SC.sl I6 (wkM (vs, os, qs, sg, ()) c (1 : Int)).fst.fst, SC.sl I6 (wkM (vs, os, qs, sg, ()) c (1 : Int)).fst.snd.fst, SC.sl I6.sl (wkM (vs, os, qs, sg, ()) c (1 : Int)).fst.snd.snd.fst, SC.sl I6 (wkM (vs, os, qs, sg, ()) c (1 : Int)).fst.snd.snd.snd.fst], SV.c (SC.v (Value.int IntKind.i64 (wkM (vs, os, qs, sg, ()) c (1 : Int)).snd.fst)), SV.c (SC.v (Value.int IntKind.i64 (wkM (vs, os, qs, sg, ()) c (1 : Int)).snd.snd))] = Ent.tup [SV.agg [SC.sl I6 [], SC.sl I6 [], SC.sl I6.sl [], SC.sl I6 []], SV.c (SC.v (Value.int IntKind.i64 (0 : Int))), SV.c (SC.v (Value.int IntKind.i64 (1 : Int)))]) (br (decide (c < (0 : Int)) || decide ((↑qs.length : Int) ≤ c)) (([] : List Go.Eng.Res) = [] ∧ Ent.tup [SV.agg [SC.sl I6 (wkM (vs, os, qs, sg, ()) c (1 : Int)).fst.fst, SC.sl I6 (wkM (vs, os, qs, sg, ()) c (1 : Int)).fst.snd.fst, SC.sl I6.sl (wkM (vs, os, qs, sg, ()) c (1 : Int)).fst.snd.snd.fst, SC.sl I6 (wkM (vs, os, qs, sg, ()) c (1 : Int)).fst.snd.snd.snd.fst], SV.c (SC.v (Value.int IntKind.i64 (wkM (vs, os, qs, sg, ()) c (1 : Int)).snd.fst)), SV.c (SC.v (Value.int IntKind.i64 (wkM (vs, os, qs, sg, ()) c (1 : Int)).snd.snd))] = Ent.tup [SV.agg [SC.sl I6 [], SC.sl I6 [], SC.sl I6.sl [], SC.sl I6 []], SV.c (SC.v (Value.int IntKind.i64 (0 : Int))), SV.c (SC.v (Value.int IntKind.i64 (11 : Int)))]) (((0 : Int) ≤ c ∧ c < (↑qs.length : Int)) ∧ ∀ (d : List I6.den), qs[c.toNat]? = some d → (bndM (vs, os, qs, sg, ()) ∧ (0 : I6.den) ≤ c ∧ c < (↑qs.length : I6.den) ∧ (0 : I6.den) ≤ minI (1 : Int) (↑d.length : Int) ∧ minI (1 : Int) (↑d.length : Int) ≤ (↑(List.length (qs[c.toNat]?.getD [])) : Int)) ∧ ([] : List Go.Eng.Res) = [] ∧ Ent.tup [SV.agg [SC.sl I6 (wkM (vs, os, qs, sg, ()) c (1 : Int)).fst.fst, SC.sl I6 (wkM (vs, os, qs, sg, ()) c (1 : Int)).fst.snd.fst, SC.sl I6.sl (wkM (vs, os, qs, sg, ()) c (1 : Int)).fst.snd.snd.fst, SC.sl I6 (wkM (vs, os, qs, sg, ()) c (1 : Int)).fst.snd.snd.snd.fst], SV.c (SC.v (Value.int IntKind.i64 (wkM (vs, os, qs, sg, ()) c (1 : Int)).snd.fst)), SV.c (SC.v (Value.int IntKind.i64 (wkM (vs, os, qs, sg, ()) c (1 : Int)).snd.snd))] = Ent.tup [SV.agg [SC.sl I6 ((wovM (vs, os, qs, sg, ()) c (minI (1 : Int) (↑d.length : Int))).fst, os, qs.set c.toNat (List.drop (minI (1 : Int) (↑d.length : Int)).toNat (qs[c.toNat]?.getD [])), makeI (sg ++ List.take (minI (1 : Int) (↑d.length : Int)).toNat (qs[c.toNat]?.getD [])), ()).fst, SC.sl I6 os, SC.sl I6.sl (qs.set c.toNat (List.drop (minI (1 : Int) (↑d.length : Int)).toNat (qs[c.toNat]?.getD []))), SC.sl I6 (makeI (sg ++ List.take (minI (1 : Int) (↑d.length : Int)).toNat (qs[c.toNat]?.getD [])))], SV.c (SC.v (Value.int IntKind.i64 (minI (1 : Int) (↑d.length : Int)))), SV.c (SC.v (Value.int IntKind.i64 (0 : Int)))])) := by
  have hb := hpre
  obtain ⟨b1, b2, b3, b4, b5, b6⟩ : vs.length ≤ 1000 ∧ os.length ≤ 1000 ∧ qs.length ≤ 1000 ∧ sg.length ≤ 1000 ∧ (∀ q ∈ qs, q.length ≤ 1000) ∧ qs.flatten.length ≤ 100000 := hpre
  have hw : wkM (vs, os, qs, sg, ()) c 1 = wkM (vs, os, qs, sg, ()) c 1 := rfl
  refine ⟨hb, br_iff.2 ⟨fun h => ⟨rfl, ?_⟩, fun h => br_iff.2 ⟨fun g => ⟨rfl, ?_⟩, fun g => ?_⟩⟩⟩
  · unfold wkM; rw [ins_bad (by simpa using h)]; rfl
  · unfold wkM; rw [ins_out (by simpa using h) (by simpa using g)]; rfl
  · have g : ¬ (c < 0 ∨ (qs.length : Int) ≤ c) := by simpa using g
    have h0 : insM (vs, os, qs, sg, ()) c qs.length = 0 := ins_in (by simpa using h) g
    refine ⟨⟨by omega, by omega⟩, fun d hd => ?_⟩
    have e : qs[c.toNat]?.getD [] = d := by rw [hd]; rfl
    have hm : minI 1 (d.length : Int) = minI 1 (d.length : Int) := rfl
    have hm2 : 0 ≤ minI 1 (d.length : Int) ∧ minI 1 (d.length : Int) ≤ d.length := by unfold minI; split <;> omega
    have ew : wkM (vs, os, qs, sg, ()) c 1 = (wovM (vs, os, qs, sg, ()) c (minI 1 (d.length : Int)), minI 1 (d.length : Int), 0) := by
      have := wk_wov (n := 1) h0
      rw [show (vs, os, qs, sg, ()).2.2.1[c.toNat]?.getD [] = d from e] at this
      exact this
    rw [ew]
    exact ⟨⟨hb, (by omega : 0 ≤ c), (by omega : c < (qs.length : Int)), hm2.1, by rw [e]; exact hm2.2⟩, rfl, rfl⟩
set_option maxHeartbeats 2000000 in
set_option maxRecDepth 100000 in
theorem f21_met : Go.Eng.Met Tryd.prog cx0.gd 21 ctSig :=
  (met_all (cx := cx0) (n := 34) (cl := cl21) (il := il21) (hl := hl21) (ml := ml21) (rc := [.data shM, .keep, .keep]) (lits := []) (suf := []) (by kernel_rfl) tis_ok ⟨f40_met, f53_met, trivial⟩ trivial trivial trivial Tryd.func21 (by kernel_rfl) (by kernel_rfl) rfl (by kernel_rfl) (by kernel_rfl) (by simp) fun d hd => by
    obtain ⟨⟨vs, os, qs, sg, ⟨⟩⟩, c, ⟨⟩⟩ := d
    exact ex_of (ann21 vs os qs sg c) (f21_vc vs os qs sg c hd) (by kernel_rfl)).met
@[reducible] noncomputable def cl23 : List (Nat × CT) := [(40, ctWf), (53, ctWov)]
@[reducible] def ann23 (vs : List Int) (os : List Int) (qs : List (List Int)) (sg : List Int) (c : Int) : Nat → Option (St → Ann) := fun _ => none
@[reducible] def il23 : List (Nat × IP) := []
@[reducible] def hl23 : List (Nat × Nat × CT) := []
@[reducible] noncomputable def ml23 : List (Nat × MK) := []
set_option maxRecDepth 100000 in
theorem f23_vc (vs : List Int) (os : List Int) (qs : List (List Int)) (sg : List Int) (c : Int) (hpre : ctBro.pre ((vs, os, qs, sg, ()), c, ())) :
    bndM (vs, os, qs, sg, ()) ∧ br (!formM (vs, os, qs, sg, ())) (([] : List Go.Eng.Res) = [] ∧ Ent.tup [SV.agg [SC.sl I6 (wkM (vs, os, qs, sg, ()) c (mostM qs)).fst.fst, SC.sl I6 (wkM (vs, os, qs, sg, ()) c (mostM qs)).fst.snd.fst, SC.sl I6.sl (wkM (vs, os, qs, sg, ()) c (mostM qs)).fst.snd.snd.fst, SC.sl I6 (wkM (vs, os, qs, sg, ()) c (mostM qs)).fst.snd.snd.snd.fst], SV.c (SC.v (Value.int IntKind.i64 (wkM (vs, os, qs, sg, ()) c (mostM qs)).snd.fst)), SV.c (SC.v (Value.int IntKind.i64 (wkM (vs, os, qs, sg, ()) c (mostM qs)).snd.snd))] = Ent.tup [SV.agg [SC.sl I6 [], SC.sl I6 [], SC.sl I6.sl [], SC.sl I6 []], SV.c (SC.v (Value.int IntKind.i64 (0 : Int))), SV.c (SC.v (Value.int IntKind.i64 (1 : Int)))]) (br (decide (c < (0 : Int)) || decide ((↑qs.length : Int) ≤ c)) (([] : List Go.Eng.Res) = [] ∧ Ent.tup [SV.agg [SC.sl I6 (wkM (vs, os, qs, sg, ()) c (mostM qs)).fst.fst, SC.sl I6 (wkM (vs, os, qs, sg, ()) c (mostM qs)).fst.snd.fst, SC.sl I6.sl (wkM (vs, os, qs, sg, ()) c (mostM qs)).fst.snd.snd.fst, SC.sl I6 (wkM (vs, os, qs, sg, ()) c (mostM qs)).fst.snd.snd.snd.fst], SV.c (SC.v (Value.int IntKind.i64 (wkM (vs, os, qs, sg, ()) c (mostM qs)).snd.fst)), SV.c (SC.v (Value.int IntKind.i64 (wkM (vs, os, qs, sg, ()) c (mostM qs)).snd.snd))] = Ent.tup [SV.agg [SC.sl I6 [], SC.sl I6 [], SC.sl I6.sl [], SC.sl I6 []], SV.c (SC.v (Value.int IntKind.i64 (0 : Int))), SV.c (SC.v (Value.int IntKind.i64 (11 : Int)))]) (((0 : Int) ≤ c ∧ c < (↑qs.length : Int)) ∧ ∀ (d : List I6.den), qs[c.toNat]? = some d → (bndM (vs, os, qs, sg, ()) ∧ (0 : I6.den) ≤ c ∧ c < (↑qs.length : I6.den) ∧ (0 : I6.den) ≤ (↑d.length : Int) ∧ (↑d.length : Int) ≤ (↑(List.length (qs[c.toNat]?.getD [])) : Int)) ∧ ([] : List Go.Eng.Res) = [] ∧ Ent.tup [SV.agg [SC.sl I6 (wkM (vs, os, qs, sg, ()) c (mostM qs)).fst.fst, SC.sl I6 (wkM (vs, os, qs, sg, ()) c (mostM qs)).fst.snd.fst, SC.sl I6.sl (wkM (vs, os, qs, sg, ()) c (mostM qs)).fst.snd.snd.fst, SC.sl I6 (wkM (vs, os, qs, sg, ()) c (mostM qs)).fst.snd.snd.snd.fst], SV.c (SC.v (Value.int IntKind.i64 (wkM (vs, os, qs, sg, ()) c (mostM qs)).snd.fst)), SV.c (SC.v (Value.int IntKind.i64 (wkM (vs, os, qs, sg, ()) c (mostM qs)).snd.snd))] = Ent.tup [SV.agg [SC.sl I6 ((wovM (vs, os, qs, sg, ()) c (↑d.length : Int)).fst, os, qs.set c.toNat (List.drop (↑d.length : Int).toNat (qs[c.toNat]?.getD [])), makeI (sg ++ List.take (↑d.length : Int).toNat (qs[c.toNat]?.getD [])), ()).fst, SC.sl I6 os, SC.sl I6.sl (qs.set c.toNat (List.drop (↑d.length : Int).toNat (qs[c.toNat]?.getD []))), SC.sl I6 (makeI (sg ++ List.take (↑d.length : Int).toNat (qs[c.toNat]?.getD [])))], SV.c (SC.v (Value.int IntKind.i64 (↑d.length : Int))), SV.c (SC.v (Value.int IntKind.i64 (0 : Int)))])) := by
  have hb := hpre
  obtain ⟨b1, b2, b3, b4, b5, b6⟩ : vs.length ≤ 1000 ∧ os.length ≤ 1000 ∧ qs.length ≤ 1000 ∧ sg.length ≤ 1000 ∧ (∀ q ∈ qs, q.length ≤ 1000) ∧ qs.flatten.length ≤ 100000 := hpre
  have hw : wkM (vs, os, qs, sg, ()) c (mostM qs) = wkM (vs, os, qs, sg, ()) c (mostM qs) := rfl
  refine ⟨hb, br_iff.2 ⟨fun h => ⟨rfl, ?_⟩, fun h => br_iff.2 ⟨fun g => ⟨rfl, ?_⟩, fun g => ?_⟩⟩⟩
  · unfold wkM; rw [ins_bad (by simpa using h)]; rfl
  · unfold wkM; rw [ins_out (by simpa using h) (by simpa using g)]; rfl
  · have g : ¬ (c < 0 ∨ (qs.length : Int) ≤ c) := by simpa using g
    have h0 : insM (vs, os, qs, sg, ()) c qs.length = 0 := ins_in (by simpa using h) g
    refine ⟨⟨by omega, by omega⟩, fun d hd => ?_⟩
    have e : qs[c.toNat]?.getD [] = d := by rw [hd]; rfl
    have hm : minI (mostM qs) (d.length : Int) = (d.length : Int) := (by have := (most_ge qs 0).2 d (List.mem_of_getElem? hd); unfold minI; split <;> (unfold mostM at *; omega))
    have hm2 : 0 ≤ minI (mostM qs) (d.length : Int) ∧ minI (mostM qs) (d.length : Int) ≤ d.length := by unfold minI; split <;> (have := (most_ge qs 0).1; unfold mostM at *; first | omega | skip) <;> omega
    have ew : wkM (vs, os, qs, sg, ()) c (mostM qs) = (wovM (vs, os, qs, sg, ()) c (minI (mostM qs) (d.length : Int)), minI (mostM qs) (d.length : Int), 0) := by
      have := wk_wov (n := (mostM qs)) h0
      rw [show (vs, os, qs, sg, ()).2.2.1[c.toNat]?.getD [] = d from e] at this
      exact this
    rw [ew]
    exact ⟨⟨hb, (by omega : 0 ≤ c), (by omega : c < (qs.length : Int)), (by omega : (0 : Int) ≤ (d.length : Int)), by rw [e]; exact Int.le_refl _⟩, rfl, by rw [hm]; rfl⟩
set_option maxHeartbeats 2000000 in
set_option maxRecDepth 100000 in
theorem f23_met : Go.Eng.Met Tryd.prog cx0.gd 23 ctBro :=
  (met_all (cx := cx0) (n := 33) (cl := cl23) (il := il23) (hl := hl23) (ml := ml23) (rc := [.data shM, .keep, .keep]) (lits := []) (suf := []) (by kernel_rfl) tis_ok ⟨f40_met, f53_met, trivial⟩ trivial trivial trivial Tryd.func23 (by kernel_rfl) (by kernel_rfl) rfl (by kernel_rfl) (by kernel_rfl) (by simp) fun d hd => by
    obtain ⟨⟨vs, os, qs, sg, ⟨⟩⟩, c, ⟨⟩⟩ := d
    exact ex_of (ann23 vs os qs sg c) (f23_vc vs os qs sg c hd) (by kernel_rfl)).met
@[reducible] noncomputable def cl25 : List (Nat × CT) := [(40, ctWf), (56, ct46), (57, ctrRem), (37, ctClD)]
@[reducible] def ann25 (vs : List Int) (os : List Int) (qs : List (List Int)) (sg : List Int) (id : Int) : Nat → Option (St → Ann) := fun _ => none
@[reducible] def il25 : List (Nat × IP) := []
@[reducible] def hl25 : List (Nat × Nat × CT) := []
@[reducible] noncomputable def ml25 : List (Nat × MK) := []
set_option maxRecDepth 100000 in
theorem f25_vc (vs : List Int) (os : List Int) (qs : List (List Int)) (sg : List Int) (id : Int) (hpre : ctWke.pre ((vs, os, qs, sg, ()), id, ())) :
    bndM (vs, os, qs, sg, ()) ∧ br (!formM (vs, os, qs, sg, ())) (([] : List Go.Eng.Res) = [] ∧ Ent.tup [SV.agg [SC.sl I6 (wakeM (vs, os, qs, sg, ()) id).fst.fst, SC.sl I6 (wakeM (vs, os, qs, sg, ()) id).fst.snd.fst, SC.sl I6.sl (wakeM (vs, os, qs, sg, ()) id).fst.snd.snd.fst, SC.sl I6 (wakeM (vs, os, qs, sg, ()) id).fst.snd.snd.snd.fst], SV.c (SC.v (Value.int IntKind.i64 (wakeM (vs, os, qs, sg, ()) id).snd))] = Ent.tup [SV.agg [SC.sl I6 [], SC.sl I6 [], SC.sl I6.sl [], SC.sl I6 []], SV.c (SC.v (Value.int IntKind.i64 (1 : Int)))]) (sg.length ≤ (4611686018427387904 : Nat) ∧ br (!hasI sg id) (([] : List Go.Eng.Res) = [] ∧ Ent.tup [SV.agg [SC.sl I6 (wakeM (vs, os, qs, sg, ()) id).fst.fst, SC.sl I6 (wakeM (vs, os, qs, sg, ()) id).fst.snd.fst, SC.sl I6.sl (wakeM (vs, os, qs, sg, ()) id).fst.snd.snd.fst, SC.sl I6 (wakeM (vs, os, qs, sg, ()) id).fst.snd.snd.snd.fst], SV.c (SC.v (Value.int IntKind.i64 (wakeM (vs, os, qs, sg, ()) id).snd))] = Ent.tup [SV.agg [SC.sl I6 [], SC.sl I6 [], SC.sl I6.sl [], SC.sl I6 []], SV.c (SC.v (Value.int IntKind.i64 (30 : Int)))]) (bndM (vs, os, qs, sg, ()) ∧ sg.length ≤ (1000000 : Nat) ∧ ([] : List Go.Eng.Res) = [] ∧ Ent.tup [SV.agg [SC.sl I6 (wakeM (vs, os, qs, sg, ()) id).fst.fst, SC.sl I6 (wakeM (vs, os, qs, sg, ()) id).fst.snd.fst, SC.sl I6.sl (wakeM (vs, os, qs, sg, ()) id).fst.snd.snd.fst, SC.sl I6 (wakeM (vs, os, qs, sg, ()) id).fst.snd.snd.snd.fst], SV.c (SC.v (Value.int IntKind.i64 (wakeM (vs, os, qs, sg, ()) id).snd))] = Ent.tup [SV.agg [SC.sl I6 vs, SC.sl I6 os, SC.sl I6.sl qs, SC.sl I6 (makeI (filI sg [id] false))], SV.c (SC.v (Value.int IntKind.i64 (0 : Int)))])) := by
  have hb := hpre
  obtain ⟨b1, b2, b3, b4, b5, b6⟩ : vs.length ≤ 1000 ∧ os.length ≤ 1000 ∧ qs.length ≤ 1000 ∧ sg.length ≤ 1000 ∧ (∀ q ∈ qs, q.length ≤ 1000) ∧ qs.flatten.length ≤ 100000 := hpre
  unfold wakeM
  refine ⟨hb, br_iff.2 ⟨fun h => ⟨rfl, ?_⟩, fun h => ⟨by omega, br_iff.2 ⟨fun g => ⟨rfl, ?_⟩, fun g => ⟨hb, by omega, rfl, ?_⟩⟩⟩⟩⟩
  · rw [if_pos (by simpa using h)]; rfl
  · rw [if_neg (by simpa using h), if_pos (by simpa using g)]; rfl
  · rw [if_neg (by simpa using h), if_neg (by simpa using g)]
    have hs : SS sg := (formM_iff.1 (show formM (vs, os, qs, sg, ()) = true by simpa using h)).2.2.2.1
    have e1 : makeI sg = sg := ss_ext (make_ss _) hs fun y => make_mem
    have e2 : makeI (filI sg [id] false) = filI sg [id] false := ss_ext (make_ss _) (by unfold filI; exact List.Pairwise.filter _ hs) fun y => make_mem
    rw [e2]
    have e3 : filI (makeI sg) [id] false = filI sg [id] false := by rw [e1]
    exact congrArg (fun z => Ent.tup [SV.agg [SC.sl (Sh.int .i64) vs, SC.sl (Sh.int .i64) os, SC.sl (Sh.sl (Sh.int .i64)) qs, SC.sl (Sh.int .i64) z], SV.c (SC.v (Value.int .i64 0))]) e3
set_option maxHeartbeats 2000000 in
set_option maxRecDepth 100000 in
theorem f25_met : Go.Eng.Met Tryd.prog cx0.gd 25 ctWke :=
  (met_all (cx := cx0) (n := 25) (cl := cl25) (il := il25) (hl := hl25) (ml := ml25) (rc := [.data shM, .keep]) (lits := []) (suf := []) (by kernel_rfl) tis_ok ⟨f40_met, f56_met, f57_met, f37_met, trivial⟩ trivial trivial trivial Tryd.func25 (by kernel_rfl) (by kernel_rfl) rfl (by kernel_rfl) (by kernel_rfl) (by simp) fun d hd => by
    obtain ⟨⟨vs, os, qs, sg, ⟨⟩⟩, id, ⟨⟩⟩ := d
    exact ex_of (ann25 vs os qs sg id) (f25_vc vs os qs sg id hd) (by kernel_rfl)).met
end Go.Proofs.YtkgjfkdcnoockaaDoor
set_option linter.unusedSimpArgs false
set_option linter.unusedVariables false
set_option maxRecDepth 100000
namespace Go.Proofs.YtkgjfkdcnoockaaDoor
open Go Go.Eng

@[reducible] def cxD : Cx := { ti := tis, gd := gd0, dm := true }
theorem join_succ {n k : Nat} (h : n = k) : joinOwn n (fun j => decide (j < k)) own0 = fun j => decide (j < k + 1) := by
  subst h
  funext j
  by_cases h : j < n
  · simp [joinOwn, cnd, h]; omega
  · simp [joinOwn, cnd, own0, h]; omega
theorem own_none : noOwn = fun j => decide (j < 0) := by funext j; simp

@[reducible] def cl37o : List (Nat × CT) := [(61, ctCop)]
@[reducible] def ann37o (vs : List Int) (os : List Int) (qs : List (List Int)) (sg : List Int) : Nat → Option (St → Ann) := fun k => match k with
  | 2 => some fun _ => .cut { α := Nat, pad := 4, can := [(2, .slot 3), (3, .cell 2 0), (4, .cell 2 1), (5, .cell 2 3)], slots := fun _ => [(3, .c (.own 2 0))], res := fun _ => [(2, .blk 31 [.row 3, .row 4, .v (.slice none 0 0), .row 5]), (3, .row 3 (.int .i64) (vs)), (4, .row 3 (.int .i64) (os)), (5, .row 3 (.int .i64) (sg))], inv := fun u => u = 0, meas := fun _ => 0 }
  | 3 => some fun _ => .inv { α := Nat, nilC := [(2, 2, 28, .sl (.int .i64))], deep := [(6, 3, .int .i64, 0)], slots := fun k => [(4, .c (.v (.int .i64 k)))], res := fun k => [(6, .deep 28 (.sl (.int .i64)) (qs.take k) 3 (.int .i64) 0 (fun j => decide (j < k)) [])], inv := fun k => k ≤ qs.length, meas := fun k => qs.length - k }
  | _ => none
@[reducible] def il37o : List (Nat × IP) := []
@[reducible] def hl37o : List (Nat × Nat × CT) := []
@[reducible] def ml37o : List (Nat × MK) := []
set_option maxRecDepth 100000 in
theorem f37o_vc (vs : List Int) (os : List Int) (qs : List (List Int)) (sg : List Int) (hpre : ctClO.pre ((vs, os, qs, sg, ()), ())) :
    ((vs.length ≤ (1000000 : Nat) ∧ (os.length ≤ (1000000 : Nat) ∧ (sg.length ≤ (1000000 : Nat) ∧ (∃ v, v = (0 : Nat) ∧ (SV.c (SC.own (2 : Nat) (0 : Nat)) = SV.c (SC.own (2 : Nat) (0 : Nat)) ∧ True) ∧ [(([] : Go.Eng.Gd), bM6 vs os qs sg), (([] : Go.Eng.Gd), zM6), (([] : Go.Eng.Gd), Res.blk (31 : Nat) [SC.row (3 : Nat), SC.row (4 : Nat), nS6, SC.row (5 : Nat)]), (([] : Go.Eng.Gd), Res.row (3 : TypeId) I6 vs), (([] : Go.Eng.Gd), Res.row (3 : TypeId) I6 os), (([] : Go.Eng.Gd), Res.row (3 : TypeId) I6 sg)] = [(([] : Go.Eng.Gd), bM6 vs os qs sg), (([] : Go.Eng.Gd), zM6), (([] : Go.Eng.Gd), Res.blk (31 : TypeId) [SC.row (3 : Nat), SC.row (4 : Nat), nS6, SC.row (5 : Nat)]), (([] : Go.Eng.Gd), Res.row (3 : TypeId) I6 vs), (([] : Go.Eng.Gd), Res.row (3 : TypeId) I6 os), (([] : Go.Eng.Gd), Res.row (3 : TypeId) I6 sg)]) ∧ ∃ v, v = (0 : Nat) ∧ (SV.c (SC.own (2 : Nat) (0 : Nat)) = SV.c (SC.own (2 : Nat) (0 : Nat)) ∧ True) ∧ [(([] : Go.Eng.Gd), bM6 vs os qs sg), (([] : Go.Eng.Gd), zM6), (([] : Go.Eng.Gd), Res.blk (31 : Nat) [SC.row (3 : Nat), SC.row (4 : Nat), nS6, SC.row (5 : Nat)]), (([] : Go.Eng.Gd), Res.row (3 : TypeId) I6 vs), (([] : Go.Eng.Gd), Res.row (3 : TypeId) I6 os), (([] : Go.Eng.Gd), Res.row (3 : TypeId) I6 sg)] = [(([] : Go.Eng.Gd), bM6 vs os qs sg), (([] : Go.Eng.Gd), zM6), (([] : Go.Eng.Gd), Res.blk (31 : TypeId) [SC.row (3 : Nat), SC.row (4 : Nat), nS6, SC.row (5 : Nat)]), (([] : Go.Eng.Gd), Res.row (3 : TypeId) I6 vs), (([] : Go.Eng.Gd), Res.row (3 : TypeId) I6 os), (([] : Go.Eng.Gd), Res.row (3 : TypeId) I6 sg)]) ∧ sg.length ≤ (1000000 : Nat) ∧ ∃ v, v = (0 : Nat) ∧ (SV.c (SC.own (2 : Nat) (0 : Nat)) = SV.c (SC.own (2 : Nat) (0 : Nat)) ∧ True) ∧ [(([] : Go.Eng.Gd), bM6 vs os qs sg), (([] : Go.Eng.Gd), zM6), (([] : Go.Eng.Gd), Res.blk (31 : Nat) [SC.row (3 : Nat), SC.row (4 : Nat), nS6, SC.row (5 : Nat)]), (([] : Go.Eng.Gd), Res.row (3 : TypeId) I6 vs), (([] : Go.Eng.Gd), Res.row (3 : TypeId) I6 os), (([] : Go.Eng.Gd), Res.row (3 : TypeId) I6 sg)] = [(([] : Go.Eng.Gd), bM6 vs os qs sg), (([] : Go.Eng.Gd), zM6), (([] : Go.Eng.Gd), Res.blk (31 : TypeId) [SC.row (3 : Nat), SC.row (4 : Nat), nS6, SC.row (5 : Nat)]), (([] : Go.Eng.Gd), Res.row (3 : TypeId) I6 vs), (([] : Go.Eng.Gd), Res.row (3 : TypeId) I6 os), (([] : Go.Eng.Gd), Res.row (3 : TypeId) I6 sg)]) ∧ os.length ≤ (1000000 : Nat) ∧ sg.length ≤ (1000000 : Nat) ∧ ∃ v, v = (0 : Nat) ∧ (SV.c (SC.own (2 : Nat) (0 : Nat)) = SV.c (SC.own (2 : Nat) (0 : Nat)) ∧ True) ∧ [(([] : Go.Eng.Gd), bM6 vs os qs sg), (([] : Go.Eng.Gd), zM6), (([] : Go.Eng.Gd), Res.blk (31 : Nat) [SC.row (3 : Nat), SC.row (4 : Nat), nS6, SC.row (5 : Nat)]), (([] : Go.Eng.Gd), Res.row (3 : TypeId) I6 vs), (([] : Go.Eng.Gd), Res.row (3 : TypeId) I6 os), (([] : Go.Eng.Gd), Res.row (3 : TypeId) I6 sg)] = [(([] : Go.Eng.Gd), bM6 vs os qs sg), (([] : Go.Eng.Gd), zM6), (([] : Go.Eng.Gd), Res.blk (31 : TypeId) [SC.row (3 : Nat), SC.row (4 : Nat), nS6, SC.row (5 : Nat)]), (([] : Go.Eng.Gd), Res.row (3 : TypeId) I6 vs), (([] : Go.Eng.Gd), Res.row (3 : TypeId) I6 os), (([] : Go.Eng.Gd), Res.row (3 : TypeId) I6 sg)]) ∧ vs.length ≤ (1000000 : Nat) ∧ os.length ≤ (1000000 : Nat) ∧ sg.length ≤ (1000000 : Nat) ∧ ∃ v, v = (0 : Nat) ∧ (SV.c (SC.own (2 : Nat) (0 : Nat)) = SV.c (SC.own (2 : Nat) (0 : Nat)) ∧ True) ∧ [(([] : Go.Eng.Gd), bM6 vs os qs sg), (([] : Go.Eng.Gd), zM6), (([] : Go.Eng.Gd), Res.blk (31 : Nat) [SC.row (3 : Nat), SC.row (4 : Nat), nS6, SC.row (5 : Nat)]), (([] : Go.Eng.Gd), Res.row (3 : TypeId) I6 vs), (([] : Go.Eng.Gd), Res.row (3 : TypeId) I6 os), (([] : Go.Eng.Gd), Res.row (3 : TypeId) I6 sg)] = [(([] : Go.Eng.Gd), bM6 vs os qs sg), (([] : Go.Eng.Gd), zM6), (([] : Go.Eng.Gd), Res.blk (31 : TypeId) [SC.row (3 : Nat), SC.row (4 : Nat), nS6, SC.row (5 : Nat)]), (([] : Go.Eng.Gd), Res.row (3 : TypeId) I6 vs), (([] : Go.Eng.Gd), Res.row (3 : TypeId) I6 os), (([] : Go.Eng.Gd), Res.row (3 : TypeId) I6 sg)]) ∧ ∀ (v : Nat), v = (0 : Nat) → (∃ x, x ≤ qs.length ∧ (SV.c (SC.v (Value.int IntKind.i64 (0 : Int))) = SV.c (SC.v (Value.int IntKind.i64 (↑x : Int))) ∧ True) ∧ [(([] : Go.Eng.Gd), bM6 vs os qs sg), (([] : Go.Eng.Gd), zM6), (([] : Go.Eng.Gd), Res.blk (31 : TypeId) [SC.row (3 : Nat), SC.row (4 : Nat), SC.row (Nat.succ (0 : Nat)).succ.succ.succ.succ.succ, SC.row (5 : Nat)]), (([] : Go.Eng.Gd), Res.row (3 : TypeId) I6 vs), (([] : Go.Eng.Gd), Res.row (3 : TypeId) I6 os), (([] : Go.Eng.Gd), Res.row (3 : TypeId) I6 sg), (([] : Go.Eng.Gd), Res.deep (28 : TypeId) I6.sl [] (3 : TypeId) I6 (0 : Nat) noOwn [])] = [(([] : Go.Eng.Gd), bM6 vs os qs sg), (([] : Go.Eng.Gd), zM6), (([] : Go.Eng.Gd), Res.blk (31 : TypeId) [SC.row (3 : Nat), SC.row (4 : Nat), SC.row (Nat.succ (0 : Nat)).succ.succ.succ.succ.succ, SC.row (5 : Nat)]), (([] : Go.Eng.Gd), Res.row (3 : TypeId) I6 vs), (([] : Go.Eng.Gd), Res.row (3 : TypeId) I6 os), (([] : Go.Eng.Gd), Res.row (3 : TypeId) I6 sg), (([] : Go.Eng.Gd), Res.deep (28 : TypeId) I6.sl (List.take x qs) (3 : TypeId) I6 (0 : Nat) (fun j => decide (j < x)) [])]) ∧ ∀ (x : Nat), x ≤ qs.length → br (decide ((↑x : Int) < (↑qs.length : Int))) (((0 : Int) ≤ (↑x : Int) ∧ (↑x : Int) < (↑qs.length : Int)) ∧ ∀ (d : List I6.den), qs[(↑x : Int).toNat]? = some d → d.length ≤ (1000000 : Nat) ∧ ((1 : Nat) ≤ List.length ([d]) ∧ InA (List.length (List.take x qs) + List.length ([d])) (24 : Nat)) ∧ InR IntKind.i64 ((↑x : Int) + (1 : Int)) ∧ ∃ x', x' ≤ qs.length ∧ (SV.c (SC.v (Value.int IntKind.i64 ((↑x : Int) + (1 : Int)))) = SV.c (SC.v (Value.int IntKind.i64 (↑x' : Int))) ∧ True) ∧ [(([] : Go.Eng.Gd), bM6 vs os qs sg), (([] : Go.Eng.Gd), zM6), (([] : Go.Eng.Gd), Res.blk (31 : TypeId) [SC.row (3 : Nat), SC.row (4 : Nat), SC.row (Nat.succ (0 : Nat)).succ.succ.succ.succ.succ, SC.row (5 : Nat)]), (([] : Go.Eng.Gd), Res.row (3 : TypeId) I6 vs), (([] : Go.Eng.Gd), Res.row (3 : TypeId) I6 os), (([] : Go.Eng.Gd), Res.row (3 : TypeId) I6 sg), (([] : Go.Eng.Gd), Res.deep (28 : TypeId) I6.sl (List.take x qs ++ [d]) (3 : TypeId) I6 (0 : Nat) (joinOwn (List.length (List.take x qs)) (fun j => decide (j < x)) own0) [])] = [(([] : Go.Eng.Gd), bM6 vs os qs sg), (([] : Go.Eng.Gd), zM6), (([] : Go.Eng.Gd), Res.blk (31 : TypeId) [SC.row (3 : Nat), SC.row (4 : Nat), SC.row (Nat.succ (0 : Nat)).succ.succ.succ.succ.succ, SC.row (5 : Nat)]), (([] : Go.Eng.Gd), Res.row (3 : TypeId) I6 vs), (([] : Go.Eng.Gd), Res.row (3 : TypeId) I6 os), (([] : Go.Eng.Gd), Res.row (3 : TypeId) I6 sg), (([] : Go.Eng.Gd), Res.deep (28 : TypeId) I6.sl (List.take x' qs) (3 : TypeId) I6 (0 : Nat) (fun j => decide (j < x')) [])] ∧ qs.length - x' < qs.length - x) ([Res.row (3 : TypeId) I6 vs, Res.row (3 : TypeId) I6 os, Res.deep (28 : TypeId) I6.sl qs (3 : TypeId) I6 (0 : Nat) (fun j => decide (j < List.length (vs, os, qs, sg, ()).snd.snd.fst)) [], Res.row (3 : TypeId) I6 sg] = [Res.row (3 : TypeId) I6 vs, Res.row (3 : TypeId) I6 os, Res.deep (28 : TypeId) I6.sl (List.take x qs) (3 : TypeId) I6 (0 : Nat) (fun j => decide (j < x)) [], Res.row (3 : TypeId) I6 sg] ∧ Ent.one (SV.agg [SC.row (0 : Nat), SC.row (1 : Nat), SC.row (2 : Nat), SC.row (3 : Nat)]) = Ent.one (SV.agg [SC.row (0 : Nat), SC.row (Nat.succ (0 : Nat)), SC.row (Nat.succ (0 : Nat)).succ, SC.row (Nat.succ (0 : Nat)).succ.succ])) := by
  obtain ⟨b1, b2, b3, b4, b5, b6⟩ : vs.length ≤ 1000 ∧ os.length ≤ 1000 ∧ qs.length ≤ 1000 ∧ sg.length ≤ 1000 ∧ (∀ q ∈ qs, q.length ≤ 1000) ∧ qs.flatten.length ≤ 100000 := hpre
  refine ⟨?_, fun u hu => ⟨⟨0, by omega, ⟨rfl, trivial⟩, ?_⟩, fun k hk => br_iff.2 ⟨fun g => ?_, fun g => ?_⟩⟩⟩
  · repeat' first | exact ⟨0, rfl, ⟨rfl, trivial⟩, rfl⟩ | (refine And.intro ?_ ?_) | omega
  · rw [own_none]; rfl
  · simp only [decide_eq_true_eq] at g
    have hl : (qs.take k).length = k := by rw [List.length_take]; omega
    refine ⟨⟨by omega, by omega⟩, fun d hd => ⟨?_, ⟨by simp, InA_iff.2 ?_⟩, InR_i64.2 (by omega), k + 1, by omega, ⟨rfl, trivial⟩, ?_, by omega⟩⟩
    · have := b5 d (List.mem_of_getElem? hd); omega
    · simp only [List.length_take, List.length_cons, List.length_nil]; omega
    · have hd : qs[k]? = some d := hd
      have e : qs.take (k + 1) = qs.take k ++ [d] := by rw [List.take_add_one, hd]; simp
      rw [e, join_succ hl]
  simp only [decide_eq_false_iff_not] at g
  have ek : k = qs.length := by omega
  subst ek
  rw [List.take_of_length_le (Nat.le_refl _)]
  exact ⟨rfl, rfl⟩
set_option maxHeartbeats 2000000 in
set_option maxRecDepth 100000 in
theorem f37o_met : Go.Eng.Met Tryd.prog cxD.gd 37 ctClO :=
  (met_all (cx := cxD) (n := 34) (cl := cl37o) (il := il37o) (hl := hl37o) (ml := ml37o) (rc := []) (lits := []) (suf := []) (by kernel_rfl) tis_ok ⟨f61_met, trivial⟩ trivial trivial trivial Tryd.func37 (by kernel_rfl) (by kernel_rfl) rfl (by kernel_rfl) (by kernel_rfl) (by simp) fun d hd => by
    obtain ⟨⟨vs, os, qs, sg, ⟨⟩⟩, ⟨⟩⟩ := d
    exact ⟨ann37o vs os qs sg, cast (by kernel_rfl) (f37o_vc vs os qs sg hd)⟩).met
theorem flat_add : ∀ (qs : List (List Int)) (k : Nat) (d : List Int) (x : Int), qs[k]? = some d → ((qs.set k (d ++ [x])).flatten).Perm (x :: qs.flatten)
  | [], k, d, x, h => by simp at h
  | q :: qs, 0, d, x, h => by
    simp only [List.getElem?_cons_zero, Option.some.injEq] at h; subst h
    simp only [List.set_cons_zero, List.flatten_cons, List.append_assoc, List.singleton_append]
    exact List.perm_middle
  | q :: qs, k + 1, d, x, h => by
    rw [List.getElem?_cons_succ] at h
    have ih := flat_add qs k d x h
    simp only [List.set_cons_succ, List.flatten_cons]
    exact (ih.append_left q).trans List.perm_middle
theorem waits_iff {m : MD} {id : Int} : waitsM m id = true ↔ id ∈ m.2.2.2.1 ++ m.2.2.1.flatten := by
  unfold waitsM
  rw [Bool.or_eq_true, List.any_eq_true, hasI_iff, List.mem_append, List.mem_flatten]
  constructor
  · rintro (⟨q, h1, h2⟩ | h)
    · exact .inr ⟨q, h1, hasI_iff.1 h2⟩
    · exact .inl h
  · rintro (h | ⟨q, h1, h2⟩)
    · exact .inr h
    · exact .inl ⟨q, h1, hasI_iff.2 h2⟩
theorem form_add {vs os : List Int} {qs : List (List Int)} {sg : List Int} (hB : formM (vs, os, qs, sg, ()) = true) {k : Nat} {d : List Int} (hk : qs[k]? = some d) {id : Int} (h0 : 0 ≤ id) :
    formM (vs, os, qs.set k (d ++ [id]), sg, ()) = !waitsM (vs, os, qs, sg, ()) id := by
  obtain ⟨q1, q2, q3, q4, q5, q6, q7, q8⟩ : vs.length ≤ 8 ∧ os.length ≤ 4 ∧ qs.length ≤ 4 ∧ SS sg ∧ (∀ v ∈ vs, valS v = true) ∧ (∀ o ∈ os, -1 ≤ o) ∧ (∀ x ∈ sg ++ qs.flatten, 0 ≤ x) ∧ (sg ++ qs.flatten).Nodup := formM_iff.1 hB
  have hp : (sg ++ (qs.set k (d ++ [id])).flatten).Perm (id :: (sg ++ qs.flatten)) := ((flat_add qs k d id hk).append_left sg).trans List.perm_middle
  rw [Bool.eq_iff_iff, formM_iff, Bool.not_eq_true', Bool.eq_false_iff]
  constructor
  · intro h w
    obtain ⟨_, _, _, _, _, _, _, p8⟩ : vs.length ≤ 8 ∧ os.length ≤ 4 ∧ (qs.set k (d ++ [id])).length ≤ 4 ∧ SS sg ∧ (∀ v ∈ vs, valS v = true) ∧ (∀ o ∈ os, -1 ≤ o) ∧ (∀ x ∈ sg ++ (qs.set k (d ++ [id])).flatten, 0 ≤ x) ∧ (sg ++ (qs.set k (d ++ [id])).flatten).Nodup := h
    exact (List.nodup_cons.1 (hp.nodup_iff.1 p8)).1 (waits_iff.1 w)
  · intro w
    refine (⟨q1, q2, by rw [List.length_set]; exact q3, q4, q5, q6, fun x hx => ?_, hp.nodup_iff.2 (List.nodup_cons.2 ⟨fun hm => w (waits_iff.2 hm), q8⟩)⟩ : FormM (vs, os, qs.set k (d ++ [id]), sg, ()))
    rcases List.mem_cons.1 (hp.mem_iff.1 hx) with rfl | hx
    · exact h0
    · exact q7 x hx
theorem few_open {vs os : List Int} {qs : List (List Int)} {sg : List Int} (h : fewM (vs, os, qs, sg, ()) = true) : vs.length ≤ 20 ∧ os.length ≤ 20 ∧ qs.length ≤ 20 ∧ sg.length ≤ 60 ∧ ∀ q ∈ qs, q.length ≤ 60 := by
  unfold fewM at h
  simp only [Bool.and_eq_true, List.all_eq_true, decide_eq_true_eq] at h
  obtain ⟨⟨⟨⟨h1, h2⟩, h3⟩, h4⟩, h5⟩ := h
  exact ⟨h1, h2, h3, h4, h5⟩
theorem few_gb {vs os : List Int} {qs : List (List Int)} {sg : List Int} (h1 : vs.length ≤ 20) (h2 : os.length ≤ 20) (h3 : qs.length ≤ 20) (h4 : sg.length ≤ 200) (h5 : ∀ q ∈ qs, q.length ≤ 61) : bndM (vs, os, qs, sg, ()) := by
  have key : ∀ l : List (List Int), (∀ q ∈ l, q.length ≤ 61) → l.flatten.length ≤ 61 * l.length := by
    intro l
    induction l with
    | nil => intro _; simp
    | cons a l ih =>
      intro hl
      have := ih fun q hq => hl q (by simp [hq])
      have := hl a (by simp)
      simp only [List.flatten_cons, List.length_append, List.length_cons]; omega
  have h6 := key qs h5
  exact ⟨by show vs.length ≤ 1000; omega, by show os.length ≤ 1000; omega, by show qs.length ≤ 1000; omega, by show sg.length ≤ 1000; omega, fun q hq => by have := h5 q hq; omega, by show qs.flatten.length ≤ 100000; omega⟩
theorem few_set {vs os : List Int} {qs : List (List Int)} {sg s : List Int} (h : fewM (vs, os, qs, sg, ()) = true) {k : Nat} {q : List Int} (hq : q.length ≤ 61) (hs : s.length ≤ 200) : bndM (vs, os, qs.set k q, s, ()) := by
  obtain ⟨h1, h2, h3, h4, h5⟩ := few_open h
  refine few_gb h1 h2 (by rw [List.length_set]; exact h3) hs fun x hx => ?_
  rcases List.mem_or_eq_of_mem_set hx with hx | rfl
  · have := h5 x hx; omega
  · exact hq
theorem few_at {vs os : List Int} {qs : List (List Int)} {sg : List Int} (h : fewM (vs, os, qs, sg, ()) = true) (k : Nat) : (qs[k]?.getD []).length ≤ 60 := by
  cases hk : qs[k]? with
  | none => simp
  | some d => exact (few_open h).2.2.2.2 d (List.mem_of_getElem? hk)
theorem z_bnd : bndM zM := ⟨by decide, by decide, by decide, by decide, by decide, by decide⟩
theorem enq_bnd {m : MD} {c id : Int} (h : fewM m = true) : bndM (enqM m c id).1 := by
  obtain ⟨vs, os, qs, sg, ⟨⟩⟩ := m
  have h4 := (few_open h).2.2.2.1
  have ha := few_at h c.toNat
  unfold enqM
  split
  · split
    · exact z_bnd
    · split
      · exact z_bnd
      · exact few_set h (by simp only [List.length_append, List.length_cons, List.length_nil]; omega) (by omega)
  · exact z_bnd
theorem wk_bnd {m : MD} {c n : Int} (h : fewM m = true) : bndM (wkM m c n).1 := by
  obtain ⟨vs, os, qs, sg, ⟨⟩⟩ := m
  have h4 := (few_open h).2.2.2.1
  have ha := few_at h c.toNat
  unfold wkM
  split
  · refine few_set h (by dsimp only; rw [List.length_drop]; omega) ?_
    refine Nat.le_trans (addsI_len _ _) ?_
    dsimp only
    rw [List.length_take]
    omega
  · exact z_bnd
theorem wake_bnd {m : MD} {id : Int} (h : fewM m = true) : bndM (wakeM m id).1 := by
  obtain ⟨vs, os, qs, sg, ⟨⟩⟩ := m
  obtain ⟨h1, h2, h3, h4, h5⟩ := few_open h
  unfold wakeM
  split
  · exact z_bnd
  · split
    · exact z_bnd
    · refine few_gb h1 h2 h3 ?_ fun q hq => by have := h5 q hq; omega
      refine Nat.le_trans (List.length_filter_le _ _) (Nat.le_trans (make_le sg []) ?_)
      simp; omega
@[reducible] noncomputable def ctEnF : CT := { ps := [shM, .int .i64, .int .i64], pre := fun d => fewM d.1 = true, res := fun d => ([], .tup [.agg [.sl (.int .i64) ((enqM d.1 d.2.1 d.2.2.1).1).1, .sl (.int .i64) ((enqM d.1 d.2.1 d.2.2.1).1).2.1, .sl (.sl (.int .i64)) ((enqM d.1 d.2.1 d.2.2.1).1).2.2.1, .sl (.int .i64) ((enqM d.1 d.2.1 d.2.2.1).1).2.2.2.1], .c (.v (.int .i64 ((enqM d.1 d.2.1 d.2.2.1).2)))]) }
@[reducible] noncomputable def cl19 : List (Nat × CT) := [(37, ctClO), (40, ctWf)]
@[reducible] noncomputable def ann19 (vs : List Int) (os : List Int) (qs : List (List Int)) (sg : List Int) (c : Int) (id : Int) : Nat → Option (St → Ann) := fun _ => none
@[reducible] def il19 : List (Nat × IP) := []
@[reducible] def hl19 : List (Nat × Nat × CT) := []
@[reducible] noncomputable def ml19 : List (Nat × MK) := []
set_option maxRecDepth 100000 in
theorem f19_vc (vs : List Int) (os : List Int) (qs : List (List Int)) (sg : List Int) (c : Int) (id : Int) (hpre : ctEnF.pre ((vs, os, qs, sg, ()), c, id, ())) :
    bndM (vs, os, qs, sg, ()) ∧ br (!formM (vs, os, qs, sg, ())) (([] : List Go.Eng.Res) = [] ∧ Ent.tup [SV.agg [SC.sl I6 (enqM (vs, os, qs, sg, ()) c id).fst.fst, SC.sl I6 (enqM (vs, os, qs, sg, ()) c id).fst.snd.fst, SC.sl I6.sl (enqM (vs, os, qs, sg, ()) c id).fst.snd.snd.fst, SC.sl I6 (enqM (vs, os, qs, sg, ()) c id).fst.snd.snd.snd.fst], SV.c (SC.v (Value.int IntKind.i64 (enqM (vs, os, qs, sg, ()) c id).snd))] = Ent.tup [SV.agg [SC.sl I6 [], SC.sl I6 [], SC.sl I6.sl [], SC.sl I6 []], SV.c (SC.v (Value.int IntKind.i64 (1 : Int)))]) (br (decide (c < (0 : Int)) || decide ((↑qs.length : Int) ≤ c)) (([] : List Go.Eng.Res) = [] ∧ Ent.tup [SV.agg [SC.sl I6 (enqM (vs, os, qs, sg, ()) c id).fst.fst, SC.sl I6 (enqM (vs, os, qs, sg, ()) c id).fst.snd.fst, SC.sl I6.sl (enqM (vs, os, qs, sg, ()) c id).fst.snd.snd.fst, SC.sl I6 (enqM (vs, os, qs, sg, ()) c id).fst.snd.snd.snd.fst], SV.c (SC.v (Value.int IntKind.i64 (enqM (vs, os, qs, sg, ()) c id).snd))] = Ent.tup [SV.agg [SC.sl I6 [], SC.sl I6 [], SC.sl I6.sl [], SC.sl I6 []], SV.c (SC.v (Value.int IntKind.i64 (11 : Int)))]) (br (decide (id < (0 : Int))) (([] : List Go.Eng.Res) = [] ∧ Ent.tup [SV.agg [SC.sl I6 (enqM (vs, os, qs, sg, ()) c id).fst.fst, SC.sl I6 (enqM (vs, os, qs, sg, ()) c id).fst.snd.fst, SC.sl I6.sl (enqM (vs, os, qs, sg, ()) c id).fst.snd.snd.fst, SC.sl I6 (enqM (vs, os, qs, sg, ()) c id).fst.snd.snd.snd.fst], SV.c (SC.v (Value.int IntKind.i64 (enqM (vs, os, qs, sg, ()) c id).snd))] = Ent.tup [SV.agg [SC.sl I6 [], SC.sl I6 [], SC.sl I6.sl [], SC.sl I6 []], SV.c (SC.v (Value.int IntKind.i64 (2 : Int)))]) (bndM (vs, os, qs, sg, ()) ∧ ((0 : Int) ≤ c ∧ c < (↑qs.length : Int)) ∧ c.toNat < qs.length ∧ ∀ (d : List I6.den), qs[c.toNat]? = some d → false = false ∧ (decide (c.toNat < qs.length) = true → ((decide (c.toNat < qs.length) = true ∧ c.toNat < qs.length) ∧ ∀ (d : List I6.den), qs[c.toNat]? = some d → InA (List.length (d) + List.length ([id])) (8 : Nat) ∧ ((0 : Int) ≤ c ∧ c < (↑qs.length : Int)) ∧ c.toNat < qs.length ∧ c.toNat = c.toNat ∧ ∀ (e0 : List I6.den), qs[c.toNat]? = some e0 → bndM (vs, os, qs.set c.toNat ((d ++ [id])), sg, ()) ∧ br (!formM (vs, os, qs.set c.toNat ((d ++ [id])), sg, ())) (([] : List Go.Eng.Res) = [] ∧ Ent.tup [SV.agg [SC.sl I6 (enqM (vs, os, qs, sg, ()) c id).fst.fst, SC.sl I6 (enqM (vs, os, qs, sg, ()) c id).fst.snd.fst, SC.sl I6.sl (enqM (vs, os, qs, sg, ()) c id).fst.snd.snd.fst, SC.sl I6 (enqM (vs, os, qs, sg, ()) c id).fst.snd.snd.snd.fst], SV.c (SC.v (Value.int IntKind.i64 (enqM (vs, os, qs, sg, ()) c id).snd))] = Ent.tup [SV.agg [SC.sl I6 [], SC.sl I6 [], SC.sl I6.sl [], SC.sl I6 []], SV.c (SC.v (Value.int IntKind.i64 (30 : Int)))]) (([] : List Go.Eng.Res) = [] ∧ Ent.tup [SV.agg [SC.sl I6 (enqM (vs, os, qs, sg, ()) c id).fst.fst, SC.sl I6 (enqM (vs, os, qs, sg, ()) c id).fst.snd.fst, SC.sl I6.sl (enqM (vs, os, qs, sg, ()) c id).fst.snd.snd.fst, SC.sl I6 (enqM (vs, os, qs, sg, ()) c id).fst.snd.snd.snd.fst], SV.c (SC.v (Value.int IntKind.i64 (enqM (vs, os, qs, sg, ()) c id).snd))] = Ent.tup [SV.agg [SC.sl I6 vs, SC.sl I6 os, SC.sl I6.sl (qs.set c.toNat ((d ++ [id]))), SC.sl I6 sg], SV.c (SC.v (Value.int IntKind.i64 (0 : Int)))])) ∧ ((decide (c.toNat < qs.length) = true ∧ c.toNat < qs.length) ∧ ∀ (d : List I6.den), qs[c.toNat]? = some d → InA (List.length (d) + List.length ([id])) (8 : Nat) ∧ ((0 : Int) ≤ c ∧ c < (↑qs.length : Int)) ∧ c.toNat < qs.length ∧ c.toNat = c.toNat ∧ ∀ (e0 : List I6.den), qs[c.toNat]? = some e0 → bndM (vs, os, qs.set c.toNat ((d ++ [id])), sg, ()) ∧ br (!formM (vs, os, qs.set c.toNat ((d ++ [id])), sg, ())) (([] : List Go.Eng.Res) = [] ∧ Ent.tup [SV.agg [SC.sl I6 (enqM (vs, os, qs, sg, ()) c id).fst.fst, SC.sl I6 (enqM (vs, os, qs, sg, ()) c id).fst.snd.fst, SC.sl I6.sl (enqM (vs, os, qs, sg, ()) c id).fst.snd.snd.fst, SC.sl I6 (enqM (vs, os, qs, sg, ()) c id).fst.snd.snd.snd.fst], SV.c (SC.v (Value.int IntKind.i64 (enqM (vs, os, qs, sg, ()) c id).snd))] = Ent.tup [SV.agg [SC.sl I6 [], SC.sl I6 [], SC.sl I6.sl [], SC.sl I6 []], SV.c (SC.v (Value.int IntKind.i64 (30 : Int)))]) (([] : List Go.Eng.Res) = [] ∧ Ent.tup [SV.agg [SC.sl I6 (enqM (vs, os, qs, sg, ()) c id).fst.fst, SC.sl I6 (enqM (vs, os, qs, sg, ()) c id).fst.snd.fst, SC.sl I6.sl (enqM (vs, os, qs, sg, ()) c id).fst.snd.snd.fst, SC.sl I6 (enqM (vs, os, qs, sg, ()) c id).fst.snd.snd.snd.fst], SV.c (SC.v (Value.int IntKind.i64 (enqM (vs, os, qs, sg, ()) c id).snd))] = Ent.tup [SV.agg [SC.sl I6 vs, SC.sl I6 os, SC.sl I6.sl (qs.set c.toNat ((d ++ [id]))), SC.sl I6 sg], SV.c (SC.v (Value.int IntKind.i64 (0 : Int)))])) ∧ (decide (c.toNat < qs.length) = true ∧ c.toNat < qs.length) ∧ ∀ (d : List I6.den), qs[c.toNat]? = some d → InA (List.length (d) + List.length ([id])) (8 : Nat) ∧ ((0 : Int) ≤ c ∧ c < (↑qs.length : Int)) ∧ c.toNat < qs.length ∧ c.toNat = c.toNat ∧ ∀ (e0 : List I6.den), qs[c.toNat]? = some e0 → bndM (vs, os, qs.set c.toNat ((d ++ [id])), sg, ()) ∧ br (!formM (vs, os, qs.set c.toNat ((d ++ [id])), sg, ())) (([] : List Go.Eng.Res) = [] ∧ Ent.tup [SV.agg [SC.sl I6 (enqM (vs, os, qs, sg, ()) c id).fst.fst, SC.sl I6 (enqM (vs, os, qs, sg, ()) c id).fst.snd.fst, SC.sl I6.sl (enqM (vs, os, qs, sg, ()) c id).fst.snd.snd.fst, SC.sl I6 (enqM (vs, os, qs, sg, ()) c id).fst.snd.snd.snd.fst], SV.c (SC.v (Value.int IntKind.i64 (enqM (vs, os, qs, sg, ()) c id).snd))] = Ent.tup [SV.agg [SC.sl I6 [], SC.sl I6 [], SC.sl I6.sl [], SC.sl I6 []], SV.c (SC.v (Value.int IntKind.i64 (30 : Int)))]) (([] : List Go.Eng.Res) = [] ∧ Ent.tup [SV.agg [SC.sl I6 (enqM (vs, os, qs, sg, ()) c id).fst.fst, SC.sl I6 (enqM (vs, os, qs, sg, ()) c id).fst.snd.fst, SC.sl I6.sl (enqM (vs, os, qs, sg, ()) c id).fst.snd.snd.fst, SC.sl I6 (enqM (vs, os, qs, sg, ()) c id).fst.snd.snd.snd.fst], SV.c (SC.v (Value.int IntKind.i64 (enqM (vs, os, qs, sg, ()) c id).snd))] = Ent.tup [SV.agg [SC.sl I6 vs, SC.sl I6 os, SC.sl I6.sl (qs.set c.toNat ((d ++ [id]))), SC.sl I6 sg], SV.c (SC.v (Value.int IntKind.i64 (0 : Int)))])) ∧ (decide (c.toNat < qs.length) = false → False ∧ False ∧ False)))) := by
  have hf : fewM (vs, os, qs, sg, ()) = true := hpre
  have hb := few_bnd hf
  unfold enqM
  refine ⟨hb, br_iff.2 ⟨fun h => ⟨rfl, ?_⟩, fun h => br_iff.2 ⟨fun g => ⟨rfl, ?_⟩, fun g => br_iff.2 ⟨fun g2 => ⟨rfl, ?_⟩, fun g2 => ?_⟩⟩⟩⟩
  · rw [ins_bad (by simpa using h)]; rfl
  · rw [ins_out (by simpa using h) (by simpa using g)]; rfl
  · rw [ins_in (by simpa using h) (by simpa using g), if_pos rfl, if_pos (by simpa using g2)]; rfl
  have hF : formM (vs, os, qs, sg, ()) = true := by simpa using h
  have g : ¬ (c < 0 ∨ (qs.length : Int) ≤ c) := by simpa using g
  have g2 : ¬ id < 0 := by simpa using g2
  rw [ins_in hF g, if_pos rfl, if_neg g2]
  refine ⟨hb, ⟨by omega, by omega⟩, by omega, fun d hd => ⟨rfl, ?_⟩⟩
  have hc : decide (c.toNat < qs.length) = true := by rw [decide_eq_true_eq]; omega
  have e : (vs, os, qs, sg, ()).2.2.1[c.toNat]?.getD [] = d := by simp [hd]
  rw [e]
  have key : ∀ d' : List Int, qs[c.toNat]? = some d' → d' = d := fun d' h' => by rw [hd] at h'; cases h'; rfl
  have hl : d.length ≤ 60 := (few_open hf).2.2.2.2 d (List.mem_of_getElem? hd)
  have hI : InA (d.length + 1) 8 := InA_iff.2 (by omega)
  have hz : ¬ decide (c.toNat < qs.length) = false := by rw [hc]; simp
  have hB : bndM (vs, os, qs.set c.toNat (d ++ [id]), sg, ()) := few_set hf (by simp; omega) (by have := (few_open hf).2.2.2.1; omega)
  have hA := form_add hF hd (id := id) (by omega)
  refine ⟨fun _ => ?_, fun q => absurd q hz⟩
  have F : (decide (c.toNat < qs.length) = true ∧ c.toNat < qs.length) := ⟨hc, by omega⟩
  repeat' first | exact F | (refine And.intro ?_ ?_)
  all_goals
    intro d' h'
    cases key d' h'
    refine ⟨hI, ⟨by omega, by omega⟩, by omega, rfl, fun _ _ => ⟨hB, br_iff.2 ⟨fun w => ⟨rfl, ?_⟩, fun w => ⟨rfl, ?_⟩⟩⟩⟩
    · rw [hA, Bool.not_not] at w
      rw [if_pos w]; rfl
    · rw [hA, Bool.not_not] at w
      rw [if_neg (by rw [w]; simp)]
set_option maxHeartbeats 2000000 in
set_option maxRecDepth 100000 in
theorem f19_met : Go.Eng.Met Tryd.prog cx0.gd 19 ctEnF :=
  (met_all (cx := cx0) (n := 45) (cl := cl19) (il := il19) (hl := hl19) (ml := ml19) (rc := [.data shM, .keep]) (lits := []) (suf := []) (by kernel_rfl) tis_ok ⟨f37o_met, f40_met, trivial⟩ trivial trivial trivial Tryd.func19 (by kernel_rfl) (by kernel_rfl) rfl (by kernel_rfl) (by kernel_rfl) (by simp) fun d hd => by
    obtain ⟨⟨vs, os, qs, sg, ⟨⟩⟩, c, id, ⟨⟩⟩ := d
    exact ex_of (ann19 vs os qs sg c id) (f19_vc vs os qs sg c id hd) (by kernel_rfl)).met
@[reducible] def ctL4 : CT := { ps := [shM, .int .i64, .int .i64], pre := fun d => True, res := fun d => ([], vB (true)) }
@[reducible] noncomputable def cl4 : List (Nat × CT) := [(11, ctFew), (12, ctExa), (18, ctEnq), (19, ctEnF), (20, ctSig), (21, ctSig), (22, ctBro), (23, ctBro), (24, ctWke), (25, ctWke), (15, ctEq21)]
@[reducible] noncomputable def ann4 (vs : List Int) (os : List Int) (qs : List (List Int)) (sg : List Int) (c : Int) (id : Int) : Nat → Option (St → Ann) := fun _ => none
@[reducible] def il4 : List (Nat × IP) := []
@[reducible] def hl4 : List (Nat × Nat × CT) := []
@[reducible] noncomputable def ml4 : List (Nat × MK) := []
set_option maxRecDepth 100000 in
theorem f4_vc (vs : List Int) (os : List Int) (qs : List (List Int)) (sg : List Int) (c : Int) (id : Int) :
    True ∧ br (!fewM (vs, os, qs, sg, ())) (True ∧ ([] : List Go.Eng.Res) = [] ∧ Ent.one (SV.c (SC.v (Value.bool true))) = Ent.one (SV.c (SC.v (Value.bool true)))) (bndM (vs, os, qs, sg, ()) ∧ fewM (vs, os, qs, sg, ()) = true ∧ ((!!decide ((enqM (vs, os, qs, sg, ()) c id).snd = (enqM (vs, os, qs, sg, ()) c id).snd)) = true → bndM ((enqM (vs, os, qs, sg, ()) c id).fst.fst, (enqM (vs, os, qs, sg, ()) c id).fst.snd.fst, (enqM (vs, os, qs, sg, ()) c id).fst.snd.snd.fst, (enqM (vs, os, qs, sg, ()) c id).fst.snd.snd.snd.fst, ())) ∧ br (!decide ((enqM (vs, os, qs, sg, ()) c id).snd = (enqM (vs, os, qs, sg, ()) c id).snd) || !decide (((enqM (vs, os, qs, sg, ()) c id).fst.fst, (enqM (vs, os, qs, sg, ()) c id).fst.snd.fst, (enqM (vs, os, qs, sg, ()) c id).fst.snd.snd.fst, (enqM (vs, os, qs, sg, ()) c id).fst.snd.snd.snd.fst, ()) = ((enqM (vs, os, qs, sg, ()) c id).fst.fst, (enqM (vs, os, qs, sg, ()) c id).fst.snd.fst, (enqM (vs, os, qs, sg, ()) c id).fst.snd.snd.fst, (enqM (vs, os, qs, sg, ()) c id).fst.snd.snd.snd.fst, ()))) (([] : List Go.Eng.Res) = [] ∧ Ent.one (SV.c (SC.v (Value.bool true))) = Ent.one (SV.c (SC.v (Value.bool false)))) (bndM (vs, os, qs, sg, ()) ∧ bndM (vs, os, qs, sg, ()) ∧ ((!(!decide ((wkM (vs, os, qs, sg, ()) c (1 : Int)).snd.snd = (wkM (vs, os, qs, sg, ()) c (1 : Int)).snd.snd) || !decide ((wkM (vs, os, qs, sg, ()) c (1 : Int)).snd.fst = (wkM (vs, os, qs, sg, ()) c (1 : Int)).snd.fst))) = true → bndM ((wkM (vs, os, qs, sg, ()) c (1 : Int)).fst.fst, (wkM (vs, os, qs, sg, ()) c (1 : Int)).fst.snd.fst, (wkM (vs, os, qs, sg, ()) c (1 : Int)).fst.snd.snd.fst, (wkM (vs, os, qs, sg, ()) c (1 : Int)).fst.snd.snd.snd.fst, ())) ∧ br (!decide ((wkM (vs, os, qs, sg, ()) c (1 : Int)).snd.snd = (wkM (vs, os, qs, sg, ()) c (1 : Int)).snd.snd) || !decide ((wkM (vs, os, qs, sg, ()) c (1 : Int)).snd.fst = (wkM (vs, os, qs, sg, ()) c (1 : Int)).snd.fst) || !decide (((wkM (vs, os, qs, sg, ()) c (1 : Int)).fst.fst, (wkM (vs, os, qs, sg, ()) c (1 : Int)).fst.snd.fst, (wkM (vs, os, qs, sg, ()) c (1 : Int)).fst.snd.snd.fst, (wkM (vs, os, qs, sg, ()) c (1 : Int)).fst.snd.snd.snd.fst, ()) = ((wkM (vs, os, qs, sg, ()) c (1 : Int)).fst.fst, (wkM (vs, os, qs, sg, ()) c (1 : Int)).fst.snd.fst, (wkM (vs, os, qs, sg, ()) c (1 : Int)).fst.snd.snd.fst, (wkM (vs, os, qs, sg, ()) c (1 : Int)).fst.snd.snd.snd.fst, ()))) (([] : List Go.Eng.Res) = [] ∧ Ent.one (SV.c (SC.v (Value.bool true))) = Ent.one (SV.c (SC.v (Value.bool false)))) (bndM (vs, os, qs, sg, ()) ∧ bndM (vs, os, qs, sg, ()) ∧ ((!(!decide ((wkM (vs, os, qs, sg, ()) c (mostM qs)).snd.snd = (wkM (vs, os, qs, sg, ()) c (mostM qs)).snd.snd) || !decide ((wkM (vs, os, qs, sg, ()) c (mostM qs)).snd.fst = (wkM (vs, os, qs, sg, ()) c (mostM qs)).snd.fst))) = true → bndM ((wkM (vs, os, qs, sg, ()) c (mostM qs)).fst.fst, (wkM (vs, os, qs, sg, ()) c (mostM qs)).fst.snd.fst, (wkM (vs, os, qs, sg, ()) c (mostM qs)).fst.snd.snd.fst, (wkM (vs, os, qs, sg, ()) c (mostM qs)).fst.snd.snd.snd.fst, ())) ∧ br (!decide ((wkM (vs, os, qs, sg, ()) c (mostM qs)).snd.snd = (wkM (vs, os, qs, sg, ()) c (mostM qs)).snd.snd) || !decide ((wkM (vs, os, qs, sg, ()) c (mostM qs)).snd.fst = (wkM (vs, os, qs, sg, ()) c (mostM qs)).snd.fst) || !decide (((wkM (vs, os, qs, sg, ()) c (mostM qs)).fst.fst, (wkM (vs, os, qs, sg, ()) c (mostM qs)).fst.snd.fst, (wkM (vs, os, qs, sg, ()) c (mostM qs)).fst.snd.snd.fst, (wkM (vs, os, qs, sg, ()) c (mostM qs)).fst.snd.snd.snd.fst, ()) = ((wkM (vs, os, qs, sg, ()) c (mostM qs)).fst.fst, (wkM (vs, os, qs, sg, ()) c (mostM qs)).fst.snd.fst, (wkM (vs, os, qs, sg, ()) c (mostM qs)).fst.snd.snd.fst, (wkM (vs, os, qs, sg, ()) c (mostM qs)).fst.snd.snd.snd.fst, ()))) (([] : List Go.Eng.Res) = [] ∧ Ent.one (SV.c (SC.v (Value.bool true))) = Ent.one (SV.c (SC.v (Value.bool false)))) (bndM (vs, os, qs, sg, ()) ∧ bndM (vs, os, qs, sg, ()) ∧ (decide ((wakeM (vs, os, qs, sg, ()) id).snd = (wakeM (vs, os, qs, sg, ()) id).snd) = true → bndM ((wakeM (vs, os, qs, sg, ()) id).fst.fst, (wakeM (vs, os, qs, sg, ()) id).fst.snd.fst, (wakeM (vs, os, qs, sg, ()) id).fst.snd.snd.fst, (wakeM (vs, os, qs, sg, ()) id).fst.snd.snd.snd.fst, ())) ∧ ((decide ((wakeM (vs, os, qs, sg, ()) id).snd = (wakeM (vs, os, qs, sg, ()) id).snd) && decide (((wakeM (vs, os, qs, sg, ()) id).fst.fst, (wakeM (vs, os, qs, sg, ()) id).fst.snd.fst, (wakeM (vs, os, qs, sg, ()) id).fst.snd.snd.fst, (wakeM (vs, os, qs, sg, ()) id).fst.snd.snd.snd.fst, ()) = ((wakeM (vs, os, qs, sg, ()) id).fst.fst, (wakeM (vs, os, qs, sg, ()) id).fst.snd.fst, (wakeM (vs, os, qs, sg, ()) id).fst.snd.snd.fst, (wakeM (vs, os, qs, sg, ()) id).fst.snd.snd.snd.fst, ()))) = true → True) ∧ ([] : List Go.Eng.Res) = [] ∧ Ent.one (SV.c (SC.v (Value.bool true))) = Ent.one (SV.c (SC.v (Value.bool (decide ((wakeM (vs, os, qs, sg, ()) id).snd = (wakeM (vs, os, qs, sg, ()) id).snd) && decide (((wakeM (vs, os, qs, sg, ()) id).fst.fst, (wakeM (vs, os, qs, sg, ()) id).fst.snd.fst, (wakeM (vs, os, qs, sg, ()) id).fst.snd.snd.fst, (wakeM (vs, os, qs, sg, ()) id).fst.snd.snd.snd.fst, ()) = ((wakeM (vs, os, qs, sg, ()) id).fst.fst, (wakeM (vs, os, qs, sg, ()) id).fst.snd.fst, (wakeM (vs, os, qs, sg, ()) id).fst.snd.snd.fst, (wakeM (vs, os, qs, sg, ()) id).fst.snd.snd.snd.fst, ())) && true)))))))) := by
  refine ⟨trivial, br_iff.2 ⟨fun _ => ⟨trivial, rfl, rfl⟩, fun h => ?_⟩⟩
  have hf : fewM (vs, os, qs, sg, ()) = true := by simpa using h
  have hb : bndM (vs, os, qs, sg, ()) := few_bnd hf
  refine ⟨hb, hf, fun _ => enq_bnd hf, br_iff.2 ⟨fun q => ?_, fun _ => ⟨hb, hb, fun _ => wk_bnd hf, br_iff.2 ⟨fun q => ?_, fun _ => ⟨hb, hb, fun _ => wk_bnd hf, br_iff.2 ⟨fun q => ?_, fun _ => ⟨hb, hb, fun _ => wake_bnd hf, fun _ => trivial, rfl, ?_⟩⟩⟩⟩⟩⟩⟩
  · exfalso; simp at q
  · exfalso; simp at q
  · exfalso; simp at q
  · simp
set_option maxHeartbeats 2000000 in
set_option maxRecDepth 100000 in
theorem f4_met : Go.Eng.Met Tryd.prog cx0.gd 4 ctL4 :=
  (met_all (cx := cx0) (n := 123) (cl := cl4) (il := il4) (hl := hl4) (ml := ml4) (rc := []) (lits := []) (suf := []) (by kernel_rfl) tis_ok ⟨f11_met, f12_met, f18_met, f19_met, f20_met, f21_met, f22_met, f23_met, f24_met, f25_met, f15_met, trivial⟩ trivial trivial trivial Tryd.func4 (by kernel_rfl) (by kernel_rfl) rfl (by kernel_rfl) (by kernel_rfl) (by simp) fun d hd => by
    obtain ⟨⟨vs, os, qs, sg, ⟨⟩⟩, c, id, ⟨⟩⟩ := d
    exact ex_of (ann4 vs os qs sg c id) (f4_vc vs os qs sg c id) (by kernel_rfl)).met
end Go.Proofs.YtkgjfkdcnoockaaDoor
set_option linter.unusedSimpArgs false
set_option linter.unusedVariables false
set_option maxRecDepth 1000000
namespace Go.Proofs.YtkgjfkdcnoockaaDoor
open Go Go.Eng Go.ChangeShapes Go.WideShapes Go.ChangeAt Go.RowKit
theorem own : ownKnob Tryd.prog.godebug = none := by kernel_rfl
theorem laidOut : laidOutB Tryd.prog = true := by kernel_rfl
theorem rowed : mapsRowed Tryd.prog = true := by kernel_rfl
theorem full : ∀ t e, t < Tryd.prog.types.size → Tryd.prog.underlying t = some (.slice e) → 0 < Tryd.prog.cellsOf e := slices_full_of _ (by kernel_rfl)
theorem gname0 : Tryd.prog.globalNamed "modelcheck/inst.rows" = some 0 := by kernel_rfl
theorem gtype0 : (Tryd.prog.globals[0]?).map (·.type) = some 118 := by kernel_rfl
theorem gsok0 : (SOK Tryd.prog (.arr 22 (.pair .str (.pair (.arr 7 .bool) .unit)))).1 118 = true := by kernel_rfl
theorem gname1 : Tryd.prog.globalNamed "modelcheck/value.names" = some 1 := by kernel_rfl
theorem gtype1 : (Tryd.prog.globals[1]?).map (·.type) = some 126 := by kernel_rfl
theorem gsok1 : (SOK Tryd.prog (.arr 10 .str)).1 126 = true := by kernel_rfl
noncomputable def laidWorld (os : Os) : World :=
  { World.holding Tryd.prog os ⟨#[], #[], []⟩ with heap := (((World.holding Tryd.prog os ⟨#[], #[], []⟩).heap).modify 0 (lay #[.string ⟨#[99, 111, 110, 115, 116]⟩, .bool true, .bool false, .bool false, .bool false, .bool true, .bool false, .bool false, .string ⟨#[99, 111, 112, 121]⟩, .bool true, .bool true, .bool false, .bool false, .bool false, .bool false, .bool false, .string ⟨#[99, 97, 108, 99]⟩, .bool true, .bool true, .bool true, .bool false, .bool false, .bool true, .bool false, .string ⟨#[106, 117, 109, 112]⟩, .bool false, .bool false, .bool false, .bool false, .bool true, .bool false, .bool false, .string ⟨#[98, 114, 97, 110, 99, 104]⟩, .bool false, .bool true, .bool false, .bool false, .bool true, .bool false, .bool false, .string ⟨#[97, 115, 115, 101, 114, 116]⟩, .bool false, .bool true, .bool false, .bool false, .bool false, .bool false, .bool false, .string ⟨#[115, 116, 111, 112]⟩, .bool false, .bool false, .bool false, .bool false, .bool false, .bool false, .bool false, .string ⟨#[108, 111, 97, 100]⟩, .bool true, .bool false, .bool false, .bool true, .bool false, .bool false, .bool true, .string ⟨#[115, 116, 111, 114, 101]⟩, .bool false, .bool true, .bool false, .bool true, .bool false, .bool false, .bool true, .string ⟨#[115, 119, 97, 112]⟩, .bool true, .bool true, .bool false, .bool true, .bool false, .bool false, .bool true, .string ⟨#[102, 101, 116, 99, 104, 97, 100, 100]⟩, .bool true, .bool true, .bool false, .bool true, .bool false, .bool false, .bool true, .string ⟨#[99, 97, 115]⟩, .bool true, .bool true, .bool true, .bool true, .bool false, .bool false, .bool true, .string ⟨#[102, 101, 110, 99, 101]⟩, .bool false, .bool false, .bool false, .bool false, .bool false, .bool false, .bool false, .string ⟨#[97, 119, 97, 105, 116]⟩, .bool true, .bool true, .bool false, .bool true, .bool false, .bool true, .bool true, .string ⟨#[108, 111, 99, 107]⟩, .bool false, .bool false, .bool false, .bool true, .bool false, .bool false, .bool false, .string ⟨#[117, 110, 108, 111, 99, 107]⟩, .bool false, .bool false, .bool false, .bool true, .bool false, .bool false, .bool false, .string ⟨#[116, 114, 121, 108, 111, 99, 107]⟩, .bool true, .bool false, .bool false, .bool true, .bool false, .bool false, .bool false, .string ⟨#[119, 97, 105, 116]⟩, .bool false, .bool false, .bool false, .bool true, .bool true, .bool false, .bool false, .string ⟨#[115, 105, 103, 110, 97, 108]⟩, .bool false, .bool false, .bool false, .bool true, .bool false, .bool false, .bool false, .string ⟨#[98, 114, 111, 97, 100, 99, 97, 115, 116]⟩, .bool false, .bool false, .bool false, .bool true, .bool false, .bool false, .bool false, .string ⟨#[115, 112, 97, 119, 110]⟩, .bool true, .bool true, .bool false, .bool true, .bool false, .bool false, .bool false, .string ⟨#[106, 111, 105, 110]⟩, .bool false, .bool true, .bool false, .bool false, .bool false, .bool false, .bool false])).modify 1 (lay #[.string ⟨#[97, 100, 100]⟩, .string ⟨#[115, 117, 98]⟩, .string ⟨#[109, 117, 108]⟩, .string ⟨#[97, 110, 100]⟩, .string ⟨#[111, 114]⟩, .string ⟨#[120, 111, 114]⟩, .string ⟨#[101, 113]⟩, .string ⟨#[110, 101]⟩, .string ⟨#[108, 116]⟩, .string ⟨#[108, 101]⟩]) }
namespace memoryWaitsL
theorem globs {W : World} (hL : laidMetH Tryd.prog Rows.memoryWaitsRow.laid W) : GlobOK gd0 (FH.all W) := by
  intro g p hp
  unfold gd0 at hp
  split at hp
  · cases hp; exact glob_open hL (by kernel_rfl) (n := "modelcheck/inst.rows") (D := Rows.laid_modelcheck_inst_rows) (by simp [Rows.memoryWaitsRow]) gname0 gtype0 gsok0 (by kernel_rfl)
  · cases hp; exact glob_open hL (by kernel_rfl) (n := "modelcheck/value.names") (D := Rows.laid_modelcheck_value_names) (by simp [Rows.memoryWaitsRow]) gname1 gtype1 gsok1 (by kernel_rfl)
  · cases hp
theorem laid_met (os : Os) : laidMet Tryd.prog Rows.memoryWaitsRow.laid ((laidWorld os).forCall (fun _ _ => 0) ⟨#[], #[.agg #[.slice none 0 0, .slice none 0 0, .slice none 0 0, .slice none 0 0], .int .i64 0, .int .i64 0], []⟩).memory :=
  laidMet_of_run' 20 (by kernel_rfl) (by kernel_rfl)
theorem reads (os : Os) {H : Type} (enc : TypeId × Value → H) : ∃ places, DataW.whole enc Tryd.prog ((laidWorld os).forCall (fun _ _ => 0) ⟨#[], #[.agg #[.slice none 0 0, .slice none 0 0, .slice none 0 0, .slice none 0 0], .int .i64 0, .int .i64 0], []⟩).memory Tryd.f4.params.toList Rows.memoryWaitsSpec.vars false (#[.agg #[.slice none 0 0, .slice none 0 0, .slice none 0 0, .slice none 0 0], .int .i64 0, .int .i64 0] : Array Value).toList 20 = some ([.agg [.nil, .nil, .nil, .nil], .lit (.int .i64 0), .lit (.int .i64 0)], [], places) :=
  ⟨[], by kernel_rfl⟩
theorem lifted (os : Os) (started : os.Started) (H : Type) (enc : TypeId × Value → H) (F : Stop.Interp) :
    ReturnsInHanded {} Tryd.checked os 4 .any ((OpenSpec.ofChange Rows.memoryWaitsSpec).preRow enc Tryd.prog Tryd.f4 Rows.memoryWaitsRow.domain false Rows.memoryWaitsRow.laid) (((OpenSpec.ofChange Rows.memoryWaitsSpec).at F).post enc Tryd.prog Tryd.f4 false true false false) := by
  obtain ⟨places, hx⟩ := reads os enc
  refine returnsInHanded_of_row (C := Tryd.checked) (s := OpenSpec.ofChange Rows.memoryWaitsSpec) own started (by kernel_rfl) Tryd.func4
    (witness_row_at (enc := enc) (C := Tryd.checked) false (laidWorld os) #[.agg #[.slice none 0 0, .slice none 0 0, .slice none 0 0, .slice none 0 0], .int .i64 0, .int .i64 0] rfl (by kernel_rfl) (by kernel_rfl) (by kernel_rfl)
      (OpenSpec.preRow_of_cond 20 hx (by kernel_rfl) (fun k hk => by cases hk) (by kernel_rfl) (laid_met os))) ?_
  intro W base args ds gs before hval hW _ hcond hwt hL _ _
  refine call_true (fn := Tryd.f4) f4_met laidOut rowed full (by decide +kernel) (t := 4) (by kernel_rfl) (by kernel_rfl) rfl (by kernel_rfl) (fun _ => rfl) (fun d hd hwf => ?_) hval hW (globs hL)
  match ds, rdats_len hd with
  | [d0, d1, d2], _ => exact ⟨rfl, by trivial⟩
theorem said : Rows.MemoryWaitsSaid :=
  OpenClaim.holds_of_cond 4 Tryd.f4 rfl rfl rfl rfl rfl rfl rfl ⟨rfl, rfl, rfl, rfl, rfl⟩ rfl rfl rfl rfl rfl (by kernel_rfl) Tryd.func4 (by kernel_rfl)
    (of_decide_eq_true (by kernel_rfl)) (by unfold Func.isWrapper; first | (rw [if_pos (by decide +kernel)]; kernel_rfl) | (rw [if_neg (by decide +kernel)]; exact ⟨rfl, rfl⟩))
    (fun os started H enc _ F => by rw [OpenClaim.pre_eq_preRow]; exact lifted os started H enc F)
theorem plain (f : FuncId) (fn : Func) (hf : Tryd.pinned.checked.prog.funcNamed "modelcheck/modelchecklaw21.MemoryWaits" = some f) (hfn : Tryd.pinned.checked.prog.funcs[f]? = some fn) :
    false = Tryd.pinned.checked.prog.looks [] ∧ ∀ (j : Nat) t, fn.params[j]? = some t → Tryd.pinned.checked.prog.wantsStandIn t = false := by
  obtain rfl : f = 4 := Option.some.inj ((show Tryd.prog.funcNamed "modelcheck/modelchecklaw21.MemoryWaits" = some 4 by kernel_rfl).symm.trans hf) |>.symm
  obtain rfl : fn = Tryd.f4 := (Option.some.inj (Tryd.func4.symm.trans hfn)).symm
  refine ⟨by kernel_rfl, fun j t ht => ?_⟩
  have hm : t ∈ Tryd.f4.params.toList := List.mem_of_getElem? (by simpa using ht)
  have key : ∀ t ∈ Tryd.f4.params.toList, Tryd.prog.wantsStandIn t = false := by decide +kernel
  exact key t hm
theorem card : Rows.MemoryWaitsCardSaid :=
  Claim7.holds_tied_plain_at .later [] _ _ _ _ said (fun _ h => by cases h) (by kernel_rfl) (fun _ h => by cases h) memoryWaits_row_tie rfl ⟨rfl, rfl⟩ (by kernel_rfl) rfl plain (by kernel_rfl)
end memoryWaitsL
end Go.Proofs.YtkgjfkdcnoockaaDoor
