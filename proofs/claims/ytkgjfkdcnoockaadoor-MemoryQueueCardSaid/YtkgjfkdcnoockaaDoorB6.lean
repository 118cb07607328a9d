/- Texts of this claim, part 6: M6, M7, M9, M10, M11, L4. Conditions: those of the given rows. -/
import Derived.Test.YtkgjfkdcnoockaaDoorB5
import Derived.Test.YtkgjfkdcnoockaaDoorCards
import Derived.Test.YtkgjfkdcnoockaaDoorTie
import Derived.WalkKit
import Derived.ProofKit
import Derived.OpenShut
import Derived.Deep.DeepHandedRow
import Derived.Lib.LaidTab
set_option linter.unusedSimpArgs false
set_option linter.unusedVariables false
set_option maxRecDepth 100000
namespace Go.Proofs.YtkgjfkdcnoockaaDoor
open Go Go.Eng

def oneP : PD := ([(⟨#[120]⟩, 4, ())], [⟨#[109]⟩], [⟨#[99]⟩], [(⟨#[102]⟩, [], ())], [(0, 0, ())], ())
def fewM (m : MD) : Bool := decide (m.1.length ≤ 20) && decide (m.2.1.length ≤ 20) && decide (m.2.2.1.length ≤ 20) && decide (m.2.2.2.1.length ≤ 60) && m.2.2.1.all (fun q => decide (q.length ≤ 60))
@[reducible] def ctFew : CT := { ps := [shM], pre := fun d => True, res := fun d => ([], vB (fewM d.1)) }
@[reducible] def cl11 : List (Nat × CT) := []
@[reducible] def ann11 (vs : List Int) (os : List Int) (qs : List (List Int)) (sg : List Int) : Nat → Option (St → Ann) := fun k => match k with
  | 4 => some fun _ => .inv { α := Nat, slots := fun k => [(30, .c (.v (.int .i64 k)))], res := fun k => [], inv := fun k => k ≤ (qs).length ∧ ∀ j < k, ∀ q, qs[j]? = some q → q.length ≤ 60, meas := fun k => (qs).length - k }
  | _ => none
@[reducible] def il11 : List (Nat × IP) := []
@[reducible] def hl11 : List (Nat × Nat × CT) := []
@[reducible] def ml11 : List (Nat × MK) := []
set_option maxRecDepth 100000 in
theorem f11_vc (vs : List Int) (os : List Int) (qs : List (List Int)) (sg : List Int) :
    br (decide ((20 : Int) < (↑vs.length : Int)) || decide ((20 : Int) < (↑os.length : Int)) || decide ((20 : Int) < (↑qs.length : Int)) || decide ((60 : Int) < (↑sg.length : Int))) (([] : List Go.Eng.Res) = [] ∧ Ent.one (SV.c (SC.v (Value.bool (fewM (vs, os, qs, sg, ()))))) = Ent.one (SV.c (SC.v (Value.bool false)))) ((∃ x, (x ≤ qs.length ∧ ∀ (j : Nat), j < x → ∀ (q : List Int), qs[j]? = some q → q.length ≤ (60 : Nat)) ∧ (SV.c (SC.v (Value.int IntKind.i64 (0 : Int))) = SV.c (SC.v (Value.int IntKind.i64 (↑x : Int))) ∧ True) ∧ [(([] : Go.Eng.Gd), bM6 vs os qs sg)] = [(([] : Go.Eng.Gd), bM6 vs os qs sg)]) ∧ ∀ (x : Nat), (x ≤ qs.length ∧ ∀ (j : Nat), j < x → ∀ (q : List Int), qs[j]? = some q → q.length ≤ (60 : Nat)) → br (decide ((↑x : Int) < (↑qs.length : Int))) (((0 : Int) ≤ (↑x : Int) ∧ (↑x : Int) < (↑qs.length : Int)) ∧ ∀ (d : List I6.den), qs[(↑x : Int).toNat]? = some d → br (decide ((60 : Int) < (↑d.length : Int))) (([] : List Go.Eng.Res) = [] ∧ Ent.one (SV.c (SC.v (Value.bool (fewM (vs, os, qs, sg, ()))))) = Ent.one (SV.c (SC.v (Value.bool false)))) (InR IntKind.i64 ((↑x : Int) + (1 : Int)) ∧ ∃ x', (x' ≤ qs.length ∧ ∀ (j : Nat), j < x' → ∀ (q : List Int), qs[j]? = some q → q.length ≤ (60 : Nat)) ∧ (SV.c (SC.v (Value.int IntKind.i64 ((↑x : Int) + (1 : Int)))) = SV.c (SC.v (Value.int IntKind.i64 (↑x' : Int))) ∧ True) ∧ [(([] : Go.Eng.Gd), bM6 vs os qs sg)] = [(([] : Go.Eng.Gd), bM6 vs os qs sg)] ∧ qs.length - x' < qs.length - x)) (([] : List Go.Eng.Res) = [] ∧ Ent.one (SV.c (SC.v (Value.bool (fewM (vs, os, qs, sg, ()))))) = Ent.one (SV.c (SC.v (Value.bool true))))) := by
  refine br_iff.2 ⟨fun h => ⟨rfl, ?_⟩, fun h => ?_⟩
  · have e : fewM (vs, os, qs, sg, ()) = false := by
      unfold fewM
      rw [Bool.eq_false_iff]; intro q; simp at q h; omega
    rw [e]
  simp only [Bool.or_eq_false_iff, decide_eq_false_iff_not] at h
  refine ⟨⟨0, ⟨by omega, fun j hj => by omega⟩, ⟨rfl, trivial⟩, rfl⟩, fun k hk => br_iff.2 ⟨fun g => ?_, fun g => ?_⟩⟩
  · simp only [decide_eq_true_eq] at g
    refine ⟨⟨by omega, by omega⟩, fun d hd => br_iff.2 ⟨fun g2 => ⟨rfl, ?_⟩, fun g2 => ⟨InR_i64.2 (by omega), k + 1, ⟨by omega, fun j hj q hq => ?_⟩, ⟨rfl, trivial⟩, rfl, by omega⟩⟩⟩
    · have e : fewM (vs, os, qs, sg, ()) = false := by
        unfold fewM
        rw [Bool.eq_false_iff]; intro q
        simp only [Bool.and_eq_true, List.all_eq_true, decide_eq_true_eq] at q g2
        have := q.2 d (List.mem_of_getElem? hd)
        omega
      rw [e]
    · by_cases hjk : j = k
      · subst hjk
        have hd : qs[j]? = some d := hd
        rw [hd] at hq; cases hq
        simp at g2; omega
      · exact hk.2 j (by omega) q hq
  simp only [decide_eq_false_iff_not] at g
  have e : fewM (vs, os, qs, sg, ()) = true := by
    unfold fewM
    simp only [Bool.and_eq_true, List.all_eq_true, decide_eq_true_eq]
    refine ⟨⟨⟨⟨by omega, by omega⟩, by omega⟩, by omega⟩, fun q hq => ?_⟩
    obtain ⟨j, hj⟩ := List.getElem?_of_mem hq
    exact hk.2 j (by have := (List.getElem?_eq_some_iff.1 hj).1; omega) q hj
  exact ⟨rfl, by rw [e]⟩
set_option maxHeartbeats 2000000 in
set_option maxRecDepth 100000 in
theorem f11_met : Go.Eng.Met Tryd.prog cx0.gd 11 ctFew :=
  (met_all (cx := cx0) (n := 38) (cl := cl11) (il := il11) (hl := hl11) (ml := ml11) (rc := []) (lits := []) (suf := []) (by kernel_rfl) tis_ok trivial trivial trivial trivial Tryd.func11 (by kernel_rfl) (by kernel_rfl) rfl (by kernel_rfl) (by kernel_rfl) (by simp) fun d hd => by
    obtain ⟨⟨vs, os, qs, sg, ⟨⟩⟩, ⟨⟩⟩ := d
    exact ex_of (ann11 vs os qs sg) (f11_vc vs os qs sg) (by kernel_rfl)).met
@[reducible] def ctOne : CT := { ps := [], pre := fun d => True, res := fun d => ([], .one (ofDat shP oneP)) }
@[reducible] def cl43 : List (Nat × CT) := []
@[reducible] def ann43  : Nat → Option (St → Ann) := fun _ => none
@[reducible] def il43 : List (Nat × IP) := []
@[reducible] def hl43 : List (Nat × Nat × CT) := []
@[reducible] def ml43 : List (Nat × MK) := []
set_option maxRecDepth 100000 in
theorem f43_vc  :
    ([] : List Go.Eng.Res) = [] ∧ Ent.one (SV.agg [SC.sl (Sh.str.pair (I6.pair Sh.unit)) [({ data := #[(120 : UInt8)] : ByteArray }, (4 : Int), ())], SC.sl Sh.str [{ data := #[(109 : UInt8)] : ByteArray }], SC.sl Sh.str [{ data := #[(99 : UInt8)] : ByteArray }], SC.sl (Sh.str.pair (shI.sl.pair Sh.unit)) [({ data := #[(102 : UInt8)] : ByteArray }, [], ())], SC.sl (I6.pair (I6.pair Sh.unit)) [((0 : Int), (0 : Int), ())]]) = Ent.one (SV.agg [SC.sl (Sh.str.pair (I6.pair Sh.unit)) [({ data := #[(120 : UInt8)] : ByteArray }, (4 : Int), ())], SC.sl Sh.str [{ data := #[(109 : UInt8)] : ByteArray }], SC.sl Sh.str [{ data := #[(99 : UInt8)] : ByteArray }], SC.sl (Sh.str.pair (shI.sl.pair Sh.unit)) [({ data := #[(102 : UInt8)] : ByteArray }, [], ())], SC.sl (I6.pair (I6.pair Sh.unit)) [((0 : Int), (0 : Int), ())]]) := by
  exact ⟨rfl, rfl⟩
set_option maxHeartbeats 2000000 in
set_option maxRecDepth 100000 in
theorem f43_met : Go.Eng.Met Tryd.prog cx0.gd 43 ctOne :=
  (met_all (cx := cx0) (n := 10) (cl := cl43) (il := il43) (hl := hl43) (ml := ml43) (rc := [.data shP]) (lits := []) (suf := []) (by kernel_rfl) tis_ok trivial trivial trivial trivial Tryd.func43 (by kernel_rfl) (by kernel_rfl) rfl (by kernel_rfl) (by kernel_rfl) (by simp) fun d hd => by
    obtain ⟨⟩ := d
    exact ex_of (ann43 ) (f43_vc ) (by kernel_rfl)).met
theorem fm0 : formM (([4], [-1], [[]], [], ()) : MD) = true := formM_iff.2 ⟨by decide, by decide, by decide, validI_iff.1 (by decide), by decide, by decide, by decide, by decide⟩
theorem bd0 : bndM (([4], [-1], [[]], [], ()) : MD) := ⟨by decide, by decide, by decide, by decide, by decide, by decide⟩
theorem fm1 : formM (([4], [-1], [[3]], [], ()) : MD) = true := formM_iff.2 ⟨by decide, by decide, by decide, validI_iff.1 (by decide), by decide, by decide, by decide, by decide⟩
theorem bd1 : bndM (([4], [-1], [[3]], [], ()) : MD) := ⟨by decide, by decide, by decide, by decide, by decide, by decide⟩
theorem fm2 : formM (([4], [-1], [[3, 1]], [], ()) : MD) = true := formM_iff.2 ⟨by decide, by decide, by decide, validI_iff.1 (by decide), by decide, by decide, by decide, by decide⟩
theorem bd2 : bndM (([4], [-1], [[3, 1]], [], ()) : MD) := ⟨by decide, by decide, by decide, by decide, by decide, by decide⟩
theorem fm3 : formM (([4], [-1], [[1]], [3], ()) : MD) = true := formM_iff.2 ⟨by decide, by decide, by decide, validI_iff.1 (by decide), by decide, by decide, by decide, by decide⟩
theorem bd3 : bndM (([4], [-1], [[1]], [3], ()) : MD) := ⟨by decide, by decide, by decide, by decide, by decide, by decide⟩
theorem fm4 : formM (([4], [-1], [[1]], [], ()) : MD) = true := formM_iff.2 ⟨by decide, by decide, by decide, validI_iff.1 (by decide), by decide, by decide, by decide, by decide⟩
theorem bd4 : bndM (([4], [-1], [[1]], [], ()) : MD) := ⟨by decide, by decide, by decide, by decide, by decide, by decide⟩
theorem ex1 : enqM (([4], [-1], [[]], [], ()) : MD) 0 3 = ((([4], [-1], [[3]], [], ()) : MD), 0) := by
  unfold enqM
  rw [ins_in fm0 (by decide), if_pos rfl, if_neg (by decide), if_neg (by decide)]; rfl
theorem ex2 : enqM (([4], [-1], [[3]], [], ()) : MD) 0 1 = ((([4], [-1], [[3, 1]], [], ()) : MD), 0) := by
  unfold enqM
  rw [ins_in fm1 (by decide), if_pos rfl, if_neg (by decide), if_neg (by decide)]; rfl
theorem ex3 : wkM (([4], [-1], [[3, 1]], [], ()) : MD) 0 1 = ((([4], [-1], [[1]], [3], ()) : MD), 1, 0) := by
  unfold wkM
  rw [ins_in fm2 (by decide), if_pos rfl]; rfl
theorem ex4 : wakeM (([4], [-1], [[1]], [3], ()) : MD) 1 = (zM, 30) := by
  unfold wakeM
  rw [fm3, if_neg (by decide), if_pos (by decide)]
theorem ex5 : wakeM (([4], [-1], [[1]], [3], ()) : MD) 3 = ((([4], [-1], [[1]], [], ()) : MD), 0) := by
  unfold wakeM
  rw [fm3, if_neg (by decide), if_neg (by decide)]; rfl
theorem ex6 : readM (([4], [-1], [[1]], [], ()) : MD) 0 = (4, 0) := by
  unfold readM
  rw [ins_in fm4 (by decide), if_pos rfl]; rfl
theorem ex7 : freeM (([4], [-1], [[1]], [], ()) : MD) 0 = true := by
  unfold freeM
  rw [ins_in fm4 (by decide)]; rfl
@[reducible] def ctExa : CT := { ps := [], pre := fun d => True, res := fun d => ([], vB (true)) }
@[reducible] noncomputable def cl12 : List (Nat × CT) := [(43, ctOne), (13, ctNew), (18, ctEnq), (20, ctSig), (24, ctWke), (26, ctRd), (34, ctFr), (41, ct13)]
@[reducible] def ann12  : Nat → Option (St → Ann) := fun k => match k with
  | 2 => some fun _ => .cut { α := Nat, pad := 1, can := [(0, .slot 1)], slots := fun _ => [(1, .c (.own 0 0)), (2, .c (.v (.int .i64 0)))], res := fun _ => [(0, .blk 31 [.sl (.int .i64) [4], .sl (.int .i64) [-1], .sl (.sl (.int .i64)) [[]], .sl (.int .i64) []])], inv := fun u => u = 0, meas := fun _ => 0 }
  | 3 => some fun _ => .cut { α := Nat, pad := 1, can := [(1, .slot 3)], slots := fun _ => [(3, .c (.own 1 0)), (4, .c (.v (.int .i64 0)))], res := fun _ => [(1, .blk 31 [.sl (.int .i64) [4], .sl (.int .i64) [-1], .sl (.sl (.int .i64)) [[3]], .sl (.int .i64) []])], inv := fun u => u = 0, meas := fun _ => 0 }
  | 4 => some fun _ => .cut { α := Nat, pad := 1, can := [(2, .slot 5)], slots := fun _ => [(5, .c (.own 2 0)), (6, .c (.v (.int .i64 0)))], res := fun _ => [(2, .blk 31 [.sl (.int .i64) [4], .sl (.int .i64) [-1], .sl (.sl (.int .i64)) [[3, 1]], .sl (.int .i64) []])], inv := fun u => u = 0, meas := fun _ => 0 }
  | 5 => some fun _ => .cut { α := Nat, pad := 1, can := [(3, .slot 7)], slots := fun _ => [(7, .c (.own 3 0)), (8, .c (.v (.int .i64 1))), (9, .c (.v (.int .i64 0)))], res := fun _ => [(3, .blk 31 [.sl (.int .i64) [4], .sl (.int .i64) [-1], .sl (.sl (.int .i64)) [[1]], .sl (.int .i64) [3]])], inv := fun u => u = 0, meas := fun _ => 0 }
  | 6 => some fun _ => .cut { α := Nat, pad := 1, can := [(4, .slot 10)], slots := fun _ => [(10, .c (.own 4 0)), (11, .c (.v (.int .i64 30)))], res := fun _ => [(4, .blk 31 [.sl (.int .i64) [], .sl (.int .i64) [], .sl (.sl (.int .i64)) [], .sl (.int .i64) []])], inv := fun u => u = 0, meas := fun _ => 0 }
  | 7 => some fun _ => .cut { α := Nat, pad := 1, can := [(5, .slot 12)], slots := fun _ => [(12, .c (.own 5 0)), (13, .c (.v (.int .i64 0)))], res := fun _ => [(5, .blk 31 [.sl (.int .i64) [4], .sl (.int .i64) [-1], .sl (.sl (.int .i64)) [[1]], .sl (.int .i64) []])], inv := fun u => u = 0, meas := fun _ => 0 }
  | 10 => some fun _ => .cut { α := MD, slots := fun _ => [(14, .c (.v (.int .i64 4))), (15, .c (.v (.int .i64 0)))], res := fun u => [(5, .blk 31 [.sl (.int .i64) u.1, .sl (.int .i64) u.2.1, .sl (.sl (.int .i64)) u.2.2.1, .sl (.int .i64) u.2.2.2.1])], inv := fun u => u = ([4], [-1], [[1]], [], ()), meas := fun _ => 0 }
  | _ => none
@[reducible] def il12 : List (Nat × IP) := []
@[reducible] def hl12 : List (Nat × Nat × CT) := []
@[reducible] noncomputable def ml12 : List (Nat × MK) := []
set_option maxRecDepth 100000 in
theorem f12_vc  :
    (True ∧ ((1 : Nat) ≤ (1000000 : Nat) ∧ (1 : Nat) ≤ (1000000 : Nat) ∧ (1 : Nat) ≤ (1000000 : Nat) ∧ (1 : Nat) ≤ (1000000 : Nat) ∧ (1 : Nat) ≤ (1000000 : Nat) ∧ (∀ (x : Sh.str.den × (shI.sl.pair Sh.unit).den), x ∈ [({ data := #[(102 : UInt8)] : ByteArray }, [], ())] → List.length x.snd.fst ≤ (1000000 : Nat)) ∧ (0 : Nat) ≤ (1000000 : Nat)) ∧ ∃ v, v = (0 : Nat) ∧ (SV.c (SC.own (0 : Nat) (0 : Nat)) = SV.c (SC.own (0 : Nat) (0 : Nat)) ∧ SV.c (SC.v (Value.int IntKind.i64 (0 : Int))) = SV.c (SC.v (Value.int IntKind.i64 (0 : Int))) ∧ True) ∧ [(([] : Go.Eng.Gd), Res.blk (31 : Nat) [SC.sl I6 (List.map (fun x => x.snd.fst) [({ data := #[(120 : UInt8)] : ByteArray }, (4 : Int), ())]), SC.sl I6 (List.replicate (1 : Nat) (-1 : Int)), SC.sl I6.sl (List.replicate (1 : Nat) []), SC.sl I6 []])] = [(([] : Go.Eng.Gd), Res.blk (31 : TypeId) [SC.sl I6 [(4 : I6.den)], SC.sl I6 [(-1 : I6.den)], SC.sl I6.sl [[]], SC.sl I6 []])]) ∧ ∀ (v : Nat), v = (0 : Nat) → (bndM ([(4 : I6.den)], [(-1 : I6.den)], [[]], [], ()) ∧ ∃ v, v = (0 : Nat) ∧ (SV.c (SC.own (1 : Nat) (0 : Nat)) = SV.c (SC.own (1 : Nat) (0 : Nat)) ∧ SV.c (SC.v (Value.int IntKind.i64 (enqM ([(4 : I6.den)], [(-1 : I6.den)], [[]], [], ()) (0 : Int) (3 : Int)).snd)) = SV.c (SC.v (Value.int IntKind.i64 (0 : Int))) ∧ True) ∧ [(([] : Go.Eng.Gd), Res.blk (31 : TypeId) [SC.sl I6 [(4 : I6.den)], SC.sl I6 [(-1 : I6.den)], SC.sl I6.sl [[]], SC.sl I6 []]), (([] : Go.Eng.Gd), Res.blk (31 : Nat) [SC.sl I6 (enqM ([(4 : I6.den)], [(-1 : I6.den)], [[]], [], ()) (0 : Int) (3 : Int)).fst.fst, SC.sl I6 (enqM ([(4 : I6.den)], [(-1 : I6.den)], [[]], [], ()) (0 : Int) (3 : Int)).fst.snd.fst, SC.sl I6.sl (enqM ([(4 : I6.den)], [(-1 : I6.den)], [[]], [], ()) (0 : Int) (3 : Int)).fst.snd.snd.fst, SC.sl I6 (enqM ([(4 : I6.den)], [(-1 : I6.den)], [[]], [], ()) (0 : Int) (3 : Int)).fst.snd.snd.snd.fst])] = [(([] : Go.Eng.Gd), Res.blk (31 : TypeId) [SC.sl I6 [(4 : I6.den)], SC.sl I6 [(-1 : I6.den)], SC.sl I6.sl [[]], SC.sl I6 []]), (([] : Go.Eng.Gd), Res.blk (31 : TypeId) [SC.sl I6 [(4 : I6.den)], SC.sl I6 [(-1 : I6.den)], SC.sl I6.sl [[(3 : I6.den)]], SC.sl I6 []])]) ∧ ∀ (v : Nat), v = (0 : Nat) → (bndM ([(4 : I6.den)], [(-1 : I6.den)], [[(3 : I6.den)]], [], ()) ∧ ∃ v, v = (0 : Nat) ∧ (SV.c (SC.own (2 : Nat) (0 : Nat)) = SV.c (SC.own (2 : Nat) (0 : Nat)) ∧ SV.c (SC.v (Value.int IntKind.i64 (enqM ([(4 : I6.den)], [(-1 : I6.den)], [[(3 : I6.den)]], [], ()) (0 : Int) (1 : Int)).snd)) = SV.c (SC.v (Value.int IntKind.i64 (0 : Int))) ∧ True) ∧ [(([] : Go.Eng.Gd), Res.blk (31 : TypeId) [SC.sl I6 [(4 : I6.den)], SC.sl I6 [(-1 : I6.den)], SC.sl I6.sl [[]], SC.sl I6 []]), (([] : Go.Eng.Gd), Res.blk (31 : TypeId) [SC.sl I6 [(4 : I6.den)], SC.sl I6 [(-1 : I6.den)], SC.sl I6.sl [[(3 : I6.den)]], SC.sl I6 []]), (([] : Go.Eng.Gd), Res.blk (31 : Nat) [SC.sl I6 (enqM ([(4 : I6.den)], [(-1 : I6.den)], [[(3 : I6.den)]], [], ()) (0 : Int) (1 : Int)).fst.fst, SC.sl I6 (enqM ([(4 : I6.den)], [(-1 : I6.den)], [[(3 : I6.den)]], [], ()) (0 : Int) (1 : Int)).fst.snd.fst, SC.sl I6.sl (enqM ([(4 : I6.den)], [(-1 : I6.den)], [[(3 : I6.den)]], [], ()) (0 : Int) (1 : Int)).fst.snd.snd.fst, SC.sl I6 (enqM ([(4 : I6.den)], [(-1 : I6.den)], [[(3 : I6.den)]], [], ()) (0 : Int) (1 : Int)).fst.snd.snd.snd.fst])] = [(([] : Go.Eng.Gd), Res.blk (31 : TypeId) [SC.sl I6 [(4 : I6.den)], SC.sl I6 [(-1 : I6.den)], SC.sl I6.sl [[]], SC.sl I6 []]), (([] : Go.Eng.Gd), Res.blk (31 : TypeId) [SC.sl I6 [(4 : I6.den)], SC.sl I6 [(-1 : I6.den)], SC.sl I6.sl [[(3 : I6.den)]], SC.sl I6 []]), (([] : Go.Eng.Gd), Res.blk (31 : TypeId) [SC.sl I6 [(4 : I6.den)], SC.sl I6 [(-1 : I6.den)], SC.sl I6.sl [[(3 : I6.den), (1 : I6.den)]], SC.sl I6 []])]) ∧ ∀ (v : Nat), v = (0 : Nat) → (bndM ([(4 : I6.den)], [(-1 : I6.den)], [[(3 : I6.den), (1 : I6.den)]], [], ()) ∧ ∃ v, v = (0 : Nat) ∧ (SV.c (SC.own (3 : Nat) (0 : Nat)) = SV.c (SC.own (3 : Nat) (0 : Nat)) ∧ SV.c (SC.v (Value.int IntKind.i64 (wkM ([(4 : I6.den)], [(-1 : I6.den)], [[(3 : I6.den), (1 : I6.den)]], [], ()) (0 : Int) (1 : Int)).snd.fst)) = SV.c (SC.v (Value.int IntKind.i64 (1 : Int))) ∧ SV.c (SC.v (Value.int IntKind.i64 (wkM ([(4 : I6.den)], [(-1 : I6.den)], [[(3 : I6.den), (1 : I6.den)]], [], ()) (0 : Int) (1 : Int)).snd.snd)) = SV.c (SC.v (Value.int IntKind.i64 (0 : Int))) ∧ True) ∧ [(([] : Go.Eng.Gd), Res.blk (31 : TypeId) [SC.sl I6 [(4 : I6.den)], SC.sl I6 [(-1 : I6.den)], SC.sl I6.sl [[]], SC.sl I6 []]), (([] : Go.Eng.Gd), Res.blk (31 : TypeId) [SC.sl I6 [(4 : I6.den)], SC.sl I6 [(-1 : I6.den)], SC.sl I6.sl [[(3 : I6.den)]], SC.sl I6 []]), (([] : Go.Eng.Gd), Res.blk (31 : TypeId) [SC.sl I6 [(4 : I6.den)], SC.sl I6 [(-1 : I6.den)], SC.sl I6.sl [[(3 : I6.den), (1 : I6.den)]], SC.sl I6 []]), (([] : Go.Eng.Gd), Res.blk (31 : Nat) [SC.sl I6 (wkM ([(4 : I6.den)], [(-1 : I6.den)], [[(3 : I6.den), (1 : I6.den)]], [], ()) (0 : Int) (1 : Int)).fst.fst, SC.sl I6 (wkM ([(4 : I6.den)], [(-1 : I6.den)], [[(3 : I6.den), (1 : I6.den)]], [], ()) (0 : Int) (1 : Int)).fst.snd.fst, SC.sl I6.sl (wkM ([(4 : I6.den)], [(-1 : I6.den)], [[(3 : I6.den), (1 : I6.den)]], [], ()) (0 : Int) (1 : Int)).fst.snd.snd.fst, SC.sl I6 (wkM ([(4 : I6.den)], [(-1 : I6.den)], [[(3 : I6.den), (1 : I6.den)]], [], ()) (0 : Int) (1 : Int)).fst.snd.snd.snd.fst])] = [(([] : Go.Eng.Gd), Res.blk (31 : TypeId) [SC.sl I6 [(4 : I6.den)], SC.sl I6 [(-1 : I6.den)], SC.sl I6.sl [[]], SC.sl I6 []]), (([] : Go.Eng.Gd), Res.blk (31 : TypeId) [SC.sl I6 [(4 : I6.den)], SC.sl I6 [(-1 : I6.den)], SC.sl I6.sl [[(3 : I6.den)]], SC.sl I6 []]), (([] : Go.Eng.Gd), Res.blk (31 : TypeId) [SC.sl I6 [(4 : I6.den)], SC.sl I6 [(-1 : I6.den)], SC.sl I6.sl [[(3 : I6.den), (1 : I6.den)]], SC.sl I6 []]), (([] : Go.Eng.Gd), Res.blk (31 : TypeId) [SC.sl I6 [(4 : I6.den)], SC.sl I6 [(-1 : I6.den)], SC.sl I6.sl [[(1 : I6.den)]], SC.sl I6 [(3 : I6.den)]])]) ∧ ∀ (v : Nat), v = (0 : Nat) → (bndM ([(4 : I6.den)], [(-1 : I6.den)], [[(1 : I6.den)]], [(3 : I6.den)], ()) ∧ ∃ v, v = (0 : Nat) ∧ (SV.c (SC.own (4 : Nat) (0 : Nat)) = SV.c (SC.own (4 : Nat) (0 : Nat)) ∧ SV.c (SC.v (Value.int IntKind.i64 (wakeM ([(4 : I6.den)], [(-1 : I6.den)], [[(1 : I6.den)]], [(3 : I6.den)], ()) (1 : Int)).snd)) = SV.c (SC.v (Value.int IntKind.i64 (30 : Int))) ∧ True) ∧ [(([] : Go.Eng.Gd), Res.blk (31 : TypeId) [SC.sl I6 [(4 : I6.den)], SC.sl I6 [(-1 : I6.den)], SC.sl I6.sl [[]], SC.sl I6 []]), (([] : Go.Eng.Gd), Res.blk (31 : TypeId) [SC.sl I6 [(4 : I6.den)], SC.sl I6 [(-1 : I6.den)], SC.sl I6.sl [[(3 : I6.den)]], SC.sl I6 []]), (([] : Go.Eng.Gd), Res.blk (31 : TypeId) [SC.sl I6 [(4 : I6.den)], SC.sl I6 [(-1 : I6.den)], SC.sl I6.sl [[(3 : I6.den), (1 : I6.den)]], SC.sl I6 []]), (([] : Go.Eng.Gd), Res.blk (31 : TypeId) [SC.sl I6 [(4 : I6.den)], SC.sl I6 [(-1 : I6.den)], SC.sl I6.sl [[(1 : I6.den)]], SC.sl I6 [(3 : I6.den)]]), (([] : Go.Eng.Gd), Res.blk (31 : Nat) [SC.sl I6 (wakeM ([(4 : I6.den)], [(-1 : I6.den)], [[(1 : I6.den)]], [(3 : I6.den)], ()) (1 : Int)).fst.fst, SC.sl I6 (wakeM ([(4 : I6.den)], [(-1 : I6.den)], [[(1 : I6.den)]], [(3 : I6.den)], ()) (1 : Int)).fst.snd.fst, SC.sl I6.sl (wakeM ([(4 : I6.den)], [(-1 : I6.den)], [[(1 : I6.den)]], [(3 : I6.den)], ()) (1 : Int)).fst.snd.snd.fst, SC.sl I6 (wakeM ([(4 : I6.den)], [(-1 : I6.den)], [[(1 : I6.den)]], [(3 : I6.den)], ()) (1 : Int)).fst.snd.snd.snd.fst])] = [(([] : Go.Eng.Gd), Res.blk (31 : TypeId) [SC.sl I6 [(4 : I6.den)], SC.sl I6 [(-1 : I6.den)], SC.sl I6.sl [[]], SC.sl I6 []]), (([] : Go.Eng.Gd), Res.blk (31 : TypeId) [SC.sl I6 [(4 : I6.den)], SC.sl I6 [(-1 : I6.den)], SC.sl I6.sl [[(3 : I6.den)]], SC.sl I6 []]), (([] : Go.Eng.Gd), Res.blk (31 : TypeId) [SC.sl I6 [(4 : I6.den)], SC.sl I6 [(-1 : I6.den)], SC.sl I6.sl [[(3 : I6.den), (1 : I6.den)]], SC.sl I6 []]), (([] : Go.Eng.Gd), Res.blk (31 : TypeId) [SC.sl I6 [(4 : I6.den)], SC.sl I6 [(-1 : I6.den)], SC.sl I6.sl [[(1 : I6.den)]], SC.sl I6 [(3 : I6.den)]]), (([] : Go.Eng.Gd), Res.blk (31 : TypeId) [SC.sl I6 [], SC.sl I6 [], SC.sl I6.sl [], SC.sl I6 []])]) ∧ ∀ (v : Nat), v = (0 : Nat) → (bndM ([(4 : I6.den)], [(-1 : I6.den)], [[(1 : I6.den)]], [(3 : I6.den)], ()) ∧ ∃ v, v = (0 : Nat) ∧ (SV.c (SC.own (5 : Nat) (0 : Nat)) = SV.c (SC.own (5 : Nat) (0 : Nat)) ∧ SV.c (SC.v (Value.int IntKind.i64 (wakeM ([(4 : I6.den)], [(-1 : I6.den)], [[(1 : I6.den)]], [(3 : I6.den)], ()) (3 : Int)).snd)) = SV.c (SC.v (Value.int IntKind.i64 (0 : Int))) ∧ True) ∧ [(([] : Go.Eng.Gd), Res.blk (31 : TypeId) [SC.sl I6 [(4 : I6.den)], SC.sl I6 [(-1 : I6.den)], SC.sl I6.sl [[]], SC.sl I6 []]), (([] : Go.Eng.Gd), Res.blk (31 : TypeId) [SC.sl I6 [(4 : I6.den)], SC.sl I6 [(-1 : I6.den)], SC.sl I6.sl [[(3 : I6.den)]], SC.sl I6 []]), (([] : Go.Eng.Gd), Res.blk (31 : TypeId) [SC.sl I6 [(4 : I6.den)], SC.sl I6 [(-1 : I6.den)], SC.sl I6.sl [[(3 : I6.den), (1 : I6.den)]], SC.sl I6 []]), (([] : Go.Eng.Gd), Res.blk (31 : TypeId) [SC.sl I6 [(4 : I6.den)], SC.sl I6 [(-1 : I6.den)], SC.sl I6.sl [[(1 : I6.den)]], SC.sl I6 [(3 : I6.den)]]), (([] : Go.Eng.Gd), Res.blk (31 : TypeId) [SC.sl I6 [], SC.sl I6 [], SC.sl I6.sl [], SC.sl I6 []]), (([] : Go.Eng.Gd), Res.blk (31 : Nat) [SC.sl I6 (wakeM ([(4 : I6.den)], [(-1 : I6.den)], [[(1 : I6.den)]], [(3 : I6.den)], ()) (3 : Int)).fst.fst, SC.sl I6 (wakeM ([(4 : I6.den)], [(-1 : I6.den)], [[(1 : I6.den)]], [(3 : I6.den)], ()) (3 : Int)).fst.snd.fst, SC.sl I6.sl (wakeM ([(4 : I6.den)], [(-1 : I6.den)], [[(1 : I6.den)]], [(3 : I6.den)], ()) (3 : Int)).fst.snd.snd.fst, SC.sl I6 (wakeM ([(4 : I6.den)], [(-1 : I6.den)], [[(1 : I6.den)]], [(3 : I6.den)], ()) (3 : Int)).fst.snd.snd.snd.fst])] = [(([] : Go.Eng.Gd), Res.blk (31 : TypeId) [SC.sl I6 [(4 : I6.den)], SC.sl I6 [(-1 : I6.den)], SC.sl I6.sl [[]], SC.sl I6 []]), (([] : Go.Eng.Gd), Res.blk (31 : TypeId) [SC.sl I6 [(4 : I6.den)], SC.sl I6 [(-1 : I6.den)], SC.sl I6.sl [[(3 : I6.den)]], SC.sl I6 []]), (([] : Go.Eng.Gd), Res.blk (31 : TypeId) [SC.sl I6 [(4 : I6.den)], SC.sl I6 [(-1 : I6.den)], SC.sl I6.sl [[(3 : I6.den), (1 : I6.den)]], SC.sl I6 []]), (([] : Go.Eng.Gd), Res.blk (31 : TypeId) [SC.sl I6 [(4 : I6.den)], SC.sl I6 [(-1 : I6.den)], SC.sl I6.sl [[(1 : I6.den)]], SC.sl I6 [(3 : I6.den)]]), (([] : Go.Eng.Gd), Res.blk (31 : TypeId) [SC.sl I6 [], SC.sl I6 [], SC.sl I6.sl [], SC.sl I6 []]), (([] : Go.Eng.Gd), Res.blk (31 : TypeId) [SC.sl I6 [(4 : I6.den)], SC.sl I6 [(-1 : I6.den)], SC.sl I6.sl [[(1 : I6.den)]], SC.sl I6 []])]) ∧ ∀ (v : Nat), v = (0 : Nat) → (bndM ([(4 : I6.den)], [(-1 : I6.den)], [[(1 : I6.den)]], [], ()) ∧ ∃ v, v = ([(4 : Int)], [(-1 : Int)], [[(1 : Int)]], [], ()) ∧ (SV.c (SC.v (Value.int IntKind.i64 (readM ([(4 : I6.den)], [(-1 : I6.den)], [[(1 : I6.den)]], [], ()) (0 : Int)).fst)) = SV.c (SC.v (Value.int IntKind.i64 (4 : Int))) ∧ SV.c (SC.v (Value.int IntKind.i64 (readM ([(4 : I6.den)], [(-1 : I6.den)], [[(1 : I6.den)]], [], ()) (0 : Int)).snd)) = SV.c (SC.v (Value.int IntKind.i64 (0 : Int))) ∧ True) ∧ [(([] : Go.Eng.Gd), Res.blk (31 : TypeId) [SC.sl I6 [(4 : I6.den)], SC.sl I6 [(-1 : I6.den)], SC.sl I6.sl [[]], SC.sl I6 []]), (([] : Go.Eng.Gd), Res.blk (31 : TypeId) [SC.sl I6 [(4 : I6.den)], SC.sl I6 [(-1 : I6.den)], SC.sl I6.sl [[(3 : I6.den)]], SC.sl I6 []]), (([] : Go.Eng.Gd), Res.blk (31 : TypeId) [SC.sl I6 [(4 : I6.den)], SC.sl I6 [(-1 : I6.den)], SC.sl I6.sl [[(3 : I6.den), (1 : I6.den)]], SC.sl I6 []]), (([] : Go.Eng.Gd), Res.blk (31 : TypeId) [SC.sl I6 [(4 : I6.den)], SC.sl I6 [(-1 : I6.den)], SC.sl I6.sl [[(1 : I6.den)]], SC.sl I6 [(3 : I6.den)]]), (([] : Go.Eng.Gd), Res.blk (31 : TypeId) [SC.sl I6 [], SC.sl I6 [], SC.sl I6.sl [], SC.sl I6 []]), (([] : Go.Eng.Gd), Res.blk (31 : TypeId) [SC.sl I6 [(4 : I6.den)], SC.sl I6 [(-1 : I6.den)], SC.sl I6.sl [[(1 : I6.den)]], SC.sl I6 []])] = [(([] : Go.Eng.Gd), Res.blk (31 : TypeId) [SC.sl I6 [(4 : I6.den)], SC.sl I6 [(-1 : I6.den)], SC.sl I6.sl [[]], SC.sl I6 []]), (([] : Go.Eng.Gd), Res.blk (31 : TypeId) [SC.sl I6 [(4 : I6.den)], SC.sl I6 [(-1 : I6.den)], SC.sl I6.sl [[(3 : I6.den)]], SC.sl I6 []]), (([] : Go.Eng.Gd), Res.blk (31 : TypeId) [SC.sl I6 [(4 : I6.den)], SC.sl I6 [(-1 : I6.den)], SC.sl I6.sl [[(3 : I6.den), (1 : I6.den)]], SC.sl I6 []]), (([] : Go.Eng.Gd), Res.blk (31 : TypeId) [SC.sl I6 [(4 : I6.den)], SC.sl I6 [(-1 : I6.den)], SC.sl I6.sl [[(1 : I6.den)]], SC.sl I6 [(3 : I6.den)]]), (([] : Go.Eng.Gd), Res.blk (31 : TypeId) [SC.sl I6 [], SC.sl I6 [], SC.sl I6.sl [], SC.sl I6 []]), (([] : Go.Eng.Gd), Res.blk (31 : TypeId) [SC.sl I6 v.fst, SC.sl I6 v.snd.fst, SC.sl I6.sl v.snd.snd.fst, SC.sl I6 v.snd.snd.snd.fst])]) ∧ ∀ (v : List Int × List Int × List (List Int) × List Int × Unit), v = ([(4 : Int)], [(-1 : Int)], [[(1 : Int)]], [], ()) → (true = true → bndM v) ∧ ((true && freeM v (0 : Int)) = true → (0 : Int) ≤ (0 : Int) ∧ (0 : Int) < (↑v.snd.snd.fst.length : Int)) ∧ ∀ (d : List I6.den), ((true && freeM v (0 : Int)) = true → v.snd.snd.fst[(0 : Nat)]? = some d) → ((true && freeM v (0 : Int)) = true → d.length ≤ (4611686018427387904 : Nat)) ∧ ([] : List Go.Eng.Res) = [] ∧ Ent.one (SV.c (SC.v (Value.bool true))) = Ent.one (SV.c (SC.v (Value.bool (true && freeM v (0 : Int) && decide (d = [(1 : Int)]) && decide ((↑v.snd.snd.snd.fst.length : Int) = (0 : Int)))))) := by
  refine ⟨⟨trivial, ⟨by decide, by decide, by decide, by decide, by decide, fun x hx => ?_, by decide⟩, 0, rfl, ⟨rfl, rfl, trivial⟩, rfl⟩, fun _ _ => ?_⟩
  · rw [List.mem_singleton] at hx; subst hx; exact Nat.zero_le _
  refine ⟨⟨bd0, 0, rfl, ⟨rfl, by rw [ex1], trivial⟩, by rw [ex1]⟩, fun _ _ => ?_⟩
  refine ⟨⟨bd1, 0, rfl, ⟨rfl, by rw [ex2], trivial⟩, by rw [ex2]⟩, fun _ _ => ?_⟩
  refine ⟨⟨bd2, 0, rfl, ⟨rfl, by rw [ex3], by rw [ex3], trivial⟩, by rw [ex3]⟩, fun _ _ => ?_⟩
  refine ⟨⟨bd3, 0, rfl, ⟨rfl, by rw [ex4], trivial⟩, by rw [ex4]; rfl⟩, fun _ _ => ?_⟩
  refine ⟨⟨bd3, 0, rfl, ⟨rfl, by rw [ex5], trivial⟩, by rw [ex5]⟩, fun _ _ => ?_⟩
  refine ⟨⟨bd4, _, rfl, ⟨by rw [ex6], by rw [ex6], trivial⟩, rfl⟩, fun m hm => ?_⟩
  subst hm
  refine ⟨fun _ => bd4, fun _ => by decide, fun d hd => ?_⟩
  have e7 : (true && freeM ([4], [-1], [[1]], [], ()) 0) = true := ex7
  have hd : ([[1]] : List (List Int))[0]? = some d := hd e7
  cases hd
  exact ⟨fun _ => by decide, rfl, by rw [e7]; rfl⟩
set_option maxHeartbeats 2000000 in
set_option maxRecDepth 100000 in
theorem f12_met : Go.Eng.Met Tryd.prog cx0.gd 12 ctExa :=
  (met_all (cx := cx0) (n := 102) (cl := cl12) (il := il12) (hl := hl12) (ml := ml12) (rc := []) (lits := []) (suf := []) (by kernel_rfl) tis_ok ⟨f43_met, f13_met, f18_met, f20_met, f24_met, f26_met, f34_met, f41_met, trivial⟩ trivial trivial trivial Tryd.func12 (by kernel_rfl) (by kernel_rfl) rfl (by kernel_rfl) (by kernel_rfl) (by simp) fun d hd => by
    obtain ⟨⟩ := d
    exact ex_of (ann12 ) (f12_vc ) (by kernel_rfl)).met
end Go.Proofs.YtkgjfkdcnoockaaDoor
set_option linter.unusedSimpArgs false
set_option linter.unusedVariables false
set_option maxRecDepth 100000
namespace Go.Proofs.YtkgjfkdcnoockaaDoor
open Go Go.Eng

theorem few_bnd {m : MD} (h : fewM m = true) : bndM m := by
  obtain ⟨vs, os, qs, sg, ⟨⟩⟩ := m
  unfold fewM at h
  simp only [Bool.and_eq_true, List.all_eq_true, decide_eq_true_eq] at h
  obtain ⟨⟨⟨⟨h1, h2⟩, h3⟩, h4⟩, h5⟩ := h
  refine ⟨by show vs.length ≤ 1000; omega, by show os.length ≤ 1000; omega, by show qs.length ≤ 1000; omega, by show sg.length ≤ 1000; omega, fun q hq => by have := h5 q hq; omega, ?_⟩
  have key : ∀ l : List (List Int), (∀ q ∈ l, q.length ≤ 60) → l.flatten.length ≤ 60 * l.length := by
    intro l
    induction l with
    | nil => intro _; simp
    | cons a l ih =>
      intro hl
      have := ih fun q hq => hl q (by simp [hq])
      have := hl a (by simp)
      simp only [List.flatten_cons, List.length_append, List.length_cons]; omega
  have := key qs h5
  show qs.flatten.length ≤ 100000
  omega
theorem write_bnd {m : MD} {x v : Int} (h : bndM m) : bndM (writeM m x v).1 := by
  obtain ⟨vs, os, qs, sg, ⟨⟩⟩ := m
  unfold writeM
  have z : bndM zM := ⟨by decide, by decide, by decide, by decide, by decide, by decide⟩
  split
  · split
    · exact ⟨by have := h.1; simpa using this, h.2⟩
    · exact z
  · exact z
theorem own_bnd {m : MD} {i id frm to : Int} (h : bndM m) : bndM (ownM m i id frm to).1 := by
  obtain ⟨vs, os, qs, sg, ⟨⟩⟩ := m
  unfold ownM
  have z : bndM zM := ⟨by decide, by decide, by decide, by decide, by decide, by decide⟩
  split
  · split
    · exact z
    · split
      · exact ⟨h.1, by have := h.2.1; simpa using this, h.2.2⟩
      · exact z
  · exact z
end Go.Proofs.YtkgjfkdcnoockaaDoor
set_option linter.unusedSimpArgs false
set_option linter.unusedVariables false
set_option maxRecDepth 100000
namespace Go.Proofs.YtkgjfkdcnoockaaDoor
open Go Go.Eng

@[reducible] def cl62 : List (Nat × CT) := []
@[reducible] def ann62 (l : List Int) (m : List Int) : Nat → Option (St → Ann) := fun k => match k with
  | 4 => some fun _ => .inv { α := Nat, slots := fun k => [(13, .c (.v (.int .i64 k)))], res := fun k => [], inv := fun k => k ≤ (l).length ∧ ∀ j < k, l[j]? = m[j]?, meas := fun k => (l).length - k }
  | _ => none
@[reducible] def il62 : List (Nat × IP) := []
@[reducible] def hl62 : List (Nat × Nat × CT) := []
@[reducible] def ml62 : List (Nat × MK) := []
set_option maxRecDepth 100000 in
theorem f62_vc (l : List Int) (m : List Int) (hpre : ctSm21.pre (l, m, ())) :
    br (!decide ((↑l.length : Int) = (↑m.length : Int))) (([] : List Go.Eng.Res) = [] ∧ Ent.one (SV.c (SC.v (Value.bool (decide (l = m))))) = Ent.one (SV.c (SC.v (Value.bool false)))) ((∃ x, (x ≤ l.length ∧ ∀ (j : Nat), j < x → l[j]? = m[j]?) ∧ (SV.c (SC.v (Value.int IntKind.i64 (0 : Int))) = SV.c (SC.v (Value.int IntKind.i64 (↑x : Int))) ∧ True) ∧ ([] : List (Go.Eng.Gd × Go.Eng.Res)) = []) ∧ ∀ (x : Nat), (x ≤ l.length ∧ ∀ (j : Nat), j < x → l[j]? = m[j]?) → br (decide ((↑x : Int) < (↑l.length : Int))) (((0 : Int) ≤ (↑x : Int) ∧ (↑x : Int) < (↑l.length : Int)) ∧ ∀ (d : Int), l[(↑x : Int).toNat]? = some d → ((0 : Int) ≤ (↑x : Int) ∧ (↑x : Int) < (↑m.length : Int)) ∧ ∀ (d_1 : Int), m[(↑x : Int).toNat]? = some d_1 → br (!decide (d = d_1)) (([] : List Go.Eng.Res) = [] ∧ Ent.one (SV.c (SC.v (Value.bool (decide (l = m))))) = Ent.one (SV.c (SC.v (Value.bool false)))) (InR IntKind.i64 ((↑x : Int) + (1 : Int)) ∧ ∃ x', (x' ≤ l.length ∧ ∀ (j : Nat), j < x' → l[j]? = m[j]?) ∧ (SV.c (SC.v (Value.int IntKind.i64 ((↑x : Int) + (1 : Int)))) = SV.c (SC.v (Value.int IntKind.i64 (↑x' : Int))) ∧ True) ∧ ([] : List (Go.Eng.Gd × Go.Eng.Res)) = [] ∧ l.length - x' < l.length - x)) (([] : List Go.Eng.Res) = [] ∧ Ent.one (SV.c (SC.v (Value.bool (decide (l = m))))) = Ent.one (SV.c (SC.v (Value.bool true))))) := by
  have hp : l.length ≤ 1000000 := hpre
  have fF : l ≠ m → ([] : List Go.Eng.Res) = [] ∧ Ent.one (SV.c (SC.v (Value.bool (decide (l = m))))) = Ent.one (SV.c (SC.v (Value.bool false))) := fun q => ⟨rfl, by rw [decide_eq_false q]⟩
  refine br_iff.2 ⟨fun h => fF fun q => ?_, fun h => ?_⟩
  · subst q; simp at h
  simp only [Bool.not_eq_false', decide_eq_true_eq] at h
  refine ⟨⟨0, ⟨by omega, fun j hj => by omega⟩, ⟨rfl, trivial⟩, rfl⟩, fun k hk => br_iff.2 ⟨fun g => ?_, fun g => ?_⟩⟩
  · simp only [decide_eq_true_eq] at g
    refine ⟨⟨by omega, by omega⟩, fun d hd => ⟨⟨by omega, by omega⟩, fun d1 hd1 => br_iff.2 ⟨fun g2 => fF fun q => ?_, fun g2 => ⟨InR_i64.2 (by omega), k + 1, ⟨by omega, fun j hj => ?_⟩, ⟨rfl, trivial⟩, rfl, by omega⟩⟩⟩⟩
    · subst q
      rw [hd] at hd1; cases hd1
      simp at g2
    · by_cases hjk : j = k
      · subst hjk
        have hd : l[j]? = some d := hd
        have hd1 : m[j]? = some d1 := hd1
        simp at g2
        rw [hd, hd1, g2]
      · exact hk.2 j (by omega)
  simp only [decide_eq_false_iff_not] at g
  have e : l = m := by
    apply List.ext_getElem?
    intro j
    by_cases hj : j < k
    · exact hk.2 j hj
    · rw [List.getElem?_eq_none (by omega), List.getElem?_eq_none (by omega)]
  exact ⟨rfl, by rw [decide_eq_true e]⟩
set_option maxHeartbeats 2000000 in
set_option maxRecDepth 100000 in
theorem f62_met : Go.Eng.Met Tryd.prog cx0.gd 62 ctSm21 :=
  (met_all (cx := cx0) (n := 26) (cl := cl62) (il := il62) (hl := hl62) (ml := ml62) (rc := []) (lits := []) (suf := []) (by kernel_rfl) tis_ok trivial trivial trivial trivial Tryd.func62 (by kernel_rfl) (by kernel_rfl) rfl (by kernel_rfl) (by kernel_rfl) (by simp) fun d hd => by
    obtain ⟨l, m, ⟨⟩⟩ := d
    exact ex_of (ann62 l m) (f62_vc l m hd) (by kernel_rfl)).met
@[reducible] def cl64 : List (Nat × CT) := [(62, ctSm21)]
@[reducible] def ann64 (l : List Int) (m : List Int) : Nat → Option (St → Ann) := fun _ => none
@[reducible] def il64 : List (Nat × IP) := []
@[reducible] def hl64 : List (Nat × Nat × CT) := []
@[reducible] def ml64 : List (Nat × MK) := []
set_option maxRecDepth 100000 in
theorem f64_vc (l : List Int) (m : List Int) (hpre : ctSm21.pre (l, m, ())) :
    l.length ≤ (1000000 : Nat) ∧ ([] : List Go.Eng.Res) = [] ∧ Ent.one (SV.c (SC.v (Value.bool (decide (l = m))))) = Ent.one (SV.c (SC.v (Value.bool (decide (l = m))))) := by
  exact ⟨hpre, rfl, rfl⟩
set_option maxHeartbeats 2000000 in
set_option maxRecDepth 100000 in
theorem f64_met : Go.Eng.Met Tryd.prog cx0.gd 64 ctSm21 :=
  (met_all (cx := cx0) (n := 8) (cl := cl64) (il := il64) (hl := hl64) (ml := ml64) (rc := []) (lits := []) (suf := []) (by kernel_rfl) tis_ok ⟨f62_met, trivial⟩ trivial trivial trivial Tryd.func64 (by kernel_rfl) (by kernel_rfl) rfl (by kernel_rfl) (by kernel_rfl) (by simp) fun d hd => by
    obtain ⟨l, m, ⟨⟩⟩ := d
    exact ex_of (ann64 l m) (f64_vc l m hd) (by kernel_rfl)).met
@[reducible] def ctEqF : CT := { ps := [.sl (.sl (.int .i64)), .sl (.sl (.int .i64))], pre := fun d => d.1.length ≤ 1000000 ∧ ∀ q ∈ d.1, q.length ≤ 1000000, res := fun d => ([], vB (decide (d.1 = d.2.1))) }
@[reducible] def cl63 : List (Nat × CT) := [(64, ctSm21)]
@[reducible] def ann63 (l : List (List Int)) (m : List (List Int)) : Nat → Option (St → Ann) := fun k => match k with
  | 4 => some fun _ => .inv { α := Nat, slots := fun k => [(17, .c (.v (.int .i64 k)))], res := fun k => [], inv := fun k => k ≤ (l).length ∧ ∀ j < k, l[j]? = m[j]?, meas := fun k => (l).length - k }
  | _ => none
@[reducible] def il63 : List (Nat × IP) := []
@[reducible] def hl63 : List (Nat × Nat × CT) := []
@[reducible] def ml63 : List (Nat × MK) := []
set_option maxRecDepth 100000 in
theorem f63_vc (l : List (List Int)) (m : List (List Int)) (hpre : ctEqF.pre (l, m, ())) :
    br (!decide ((↑l.length : Int) = (↑m.length : Int))) (([] : List Go.Eng.Res) = [] ∧ Ent.one (SV.c (SC.v (Value.bool (decide (l = m))))) = Ent.one (SV.c (SC.v (Value.bool false)))) ((∃ x, (x ≤ l.length ∧ ∀ (j : Nat), j < x → l[j]? = m[j]?) ∧ (SV.c (SC.v (Value.int IntKind.i64 (0 : Int))) = SV.c (SC.v (Value.int IntKind.i64 (↑x : Int))) ∧ True) ∧ ([] : List (Go.Eng.Gd × Go.Eng.Res)) = []) ∧ ∀ (x : Nat), (x ≤ l.length ∧ ∀ (j : Nat), j < x → l[j]? = m[j]?) → br (decide ((↑x : Int) < (↑l.length : Int))) (((0 : Int) ≤ (↑x : Int) ∧ (↑x : Int) < (↑l.length : Int)) ∧ ∀ (d : List I6.den), l[(↑x : Int).toNat]? = some d → ((0 : Int) ≤ (↑x : Int) ∧ (↑x : Int) < (↑m.length : Int)) ∧ ∀ (d_1 : List I6.den), m[(↑x : Int).toNat]? = some d_1 → d.length ≤ (1000000 : Nat) ∧ br (!decide (d = d_1)) (([] : List Go.Eng.Res) = [] ∧ Ent.one (SV.c (SC.v (Value.bool (decide (l = m))))) = Ent.one (SV.c (SC.v (Value.bool false)))) (InR IntKind.i64 ((↑x : Int) + (1 : Int)) ∧ ∃ x', (x' ≤ l.length ∧ ∀ (j : Nat), j < x' → l[j]? = m[j]?) ∧ (SV.c (SC.v (Value.int IntKind.i64 ((↑x : Int) + (1 : Int)))) = SV.c (SC.v (Value.int IntKind.i64 (↑x' : Int))) ∧ True) ∧ ([] : List (Go.Eng.Gd × Go.Eng.Res)) = [] ∧ l.length - x' < l.length - x)) (([] : List Go.Eng.Res) = [] ∧ Ent.one (SV.c (SC.v (Value.bool (decide (l = m))))) = Ent.one (SV.c (SC.v (Value.bool true))))) := by
  obtain ⟨hp, h6⟩ : l.length ≤ 1000000 ∧ ∀ q ∈ l, q.length ≤ 1000000 := hpre
  have fF : l ≠ m → ([] : List Go.Eng.Res) = [] ∧ Ent.one (SV.c (SC.v (Value.bool (decide (l = m))))) = Ent.one (SV.c (SC.v (Value.bool false))) := fun q => ⟨rfl, by rw [decide_eq_false q]⟩
  refine br_iff.2 ⟨fun h => fF fun q => ?_, fun h => ?_⟩
  · subst q; simp at h
  simp only [Bool.not_eq_false', decide_eq_true_eq] at h
  refine ⟨⟨0, ⟨by omega, fun j hj => by omega⟩, ⟨rfl, trivial⟩, rfl⟩, fun k hk => br_iff.2 ⟨fun g => ?_, fun g => ?_⟩⟩
  · simp only [decide_eq_true_eq] at g
    refine ⟨⟨by omega, by omega⟩, fun d hd => ⟨⟨by omega, by omega⟩, fun d1 hd1 => ⟨h6 d (List.mem_of_getElem? hd), br_iff.2 ⟨fun g2 => fF fun q => ?_, fun g2 => ⟨InR_i64.2 (by omega), k + 1, ⟨by omega, fun j hj => ?_⟩, ⟨rfl, trivial⟩, rfl, by omega⟩⟩⟩⟩⟩
    · subst q
      rw [hd] at hd1; cases hd1
      simp at g2
    · by_cases hjk : j = k
      · subst hjk
        have hd : l[j]? = some d := hd
        have hd1 : m[j]? = some d1 := hd1
        simp at g2
        rw [hd, hd1, g2]
      · exact hk.2 j (by omega)
  simp only [decide_eq_false_iff_not] at g
  have e : l = m := by
    apply List.ext_getElem?
    intro j
    by_cases hj : j < k
    · exact hk.2 j hj
    · rw [List.getElem?_eq_none (by omega), List.getElem?_eq_none (by omega)]
  exact ⟨rfl, by rw [decide_eq_true e]⟩
set_option maxHeartbeats 2000000 in
set_option maxRecDepth 100000 in
theorem f63_metx : MetX Tryd.prog cx0.gd 63 [.func (.func 64) #[] #[]] ctEqF :=
  (met_all (cx := cx0) (n := 32) (cl := cl63) (il := il63) (hl := hl63) (ml := ml63) (rc := []) (lits := []) (suf := [.func (.func 64) #[] #[]]) (by kernel_rfl) tis_ok ⟨f64_met, trivial⟩ trivial trivial trivial Tryd.func63 (by kernel_rfl) (by kernel_rfl) rfl (by kernel_rfl) (by kernel_rfl) (by simp) fun d hd => by
    obtain ⟨l, m, ⟨⟩⟩ := d
    exact ex_of (ann63 l m) (f63_vc l m hd) (by kernel_rfl))
@[reducible] def cl39 : List (Nat × CT) := [(62, ctSm21)]
@[reducible] def ann39 (vs : List Int) (os : List Int) (qs : List (List Int)) (sg : List Int) (vs2 : List Int) (os2 : List Int) (qs2 : List (List Int)) (sg2 : List Int) : Nat → Option (St → Ann) := fun _ => none
@[reducible] def il39 : List (Nat × IP) := []
@[reducible] def hl39 : List (Nat × Nat × CT) := [(63, 64, ctEqF)]
@[reducible] def ml39 : List (Nat × MK) := []
set_option maxRecDepth 100000 in
theorem f39_vc (vs : List Int) (os : List Int) (qs : List (List Int)) (sg : List Int) (vs2 : List Int) (os2 : List Int) (qs2 : List (List Int)) (sg2 : List Int) (hpre : ctEq21.pre ((vs, os, qs, sg, ()), (vs2, os2, qs2, sg2, ()), ())) :
    vs.length ≤ (1000000 : Nat) ∧ (decide (vs = vs2) = true → os.length ≤ (1000000 : Nat)) ∧ ((decide (vs = vs2) && decide (os = os2)) = true → sg.length ≤ (1000000 : Nat)) ∧ ((decide (vs = vs2) && decide (os = os2) && decide (sg = sg2)) = true → qs.length ≤ (1000000 : Nat) ∧ ∀ (q : List I6.den), q ∈ qs → q.length ≤ (1000000 : Nat)) ∧ ([] : List Go.Eng.Res) = [] ∧ Ent.one (SV.c (SC.v (Value.bool (decide ((vs, os, qs, sg, ()) = (vs2, os2, qs2, sg2, ())))))) = Ent.one (SV.c (SC.v (Value.bool (decide (vs = vs2) && decide (os = os2) && decide (sg = sg2) && decide (qs = qs2))))) := by
  obtain ⟨b1, b2, b3, b4, b5, b6⟩ : vs.length ≤ 1000 ∧ os.length ≤ 1000 ∧ qs.length ≤ 1000 ∧ sg.length ≤ 1000 ∧ (∀ q ∈ qs, q.length ≤ 1000) ∧ qs.flatten.length ≤ 100000 := hpre
  have e : decide ((vs, os, qs, sg, ()) = (vs2, os2, qs2, sg2, ())) = (decide (vs = vs2) && decide (os = os2) && decide (sg = sg2) && decide (qs = qs2)) := by
    rw [Bool.eq_iff_iff]
    simp only [decide_eq_true_eq, Bool.and_eq_true, Prod.mk.injEq, and_true]
    constructor
    · rintro ⟨h1, h2, h3, h4⟩; exact ⟨⟨⟨h1, h2⟩, h4⟩, h3⟩
    · rintro ⟨⟨⟨h1, h2⟩, h4⟩, h3⟩; exact ⟨h1, h2, h3, h4⟩
  refine ⟨by omega, fun _ => by omega, fun _ => by omega, fun _ => ⟨by omega, fun q hq => by have := b5 q hq; omega⟩, rfl, ?_⟩
  rw [e]
set_option maxHeartbeats 2000000 in
set_option maxRecDepth 100000 in
theorem f39_met : Go.Eng.Met Tryd.prog cx0.gd 39 ctEq21 :=
  (met_all (cx := cx0) (n := 31) (cl := cl39) (il := il39) (hl := hl39) (ml := ml39) (rc := []) (lits := []) (suf := []) (by kernel_rfl) tis_ok ⟨f62_met, trivial⟩ trivial ⟨f63_metx, trivial⟩ trivial Tryd.func39 (by kernel_rfl) (by kernel_rfl) rfl (by kernel_rfl) (by kernel_rfl) (by simp) fun d hd => by
    obtain ⟨⟨vs, os, qs, sg, ⟨⟩⟩, ⟨vs2, os2, qs2, sg2, ⟨⟩⟩, ⟨⟩⟩ := d
    exact ex_of (ann39 vs os qs sg vs2 os2 qs2 sg2) (f39_vc vs os qs sg vs2 os2 qs2 sg2 hd) (by kernel_rfl)).met
theorem mutex_facts {vs os : List Int} {qs : List (List Int)} {sg : List Int} {i id other : Int} (hE : ownE (vs, os, qs, sg, ()) i id (-1) = 0) :
    (ownM (vs, os.set i.toNat id, qs, sg, ()) i other (-1) other).2 ≠ 0 ∧ (¬ other = id → (ownM (vs, os.set i.toNat id, qs, sg, ()) i other other (-1)).2 ≠ 0) ∧
    ownM (vs, os.set i.toNat id, qs, sg, ()) i id id (-1) = ((vs, os, qs, sg, ()), 0) ∧ freeM (vs, os.set i.toNat id, qs, sg, ()) i = false ∧ freeM (vs, os, qs, sg, ()) i = true := by
  obtain ⟨k0, k1, k2⟩ := ownE_zero hE
  obtain ⟨x1, x2, x3⟩ := insM_zero.1 k0
  have k2 : os[i.toNat]?.getD 0 = -1 := k2
  have x3 : i < os.length := x3
  have hn : i.toNat < os.length := by omega
  obtain ⟨q1, q2, q3, q4, q5, q6, q7, q8⟩ : vs.length ≤ 8 ∧ os.length ≤ 4 ∧ qs.length ≤ 4 ∧ SS sg ∧ (∀ v ∈ vs, valS v = true) ∧ (∀ o ∈ os, -1 ≤ o) ∧ (∀ x ∈ sg ++ qs.flatten, 0 ≤ x) ∧ (sg ++ qs.flatten).Nodup := formM_iff.1 x1
  have fA : formM (vs, os.set i.toNat id, qs, sg, ()) = true := formM_iff.2 ⟨q1, by rw [List.length_set]; exact q2, q3, q4, q5, fun o ho => by
    rcases List.mem_or_eq_of_mem_set ho with h | h
    · exact q6 o h
    · omega, q7, q8⟩
  have iA : insM (vs, os.set i.toNat id, qs, sg, ()) i (os.set i.toNat id).length = 0 := insM_zero.2 ⟨fA, x2, by rw [List.length_set]; exact x3⟩
  have gA : (os.set i.toNat id)[i.toNat]?.getD 0 = id := by rw [List.getElem?_set_self hn]; rfl
  have s2 : (os.set i.toNat id).set i.toNat (-1) = os := by
    rw [List.set_set]
    apply List.ext_getElem?
    intro j
    by_cases hj : i.toNat = j
    · subst hj
      rw [List.getElem?_set_self hn, List.getElem?_eq_getElem hn] 
      rw [List.getElem?_eq_getElem hn] at k2
      exact congrArg some k2.symm
    · rw [List.getElem?_set_ne hj]
  refine ⟨?_, fun hne => ?_, ?_, ?_, ?_⟩
  · unfold ownM
    rw [if_pos iA]
    split
    · decide
    · rw [show (vs, os.set i.toNat id, qs, sg, ()).2.1[i.toNat]?.getD 0 = id from gA, if_neg (by omega)]; decide
  · unfold ownM
    rw [if_pos iA]
    split
    · decide
    · rw [show (vs, os.set i.toNat id, qs, sg, ()).2.1[i.toNat]?.getD 0 = id from gA, if_neg (fun h => hne h.symm)]; decide
  · unfold ownM
    rw [if_pos iA, if_neg k1, if_pos gA]
    show ((vs, (os.set i.toNat id).set i.toNat (-1), qs, sg, ()), (0 : Int)) = _
    rw [s2]
  · unfold freeM
    rw [show (vs, os.set i.toNat id, qs, sg, ()).2.1[i.toNat]?.getD 0 = id from gA, decide_eq_false (show ¬ id = -1 by omega), Bool.and_false]
  · unfold freeM
    rw [decide_eq_true k0, decide_eq_true (show (vs, os, qs, sg, ()).2.1[i.toNat]?.getD 0 = -1 from k2)]; rfl
@[reducible] def ctL9 : CT := { ps := [.pair shM (.pair (.int .i64) (.pair (.int .i64) (.pair (.int .i64) .unit)))], pre := fun d => True, res := fun d => ([], vB (true)) }
@[reducible] noncomputable def cl9 : List (Nat × CT) := [(11, ctFew), (12, ctExa), (30, ctAcq), (32, ctRel), (34, ctFr), (39, ctEq21)]
@[reducible] def ann9 (vs : List Int) (os : List Int) (qs : List (List Int)) (sg : List Int) (i : Int) (id : Int) (other : Int) : Nat → Option (St → Ann) := fun _ => none
@[reducible] def il9 : List (Nat × IP) := []
@[reducible] def hl9 : List (Nat × Nat × CT) := []
@[reducible] noncomputable def ml9 : List (Nat × MK) := []
set_option maxRecDepth 100000 in
theorem f9_vc (vs : List Int) (os : List Int) (qs : List (List Int)) (sg : List Int) (i : Int) (id : Int) (other : Int) :
    True ∧ br (!fewM (vs, os, qs, sg, ())) (True ∧ ([] : List Go.Eng.Res) = [] ∧ Ent.one (SV.c (SC.v (Value.bool true))) = Ent.one (SV.c (SC.v (Value.bool true)))) (bndM (vs, os, qs, sg, ()) ∧ br (!decide ((ownM (vs, os, qs, sg, ()) i id (-1 : Int) id).snd = (0 : Int))) (True ∧ ([] : List Go.Eng.Res) = [] ∧ Ent.one (SV.c (SC.v (Value.bool true))) = Ent.one (SV.c (SC.v (Value.bool true)))) (bndM ((ownM (vs, os, qs, sg, ()) i id (-1 : Int) id).fst.fst, (ownM (vs, os, qs, sg, ()) i id (-1 : Int) id).fst.snd.fst, (ownM (vs, os, qs, sg, ()) i id (-1 : Int) id).fst.snd.snd.fst, (ownM (vs, os, qs, sg, ()) i id (-1 : Int) id).fst.snd.snd.snd.fst, ()) ∧ bndM ((ownM (vs, os, qs, sg, ()) i id (-1 : Int) id).fst.fst, (ownM (vs, os, qs, sg, ()) i id (-1 : Int) id).fst.snd.fst, (ownM (vs, os, qs, sg, ()) i id (-1 : Int) id).fst.snd.snd.fst, (ownM (vs, os, qs, sg, ()) i id (-1 : Int) id).fst.snd.snd.snd.fst, ()) ∧ bndM ((ownM (vs, os, qs, sg, ()) i id (-1 : Int) id).fst.fst, (ownM (vs, os, qs, sg, ()) i id (-1 : Int) id).fst.snd.fst, (ownM (vs, os, qs, sg, ()) i id (-1 : Int) id).fst.snd.snd.fst, (ownM (vs, os, qs, sg, ()) i id (-1 : Int) id).fst.snd.snd.snd.fst, ()) ∧ bndM ((ownM (vs, os, qs, sg, ()) i id (-1 : Int) id).fst.fst, (ownM (vs, os, qs, sg, ()) i id (-1 : Int) id).fst.snd.fst, (ownM (vs, os, qs, sg, ()) i id (-1 : Int) id).fst.snd.snd.fst, (ownM (vs, os, qs, sg, ()) i id (-1 : Int) id).fst.snd.snd.snd.fst, ()) ∧ ((!freeM ((ownM (vs, os, qs, sg, ()) i id (-1 : Int) id).fst.fst, (ownM (vs, os, qs, sg, ()) i id (-1 : Int) id).fst.snd.fst, (ownM (vs, os, qs, sg, ()) i id (-1 : Int) id).fst.snd.snd.fst, (ownM (vs, os, qs, sg, ()) i id (-1 : Int) id).fst.snd.snd.snd.fst, ()) i) = true → bndM (vs, os, qs, sg, ())) ∧ br (freeM ((ownM (vs, os, qs, sg, ()) i id (-1 : Int) id).fst.fst, (ownM (vs, os, qs, sg, ()) i id (-1 : Int) id).fst.snd.fst, (ownM (vs, os, qs, sg, ()) i id (-1 : Int) id).fst.snd.snd.fst, (ownM (vs, os, qs, sg, ()) i id (-1 : Int) id).fst.snd.snd.snd.fst, ()) i || !freeM (vs, os, qs, sg, ()) i || decide ((ownM ((ownM (vs, os, qs, sg, ()) i id (-1 : Int) id).fst.fst, (ownM (vs, os, qs, sg, ()) i id (-1 : Int) id).fst.snd.fst, (ownM (vs, os, qs, sg, ()) i id (-1 : Int) id).fst.snd.snd.fst, (ownM (vs, os, qs, sg, ()) i id (-1 : Int) id).fst.snd.snd.snd.fst, ()) i other (-1 : Int) other).snd = (0 : Int)) || !decide (other = id) && decide ((ownM ((ownM (vs, os, qs, sg, ()) i id (-1 : Int) id).fst.fst, (ownM (vs, os, qs, sg, ()) i id (-1 : Int) id).fst.snd.fst, (ownM (vs, os, qs, sg, ()) i id (-1 : Int) id).fst.snd.snd.fst, (ownM (vs, os, qs, sg, ()) i id (-1 : Int) id).fst.snd.snd.snd.fst, ()) i other other (-1 : Int)).snd = (0 : Int))) (([] : List Go.Eng.Res) = [] ∧ Ent.one (SV.c (SC.v (Value.bool true))) = Ent.one (SV.c (SC.v (Value.bool false)))) ((decide ((ownM ((ownM (vs, os, qs, sg, ()) i id (-1 : Int) id).fst.fst, (ownM (vs, os, qs, sg, ()) i id (-1 : Int) id).fst.snd.fst, (ownM (vs, os, qs, sg, ()) i id (-1 : Int) id).fst.snd.snd.fst, (ownM (vs, os, qs, sg, ()) i id (-1 : Int) id).fst.snd.snd.snd.fst, ()) i id id (-1 : Int)).snd = (0 : Int)) = true → bndM ((ownM ((ownM (vs, os, qs, sg, ()) i id (-1 : Int) id).fst.fst, (ownM (vs, os, qs, sg, ()) i id (-1 : Int) id).fst.snd.fst, (ownM (vs, os, qs, sg, ()) i id (-1 : Int) id).fst.snd.snd.fst, (ownM (vs, os, qs, sg, ()) i id (-1 : Int) id).fst.snd.snd.snd.fst, ()) i id id (-1 : Int)).fst.fst, (ownM ((ownM (vs, os, qs, sg, ()) i id (-1 : Int) id).fst.fst, (ownM (vs, os, qs, sg, ()) i id (-1 : Int) id).fst.snd.fst, (ownM (vs, os, qs, sg, ()) i id (-1 : Int) id).fst.snd.snd.fst, (ownM (vs, os, qs, sg, ()) i id (-1 : Int) id).fst.snd.snd.snd.fst, ()) i id id (-1 : Int)).fst.snd.fst, (ownM ((ownM (vs, os, qs, sg, ()) i id (-1 : Int) id).fst.fst, (ownM (vs, os, qs, sg, ()) i id (-1 : Int) id).fst.snd.fst, (ownM (vs, os, qs, sg, ()) i id (-1 : Int) id).fst.snd.snd.fst, (ownM (vs, os, qs, sg, ()) i id (-1 : Int) id).fst.snd.snd.snd.fst, ()) i id id (-1 : Int)).fst.snd.snd.fst, (ownM ((ownM (vs, os, qs, sg, ()) i id (-1 : Int) id).fst.fst, (ownM (vs, os, qs, sg, ()) i id (-1 : Int) id).fst.snd.fst, (ownM (vs, os, qs, sg, ()) i id (-1 : Int) id).fst.snd.snd.fst, (ownM (vs, os, qs, sg, ()) i id (-1 : Int) id).fst.snd.snd.snd.fst, ()) i id id (-1 : Int)).fst.snd.snd.snd.fst, ())) ∧ ((decide ((ownM ((ownM (vs, os, qs, sg, ()) i id (-1 : Int) id).fst.fst, (ownM (vs, os, qs, sg, ()) i id (-1 : Int) id).fst.snd.fst, (ownM (vs, os, qs, sg, ()) i id (-1 : Int) id).fst.snd.snd.fst, (ownM (vs, os, qs, sg, ()) i id (-1 : Int) id).fst.snd.snd.snd.fst, ()) i id id (-1 : Int)).snd = (0 : Int)) && decide (((ownM ((ownM (vs, os, qs, sg, ()) i id (-1 : Int) id).fst.fst, (ownM (vs, os, qs, sg, ()) i id (-1 : Int) id).fst.snd.fst, (ownM (vs, os, qs, sg, ()) i id (-1 : Int) id).fst.snd.snd.fst, (ownM (vs, os, qs, sg, ()) i id (-1 : Int) id).fst.snd.snd.snd.fst, ()) i id id (-1 : Int)).fst.fst, (ownM ((ownM (vs, os, qs, sg, ()) i id (-1 : Int) id).fst.fst, (ownM (vs, os, qs, sg, ()) i id (-1 : Int) id).fst.snd.fst, (ownM (vs, os, qs, sg, ()) i id (-1 : Int) id).fst.snd.snd.fst, (ownM (vs, os, qs, sg, ()) i id (-1 : Int) id).fst.snd.snd.snd.fst, ()) i id id (-1 : Int)).fst.snd.fst, (ownM ((ownM (vs, os, qs, sg, ()) i id (-1 : Int) id).fst.fst, (ownM (vs, os, qs, sg, ()) i id (-1 : Int) id).fst.snd.fst, (ownM (vs, os, qs, sg, ()) i id (-1 : Int) id).fst.snd.snd.fst, (ownM (vs, os, qs, sg, ()) i id (-1 : Int) id).fst.snd.snd.snd.fst, ()) i id id (-1 : Int)).fst.snd.snd.fst, (ownM ((ownM (vs, os, qs, sg, ()) i id (-1 : Int) id).fst.fst, (ownM (vs, os, qs, sg, ()) i id (-1 : Int) id).fst.snd.fst, (ownM (vs, os, qs, sg, ()) i id (-1 : Int) id).fst.snd.snd.fst, (ownM (vs, os, qs, sg, ()) i id (-1 : Int) id).fst.snd.snd.snd.fst, ()) i id id (-1 : Int)).fst.snd.snd.snd.fst, ()) = (vs, os, qs, sg, ()))) = true → True) ∧ ([] : List Go.Eng.Res) = [] ∧ Ent.one (SV.c (SC.v (Value.bool true))) = Ent.one (SV.c (SC.v (Value.bool (decide ((ownM ((ownM (vs, os, qs, sg, ()) i id (-1 : Int) id).fst.fst, (ownM (vs, os, qs, sg, ()) i id (-1 : Int) id).fst.snd.fst, (ownM (vs, os, qs, sg, ()) i id (-1 : Int) id).fst.snd.snd.fst, (ownM (vs, os, qs, sg, ()) i id (-1 : Int) id).fst.snd.snd.snd.fst, ()) i id id (-1 : Int)).snd = (0 : Int)) && decide (((ownM ((ownM (vs, os, qs, sg, ()) i id (-1 : Int) id).fst.fst, (ownM (vs, os, qs, sg, ()) i id (-1 : Int) id).fst.snd.fst, (ownM (vs, os, qs, sg, ()) i id (-1 : Int) id).fst.snd.snd.fst, (ownM (vs, os, qs, sg, ()) i id (-1 : Int) id).fst.snd.snd.snd.fst, ()) i id id (-1 : Int)).fst.fst, (ownM ((ownM (vs, os, qs, sg, ()) i id (-1 : Int) id).fst.fst, (ownM (vs, os, qs, sg, ()) i id (-1 : Int) id).fst.snd.fst, (ownM (vs, os, qs, sg, ()) i id (-1 : Int) id).fst.snd.snd.fst, (ownM (vs, os, qs, sg, ()) i id (-1 : Int) id).fst.snd.snd.snd.fst, ()) i id id (-1 : Int)).fst.snd.fst, (ownM ((ownM (vs, os, qs, sg, ()) i id (-1 : Int) id).fst.fst, (ownM (vs, os, qs, sg, ()) i id (-1 : Int) id).fst.snd.fst, (ownM (vs, os, qs, sg, ()) i id (-1 : Int) id).fst.snd.snd.fst, (ownM (vs, os, qs, sg, ()) i id (-1 : Int) id).fst.snd.snd.snd.fst, ()) i id id (-1 : Int)).fst.snd.snd.fst, (ownM ((ownM (vs, os, qs, sg, ()) i id (-1 : Int) id).fst.fst, (ownM (vs, os, qs, sg, ()) i id (-1 : Int) id).fst.snd.fst, (ownM (vs, os, qs, sg, ()) i id (-1 : Int) id).fst.snd.snd.fst, (ownM (vs, os, qs, sg, ()) i id (-1 : Int) id).fst.snd.snd.snd.fst, ()) i id id (-1 : Int)).fst.snd.snd.snd.fst, ()) = (vs, os, qs, sg, ())) && true))))))) := by
  refine ⟨trivial, br_iff.2 ⟨fun _ => ⟨trivial, rfl, rfl⟩, fun h => ?_⟩⟩
  have hb : bndM (vs, os, qs, sg, ()) := few_bnd (by simpa using h)
  refine ⟨hb, br_iff.2 ⟨fun _ => ⟨trivial, rfl, rfl⟩, fun h0 => ?_⟩⟩
  have h0 : (ownM (vs, os, qs, sg, ()) i id (-1) id).2 = 0 := by simpa using h0
  have hE : ownE (vs, os, qs, sg, ()) i id (-1) = 0 := by
    refine Classical.byContradiction fun q => ?_
    rw [ownM_bad q] at h0; exact q h0
  have eX : ownM (vs, os, qs, sg, ()) i id (-1) id = ((vs, os.set i.toNat id, qs, sg, ()), 0) := ownM_ok hE
  have ba : bndM (vs, os.set i.toNat id, qs, sg, ()) := by
    have := own_bnd (i := i) (id := id) (frm := -1) (to := id) hb
    rw [eX] at this; exact this
  obtain ⟨e2, e3, e4, e5, e6⟩ := mutex_facts (other := other) hE
  rw [eX]
  refine ⟨ba, ba, ba, ba, fun _ => hb, br_iff.2 ⟨fun g => ?_, fun g => ⟨fun _ => own_bnd ba, fun _ => trivial, rfl, ?_⟩⟩⟩
  · have g : (freeM (vs, os.set i.toNat id, qs, sg, ()) i || !freeM (vs, os, qs, sg, ()) i || decide ((ownM (vs, os.set i.toNat id, qs, sg, ()) i other (-1) other).2 = 0) || !decide (other = id) && decide ((ownM (vs, os.set i.toNat id, qs, sg, ()) i other other (-1)).2 = 0)) = true := g
    rw [e5, e6, decide_eq_false e2] at g
    simp at g
    exact absurd g.2 (e3 g.1)
  · have e : (decide ((ownM (vs, os.set i.toNat id, qs, sg, ()) i id id (-1)).2 = 0) && decide ((ownM (vs, os.set i.toNat id, qs, sg, ()) i id id (-1)).1 = (vs, os, qs, sg, ())) && true) = true := by rw [e4]; simp
    exact congrArg (fun b => Ent.one (SV.c (SC.v (Value.bool b)))) e.symm
set_option maxHeartbeats 2000000 in
set_option maxRecDepth 100000 in
theorem f9_met : Go.Eng.Met Tryd.prog cx0.gd 9 ctL9 :=
  (met_all (cx := cx0) (n := 90) (cl := cl9) (il := il9) (hl := hl9) (ml := ml9) (rc := []) (lits := []) (suf := []) (by kernel_rfl) tis_ok ⟨f11_met, f12_met, f30_met, f32_met, f34_met, f39_met, trivial⟩ trivial trivial trivial Tryd.func9 (by kernel_rfl) (by kernel_rfl) rfl (by kernel_rfl) (by kernel_rfl) (by simp) fun d hd => by
    obtain ⟨⟨⟨vs, os, qs, sg, ⟨⟩⟩, i, id, other, ⟨⟩⟩, ⟨⟩⟩ := d
    exact ex_of (ann9 vs os qs sg i id other) (f9_vc vs os qs sg i id other) (by kernel_rfl)).met
end Go.Proofs.YtkgjfkdcnoockaaDoor
set_option linter.unusedSimpArgs false
set_option linter.unusedVariables false
set_option maxRecDepth 100000
namespace Go.Proofs.YtkgjfkdcnoockaaDoor
open Go Go.Eng

theorem adds_ss : ∀ (l sg : List Int), SS sg → SS (addsI sg l) ∧ ∀ y, y ∈ addsI sg l ↔ y ∈ sg ∨ y ∈ l
  | [], sg, h => ⟨h, fun y => by simp [addsI]⟩
  | x :: l, sg, h => by
    have ih := adds_ss l (makeI (sg ++ [x])) (make_ss _)
    have e : addsI sg (x :: l) = addsI (makeI (sg ++ [x])) l := rfl
    rw [e]
    refine ⟨ih.1, fun y => ?_⟩
    rw [ih.2 y, make_mem]
    simp [or_assoc]
theorem adds_make {sg : List Int} (h : SS sg) (l : List Int) : addsI sg l = makeI (sg ++ l) :=
  ss_ext (adds_ss l sg h).1 (make_ss _) fun y => by rw [(adds_ss l sg h).2 y, make_mem, List.mem_append]
def mostM (qs : List (List Int)) : Int := qs.foldl (fun a q => maxI a q.length) 0
theorem most_take {qs : List (List Int)} {k : Nat} {d : List Int} (h : qs[k]? = some d) : mostM (qs.take (k + 1)) = maxI (mostM (qs.take k)) d.length := by
  unfold mostM
  rw [List.take_add_one, h]; simp
theorem most_ge : ∀ (qs : List (List Int)) (a : Int), a ≤ qs.foldl (fun a q => maxI a (q.length : Int)) a ∧ ∀ q ∈ qs, (q.length : Int) ≤ qs.foldl (fun a q => maxI a (q.length : Int)) a
  | [], a => ⟨Int.le_refl _, fun q hq => by cases hq⟩
  | x :: qs, a => by
    have ih := most_ge qs (maxI a x.length)
    have h : a ≤ maxI a x.length ∧ (x.length : Int) ≤ maxI a x.length := by unfold maxI; split <;> omega
    refine ⟨Int.le_trans h.1 ih.1, fun q hq => ?_⟩
    rcases List.mem_cons.1 hq with rfl | hq
    · exact Int.le_trans h.2 ih.1
    · exact ih.2 q hq
def wovM (m : MD) (c n : Int) : MD := (m.1, m.2.1, m.2.2.1.set c.toNat ((m.2.2.1[c.toNat]?.getD []).drop n.toNat), makeI (m.2.2.2.1 ++ (m.2.2.1[c.toNat]?.getD []).take n.toNat), ())
theorem wk_wov {m : MD} {c n : Int} (h : insM m c m.2.2.1.length = 0) : wkM m c n = (wovM m c (minI n ((m.2.2.1[c.toNat]?.getD []).length : Int)), minI n ((m.2.2.1[c.toNat]?.getD []).length : Int), 0) := by
  have hs : SS m.2.2.2.1 := (formM_iff.1 (insM_zero.1 h).1).2.2.2.1
  unfold wkM wovM
  rw [if_pos h, adds_make hs]
@[reducible] noncomputable def ctBro : CT := { ps := [shM, .int .i64], pre := fun d => bndM d.1, res := fun d => ([], .tup [.agg [.sl (.int .i64) ((wkM d.1 d.2.1 (mostM d.1.2.2.1)).1).1, .sl (.int .i64) ((wkM d.1 d.2.1 (mostM d.1.2.2.1)).1).2.1, .sl (.sl (.int .i64)) ((wkM d.1 d.2.1 (mostM d.1.2.2.1)).1).2.2.1, .sl (.int .i64) ((wkM d.1 d.2.1 (mostM d.1.2.2.1)).1).2.2.2.1], .c (.v (.int .i64 ((wkM d.1 d.2.1 (mostM d.1.2.2.1)).2.1))), .c (.v (.int .i64 ((wkM d.1 d.2.1 (mostM d.1.2.2.1)).2.2)))]) }
@[reducible] noncomputable def cl22 : List (Nat × CT) := [(52, ctWks)]
@[reducible] def ann22 (vs : List Int) (os : List Int) (qs : List (List Int)) (sg : List Int) (c : Int) : Nat → Option (St → Ann) := fun k => match k with
  | 3 => some fun _ => .inv { α := Nat, slots := fun k => [(13, .c (.v (.int .i64 k))), (7, .c (.v (.int .i64 (mostM (qs.take k)))))], res := fun k => [], inv := fun k => k ≤ (qs).length, meas := fun k => (qs).length - k }
  | _ => none
@[reducible] def il22 : List (Nat × IP) := []
@[reducible] def hl22 : List (Nat × Nat × CT) := []
@[reducible] noncomputable def ml22 : List (Nat × MK) := []
set_option maxRecDepth 100000 in
theorem f22_vc (vs : List Int) (os : List Int) (qs : List (List Int)) (sg : List Int) (c : Int) (hpre : ctBro.pre ((vs, os, qs, sg, ()), c, ())) :
    (∃ x, x ≤ qs.length ∧ (SV.c (SC.v (Value.int IntKind.i64 (0 : Int))) = SV.c (SC.v (Value.int IntKind.i64 (↑x : Int))) ∧ SV.c (SC.v (Value.int IntKind.i64 (0 : Int))) = SV.c (SC.v (Value.int IntKind.i64 (mostM (List.take x qs)))) ∧ True) ∧ [(([] : Go.Eng.Gd), bM6 vs os qs sg), (([] : Go.Eng.Gd), zM6)] = [(([] : Go.Eng.Gd), bM6 vs os qs sg), (([] : Go.Eng.Gd), zM6)]) ∧ ∀ (x : Nat), x ≤ qs.length → br (decide ((↑x : Int) < (↑qs.length : Int))) (((0 : Int) ≤ (↑x : Int) ∧ (↑x : Int) < (↑qs.length : Int)) ∧ ∀ (d : List I6.den), qs[(↑x : Int).toNat]? = some d → InR IntKind.i64 ((↑x : Int) + (1 : Int)) ∧ ∃ x', x' ≤ qs.length ∧ (SV.c (SC.v (Value.int IntKind.i64 ((↑x : Int) + (1 : Int)))) = SV.c (SC.v (Value.int IntKind.i64 (↑x' : Int))) ∧ SV.c (SC.v (Value.int IntKind.i64 (maxI (mostM (List.take x qs)) (↑d.length : Int)))) = SV.c (SC.v (Value.int IntKind.i64 (mostM (List.take x' qs)))) ∧ True) ∧ [(([] : Go.Eng.Gd), bM6 vs os qs sg), (([] : Go.Eng.Gd), zM6)] = [(([] : Go.Eng.Gd), bM6 vs os qs sg), (([] : Go.Eng.Gd), zM6)] ∧ qs.length - x' < qs.length - x) ((bndM (vs, os, qs, sg, ()) ∧ (0 : I6.den) ≤ mostM (List.take x qs)) ∧ ([] : List Go.Eng.Res) = [] ∧ Ent.tup [SV.agg [SC.sl I6 (wkM (vs, os, qs, sg, ()) c (mostM qs)).fst.fst, SC.sl I6 (wkM (vs, os, qs, sg, ()) c (mostM qs)).fst.snd.fst, SC.sl I6.sl (wkM (vs, os, qs, sg, ()) c (mostM qs)).fst.snd.snd.fst, SC.sl I6 (wkM (vs, os, qs, sg, ()) c (mostM qs)).fst.snd.snd.snd.fst], SV.c (SC.v (Value.int IntKind.i64 (wkM (vs, os, qs, sg, ()) c (mostM qs)).snd.fst)), SV.c (SC.v (Value.int IntKind.i64 (wkM (vs, os, qs, sg, ()) c (mostM qs)).snd.snd))] = Ent.tup [SV.agg [SC.sl I6 ((wkM (vs, os, qs, sg, ()) c (mostM (List.take x qs))).fst.fst, (wkM (vs, os, qs, sg, ()) c (mostM (List.take x qs))).fst.snd.fst, (wkM (vs, os, qs, sg, ()) c (mostM (List.take x qs))).fst.snd.snd.fst, (wkM (vs, os, qs, sg, ()) c (mostM (List.take x qs))).fst.snd.snd.snd.fst, ()).fst, SC.sl I6 ((wkM (vs, os, qs, sg, ()) c (mostM (List.take x qs))).fst.snd.fst, (wkM (vs, os, qs, sg, ()) c (mostM (List.take x qs))).fst.snd.snd.fst, (wkM (vs, os, qs, sg, ()) c (mostM (List.take x qs))).fst.snd.snd.snd.fst, ()).fst, SC.sl I6.sl ((wkM (vs, os, qs, sg, ()) c (mostM (List.take x qs))).fst.snd.snd.fst, (wkM (vs, os, qs, sg, ()) c (mostM (List.take x qs))).fst.snd.snd.snd.fst, ()).fst, SC.sl I6 (wkM (vs, os, qs, sg, ()) c (mostM (List.take x qs))).fst.snd.snd.snd.fst], SV.c (SC.v (Value.int IntKind.i64 (wkM (vs, os, qs, sg, ()) c (mostM (List.take x qs))).snd.fst)), SV.c (SC.v (Value.int IntKind.i64 (wkM (vs, os, qs, sg, ()) c (mostM (List.take x qs))).snd.snd))]) := by
  have hb := hpre
  obtain ⟨b1, b2, b3, b4, b5, b6⟩ : vs.length ≤ 1000 ∧ os.length ≤ 1000 ∧ qs.length ≤ 1000 ∧ sg.length ≤ 1000 ∧ (∀ q ∈ qs, q.length ≤ 1000) ∧ qs.flatten.length ≤ 100000 := hpre
  refine ⟨⟨0, by omega, ⟨rfl, rfl, trivial⟩, rfl⟩, fun k hk => br_iff.2 ⟨fun g => ?_, fun g => ?_⟩⟩
  · simp only [decide_eq_true_eq] at g
    refine ⟨⟨by omega, by omega⟩, fun d hd => ⟨InR_i64.2 (by omega), k + 1, by omega, ⟨rfl, ?_, trivial⟩, rfl, by omega⟩⟩
    have hd : qs[k]? = some d := hd
    rw [most_take hd]
  simp only [decide_eq_false_iff_not] at g
  rw [List.take_of_length_le (i := k) (by omega)]
  exact ⟨⟨hb, (most_ge qs 0).1⟩, rfl, rfl⟩
set_option maxHeartbeats 2000000 in
set_option maxRecDepth 100000 in
theorem f22_met : Go.Eng.Met Tryd.prog cx0.gd 22 ctBro :=
  (met_all (cx := cx0) (n := 29) (cl := cl22) (il := il22) (hl := hl22) (ml := ml22) (rc := [.data shM, .keep, .keep]) (lits := []) (suf := []) (by kernel_rfl) tis_ok ⟨f52_met, trivial⟩ trivial trivial trivial Tryd.func22 (by kernel_rfl) (by kernel_rfl) rfl (by kernel_rfl) (by kernel_rfl) (by simp) fun d hd => by
    obtain ⟨⟨vs, os, qs, sg, ⟨⟩⟩, c, ⟨⟩⟩ := d
    exact ex_of (ann22 vs os qs sg c) (f22_vc vs os qs sg c hd) (by kernel_rfl)).met
end Go.Proofs.YtkgjfkdcnoockaaDoor
set_option linter.unusedSimpArgs false
set_option linter.unusedVariables false
set_option maxRecDepth 100000
namespace Go.Proofs.YtkgjfkdcnoockaaDoor
open Go Go.Eng

theorem flat_set : ∀ (qs : List (List Int)) (k : Nat) (o : List Int), qs[k]? = some [] → ((qs.set k o).flatten).Perm (o ++ qs.flatten)
  | [], k, o, h => by simp at h
  | q :: qs, 0, o, h => by
    simp only [List.getElem?_cons_zero, Option.some.injEq] at h; subst h
    simp
  | q :: qs, k + 1, o, h => by
    rw [List.getElem?_cons_succ] at h
    have := flat_set qs k o h
    simp only [List.set_cons_succ, List.flatten_cons]
    exact (this.append_left q).trans (List.perm_append_comm_assoc q o qs.flatten)
theorem gb {vs os : List Int} {qs : List (List Int)} {sg : List Int} (h1 : vs.length ≤ 20) (h2 : os.length ≤ 20) (h3 : qs.length ≤ 20) (h4 : sg.length ≤ 100) (h5 : ∀ q ∈ qs, q.length ≤ 60) : bndM (vs, os, qs, sg, ()) := by
  have key : ∀ l : List (List Int), (∀ q ∈ l, q.length ≤ 60) → l.flatten.length ≤ 60 * l.length := by
    intro l
    induction l with
    | nil => intro _; simp
    | cons a l ih =>
      intro hl
      have := ih fun q hq => hl q (by simp [hq])
      have := hl a (by simp)
      simp only [List.flatten_cons, List.length_append, List.length_cons]; omega
  have h6 := key qs h5
  exact ⟨by show vs.length ≤ 1000; omega, by show os.length ≤ 1000; omega, by show qs.length ≤ 1000; omega, by show sg.length ≤ 1000; omega, fun q hq => by have := h5 q hq; omega, by show qs.flatten.length ≤ 100000; omega⟩
theorem form_set {vs os : List Int} {qs : List (List Int)} {sg : List Int} (hB : formM (vs, os, qs, sg, ()) = true) {k : Nat} (hk : qs[k]? = some []) (o s : List Int) :
    formM (vs, os, qs.set k o, s, ()) = true ↔ SS s ∧ (∀ x ∈ s ++ (o ++ qs.flatten), 0 ≤ x) ∧ (s ++ (o ++ qs.flatten)).Nodup := by
  obtain ⟨q1, q2, q3, _, q5, q6, _, _⟩ : vs.length ≤ 8 ∧ os.length ≤ 4 ∧ qs.length ≤ 4 ∧ SS sg ∧ (∀ v ∈ vs, valS v = true) ∧ (∀ o ∈ os, -1 ≤ o) ∧ (∀ x ∈ sg ++ qs.flatten, 0 ≤ x) ∧ (sg ++ qs.flatten).Nodup := formM_iff.1 hB
  have hp : (s ++ (qs.set k o).flatten).Perm (s ++ (o ++ qs.flatten)) := (flat_set qs k o hk).append_left s
  rw [formM_iff]
  constructor
  · intro h
    obtain ⟨_, _, _, p4, _, _, p7, p8⟩ : vs.length ≤ 8 ∧ os.length ≤ 4 ∧ (qs.set k o).length ≤ 4 ∧ SS s ∧ (∀ v ∈ vs, valS v = true) ∧ (∀ o ∈ os, -1 ≤ o) ∧ (∀ x ∈ s ++ (qs.set k o).flatten, 0 ≤ x) ∧ (s ++ (qs.set k o).flatten).Nodup := h
    exact ⟨p4, fun x hx => p7 x (hp.mem_iff.2 hx), hp.nodup_iff.1 p8⟩
  · rintro ⟨p4, p7, p8⟩
    exact (⟨q1, q2, by rw [List.length_set]; exact q3, p4, q5, q6, fun x hx => p7 x (hp.mem_iff.1 hx), hp.nodup_iff.2 p8⟩ : FormM (vs, os, qs.set k o, s, ()))
theorem enq_step {vs os : List Int} {qs : List (List Int)} {sg : List Int} (hB : formM (vs, os, qs, sg, ()) = true) {c d : Int} (hk : qs[c.toNat]? = some []) {o : List Int} (hN : formM (vs, os, qs.set c.toNat o, sg, ()) = true) (h : (enqM (vs, os, qs.set c.toNat o, sg, ()) c d).2 = 0) :
    enqM (vs, os, qs.set c.toNat o, sg, ()) c d = ((vs, os, qs.set c.toNat (o ++ [d]), sg, ()), 0) ∧ formM (vs, os, qs.set c.toNat (o ++ [d]), sg, ()) = true := by
  have hkl : c.toNat < qs.length := (List.getElem?_eq_some_iff.1 hk).1
  have eo : (qs.set c.toNat o)[c.toNat]?.getD [] = o := by rw [List.getElem?_set_self hkl]; rfl
  unfold enqM at h ⊢
  split at h
  · rename_i h0
    split at h
    · cases h
    · rename_i h1
      split at h
      · cases h
      · rename_i h2
        rw [if_pos h0, if_neg h1, if_neg h2]
        refine ⟨?_, ?_⟩
        · show ((vs, os, (qs.set c.toNat o).set c.toNat ((qs.set c.toNat o)[c.toNat]?.getD [] ++ [d]), sg, ()), (0 : Int)) = _
          rw [eo, List.set_set]
        · obtain ⟨p4, p7, p8⟩ := (form_set hB hk o sg).1 hN
          rw [form_set hB hk]
          have hd : d ∉ sg ++ (o ++ qs.flatten) := by
            intro hm
            apply h2
            have hm2 : d ∈ sg ++ (qs.set c.toNat o).flatten := ((flat_set qs _ o hk).append_left sg).mem_iff.2 hm
            unfold waitsM
            rw [Bool.or_eq_true, List.any_eq_true]
            rcases List.mem_append.1 hm2 with hm2 | hm2
            · exact .inr (hasI_iff.2 hm2)
            · obtain ⟨q, hq, hdq⟩ := List.mem_flatten.1 hm2
              exact .inl ⟨q, hq, hasI_iff.2 hdq⟩
          have hp : (sg ++ (o ++ [d] ++ qs.flatten)).Perm (d :: (sg ++ (o ++ qs.flatten))) := by
            have e : sg ++ (o ++ [d] ++ qs.flatten) = (sg ++ o) ++ d :: qs.flatten := by simp
            have e2 : sg ++ (o ++ qs.flatten) = (sg ++ o) ++ qs.flatten := by simp
            rw [e, e2]
            exact List.perm_middle
          refine ⟨p4, fun x hx => ?_, hp.nodup_iff.2 (List.nodup_cons.2 ⟨hd, p8⟩)⟩
          rcases List.mem_cons.1 (hp.mem_iff.1 hx) with rfl | hx
          · omega
          · exact p7 x hx
  · rename_i h0; exact absurd h h0
theorem sig_form {vs os : List Int} {qs : List (List Int)} {sg : List Int} (hB : formM (vs, os, qs, sg, ()) = true) {k : Nat} (hk : qs[k]? = some []) {o : List Int} (hN : formM (vs, os, qs.set k o, sg, ()) = true) (j : Nat) :
    formM (vs, os, qs.set k (o.drop j), addsI sg (o.take j), ()) = true := by
  obtain ⟨p4, p7, p8⟩ := (form_set hB hk o sg).1 hN
  obtain ⟨a1, a2⟩ := adds_ss (o.take j) sg p4
  have e : sg ++ (o ++ qs.flatten) = (sg ++ o.take j) ++ (o.drop j ++ qs.flatten) := by
    rw [List.append_assoc, ← List.append_assoc (o.take j) (o.drop j), List.take_append_drop]
  rw [e] at p7 p8
  have hn : (sg ++ o.take j).Nodup := (List.nodup_append.1 p8).1
  have hp : (addsI sg (o.take j)).Perm (sg ++ o.take j) := (List.perm_ext_iff_of_nodup (a1.imp fun h => by omega) hn).2 fun x => by rw [a2 x, List.mem_append]
  have hp2 := hp.append_right (o.drop j ++ qs.flatten)
  rw [form_set hB hk]
  exact ⟨a1, fun x hx => p7 x (hp2.mem_iff.1 hx), hp2.nodup_iff.2 p8⟩
theorem wk_now {vs os : List Int} {qs : List (List Int)} {sg : List Int} (hB : formM (vs, os, qs, sg, ()) = true) {c n : Int} (hc : 0 ≤ c) (hk : qs[c.toNat]? = some []) {o : List Int} (hN : formM (vs, os, qs.set c.toNat o, sg, ()) = true) (j p : Nat) (hp : minI n ((o.drop j).length : Int) = (p : Int)) :
    wkM (vs, os, qs.set c.toNat (o.drop j), addsI sg (o.take j), ()) c n = ((vs, os, qs.set c.toNat (o.drop (j + p)), addsI sg (o.take (j + p)), ()), (p : Int), 0) := by
  have hkl : c.toNat < qs.length := (List.getElem?_eq_some_iff.1 hk).1
  have eo : (qs.set c.toNat (o.drop j))[c.toNat]?.getD [] = o.drop j := by rw [List.getElem?_set_self hkl]; rfl
  have h0 : insM (vs, os, qs.set c.toNat (o.drop j), addsI sg (o.take j), ()) c (qs.set c.toNat (o.drop j)).length = 0 := insM_zero.2 ⟨sig_form hB hk hN j, hc, by rw [List.length_set]; omega⟩
  unfold wkM
  rw [if_pos h0]
  show ((vs, os, (qs.set c.toNat (o.drop j)).set c.toNat (((qs.set c.toNat (o.drop j))[c.toNat]?.getD []).drop (minI n (((qs.set c.toNat (o.drop j))[c.toNat]?.getD []).length : Int)).toNat), addsI (addsI sg (o.take j)) (((qs.set c.toNat (o.drop j))[c.toNat]?.getD []).take (minI n (((qs.set c.toNat (o.drop j))[c.toNat]?.getD []).length : Int)).toNat), ()), minI n (((qs.set c.toNat (o.drop j))[c.toNat]?.getD []).length : Int), (0 : Int)) = _
  rw [eo, hp, List.set_set, List.drop_drop, Int.toNat_natCast, List.take_add]
  unfold addsI
  rw [List.foldl_append]
@[reducible] def ctrAddF : CT := { ps := [.sl (.int .i64), .int .i64], pre := fun d => d.1.length ≤ 999999, res := fun d => ([], .one (.c (.sl (.int .i64) (makeI (d.1 ++ [d.2.1]))))) }
theorem frAddF_met : Go.Eng.Met Tryd.prog cx0.gd 42 ctrAddF := met_frz f42_met
@[reducible] def ctL8 : CT := { ps := [shM, .int .i64, .sl (.int .i64)], pre := fun d => True, res := fun d => ([], vB (true)) }
@[reducible] noncomputable def cl8 : List (Nat × CT) := [(11, ctFew), (40, ctWf), (12, ctExa), (18, ctEnq), (22, ctBro), (20, ctSig), (39, ctEq21), (41, ct13), (42, ctrAddF)]
@[reducible] def ann8 (vs : List Int) (os : List Int) (qs : List (List Int)) (sg : List Int) (c : Int) (ids : List Int) : Nat → Option (St → Ann) := fun k => match k with
  | 6 => some fun s => .inv { α := Nat × List Int, nil := [(8, 3, .int .i64)], slots := fun u => [(62, .c (.v (.int .i64 u.1))), (8, .c (.row 2))], res := fun u => [(1, .blk 31 [.sl (.int .i64) vs, .sl (.int .i64) os, .sl (.sl (.int .i64)) (qs.set c.toNat u.2), .sl (.int .i64) (sg)]), (2, .row 3 (.int .i64) (u.2))], inv := fun u => u.1 ≤ ids.length ∧ u.2.length ≤ u.1 ∧ formM (vs, os, qs.set c.toNat u.2, sg, ()) = true, meas := fun u => ids.length - u.1 }
  | 18 => some fun s => .inv { α := Nat, frzI := [2], slots := fun k => [(117, .c (.v (.int .i64 k))), (16, .c (.sl (.int .i64) (addsI sg ((slotL (.int .i64) s 115).take k))))], res := fun k => [(1, .blk 31 [.sl (.int .i64) vs, .sl (.int .i64) os, .sl (.sl (.int .i64)) (qs.set c.toNat ((slotL (.int .i64) s 115).drop k)), .sl (.int .i64) (addsI sg ((slotL (.int .i64) s 115).take k))])], inv := fun k => k ≤ (slotL (.int .i64) s 115).length, meas := fun k => (slotL (.int .i64) s 115).length - k }
  | _ => none
@[reducible] def il8 : List (Nat × IP) := []
@[reducible] def hl8 : List (Nat × Nat × CT) := []
@[reducible] noncomputable def ml8 : List (Nat × MK) := []
set_option maxRecDepth 100000 in
theorem f8_vc (vs : List Int) (os : List Int) (qs : List (List Int)) (sg : List Int) (c : Int) (ids : List Int) :
    True ∧ ((!(!fewM (vs, os, qs, sg, ()) || decide ((10 : Int) < (↑ids.length : Int)))) = true → bndM (vs, os, qs, sg, ())) ∧ ((!(!fewM (vs, os, qs, sg, ()) || decide ((10 : Int) < (↑ids.length : Int)) || !formM (vs, os, qs, sg, ()) || decide (c < (0 : Int)) || decide ((↑qs.length : Int) ≤ c))) = true → (0 : Int) ≤ c ∧ c < (↑qs.length : Int)) ∧ ∀ (d : List I6.den), ((!(!fewM (vs, os, qs, sg, ()) || decide ((10 : Int) < (↑ids.length : Int)) || !formM (vs, os, qs, sg, ()) || decide (c < (0 : Int)) || decide ((↑qs.length : Int) ≤ c))) = true → qs[c.toNat]? = some d) → br (!fewM (vs, os, qs, sg, ()) || decide ((10 : Int) < (↑ids.length : Int)) || !formM (vs, os, qs, sg, ()) || decide (c < (0 : Int)) || decide ((↑qs.length : Int) ≤ c) || decide ((0 : Int) < (↑d.length : Int))) (True ∧ ([] : List Go.Eng.Res) = [] ∧ Ent.one (SV.c (SC.v (Value.bool true))) = Ent.one (SV.c (SC.v (Value.bool true)))) ((∃ (x : Nat × List Int), (x.fst ≤ ids.length ∧ x.snd.length ≤ x.fst ∧ formM (vs, os, qs.set c.toNat x.snd, sg, ()) = true) ∧ (SV.c (SC.v (Value.int IntKind.i64 (0 : Int))) = SV.c (SC.v (Value.int IntKind.i64 (↑x.fst : Int))) ∧ SV.c (SC.row (Nat.succ (0 : Nat)).succ) = SV.c (SC.row (2 : Nat)) ∧ True) ∧ [(([] : Go.Eng.Gd), bM6 vs os qs sg), (([] : Go.Eng.Gd), bM6 vs os qs sg), (([] : Go.Eng.Gd), Res.row (3 : TypeId) I6 [])] = [(([] : Go.Eng.Gd), bM6 vs os qs sg), (([] : Go.Eng.Gd), Res.blk (31 : TypeId) [SC.sl I6 vs, SC.sl I6 os, SC.sl I6.sl (qs.set c.toNat x.snd), SC.sl I6 sg]), (([] : Go.Eng.Gd), Res.row (3 : TypeId) I6 x.snd)]) ∧ ∀ (x : Nat × List Int), x.fst ≤ ids.length ∧ x.snd.length ≤ x.fst ∧ formM (vs, os, qs.set c.toNat x.snd, sg, ()) = true → br (decide ((↑x.fst : Int) < (↑ids.length : Int))) (((0 : Int) ≤ (↑x.fst : Int) ∧ (↑x.fst : Int) < (↑ids.length : Int)) ∧ ∀ (d : Int), ids[(↑x.fst : Int).toNat]? = some d → bndM (vs, os, qs.set c.toNat x.snd, sg, ()) ∧ br (decide ((enqM (vs, os, qs.set c.toNat x.snd, sg, ()) c d).snd = (0 : Int))) (InA (List.length (x.snd) + List.length ([d])) (8 : Nat) ∧ InR IntKind.i64 ((↑x.fst : Int) + (1 : Int)) ∧ ∃ (x' : Nat × List Int), (x'.fst ≤ ids.length ∧ x'.snd.length ≤ x'.fst ∧ formM (vs, os, qs.set c.toNat x'.snd, sg, ()) = true) ∧ (SV.c (SC.v (Value.int IntKind.i64 ((↑x.fst : Int) + (1 : Int)))) = SV.c (SC.v (Value.int IntKind.i64 (↑x'.fst : Int))) ∧ SV.c (SC.row (2 : Nat)) = SV.c (SC.row (2 : Nat)) ∧ True) ∧ [(([] : Go.Eng.Gd), bM6 vs os qs sg), (([] : Go.Eng.Gd), Res.blk (31 : TypeId) [SC.sl I6 (enqM (vs, os, qs.set c.toNat x.snd, sg, ()) c d).fst.fst, SC.sl I6 (enqM (vs, os, qs.set c.toNat x.snd, sg, ()) c d).fst.snd.fst, SC.sl I6.sl (enqM (vs, os, qs.set c.toNat x.snd, sg, ()) c d).fst.snd.snd.fst, SC.sl I6 (enqM (vs, os, qs.set c.toNat x.snd, sg, ()) c d).fst.snd.snd.snd.fst]), (([] : Go.Eng.Gd), Res.row (3 : TypeId) I6 (x.snd ++ [d]))] = [(([] : Go.Eng.Gd), bM6 vs os qs sg), (([] : Go.Eng.Gd), Res.blk (31 : TypeId) [SC.sl I6 vs, SC.sl I6 os, SC.sl I6.sl (qs.set c.toNat x'.snd), SC.sl I6 sg]), (([] : Go.Eng.Gd), Res.row (3 : TypeId) I6 x'.snd)] ∧ ids.length - x'.fst < ids.length - x.fst) (InR IntKind.i64 ((↑x.fst : Int) + (1 : Int)) ∧ ∃ (x' : Nat × List Int), (x'.fst ≤ ids.length ∧ x'.snd.length ≤ x'.fst ∧ formM (vs, os, qs.set c.toNat x'.snd, sg, ()) = true) ∧ (SV.c (SC.v (Value.int IntKind.i64 ((↑x.fst : Int) + (1 : Int)))) = SV.c (SC.v (Value.int IntKind.i64 (↑x'.fst : Int))) ∧ SV.c (SC.row (2 : Nat)) = SV.c (SC.row (2 : Nat)) ∧ True) ∧ [(([] : Go.Eng.Gd), bM6 vs os qs sg), (([] : Go.Eng.Gd), Res.blk (31 : TypeId) [SC.sl I6 vs, SC.sl I6 os, SC.sl I6.sl (qs.set c.toNat x.snd), SC.sl I6 sg]), (([] : Go.Eng.Gd), Res.row (3 : TypeId) I6 x.snd)] = [(([] : Go.Eng.Gd), bM6 vs os qs sg), (([] : Go.Eng.Gd), Res.blk (31 : TypeId) [SC.sl I6 vs, SC.sl I6 os, SC.sl I6.sl (qs.set c.toNat x'.snd), SC.sl I6 sg]), (([] : Go.Eng.Gd), Res.row (3 : TypeId) I6 x'.snd)] ∧ ids.length - x'.fst < ids.length - x.fst)) (bndM (vs, os, qs.set c.toNat x.snd, sg, ()) ∧ ((!(!decide ((wkM (vs, os, qs.set c.toNat x.snd, sg, ()) c (mostM (qs.set c.toNat x.snd))).snd.snd = (0 : Int)) || !decide ((wkM (vs, os, qs.set c.toNat x.snd, sg, ()) c (mostM (qs.set c.toNat x.snd))).snd.fst = (↑x.snd.length : Int)) || decide ((↑(qs.set c.toNat x.snd).length : Int) ≤ c))) = true → (0 : Int) ≤ c ∧ c < (↑(qs.set c.toNat x.snd).length : Int)) ∧ ∀ (d_1 : List I6.den), ((!(!decide ((wkM (vs, os, qs.set c.toNat x.snd, sg, ()) c (mostM (qs.set c.toNat x.snd))).snd.snd = (0 : Int)) || !decide ((wkM (vs, os, qs.set c.toNat x.snd, sg, ()) c (mostM (qs.set c.toNat x.snd))).snd.fst = (↑x.snd.length : Int)) || decide ((↑(qs.set c.toNat x.snd).length : Int) ≤ c))) = true → (qs.set c.toNat x.snd)[c.toNat]? = some d_1) → ((!(!decide ((wkM (vs, os, qs.set c.toNat x.snd, sg, ()) c (mostM (qs.set c.toNat x.snd))).snd.snd = (0 : Int)) || !decide ((wkM (vs, os, qs.set c.toNat x.snd, sg, ()) c (mostM (qs.set c.toNat x.snd))).snd.fst = (↑x.snd.length : Int)) || decide ((↑(qs.set c.toNat x.snd).length : Int) ≤ c))) = true → d_1.length ≤ (4611686018427387904 : Nat)) ∧ br (!decide ((wkM (vs, os, qs.set c.toNat x.snd, sg, ()) c (mostM (qs.set c.toNat x.snd))).snd.snd = (0 : Int)) || !decide ((wkM (vs, os, qs.set c.toNat x.snd, sg, ()) c (mostM (qs.set c.toNat x.snd))).snd.fst = (↑x.snd.length : Int)) || decide ((↑(qs.set c.toNat x.snd).length : Int) ≤ c) || !decide (d_1 = x.snd)) (([] : List Go.Eng.Res) = [] ∧ Ent.one (SV.c (SC.v (Value.bool true))) = Ent.one (SV.c (SC.v (Value.bool false)))) ((∃ x_1, x_1 ≤ List.length (x.snd) ∧ (SV.c (SC.v (Value.int IntKind.i64 (0 : Int))) = SV.c (SC.v (Value.int IntKind.i64 (↑x_1 : Int))) ∧ SV.c (SC.sl I6 sg) = SV.c (SC.sl I6 (addsI sg (List.take x_1 (x.snd)))) ∧ True) ∧ [(([] : Go.Eng.Gd), bM6 vs os qs sg), (([] : Go.Eng.Gd), Res.blk (31 : TypeId) [SC.sl I6 vs, SC.sl I6 os, SC.sl I6.sl (qs.set c.toNat x.snd), SC.sl I6 sg]), (([] : Go.Eng.Gd), Res.gone), (([] : Go.Eng.Gd), Res.blk (31 : Nat) [SC.sl I6 (wkM (vs, os, qs.set c.toNat x.snd, sg, ()) c (mostM (qs.set c.toNat x.snd))).fst.fst, SC.sl I6 (wkM (vs, os, qs.set c.toNat x.snd, sg, ()) c (mostM (qs.set c.toNat x.snd))).fst.snd.fst, SC.sl I6.sl (wkM (vs, os, qs.set c.toNat x.snd, sg, ()) c (mostM (qs.set c.toNat x.snd))).fst.snd.snd.fst, SC.sl I6 (wkM (vs, os, qs.set c.toNat x.snd, sg, ()) c (mostM (qs.set c.toNat x.snd))).fst.snd.snd.snd.fst])] = [(([] : Go.Eng.Gd), bM6 vs os qs sg), (([] : Go.Eng.Gd), Res.blk (31 : TypeId) [SC.sl I6 vs, SC.sl I6 os, SC.sl I6.sl (qs.set c.toNat (List.drop x_1 (x.snd))), SC.sl I6 (addsI sg (List.take x_1 (x.snd)))]), (([] : Go.Eng.Gd), Res.gone), (([] : Go.Eng.Gd), Res.blk (31 : Nat) [SC.sl I6 (wkM (vs, os, qs.set c.toNat x.snd, sg, ()) c (mostM (qs.set c.toNat x.snd))).fst.fst, SC.sl I6 (wkM (vs, os, qs.set c.toNat x.snd, sg, ()) c (mostM (qs.set c.toNat x.snd))).fst.snd.fst, SC.sl I6.sl (wkM (vs, os, qs.set c.toNat x.snd, sg, ()) c (mostM (qs.set c.toNat x.snd))).fst.snd.snd.fst, SC.sl I6 (wkM (vs, os, qs.set c.toNat x.snd, sg, ()) c (mostM (qs.set c.toNat x.snd))).fst.snd.snd.snd.fst])]) ∧ ∀ (x_1 : Nat), x_1 ≤ List.length (x.snd) → br (decide ((↑x_1 : Int) < (↑x.snd.length : Int))) (((0 : Int) ≤ (↑x_1 : Int) ∧ (↑x_1 : Int) < (↑x.snd.length : Int)) ∧ ∀ (d_2 : Int), x.snd[(↑x_1 : Int).toNat]? = some d_2 → bndM (vs, os, qs.set c.toNat (List.drop x_1 (x.snd)), addsI sg (List.take x_1 (x.snd)), ()) ∧ (addsI sg (List.take x_1 (x.snd))).length ≤ (999999 : Nat) ∧ ((!(!decide ((wkM (vs, os, qs.set c.toNat (List.drop x_1 (x.snd)), addsI sg (List.take x_1 (x.snd)), ()) c (1 : Int)).snd.snd = (0 : Int)) || !decide ((wkM (vs, os, qs.set c.toNat (List.drop x_1 (x.snd)), addsI sg (List.take x_1 (x.snd)), ()) c (1 : Int)).snd.fst = (1 : Int)))) = true → List.length ((wkM (vs, os, qs.set c.toNat (List.drop x_1 (x.snd)), addsI sg (List.take x_1 (x.snd)), ()) c (1 : Int)).fst.snd.snd.snd.fst, makeI (addsI sg (List.take x_1 (x.snd)) ++ [d_2]), ()).fst ≤ (4611686018427387904 : Nat)) ∧ br (!decide ((wkM (vs, os, qs.set c.toNat (List.drop x_1 (x.snd)), addsI sg (List.take x_1 (x.snd)), ()) c (1 : Int)).snd.snd = (0 : Int)) || !decide ((wkM (vs, os, qs.set c.toNat (List.drop x_1 (x.snd)), addsI sg (List.take x_1 (x.snd)), ()) c (1 : Int)).snd.fst = (1 : Int)) || !decide (((wkM (vs, os, qs.set c.toNat (List.drop x_1 (x.snd)), addsI sg (List.take x_1 (x.snd)), ()) c (1 : Int)).fst.snd.snd.snd.fst, makeI (addsI sg (List.take x_1 (x.snd)) ++ [d_2]), ()).fst = makeI (addsI sg (List.take x_1 (x.snd)) ++ [d_2]))) (([] : List Go.Eng.Res) = [] ∧ Ent.one (SV.c (SC.v (Value.bool true))) = Ent.one (SV.c (SC.v (Value.bool false)))) (InR IntKind.i64 ((↑x_1 : Int) + (1 : Int)) ∧ ∃ x', x' ≤ List.length (x.snd) ∧ (SV.c (SC.v (Value.int IntKind.i64 ((↑x_1 : Int) + (1 : Int)))) = SV.c (SC.v (Value.int IntKind.i64 (↑x' : Int))) ∧ SV.c (SC.sl I6 (makeI (addsI sg (List.take x_1 (x.snd)) ++ [d_2]))) = SV.c (SC.sl I6 (addsI sg (List.take x' (x.snd)))) ∧ True) ∧ [(([] : Go.Eng.Gd), bM6 vs os qs sg), (([] : Go.Eng.Gd), Res.blk (31 : TypeId) [SC.sl I6 (wkM (vs, os, qs.set c.toNat (List.drop x_1 (x.snd)), addsI sg (List.take x_1 (x.snd)), ()) c (1 : Int)).fst.fst, SC.sl I6 (wkM (vs, os, qs.set c.toNat (List.drop x_1 (x.snd)), addsI sg (List.take x_1 (x.snd)), ()) c (1 : Int)).fst.snd.fst, SC.sl I6.sl (wkM (vs, os, qs.set c.toNat (List.drop x_1 (x.snd)), addsI sg (List.take x_1 (x.snd)), ()) c (1 : Int)).fst.snd.snd.fst, SC.sl I6 (wkM (vs, os, qs.set c.toNat (List.drop x_1 (x.snd)), addsI sg (List.take x_1 (x.snd)), ()) c (1 : Int)).fst.snd.snd.snd.fst]), (([] : Go.Eng.Gd), Res.gone), (([] : Go.Eng.Gd), Res.blk (31 : Nat) [SC.sl I6 (wkM (vs, os, qs.set c.toNat x.snd, sg, ()) c (mostM (qs.set c.toNat x.snd))).fst.fst, SC.sl I6 (wkM (vs, os, qs.set c.toNat x.snd, sg, ()) c (mostM (qs.set c.toNat x.snd))).fst.snd.fst, SC.sl I6.sl (wkM (vs, os, qs.set c.toNat x.snd, sg, ()) c (mostM (qs.set c.toNat x.snd))).fst.snd.snd.fst, SC.sl I6 (wkM (vs, os, qs.set c.toNat x.snd, sg, ()) c (mostM (qs.set c.toNat x.snd))).fst.snd.snd.snd.fst])] = [(([] : Go.Eng.Gd), bM6 vs os qs sg), (([] : Go.Eng.Gd), Res.blk (31 : TypeId) [SC.sl I6 vs, SC.sl I6 os, SC.sl I6.sl (qs.set c.toNat (List.drop x' (x.snd))), SC.sl I6 (addsI sg (List.take x' (x.snd)))]), (([] : Go.Eng.Gd), Res.gone), (([] : Go.Eng.Gd), Res.blk (31 : Nat) [SC.sl I6 (wkM (vs, os, qs.set c.toNat x.snd, sg, ()) c (mostM (qs.set c.toNat x.snd))).fst.fst, SC.sl I6 (wkM (vs, os, qs.set c.toNat x.snd, sg, ()) c (mostM (qs.set c.toNat x.snd))).fst.snd.fst, SC.sl I6.sl (wkM (vs, os, qs.set c.toNat x.snd, sg, ()) c (mostM (qs.set c.toNat x.snd))).fst.snd.snd.fst, SC.sl I6 (wkM (vs, os, qs.set c.toNat x.snd, sg, ()) c (mostM (qs.set c.toNat x.snd))).fst.snd.snd.snd.fst])] ∧ List.length (x.snd) - x' < List.length (x.snd) - x_1)) (bndM (vs, os, qs.set c.toNat (List.drop x_1 (x.snd)), addsI sg (List.take x_1 (x.snd)), ()) ∧ ((decide ((wkM (vs, os, qs.set c.toNat (List.drop x_1 (x.snd)), addsI sg (List.take x_1 (x.snd)), ()) c (1 : Int)).snd.snd = (0 : Int)) && decide ((wkM (vs, os, qs.set c.toNat (List.drop x_1 (x.snd)), addsI sg (List.take x_1 (x.snd)), ()) c (1 : Int)).snd.fst = (0 : Int))) = true → bndM ((wkM (vs, os, qs.set c.toNat (List.drop x_1 (x.snd)), addsI sg (List.take x_1 (x.snd)), ()) c (1 : Int)).fst.fst, (wkM (vs, os, qs.set c.toNat (List.drop x_1 (x.snd)), addsI sg (List.take x_1 (x.snd)), ()) c (1 : Int)).fst.snd.fst, (wkM (vs, os, qs.set c.toNat (List.drop x_1 (x.snd)), addsI sg (List.take x_1 (x.snd)), ()) c (1 : Int)).fst.snd.snd.fst, (wkM (vs, os, qs.set c.toNat (List.drop x_1 (x.snd)), addsI sg (List.take x_1 (x.snd)), ()) c (1 : Int)).fst.snd.snd.snd.fst, ())) ∧ ((decide ((wkM (vs, os, qs.set c.toNat (List.drop x_1 (x.snd)), addsI sg (List.take x_1 (x.snd)), ()) c (1 : Int)).snd.snd = (0 : Int)) && decide ((wkM (vs, os, qs.set c.toNat (List.drop x_1 (x.snd)), addsI sg (List.take x_1 (x.snd)), ()) c (1 : Int)).snd.fst = (0 : Int)) && decide (((wkM (vs, os, qs.set c.toNat (List.drop x_1 (x.snd)), addsI sg (List.take x_1 (x.snd)), ()) c (1 : Int)).fst.fst, (wkM (vs, os, qs.set c.toNat (List.drop x_1 (x.snd)), addsI sg (List.take x_1 (x.snd)), ()) c (1 : Int)).fst.snd.fst, (wkM (vs, os, qs.set c.toNat (List.drop x_1 (x.snd)), addsI sg (List.take x_1 (x.snd)), ()) c (1 : Int)).fst.snd.snd.fst, (wkM (vs, os, qs.set c.toNat (List.drop x_1 (x.snd)), addsI sg (List.take x_1 (x.snd)), ()) c (1 : Int)).fst.snd.snd.snd.fst, ()) = (vs, os, qs.set c.toNat (List.drop x_1 (x.snd)), addsI sg (List.take x_1 (x.snd)), ()))) = true → bndM (vs, os, qs.set c.toNat (List.drop x_1 (x.snd)), addsI sg (List.take x_1 (x.snd)), ())) ∧ ((decide ((wkM (vs, os, qs.set c.toNat (List.drop x_1 (x.snd)), addsI sg (List.take x_1 (x.snd)), ()) c (1 : Int)).snd.snd = (0 : Int)) && decide ((wkM (vs, os, qs.set c.toNat (List.drop x_1 (x.snd)), addsI sg (List.take x_1 (x.snd)), ()) c (1 : Int)).snd.fst = (0 : Int)) && decide (((wkM (vs, os, qs.set c.toNat (List.drop x_1 (x.snd)), addsI sg (List.take x_1 (x.snd)), ()) c (1 : Int)).fst.fst, (wkM (vs, os, qs.set c.toNat (List.drop x_1 (x.snd)), addsI sg (List.take x_1 (x.snd)), ()) c (1 : Int)).fst.snd.fst, (wkM (vs, os, qs.set c.toNat (List.drop x_1 (x.snd)), addsI sg (List.take x_1 (x.snd)), ()) c (1 : Int)).fst.snd.snd.fst, (wkM (vs, os, qs.set c.toNat (List.drop x_1 (x.snd)), addsI sg (List.take x_1 (x.snd)), ()) c (1 : Int)).fst.snd.snd.snd.fst, ()) = (vs, os, qs.set c.toNat (List.drop x_1 (x.snd)), addsI sg (List.take x_1 (x.snd)), ())) && decide ((vs, os, qs.set c.toNat (List.drop x_1 (x.snd)), addsI sg (List.take x_1 (x.snd)), ()) = ((wkM (vs, os, qs.set c.toNat x.snd, sg, ()) c (mostM (qs.set c.toNat x.snd))).fst.fst, (wkM (vs, os, qs.set c.toNat x.snd, sg, ()) c (mostM (qs.set c.toNat x.snd))).fst.snd.fst, (wkM (vs, os, qs.set c.toNat x.snd, sg, ()) c (mostM (qs.set c.toNat x.snd))).fst.snd.snd.fst, (wkM (vs, os, qs.set c.toNat x.snd, sg, ()) c (mostM (qs.set c.toNat x.snd))).fst.snd.snd.snd.fst, ()))) = true → True) ∧ ([] : List Go.Eng.Res) = [] ∧ Ent.one (SV.c (SC.v (Value.bool true))) = Ent.one (SV.c (SC.v (Value.bool (decide ((wkM (vs, os, qs.set c.toNat (List.drop x_1 (x.snd)), addsI sg (List.take x_1 (x.snd)), ()) c (1 : Int)).snd.snd = (0 : Int)) && decide ((wkM (vs, os, qs.set c.toNat (List.drop x_1 (x.snd)), addsI sg (List.take x_1 (x.snd)), ()) c (1 : Int)).snd.fst = (0 : Int)) && decide (((wkM (vs, os, qs.set c.toNat (List.drop x_1 (x.snd)), addsI sg (List.take x_1 (x.snd)), ()) c (1 : Int)).fst.fst, (wkM (vs, os, qs.set c.toNat (List.drop x_1 (x.snd)), addsI sg (List.take x_1 (x.snd)), ()) c (1 : Int)).fst.snd.fst, (wkM (vs, os, qs.set c.toNat (List.drop x_1 (x.snd)), addsI sg (List.take x_1 (x.snd)), ()) c (1 : Int)).fst.snd.snd.fst, (wkM (vs, os, qs.set c.toNat (List.drop x_1 (x.snd)), addsI sg (List.take x_1 (x.snd)), ()) c (1 : Int)).fst.snd.snd.snd.fst, ()) = (vs, os, qs.set c.toNat (List.drop x_1 (x.snd)), addsI sg (List.take x_1 (x.snd)), ())) && decide ((vs, os, qs.set c.toNat (List.drop x_1 (x.snd)), addsI sg (List.take x_1 (x.snd)), ()) = ((wkM (vs, os, qs.set c.toNat x.snd, sg, ()) c (mostM (qs.set c.toNat x.snd))).fst.fst, (wkM (vs, os, qs.set c.toNat x.snd, sg, ()) c (mostM (qs.set c.toNat x.snd))).fst.snd.fst, (wkM (vs, os, qs.set c.toNat x.snd, sg, ()) c (mostM (qs.set c.toNat x.snd))).fst.snd.snd.fst, (wkM (vs, os, qs.set c.toNat x.snd, sg, ()) c (mostM (qs.set c.toNat x.snd))).fst.snd.snd.snd.fst, ())) && true)))))))) := by
  refine ⟨trivial, fun h => ?_, fun h => ?_, fun d hd => br_iff.2 ⟨fun _ => ⟨trivial, rfl, rfl⟩, fun h => ?_⟩⟩
  · exact few_bnd (by simp at h; exact h.1)
  · simp at h; omega
  simp only [Bool.or_eq_false_iff, Bool.not_eq_false', decide_eq_false_iff_not] at h
  obtain ⟨⟨⟨⟨⟨f1, f2⟩, f3⟩, f4⟩, f5⟩, f6⟩ := h
  have hd := hd (by rw [f1, f3, decide_eq_false f2, decide_eq_false f4, decide_eq_false f5]; rfl)
  have hk : qs[c.toNat]? = some [] := by
    have : d = [] := List.length_eq_zero_iff.1 (by omega)
    rw [hd, this]
  have hkl : c.toNat < qs.length := (List.getElem?_eq_some_iff.1 hk).1
  have f4' : 0 ≤ c := by omega
  unfold fewM at f1
  simp only [Bool.and_eq_true, List.all_eq_true, decide_eq_true_eq] at f1
  obtain ⟨⟨⟨⟨l1, l2⟩, l3⟩, l4⟩, l5⟩ := f1
  have es : qs.set c.toNat [] = qs := by
    apply List.ext_getElem?
    intro j
    by_cases hj : c.toNat = j
    · subst hj; rw [List.getElem?_set_self hkl, hk]
    · rw [List.getElem?_set_ne hj]
  have bN : ∀ o s : List Int, o.length ≤ 10 → s.length ≤ 100 → bndM (vs, os, qs.set c.toNat o, s, ()) := fun o s h1 h2 => gb l1 l2 (by rw [List.length_set]; exact l3) h2 fun q hq => by
    rcases List.mem_or_eq_of_mem_set hq with h | h
    · exact l5 q h
    · subst h; omega
  have sl : ∀ o : List Int, o.length ≤ 10 → ∀ j, (addsI sg (o.take j)).length ≤ 100 := fun o ho j => by
    have := addsI_len (o.take j) sg
    rw [List.length_take] at this
    have : sg.length ≤ 60 := l4
    omega
  refine ⟨⟨(0, []), ⟨Nat.zero_le _, Nat.le_refl _, by rw [es]; exact f3⟩, ⟨rfl, rfl, trivial⟩, by rw [es]⟩, fun x hx => br_iff.2 ⟨fun g => ?_, fun g => ?_⟩⟩
  · obtain ⟨x1, x2, x3⟩ := hx
    simp only [decide_eq_true_eq] at g
    refine ⟨⟨by omega, by omega⟩, fun id hid => ⟨bN _ _ (by omega) (by have : sg.length ≤ 60 := l4; omega), br_iff.2 ⟨fun g2 => ?_, fun g2 => ?_⟩⟩⟩
    · obtain ⟨e1, e2⟩ := enq_step f3 hk x3 (by simpa using g2)
      rw [e1]
      refine ⟨InA_iff.2 (by simp only [List.length_cons, List.length_nil]; omega), InR_i64.2 (by omega), (x.1 + 1, x.2 ++ [id]), ⟨by show x.1 + 1 ≤ _; omega, by show (x.2 ++ [id]).length ≤ x.1 + 1; rw [List.length_append]; simp; omega, e2⟩, ⟨rfl, rfl, trivial⟩, rfl, by show ids.length - (x.1 + 1) < _; omega⟩
    · exact ⟨InR_i64.2 (by omega), (x.1 + 1, x.2), ⟨by show x.1 + 1 ≤ _; omega, by show x.2.length ≤ x.1 + 1; omega, x3⟩, ⟨rfl, rfl, trivial⟩, rfl, by show ids.length - (x.1 + 1) < _; omega⟩
  obtain ⟨x1, x2, x3⟩ := hx
  have xl : x.2.length ≤ 10 := by omega
  have sg60 : sg.length ≤ 60 := l4
  have w0 : wkM (vs, os, qs.set c.toNat x.2, sg, ()) c (mostM (qs.set c.toNat x.2)) = ((vs, os, qs.set c.toNat (x.2.drop x.2.length), addsI sg (x.2.take x.2.length), ()), (x.2.length : Int), 0) := by
    have := wk_now (n := mostM (qs.set c.toNat x.2)) f3 f4' hk x3 0 x.2.length (by
      have := (most_ge (qs.set c.toNat x.2) 0).2 x.2 (List.mem_of_getElem? (List.getElem?_set_self hkl))
      rw [List.drop_zero]
      unfold minI mostM
      split <;> omega)
    rw [Nat.zero_add] at this
    exact this
  rw [w0]
  have c1 : (!(!decide ((0 : Int) = 0) || !decide ((x.2.length : Int) = (x.2.length : Int)) || decide (((qs.set c.toNat x.2).length : Int) ≤ c))) = true := by
    rw [List.length_set, decide_eq_false (show ¬ (qs.length : Int) ≤ c by omega)]; simp
  refine ⟨bN _ _ xl (by omega), fun _ => ⟨f4', by rw [List.length_set]; omega⟩, fun d1 hd1 => ?_⟩
  have hd1 : (qs.set c.toNat x.2)[c.toNat]? = some d1 := hd1 c1
  rw [List.getElem?_set_self hkl] at hd1
  cases hd1
  refine ⟨fun _ => by omega, br_iff.2 ⟨fun q => ?_, fun q => ?_⟩⟩
  · rw [List.length_set, decide_eq_false (show ¬ (qs.length : Int) ≤ c by omega)] at q
    simp at q
  refine ⟨⟨0, by omega, ⟨rfl, rfl, trivial⟩, rfl⟩, fun j hj => br_iff.2 ⟨fun g3 => ?_, fun g3 => ?_⟩⟩
  · simp only [decide_eq_true_eq] at g3
    have w1 := wk_now (n := 1) f3 f4' hk x3 j 1 (by rw [List.length_drop]; unfold minI; split <;> omega)
    refine ⟨⟨by omega, by omega⟩, fun id hid => ?_⟩
    rw [w1]
    have hid : x.2[j]? = some id := hid
    have ea : makeI (addsI sg (x.2.take j) ++ [id]) = addsI sg (x.2.take (j + 1)) := (addsI_take hid).symm
    rw [ea]
    have s1 := sl x.2 xl j
    have s2 := sl x.2 xl (j + 1)
    refine ⟨bN _ _ (by rw [List.length_drop]; omega) s1, by omega, fun _ => Nat.le_trans s2 (by omega), br_iff.2 ⟨fun q => ?_, fun q => ⟨InR_i64.2 (by omega), j + 1, by omega, ⟨rfl, rfl, trivial⟩, rfl, by omega⟩⟩⟩
    simp at q
  simp only [decide_eq_false_iff_not] at g3
  have ej : j = x.2.length := by omega
  subst ej
  have w2 := wk_now (n := 1) f3 f4' hk x3 x.2.length 0 (by rw [List.length_drop]; unfold minI; split <;> omega)
  rw [Nat.add_zero] at w2
  rw [w2]
  have b2 : bndM (vs, os, qs.set c.toNat (x.2.drop x.2.length), addsI sg (x.2.take x.2.length), ()) := bN _ _ (by rw [List.length_drop]; omega) (sl x.2 xl _)
  refine ⟨b2, fun _ => b2, fun _ => b2, fun _ => trivial, rfl, ?_⟩
  simp
set_option maxHeartbeats 2000000 in
set_option maxRecDepth 100000 in
theorem f8_met : Go.Eng.Met Tryd.prog cx0.gd 8 ctL8 :=
  (met_all (cx := cx0) (n := 172) (cl := cl8) (il := il8) (hl := hl8) (ml := ml8) (rc := []) (lits := []) (suf := []) (by kernel_rfl) tis_ok ⟨f11_met, f40_met, f12_met, f18_met, f22_met, f20_met, f39_met, f41_met, frAddF_met, trivial⟩ trivial trivial trivial Tryd.func8 (by kernel_rfl) (by kernel_rfl) rfl (by kernel_rfl) (by kernel_rfl) (by simp) fun d hd => by
    obtain ⟨⟨vs, os, qs, sg, ⟨⟩⟩, c, ids, ⟨⟩⟩ := d
    exact ex_of (ann8 vs os qs sg c ids) (f8_vc vs os qs sg c ids) (by kernel_rfl)).met
end Go.Proofs.YtkgjfkdcnoockaaDoor
set_option linter.unusedSimpArgs false
set_option linter.unusedVariables false
set_option maxRecDepth 1000000
namespace Go.Proofs.YtkgjfkdcnoockaaDoor
open Go Go.Eng Go.ChangeShapes Go.WideShapes Go.ChangeAt Go.RowKit
theorem own : ownKnob Tryd.prog.godebug = none := by kernel_rfl
theorem laidOut : laidOutB Tryd.prog = true := by kernel_rfl
theorem rowed : mapsRowed Tryd.prog = true := by kernel_rfl
theorem full : ∀ t e, t < Tryd.prog.types.size → Tryd.prog.underlying t = some (.slice e) → 0 < Tryd.prog.cellsOf e := slices_full_of _ (by kernel_rfl)
theorem gname0 : Tryd.prog.globalNamed "modelcheck/inst.rows" = some 0 := by kernel_rfl
theorem gtype0 : (Tryd.prog.globals[0]?).map (·.type) = some 118 := by kernel_rfl
theorem gsok0 : (SOK Tryd.prog (.arr 22 (.pair .str (.pair (.arr 7 .bool) .unit)))).1 118 = true := by kernel_rfl
theorem gname1 : Tryd.prog.globalNamed "modelcheck/value.names" = some 1 := by kernel_rfl
theorem gtype1 : (Tryd.prog.globals[1]?).map (·.type) = some 126 := by kernel_rfl
theorem gsok1 : (SOK Tryd.prog (.arr 10 .str)).1 126 = true := by kernel_rfl
noncomputable def laidWorld (os : Os) : World :=
  { World.holding Tryd.prog os ⟨#[], #[], []⟩ with heap := (((World.holding Tryd.prog os ⟨#[], #[], []⟩).heap).modify 0 (lay #[.string ⟨#[99, 111, 110, 115, 116]⟩, .bool true, .bool false, .bool false, .bool false, .bool true, .bool false, .bool false, .string ⟨#[99, 111, 112, 121]⟩, .bool true, .bool true, .bool false, .bool false, .bool false, .bool false, .bool false, .string ⟨#[99, 97, 108, 99]⟩, .bool true, .bool true, .bool true, .bool false, .bool false, .bool true, .bool false, .string ⟨#[106, 117, 109, 112]⟩, .bool false, .bool false, .bool false, .bool false, .bool true, .bool false, .bool false, .string ⟨#[98, 114, 97, 110, 99, 104]⟩, .bool false, .bool true, .bool false, .bool false, .bool true, .bool false, .bool false, .string ⟨#[97, 115, 115, 101, 114, 116]⟩, .bool false, .bool true, .bool false, .bool false, .bool false, .bool false, .bool false, .string ⟨#[115, 116, 111, 112]⟩, .bool false, .bool false, .bool false, .bool false, .bool false, .bool false, .bool false, .string ⟨#[108, 111, 97, 100]⟩, .bool true, .bool false, .bool false, .bool true, .bool false, .bool false, .bool true, .string ⟨#[115, 116, 111, 114, 101]⟩, .bool false, .bool true, .bool false, .bool true, .bool false, .bool false, .bool true, .string ⟨#[115, 119, 97, 112]⟩, .bool true, .bool true, .bool false, .bool true, .bool false, .bool false, .bool true, .string ⟨#[102, 101, 116, 99, 104, 97, 100, 100]⟩, .bool true, .bool true, .bool false, .bool true, .bool false, .bool false, .bool true, .string ⟨#[99, 97, 115]⟩, .bool true, .bool true, .bool true, .bool true, .bool false, .bool false, .bool true, .string ⟨#[102, 101, 110, 99, 101]⟩, .bool false, .bool false, .bool false, .bool false, .bool false, .bool false, .bool false, .string ⟨#[97, 119, 97, 105, 116]⟩, .bool true, .bool true, .bool false, .bool true, .bool false, .bool true, .bool true, .string ⟨#[108, 111, 99, 107]⟩, .bool false, .bool false, .bool false, .bool true, .bool false, .bool false, .bool false, .string ⟨#[117, 110, 108, 111, 99, 107]⟩, .bool false, .bool false, .bool false, .bool true, .bool false, .bool false, .bool false, .string ⟨#[116, 114, 121, 108, 111, 99, 107]⟩, .bool true, .bool false, .bool false, .bool true, .bool false, .bool false, .bool false, .string ⟨#[119, 97, 105, 116]⟩, .bool false, .bool false, .bool false, .bool true, .bool true, .bool false, .bool false, .string ⟨#[115, 105, 103, 110, 97, 108]⟩, .bool false, .bool false, .bool false, .bool true, .bool false, .bool false, .bool false, .string ⟨#[98, 114, 111, 97, 100, 99, 97, 115, 116]⟩, .bool false, .bool false, .bool false, .bool true, .bool false, .bool false, .bool false, .string ⟨#[115, 112, 97, 119, 110]⟩, .bool true, .bool true, .bool false, .bool true, .bool false, .bool false, .bool false, .string ⟨#[106, 111, 105, 110]⟩, .bool false, .bool true, .bool false, .bool false, .bool false, .bool false, .bool false])).modify 1 (lay #[.string ⟨#[97, 100, 100]⟩, .string ⟨#[115, 117, 98]⟩, .string ⟨#[109, 117, 108]⟩, .string ⟨#[97, 110, 100]⟩, .string ⟨#[111, 114]⟩, .string ⟨#[120, 111, 114]⟩, .string ⟨#[101, 113]⟩, .string ⟨#[110, 101]⟩, .string ⟨#[108, 116]⟩, .string ⟨#[108, 101]⟩]) }
namespace memoryQueueL
theorem globs {W : World} (hL : laidMetH Tryd.prog Rows.memoryQueueRow.laid W) : GlobOK gd0 (FH.all W) := by
  intro g p hp
  unfold gd0 at hp
  split at hp
  · cases hp; exact glob_open hL (by kernel_rfl) (n := "modelcheck/inst.rows") (D := Rows.laid_modelcheck_inst_rows) (by simp [Rows.memoryQueueRow]) gname0 gtype0 gsok0 (by kernel_rfl)
  · cases hp; exact glob_open hL (by kernel_rfl) (n := "modelcheck/value.names") (D := Rows.laid_modelcheck_value_names) (by simp [Rows.memoryQueueRow]) gname1 gtype1 gsok1 (by kernel_rfl)
  · cases hp
theorem laid_met (os : Os) : laidMet Tryd.prog Rows.memoryQueueRow.laid ((laidWorld os).forCall (fun _ _ => 0) ⟨#[], #[.agg #[.slice none 0 0, .slice none 0 0, .slice none 0 0, .slice none 0 0], .int .i64 0, .slice none 0 0], []⟩).memory :=
  laidMet_of_run' 20 (by kernel_rfl) (by kernel_rfl)
theorem reads (os : Os) {H : Type} (enc : TypeId × Value → H) : ∃ places, DataW.whole enc Tryd.prog ((laidWorld os).forCall (fun _ _ => 0) ⟨#[], #[.agg #[.slice none 0 0, .slice none 0 0, .slice none 0 0, .slice none 0 0], .int .i64 0, .slice none 0 0], []⟩).memory Tryd.f8.params.toList Rows.memoryQueueSpec.vars false (#[.agg #[.slice none 0 0, .slice none 0 0, .slice none 0 0, .slice none 0 0], .int .i64 0, .slice none 0 0] : Array Value).toList 20 = some ([.agg [.nil, .nil, .nil, .nil], .lit (.int .i64 0), .nil], [], places) :=
  ⟨[], by kernel_rfl⟩
theorem lifted (os : Os) (started : os.Started) (H : Type) (enc : TypeId × Value → H) (F : Stop.Interp) :
    ReturnsInHanded {} Tryd.checked os 8 .any ((OpenSpec.ofChange Rows.memoryQueueSpec).preRow enc Tryd.prog Tryd.f8 Rows.memoryQueueRow.domain false Rows.memoryQueueRow.laid) (((OpenSpec.ofChange Rows.memoryQueueSpec).at F).post enc Tryd.prog Tryd.f8 false true false false) := by
  obtain ⟨places, hx⟩ := reads os enc
  refine returnsInHanded_of_row (C := Tryd.checked) (s := OpenSpec.ofChange Rows.memoryQueueSpec) own started (by kernel_rfl) Tryd.func8
    (witness_row_at (enc := enc) (C := Tryd.checked) false (laidWorld os) #[.agg #[.slice none 0 0, .slice none 0 0, .slice none 0 0, .slice none 0 0], .int .i64 0, .slice none 0 0] rfl (by kernel_rfl) (by kernel_rfl) (by kernel_rfl)
      (OpenSpec.preRow_of_cond 20 hx (by kernel_rfl) (fun k hk => by cases hk) (by kernel_rfl) (laid_met os))) ?_
  intro W base args ds gs before hval hW _ hcond hwt hL _ _
  refine call_true (fn := Tryd.f8) f8_met laidOut rowed full (by decide +kernel) (t := 4) (by kernel_rfl) (by kernel_rfl) rfl (by kernel_rfl) (fun _ => rfl) (fun d hd hwf => ?_) hval hW (globs hL)
  match ds, rdats_len hd with
  | [d0, d1, d2], _ => exact ⟨rfl, by trivial⟩
theorem said : Rows.MemoryQueueSaid :=
  OpenClaim.holds_of_cond 8 Tryd.f8 rfl rfl rfl rfl rfl rfl rfl ⟨rfl, rfl, rfl, rfl, rfl⟩ rfl rfl rfl rfl rfl (by kernel_rfl) Tryd.func8 (by kernel_rfl)
    (of_decide_eq_true (by kernel_rfl)) (by unfold Func.isWrapper; first | (rw [if_pos (by decide +kernel)]; kernel_rfl) | (rw [if_neg (by decide +kernel)]; exact ⟨rfl, rfl⟩))
    (fun os started H enc _ F => by rw [OpenClaim.pre_eq_preRow]; exact lifted os started H enc F)
theorem plain (f : FuncId) (fn : Func) (hf : Tryd.pinned.checked.prog.funcNamed "modelcheck/modelchecklaw21.MemoryQueue" = some f) (hfn : Tryd.pinned.checked.prog.funcs[f]? = some fn) :
    false = Tryd.pinned.checked.prog.looks [] ∧ ∀ (j : Nat) t, fn.params[j]? = some t → Tryd.pinned.checked.prog.wantsStandIn t = false := by
  obtain rfl : f = 8 := Option.some.inj ((show Tryd.prog.funcNamed "modelcheck/modelchecklaw21.MemoryQueue" = some 8 by kernel_rfl).symm.trans hf) |>.symm
  obtain rfl : fn = Tryd.f8 := (Option.some.inj (Tryd.func8.symm.trans hfn)).symm
  refine ⟨by kernel_rfl, fun j t ht => ?_⟩
  have hm : t ∈ Tryd.f8.params.toList := List.mem_of_getElem? (by simpa using ht)
  have key : ∀ t ∈ Tryd.f8.params.toList, Tryd.prog.wantsStandIn t = false := by decide +kernel
  exact key t hm
theorem card : Rows.MemoryQueueCardSaid :=
  Claim7.holds_tied_plain_at .later [] _ _ _ _ said (fun _ h => by cases h) (by kernel_rfl) (fun _ h => by cases h) memoryQueue_row_tie rfl ⟨rfl, rfl⟩ (by kernel_rfl) rfl plain (by kernel_rfl)
end memoryQueueL
end Go.Proofs.YtkgjfkdcnoockaaDoor
