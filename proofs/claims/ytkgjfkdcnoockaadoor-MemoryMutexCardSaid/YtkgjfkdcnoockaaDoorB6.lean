/- Texts of this claim, part 6: M6, M7, M9, L3. Conditions: those of the given rows. -/
import Derived.Test.YtkgjfkdcnoockaaDoorB5
import Derived.Test.YtkgjfkdcnoockaaDoorCards
import Derived.Test.YtkgjfkdcnoockaaDoorTie
import Derived.WalkKit
import Derived.ProofKit
import Derived.OpenShut
import Derived.Deep.DeepHandedRow
import Derived.Lib.LaidTab
set_option linter.unusedSimpArgs false
set_option linter.unusedVariables false
set_option maxRecDepth 100000
namespace Go.Proofs.YtkgjfkdcnoockaaDoor
open Go Go.Eng

def oneP : PD := ([(⟨#[120]⟩, 4, ())], [⟨#[109]⟩], [⟨#[99]⟩], [(⟨#[102]⟩, [], ())], [(0, 0, ())], ())
def fewM (m : MD) : Bool := decide (m.1.length ≤ 20) && decide (m.2.1.length ≤ 20) && decide (m.2.2.1.length ≤ 20) && decide (m.2.2.2.1.length ≤ 60) && m.2.2.1.all (fun q => decide (q.length ≤ 60))
@[reducible] def ctFew : CT := { ps := [shM], pre := fun d => True, res := fun d => ([], vB (fewM d.1)) }
@[reducible] def cl11 : List (Nat × CT) := []
@[reducible] def ann11 (vs : List Int) (os : List Int) (qs : List (List Int)) (sg : List Int) : Nat → Option (St → Ann) := fun k => match k with
  | 4 => some fun _ => .inv { α := Nat, slots := fun k => [(30, .c (.v (.int .i64 k)))], res := fun k => [], inv := fun k => k ≤ (qs).length ∧ ∀ j < k, ∀ q, qs[j]? = some q → q.length ≤ 60, meas := fun k => (qs).length - k }
  | _ => none
@[reducible] def il11 : List (Nat × IP) := []
@[reducible] def hl11 : List (Nat × Nat × CT) := []
@[reducible] def ml11 : List (Nat × MK) := []
set_option maxRecDepth 100000 in
theorem f11_vc (vs : List Int) (os : List Int) (qs : List (List Int)) (sg : List Int) :
    br (decide ((20 : Int) < (↑vs.length : Int)) || decide ((20 : Int) < (↑os.length : Int)) || decide ((20 : Int) < (↑qs.length : Int)) || decide ((60 : Int) < (↑sg.length : Int))) (([] : List Go.Eng.Res) = [] ∧ Ent.one (SV.c (SC.v (Value.bool (fewM (vs, os, qs, sg, ()))))) = Ent.one (SV.c (SC.v (Value.bool false)))) ((∃ x, (x ≤ qs.length ∧ ∀ (j : Nat), j < x → ∀ (q : List Int), qs[j]? = some q → q.length ≤ (60 : Nat)) ∧ (SV.c (SC.v (Value.int IntKind.i64 (0 : Int))) = SV.c (SC.v (Value.int IntKind.i64 (↑x : Int))) ∧ True) ∧ [(([] : Go.Eng.Gd), bM6 vs os qs sg)] = [(([] : Go.Eng.Gd), bM6 vs os qs sg)]) ∧ ∀ (x : Nat), (x ≤ qs.length ∧ ∀ (j : Nat), j < x → ∀ (q : List Int), qs[j]? = some q → q.length ≤ (60 : Nat)) → br (decide ((↑x : Int) < (↑qs.length : Int))) (((0 : Int) ≤ (↑x : Int) ∧ (↑x : Int) < (↑qs.length : Int)) ∧ ∀ (d : List I6.den), qs[(↑x : Int).toNat]? = some d → br (decide ((60 : Int) < (↑d.length : Int))) (([] : List Go.Eng.Res) = [] ∧ Ent.one (SV.c (SC.v (Value.bool (fewM (vs, os, qs, sg, ()))))) = Ent.one (SV.c (SC.v (Value.bool false)))) (InR IntKind.i64 ((↑x : Int) + (1 : Int)) ∧ ∃ x', (x' ≤ qs.length ∧ ∀ (j : Nat), j < x' → ∀ (q : List Int), qs[j]? = some q → q.length ≤ (60 : Nat)) ∧ (SV.c (SC.v (Value.int IntKind.i64 ((↑x : Int) + (1 : Int)))) = SV.c (SC.v (Value.int IntKind.i64 (↑x' : Int))) ∧ True) ∧ [(([] : Go.Eng.Gd), bM6 vs os qs sg)] = [(([] : Go.Eng.Gd), bM6 vs os qs sg)] ∧ qs.length - x' < qs.length - x)) (([] : List Go.Eng.Res) = [] ∧ Ent.one (SV.c (SC.v (Value.bool (fewM (vs, os, qs, sg, ()))))) = Ent.one (SV.c (SC.v (Value.bool true))))) := by
  refine br_iff.2 ⟨fun h => ⟨rfl, ?_⟩, fun h => ?_⟩
  · have e : fewM (vs, os, qs, sg, ()) = false := by
      unfold fewM
      rw [Bool.eq_false_iff]; intro q; simp at q h; omega
    rw [e]
  simp only [Bool.or_eq_false_iff, decide_eq_false_iff_not] at h
  refine ⟨⟨0, ⟨by omega, fun j hj => by omega⟩, ⟨rfl, trivial⟩, rfl⟩, fun k hk => br_iff.2 ⟨fun g => ?_, fun g => ?_⟩⟩
  · simp only [decide_eq_true_eq] at g
    refine ⟨⟨by omega, by omega⟩, fun d hd => br_iff.2 ⟨fun g2 => ⟨rfl, ?_⟩, fun g2 => ⟨InR_i64.2 (by omega), k + 1, ⟨by omega, fun j hj q hq => ?_⟩, ⟨rfl, trivial⟩, rfl, by omega⟩⟩⟩
    · have e : fewM (vs, os, qs, sg, ()) = false := by
        unfold fewM
        rw [Bool.eq_false_iff]; intro q
        simp only [Bool.and_eq_true, List.all_eq_true, decide_eq_true_eq] at q g2
        have := q.2 d (List.mem_of_getElem? hd)
        omega
      rw [e]
    · by_cases hjk : j = k
      · subst hjk
        have hd : qs[j]? = some d := hd
        rw [hd] at hq; cases hq
        simp at g2; omega
      · exact hk.2 j (by omega) q hq
  simp only [decide_eq_false_iff_not] at g
  have e : fewM (vs, os, qs, sg, ()) = true := by
    unfold fewM
    simp only [Bool.and_eq_true, List.all_eq_true, decide_eq_true_eq]
    refine ⟨⟨⟨⟨by omega, by omega⟩, by omega⟩, by omega⟩, fun q hq => ?_⟩
    obtain ⟨j, hj⟩ := List.getElem?_of_mem hq
    exact hk.2 j (by have := (List.getElem?_eq_some_iff.1 hj).1; omega) q hj
  exact ⟨rfl, by rw [e]⟩
set_option maxHeartbeats 2000000 in
set_option maxRecDepth 100000 in
theorem f11_met : Go.Eng.Met Tryd.prog cx0.gd 11 ctFew :=
  (met_all (cx := cx0) (n := 38) (cl := cl11) (il := il11) (hl := hl11) (ml := ml11) (rc := []) (lits := []) (suf := []) (by kernel_rfl) tis_ok trivial trivial trivial trivial Tryd.func11 (by kernel_rfl) (by kernel_rfl) rfl (by kernel_rfl) (by kernel_rfl) (by simp) fun d hd => by
    obtain ⟨⟨vs, os, qs, sg, ⟨⟩⟩, ⟨⟩⟩ := d
    exact ex_of (ann11 vs os qs sg) (f11_vc vs os qs sg) (by kernel_rfl)).met
@[reducible] def ctOne : CT := { ps := [], pre := fun d => True, res := fun d => ([], .one (ofDat shP oneP)) }
@[reducible] def cl43 : List (Nat × CT) := []
@[reducible] def ann43  : Nat → Option (St → Ann) := fun _ => none
@[reducible] def il43 : List (Nat × IP) := []
@[reducible] def hl43 : List (Nat × Nat × CT) := []
@[reducible] def ml43 : List (Nat × MK) := []
set_option maxRecDepth 100000 in
theorem f43_vc  :
    ([] : List Go.Eng.Res) = [] ∧ Ent.one (SV.agg [SC.sl (Sh.str.pair (I6.pair Sh.unit)) [({ data := #[(120 : UInt8)] : ByteArray }, (4 : Int), ())], SC.sl Sh.str [{ data := #[(109 : UInt8)] : ByteArray }], SC.sl Sh.str [{ data := #[(99 : UInt8)] : ByteArray }], SC.sl (Sh.str.pair (shI.sl.pair Sh.unit)) [({ data := #[(102 : UInt8)] : ByteArray }, [], ())], SC.sl (I6.pair (I6.pair Sh.unit)) [((0 : Int), (0 : Int), ())]]) = Ent.one (SV.agg [SC.sl (Sh.str.pair (I6.pair Sh.unit)) [({ data := #[(120 : UInt8)] : ByteArray }, (4 : Int), ())], SC.sl Sh.str [{ data := #[(109 : UInt8)] : ByteArray }], SC.sl Sh.str [{ data := #[(99 : UInt8)] : ByteArray }], SC.sl (Sh.str.pair (shI.sl.pair Sh.unit)) [({ data := #[(102 : UInt8)] : ByteArray }, [], ())], SC.sl (I6.pair (I6.pair Sh.unit)) [((0 : Int), (0 : Int), ())]]) := by
  exact ⟨rfl, rfl⟩
set_option maxHeartbeats 2000000 in
set_option maxRecDepth 100000 in
theorem f43_met : Go.Eng.Met Tryd.prog cx0.gd 43 ctOne :=
  (met_all (cx := cx0) (n := 10) (cl := cl43) (il := il43) (hl := hl43) (ml := ml43) (rc := [.data shP]) (lits := []) (suf := []) (by kernel_rfl) tis_ok trivial trivial trivial trivial Tryd.func43 (by kernel_rfl) (by kernel_rfl) rfl (by kernel_rfl) (by kernel_rfl) (by simp) fun d hd => by
    obtain ⟨⟩ := d
    exact ex_of (ann43 ) (f43_vc ) (by kernel_rfl)).met
theorem fm0 : formM (([4], [-1], [[]], [], ()) : MD) = true := formM_iff.2 ⟨by decide, by decide, by decide, validI_iff.1 (by decide), by decide, by decide, by decide, by decide⟩
theorem bd0 : bndM (([4], [-1], [[]], [], ()) : MD) := ⟨by decide, by decide, by decide, by decide, by decide, by decide⟩
theorem fm1 : formM (([4], [-1], [[3]], [], ()) : MD) = true := formM_iff.2 ⟨by decide, by decide, by decide, validI_iff.1 (by decide), by decide, by decide, by decide, by decide⟩
theorem bd1 : bndM (([4], [-1], [[3]], [], ()) : MD) := ⟨by decide, by decide, by decide, by decide, by decide, by decide⟩
theorem fm2 : formM (([4], [-1], [[3, 1]], [], ()) : MD) = true := formM_iff.2 ⟨by decide, by decide, by decide, validI_iff.1 (by decide), by decide, by decide, by decide, by decide⟩
theorem bd2 : bndM (([4], [-1], [[3, 1]], [], ()) : MD) := ⟨by decide, by decide, by decide, by decide, by decide, by decide⟩
theorem fm3 : formM (([4], [-1], [[1]], [3], ()) : MD) = true := formM_iff.2 ⟨by decide, by decide, by decide, validI_iff.1 (by decide), by decide, by decide, by decide, by decide⟩
theorem bd3 : bndM (([4], [-1], [[1]], [3], ()) : MD) := ⟨by decide, by decide, by decide, by decide, by decide, by decide⟩
theorem fm4 : formM (([4], [-1], [[1]], [], ()) : MD) = true := formM_iff.2 ⟨by decide, by decide, by decide, validI_iff.1 (by decide), by decide, by decide, by decide, by decide⟩
theorem bd4 : bndM (([4], [-1], [[1]], [], ()) : MD) := ⟨by decide, by decide, by decide, by decide, by decide, by decide⟩
theorem ex1 : enqM (([4], [-1], [[]], [], ()) : MD) 0 3 = ((([4], [-1], [[3]], [], ()) : MD), 0) := by
  unfold enqM
  rw [ins_in fm0 (by decide), if_pos rfl, if_neg (by decide), if_neg (by decide)]; rfl
theorem ex2 : enqM (([4], [-1], [[3]], [], ()) : MD) 0 1 = ((([4], [-1], [[3, 1]], [], ()) : MD), 0) := by
  unfold enqM
  rw [ins_in fm1 (by decide), if_pos rfl, if_neg (by decide), if_neg (by decide)]; rfl
theorem ex3 : wkM (([4], [-1], [[3, 1]], [], ()) : MD) 0 1 = ((([4], [-1], [[1]], [3], ()) : MD), 1, 0) := by
  unfold wkM
  rw [ins_in fm2 (by decide), if_pos rfl]; rfl
theorem ex4 : wakeM (([4], [-1], [[1]], [3], ()) : MD) 1 = (zM, 30) := by
  unfold wakeM
  rw [fm3, if_neg (by decide), if_pos (by decide)]
theorem ex5 : wakeM (([4], [-1], [[1]], [3], ()) : MD) 3 = ((([4], [-1], [[1]], [], ()) : MD), 0) := by
  unfold wakeM
  rw [fm3, if_neg (by decide), if_neg (by decide)]; rfl
theorem ex6 : readM (([4], [-1], [[1]], [], ()) : MD) 0 = (4, 0) := by
  unfold readM
  rw [ins_in fm4 (by decide), if_pos rfl]; rfl
theorem ex7 : freeM (([4], [-1], [[1]], [], ()) : MD) 0 = true := by
  unfold freeM
  rw [ins_in fm4 (by decide)]; rfl
@[reducible] def ctExa : CT := { ps := [], pre := fun d => True, res := fun d => ([], vB (true)) }
@[reducible] noncomputable def cl12 : List (Nat × CT) := [(43, ctOne), (13, ctNew), (18, ctEnq), (20, ctSig), (24, ctWke), (26, ctRd), (34, ctFr), (41, ct13)]
@[reducible] def ann12  : Nat → Option (St → Ann) := fun k => match k with
  | 2 => some fun _ => .cut { α := Nat, pad := 1, can := [(0, .slot 1)], slots := fun _ => [(1, .c (.own 0 0)), (2, .c (.v (.int .i64 0)))], res := fun _ => [(0, .blk 31 [.sl (.int .i64) [4], .sl (.int .i64) [-1], .sl (.sl (.int .i64)) [[]], .sl (.int .i64) []])], inv := fun u => u = 0, meas := fun _ => 0 }
  | 3 => some fun _ => .cut { α := Nat, pad := 1, can := [(1, .slot 3)], slots := fun _ => [(3, .c (.own 1 0)), (4, .c (.v (.int .i64 0)))], res := fun _ => [(1, .blk 31 [.sl (.int .i64) [4], .sl (.int .i64) [-1], .sl (.sl (.int .i64)) [[3]], .sl (.int .i64) []])], inv := fun u => u = 0, meas := fun _ => 0 }
  | 4 => some fun _ => .cut { α := Nat, pad := 1, can := [(2, .slot 5)], slots := fun _ => [(5, .c (.own 2 0)), (6, .c (.v (.int .i64 0)))], res := fun _ => [(2, .blk 31 [.sl (.int .i64) [4], .sl (.int .i64) [-1], .sl (.sl (.int .i64)) [[3, 1]], .sl (.int .i64) []])], inv := fun u => u = 0, meas := fun _ => 0 }
  | 5 => some fun _ => .cut { α := Nat, pad := 1, can := [(3, .slot 7)], slots := fun _ => [(7, .c (.own 3 0)), (8, .c (.v (.int .i64 1))), (9, .c (.v (.int .i64 0)))], res := fun _ => [(3, .blk 31 [.sl (.int .i64) [4], .sl (.int .i64) [-1], .sl (.sl (.int .i64)) [[1]], .sl (.int .i64) [3]])], inv := fun u => u = 0, meas := fun _ => 0 }
  | 6 => some fun _ => .cut { α := Nat, pad := 1, can := [(4, .slot 10)], slots := fun _ => [(10, .c (.own 4 0)), (11, .c (.v (.int .i64 30)))], res := fun _ => [(4, .blk 31 [.sl (.int .i64) [], .sl (.int .i64) [], .sl (.sl (.int .i64)) [], .sl (.int .i64) []])], inv := fun u => u = 0, meas := fun _ => 0 }
  | 7 => some fun _ => .cut { α := Nat, pad := 1, can := [(5, .slot 12)], slots := fun _ => [(12, .c (.own 5 0)), (13, .c (.v (.int .i64 0)))], res := fun _ => [(5, .blk 31 [.sl (.int .i64) [4], .sl (.int .i64) [-1], .sl (.sl (.int .i64)) [[1]], .sl (.int .i64) []])], inv := fun u => u = 0, meas := fun _ => 0 }
  | 10 => some fun _ => .cut { α := MD, slots := fun _ => [(14, .c (.v (.int .i64 4))), (15, .c (.v (.int .i64 0)))], res := fun u => [(5, .blk 31 [.sl (.int .i64) u.1, .sl (.int .i64) u.2.1, .sl (.sl (.int .i64)) u.2.2.1, .sl (.int .i64) u.2.2.2.1])], inv := fun u => u = ([4], [-1], [[1]], [], ()), meas := fun _ => 0 }
  | _ => none
@[reducible] def il12 : List (Nat × IP) := []
@[reducible] def hl12 : List (Nat × Nat × CT) := []
@[reducible] noncomputable def ml12 : List (Nat × MK) := []
set_option maxRecDepth 100000 in
theorem f12_vc  :
    (True ∧ ((1 : Nat) ≤ (1000000 : Nat) ∧ (1 : Nat) ≤ (1000000 : Nat) ∧ (1 : Nat) ≤ (1000000 : Nat) ∧ (1 : Nat) ≤ (1000000 : Nat) ∧ (1 : Nat) ≤ (1000000 : Nat) ∧ (∀ (x : Sh.str.den × (shI.sl.pair Sh.unit).den), x ∈ [({ data := #[(102 : UInt8)] : ByteArray }, [], ())] → List.length x.snd.fst ≤ (1000000 : Nat)) ∧ (0 : Nat) ≤ (1000000 : Nat)) ∧ ∃ v, v = (0 : Nat) ∧ (SV.c (SC.own (0 : Nat) (0 : Nat)) = SV.c (SC.own (0 : Nat) (0 : Nat)) ∧ SV.c (SC.v (Value.int IntKind.i64 (0 : Int))) = SV.c (SC.v (Value.int IntKind.i64 (0 : Int))) ∧ True) ∧ [(([] : Go.Eng.Gd), Res.blk (31 : Nat) [SC.sl I6 (List.map (fun x => x.snd.fst) [({ data := #[(120 : UInt8)] : ByteArray }, (4 : Int), ())]), SC.sl I6 (List.replicate (1 : Nat) (-1 : Int)), SC.sl I6.sl (List.replicate (1 : Nat) []), SC.sl I6 []])] = [(([] : Go.Eng.Gd), Res.blk (31 : TypeId) [SC.sl I6 [(4 : I6.den)], SC.sl I6 [(-1 : I6.den)], SC.sl I6.sl [[]], SC.sl I6 []])]) ∧ ∀ (v : Nat), v = (0 : Nat) → (bndM ([(4 : I6.den)], [(-1 : I6.den)], [[]], [], ()) ∧ ∃ v, v = (0 : Nat) ∧ (SV.c (SC.own (1 : Nat) (0 : Nat)) = SV.c (SC.own (1 : Nat) (0 : Nat)) ∧ SV.c (SC.v (Value.int IntKind.i64 (enqM ([(4 : I6.den)], [(-1 : I6.den)], [[]], [], ()) (0 : Int) (3 : Int)).snd)) = SV.c (SC.v (Value.int IntKind.i64 (0 : Int))) ∧ True) ∧ [(([] : Go.Eng.Gd), Res.blk (31 : TypeId) [SC.sl I6 [(4 : I6.den)], SC.sl I6 [(-1 : I6.den)], SC.sl I6.sl [[]], SC.sl I6 []]), (([] : Go.Eng.Gd), Res.blk (31 : Nat) [SC.sl I6 (enqM ([(4 : I6.den)], [(-1 : I6.den)], [[]], [], ()) (0 : Int) (3 : Int)).fst.fst, SC.sl I6 (enqM ([(4 : I6.den)], [(-1 : I6.den)], [[]], [], ()) (0 : Int) (3 : Int)).fst.snd.fst, SC.sl I6.sl (enqM ([(4 : I6.den)], [(-1 : I6.den)], [[]], [], ()) (0 : Int) (3 : Int)).fst.snd.snd.fst, SC.sl I6 (enqM ([(4 : I6.den)], [(-1 : I6.den)], [[]], [], ()) (0 : Int) (3 : Int)).fst.snd.snd.snd.fst])] = [(([] : Go.Eng.Gd), Res.blk (31 : TypeId) [SC.sl I6 [(4 : I6.den)], SC.sl I6 [(-1 : I6.den)], SC.sl I6.sl [[]], SC.sl I6 []]), (([] : Go.Eng.Gd), Res.blk (31 : TypeId) [SC.sl I6 [(4 : I6.den)], SC.sl I6 [(-1 : I6.den)], SC.sl I6.sl [[(3 : I6.den)]], SC.sl I6 []])]) ∧ ∀ (v : Nat), v = (0 : Nat) → (bndM ([(4 : I6.den)], [(-1 : I6.den)], [[(3 : I6.den)]], [], ()) ∧ ∃ v, v = (0 : Nat) ∧ (SV.c (SC.own (2 : Nat) (0 : Nat)) = SV.c (SC.own (2 : Nat) (0 : Nat)) ∧ SV.c (SC.v (Value.int IntKind.i64 (enqM ([(4 : I6.den)], [(-1 : I6.den)], [[(3 : I6.den)]], [], ()) (0 : Int) (1 : Int)).snd)) = SV.c (SC.v (Value.int IntKind.i64 (0 : Int))) ∧ True) ∧ [(([] : Go.Eng.Gd), Res.blk (31 : TypeId) [SC.sl I6 [(4 : I6.den)], SC.sl I6 [(-1 : I6.den)], SC.sl I6.sl [[]], SC.sl I6 []]), (([] : Go.Eng.Gd), Res.blk (31 : TypeId) [SC.sl I6 [(4 : I6.den)], SC.sl I6 [(-1 : I6.den)], SC.sl I6.sl [[(3 : I6.den)]], SC.sl I6 []]), (([] : Go.Eng.Gd), Res.blk (31 : Nat) [SC.sl I6 (enqM ([(4 : I6.den)], [(-1 : I6.den)], [[(3 : I6.den)]], [], ()) (0 : Int) (1 : Int)).fst.fst, SC.sl I6 (enqM ([(4 : I6.den)], [(-1 : I6.den)], [[(3 : I6.den)]], [], ()) (0 : Int) (1 : Int)).fst.snd.fst, SC.sl I6.sl (enqM ([(4 : I6.den)], [(-1 : I6.den)], [[(3 : I6.den)]], [], ()) (0 : Int) (1 : Int)).fst.snd.snd.fst, SC.sl I6 (enqM ([(4 : I6.den)], [(-1 : I6.den)], [[(3 : I6.den)]], [], ()) (0 : Int) (1 : Int)).fst.snd.snd.snd.fst])] = [(([] : Go.Eng.Gd), Res.blk (31 : TypeId) [SC.sl I6 [(4 : I6.den)], SC.sl I6 [(-1 : I6.den)], SC.sl I6.sl [[]], SC.sl I6 []]), (([] : Go.Eng.Gd), Res.blk (31 : TypeId) [SC.sl I6 [(4 : I6.den)], SC.sl I6 [(-1 : I6.den)], SC.sl I6.sl [[(3 : I6.den)]], SC.sl I6 []]), (([] : Go.Eng.Gd), Res.blk (31 : TypeId) [SC.sl I6 [(4 : I6.den)], SC.sl I6 [(-1 : I6.den)], SC.sl I6.sl [[(3 : I6.den), (1 : I6.den)]], SC.sl I6 []])]) ∧ ∀ (v : Nat), v = (0 : Nat) → (bndM ([(4 : I6.den)], [(-1 : I6.den)], [[(3 : I6.den), (1 : I6.den)]], [], ()) ∧ ∃ v, v = (0 : Nat) ∧ (SV.c (SC.own (3 : Nat) (0 : Nat)) = SV.c (SC.own (3 : Nat) (0 : Nat)) ∧ SV.c (SC.v (Value.int IntKind.i64 (wkM ([(4 : I6.den)], [(-1 : I6.den)], [[(3 : I6.den), (1 : I6.den)]], [], ()) (0 : Int) (1 : Int)).snd.fst)) = SV.c (SC.v (Value.int IntKind.i64 (1 : Int))) ∧ SV.c (SC.v (Value.int IntKind.i64 (wkM ([(4 : I6.den)], [(-1 : I6.den)], [[(3 : I6.den), (1 : I6.den)]], [], ()) (0 : Int) (1 : Int)).snd.snd)) = SV.c (SC.v (Value.int IntKind.i64 (0 : Int))) ∧ True) ∧ [(([] : Go.Eng.Gd), Res.blk (31 : TypeId) [SC.sl I6 [(4 : I6.den)], SC.sl I6 [(-1 : I6.den)], SC.sl I6.sl [[]], SC.sl I6 []]), (([] : Go.Eng.Gd), Res.blk (31 : TypeId) [SC.sl I6 [(4 : I6.den)], SC.sl I6 [(-1 : I6.den)], SC.sl I6.sl [[(3 : I6.den)]], SC.sl I6 []]), (([] : Go.Eng.Gd), Res.blk (31 : TypeId) [SC.sl I6 [(4 : I6.den)], SC.sl I6 [(-1 : I6.den)], SC.sl I6.sl [[(3 : I6.den), (1 : I6.den)]], SC.sl I6 []]), (([] : Go.Eng.Gd), Res.blk (31 : Nat) [SC.sl I6 (wkM ([(4 : I6.den)], [(-1 : I6.den)], [[(3 : I6.den), (1 : I6.den)]], [], ()) (0 : Int) (1 : Int)).fst.fst, SC.sl I6 (wkM ([(4 : I6.den)], [(-1 : I6.den)], [[(3 : I6.den), (1 : I6.den)]], [], ()) (0 : Int) (1 : Int)).fst.snd.fst, SC.sl I6.sl (wkM ([(4 : I6.den)], [(-1 : I6.den)], [[(3 : I6.den), (1 : I6.den)]], [], ()) (0 : Int) (1 : Int)).fst.snd.snd.fst, SC.sl I6 (wkM ([(4 : I6.den)], [(-1 : I6.den)], [[(3 : I6.den), (1 : I6.den)]], [], ()) (0 : Int) (1 : Int)).fst.snd.snd.snd.fst])] = [(([] : Go.Eng.Gd), Res.blk (31 : TypeId) [SC.sl I6 [(4 : I6.den)], SC.sl I6 [(-1 : I6.den)], SC.sl I6.sl [[]], SC.sl I6 []]), (([] : Go.Eng.Gd), Res.blk (31 : TypeId) [SC.sl I6 [(4 : I6.den)], SC.sl I6 [(-1 : I6.den)], SC.sl I6.sl [[(3 : I6.den)]], SC.sl I6 []]), (([] : Go.Eng.Gd), Res.blk (31 : TypeId) [SC.sl I6 [(4 : I6.den)], SC.sl I6 [(-1 : I6.den)], SC.sl I6.sl [[(3 : I6.den), (1 : I6.den)]], SC.sl I6 []]), (([] : Go.Eng.Gd), Res.blk (31 : TypeId) [SC.sl I6 [(4 : I6.den)], SC.sl I6 [(-1 : I6.den)], SC.sl I6.sl [[(1 : I6.den)]], SC.sl I6 [(3 : I6.den)]])]) ∧ ∀ (v : Nat), v = (0 : Nat) → (bndM ([(4 : I6.den)], [(-1 : I6.den)], [[(1 : I6.den)]], [(3 : I6.den)], ()) ∧ ∃ v, v = (0 : Nat) ∧ (SV.c (SC.own (4 : Nat) (0 : Nat)) = SV.c (SC.own (4 : Nat) (0 : Nat)) ∧ SV.c (SC.v (Value.int IntKind.i64 (wakeM ([(4 : I6.den)], [(-1 : I6.den)], [[(1 : I6.den)]], [(3 : I6.den)], ()) (1 : Int)).snd)) = SV.c (SC.v (Value.int IntKind.i64 (30 : Int))) ∧ True) ∧ [(([] : Go.Eng.Gd), Res.blk (31 : TypeId) [SC.sl I6 [(4 : I6.den)], SC.sl I6 [(-1 : I6.den)], SC.sl I6.sl [[]], SC.sl I6 []]), (([] : Go.Eng.Gd), Res.blk (31 : TypeId) [SC.sl I6 [(4 : I6.den)], SC.sl I6 [(-1 : I6.den)], SC.sl I6.sl [[(3 : I6.den)]], SC.sl I6 []]), (([] : Go.Eng.Gd), Res.blk (31 : TypeId) [SC.sl I6 [(4 : I6.den)], SC.sl I6 [(-1 : I6.den)], SC.sl I6.sl [[(3 : I6.den), (1 : I6.den)]], SC.sl I6 []]), (([] : Go.Eng.Gd), Res.blk (31 : TypeId) [SC.sl I6 [(4 : I6.den)], SC.sl I6 [(-1 : I6.den)], SC.sl I6.sl [[(1 : I6.den)]], SC.sl I6 [(3 : I6.den)]]), (([] : Go.Eng.Gd), Res.blk (31 : Nat) [SC.sl I6 (wakeM ([(4 : I6.den)], [(-1 : I6.den)], [[(1 : I6.den)]], [(3 : I6.den)], ()) (1 : Int)).fst.fst, SC.sl I6 (wakeM ([(4 : I6.den)], [(-1 : I6.den)], [[(1 : I6.den)]], [(3 : I6.den)], ()) (1 : Int)).fst.snd.fst, SC.sl I6.sl (wakeM ([(4 : I6.den)], [(-1 : I6.den)], [[(1 : I6.den)]], [(3 : I6.den)], ()) (1 : Int)).fst.snd.snd.fst, SC.sl I6 (wakeM ([(4 : I6.den)], [(-1 : I6.den)], [[(1 : I6.den)]], [(3 : I6.den)], ()) (1 : Int)).fst.snd.snd.snd.fst])] = [(([] : Go.Eng.Gd), Res.blk (31 : TypeId) [SC.sl I6 [(4 : I6.den)], SC.sl I6 [(-1 : I6.den)], SC.sl I6.sl [[]], SC.sl I6 []]), (([] : Go.Eng.Gd), Res.blk (31 : TypeId) [SC.sl I6 [(4 : I6.den)], SC.sl I6 [(-1 : I6.den)], SC.sl I6.sl [[(3 : I6.den)]], SC.sl I6 []]), (([] : Go.Eng.Gd), Res.blk (31 : TypeId) [SC.sl I6 [(4 : I6.den)], SC.sl I6 [(-1 : I6.den)], SC.sl I6.sl [[(3 : I6.den), (1 : I6.den)]], SC.sl I6 []]), (([] : Go.Eng.Gd), Res.blk (31 : TypeId) [SC.sl I6 [(4 : I6.den)], SC.sl I6 [(-1 : I6.den)], SC.sl I6.sl [[(1 : I6.den)]], SC.sl I6 [(3 : I6.den)]]), (([] : Go.Eng.Gd), Res.blk (31 : TypeId) [SC.sl I6 [], SC.sl I6 [], SC.sl I6.sl [], SC.sl I6 []])]) ∧ ∀ (v : Nat), v = (0 : Nat) → (bndM ([(4 : I6.den)], [(-1 : I6.den)], [[(1 : I6.den)]], [(3 : I6.den)], ()) ∧ ∃ v, v = (0 : Nat) ∧ (SV.c (SC.own (5 : Nat) (0 : Nat)) = SV.c (SC.own (5 : Nat) (0 : Nat)) ∧ SV.c (SC.v (Value.int IntKind.i64 (wakeM ([(4 : I6.den)], [(-1 : I6.den)], [[(1 : I6.den)]], [(3 : I6.den)], ()) (3 : Int)).snd)) = SV.c (SC.v (Value.int IntKind.i64 (0 : Int))) ∧ True) ∧ [(([] : Go.Eng.Gd), Res.blk (31 : TypeId) [SC.sl I6 [(4 : I6.den)], SC.sl I6 [(-1 : I6.den)], SC.sl I6.sl [[]], SC.sl I6 []]), (([] : Go.Eng.Gd), Res.blk (31 : TypeId) [SC.sl I6 [(4 : I6.den)], SC.sl I6 [(-1 : I6.den)], SC.sl I6.sl [[(3 : I6.den)]], SC.sl I6 []]), (([] : Go.Eng.Gd), Res.blk (31 : TypeId) [SC.sl I6 [(4 : I6.den)], SC.sl I6 [(-1 : I6.den)], SC.sl I6.sl [[(3 : I6.den), (1 : I6.den)]], SC.sl I6 []]), (([] : Go.Eng.Gd), Res.blk (31 : TypeId) [SC.sl I6 [(4 : I6.den)], SC.sl I6 [(-1 : I6.den)], SC.sl I6.sl [[(1 : I6.den)]], SC.sl I6 [(3 : I6.den)]]), (([] : Go.Eng.Gd), Res.blk (31 : TypeId) [SC.sl I6 [], SC.sl I6 [], SC.sl I6.sl [], SC.sl I6 []]), (([] : Go.Eng.Gd), Res.blk (31 : Nat) [SC.sl I6 (wakeM ([(4 : I6.den)], [(-1 : I6.den)], [[(1 : I6.den)]], [(3 : I6.den)], ()) (3 : Int)).fst.fst, SC.sl I6 (wakeM ([(4 : I6.den)], [(-1 : I6.den)], [[(1 : I6.den)]], [(3 : I6.den)], ()) (3 : Int)).fst.snd.fst, SC.sl I6.sl (wakeM ([(4 : I6.den)], [(-1 : I6.den)], [[(1 : I6.den)]], [(3 : I6.den)], ()) (3 : Int)).fst.snd.snd.fst, SC.sl I6 (wakeM ([(4 : I6.den)], [(-1 : I6.den)], [[(1 : I6.den)]], [(3 : I6.den)], ()) (3 : Int)).fst.snd.snd.snd.fst])] = [(([] : Go.Eng.Gd), Res.blk (31 : TypeId) [SC.sl I6 [(4 : I6.den)], SC.sl I6 [(-1 : I6.den)], SC.sl I6.sl [[]], SC.sl I6 []]), (([] : Go.Eng.Gd), Res.blk (31 : TypeId) [SC.sl I6 [(4 : I6.den)], SC.sl I6 [(-1 : I6.den)], SC.sl I6.sl [[(3 : I6.den)]], SC.sl I6 []]), (([] : Go.Eng.Gd), Res.blk (31 : TypeId) [SC.sl I6 [(4 : I6.den)], SC.sl I6 [(-1 : I6.den)], SC.sl I6.sl [[(3 : I6.den), (1 : I6.den)]], SC.sl I6 []]), (([] : Go.Eng.Gd), Res.blk (31 : TypeId) [SC.sl I6 [(4 : I6.den)], SC.sl I6 [(-1 : I6.den)], SC.sl I6.sl [[(1 : I6.den)]], SC.sl I6 [(3 : I6.den)]]), (([] : Go.Eng.Gd), Res.blk (31 : TypeId) [SC.sl I6 [], SC.sl I6 [], SC.sl I6.sl [], SC.sl I6 []]), (([] : Go.Eng.Gd), Res.blk (31 : TypeId) [SC.sl I6 [(4 : I6.den)], SC.sl I6 [(-1 : I6.den)], SC.sl I6.sl [[(1 : I6.den)]], SC.sl I6 []])]) ∧ ∀ (v : Nat), v = (0 : Nat) → (bndM ([(4 : I6.den)], [(-1 : I6.den)], [[(1 : I6.den)]], [], ()) ∧ ∃ v, v = ([(4 : Int)], [(-1 : Int)], [[(1 : Int)]], [], ()) ∧ (SV.c (SC.v (Value.int IntKind.i64 (readM ([(4 : I6.den)], [(-1 : I6.den)], [[(1 : I6.den)]], [], ()) (0 : Int)).fst)) = SV.c (SC.v (Value.int IntKind.i64 (4 : Int))) ∧ SV.c (SC.v (Value.int IntKind.i64 (readM ([(4 : I6.den)], [(-1 : I6.den)], [[(1 : I6.den)]], [], ()) (0 : Int)).snd)) = SV.c (SC.v (Value.int IntKind.i64 (0 : Int))) ∧ True) ∧ [(([] : Go.Eng.Gd), Res.blk (31 : TypeId) [SC.sl I6 [(4 : I6.den)], SC.sl I6 [(-1 : I6.den)], SC.sl I6.sl [[]], SC.sl I6 []]), (([] : Go.Eng.Gd), Res.blk (31 : TypeId) [SC.sl I6 [(4 : I6.den)], SC.sl I6 [(-1 : I6.den)], SC.sl I6.sl [[(3 : I6.den)]], SC.sl I6 []]), (([] : Go.Eng.Gd), Res.blk (31 : TypeId) [SC.sl I6 [(4 : I6.den)], SC.sl I6 [(-1 : I6.den)], SC.sl I6.sl [[(3 : I6.den), (1 : I6.den)]], SC.sl I6 []]), (([] : Go.Eng.Gd), Res.blk (31 : TypeId) [SC.sl I6 [(4 : I6.den)], SC.sl I6 [(-1 : I6.den)], SC.sl I6.sl [[(1 : I6.den)]], SC.sl I6 [(3 : I6.den)]]), (([] : Go.Eng.Gd), Res.blk (31 : TypeId) [SC.sl I6 [], SC.sl I6 [], SC.sl I6.sl [], SC.sl I6 []]), (([] : Go.Eng.Gd), Res.blk (31 : TypeId) [SC.sl I6 [(4 : I6.den)], SC.sl I6 [(-1 : I6.den)], SC.sl I6.sl [[(1 : I6.den)]], SC.sl I6 []])] = [(([] : Go.Eng.Gd), Res.blk (31 : TypeId) [SC.sl I6 [(4 : I6.den)], SC.sl I6 [(-1 : I6.den)], SC.sl I6.sl [[]], SC.sl I6 []]), (([] : Go.Eng.Gd), Res.blk (31 : TypeId) [SC.sl I6 [(4 : I6.den)], SC.sl I6 [(-1 : I6.den)], SC.sl I6.sl [[(3 : I6.den)]], SC.sl I6 []]), (([] : Go.Eng.Gd), Res.blk (31 : TypeId) [SC.sl I6 [(4 : I6.den)], SC.sl I6 [(-1 : I6.den)], SC.sl I6.sl [[(3 : I6.den), (1 : I6.den)]], SC.sl I6 []]), (([] : Go.Eng.Gd), Res.blk (31 : TypeId) [SC.sl I6 [(4 : I6.den)], SC.sl I6 [(-1 : I6.den)], SC.sl I6.sl [[(1 : I6.den)]], SC.sl I6 [(3 : I6.den)]]), (([] : Go.Eng.Gd), Res.blk (31 : TypeId) [SC.sl I6 [], SC.sl I6 [], SC.sl I6.sl [], SC.sl I6 []]), (([] : Go.Eng.Gd), Res.blk (31 : TypeId) [SC.sl I6 v.fst, SC.sl I6 v.snd.fst, SC.sl I6.sl v.snd.snd.fst, SC.sl I6 v.snd.snd.snd.fst])]) ∧ ∀ (v : List Int × List Int × List (List Int) × List Int × Unit), v = ([(4 : Int)], [(-1 : Int)], [[(1 : Int)]], [], ()) → (true = true → bndM v) ∧ ((true && freeM v (0 : Int)) = true → (0 : Int) ≤ (0 : Int) ∧ (0 : Int) < (↑v.snd.snd.fst.length : Int)) ∧ ∀ (d : List I6.den), ((true && freeM v (0 : Int)) = true → v.snd.snd.fst[(0 : Nat)]? = some d) → ((true && freeM v (0 : Int)) = true → d.length ≤ (4611686018427387904 : Nat)) ∧ ([] : List Go.Eng.Res) = [] ∧ Ent.one (SV.c (SC.v (Value.bool true))) = Ent.one (SV.c (SC.v (Value.bool (true && freeM v (0 : Int) && decide (d = [(1 : Int)]) && decide ((↑v.snd.snd.snd.fst.length : Int) = (0 : Int)))))) := by
  refine ⟨⟨trivial, ⟨by decide, by decide, by decide, by decide, by decide, fun x hx => ?_, by decide⟩, 0, rfl, ⟨rfl, rfl, trivial⟩, rfl⟩, fun _ _ => ?_⟩
  · rw [List.mem_singleton] at hx; subst hx; exact Nat.zero_le _
  refine ⟨⟨bd0, 0, rfl, ⟨rfl, by rw [ex1], trivial⟩, by rw [ex1]⟩, fun _ _ => ?_⟩
  refine ⟨⟨bd1, 0, rfl, ⟨rfl, by rw [ex2], trivial⟩, by rw [ex2]⟩, fun _ _ => ?_⟩
  refine ⟨⟨bd2, 0, rfl, ⟨rfl, by rw [ex3], by rw [ex3], trivial⟩, by rw [ex3]⟩, fun _ _ => ?_⟩
  refine ⟨⟨bd3, 0, rfl, ⟨rfl, by rw [ex4], trivial⟩, by rw [ex4]; rfl⟩, fun _ _ => ?_⟩
  refine ⟨⟨bd3, 0, rfl, ⟨rfl, by rw [ex5], trivial⟩, by rw [ex5]⟩, fun _ _ => ?_⟩
  refine ⟨⟨bd4, _, rfl, ⟨by rw [ex6], by rw [ex6], trivial⟩, rfl⟩, fun m hm => ?_⟩
  subst hm
  refine ⟨fun _ => bd4, fun _ => by decide, fun d hd => ?_⟩
  have e7 : (true && freeM ([4], [-1], [[1]], [], ()) 0) = true := ex7
  have hd : ([[1]] : List (List Int))[0]? = some d := hd e7
  cases hd
  exact ⟨fun _ => by decide, rfl, by rw [e7]; rfl⟩
set_option maxHeartbeats 2000000 in
set_option maxRecDepth 100000 in
theorem f12_met : Go.Eng.Met Tryd.prog cx0.gd 12 ctExa :=
  (met_all (cx := cx0) (n := 102) (cl := cl12) (il := il12) (hl := hl12) (ml := ml12) (rc := []) (lits := []) (suf := []) (by kernel_rfl) tis_ok ⟨f43_met, f13_met, f18_met, f20_met, f24_met, f26_met, f34_met, f41_met, trivial⟩ trivial trivial trivial Tryd.func12 (by kernel_rfl) (by kernel_rfl) rfl (by kernel_rfl) (by kernel_rfl) (by simp) fun d hd => by
    obtain ⟨⟩ := d
    exact ex_of (ann12 ) (f12_vc ) (by kernel_rfl)).met
end Go.Proofs.YtkgjfkdcnoockaaDoor
set_option linter.unusedSimpArgs false
set_option linter.unusedVariables false
set_option maxRecDepth 100000
namespace Go.Proofs.YtkgjfkdcnoockaaDoor
open Go Go.Eng

theorem few_bnd {m : MD} (h : fewM m = true) : bndM m := by
  obtain ⟨vs, os, qs, sg, ⟨⟩⟩ := m
  unfold fewM at h
  simp only [Bool.and_eq_true, List.all_eq_true, decide_eq_true_eq] at h
  obtain ⟨⟨⟨⟨h1, h2⟩, h3⟩, h4⟩, h5⟩ := h
  refine ⟨by show vs.length ≤ 1000; omega, by show os.length ≤ 1000; omega, by show qs.length ≤ 1000; omega, by show sg.length ≤ 1000; omega, fun q hq => by have := h5 q hq; omega, ?_⟩
  have key : ∀ l : List (List Int), (∀ q ∈ l, q.length ≤ 60) → l.flatten.length ≤ 60 * l.length := by
    intro l
    induction l with
    | nil => intro _; simp
    | cons a l ih =>
      intro hl
      have := ih fun q hq => hl q (by simp [hq])
      have := hl a (by simp)
      simp only [List.flatten_cons, List.length_append, List.length_cons]; omega
  have := key qs h5
  show qs.flatten.length ≤ 100000
  omega
theorem write_bnd {m : MD} {x v : Int} (h : bndM m) : bndM (writeM m x v).1 := by
  obtain ⟨vs, os, qs, sg, ⟨⟩⟩ := m
  unfold writeM
  have z : bndM zM := ⟨by decide, by decide, by decide, by decide, by decide, by decide⟩
  split
  · split
    · exact ⟨by have := h.1; simpa using this, h.2⟩
    · exact z
  · exact z
theorem own_bnd {m : MD} {i id frm to : Int} (h : bndM m) : bndM (ownM m i id frm to).1 := by
  obtain ⟨vs, os, qs, sg, ⟨⟩⟩ := m
  unfold ownM
  have z : bndM zM := ⟨by decide, by decide, by decide, by decide, by decide, by decide⟩
  split
  · split
    · exact z
    · split
      · exact ⟨h.1, by have := h.2.1; simpa using this, h.2.2⟩
      · exact z
  · exact z
end Go.Proofs.YtkgjfkdcnoockaaDoor
set_option linter.unusedSimpArgs false
set_option linter.unusedVariables false
set_option maxRecDepth 100000
namespace Go.Proofs.YtkgjfkdcnoockaaDoor
open Go Go.Eng

@[reducible] def cl62 : List (Nat × CT) := []
@[reducible] def ann62 (l : List Int) (m : List Int) : Nat → Option (St → Ann) := fun k => match k with
  | 4 => some fun _ => .inv { α := Nat, slots := fun k => [(13, .c (.v (.int .i64 k)))], res := fun k => [], inv := fun k => k ≤ (l).length ∧ ∀ j < k, l[j]? = m[j]?, meas := fun k => (l).length - k }
  | _ => none
@[reducible] def il62 : List (Nat × IP) := []
@[reducible] def hl62 : List (Nat × Nat × CT) := []
@[reducible] def ml62 : List (Nat × MK) := []
set_option maxRecDepth 100000 in
theorem f62_vc (l : List Int) (m : List Int) (hpre : ctSm21.pre (l, m, ())) :
    br (!decide ((↑l.length : Int) = (↑m.length : Int))) (([] : List Go.Eng.Res) = [] ∧ Ent.one (SV.c (SC.v (Value.bool (decide (l = m))))) = Ent.one (SV.c (SC.v (Value.bool false)))) ((∃ x, (x ≤ l.length ∧ ∀ (j : Nat), j < x → l[j]? = m[j]?) ∧ (SV.c (SC.v (Value.int IntKind.i64 (0 : Int))) = SV.c (SC.v (Value.int IntKind.i64 (↑x : Int))) ∧ True) ∧ ([] : List (Go.Eng.Gd × Go.Eng.Res)) = []) ∧ ∀ (x : Nat), (x ≤ l.length ∧ ∀ (j : Nat), j < x → l[j]? = m[j]?) → br (decide ((↑x : Int) < (↑l.length : Int))) (((0 : Int) ≤ (↑x : Int) ∧ (↑x : Int) < (↑l.length : Int)) ∧ ∀ (d : Int), l[(↑x : Int).toNat]? = some d → ((0 : Int) ≤ (↑x : Int) ∧ (↑x : Int) < (↑m.length : Int)) ∧ ∀ (d_1 : Int), m[(↑x : Int).toNat]? = some d_1 → br (!decide (d = d_1)) (([] : List Go.Eng.Res) = [] ∧ Ent.one (SV.c (SC.v (Value.bool (decide (l = m))))) = Ent.one (SV.c (SC.v (Value.bool false)))) (InR IntKind.i64 ((↑x : Int) + (1 : Int)) ∧ ∃ x', (x' ≤ l.length ∧ ∀ (j : Nat), j < x' → l[j]? = m[j]?) ∧ (SV.c (SC.v (Value.int IntKind.i64 ((↑x : Int) + (1 : Int)))) = SV.c (SC.v (Value.int IntKind.i64 (↑x' : Int))) ∧ True) ∧ ([] : List (Go.Eng.Gd × Go.Eng.Res)) = [] ∧ l.length - x' < l.length - x)) (([] : List Go.Eng.Res) = [] ∧ Ent.one (SV.c (SC.v (Value.bool (decide (l = m))))) = Ent.one (SV.c (SC.v (Value.bool true))))) := by
  have hp : l.length ≤ 1000000 := hpre
  have fF : l ≠ m → ([] : List Go.Eng.Res) = [] ∧ Ent.one (SV.c (SC.v (Value.bool (decide (l = m))))) = Ent.one (SV.c (SC.v (Value.bool false))) := fun q => ⟨rfl, by rw [decide_eq_false q]⟩
  refine br_iff.2 ⟨fun h => fF fun q => ?_, fun h => ?_⟩
  · subst q; simp at h
  simp only [Bool.not_eq_false', decide_eq_true_eq] at h
  refine ⟨⟨0, ⟨by omega, fun j hj => by omega⟩, ⟨rfl, trivial⟩, rfl⟩, fun k hk => br_iff.2 ⟨fun g => ?_, fun g => ?_⟩⟩
  · simp only [decide_eq_true_eq] at g
    refine ⟨⟨by omega, by omega⟩, fun d hd => ⟨⟨by omega, by omega⟩, fun d1 hd1 => br_iff.2 ⟨fun g2 => fF fun q => ?_, fun g2 => ⟨InR_i64.2 (by omega), k + 1, ⟨by omega, fun j hj => ?_⟩, ⟨rfl, trivial⟩, rfl, by omega⟩⟩⟩⟩
    · subst q
      rw [hd] at hd1; cases hd1
      simp at g2
    · by_cases hjk : j = k
      · subst hjk
        have hd : l[j]? = some d := hd
        have hd1 : m[j]? = some d1 := hd1
        simp at g2
        rw [hd, hd1, g2]
      · exact hk.2 j (by omega)
  simp only [decide_eq_false_iff_not] at g
  have e : l = m := by
    apply List.ext_getElem?
    intro j
    by_cases hj : j < k
    · exact hk.2 j hj
    · rw [List.getElem?_eq_none (by omega), List.getElem?_eq_none (by omega)]
  exact ⟨rfl, by rw [decide_eq_true e]⟩
set_option maxHeartbeats 2000000 in
set_option maxRecDepth 100000 in
theorem f62_met : Go.Eng.Met Tryd.prog cx0.gd 62 ctSm21 :=
  (met_all (cx := cx0) (n := 26) (cl := cl62) (il := il62) (hl := hl62) (ml := ml62) (rc := []) (lits := []) (suf := []) (by kernel_rfl) tis_ok trivial trivial trivial trivial Tryd.func62 (by kernel_rfl) (by kernel_rfl) rfl (by kernel_rfl) (by kernel_rfl) (by simp) fun d hd => by
    obtain ⟨l, m, ⟨⟩⟩ := d
    exact ex_of (ann62 l m) (f62_vc l m hd) (by kernel_rfl)).met
@[reducible] def cl64 : List (Nat × CT) := [(62, ctSm21)]
@[reducible] def ann64 (l : List Int) (m : List Int) : Nat → Option (St → Ann) := fun _ => none
@[reducible] def il64 : List (Nat × IP) := []
@[reducible] def hl64 : List (Nat × Nat × CT) := []
@[reducible] def ml64 : List (Nat × MK) := []
set_option maxRecDepth 100000 in
theorem f64_vc (l : List Int) (m : List Int) (hpre : ctSm21.pre (l, m, ())) :
    l.length ≤ (1000000 : Nat) ∧ ([] : List Go.Eng.Res) = [] ∧ Ent.one (SV.c (SC.v (Value.bool (decide (l = m))))) = Ent.one (SV.c (SC.v (Value.bool (decide (l = m))))) := by
  exact ⟨hpre, rfl, rfl⟩
set_option maxHeartbeats 2000000 in
set_option maxRecDepth 100000 in
theorem f64_met : Go.Eng.Met Tryd.prog cx0.gd 64 ctSm21 :=
  (met_all (cx := cx0) (n := 8) (cl := cl64) (il := il64) (hl := hl64) (ml := ml64) (rc := []) (lits := []) (suf := []) (by kernel_rfl) tis_ok ⟨f62_met, trivial⟩ trivial trivial trivial Tryd.func64 (by kernel_rfl) (by kernel_rfl) rfl (by kernel_rfl) (by kernel_rfl) (by simp) fun d hd => by
    obtain ⟨l, m, ⟨⟩⟩ := d
    exact ex_of (ann64 l m) (f64_vc l m hd) (by kernel_rfl)).met
@[reducible] def ctEqF : CT := { ps := [.sl (.sl (.int .i64)), .sl (.sl (.int .i64))], pre := fun d => d.1.length ≤ 1000000 ∧ ∀ q ∈ d.1, q.length ≤ 1000000, res := fun d => ([], vB (decide (d.1 = d.2.1))) }
@[reducible] def cl63 : List (Nat × CT) := [(64, ctSm21)]
@[reducible] def ann63 (l : List (List Int)) (m : List (List Int)) : Nat → Option (St → Ann) := fun k => match k with
  | 4 => some fun _ => .inv { α := Nat, slots := fun k => [(17, .c (.v (.int .i64 k)))], res := fun k => [], inv := fun k => k ≤ (l).length ∧ ∀ j < k, l[j]? = m[j]?, meas := fun k => (l).length - k }
  | _ => none
@[reducible] def il63 : List (Nat × IP) := []
@[reducible] def hl63 : List (Nat × Nat × CT) := []
@[reducible] def ml63 : List (Nat × MK) := []
set_option maxRecDepth 100000 in
theorem f63_vc (l : List (List Int)) (m : List (List Int)) (hpre : ctEqF.pre (l, m, ())) :
    br (!decide ((↑l.length : Int) = (↑m.length : Int))) (([] : List Go.Eng.Res) = [] ∧ Ent.one (SV.c (SC.v (Value.bool (decide (l = m))))) = Ent.one (SV.c (SC.v (Value.bool false)))) ((∃ x, (x ≤ l.length ∧ ∀ (j : Nat), j < x → l[j]? = m[j]?) ∧ (SV.c (SC.v (Value.int IntKind.i64 (0 : Int))) = SV.c (SC.v (Value.int IntKind.i64 (↑x : Int))) ∧ True) ∧ ([] : List (Go.Eng.Gd × Go.Eng.Res)) = []) ∧ ∀ (x : Nat), (x ≤ l.length ∧ ∀ (j : Nat), j < x → l[j]? = m[j]?) → br (decide ((↑x : Int) < (↑l.length : Int))) (((0 : Int) ≤ (↑x : Int) ∧ (↑x : Int) < (↑l.length : Int)) ∧ ∀ (d : List I6.den), l[(↑x : Int).toNat]? = some d → ((0 : Int) ≤ (↑x : Int) ∧ (↑x : Int) < (↑m.length : Int)) ∧ ∀ (d_1 : List I6.den), m[(↑x : Int).toNat]? = some d_1 → d.length ≤ (1000000 : Nat) ∧ br (!decide (d = d_1)) (([] : List Go.Eng.Res) = [] ∧ Ent.one (SV.c (SC.v (Value.bool (decide (l = m))))) = Ent.one (SV.c (SC.v (Value.bool false)))) (InR IntKind.i64 ((↑x : Int) + (1 : Int)) ∧ ∃ x', (x' ≤ l.length ∧ ∀ (j : Nat), j < x' → l[j]? = m[j]?) ∧ (SV.c (SC.v (Value.int IntKind.i64 ((↑x : Int) + (1 : Int)))) = SV.c (SC.v (Value.int IntKind.i64 (↑x' : Int))) ∧ True) ∧ ([] : List (Go.Eng.Gd × Go.Eng.Res)) = [] ∧ l.length - x' < l.length - x)) (([] : List Go.Eng.Res) = [] ∧ Ent.one (SV.c (SC.v (Value.bool (decide (l = m))))) = Ent.one (SV.c (SC.v (Value.bool true))))) := by
  obtain ⟨hp, h6⟩ : l.length ≤ 1000000 ∧ ∀ q ∈ l, q.length ≤ 1000000 := hpre
  have fF : l ≠ m → ([] : List Go.Eng.Res) = [] ∧ Ent.one (SV.c (SC.v (Value.bool (decide (l = m))))) = Ent.one (SV.c (SC.v (Value.bool false))) := fun q => ⟨rfl, by rw [decide_eq_false q]⟩
  refine br_iff.2 ⟨fun h => fF fun q => ?_, fun h => ?_⟩
  · subst q; simp at h
  simp only [Bool.not_eq_false', decide_eq_true_eq] at h
  refine ⟨⟨0, ⟨by omega, fun j hj => by omega⟩, ⟨rfl, trivial⟩, rfl⟩, fun k hk => br_iff.2 ⟨fun g => ?_, fun g => ?_⟩⟩
  · simp only [decide_eq_true_eq] at g
    refine ⟨⟨by omega, by omega⟩, fun d hd => ⟨⟨by omega, by omega⟩, fun d1 hd1 => ⟨h6 d (List.mem_of_getElem? hd), br_iff.2 ⟨fun g2 => fF fun q => ?_, fun g2 => ⟨InR_i64.2 (by omega), k + 1, ⟨by omega, fun j hj => ?_⟩, ⟨rfl, trivial⟩, rfl, by omega⟩⟩⟩⟩⟩
    · subst q
      rw [hd] at hd1; cases hd1
      simp at g2
    · by_cases hjk : j = k
      · subst hjk
        have hd : l[j]? = some d := hd
        have hd1 : m[j]? = some d1 := hd1
        simp at g2
        rw [hd, hd1, g2]
      · exact hk.2 j (by omega)
  simp only [decide_eq_false_iff_not] at g
  have e : l = m := by
    apply List.ext_getElem?
    intro j
    by_cases hj : j < k
    · exact hk.2 j hj
    · rw [List.getElem?_eq_none (by omega), List.getElem?_eq_none (by omega)]
  exact ⟨rfl, by rw [decide_eq_true e]⟩
set_option maxHeartbeats 2000000 in
set_option maxRecDepth 100000 in
theorem f63_metx : MetX Tryd.prog cx0.gd 63 [.func (.func 64) #[] #[]] ctEqF :=
  (met_all (cx := cx0) (n := 32) (cl := cl63) (il := il63) (hl := hl63) (ml := ml63) (rc := []) (lits := []) (suf := [.func (.func 64) #[] #[]]) (by kernel_rfl) tis_ok ⟨f64_met, trivial⟩ trivial trivial trivial Tryd.func63 (by kernel_rfl) (by kernel_rfl) rfl (by kernel_rfl) (by kernel_rfl) (by simp) fun d hd => by
    obtain ⟨l, m, ⟨⟩⟩ := d
    exact ex_of (ann63 l m) (f63_vc l m hd) (by kernel_rfl))
@[reducible] def cl39 : List (Nat × CT) := [(62, ctSm21)]
@[reducible] def ann39 (vs : List Int) (os : List Int) (qs : List (List Int)) (sg : List Int) (vs2 : List Int) (os2 : List Int) (qs2 : List (List Int)) (sg2 : List Int) : Nat → Option (St → Ann) := fun _ => none
@[reducible] def il39 : List (Nat × IP) := []
@[reducible] def hl39 : List (Nat × Nat × CT) := [(63, 64, ctEqF)]
@[reducible] def ml39 : List (Nat × MK) := []
set_option maxRecDepth 100000 in
theorem f39_vc (vs : List Int) (os : List Int) (qs : List (List Int)) (sg : List Int) (vs2 : List Int) (os2 : List Int) (qs2 : List (List Int)) (sg2 : List Int) (hpre : ctEq21.pre ((vs, os, qs, sg, ()), (vs2, os2, qs2, sg2, ()), ())) :
    vs.length ≤ (1000000 : Nat) ∧ (decide (vs = vs2) = true → os.length ≤ (1000000 : Nat)) ∧ ((decide (vs = vs2) && decide (os = os2)) = true → sg.length ≤ (1000000 : Nat)) ∧ ((decide (vs = vs2) && decide (os = os2) && decide (sg = sg2)) = true → qs.length ≤ (1000000 : Nat) ∧ ∀ (q : List I6.den), q ∈ qs → q.length ≤ (1000000 : Nat)) ∧ ([] : List Go.Eng.Res) = [] ∧ Ent.one (SV.c (SC.v (Value.bool (decide ((vs, os, qs, sg, ()) = (vs2, os2, qs2, sg2, ())))))) = Ent.one (SV.c (SC.v (Value.bool (decide (vs = vs2) && decide (os = os2) && decide (sg = sg2) && decide (qs = qs2))))) := by
  obtain ⟨b1, b2, b3, b4, b5, b6⟩ : vs.length ≤ 1000 ∧ os.length ≤ 1000 ∧ qs.length ≤ 1000 ∧ sg.length ≤ 1000 ∧ (∀ q ∈ qs, q.length ≤ 1000) ∧ qs.flatten.length ≤ 100000 := hpre
  have e : decide ((vs, os, qs, sg, ()) = (vs2, os2, qs2, sg2, ())) = (decide (vs = vs2) && decide (os = os2) && decide (sg = sg2) && decide (qs = qs2)) := by
    rw [Bool.eq_iff_iff]
    simp only [decide_eq_true_eq, Bool.and_eq_true, Prod.mk.injEq, and_true]
    constructor
    · rintro ⟨h1, h2, h3, h4⟩; exact ⟨⟨⟨h1, h2⟩, h4⟩, h3⟩
    · rintro ⟨⟨⟨h1, h2⟩, h4⟩, h3⟩; exact ⟨h1, h2, h3, h4⟩
  refine ⟨by omega, fun _ => by omega, fun _ => by omega, fun _ => ⟨by omega, fun q hq => by have := b5 q hq; omega⟩, rfl, ?_⟩
  rw [e]
set_option maxHeartbeats 2000000 in
set_option maxRecDepth 100000 in
theorem f39_met : Go.Eng.Met Tryd.prog cx0.gd 39 ctEq21 :=
  (met_all (cx := cx0) (n := 31) (cl := cl39) (il := il39) (hl := hl39) (ml := ml39) (rc := []) (lits := []) (suf := []) (by kernel_rfl) tis_ok ⟨f62_met, trivial⟩ trivial ⟨f63_metx, trivial⟩ trivial Tryd.func39 (by kernel_rfl) (by kernel_rfl) rfl (by kernel_rfl) (by kernel_rfl) (by simp) fun d hd => by
    obtain ⟨⟨vs, os, qs, sg, ⟨⟩⟩, ⟨vs2, os2, qs2, sg2, ⟨⟩⟩, ⟨⟩⟩ := d
    exact ex_of (ann39 vs os qs sg vs2 os2 qs2 sg2) (f39_vc vs os qs sg vs2 os2 qs2 sg2 hd) (by kernel_rfl)).met
theorem mutex_facts {vs os : List Int} {qs : List (List Int)} {sg : List Int} {i id other : Int} (hE : ownE (vs, os, qs, sg, ()) i id (-1) = 0) :
    (ownM (vs, os.set i.toNat id, qs, sg, ()) i other (-1) other).2 ≠ 0 ∧ (¬ other = id → (ownM (vs, os.set i.toNat id, qs, sg, ()) i other other (-1)).2 ≠ 0) ∧
    ownM (vs, os.set i.toNat id, qs, sg, ()) i id id (-1) = ((vs, os, qs, sg, ()), 0) ∧ freeM (vs, os.set i.toNat id, qs, sg, ()) i = false ∧ freeM (vs, os, qs, sg, ()) i = true := by
  obtain ⟨k0, k1, k2⟩ := ownE_zero hE
  obtain ⟨x1, x2, x3⟩ := insM_zero.1 k0
  have k2 : os[i.toNat]?.getD 0 = -1 := k2
  have x3 : i < os.length := x3
  have hn : i.toNat < os.length := by omega
  obtain ⟨q1, q2, q3, q4, q5, q6, q7, q8⟩ : vs.length ≤ 8 ∧ os.length ≤ 4 ∧ qs.length ≤ 4 ∧ SS sg ∧ (∀ v ∈ vs, valS v = true) ∧ (∀ o ∈ os, -1 ≤ o) ∧ (∀ x ∈ sg ++ qs.flatten, 0 ≤ x) ∧ (sg ++ qs.flatten).Nodup := formM_iff.1 x1
  have fA : formM (vs, os.set i.toNat id, qs, sg, ()) = true := formM_iff.2 ⟨q1, by rw [List.length_set]; exact q2, q3, q4, q5, fun o ho => by
    rcases List.mem_or_eq_of_mem_set ho with h | h
    · exact q6 o h
    · omega, q7, q8⟩
  have iA : insM (vs, os.set i.toNat id, qs, sg, ()) i (os.set i.toNat id).length = 0 := insM_zero.2 ⟨fA, x2, by rw [List.length_set]; exact x3⟩
  have gA : (os.set i.toNat id)[i.toNat]?.getD 0 = id := by rw [List.getElem?_set_self hn]; rfl
  have s2 : (os.set i.toNat id).set i.toNat (-1) = os := by
    rw [List.set_set]
    apply List.ext_getElem?
    intro j
    by_cases hj : i.toNat = j
    · subst hj
      rw [List.getElem?_set_self hn, List.getElem?_eq_getElem hn] 
      rw [List.getElem?_eq_getElem hn] at k2
      exact congrArg some k2.symm
    · rw [List.getElem?_set_ne hj]
  refine ⟨?_, fun hne => ?_, ?_, ?_, ?_⟩
  · unfold ownM
    rw [if_pos iA]
    split
    · decide
    · rw [show (vs, os.set i.toNat id, qs, sg, ()).2.1[i.toNat]?.getD 0 = id from gA, if_neg (by omega)]; decide
  · unfold ownM
    rw [if_pos iA]
    split
    · decide
    · rw [show (vs, os.set i.toNat id, qs, sg, ()).2.1[i.toNat]?.getD 0 = id from gA, if_neg (fun h => hne h.symm)]; decide
  · unfold ownM
    rw [if_pos iA, if_neg k1, if_pos gA]
    show ((vs, (os.set i.toNat id).set i.toNat (-1), qs, sg, ()), (0 : Int)) = _
    rw [s2]
  · unfold freeM
    rw [show (vs, os.set i.toNat id, qs, sg, ()).2.1[i.toNat]?.getD 0 = id from gA, decide_eq_false (show ¬ id = -1 by omega), Bool.and_false]
  · unfold freeM
    rw [decide_eq_true k0, decide_eq_true (show (vs, os, qs, sg, ()).2.1[i.toNat]?.getD 0 = -1 from k2)]; rfl
@[reducible] def ctL9 : CT := { ps := [.pair shM (.pair (.int .i64) (.pair (.int .i64) (.pair (.int .i64) .unit)))], pre := fun d => True, res := fun d => ([], vB (true)) }
@[reducible] noncomputable def cl9 : List (Nat × CT) := [(11, ctFew), (12, ctExa), (30, ctAcq), (32, ctRel), (34, ctFr), (39, ctEq21)]
@[reducible] def ann9 (vs : List Int) (os : List Int) (qs : List (List Int)) (sg : List Int) (i : Int) (id : Int) (other : Int) : Nat → Option (St → Ann) := fun _ => none
@[reducible] def il9 : List (Nat × IP) := []
@[reducible] def hl9 : List (Nat × Nat × CT) := []
@[reducible] noncomputable def ml9 : List (Nat × MK) := []
set_option maxRecDepth 100000 in
theorem f9_vc (vs : List Int) (os : List Int) (qs : List (List Int)) (sg : List Int) (i : Int) (id : Int) (other : Int) :
    True ∧ br (!fewM (vs, os, qs, sg, ())) (True ∧ ([] : List Go.Eng.Res) = [] ∧ Ent.one (SV.c (SC.v (Value.bool true))) = Ent.one (SV.c (SC.v (Value.bool true)))) (bndM (vs, os, qs, sg, ()) ∧ br (!decide ((ownM (vs, os, qs, sg, ()) i id (-1 : Int) id).snd = (0 : Int))) (True ∧ ([] : List Go.Eng.Res) = [] ∧ Ent.one (SV.c (SC.v (Value.bool true))) = Ent.one (SV.c (SC.v (Value.bool true)))) (bndM ((ownM (vs, os, qs, sg, ()) i id (-1 : Int) id).fst.fst, (ownM (vs, os, qs, sg, ()) i id (-1 : Int) id).fst.snd.fst, (ownM (vs, os, qs, sg, ()) i id (-1 : Int) id).fst.snd.snd.fst, (ownM (vs, os, qs, sg, ()) i id (-1 : Int) id).fst.snd.snd.snd.fst, ()) ∧ bndM ((ownM (vs, os, qs, sg, ()) i id (-1 : Int) id).fst.fst, (ownM (vs, os, qs, sg, ()) i id (-1 : Int) id).fst.snd.fst, (ownM (vs, os, qs, sg, ()) i id (-1 : Int) id).fst.snd.snd.fst, (ownM (vs, os, qs, sg, ()) i id (-1 : Int) id).fst.snd.snd.snd.fst, ()) ∧ bndM ((ownM (vs, os, qs, sg, ()) i id (-1 : Int) id).fst.fst, (ownM (vs, os, qs, sg, ()) i id (-1 : Int) id).fst.snd.fst, (ownM (vs, os, qs, sg, ()) i id (-1 : Int) id).fst.snd.snd.fst, (ownM (vs, os, qs, sg, ()) i id (-1 : Int) id).fst.snd.snd.snd.fst, ()) ∧ bndM ((ownM (vs, os, qs, sg, ()) i id (-1 : Int) id).fst.fst, (ownM (vs, os, qs, sg, ()) i id (-1 : Int) id).fst.snd.fst, (ownM (vs, os, qs, sg, ()) i id (-1 : Int) id).fst.snd.snd.fst, (ownM (vs, os, qs, sg, ()) i id (-1 : Int) id).fst.snd.snd.snd.fst, ()) ∧ ((!freeM ((ownM (vs, os, qs, sg, ()) i id (-1 : Int) id).fst.fst, (ownM (vs, os, qs, sg, ()) i id (-1 : Int) id).fst.snd.fst, (ownM (vs, os, qs, sg, ()) i id (-1 : Int) id).fst.snd.snd.fst, (ownM (vs, os, qs, sg, ()) i id (-1 : Int) id).fst.snd.snd.snd.fst, ()) i) = true → bndM (vs, os, qs, sg, ())) ∧ br (freeM ((ownM (vs, os, qs, sg, ()) i id (-1 : Int) id).fst.fst, (ownM (vs, os, qs, sg, ()) i id (-1 : Int) id).fst.snd.fst, (ownM (vs, os, qs, sg, ()) i id (-1 : Int) id).fst.snd.snd.fst, (ownM (vs, os, qs, sg, ()) i id (-1 : Int) id).fst.snd.snd.snd.fst, ()) i || !freeM (vs, os, qs, sg, ()) i || decide ((ownM ((ownM (vs, os, qs, sg, ()) i id (-1 : Int) id).fst.fst, (ownM (vs, os, qs, sg, ()) i id (-1 : Int) id).fst.snd.fst, (ownM (vs, os, qs, sg, ()) i id (-1 : Int) id).fst.snd.snd.fst, (ownM (vs, os, qs, sg, ()) i id (-1 : Int) id).fst.snd.snd.snd.fst, ()) i other (-1 : Int) other).snd = (0 : Int)) || !decide (other = id) && decide ((ownM ((ownM (vs, os, qs, sg, ()) i id (-1 : Int) id).fst.fst, (ownM (vs, os, qs, sg, ()) i id (-1 : Int) id).fst.snd.fst, (ownM (vs, os, qs, sg, ()) i id (-1 : Int) id).fst.snd.snd.fst, (ownM (vs, os, qs, sg, ()) i id (-1 : Int) id).fst.snd.snd.snd.fst, ()) i other other (-1 : Int)).snd = (0 : Int))) (([] : List Go.Eng.Res) = [] ∧ Ent.one (SV.c (SC.v (Value.bool true))) = Ent.one (SV.c (SC.v (Value.bool false)))) ((decide ((ownM ((ownM (vs, os, qs, sg, ()) i id (-1 : Int) id).fst.fst, (ownM (vs, os, qs, sg, ()) i id (-1 : Int) id).fst.snd.fst, (ownM (vs, os, qs, sg, ()) i id (-1 : Int) id).fst.snd.snd.fst, (ownM (vs, os, qs, sg, ()) i id (-1 : Int) id).fst.snd.snd.snd.fst, ()) i id id (-1 : Int)).snd = (0 : Int)) = true → bndM ((ownM ((ownM (vs, os, qs, sg, ()) i id (-1 : Int) id).fst.fst, (ownM (vs, os, qs, sg, ()) i id (-1 : Int) id).fst.snd.fst, (ownM (vs, os, qs, sg, ()) i id (-1 : Int) id).fst.snd.snd.fst, (ownM (vs, os, qs, sg, ()) i id (-1 : Int) id).fst.snd.snd.snd.fst, ()) i id id (-1 : Int)).fst.fst, (ownM ((ownM (vs, os, qs, sg, ()) i id (-1 : Int) id).fst.fst, (ownM (vs, os, qs, sg, ()) i id (-1 : Int) id).fst.snd.fst, (ownM (vs, os, qs, sg, ()) i id (-1 : Int) id).fst.snd.snd.fst, (ownM (vs, os, qs, sg, ()) i id (-1 : Int) id).fst.snd.snd.snd.fst, ()) i id id (-1 : Int)).fst.snd.fst, (ownM ((ownM (vs, os, qs, sg, ()) i id (-1 : Int) id).fst.fst, (ownM (vs, os, qs, sg, ()) i id (-1 : Int) id).fst.snd.fst, (ownM (vs, os, qs, sg, ()) i id (-1 : Int) id).fst.snd.snd.fst, (ownM (vs, os, qs, sg, ()) i id (-1 : Int) id).fst.snd.snd.snd.fst, ()) i id id (-1 : Int)).fst.snd.snd.fst, (ownM ((ownM (vs, os, qs, sg, ()) i id (-1 : Int) id).fst.fst, (ownM (vs, os, qs, sg, ()) i id (-1 : Int) id).fst.snd.fst, (ownM (vs, os, qs, sg, ()) i id (-1 : Int) id).fst.snd.snd.fst, (ownM (vs, os, qs, sg, ()) i id (-1 : Int) id).fst.snd.snd.snd.fst, ()) i id id (-1 : Int)).fst.snd.snd.snd.fst, ())) ∧ ((decide ((ownM ((ownM (vs, os, qs, sg, ()) i id (-1 : Int) id).fst.fst, (ownM (vs, os, qs, sg, ()) i id (-1 : Int) id).fst.snd.fst, (ownM (vs, os, qs, sg, ()) i id (-1 : Int) id).fst.snd.snd.fst, (ownM (vs, os, qs, sg, ()) i id (-1 : Int) id).fst.snd.snd.snd.fst, ()) i id id (-1 : Int)).snd = (0 : Int)) && decide (((ownM ((ownM (vs, os, qs, sg, ()) i id (-1 : Int) id).fst.fst, (ownM (vs, os, qs, sg, ()) i id (-1 : Int) id).fst.snd.fst, (ownM (vs, os, qs, sg, ()) i id (-1 : Int) id).fst.snd.snd.fst, (ownM (vs, os, qs, sg, ()) i id (-1 : Int) id).fst.snd.snd.snd.fst, ()) i id id (-1 : Int)).fst.fst, (ownM ((ownM (vs, os, qs, sg, ()) i id (-1 : Int) id).fst.fst, (ownM (vs, os, qs, sg, ()) i id (-1 : Int) id).fst.snd.fst, (ownM (vs, os, qs, sg, ()) i id (-1 : Int) id).fst.snd.snd.fst, (ownM (vs, os, qs, sg, ()) i id (-1 : Int) id).fst.snd.snd.snd.fst, ()) i id id (-1 : Int)).fst.snd.fst, (ownM ((ownM (vs, os, qs, sg, ()) i id (-1 : Int) id).fst.fst, (ownM (vs, os, qs, sg, ()) i id (-1 : Int) id).fst.snd.fst, (ownM (vs, os, qs, sg, ()) i id (-1 : Int) id).fst.snd.snd.fst, (ownM (vs, os, qs, sg, ()) i id (-1 : Int) id).fst.snd.snd.snd.fst, ()) i id id (-1 : Int)).fst.snd.snd.fst, (ownM ((ownM (vs, os, qs, sg, ()) i id (-1 : Int) id).fst.fst, (ownM (vs, os, qs, sg, ()) i id (-1 : Int) id).fst.snd.fst, (ownM (vs, os, qs, sg, ()) i id (-1 : Int) id).fst.snd.snd.fst, (ownM (vs, os, qs, sg, ()) i id (-1 : Int) id).fst.snd.snd.snd.fst, ()) i id id (-1 : Int)).fst.snd.snd.snd.fst, ()) = (vs, os, qs, sg, ()))) = true → True) ∧ ([] : List Go.Eng.Res) = [] ∧ Ent.one (SV.c (SC.v (Value.bool true))) = Ent.one (SV.c (SC.v (Value.bool (decide ((ownM ((ownM (vs, os, qs, sg, ()) i id (-1 : Int) id).fst.fst, (ownM (vs, os, qs, sg, ()) i id (-1 : Int) id).fst.snd.fst, (ownM (vs, os, qs, sg, ()) i id (-1 : Int) id).fst.snd.snd.fst, (ownM (vs, os, qs, sg, ()) i id (-1 : Int) id).fst.snd.snd.snd.fst, ()) i id id (-1 : Int)).snd = (0 : Int)) && decide (((ownM ((ownM (vs, os, qs, sg, ()) i id (-1 : Int) id).fst.fst, (ownM (vs, os, qs, sg, ()) i id (-1 : Int) id).fst.snd.fst, (ownM (vs, os, qs, sg, ()) i id (-1 : Int) id).fst.snd.snd.fst, (ownM (vs, os, qs, sg, ()) i id (-1 : Int) id).fst.snd.snd.snd.fst, ()) i id id (-1 : Int)).fst.fst, (ownM ((ownM (vs, os, qs, sg, ()) i id (-1 : Int) id).fst.fst, (ownM (vs, os, qs, sg, ()) i id (-1 : Int) id).fst.snd.fst, (ownM (vs, os, qs, sg, ()) i id (-1 : Int) id).fst.snd.snd.fst, (ownM (vs, os, qs, sg, ()) i id (-1 : Int) id).fst.snd.snd.snd.fst, ()) i id id (-1 : Int)).fst.snd.fst, (ownM ((ownM (vs, os, qs, sg, ()) i id (-1 : Int) id).fst.fst, (ownM (vs, os, qs, sg, ()) i id (-1 : Int) id).fst.snd.fst, (ownM (vs, os, qs, sg, ()) i id (-1 : Int) id).fst.snd.snd.fst, (ownM (vs, os, qs, sg, ()) i id (-1 : Int) id).fst.snd.snd.snd.fst, ()) i id id (-1 : Int)).fst.snd.snd.fst, (ownM ((ownM (vs, os, qs, sg, ()) i id (-1 : Int) id).fst.fst, (ownM (vs, os, qs, sg, ()) i id (-1 : Int) id).fst.snd.fst, (ownM (vs, os, qs, sg, ()) i id (-1 : Int) id).fst.snd.snd.fst, (ownM (vs, os, qs, sg, ()) i id (-1 : Int) id).fst.snd.snd.snd.fst, ()) i id id (-1 : Int)).fst.snd.snd.snd.fst, ()) = (vs, os, qs, sg, ())) && true))))))) := by
  refine ⟨trivial, br_iff.2 ⟨fun _ => ⟨trivial, rfl, rfl⟩, fun h => ?_⟩⟩
  have hb : bndM (vs, os, qs, sg, ()) := few_bnd (by simpa using h)
  refine ⟨hb, br_iff.2 ⟨fun _ => ⟨trivial, rfl, rfl⟩, fun h0 => ?_⟩⟩
  have h0 : (ownM (vs, os, qs, sg, ()) i id (-1) id).2 = 0 := by simpa using h0
  have hE : ownE (vs, os, qs, sg, ()) i id (-1) = 0 := by
    refine Classical.byContradiction fun q => ?_
    rw [ownM_bad q] at h0; exact q h0
  have eX : ownM (vs, os, qs, sg, ()) i id (-1) id = ((vs, os.set i.toNat id, qs, sg, ()), 0) := ownM_ok hE
  have ba : bndM (vs, os.set i.toNat id, qs, sg, ()) := by
    have := own_bnd (i := i) (id := id) (frm := -1) (to := id) hb
    rw [eX] at this; exact this
  obtain ⟨e2, e3, e4, e5, e6⟩ := mutex_facts (other := other) hE
  rw [eX]
  refine ⟨ba, ba, ba, ba, fun _ => hb, br_iff.2 ⟨fun g => ?_, fun g => ⟨fun _ => own_bnd ba, fun _ => trivial, rfl, ?_⟩⟩⟩
  · have g : (freeM (vs, os.set i.toNat id, qs, sg, ()) i || !freeM (vs, os, qs, sg, ()) i || decide ((ownM (vs, os.set i.toNat id, qs, sg, ()) i other (-1) other).2 = 0) || !decide (other = id) && decide ((ownM (vs, os.set i.toNat id, qs, sg, ()) i other other (-1)).2 = 0)) = true := g
    rw [e5, e6, decide_eq_false e2] at g
    simp at g
    exact absurd g.2 (e3 g.1)
  · have e : (decide ((ownM (vs, os.set i.toNat id, qs, sg, ()) i id id (-1)).2 = 0) && decide ((ownM (vs, os.set i.toNat id, qs, sg, ()) i id id (-1)).1 = (vs, os, qs, sg, ())) && true) = true := by rw [e4]; simp
    exact congrArg (fun b => Ent.one (SV.c (SC.v (Value.bool b)))) e.symm
set_option maxHeartbeats 2000000 in
set_option maxRecDepth 100000 in
theorem f9_met : Go.Eng.Met Tryd.prog cx0.gd 9 ctL9 :=
  (met_all (cx := cx0) (n := 90) (cl := cl9) (il := il9) (hl := hl9) (ml := ml9) (rc := []) (lits := []) (suf := []) (by kernel_rfl) tis_ok ⟨f11_met, f12_met, f30_met, f32_met, f34_met, f39_met, trivial⟩ trivial trivial trivial Tryd.func9 (by kernel_rfl) (by kernel_rfl) rfl (by kernel_rfl) (by kernel_rfl) (by simp) fun d hd => by
    obtain ⟨⟨⟨vs, os, qs, sg, ⟨⟩⟩, i, id, other, ⟨⟩⟩, ⟨⟩⟩ := d
    exact ex_of (ann9 vs os qs sg i id other) (f9_vc vs os qs sg i id other) (by kernel_rfl)).met
end Go.Proofs.YtkgjfkdcnoockaaDoor
set_option linter.unusedSimpArgs false
set_option linter.unusedVariables false
set_option maxRecDepth 1000000
namespace Go.Proofs.YtkgjfkdcnoockaaDoor
open Go Go.Eng Go.ChangeShapes Go.WideShapes Go.ChangeAt Go.RowKit
theorem own : ownKnob Tryd.prog.godebug = none := by kernel_rfl
theorem laidOut : laidOutB Tryd.prog = true := by kernel_rfl
theorem rowed : mapsRowed Tryd.prog = true := by kernel_rfl
theorem full : ∀ t e, t < Tryd.prog.types.size → Tryd.prog.underlying t = some (.slice e) → 0 < Tryd.prog.cellsOf e := slices_full_of _ (by kernel_rfl)
theorem gname0 : Tryd.prog.globalNamed "modelcheck/inst.rows" = some 0 := by kernel_rfl
theorem gtype0 : (Tryd.prog.globals[0]?).map (·.type) = some 118 := by kernel_rfl
theorem gsok0 : (SOK Tryd.prog (.arr 22 (.pair .str (.pair (.arr 7 .bool) .unit)))).1 118 = true := by kernel_rfl
theorem gname1 : Tryd.prog.globalNamed "modelcheck/value.names" = some 1 := by kernel_rfl
theorem gtype1 : (Tryd.prog.globals[1]?).map (·.type) = some 126 := by kernel_rfl
theorem gsok1 : (SOK Tryd.prog (.arr 10 .str)).1 126 = true := by kernel_rfl
noncomputable def laidWorld (os : Os) : World :=
  { World.holding Tryd.prog os ⟨#[], #[], []⟩ with heap := (((World.holding Tryd.prog os ⟨#[], #[], []⟩).heap).modify 0 (lay #[.string ⟨#[99, 111, 110, 115, 116]⟩, .bool true, .bool false, .bool false, .bool false, .bool true, .bool false, .bool false, .string ⟨#[99, 111, 112, 121]⟩, .bool true, .bool true, .bool false, .bool false, .bool false, .bool false, .bool false, .string ⟨#[99, 97, 108, 99]⟩, .bool true, .bool true, .bool true, .bool false, .bool false, .bool true, .bool false, .string ⟨#[106, 117, 109, 112]⟩, .bool false, .bool false, .bool false, .bool false, .bool true, .bool false, .bool false, .string ⟨#[98, 114, 97, 110, 99, 104]⟩, .bool false, .bool true, .bool false, .bool false, .bool true, .bool false, .bool false, .string ⟨#[97, 115, 115, 101, 114, 116]⟩, .bool false, .bool true, .bool false, .bool false, .bool false, .bool false, .bool false, .string ⟨#[115, 116, 111, 112]⟩, .bool false, .bool false, .bool false, .bool false, .bool false, .bool false, .bool false, .string ⟨#[108, 111, 97, 100]⟩, .bool true, .bool false, .bool false, .bool true, .bool false, .bool false, .bool true, .string ⟨#[115, 116, 111, 114, 101]⟩, .bool false, .bool true, .bool false, .bool true, .bool false, .bool false, .bool true, .string ⟨#[115, 119, 97, 112]⟩, .bool true, .bool true, .bool false, .bool true, .bool false, .bool false, .bool true, .string ⟨#[102, 101, 116, 99, 104, 97, 100, 100]⟩, .bool true, .bool true, .bool false, .bool true, .bool false, .bool false, .bool true, .string ⟨#[99, 97, 115]⟩, .bool true, .bool true, .bool true, .bool true, .bool false, .bool false, .bool true, .string ⟨#[102, 101, 110, 99, 101]⟩, .bool false, .bool false, .bool false, .bool false, .bool false, .bool false, .bool false, .string ⟨#[97, 119, 97, 105, 116]⟩, .bool true, .bool true, .bool false, .bool true, .bool false, .bool true, .bool true, .string ⟨#[108, 111, 99, 107]⟩, .bool false, .bool false, .bool false, .bool true, .bool false, .bool false, .bool false, .string ⟨#[117, 110, 108, 111, 99, 107]⟩, .bool false, .bool false, .bool false, .bool true, .bool false, .bool false, .bool false, .string ⟨#[116, 114, 121, 108, 111, 99, 107]⟩, .bool true, .bool false, .bool false, .bool true, .bool false, .bool false, .bool false, .string ⟨#[119, 97, 105, 116]⟩, .bool false, .bool false, .bool false, .bool true, .bool true, .bool false, .bool false, .string ⟨#[115, 105, 103, 110, 97, 108]⟩, .bool false, .bool false, .bool false, .bool true, .bool false, .bool false, .bool false, .string ⟨#[98, 114, 111, 97, 100, 99, 97, 115, 116]⟩, .bool false, .bool false, .bool false, .bool true, .bool false, .bool false, .bool false, .string ⟨#[115, 112, 97, 119, 110]⟩, .bool true, .bool true, .bool false, .bool true, .bool false, .bool false, .bool false, .string ⟨#[106, 111, 105, 110]⟩, .bool false, .bool true, .bool false, .bool false, .bool false, .bool false, .bool false])).modify 1 (lay #[.string ⟨#[97, 100, 100]⟩, .string ⟨#[115, 117, 98]⟩, .string ⟨#[109, 117, 108]⟩, .string ⟨#[97, 110, 100]⟩, .string ⟨#[111, 114]⟩, .string ⟨#[120, 111, 114]⟩, .string ⟨#[101, 113]⟩, .string ⟨#[110, 101]⟩, .string ⟨#[108, 116]⟩, .string ⟨#[108, 101]⟩]) }
namespace memoryMutexL
theorem globs {W : World} (hL : laidMetH Tryd.prog Rows.memoryMutexRow.laid W) : GlobOK gd0 (FH.all W) := by
  intro g p hp
  unfold gd0 at hp
  split at hp
  · cases hp; exact glob_open hL (by kernel_rfl) (n := "modelcheck/inst.rows") (D := Rows.laid_modelcheck_inst_rows) (by simp [Rows.memoryMutexRow]) gname0 gtype0 gsok0 (by kernel_rfl)
  · cases hp; exact glob_open hL (by kernel_rfl) (n := "modelcheck/value.names") (D := Rows.laid_modelcheck_value_names) (by simp [Rows.memoryMutexRow]) gname1 gtype1 gsok1 (by kernel_rfl)
  · cases hp
theorem laid_met (os : Os) : laidMet Tryd.prog Rows.memoryMutexRow.laid ((laidWorld os).forCall (fun _ _ => 0) ⟨#[], #[.agg #[.slice none 0 0, .slice none 0 0, .slice none 0 0, .slice none 0 0, .int .i64 0, .int .i64 0, .int .i64 0]], []⟩).memory :=
  laidMet_of_run' 20 (by kernel_rfl) (by kernel_rfl)
theorem reads (os : Os) {H : Type} (enc : TypeId × Value → H) : ∃ places, DataW.whole enc Tryd.prog ((laidWorld os).forCall (fun _ _ => 0) ⟨#[], #[.agg #[.slice none 0 0, .slice none 0 0, .slice none 0 0, .slice none 0 0, .int .i64 0, .int .i64 0, .int .i64 0]], []⟩).memory Tryd.f9.params.toList Rows.memoryMutexSpec.vars false (#[.agg #[.slice none 0 0, .slice none 0 0, .slice none 0 0, .slice none 0 0, .int .i64 0, .int .i64 0, .int .i64 0]] : Array Value).toList 20 = some ([.agg [.agg [.nil, .nil, .nil, .nil], .lit (.int .i64 0), .lit (.int .i64 0), .lit (.int .i64 0)]], [], places) :=
  ⟨[], by kernel_rfl⟩
theorem lifted (os : Os) (started : os.Started) (H : Type) (enc : TypeId × Value → H) (F : Stop.Interp) :
    ReturnsInHanded {} Tryd.checked os 9 .any ((OpenSpec.ofChange Rows.memoryMutexSpec).preRow enc Tryd.prog Tryd.f9 Rows.memoryMutexRow.domain false Rows.memoryMutexRow.laid) (((OpenSpec.ofChange Rows.memoryMutexSpec).at F).post enc Tryd.prog Tryd.f9 false true false false) := by
  obtain ⟨places, hx⟩ := reads os enc
  refine returnsInHanded_of_row (C := Tryd.checked) (s := OpenSpec.ofChange Rows.memoryMutexSpec) own started (by kernel_rfl) Tryd.func9
    (witness_row_at (enc := enc) (C := Tryd.checked) false (laidWorld os) #[.agg #[.slice none 0 0, .slice none 0 0, .slice none 0 0, .slice none 0 0, .int .i64 0, .int .i64 0, .int .i64 0]] rfl (by kernel_rfl) (by kernel_rfl) (by kernel_rfl)
      (OpenSpec.preRow_of_cond 20 hx (by kernel_rfl) (fun k hk => by cases hk) (by kernel_rfl) (laid_met os))) ?_
  intro W base args ds gs before hval hW _ hcond hwt hL _ _
  refine call_true (fn := Tryd.f9) f9_met laidOut rowed full (by decide +kernel) (t := 4) (by kernel_rfl) (by kernel_rfl) rfl (by kernel_rfl) (fun _ => rfl) (fun d hd hwf => ?_) hval hW (globs hL)
  match ds, rdats_len hd with
  | [d0], _ => exact ⟨rfl, by trivial⟩
theorem said : Rows.MemoryMutexSaid :=
  OpenClaim.holds_of_cond 9 Tryd.f9 rfl rfl rfl rfl rfl rfl rfl ⟨rfl, rfl, rfl, rfl, rfl⟩ rfl rfl rfl rfl rfl (by kernel_rfl) Tryd.func9 (by kernel_rfl)
    (of_decide_eq_true (by kernel_rfl)) (by unfold Func.isWrapper; first | (rw [if_pos (by decide +kernel)]; kernel_rfl) | (rw [if_neg (by decide +kernel)]; exact ⟨rfl, rfl⟩))
    (fun os started H enc _ F => by rw [OpenClaim.pre_eq_preRow]; exact lifted os started H enc F)
theorem plain (f : FuncId) (fn : Func) (hf : Tryd.pinned.checked.prog.funcNamed "modelcheck/modelchecklaw21.MemoryMutex" = some f) (hfn : Tryd.pinned.checked.prog.funcs[f]? = some fn) :
    false = Tryd.pinned.checked.prog.looks [] ∧ ∀ (j : Nat) t, fn.params[j]? = some t → Tryd.pinned.checked.prog.wantsStandIn t = false := by
  obtain rfl : f = 9 := Option.some.inj ((show Tryd.prog.funcNamed "modelcheck/modelchecklaw21.MemoryMutex" = some 9 by kernel_rfl).symm.trans hf) |>.symm
  obtain rfl : fn = Tryd.f9 := (Option.some.inj (Tryd.func9.symm.trans hfn)).symm
  refine ⟨by kernel_rfl, fun j t ht => ?_⟩
  have hm : t ∈ Tryd.f9.params.toList := List.mem_of_getElem? (by simpa using ht)
  have key : ∀ t ∈ Tryd.f9.params.toList, Tryd.prog.wantsStandIn t = false := by decide +kernel
  exact key t hm
theorem card : Rows.MemoryMutexCardSaid :=
  Claim7.holds_tied_plain_at .later [] _ _ _ _ said (fun _ h => by cases h) (by kernel_rfl) (fun _ h => by cases h) memoryMutex_row_tie rfl ⟨rfl, rfl⟩ (by kernel_rfl) rfl plain (by kernel_rfl)
end memoryMutexL
end Go.Proofs.YtkgjfkdcnoockaaDoor
