/- The Program chapter, part 8: the references. -/
import Derived.Test.YtklnffdjhoacoaaDoorPV7
set_option linter.unusedSimpArgs false
set_option linter.unusedVariables false
set_option maxRecDepth 100000
namespace Go.Proofs.YtklnffdjhoacoaaDoor
open Go Go.Eng

def smS (vs : List VD) (ms cs : List ByteArray) (fs : List FD) (ts : List SD) : Bool := decide (vs.length ≤ 20 ∧ ms.length ≤ 20 ∧ cs.length ≤ 20 ∧ fs.length ≤ 20 ∧ ts.length ≤ 20) && fs.all fun f => decide (f.2.1.length ≤ 100)
@[reducible] def ctSm : CT := { ps := [shP], pre := fun d => True, res := fun d => ([], vB (smS d.1.1 d.1.2.1 d.1.2.2.1 d.1.2.2.2.1 d.1.2.2.2.2.1)) }
@[reducible] def cl28 : List (Nat × CT) := []
@[reducible] def ann28 (vs : List VD) (ms : List ByteArray) (cs : List ByteArray) (fs : List FD) (ts : List SD) : Nat → Option (St → Ann) := fun k => match k with
  | 4 => some fun _ => .inv { α := Nat, slots := fun k => [(3, .c (.v (.int .i64 k)))], res := fun k => [], inv := fun k => k ≤ (fs).length ∧ ∀ j < k, ∀ f, fs[j]? = some f → f.2.1.length ≤ 100, meas := fun k => (fs).length - k }
  | _ => none
set_option maxRecDepth 100000 in
theorem f28_vc (vs : List VD) (ms : List ByteArray) (cs : List ByteArray) (fs : List FD) (ts : List SD) :
    br (decide ((20 : Int) < (↑vs.length : Int)) || decide ((20 : Int) < (↑ms.length : Int)) || decide ((20 : Int) < (↑cs.length : Int)) || decide ((20 : Int) < (↑fs.length : Int)) || decide ((20 : Int) < (↑ts.length : Int))) (([] : List Go.Eng.Res) = [] ∧ Ent.one (SV.c (SC.v (Value.bool (smS vs ms cs fs ts)))) = Ent.one (SV.c (SC.v (Value.bool false)))) ((∃ x, (x ≤ fs.length ∧ ∀ (j : Nat), j < x → ∀ (f : ByteArray × List ID × Unit), fs[j]? = some f → f.snd.fst.length ≤ (100 : Nat)) ∧ (SV.c (SC.v (Value.int IntKind.i64 (0 : Int))) = SV.c (SC.v (Value.int IntKind.i64 (↑x : Int))) ∧ True) ∧ [(([] : Go.Eng.Gd), Res.blk (43 : Nat) [SC.sl (Sh.str.pair ((Sh.int IntKind.i64).pair Sh.unit)) vs, SC.sl Sh.str ms, SC.sl Sh.str cs, SC.sl (Sh.str.pair (((Sh.int IntKind.i64).pair ((Sh.int IntKind.i64).pair ((Sh.int IntKind.i64).pair ((Sh.int IntKind.i64).pair ((Sh.int IntKind.i64).pair ((Sh.int IntKind.i64).pair ((Sh.int IntKind.i64).pair ((Sh.int IntKind.i64).pair Sh.unit)))))))).sl.pair Sh.unit)) fs, SC.sl ((Sh.int IntKind.i64).pair ((Sh.int IntKind.i64).pair Sh.unit)) ts])] = [(([] : Go.Eng.Gd), Res.blk (43 : Nat) [SC.sl (Sh.str.pair ((Sh.int IntKind.i64).pair Sh.unit)) vs, SC.sl Sh.str ms, SC.sl Sh.str cs, SC.sl (Sh.str.pair (((Sh.int IntKind.i64).pair ((Sh.int IntKind.i64).pair ((Sh.int IntKind.i64).pair ((Sh.int IntKind.i64).pair ((Sh.int IntKind.i64).pair ((Sh.int IntKind.i64).pair ((Sh.int IntKind.i64).pair ((Sh.int IntKind.i64).pair Sh.unit)))))))).sl.pair Sh.unit)) fs, SC.sl ((Sh.int IntKind.i64).pair ((Sh.int IntKind.i64).pair Sh.unit)) ts])]) ∧ ∀ (x : Nat), (x ≤ fs.length ∧ ∀ (j : Nat), j < x → ∀ (f : ByteArray × List ID × Unit), fs[j]? = some f → f.snd.fst.length ≤ (100 : Nat)) → br (decide ((↑x : Int) < (↑fs.length : Int))) (((0 : Int) ≤ (↑x : Int) ∧ (↑x : Int) < (↑fs.length : Int)) ∧ ∀ (d : Sh.str.den × (((Sh.int IntKind.i64).pair ((Sh.int IntKind.i64).pair ((Sh.int IntKind.i64).pair ((Sh.int IntKind.i64).pair ((Sh.int IntKind.i64).pair ((Sh.int IntKind.i64).pair ((Sh.int IntKind.i64).pair ((Sh.int IntKind.i64).pair Sh.unit)))))))).sl.pair Sh.unit).den), fs[(↑x : Int).toNat]? = some d → br (decide ((100 : Int) < (↑(List.length d.snd.fst) : Int))) (([] : List Go.Eng.Res) = [] ∧ Ent.one (SV.c (SC.v (Value.bool (smS vs ms cs fs ts)))) = Ent.one (SV.c (SC.v (Value.bool false)))) (InR IntKind.i64 ((↑x : Int) + (1 : Int)) ∧ ∃ x', (x' ≤ fs.length ∧ ∀ (j : Nat), j < x' → ∀ (f : ByteArray × List ID × Unit), fs[j]? = some f → f.snd.fst.length ≤ (100 : Nat)) ∧ (SV.c (SC.v (Value.int IntKind.i64 ((↑x : Int) + (1 : Int)))) = SV.c (SC.v (Value.int IntKind.i64 (↑x' : Int))) ∧ True) ∧ [(([] : Go.Eng.Gd), Res.blk (43 : Nat) [SC.sl (Sh.str.pair ((Sh.int IntKind.i64).pair Sh.unit)) vs, SC.sl Sh.str ms, SC.sl Sh.str cs, SC.sl (Sh.str.pair (((Sh.int IntKind.i64).pair ((Sh.int IntKind.i64).pair ((Sh.int IntKind.i64).pair ((Sh.int IntKind.i64).pair ((Sh.int IntKind.i64).pair ((Sh.int IntKind.i64).pair ((Sh.int IntKind.i64).pair ((Sh.int IntKind.i64).pair Sh.unit)))))))).sl.pair Sh.unit)) fs, SC.sl ((Sh.int IntKind.i64).pair ((Sh.int IntKind.i64).pair Sh.unit)) ts])] = [(([] : Go.Eng.Gd), Res.blk (43 : Nat) [SC.sl (Sh.str.pair ((Sh.int IntKind.i64).pair Sh.unit)) vs, SC.sl Sh.str ms, SC.sl Sh.str cs, SC.sl (Sh.str.pair (((Sh.int IntKind.i64).pair ((Sh.int IntKind.i64).pair ((Sh.int IntKind.i64).pair ((Sh.int IntKind.i64).pair ((Sh.int IntKind.i64).pair ((Sh.int IntKind.i64).pair ((Sh.int IntKind.i64).pair ((Sh.int IntKind.i64).pair Sh.unit)))))))).sl.pair Sh.unit)) fs, SC.sl ((Sh.int IntKind.i64).pair ((Sh.int IntKind.i64).pair Sh.unit)) ts])] ∧ fs.length - x' < fs.length - x)) (([] : List Go.Eng.Res) = [] ∧ Ent.one (SV.c (SC.v (Value.bool (smS vs ms cs fs ts)))) = Ent.one (SV.c (SC.v (Value.bool true))))) := by
  by_cases hc : ¬ (vs.length ≤ 20 ∧ ms.length ≤ 20 ∧ cs.length ≤ 20 ∧ fs.length ≤ 20 ∧ ts.length ≤ 20)
  · have e : smS vs ms cs fs ts = false := by unfold smS; rw [decide_eq_false hc]; rfl
    rw [e]
    refine br_iff.2 ⟨fun _ => ⟨rfl, rfl⟩, fun h => ?_⟩
    simp only [Bool.or_eq_false_iff, decide_eq_false_iff_not] at h
    omega
  have hc := Classical.not_not.1 hc
  refine br_iff.2 ⟨fun h => ?_, fun _ => ?_⟩
  · simp only [Bool.or_eq_true, decide_eq_true_eq] at h
    omega
  refine ⟨⟨0, ⟨by omega, fun j hj => by omega⟩, ⟨rfl, trivial⟩, rfl⟩, fun k hk => br_iff.2 ⟨fun h => ?_, fun h => ?_⟩⟩
  · simp only [decide_eq_true_eq] at h
    have hN : (↑k : Int).toNat = k := by omega
    rw [hN]
    refine ⟨by omega, fun d hd => br_iff.2 ⟨fun h2 => ⟨rfl, ?_⟩, fun h2 => ⟨InR_i64.2 (by omega), k + 1, ⟨by omega, fun j hj f hf => ?_⟩, ⟨rfl, trivial⟩, rfl, by omega⟩⟩⟩
    · have h2 : ¬ d.2.1.length ≤ 100 := by simp only [decide_eq_true_eq] at h2; omega
      have e : smS vs ms cs fs ts = false := by
        unfold smS
        rw [show (fs.all fun f => decide (f.2.1.length ≤ 100)) = false from List.all_eq_false.2 ⟨d, List.mem_of_getElem? hd, by simpa using h2⟩, Bool.and_false]
      rw [e]
    · by_cases hjk : j = k
      · subst hjk
        rw [hd] at hf; cases hf
        simp only [decide_eq_false_iff_not] at h2; omega
      · exact hk.2 j (by omega) f hf
  · simp only [decide_eq_false_iff_not] at h
    have e : smS vs ms cs fs ts = true := by
      unfold smS
      rw [decide_eq_true hc, Bool.true_and, List.all_eq_true]
      intro f hf
      obtain ⟨j, hj⟩ := List.getElem?_of_mem hf
      simpa using hk.2 j (by have := (List.getElem?_eq_some_iff.1 hj).1; omega) f hj
    rw [e]; exact ⟨rfl, rfl⟩
set_option maxHeartbeats 2000000 in
set_option maxRecDepth 100000 in
theorem f28_met : Go.Eng.Met Tryd.prog cx0.gd 28 ctSm :=
  met_of (cx := cx0) (n := 47) (cl := cl28) (by kernel_rfl) tis_ok trivial Tryd.func28 (by kernel_rfl) (by kernel_rfl) rfl (by kernel_rfl) (by kernel_rfl) fun d hd => by
    obtain ⟨⟨vs, ms, cs, fs, ts, ⟨⟩⟩, ⟨⟩⟩ := d
    exact ex_of (ann28 vs ms cs fs ts) (f28_vc vs ms cs fs ts) (by kernel_rfl)
def spwS (l : List ID) (g : Int) : Bool := l.any fun i => decide (i.1 = 21 ∧ i.2.2.2.2.1 = g)
@[reducible] def ctSpw : CT := { ps := [shF, .int .i64], pre := fun d => d.1.2.1.length ≤ 1000000, res := fun d => ([], vB (spwS d.1.2.1 d.2.1)) }
@[reducible] def ctHasL : CT := { ps := [.sl (.int .i64), .int .i64], pre := fun d => d.1.length ≤ 1000000, res := fun d => ([], vB (hasI d.1 d.2.1)) }
def fnS (fs : List FD) (s : ByteArray) : Int × Bool := match fs.findIdx? (fun f => decide (f.1 = s)) with | some k => ((k : Int), true) | none => (0, false)
theorem fn_found {fs : List FD} {s : ByteArray} {k : Nat} {d : FD} (hd : fs[k]? = some d) (h2 : d.1 = s) (hn : ∀ j < k, ∀ f, fs[j]? = some f → ¬ f.1 = s) : fnS fs s = ((k : Int), true) := by
  have hlt : k < fs.length := (List.getElem?_eq_some_iff.1 hd).1
  have : fs.findIdx? (fun f => decide (f.1 = s)) = some k := by
    rw [List.findIdx?_eq_some_iff_getElem]
    refine ⟨hlt, by rw [(List.getElem?_eq_some_iff.1 hd).2]; simpa using h2, fun j hj => ?_⟩
    have := hn j hj fs[j] (List.getElem?_eq_getElem (by omega))
    simpa using this
  simp [fnS, this]
theorem fn_none {fs : List FD} {s : ByteArray} (hn : ∀ (j : Nat) f, fs[j]? = some f → ¬ f.1 = s) : fnS fs s = (0, false) := by
  have : fs.findIdx? (fun f => decide (f.1 = s)) = none := by
    rw [List.findIdx?_eq_none_iff]
    intro y hy
    obtain ⟨j, hj⟩ := List.getElem?_of_mem hy
    simpa using hn j y hj
  simp [fnS, this]
@[reducible] def ctrFn : CT := { ps := [shP, .str], pre := fun d => d.1.2.2.2.1.length ≤ 1000000, res := fun d => ([], .tup [.c (.v (.int .i64 (fnS d.1.2.2.2.1 d.2.1).1)), .c (.v (.bool (fnS d.1.2.2.2.1 d.2.1).2))]) }
@[reducible] def ctrTh : CT := { ps := [shP], pre := fun d => True, res := fun d => ([], .one (.c (.v (.int .i64 (thS d.1.2.2.2.1 d.1.2.2.2.2.1))))) }
def exS (vs : List VD) (ms cs : List ByteArray) (fs : List FD) (op obj n : Int) : Bool := !decide (0 ≤ objS vs ms cs fs op ∧ (obj < 0 ∨ objS vs ms cs fs op ≤ obj)) && !decide (op = 18 ∧ (n < 0 ∨ (ms.length : Int) ≤ n))
@[reducible] def ctrEx : CT := { ps := [shP, shI], pre := fun d => True, res := fun d => ([], vB (exS d.1.1 d.1.2.1 d.1.2.2.1 d.1.2.2.2.1 d.2.1.1 d.2.1.2.2.2.2.1 d.2.1.2.2.2.2.2.1)) }
end Go.Proofs.YtklnffdjhoacoaaDoor
