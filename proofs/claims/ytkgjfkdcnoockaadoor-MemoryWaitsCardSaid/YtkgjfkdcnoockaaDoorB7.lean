/- Texts of this claim, part 7: V6, V7, R1, K3, R2, M0, M1, M2, M2D, M3, M4, M5. Conditions: those of the given rows. -/
import Derived.Test.YtkgjfkdcnoockaaDoorB6
set_option linter.unusedSimpArgs false
set_option linter.unusedVariables false
set_option maxRecDepth 100000
namespace Go.Proofs.YtkgjfkdcnoockaaDoor
open Go Go.Eng

@[reducible] def bnd (d : dens [shP]) : Prop := d.1.1.length ≤ 1000000 ∧ d.1.2.1.length ≤ 1000000 ∧ d.1.2.2.1.length ≤ 1000000 ∧ d.1.2.2.2.1.length ≤ 1000000 ∧ d.1.2.2.2.2.1.length ≤ 1000000 ∧ (∀ x ∈ d.1.2.2.2.1, x.2.1.length ≤ 1000000) ∧ (instL d.1.2.2.2.1).length ≤ 1000000
def chkP (vs : List VD) (ms cs : List ByteArray) (fs : List FD) (ts : List SD) : Int × Int × Int :=
  if (cnS vs ms cs fs).1 ≠ 0 then cnS vs ms cs fs else if coS vs ms cs fs ≠ 0 then (coS vs ms cs fs, -1, -1) else if (ccS vs ms cs fs).1 ≠ 0 then ccS vs ms cs fs else if thS fs ts ≠ 0 then (thS fs ts, -1, -1) else (0, -1, -1)
@[reducible] def ctChk : CT := { ps := [shP], pre := fun d => bnd d, res := fun d => ([], .tup [.c (.v (.int .i64 (chkP d.1.1 d.1.2.1 d.1.2.2.1 d.1.2.2.2.1 d.1.2.2.2.2.1).1)), .c (.v (.int .i64 (chkP d.1.1 d.1.2.1 d.1.2.2.1 d.1.2.2.2.1 d.1.2.2.2.2.1).2.1)), .c (.v (.int .i64 (chkP d.1.1 d.1.2.1 d.1.2.2.1 d.1.2.2.2.1 d.1.2.2.2.2.1).2.2))]) }
@[reducible] noncomputable def cl44 : List (Nat × CT) := [(67, ctCN), (68, ctCO), (69, ctCC), (70, ctCT)]
@[reducible] def ann44 (vs : List VD) (ms : List ByteArray) (cs : List ByteArray) (fs : List FD) (ts : List SD) : Nat → Option (St → Ann) := fun _ => none
set_option maxRecDepth 100000 in
theorem f44_vc (vs : List VD) (ms : List ByteArray) (cs : List ByteArray) (fs : List FD) (ts : List SD) (hpre : ctChk.pre ((vs, ms, cs, fs, ts, ()), ())) :
    (vs.length ≤ (1000000 : Nat) ∧ ms.length ≤ (1000000 : Nat) ∧ cs.length ≤ (1000000 : Nat) ∧ fs.length ≤ (1000000 : Nat)) ∧ br (decide ((cnS vs ms cs fs).fst = (0 : Int))) (True ∧ br (decide (coS vs ms cs fs = (0 : Int))) ((fs.length ≤ (1000000 : Nat) ∧ ∀ (x : Sh.str.den × (shI.sl.pair Sh.unit).den), x ∈ fs → List.length x.snd.fst ≤ (1000000 : Nat)) ∧ br (decide ((ccS vs ms cs fs).fst = (0 : Int))) (True ∧ br (!decide (thS fs ts = (0 : Int))) (([] : List Go.Eng.Res) = [] ∧ Ent.tup [SV.c (SC.v (Value.int IntKind.i64 (chkP vs ms cs fs ts).fst)), SV.c (SC.v (Value.int IntKind.i64 (chkP vs ms cs fs ts).snd.fst)), SV.c (SC.v (Value.int IntKind.i64 (chkP vs ms cs fs ts).snd.snd))] = Ent.tup [SV.c (SC.v (Value.int IntKind.i64 (thS fs ts))), SV.c (SC.v (Value.int IntKind.i64 (-1 : Int))), SV.c (SC.v (Value.int IntKind.i64 (-1 : Int)))]) (([] : List Go.Eng.Res) = [] ∧ Ent.tup [SV.c (SC.v (Value.int IntKind.i64 (chkP vs ms cs fs ts).fst)), SV.c (SC.v (Value.int IntKind.i64 (chkP vs ms cs fs ts).snd.fst)), SV.c (SC.v (Value.int IntKind.i64 (chkP vs ms cs fs ts).snd.snd))] = Ent.tup [SV.c (SC.v (Value.int IntKind.i64 (0 : Int))), SV.c (SC.v (Value.int IntKind.i64 (-1 : Int))), SV.c (SC.v (Value.int IntKind.i64 (-1 : Int)))])) (br (!decide ((ccS vs ms cs fs).fst = (0 : Int))) (([] : List Go.Eng.Res) = [] ∧ Ent.tup [SV.c (SC.v (Value.int IntKind.i64 (chkP vs ms cs fs ts).fst)), SV.c (SC.v (Value.int IntKind.i64 (chkP vs ms cs fs ts).snd.fst)), SV.c (SC.v (Value.int IntKind.i64 (chkP vs ms cs fs ts).snd.snd))] = Ent.tup [SV.c (SC.v (Value.int IntKind.i64 (ccS vs ms cs fs).fst)), SV.c (SC.v (Value.int IntKind.i64 (ccS vs ms cs fs).snd.fst)), SV.c (SC.v (Value.int IntKind.i64 (ccS vs ms cs fs).snd.snd))]) (([] : List Go.Eng.Res) = [] ∧ Ent.tup [SV.c (SC.v (Value.int IntKind.i64 (chkP vs ms cs fs ts).fst)), SV.c (SC.v (Value.int IntKind.i64 (chkP vs ms cs fs ts).snd.fst)), SV.c (SC.v (Value.int IntKind.i64 (chkP vs ms cs fs ts).snd.snd))] = Ent.tup [SV.c (SC.v (Value.int IntKind.i64 (0 : Int))), SV.c (SC.v (Value.int IntKind.i64 (-1 : Int))), SV.c (SC.v (Value.int IntKind.i64 (-1 : Int)))]))) (br (decide (coS vs ms cs fs = (0 : Int))) (True ∧ br (!decide (thS fs ts = (0 : Int))) (([] : List Go.Eng.Res) = [] ∧ Ent.tup [SV.c (SC.v (Value.int IntKind.i64 (chkP vs ms cs fs ts).fst)), SV.c (SC.v (Value.int IntKind.i64 (chkP vs ms cs fs ts).snd.fst)), SV.c (SC.v (Value.int IntKind.i64 (chkP vs ms cs fs ts).snd.snd))] = Ent.tup [SV.c (SC.v (Value.int IntKind.i64 (thS fs ts))), SV.c (SC.v (Value.int IntKind.i64 (-1 : Int))), SV.c (SC.v (Value.int IntKind.i64 (-1 : Int)))]) (([] : List Go.Eng.Res) = [] ∧ Ent.tup [SV.c (SC.v (Value.int IntKind.i64 (chkP vs ms cs fs ts).fst)), SV.c (SC.v (Value.int IntKind.i64 (chkP vs ms cs fs ts).snd.fst)), SV.c (SC.v (Value.int IntKind.i64 (chkP vs ms cs fs ts).snd.snd))] = Ent.tup [SV.c (SC.v (Value.int IntKind.i64 (0 : Int))), SV.c (SC.v (Value.int IntKind.i64 (-1 : Int))), SV.c (SC.v (Value.int IntKind.i64 (-1 : Int)))])) (br (!decide (coS vs ms cs fs = (0 : Int))) (([] : List Go.Eng.Res) = [] ∧ Ent.tup [SV.c (SC.v (Value.int IntKind.i64 (chkP vs ms cs fs ts).fst)), SV.c (SC.v (Value.int IntKind.i64 (chkP vs ms cs fs ts).snd.fst)), SV.c (SC.v (Value.int IntKind.i64 (chkP vs ms cs fs ts).snd.snd))] = Ent.tup [SV.c (SC.v (Value.int IntKind.i64 (coS vs ms cs fs))), SV.c (SC.v (Value.int IntKind.i64 (-1 : Int))), SV.c (SC.v (Value.int IntKind.i64 (-1 : Int)))]) (([] : List Go.Eng.Res) = [] ∧ Ent.tup [SV.c (SC.v (Value.int IntKind.i64 (chkP vs ms cs fs ts).fst)), SV.c (SC.v (Value.int IntKind.i64 (chkP vs ms cs fs ts).snd.fst)), SV.c (SC.v (Value.int IntKind.i64 (chkP vs ms cs fs ts).snd.snd))] = Ent.tup [SV.c (SC.v (Value.int IntKind.i64 (0 : Int))), SV.c (SC.v (Value.int IntKind.i64 (-1 : Int))), SV.c (SC.v (Value.int IntKind.i64 (-1 : Int)))])))) (br (decide ((cnS vs ms cs fs).fst = (0 : Int))) ((fs.length ≤ (1000000 : Nat) ∧ ∀ (x : Sh.str.den × (shI.sl.pair Sh.unit).den), x ∈ fs → List.length x.snd.fst ≤ (1000000 : Nat)) ∧ br (decide ((ccS vs ms cs fs).fst = (0 : Int))) (True ∧ br (!decide (thS fs ts = (0 : Int))) (([] : List Go.Eng.Res) = [] ∧ Ent.tup [SV.c (SC.v (Value.int IntKind.i64 (chkP vs ms cs fs ts).fst)), SV.c (SC.v (Value.int IntKind.i64 (chkP vs ms cs fs ts).snd.fst)), SV.c (SC.v (Value.int IntKind.i64 (chkP vs ms cs fs ts).snd.snd))] = Ent.tup [SV.c (SC.v (Value.int IntKind.i64 (thS fs ts))), SV.c (SC.v (Value.int IntKind.i64 (-1 : Int))), SV.c (SC.v (Value.int IntKind.i64 (-1 : Int)))]) (([] : List Go.Eng.Res) = [] ∧ Ent.tup [SV.c (SC.v (Value.int IntKind.i64 (chkP vs ms cs fs ts).fst)), SV.c (SC.v (Value.int IntKind.i64 (chkP vs ms cs fs ts).snd.fst)), SV.c (SC.v (Value.int IntKind.i64 (chkP vs ms cs fs ts).snd.snd))] = Ent.tup [SV.c (SC.v (Value.int IntKind.i64 (0 : Int))), SV.c (SC.v (Value.int IntKind.i64 (-1 : Int))), SV.c (SC.v (Value.int IntKind.i64 (-1 : Int)))])) (br (!decide ((ccS vs ms cs fs).fst = (0 : Int))) (([] : List Go.Eng.Res) = [] ∧ Ent.tup [SV.c (SC.v (Value.int IntKind.i64 (chkP vs ms cs fs ts).fst)), SV.c (SC.v (Value.int IntKind.i64 (chkP vs ms cs fs ts).snd.fst)), SV.c (SC.v (Value.int IntKind.i64 (chkP vs ms cs fs ts).snd.snd))] = Ent.tup [SV.c (SC.v (Value.int IntKind.i64 (ccS vs ms cs fs).fst)), SV.c (SC.v (Value.int IntKind.i64 (ccS vs ms cs fs).snd.fst)), SV.c (SC.v (Value.int IntKind.i64 (ccS vs ms cs fs).snd.snd))]) (([] : List Go.Eng.Res) = [] ∧ Ent.tup [SV.c (SC.v (Value.int IntKind.i64 (chkP vs ms cs fs ts).fst)), SV.c (SC.v (Value.int IntKind.i64 (chkP vs ms cs fs ts).snd.fst)), SV.c (SC.v (Value.int IntKind.i64 (chkP vs ms cs fs ts).snd.snd))] = Ent.tup [SV.c (SC.v (Value.int IntKind.i64 (0 : Int))), SV.c (SC.v (Value.int IntKind.i64 (-1 : Int))), SV.c (SC.v (Value.int IntKind.i64 (-1 : Int)))]))) (br (decide ((cnS vs ms cs fs).fst = (0 : Int))) (True ∧ br (!decide (thS fs ts = (0 : Int))) (([] : List Go.Eng.Res) = [] ∧ Ent.tup [SV.c (SC.v (Value.int IntKind.i64 (chkP vs ms cs fs ts).fst)), SV.c (SC.v (Value.int IntKind.i64 (chkP vs ms cs fs ts).snd.fst)), SV.c (SC.v (Value.int IntKind.i64 (chkP vs ms cs fs ts).snd.snd))] = Ent.tup [SV.c (SC.v (Value.int IntKind.i64 (thS fs ts))), SV.c (SC.v (Value.int IntKind.i64 (-1 : Int))), SV.c (SC.v (Value.int IntKind.i64 (-1 : Int)))]) (([] : List Go.Eng.Res) = [] ∧ Ent.tup [SV.c (SC.v (Value.int IntKind.i64 (chkP vs ms cs fs ts).fst)), SV.c (SC.v (Value.int IntKind.i64 (chkP vs ms cs fs ts).snd.fst)), SV.c (SC.v (Value.int IntKind.i64 (chkP vs ms cs fs ts).snd.snd))] = Ent.tup [SV.c (SC.v (Value.int IntKind.i64 (0 : Int))), SV.c (SC.v (Value.int IntKind.i64 (-1 : Int))), SV.c (SC.v (Value.int IntKind.i64 (-1 : Int)))])) (br (!decide ((cnS vs ms cs fs).fst = (0 : Int))) (([] : List Go.Eng.Res) = [] ∧ Ent.tup [SV.c (SC.v (Value.int IntKind.i64 (chkP vs ms cs fs ts).fst)), SV.c (SC.v (Value.int IntKind.i64 (chkP vs ms cs fs ts).snd.fst)), SV.c (SC.v (Value.int IntKind.i64 (chkP vs ms cs fs ts).snd.snd))] = Ent.tup [SV.c (SC.v (Value.int IntKind.i64 (cnS vs ms cs fs).fst)), SV.c (SC.v (Value.int IntKind.i64 (cnS vs ms cs fs).snd.fst)), SV.c (SC.v (Value.int IntKind.i64 (cnS vs ms cs fs).snd.snd))]) (([] : List Go.Eng.Res) = [] ∧ Ent.tup [SV.c (SC.v (Value.int IntKind.i64 (chkP vs ms cs fs ts).fst)), SV.c (SC.v (Value.int IntKind.i64 (chkP vs ms cs fs ts).snd.fst)), SV.c (SC.v (Value.int IntKind.i64 (chkP vs ms cs fs ts).snd.snd))] = Ent.tup [SV.c (SC.v (Value.int IntKind.i64 (0 : Int))), SV.c (SC.v (Value.int IntKind.i64 (-1 : Int))), SV.c (SC.v (Value.int IntKind.i64 (-1 : Int)))])))) := by
  obtain ⟨h1, h2, h3, h4, h5, h6, h7⟩ : bnd ((vs, ms, cs, fs, ts, ()), ()) := hpre
  have hA : ∀ x ∈ fs, x.2.1.length ≤ 1000000 := h6
  have hB : fs.length ≤ 1000000 ∧ ∀ x ∈ fs, x.2.1.length ≤ 1000000 := ⟨h4, h6⟩
  have hC : vs.length ≤ 1000000 ∧ ms.length ≤ 1000000 ∧ cs.length ≤ 1000000 ∧ fs.length ≤ 1000000 := ⟨h1, h2, h3, h4⟩
  clear h1 h2 h3 h4 h5 h6 h7 hA
  unfold chkP
  simp only [br_iff]
  repeat' (first | exact hB | exact hC | (refine And.intro ?_ ?_) | (intro _))
  all_goals first | trivial | rfl | (clear hB hC; simp_all; done)
set_option maxHeartbeats 2000000 in
set_option maxRecDepth 100000 in
theorem f44_met : Go.Eng.Met Tryd.prog cx0.gd 44 ctChk :=
  met_of (cx := cx0) (n := 40) (cl := cl44) (by kernel_rfl) tis_ok ⟨f67_met, f68_met, f69_met, f70_met, trivial⟩ Tryd.func44 (by kernel_rfl) (by kernel_rfl) rfl (by kernel_rfl) (by kernel_rfl) fun d hd => by
    obtain ⟨⟨vs, ms, cs, fs, ts, ⟨⟩⟩, ⟨⟩⟩ := d
    exact ⟨ann44 vs ms cs fs ts, cast (by kernel_rfl) (f44_vc vs ms cs fs ts hd)⟩
end Go.Proofs.YtkgjfkdcnoockaaDoor
namespace Go.Proofs.YtkgjfkdcnoockaaDoor
open Go Go.Eng
theorem ex_of {α : Type 1} {Q : α → Prop} {V : Prop} (a : α) (v : V) (h : V = Q a) : ∃ a, Q a := ⟨a, cast h v⟩
end Go.Proofs.YtkgjfkdcnoockaaDoor
set_option linter.unusedSimpArgs false
set_option linter.unusedVariables false
set_option maxRecDepth 100000
namespace Go.Proofs.YtkgjfkdcnoockaaDoor
open Go Go.Eng

@[reducible] def ct46 : CT := { ps := [.sl (.int .i64), .int .i64], pre := fun d => d.1.length ≤ 4611686018427387904, res := fun d => ([], vB (hasI d.1 d.2.1)) }
@[reducible] def cl56 : List (Nat × CT) := []
@[reducible] def ann56 (l : List Int) (x : Int) : Nat → Option (St → Ann) := fun k => match k with
  | 2 => some fun _ => .inv { α := Nat, slots := fun k => [(5, .c (.v (.int .i64 k)))], res := fun _ => [], inv := fun k => k ≤ l.length ∧ ∀ j, j < k → ∀ b, l[j]? = some b → ¬ (b = x), meas := fun k => l.length - k }
  | _ => none
set_option maxRecDepth 100000 in
theorem f56_vc (l : List Int) (x : Int) (hpre : ct46.pre (l, x, ())) :
    (∃ x_1, (x_1 ≤ l.length ∧ ∀ (j : Nat), j < x_1 → ∀ (b : Int), l[j]? = some b → ¬b = x) ∧ (SV.c (SC.v (Value.int IntKind.i64 (0 : Int))) = SV.c (SC.v (Value.int IntKind.i64 (↑x_1 : Int))) ∧ True) ∧ ([] : List (Go.Eng.Gd × Go.Eng.Res)) = []) ∧ ∀ (x_1 : Nat), (x_1 ≤ l.length ∧ ∀ (j : Nat), j < x_1 → ∀ (b : Int), l[j]? = some b → ¬b = x) → br (decide ((↑x_1 : Int) < (↑l.length : Int))) (((0 : Int) ≤ (↑x_1 : Int) ∧ (↑x_1 : Int) < (↑l.length : Int)) ∧ ∀ (d : Int), l[(↑x_1 : Int).toNat]? = some d → br (decide (d = x)) (([] : List Go.Eng.Res) = [] ∧ Ent.one (SV.c (SC.v (Value.bool (hasI l x)))) = Ent.one (SV.c (SC.v (Value.bool true)))) (InR IntKind.i64 ((↑x_1 : Int) + (1 : Int)) ∧ ∃ x', (x' ≤ l.length ∧ ∀ (j : Nat), j < x' → ∀ (b : Int), l[j]? = some b → ¬b = x) ∧ (SV.c (SC.v (Value.int IntKind.i64 ((↑x_1 : Int) + (1 : Int)))) = SV.c (SC.v (Value.int IntKind.i64 (↑x' : Int))) ∧ True) ∧ ([] : List (Go.Eng.Gd × Go.Eng.Res)) = [] ∧ l.length - x' < l.length - x_1)) (([] : List Go.Eng.Res) = [] ∧ Ent.one (SV.c (SC.v (Value.bool (hasI l x)))) = Ent.one (SV.c (SC.v (Value.bool false)))) := by
  have hp : l.length ≤ 4611686018427387904 := hpre
  refine ⟨⟨0, ⟨by omega, fun j hj => by omega⟩, ⟨rfl, trivial⟩, rfl⟩, fun k hk => br_iff.2 ⟨fun h => ?_, fun h => ?_⟩⟩
  · simp only [decide_eq_true_eq] at h
    refine ⟨by omega, fun d hd => br_iff.2 ⟨fun h2 => ?_, fun h2 => ?_⟩⟩
    · simp only [decide_eq_true_eq] at h2
      have hm : hasI l x = true := List.any_eq_true.2 ⟨d, List.mem_of_getElem? hd, by simpa using h2⟩
      rw [hm]; exact ⟨rfl, rfl⟩
    · simp only [decide_eq_false_iff_not] at h2
      have hd : l[k]? = some d := by simpa using hd
      refine ⟨InR_i64.2 (by omega), k + 1, ⟨by omega, fun j hj b hb => ?_⟩, ⟨by simp, trivial⟩, rfl, by omega⟩
      by_cases hjx : j = k
      · subst hjx
        rw [hd] at hb; cases hb; exact h2
      · exact hk.2 j (by omega) b hb
  · simp only [decide_eq_false_iff_not] at h
    have hm : hasI l x = false := by
      unfold hasI
      rw [List.any_eq_false]
      intro b hb
      obtain ⟨j, hj⟩ := List.getElem?_of_mem hb
      have := (List.getElem?_eq_some_iff.1 hj).1
      simpa using hk.2 j (by omega) b hj
    rw [hm]; exact ⟨rfl, rfl⟩
set_option maxRecDepth 100000 in
theorem f56_met : Go.Eng.Met Tryd.prog cx0.gd 56 ct46 :=
  met_of (cx := cx0) (n := 18) (cl := cl56) (by kernel_rfl) tis_ok trivial Tryd.func56 (by kernel_rfl) (by kernel_rfl) rfl (by kernel_rfl) (by kernel_rfl) fun d hd => by
    obtain ⟨l, x, ⟨⟩⟩ := d
    exact ⟨ann56 l x, cast (by kernel_rfl) (f56_vc l x hd)⟩
@[reducible] def ct13 : CT := { ps := [.sl (.int .i64), .sl (.int .i64)], pre := fun d => d.1.length ≤ 4611686018427387904, res := fun d => ([], vB (decide (d.1 = d.2.1))) }
@[reducible] def cl41 : List (Nat × CT) := []
@[reducible] def ann41 (l : List Int) (m : List Int) : Nat → Option (St → Ann) := fun k => match k with
  | 4 => some fun _ => .inv { α := Nat, slots := fun k => [(5, .c (.v (.int .i64 k)))], res := fun _ => [], inv := fun k => k ≤ l.length ∧ l.length = m.length ∧ ∀ j, j < k → l[j]? = m[j]?, meas := fun k => l.length - k }
  | _ => none
set_option maxRecDepth 100000 in
theorem f41_vc (l : List Int) (m : List Int) (hpre : ct13.pre (l, m, ())) :
    br (!decide ((↑l.length : Int) = (↑m.length : Int))) (([] : List Go.Eng.Res) = [] ∧ Ent.one (SV.c (SC.v (Value.bool (decide (l = m))))) = Ent.one (SV.c (SC.v (Value.bool false)))) ((∃ x, (x ≤ l.length ∧ l.length = m.length ∧ ∀ (j : Nat), j < x → l[j]? = m[j]?) ∧ (SV.c (SC.v (Value.int IntKind.i64 (0 : Int))) = SV.c (SC.v (Value.int IntKind.i64 (↑x : Int))) ∧ True) ∧ ([] : List (Go.Eng.Gd × Go.Eng.Res)) = []) ∧ ∀ (x : Nat), (x ≤ l.length ∧ l.length = m.length ∧ ∀ (j : Nat), j < x → l[j]? = m[j]?) → br (decide ((↑x : Int) < (↑l.length : Int))) (((0 : Int) ≤ (↑x : Int) ∧ (↑x : Int) < (↑l.length : Int)) ∧ ∀ (d : Int), l[(↑x : Int).toNat]? = some d → ((0 : Int) ≤ (↑x : Int) ∧ (↑x : Int) < (↑m.length : Int)) ∧ ∀ (d_1 : Int), m[(↑x : Int).toNat]? = some d_1 → br (!decide (d = d_1)) (([] : List Go.Eng.Res) = [] ∧ Ent.one (SV.c (SC.v (Value.bool (decide (l = m))))) = Ent.one (SV.c (SC.v (Value.bool false)))) (InR IntKind.i64 ((↑x : Int) + (1 : Int)) ∧ ∃ x', (x' ≤ l.length ∧ l.length = m.length ∧ ∀ (j : Nat), j < x' → l[j]? = m[j]?) ∧ (SV.c (SC.v (Value.int IntKind.i64 ((↑x : Int) + (1 : Int)))) = SV.c (SC.v (Value.int IntKind.i64 (↑x' : Int))) ∧ True) ∧ ([] : List (Go.Eng.Gd × Go.Eng.Res)) = [] ∧ l.length - x' < l.length - x)) (([] : List Go.Eng.Res) = [] ∧ Ent.one (SV.c (SC.v (Value.bool (decide (l = m))))) = Ent.one (SV.c (SC.v (Value.bool true))))) := by
  have hp : l.length ≤ 4611686018427387904 := hpre
  refine br_iff.2 ⟨fun h => ?_, fun h => ?_⟩
  · have hn : l ≠ m := by rintro rfl; simp at h
    rw [show decide (l = m) = false from decide_eq_false hn]; exact ⟨rfl, rfl⟩
  · have hl : l.length = m.length := by simp at h; omega
    refine ⟨⟨0, ⟨by omega, hl, fun j hj => by omega⟩, ⟨rfl, trivial⟩, rfl⟩, fun k hk => br_iff.2 ⟨fun h => ?_, fun h => ?_⟩⟩
    · simp only [decide_eq_true_eq] at h
      refine ⟨by omega, fun d hd => ⟨by omega, fun e he => br_iff.2 ⟨fun h2 => ?_, fun h2 => ?_⟩⟩⟩
      · have hd : l[k]? = some d := by simpa using hd
        have he : m[k]? = some e := by simpa using he
        have hn : l ≠ m := by rintro rfl; rw [hd] at he; cases he; simp at h2
        rw [show decide (l = m) = false from decide_eq_false hn]; exact ⟨rfl, rfl⟩
      · have hd : l[k]? = some d := by simpa using hd
        have he : m[k]? = some e := by simpa using he
        have hde : d = e := by simpa using h2
        refine ⟨InR_i64.2 (by omega), k + 1, ⟨by omega, hl, fun j hj => ?_⟩, ⟨by simp, trivial⟩, rfl, by omega⟩
        by_cases hjx : j = k
        · subst hjx; rw [hd, he, hde]
        · exact hk.2.2 j (by omega)
    · simp only [decide_eq_false_iff_not] at h
      have hlm : l = m := List.ext_getElem? fun j => by
        by_cases hj : j < k
        · exact hk.2.2 j hj
        · rw [List.getElem?_eq_none (by omega), List.getElem?_eq_none (by omega)]
      rw [show decide (l = m) = true from decide_eq_true hlm]; exact ⟨rfl, rfl⟩
set_option maxRecDepth 100000 in
theorem f41_met : Go.Eng.Met Tryd.prog cx0.gd 41 ct13 :=
  met_of (cx := cx0) (n := 26) (cl := cl41) (by kernel_rfl) tis_ok trivial Tryd.func41 (by kernel_rfl) (by kernel_rfl) rfl (by kernel_rfl) (by kernel_rfl) fun d hd => by
    obtain ⟨l, m, ⟨⟩⟩ := d
    exact ⟨ann41 l m, cast (by kernel_rfl) (f41_vc l m hd)⟩
theorem tw_len {p : Int → Bool} : ∀ {l : List Int} {k : Nat}, k ≤ l.length → (∀ j, j < k → ∀ b, l[j]? = some b → p b = true) → (∀ b, l[k]? = some b → p b = false) → (l.takeWhile p).length = k
  | [], k, h, _, _ => by simp at h; simp [h]
  | a :: l, 0, _, _, h2 => by simp [List.takeWhile_cons, h2 a rfl]
  | a :: l, k + 1, h, h1, h2 => by
    have h0 := h1 0 (by omega) a rfl
    simp only [List.takeWhile_cons, h0, if_true, List.length_cons]
    rw [tw_len (by simpa using h) (fun j hj b hb => h1 (j + 1) (by omega) b hb) (fun b hb => h2 b hb)]
@[reducible] def ct47 : CT := { ps := [.sl (.int .i64), .int .i64], pre := fun d => d.1.length ≤ 1000000, res := fun d => ([.row 3 (.int .i64) (d.1.take (posI d.1 d.2.1) ++ [d.2.1] ++ d.1.drop (posI d.1 d.2.1))], .one (.c (.row 0))) }
@[reducible] def cl82 : List (Nat × CT) := []
@[reducible] def ann82 (l : List Int) (x : Int) : Nat → Option (St → Ann) := fun k => match k with
  | 2 => some fun _ => .inv { α := Nat, slots := fun k => [(5, .c (.v (.int .i64 k)))], res := fun _ => [], inv := fun k => k ≤ l.length ∧ ∀ j, j < k → ∀ b, l[j]? = some b → b < x, meas := fun k => l.length - k }
  | _ => none
set_option maxRecDepth 100000 in
theorem f82_vc (l : List Int) (x : Int) (hpre : ct47.pre (l, x, ())) :
    (∃ x_1, (x_1 ≤ l.length ∧ ∀ (j : Nat), j < x_1 → ∀ (b : Int), l[j]? = some b → b < x) ∧ (SV.c (SC.v (Value.int IntKind.i64 (0 : Int))) = SV.c (SC.v (Value.int IntKind.i64 (↑x_1 : Int))) ∧ True) ∧ ([] : List (Go.Eng.Gd × Go.Eng.Res)) = []) ∧ ∀ (x_1 : Nat), (x_1 ≤ l.length ∧ ∀ (j : Nat), j < x_1 → ∀ (b : Int), l[j]? = some b → b < x) → (decide ((↑x_1 : Int) < (↑l.length : Int)) = true → (0 : Int) ≤ (↑x_1 : Int) ∧ (↑x_1 : Int) < (↑l.length : Int)) ∧ ∀ (d : Int), (decide ((↑x_1 : Int) < (↑l.length : Int)) = true → l[(↑x_1 : Int).toNat]? = some d) → br (decide ((↑x_1 : Int) < (↑l.length : Int)) && decide (d < x)) (InR IntKind.i64 ((↑x_1 : Int) + (1 : Int)) ∧ ∃ x', (x' ≤ l.length ∧ ∀ (j : Nat), j < x' → ∀ (b : Int), l[j]? = some b → b < x) ∧ (SV.c (SC.v (Value.int IntKind.i64 ((↑x_1 : Int) + (1 : Int)))) = SV.c (SC.v (Value.int IntKind.i64 (↑x' : Int))) ∧ True) ∧ ([] : List (Go.Eng.Gd × Go.Eng.Res)) = [] ∧ l.length - x' < l.length - x_1) (((0 : Int) ≤ (0 : Int) ∧ (0 : Int) ≤ (↑x_1 : Int) ∧ (↑x_1 : Int) ≤ (↑l.length : Int)) ∧ InA ((0 : Nat) + List.length (List.drop (0 : Nat) (List.take (↑x_1 : Int).toNat l))) (8 : Nat) ∧ InA (List.length (([] ++ List.drop (0 : Nat) (List.take (↑x_1 : Int).toNat l))) + List.length ([x])) (8 : Nat) ∧ ((0 : Int) ≤ (↑x_1 : Int) ∧ (↑x_1 : Int) ≤ (↑l.length : Int) ∧ (↑l.length : Int) ≤ (↑l.length : Int)) ∧ InA (List.length ((([] ++ List.drop (0 : Nat) (List.take (↑x_1 : Int).toNat l)) ++ [x])) + List.length (List.drop (↑x_1 : Int).toNat (List.take (↑l.length : Int).toNat l))) (8 : Nat) ∧ [Res.row (3 : TypeId) I6 (List.take (posI l x) l ++ [x] ++ List.drop (posI l x) l)] = [Res.row (3 : TypeId) I6 ((([] ++ List.drop (0 : Nat) (List.take (↑x_1 : Int).toNat l)) ++ [x]) ++ List.drop (↑x_1 : Int).toNat (List.take (↑l.length : Int).toNat l))] ∧ Ent.one (SV.c (SC.row (0 : Nat))) = Ent.one (SV.c (SC.row (0 : Nat)))) := by
  have hp : l.length ≤ 1000000 := hpre
  refine ⟨⟨0, ⟨by omega, fun j hj => by omega⟩, ⟨rfl, trivial⟩, rfl⟩, fun k hk => ⟨fun h => by simp only [decide_eq_true_eq] at h; omega, fun d hd => br_iff.2 ⟨fun h => ?_, fun h => ?_⟩⟩⟩
  · simp only [Bool.and_eq_true, decide_eq_true_eq] at h
    have hd : l[k]? = some d := by simpa using hd (by simpa using h.1)
    refine ⟨InR_i64.2 (by omega), k + 1, ⟨by omega, fun j hj b hb => ?_⟩, ⟨by simp, trivial⟩, rfl, by omega⟩
    by_cases hjx : j = k
    · subst hjx
      rw [hd] at hb; cases hb; exact h.2
    · exact hk.2 j (by omega) b hb
  · have hpos : posI l x = k := by
      refine tw_len hk.1 (fun j hj b hb => by simpa using hk.2 j hj b hb) fun b hb => ?_
      have hkl := (List.getElem?_eq_some_iff.1 hb).1
      have hd : l[k]? = some d := by simpa using hd (by simpa using hkl)
      rw [hd] at hb; cases hb
      simp only [Bool.and_eq_false_iff, decide_eq_false_iff_not] at h
      rcases h with h | h
      · omega
      · simpa using h
    have e1 : ((k : Int)).toNat = k := by simp
    have e2 : ((l.length : Int)).toNat = l.length := by simp
    rw [hpos]
    simp only [e1, e2, List.drop_zero, List.take_length, List.nil_append, InA_iff, List.length_append, List.length_take, List.length_drop, List.length_cons, List.length_nil]
    refine ⟨by omega, by omega, by omega, by omega, by omega, ?_⟩
    simp
set_option maxRecDepth 100000 in
theorem f82_met : Go.Eng.Met Tryd.prog cx0.gd 82 ct47 :=
  met_of (cx := cx0) (n := 36) (cl := cl82) (by kernel_rfl) tis_ok trivial Tryd.func82 (by kernel_rfl) (by kernel_rfl) rfl (by kernel_rfl) (by kernel_rfl) fun d hd => by
    obtain ⟨l, x, ⟨⟩⟩ := d
    exact ⟨ann82 l x, cast (by kernel_rfl) (f82_vc l x hd)⟩
@[reducible] def ct41 : CT := { ps := [.sl (.int .i64)], pre := fun d => d.1.length ≤ 1000000, res := fun d => ([.row 3 (.int .i64) (makeI d.1)], .one (.c (.row 0))) }
@[reducible] def cl66 : List (Nat × CT) := [(56, ct46), (82, ct47)]
@[reducible] def ann66 (l : List Int) : Nat → Option (St → Ann) := fun k => match k with
  | 3 => some fun _ => .inv { α := Nat, slots := fun k => [(4, .c (.v (.int .i64 k))), (3, .c (.row 0))], res := fun k => [(0, .row 3 (.int .i64) (makeI (l.take k)))], inv := fun k => k ≤ l.length, meas := fun k => l.length - k, ren := [(0, 1)], drop := [5] }
  | _ => none
set_option maxRecDepth 100000 in
theorem f66_vc (l : List Int) (hpre : ct41.pre (l, ())) :
    (∃ x, x ≤ l.length ∧ (SV.c (SC.v (Value.int IntKind.i64 (0 : Int))) = SV.c (SC.v (Value.int IntKind.i64 (↑x : Int))) ∧ SV.c (SC.row (0 : Nat)) = SV.c (SC.row (0 : Nat)) ∧ True) ∧ [(([] : Go.Eng.Gd), Res.row (3 : TypeId) I6 [])] = [(([] : Go.Eng.Gd), Res.row (3 : TypeId) I6 (makeI (List.take x l)))]) ∧ ∀ (x : Nat), x ≤ l.length → br (decide ((↑x : Int) < (↑l.length : Int))) (((0 : Int) ≤ (↑x : Int) ∧ (↑x : Int) < (↑l.length : Int)) ∧ ∀ (d : Int), l[(↑x : Int).toNat]? = some d → (makeI (List.take x l)).length ≤ (4611686018427387904 : Nat) ∧ br (!hasI (makeI (List.take x l)) d) (((0 : Int) ≤ (↑x : Int) ∧ (↑x : Int) < (↑l.length : Int)) ∧ ∀ (d : Int), l[(↑x : Int).toNat]? = some d → (makeI (List.take x l)).length ≤ (1000000 : Nat) ∧ InR IntKind.i64 ((↑x : Int) + (1 : Int)) ∧ ∃ x', x' ≤ l.length ∧ (SV.c (SC.v (Value.int IntKind.i64 ((↑x : Int) + (1 : Int)))) = SV.c (SC.v (Value.int IntKind.i64 (↑x' : Int))) ∧ SV.c (SC.row (0 : Nat)) = SV.c (SC.row (0 : Nat)) ∧ True) ∧ [(([] : Go.Eng.Gd), Res.row (3 : TypeId) I6 (List.take (posI (makeI (List.take x l)) d) (makeI (List.take x l)) ++ [d] ++ List.drop (posI (makeI (List.take x l)) d) (makeI (List.take x l))))] = [(([] : Go.Eng.Gd), Res.row (3 : TypeId) I6 (makeI (List.take x' l)))] ∧ l.length - x' < l.length - x) (InR IntKind.i64 ((↑x : Int) + (1 : Int)) ∧ ∃ x', x' ≤ l.length ∧ (SV.c (SC.v (Value.int IntKind.i64 ((↑x : Int) + (1 : Int)))) = SV.c (SC.v (Value.int IntKind.i64 (↑x' : Int))) ∧ SV.c (SC.row (0 : Nat)) = SV.c (SC.row (0 : Nat)) ∧ True) ∧ [(([] : Go.Eng.Gd), Res.row (3 : TypeId) I6 (makeI (List.take x l)))] = [(([] : Go.Eng.Gd), Res.row (3 : TypeId) I6 (makeI (List.take x' l)))] ∧ l.length - x' < l.length - x)) ([Res.row (3 : TypeId) I6 (makeI l)] = [Res.row (3 : TypeId) I6 (makeI (List.take x l))] ∧ Ent.one (SV.c (SC.row (0 : Nat))) = Ent.one (SV.c (SC.row (0 : Nat)))) := by
  have hp : l.length ≤ 1000000 := hpre
  have hlen : ∀ k, (makeI (l.take k)).length ≤ l.length := fun k => Nat.le_trans (makeI_len _) (by simp; omega)
  refine ⟨⟨0, by omega, ⟨rfl, rfl, trivial⟩, rfl⟩, fun k hk => br_iff.2 ⟨fun h => ?_, fun h => ?_⟩⟩
  · simp only [decide_eq_true_eq] at h
    refine ⟨by omega, fun d hd => ⟨by have := hlen k; omega, br_iff.2 ⟨fun h2 => ⟨by omega, fun e he => ⟨by have := hlen k; omega, InR_i64.2 (by omega), k + 1, by omega, ⟨by simp, rfl, trivial⟩, ?_, by omega⟩⟩,
      fun h2 => ⟨InR_i64.2 (by omega), k + 1, by omega, ⟨by simp, rfl, trivial⟩, ?_, by omega⟩⟩⟩⟩
    · have hd : l[k]? = some d := by simpa using hd
      have he : l[k]? = some e := by simpa using he
      rw [hd] at he; cases he
      have h2 : hasI (makeI (l.take k)) d = false := by simpa using h2
      rw [makeI_take hd, h2]; rfl
    · have hd : l[k]? = some d := by simpa using hd
      have h2 : hasI (makeI (l.take k)) d = true := by simpa using h2
      rw [makeI_take hd, h2]; rfl
  · simp only [decide_eq_false_iff_not] at h
    rw [List.take_of_length_le (by omega)]; exact ⟨rfl, rfl⟩
set_option maxRecDepth 100000 in
theorem f66_met : Go.Eng.Met Tryd.prog cx0.gd 66 ct41 :=
  met_of (cx := cx0) (n := 26) (cl := cl66) (by kernel_rfl) tis_ok ⟨f56_met, f82_met, trivial⟩ Tryd.func66 (by kernel_rfl) (by kernel_rfl) rfl (by kernel_rfl) (by kernel_rfl) fun d hd => by
    obtain ⟨l, ⟨⟩⟩ := d
    exact ⟨ann66 l, cast (by kernel_rfl) (f66_vc l hd)⟩
end Go.Proofs.YtkgjfkdcnoockaaDoor
set_option linter.unusedSimpArgs false
set_option linter.unusedVariables false
namespace Go.Proofs.YtkgjfkdcnoockaaDoor
open Go Go.Eng
def filI (l o : List Int) (b : Bool) : List Int := l.filter fun x => hasI o x == b
end Go.Proofs.YtkgjfkdcnoockaaDoor
set_option linter.unusedSimpArgs false
set_option linter.unusedVariables false
set_option maxRecDepth 100000
namespace Go.Proofs.YtkgjfkdcnoockaaDoor
open Go Go.Eng

instance (l : List Int) : Decidable (SS l) := inferInstanceAs (Decidable (l.Pairwise (· < ·)))
def validI (l : List Int) : Bool := decide (SS l)
theorem ss_adj : ∀ {l : List Int}, (∀ j x y, l[j]? = some x → l[j + 1]? = some y → x < y) → SS l
  | [], _ => List.Pairwise.nil
  | [a], _ => by simp [SS]
  | a :: b :: l, h => by
    have ih : SS (b :: l) := ss_adj fun j x y h1 h2 => h (j + 1) x y (by simpa using h1) (by simpa using h2)
    refine List.pairwise_cons.2 ⟨fun z hz => ?_, ih⟩
    have hab := h 0 a b rfl rfl
    rcases List.mem_cons.1 hz with rfl | hz
    · exact hab
    · have := (List.pairwise_cons.1 ih).1 z hz; omega
theorem adj_ss {l : List Int} (h : SS l) {j : Nat} {x y : Int} (h1 : l[j]? = some x) (h2 : l[j + 1]? = some y) : x < y := by
  obtain ⟨a1, a2⟩ := List.getElem?_eq_some_iff.1 h1
  obtain ⟨b1, b2⟩ := List.getElem?_eq_some_iff.1 h2
  have := List.pairwise_iff_getElem.1 h j (j + 1) a1 b1 (by omega)
  omega
@[reducible] def ctV : CT := { ps := [.sl (.int .i64)], pre := fun d => d.1.length ≤ 1000000, res := fun d => ([], vB (validI d.1)) }
@[reducible] def cl76 : List (Nat × CT) := []
@[reducible] def ann76 (l : List Int) : Nat → Option (St → Ann) := fun k => match k with
  | 2 => some fun _ => .inv { α := Nat, slots := fun k => [(3, .c (.v (.int .i64 k)))], res := fun _ => [], inv := fun k => (1 ≤ k ∧ (k ≤ l.length ∨ k = 1)) ∧ ∀ j, j + 1 < k → ∀ x y, l[j]? = some x → l[j + 1]? = some y → x < y, meas := fun k => l.length - k }
  | _ => none
set_option maxRecDepth 100000 in
theorem f76_vc (l : List Int) (hpre : ctV.pre (l, ())) :
    (∃ x, (((1 : Nat) ≤ x ∧ (x ≤ l.length ∨ x = (1 : Nat))) ∧ ∀ (j : Nat), j + (1 : Nat) < x → ∀ (x y : Int), l[j]? = some x → l[j + (1 : Nat)]? = some y → x < y) ∧ (SV.c (SC.v (Value.int IntKind.i64 (1 : Int))) = SV.c (SC.v (Value.int IntKind.i64 (↑x : Int))) ∧ True) ∧ ([] : List (Go.Eng.Gd × Go.Eng.Res)) = []) ∧ ∀ (x : Nat), (((1 : Nat) ≤ x ∧ (x ≤ l.length ∨ x = (1 : Nat))) ∧ ∀ (j : Nat), j + (1 : Nat) < x → ∀ (x y : Int), l[j]? = some x → l[j + (1 : Nat)]? = some y → x < y) → br (decide ((↑x : Int) < (↑l.length : Int))) (InR IntKind.i64 ((↑x : Int) - (1 : Int)) ∧ ((0 : Int) ≤ (↑x : Int) - (1 : Int) ∧ (↑x : Int) - (1 : Int) < (↑l.length : Int)) ∧ ∀ (d : Int), l[((↑x : Int) - (1 : Int)).toNat]? = some d → ((0 : Int) ≤ (↑x : Int) ∧ (↑x : Int) < (↑l.length : Int)) ∧ ∀ (d_1 : Int), l[(↑x : Int).toNat]? = some d_1 → br (decide (d_1 ≤ d)) (([] : List Go.Eng.Res) = [] ∧ Ent.one (SV.c (SC.v (Value.bool (validI l)))) = Ent.one (SV.c (SC.v (Value.bool false)))) (InR IntKind.i64 ((↑x : Int) + (1 : Int)) ∧ ∃ x', (((1 : Nat) ≤ x' ∧ (x' ≤ l.length ∨ x' = (1 : Nat))) ∧ ∀ (j : Nat), j + (1 : Nat) < x' → ∀ (x y : Int), l[j]? = some x → l[j + (1 : Nat)]? = some y → x < y) ∧ (SV.c (SC.v (Value.int IntKind.i64 ((↑x : Int) + (1 : Int)))) = SV.c (SC.v (Value.int IntKind.i64 (↑x' : Int))) ∧ True) ∧ ([] : List (Go.Eng.Gd × Go.Eng.Res)) = [] ∧ l.length - x' < l.length - x)) (([] : List Go.Eng.Res) = [] ∧ Ent.one (SV.c (SC.v (Value.bool (validI l)))) = Ent.one (SV.c (SC.v (Value.bool true)))) := by
  have hp : l.length ≤ 1000000 := hpre
  refine ⟨⟨1, ⟨⟨by omega, .inr rfl⟩, fun j hj => by omega⟩, ⟨rfl, trivial⟩, rfl⟩, fun k hk => br_iff.2 ⟨fun h => ?_, fun h => ?_⟩⟩
  · simp only [decide_eq_true_eq] at h
    have hk1 := hk.1.1
    refine ⟨InR_i64.2 (by omega), by omega, fun d hd => ⟨by omega, fun e he => ?_⟩⟩
    have hd : l[k - 1]? = some d := by rw [← hd]; congr 1; omega
    have he : l[k]? = some e := by simpa using he
    have he' : l[k - 1 + 1]? = some e := by rw [show k - 1 + 1 = k by omega]; exact he
    refine br_iff.2 ⟨fun h2 => ?_, fun h2 => ⟨InR_i64.2 (by omega), k + 1, ⟨⟨by omega, .inl (by omega)⟩, fun j hj x y hx hy => ?_⟩, ⟨by simp, trivial⟩, rfl, by omega⟩⟩
    · simp only [decide_eq_true_eq] at h2
      have : validI l = false := decide_eq_false fun hs => by have := adj_ss hs hd he'; omega
      rw [this]; exact ⟨rfl, rfl⟩
    · simp only [decide_eq_false_iff_not] at h2
      by_cases hjk : j + 1 = k
      · have hj' : j = k - 1 := by omega
        subst hj'
        rw [hd] at hx; rw [he'] at hy; cases hx; cases hy; omega
      · exact hk.2 j (by omega) x y hx hy
  · simp only [decide_eq_false_iff_not] at h
    have : validI l = true := decide_eq_true (ss_adj fun j x y hx hy => hk.2 j (by have := (List.getElem?_eq_some_iff.1 hy).1; omega) x y hx hy)
    rw [this]; exact ⟨rfl, rfl⟩
set_option maxRecDepth 100000 in
theorem f76_met : Go.Eng.Met Tryd.prog cx0.gd 76 ctV :=
  met_of (cx := cx0) (n := 20) (cl := cl76) (by kernel_rfl) tis_ok trivial Tryd.func76 (by kernel_rfl) (by kernel_rfl) rfl (by kernel_rfl) (by kernel_rfl) fun d hd => by
    obtain ⟨l, ⟨⟩⟩ := d
    exact ⟨ann76 l, cast (by kernel_rfl) (f76_vc l hd)⟩
@[reducible] def ctrV : CT := { ps := [.sl (.int .i64)], pre := fun d => d.1.length ≤ 1000000, res := fun d => ([], vB (validI d.1)) }
@[reducible] def cl65 : List (Nat × CT) := []
@[reducible] def ann65 (l : List Int) : Nat → Option (St → Ann) := fun k => match k with
  | 2 => some fun _ => .inv { α := Nat, slots := fun k => [(3, .c (.v (.int .i64 k)))], res := fun _ => [], inv := fun k => (1 ≤ k ∧ (k ≤ l.length ∨ k = 1)) ∧ ∀ j, j + 1 < k → ∀ x y, l[j]? = some x → l[j + 1]? = some y → x < y, meas := fun k => l.length - k }
  | _ => none
set_option maxRecDepth 100000 in
theorem f65_vc (l : List Int) (hpre : ctrV.pre (l, ())) :
    (∃ x, (((1 : Nat) ≤ x ∧ (x ≤ l.length ∨ x = (1 : Nat))) ∧ ∀ (j : Nat), j + (1 : Nat) < x → ∀ (x y : Int), l[j]? = some x → l[j + (1 : Nat)]? = some y → x < y) ∧ (SV.c (SC.v (Value.int IntKind.i64 (1 : Int))) = SV.c (SC.v (Value.int IntKind.i64 (↑x : Int))) ∧ True) ∧ ([] : List (Go.Eng.Gd × Go.Eng.Res)) = []) ∧ ∀ (x : Nat), (((1 : Nat) ≤ x ∧ (x ≤ l.length ∨ x = (1 : Nat))) ∧ ∀ (j : Nat), j + (1 : Nat) < x → ∀ (x y : Int), l[j]? = some x → l[j + (1 : Nat)]? = some y → x < y) → br (decide ((↑x : Int) < (↑l.length : Int))) (InR IntKind.i64 ((↑x : Int) - (1 : Int)) ∧ ((0 : Int) ≤ (↑x : Int) - (1 : Int) ∧ (↑x : Int) - (1 : Int) < (↑l.length : Int)) ∧ ∀ (d : Int), l[((↑x : Int) - (1 : Int)).toNat]? = some d → ((0 : Int) ≤ (↑x : Int) ∧ (↑x : Int) < (↑l.length : Int)) ∧ ∀ (d_1 : Int), l[(↑x : Int).toNat]? = some d_1 → br (decide (d_1 ≤ d)) (([] : List Go.Eng.Res) = [] ∧ Ent.one (SV.c (SC.v (Value.bool (validI l)))) = Ent.one (SV.c (SC.v (Value.bool false)))) (InR IntKind.i64 ((↑x : Int) + (1 : Int)) ∧ ∃ x', (((1 : Nat) ≤ x' ∧ (x' ≤ l.length ∨ x' = (1 : Nat))) ∧ ∀ (j : Nat), j + (1 : Nat) < x' → ∀ (x y : Int), l[j]? = some x → l[j + (1 : Nat)]? = some y → x < y) ∧ (SV.c (SC.v (Value.int IntKind.i64 ((↑x : Int) + (1 : Int)))) = SV.c (SC.v (Value.int IntKind.i64 (↑x' : Int))) ∧ True) ∧ ([] : List (Go.Eng.Gd × Go.Eng.Res)) = [] ∧ l.length - x' < l.length - x)) (([] : List Go.Eng.Res) = [] ∧ Ent.one (SV.c (SC.v (Value.bool (validI l)))) = Ent.one (SV.c (SC.v (Value.bool true)))) := by
  have hp : l.length ≤ 1000000 := hpre
  refine ⟨⟨1, ⟨⟨by omega, .inr rfl⟩, fun j hj => by omega⟩, ⟨rfl, trivial⟩, rfl⟩, fun k hk => br_iff.2 ⟨fun h => ?_, fun h => ?_⟩⟩
  · simp only [decide_eq_true_eq] at h
    have hk1 := hk.1.1
    refine ⟨InR_i64.2 (by omega), by omega, fun d hd => ⟨by omega, fun e he => ?_⟩⟩
    have hd : l[k - 1]? = some d := by rw [← hd]; congr 1; omega
    have he : l[k]? = some e := by simpa using he
    have he' : l[k - 1 + 1]? = some e := by rw [show k - 1 + 1 = k by omega]; exact he
    refine br_iff.2 ⟨fun h2 => ?_, fun h2 => ⟨InR_i64.2 (by omega), k + 1, ⟨⟨by omega, .inl (by omega)⟩, fun j hj x y hx hy => ?_⟩, ⟨by simp, trivial⟩, rfl, by omega⟩⟩
    · simp only [decide_eq_true_eq] at h2
      have : validI l = false := decide_eq_false fun hs => by have := adj_ss hs hd he'; omega
      rw [this]; exact ⟨rfl, rfl⟩
    · simp only [decide_eq_false_iff_not] at h2
      by_cases hjk : j + 1 = k
      · have hj' : j = k - 1 := by omega
        subst hj'
        rw [hd] at hx; rw [he'] at hy; cases hx; cases hy; omega
      · exact hk.2 j (by omega) x y hx hy
  · simp only [decide_eq_false_iff_not] at h
    have : validI l = true := decide_eq_true (ss_adj fun j x y hx hy => hk.2 j (by have := (List.getElem?_eq_some_iff.1 hy).1; omega) x y hx hy)
    rw [this]; exact ⟨rfl, rfl⟩
set_option maxRecDepth 100000 in
theorem f65_met : Go.Eng.Met Tryd.prog cx0.gd 65 ctrV :=
  met_of (cx := cx0) (n := 20) (cl := cl65) (by kernel_rfl) tis_ok trivial Tryd.func65 (by kernel_rfl) (by kernel_rfl) rfl (by kernel_rfl) (by kernel_rfl) fun d hd => by
    obtain ⟨l, ⟨⟩⟩ := d
    exact ⟨ann65 l, cast (by kernel_rfl) (f65_vc l hd)⟩
@[reducible] def ctrUn : CT := { ps := [.sl (.int .i64), .sl (.int .i64)], pre := fun d => d.1.length ≤ 500000 ∧ d.2.1.length ≤ 500000, res := fun d => ([.row 3 (.int .i64) (makeI (d.1 ++ d.2.1))], .one (.c (.row 0))) }
@[reducible] def cl79 : List (Nat × CT) := [(66, ct41)]
@[reducible] def ann79 (l : List Int) (m : List Int) : Nat → Option (St → Ann) := fun _ => none
set_option maxRecDepth 100000 in
theorem f79_vc (l : List Int) (m : List Int) (hpre : ctrUn.pre (l, m, ())) :
    InA ((0 : Nat) + List.length (l)) (8 : Nat) ∧ InA (List.length (([] ++ l)) + List.length (m)) (8 : Nat) ∧ List.length (([] ++ l) ++ m) ≤ (1000000 : Nat) ∧ [Res.row (3 : TypeId) I6 (makeI (l ++ m))] = [Res.row (3 : TypeId) I6 (makeI (([] ++ l) ++ m))] ∧ Ent.one (SV.c (SC.row (0 : Nat))) = Ent.one (SV.c (SC.row (0 : Nat))) := by
  have hp : l.length ≤ 500000 ∧ m.length ≤ 500000 := hpre
  refine ⟨by rw [InA_iff]; omega, by rw [InA_iff]; simp; omega, by simp; omega, by simp, rfl⟩
set_option maxRecDepth 100000 in
theorem f79_met : Go.Eng.Met Tryd.prog cx0.gd 79 ctrUn :=
  met_of (cx := cx0) (n := 14) (cl := cl79) (by kernel_rfl) tis_ok ⟨f66_met, trivial⟩ Tryd.func79 (by kernel_rfl) (by kernel_rfl) rfl (by kernel_rfl) (by kernel_rfl) fun d hd => by
    obtain ⟨l, m, ⟨⟩⟩ := d
    exact ⟨ann79 l m, cast (by kernel_rfl) (f79_vc l m hd)⟩
@[reducible] def ctrMin : CT := { ps := [.sl (.int .i64), .sl (.int .i64)], pre := fun d => d.1.length ≤ 1000000 ∧ d.2.1.length ≤ 1000000, res := fun d => ([.row 3 (.int .i64) (makeI (filI d.1 d.2.1 false))], .one (.c (.row 0))) }
@[reducible] def cl81 : List (Nat × CT) := [(56, ct46), (66, ct41)]
@[reducible] def ann81 (l : List Int) (m : List Int) : Nat → Option (St → Ann) := fun k => match k with
  | 3 => some fun _ => .inv { α := Nat, slots := fun k => [(6, .c (.v (.int .i64 k))), (5, .c (.row 0))], res := fun k => [(0, .row 3 (.int .i64) (filI (l.take k) m false))], inv := fun k => k ≤ (l).length, meas := fun k => (l).length - k, drop := [7] }
  | _ => none
set_option maxRecDepth 100000 in
theorem f81_vc (l : List Int) (m : List Int) (hpre : ctrMin.pre (l, m, ())) :
    (∃ x, x ≤ l.length ∧ (SV.c (SC.v (Value.int IntKind.i64 (0 : Int))) = SV.c (SC.v (Value.int IntKind.i64 (↑x : Int))) ∧ SV.c (SC.row (0 : Nat)) = SV.c (SC.row (0 : Nat)) ∧ True) ∧ [(([] : Go.Eng.Gd), Res.row (3 : TypeId) I6 [])] = [(([] : Go.Eng.Gd), Res.row (3 : TypeId) I6 (filI (List.take x l) m false))]) ∧ ∀ (x : Nat), x ≤ l.length → br (decide ((↑x : Int) < (↑l.length : Int))) (((0 : Int) ≤ (↑x : Int) ∧ (↑x : Int) < (↑l.length : Int)) ∧ ∀ (d : Int), l[(↑x : Int).toNat]? = some d → m.length ≤ (4611686018427387904 : Nat) ∧ br (!hasI m d) (((0 : Int) ≤ (↑x : Int) ∧ (↑x : Int) < (↑l.length : Int)) ∧ ∀ (d : Int), l[(↑x : Int).toNat]? = some d → InA (List.length (filI (List.take x l) m false) + List.length ([d])) (8 : Nat) ∧ InR IntKind.i64 ((↑x : Int) + (1 : Int)) ∧ ∃ x', x' ≤ l.length ∧ (SV.c (SC.v (Value.int IntKind.i64 ((↑x : Int) + (1 : Int)))) = SV.c (SC.v (Value.int IntKind.i64 (↑x' : Int))) ∧ SV.c (SC.row (0 : Nat)) = SV.c (SC.row (0 : Nat)) ∧ True) ∧ [(([] : Go.Eng.Gd), Res.row (3 : TypeId) I6 (filI (List.take x l) m false ++ [d]))] = [(([] : Go.Eng.Gd), Res.row (3 : TypeId) I6 (filI (List.take x' l) m false))] ∧ l.length - x' < l.length - x) (InR IntKind.i64 ((↑x : Int) + (1 : Int)) ∧ ∃ x', x' ≤ l.length ∧ (SV.c (SC.v (Value.int IntKind.i64 ((↑x : Int) + (1 : Int)))) = SV.c (SC.v (Value.int IntKind.i64 (↑x' : Int))) ∧ SV.c (SC.row (0 : Nat)) = SV.c (SC.row (0 : Nat)) ∧ True) ∧ [(([] : Go.Eng.Gd), Res.row (3 : TypeId) I6 (filI (List.take x l) m false))] = [(([] : Go.Eng.Gd), Res.row (3 : TypeId) I6 (filI (List.take x' l) m false))] ∧ l.length - x' < l.length - x)) ((filI (List.take x l) m false).length ≤ (1000000 : Nat) ∧ [Res.row (3 : TypeId) I6 (makeI (filI l m false))] = [Res.row (3 : TypeId) I6 (makeI (filI (List.take x l) m false))] ∧ Ent.one (SV.c (SC.row (0 : Nat))) = Ent.one (SV.c (SC.row (0 : Nat)))) := by
  have hp : l.length ≤ 1000000 ∧ m.length ≤ 1000000 := hpre
  have hf : ∀ k, (filI (l.take k) m false).length ≤ 1000000 := fun k => by
    refine Nat.le_trans (List.length_filter_le _ _) ?_
    rw [List.length_take]; omega
  refine ⟨⟨0, by omega, ⟨rfl, rfl, trivial⟩, by simp [filI]⟩, fun k hk => br_iff.2 ⟨fun h => ?_, fun h => ?_⟩⟩
  · simp only [decide_eq_true_eq] at h
    refine ⟨by omega, fun d hd => ?_⟩
    have hd : l[k]? = some d := by simpa using hd
    have e : filI (l.take (k + 1)) m false = filI (l.take k) m false ++ (if hasI m d == false then [d] else []) := by
      unfold filI
      rw [List.take_add_one, hd, Option.toList_some, List.filter_append]
      congr 1
      simp only [List.filter_cons, List.filter_nil]
    refine ⟨by omega, br_iff.2 ⟨fun h2 => ?_, fun h2 => ?_⟩⟩
    all_goals first
      | (refine ⟨by omega, fun d' hd' => ?_⟩
         have hd' : l[k]? = some d' := by simpa using hd'
         rw [hd] at hd'; cases hd'
         refine ⟨?_, InR_i64.2 (by omega), k + 1, by omega, ⟨by simp, rfl, trivial⟩, ?_, by omega⟩
         · have := hf k
           rw [InA_iff]; simp; omega
         · rw [e]; revert h2; cases hasI m d <;> simp)
      | (refine ⟨InR_i64.2 (by omega), k + 1, by omega, ⟨by simp, rfl, trivial⟩, ?_, by omega⟩
         rw [e]; revert h2; cases hasI m d <;> simp)
  · simp only [decide_eq_false_iff_not] at h
    have := hf l.length
    rw [List.take_length] at this
    rw [List.take_of_length_le (by omega)]; exact ⟨by omega, rfl, rfl⟩
set_option maxRecDepth 100000 in
theorem f81_met : Go.Eng.Met Tryd.prog cx0.gd 81 ctrMin :=
  met_of (cx := cx0) (n := 30) (cl := cl81) (by kernel_rfl) tis_ok ⟨f56_met, f66_met, trivial⟩ Tryd.func81 (by kernel_rfl) (by kernel_rfl) rfl (by kernel_rfl) (by kernel_rfl) fun d hd => by
    obtain ⟨l, m, ⟨⟩⟩ := d
    exact ⟨ann81 l m, cast (by kernel_rfl) (f81_vc l m hd)⟩
@[reducible] def ctrRem : CT := { ps := [.sl (.int .i64), .int .i64], pre := fun d => d.1.length ≤ 1000000, res := fun d => ([.row 3 (.int .i64) (makeI (filI d.1 [d.2.1] false))], .one (.c (.row 0))) }
@[reducible] def cl57 : List (Nat × CT) := [(81, ctrMin)]
@[reducible] def ann57 (l : List Int) (x : Int) : Nat → Option (St → Ann) := fun _ => none
set_option maxRecDepth 100000 in
theorem f57_vc (l : List Int) (x : Int) (hpre : ctrRem.pre (l, x, ())) :
    (l.length ≤ (1000000 : Nat) ∧ [x].length ≤ (1000000 : Nat)) ∧ [Res.row (3 : TypeId) I6 (makeI (filI l [x] false))] = [Res.row (3 : TypeId) I6 (makeI (filI l [x] false))] ∧ Ent.one (SV.c (SC.row (0 : Nat))) = Ent.one (SV.c (SC.row (0 : Nat))) := by
  have hp : l.length ≤ 1000000 := hpre
  exact ⟨⟨hp, by simp⟩, rfl, rfl⟩
set_option maxRecDepth 100000 in
theorem f57_met : Go.Eng.Met Tryd.prog cx0.gd 57 ctrRem :=
  met_of (cx := cx0) (n := 9) (cl := cl57) (by kernel_rfl) tis_ok ⟨f81_met, trivial⟩ Tryd.func57 (by kernel_rfl) (by kernel_rfl) rfl (by kernel_rfl) (by kernel_rfl) fun d hd => by
    obtain ⟨l, x, ⟨⟩⟩ := d
    exact ⟨ann57 l x, cast (by kernel_rfl) (f57_vc l x hd)⟩
end Go.Proofs.YtkgjfkdcnoockaaDoor
set_option linter.unusedSimpArgs false
set_option linter.unusedVariables false
set_option maxRecDepth 100000
namespace Go.Proofs.YtkgjfkdcnoockaaDoor
open Go Go.Eng

@[reducible] def ctFilter : CT := { ps := [.sl (.int .i64), .sl (.int .i64), .bool], pre := fun d => d.1.length ≤ 1000000 ∧ d.2.1.length ≤ 1000000, res := fun d => ([.row 3 (.int .i64) (filI (makeI d.1) d.2.1 d.2.2.1)], .one (.c (.row 0))) }
@[reducible] def cl80 : List (Nat × CT) := [(95, ctSorted), (77, ctCon)]
@[reducible] def ann80 (l : List Int) (o : List Int) (b : Bool) : Nat → Option (St → Ann) := fun k => match k with
  | 3 => some fun _ => .inv { α := Nat, slots := fun k => [(13, .c (.v (.int .i64 k))), (7, .c (.row 1))], res := fun k => [(1, .row 3 (.int .i64) (filI ((makeI l).take k) o b))], inv := fun k => k ≤ (makeI l).length, meas := fun k => (makeI l).length - k, nil := [(7, 3, .int .i64)] }
  | _ => none
set_option maxRecDepth 100000 in
theorem f80_vc (l : List Int) (o : List Int) (b : Bool) (hpre : ctFilter.pre (l, o, b, ())) :
    l.length ≤ (1000000 : Nat) ∧ (∃ x, x ≤ (makeI l).length ∧ (SV.c (SC.v (Value.int IntKind.i64 (0 : Int))) = SV.c (SC.v (Value.int IntKind.i64 (↑x : Int))) ∧ SV.c (SC.row (Nat.succ (0 : Nat))) = SV.c (SC.row (1 : Nat)) ∧ True) ∧ [(([] : Go.Eng.Gd), Res.row (3 : TypeId) I6 (makeI l)), (([] : Go.Eng.Gd), Res.row (3 : TypeId) I6 [])] = [(([] : Go.Eng.Gd), Res.row (3 : TypeId) I6 (makeI l)), (([] : Go.Eng.Gd), Res.row (3 : TypeId) I6 (filI (List.take x (makeI l)) o b))]) ∧ ∀ (x : Nat), x ≤ (makeI l).length → br (decide ((↑x : Int) < (↑(makeI l).length : Int))) (((0 : Int) ≤ (↑x : Int) ∧ (↑x : Int) < (↑(makeI l).length : Int)) ∧ (↑x : Int).toNat < (makeI l).length ∧ ∀ (d : Int), (makeI l)[(↑x : Int).toNat]? = some d → o.length ≤ (4611686018427387904 : Nat) ∧ br (hasI o d == b) (InA (List.length (filI (List.take x (makeI l)) o b) + List.length ([d])) (8 : Nat) ∧ InR IntKind.i64 ((↑x : Int) + (1 : Int)) ∧ ∃ x', x' ≤ (makeI l).length ∧ (SV.c (SC.v (Value.int IntKind.i64 ((↑x : Int) + (1 : Int)))) = SV.c (SC.v (Value.int IntKind.i64 (↑x' : Int))) ∧ SV.c (SC.row (1 : Nat)) = SV.c (SC.row (1 : Nat)) ∧ True) ∧ [(([] : Go.Eng.Gd), Res.row (3 : TypeId) I6 (makeI l)), (([] : Go.Eng.Gd), Res.row (3 : TypeId) I6 (filI (List.take x (makeI l)) o b ++ [d]))] = [(([] : Go.Eng.Gd), Res.row (3 : TypeId) I6 (makeI l)), (([] : Go.Eng.Gd), Res.row (3 : TypeId) I6 (filI (List.take x' (makeI l)) o b))] ∧ (makeI l).length - x' < (makeI l).length - x) (InR IntKind.i64 ((↑x : Int) + (1 : Int)) ∧ ∃ x', x' ≤ (makeI l).length ∧ (SV.c (SC.v (Value.int IntKind.i64 ((↑x : Int) + (1 : Int)))) = SV.c (SC.v (Value.int IntKind.i64 (↑x' : Int))) ∧ SV.c (SC.row (1 : Nat)) = SV.c (SC.row (1 : Nat)) ∧ True) ∧ [(([] : Go.Eng.Gd), Res.row (3 : TypeId) I6 (makeI l)), (([] : Go.Eng.Gd), Res.row (3 : TypeId) I6 (filI (List.take x (makeI l)) o b))] = [(([] : Go.Eng.Gd), Res.row (3 : TypeId) I6 (makeI l)), (([] : Go.Eng.Gd), Res.row (3 : TypeId) I6 (filI (List.take x' (makeI l)) o b))] ∧ (makeI l).length - x' < (makeI l).length - x)) ([Res.row (3 : TypeId) I6 (filI (makeI l) o b)] = [Res.row (3 : TypeId) I6 (filI (List.take x (makeI l)) o b)] ∧ Ent.one (SV.c (SC.row (0 : Nat))) = Ent.one (SV.c (SC.row (0 : Nat)))) := by
  have hp : l.length ≤ 1000000 ∧ o.length ≤ 1000000 := hpre
  have hm := make_len l
  have hf : ∀ k, (filI ((makeI l).take k) o b).length ≤ 1000000 := fun k => by
    refine Nat.le_trans (List.length_filter_le _ _) ?_
    rw [List.length_take]; omega
  refine ⟨hp.1, ⟨0, by omega, ⟨rfl, rfl, trivial⟩, by simp [filI]⟩, fun k hk => br_iff.2 ⟨fun h => ?_, fun h => ?_⟩⟩
  · simp only [decide_eq_true_eq] at h
    refine ⟨⟨by omega, h⟩, by omega, fun d hd => ?_⟩
    have hd : (makeI l)[k]? = some d := by simpa using hd
    have e : filI ((makeI l).take (k + 1)) o b = filI ((makeI l).take k) o b ++ (if hasI o d == b then [d] else []) := by
      unfold filI
      rw [List.take_add_one, hd, Option.toList_some, List.filter_append]
      congr 1
      simp only [List.filter_cons, List.filter_nil]
    refine ⟨by omega, br_iff.2 ⟨fun h2 => ⟨?_, InR_i64.2 (by omega), k + 1, by omega, ⟨by simp, rfl, trivial⟩, ?_, by omega⟩, fun h2 => ⟨InR_i64.2 (by omega), k + 1, by omega, ⟨by simp, rfl, trivial⟩, ?_, by omega⟩⟩⟩
    · have := hf k
      rw [InA_iff]; simp; omega
    · rw [e, h2]; rfl
    · rw [e, h2]; simp
  · simp only [decide_eq_false_iff_not] at h
    rw [List.take_of_length_le (by omega)]; exact ⟨rfl, rfl⟩
set_option maxHeartbeats 2000000 in
set_option maxRecDepth 100000 in
theorem f80_met : Go.Eng.Met Tryd.prog cx0.gd 80 ctFilter :=
  met_of (cx := cx0) (n := 28) (cl := cl80) (by kernel_rfl) tis_ok ⟨f95_met, f77_met, trivial⟩ Tryd.func80 (by kernel_rfl) (by kernel_rfl) rfl (by kernel_rfl) (by kernel_rfl) fun d hd => by
    obtain ⟨l, o, b, ⟨⟩⟩ := d
    exact ex_of (ann80 l o b) (f80_vc l o b hd) (by kernel_rfl)
@[reducible] def ctRem : CT := { ps := [.sl (.int .i64), .int .i64], pre := fun d => d.1.length ≤ 1000000, res := fun d => ([.row 3 (.int .i64) (filI (makeI d.1) [d.2.1] false)], .one (.c (.row 0))) }
@[reducible] def cl55 : List (Nat × CT) := [(80, ctFilter)]
@[reducible] def ann55 (l : List Int) (x : Int) : Nat → Option (St → Ann) := fun _ => none
set_option maxRecDepth 100000 in
theorem f55_vc (l : List Int) (x : Int) (hpre : ctRem.pre (l, x, ())) :
    (l.length ≤ (1000000 : Nat) ∧ [x].length ≤ (1000000 : Nat)) ∧ [Res.row (3 : TypeId) I6 (filI (makeI l) [x] false)] = [Res.row (3 : TypeId) I6 (filI (makeI l) [x] false)] ∧ Ent.one (SV.c (SC.row (0 : Nat))) = Ent.one (SV.c (SC.row (0 : Nat))) := by
  have hp : l.length ≤ 1000000 := hpre
  exact ⟨⟨hp, by simp⟩, rfl, rfl⟩
set_option maxHeartbeats 2000000 in
set_option maxRecDepth 100000 in
theorem f55_met : Go.Eng.Met Tryd.prog cx0.gd 55 ctRem :=
  met_of (cx := cx0) (n := 9) (cl := cl55) (by kernel_rfl) tis_ok ⟨f80_met, trivial⟩ Tryd.func55 (by kernel_rfl) (by kernel_rfl) rfl (by kernel_rfl) (by kernel_rfl) fun d hd => by
    obtain ⟨l, x, ⟨⟩⟩ := d
    exact ex_of (ann55 l x) (f55_vc l x hd) (by kernel_rfl)
end Go.Proofs.YtkgjfkdcnoockaaDoor
set_option linter.unusedSimpArgs false
set_option linter.unusedVariables false
set_option maxRecDepth 100000
namespace Go.Proofs.YtkgjfkdcnoockaaDoor
open Go Go.Eng

@[reducible] def shM : Sh := .pair (.sl (.int .i64)) (.pair (.sl (.int .i64)) (.pair (.sl (.sl (.int .i64))) (.pair (.sl (.int .i64)) .unit)))
abbrev MD := List Int × List Int × List (List Int) × List Int × Unit
/-- Well-formed memories. -/
def FormM : MD → Prop
  | (vs, os, qs, sg, _) => vs.length ≤ 8 ∧ os.length ≤ 4 ∧ qs.length ≤ 4 ∧ SS sg ∧ (∀ v ∈ vs, valS v = true) ∧ (∀ o ∈ os, -1 ≤ o) ∧ (∀ x ∈ sg ++ qs.flatten, 0 ≤ x) ∧ (sg ++ qs.flatten).Nodup
open Classical in
noncomputable def formM (m : MD) : Bool := decide (FormM m)
open Classical in
theorem formM_iff {m : MD} : formM m = true ↔ FormM m := by unfold formM; rw [decide_eq_true_iff]
theorem formM_false {m : MD} (h : ¬ FormM m) : formM m = false := Bool.eq_false_iff.2 fun q => h (formM_iff.1 q)
def bndM (m : MD) : Prop := m.1.length ≤ 1000 ∧ m.2.1.length ≤ 1000 ∧ m.2.2.1.length ≤ 1000 ∧ m.2.2.2.1.length ≤ 1000 ∧ (∀ q ∈ m.2.2.1, q.length ≤ 1000) ∧ m.2.2.1.flatten.length ≤ 100000
theorem valS_iff {n : Int} : valS n = true ↔ -2147483648 ≤ n ∧ n ≤ 2147483647 := by
  unfold valS; simp
theorem validI_iff {l : List Int} : validI l = true ↔ SS l := by unfold validI; rw [decide_eq_true_iff]
theorem flat_take (qs : List (List Int)) (k : Nat) : (qs.take k).flatten.length ≤ qs.flatten.length := by
  have : qs.flatten = (qs.take k).flatten ++ (qs.drop k).flatten := by rw [← List.flatten_append, List.take_append_drop]
  rw [this, List.length_append]; omega
theorem flat_succ {qs : List (List Int)} {k : Nat} {d : List Int} (h : qs[k]? = some d) : (qs.take (k + 1)).flatten = (qs.take k).flatten ++ d := by
  rw [List.take_add_one, h]; simp
theorem nodup_at {l : List Int} (h : l.Nodup) {k : Nat} {d : Int} (hd : l[k]? = some d) : d ∉ l.take k := by
  intro hm
  obtain ⟨j, hj⟩ := List.getElem?_of_mem hm
  rw [List.getElem?_take] at hj
  split at hj
  · rename_i hjk
    obtain ⟨h1, e1⟩ := List.getElem?_eq_some_iff.1 hj
    obtain ⟨h2, e2⟩ := List.getElem?_eq_some_iff.1 hd
    have := List.pairwise_iff_getElem.1 h j k h1 h2 hjk
    exact this (e1.trans e2.symm)
  · cases hj
theorem nodup_succ {l : List Int} {k : Nat} (h : (l.take k).Nodup) {d : Int} (hd : l[k]? = some d) (hn : d ∉ l.take k) : (l.take (k + 1)).Nodup := by
  rw [List.take_add_one, hd, Option.toList_some, List.nodup_append]
  refine ⟨h, by simp, fun a ha b hb => ?_⟩
  simp at hb; subst hb
  rintro rfl; exact hn ha
theorem make_le : ∀ (l o : List Int), (l.foldl (fun o x => if hasI o x then o else insI o x) o).length ≤ o.length + l.length
  | [], o => by simp
  | x :: l, o => by
    simp only [List.foldl_cons, List.length_cons]
    split
    · have := make_le l o; omega
    · have := make_le l (insI o x); rw [insI_len] at this; omega
theorem make_full : ∀ (l o : List Int), (l.foldl (fun o x => if hasI o x then o else insI o x) o).length = o.length + l.length ↔ (l.Nodup ∧ ∀ x ∈ l, x ∉ o)
  | [], o => by simp
  | x :: l, o => by
    simp only [List.foldl_cons, List.length_cons]
    split
    · rename_i hx
      have := make_le l o
      constructor
      · intro h; omega
      · rintro ⟨_, h⟩; exact absurd (hasI_iff.1 hx) (h x (by simp))
    · rename_i hx
      have hx : x ∉ o := fun hh => hx (hasI_iff.2 hh)
      have ih := make_full l (insI o x)
      rw [insI_len] at ih
      rw [show o.length + (l.length + 1) = o.length + 1 + l.length by omega, ih, List.nodup_cons]
      constructor
      · rintro ⟨h1, h2⟩
        refine ⟨⟨fun hm => h2 x hm (ins_mem.2 (.inl rfl)), h1⟩, fun y hy => ?_⟩
        rcases List.mem_cons.1 hy with rfl | hy
        · exact hx
        · exact fun hh => h2 y hy (ins_mem.2 (.inr hh))
      · rintro ⟨⟨h1, h2⟩, h3⟩
        refine ⟨h2, fun y hy hh => ?_⟩
        rcases ins_mem.1 hh with rfl | hh
        · exact h1 hy
        · exact h3 y (by simp [hy]) hh
theorem make_nodup {l : List Int} : (makeI l).length = l.length ↔ l.Nodup := by
  have := make_full l []
  simp only [List.length_nil, Nat.zero_add] at this
  unfold makeI
  rw [this]; simp
@[reducible] def ctCld : CT := { ps := [.sl (.int .i64)], pre := fun d => d.1.length ≤ 1000000, res := fun d => ([.row 3 (.int .i64) (d.1)], .one (.c (.row 0))) }
@[reducible] def cl60 : List (Nat × CT) := []
@[reducible] def ann60 (l : List Int) : Nat → Option (St → Ann) := fun _ => none
@[reducible] def il60 : List (Nat × IP) := []
@[reducible] def hl60 : List (Nat × Nat × CT) := []
@[reducible] def ml60 : List (Nat × MK) := []
set_option maxRecDepth 100000 in
theorem f60_vc (l : List Int) (hpre : ctCld.pre (l, ())) :
    ((0 : Int) ≤ (↑l.length : Int) ∧ (↑l.length : Int) ≤ (↑l.length : Int) ∧ InA (↑l.length : Int).toNat (8 : Nat)) ∧ [Res.row (3 : TypeId) I6 l] = [Res.row (3 : TypeId) I6 (List.take (List.length (List.replicate (↑l.length : Int).toNat (0 : Int))) (l) ++ List.drop (List.length (l)) (List.replicate (↑l.length : Int).toNat (0 : Int)))] ∧ Ent.one (SV.c (SC.row (0 : Nat))) = Ent.one (SV.c (SC.row (0 : Nat))) := by
  have hp : l.length ≤ 1000000 := hpre
  refine ⟨⟨by omega, by omega, InA_iff.2 (by omega)⟩, ?_, rfl⟩
  simp
set_option maxHeartbeats 2000000 in
set_option maxRecDepth 100000 in
theorem f60_met : Go.Eng.Met Tryd.prog cx0.gd 60 ctCld :=
  (met_all (cx := cx0) (n := 11) (cl := cl60) (il := il60) (hl := hl60) (ml := ml60) (rc := []) (lits := []) (suf := []) (by kernel_rfl) tis_ok trivial trivial trivial trivial Tryd.func60 (by kernel_rfl) (by kernel_rfl) rfl (by kernel_rfl) (by kernel_rfl) (by simp) fun d hd => by
    obtain ⟨l, ⟨⟩⟩ := d
    exact ex_of (ann60 l) (f60_vc l hd) (by kernel_rfl)).met
@[reducible] def ctCop : CT := { ps := [.sl (.int .i64)], pre := fun d => d.1.length ≤ 1000000, res := fun d => ([.row 3 (.int .i64) (d.1)], .one (.c (.row 0))) }
@[reducible] def cl61 : List (Nat × CT) := []
@[reducible] def ann61 (l : List Int) : Nat → Option (St → Ann) := fun _ => none
@[reducible] def il61 : List (Nat × IP) := []
@[reducible] def hl61 : List (Nat × Nat × CT) := []
@[reducible] def ml61 : List (Nat × MK) := []
set_option maxRecDepth 100000 in
theorem f61_vc (l : List Int) (hpre : ctCop.pre (l, ())) :
    InA (List.length (l)) (8 : Nat) ∧ [Res.row (3 : TypeId) I6 l] = [Res.row (3 : TypeId) I6 (l)] ∧ Ent.one (SV.c (SC.row (0 : Nat))) = Ent.one (SV.c (SC.row (0 : Nat))) := by
  have hp : l.length ≤ 1000000 := hpre
  exact ⟨InA_iff.2 (by omega), rfl, rfl⟩
set_option maxHeartbeats 2000000 in
set_option maxRecDepth 100000 in
theorem f61_met : Go.Eng.Met Tryd.prog cx0.gd 61 ctCop :=
  (met_all (cx := cx0) (n := 7) (cl := cl61) (il := il61) (hl := hl61) (ml := ml61) (rc := [.row 3 (.int .i64)]) (lits := []) (suf := []) (by kernel_rfl) tis_ok trivial trivial trivial trivial Tryd.func61 (by kernel_rfl) (by kernel_rfl) rfl (by kernel_rfl) (by kernel_rfl) (by simp) fun d hd => by
    obtain ⟨l, ⟨⟩⟩ := d
    exact ex_of (ann61 l) (f61_vc l hd) (by kernel_rfl)).met
@[reducible] noncomputable def ctFm : CT := { ps := [shM], pre := fun d => bndM d.1, res := fun d => ([], vB (formM d.1)) }
@[reducible] noncomputable def cl48 : List (Nat × CT) := [(60, ctCld), (76, ctV), (77, ctCon)]
@[reducible] def ann48 (vs : List Int) (os : List Int) (qs : List (List Int)) (sg : List Int) : Nat → Option (St → Ann) := fun k => match k with
  | 4 => some fun _ => .inv { α := Nat, slots := fun k => [(37, .c (.v (.int .i64 k)))], res := fun _ => [], inv := fun k => k ≤ vs.length ∧ ∀ j < k, ∀ v, vs[j]? = some v → valS v = true, meas := fun k => vs.length - k }
  | 10 => some fun _ => .inv { α := Nat, slots := fun k => [(51, .c (.v (.int .i64 k)))], res := fun _ => [], inv := fun k => k ≤ os.length ∧ ∀ j < k, ∀ v, os[j]? = some v → -1 ≤ v, meas := fun k => os.length - k }
  | 17 => some fun _ => .inv { α := Nat, drop := [60], slots := fun k => [(64, .c (.v (.int .i64 k))), (7, .c (.row 1))], res := fun k => [(1, .row 3 (.int .i64) (sg ++ (qs.take k).flatten))], inv := fun k => k ≤ qs.length, meas := fun k => qs.length - k }
  | 22 => some fun _ => .inv { α := Nat, frzI := [1], slots := fun k => [(74, .c (.v (.int .i64 k)))], res := fun _ => [], inv := fun k => k ≤ (sg ++ qs.flatten).length ∧ (∀ j < k, ∀ v, (sg ++ qs.flatten)[j]? = some v → 0 ≤ v) ∧ ((sg ++ qs.flatten).take k).Nodup, meas := fun k => (sg ++ qs.flatten).length - k }
  | _ => none
@[reducible] def il48 : List (Nat × IP) := []
@[reducible] def hl48 : List (Nat × Nat × CT) := []
@[reducible] noncomputable def ml48 : List (Nat × MK) := []
set_option maxRecDepth 100000 in
theorem f48_vc (vs : List Int) (os : List Int) (qs : List (List Int)) (sg : List Int) (hpre : ctFm.pre ((vs, os, qs, sg, ()), ())) :
    ((!(decide ((8 : Int) < (↑vs.length : Int)) || decide ((4 : Int) < (↑os.length : Int)) || decide ((4 : Int) < (↑qs.length : Int)))) = true → sg.length ≤ (1000000 : Nat)) ∧ br (decide ((8 : Int) < (↑vs.length : Int)) || decide ((4 : Int) < (↑os.length : Int)) || decide ((4 : Int) < (↑qs.length : Int)) || !validI sg) (([] : List Go.Eng.Res) = [] ∧ Ent.one (SV.c (SC.v (Value.bool (formM (vs, os, qs, sg, ()))))) = Ent.one (SV.c (SC.v (Value.bool false)))) ((∃ x, (x ≤ vs.length ∧ ∀ (j : Nat), j < x → ∀ (v : Int), vs[j]? = some v → valS v = true) ∧ (SV.c (SC.v (Value.int IntKind.i64 (0 : Int))) = SV.c (SC.v (Value.int IntKind.i64 (↑x : Int))) ∧ True) ∧ [(([] : Go.Eng.Gd), bM6 vs os qs sg)] = [(([] : Go.Eng.Gd), bM6 vs os qs sg)]) ∧ ∀ (x : Nat), (x ≤ vs.length ∧ ∀ (j : Nat), j < x → ∀ (v : Int), vs[j]? = some v → valS v = true) → br (decide ((↑x : Int) < (↑vs.length : Int))) (((0 : Int) ≤ (↑x : Int) ∧ (↑x : Int) < (↑vs.length : Int)) ∧ ∀ (d : Int), vs[(↑x : Int).toNat]? = some d → br (decide (d < (-2147483648 : Int)) || decide ((2147483647 : Int) < d)) (([] : List Go.Eng.Res) = [] ∧ Ent.one (SV.c (SC.v (Value.bool (formM (vs, os, qs, sg, ()))))) = Ent.one (SV.c (SC.v (Value.bool false)))) (InR IntKind.i64 ((↑x : Int) + (1 : Int)) ∧ ∃ x', (x' ≤ vs.length ∧ ∀ (j : Nat), j < x' → ∀ (v : Int), vs[j]? = some v → valS v = true) ∧ (SV.c (SC.v (Value.int IntKind.i64 ((↑x : Int) + (1 : Int)))) = SV.c (SC.v (Value.int IntKind.i64 (↑x' : Int))) ∧ True) ∧ [(([] : Go.Eng.Gd), bM6 vs os qs sg)] = [(([] : Go.Eng.Gd), bM6 vs os qs sg)] ∧ vs.length - x' < vs.length - x)) ((∃ x, (x ≤ os.length ∧ ∀ (j : Nat), j < x → ∀ (v : Int), os[j]? = some v → (-1 : Int) ≤ v) ∧ (SV.c (SC.v (Value.int IntKind.i64 (0 : Int))) = SV.c (SC.v (Value.int IntKind.i64 (↑x : Int))) ∧ True) ∧ [(([] : Go.Eng.Gd), bM6 vs os qs sg)] = [(([] : Go.Eng.Gd), bM6 vs os qs sg)]) ∧ ∀ (x : Nat), (x ≤ os.length ∧ ∀ (j : Nat), j < x → ∀ (v : Int), os[j]? = some v → (-1 : Int) ≤ v) → br (decide ((↑x : Int) < (↑os.length : Int))) (((0 : Int) ≤ (↑x : Int) ∧ (↑x : Int) < (↑os.length : Int)) ∧ ∀ (d : Int), os[(↑x : Int).toNat]? = some d → br (decide (d < (-1 : Int))) (([] : List Go.Eng.Res) = [] ∧ Ent.one (SV.c (SC.v (Value.bool (formM (vs, os, qs, sg, ()))))) = Ent.one (SV.c (SC.v (Value.bool false)))) (InR IntKind.i64 ((↑x : Int) + (1 : Int)) ∧ ∃ x', (x' ≤ os.length ∧ ∀ (j : Nat), j < x' → ∀ (v : Int), os[j]? = some v → (-1 : Int) ≤ v) ∧ (SV.c (SC.v (Value.int IntKind.i64 ((↑x : Int) + (1 : Int)))) = SV.c (SC.v (Value.int IntKind.i64 (↑x' : Int))) ∧ True) ∧ [(([] : Go.Eng.Gd), bM6 vs os qs sg)] = [(([] : Go.Eng.Gd), bM6 vs os qs sg)] ∧ os.length - x' < os.length - x)) (sg.length ≤ (1000000 : Nat) ∧ (∃ x, x ≤ qs.length ∧ (SV.c (SC.v (Value.int IntKind.i64 (0 : Int))) = SV.c (SC.v (Value.int IntKind.i64 (↑x : Int))) ∧ SV.c (SC.row (1 : Nat)) = SV.c (SC.row (1 : Nat)) ∧ True) ∧ [(([] : Go.Eng.Gd), bM6 vs os qs sg), (([] : Go.Eng.Gd), Res.row (3 : TypeId) I6 sg)] = [(([] : Go.Eng.Gd), bM6 vs os qs sg), (([] : Go.Eng.Gd), Res.row (3 : TypeId) I6 (sg ++ (List.take x qs).flatten))]) ∧ ∀ (x : Nat), x ≤ qs.length → br (decide ((↑x : Int) < (↑qs.length : Int))) (((0 : Int) ≤ (↑x : Int) ∧ (↑x : Int) < (↑qs.length : Int)) ∧ ∀ (d : List I6.den), qs[(↑x : Int).toNat]? = some d → InA (List.length ((sg ++ (List.take x qs).flatten)) + List.length (d)) (8 : Nat) ∧ InR IntKind.i64 ((↑x : Int) + (1 : Int)) ∧ ∃ x', x' ≤ qs.length ∧ (SV.c (SC.v (Value.int IntKind.i64 ((↑x : Int) + (1 : Int)))) = SV.c (SC.v (Value.int IntKind.i64 (↑x' : Int))) ∧ SV.c (SC.row (1 : Nat)) = SV.c (SC.row (1 : Nat)) ∧ True) ∧ [(([] : Go.Eng.Gd), bM6 vs os qs sg), (([] : Go.Eng.Gd), Res.row (3 : TypeId) I6 ((sg ++ (List.take x qs).flatten) ++ d))] = [(([] : Go.Eng.Gd), bM6 vs os qs sg), (([] : Go.Eng.Gd), Res.row (3 : TypeId) I6 (sg ++ (List.take x' qs).flatten))] ∧ qs.length - x' < qs.length - x) ((∃ x, (x ≤ (sg ++ qs.flatten).length ∧ (∀ (j : Nat), j < x → ∀ (v : Int), (sg ++ qs.flatten)[j]? = some v → (0 : Int) ≤ v) ∧ (List.take x (sg ++ qs.flatten)).Nodup) ∧ (SV.c (SC.v (Value.int IntKind.i64 (0 : Int))) = SV.c (SC.v (Value.int IntKind.i64 (↑x : Int))) ∧ True) ∧ [(([] : Go.Eng.Gd), bM6 vs os qs sg), (([] : Go.Eng.Gd), Res.gone)] = [(([] : Go.Eng.Gd), bM6 vs os qs sg), (([] : Go.Eng.Gd), Res.gone)]) ∧ ∀ (x_1 : Nat), x_1 ≤ (sg ++ qs.flatten).length ∧ (∀ (j : Nat), j < x_1 → ∀ (v : Int), (sg ++ qs.flatten)[j]? = some v → (0 : Int) ≤ v) ∧ (List.take x_1 (sg ++ qs.flatten)).Nodup → br (decide ((↑x_1 : Int) < (↑(sg ++ (List.take x qs).flatten).length : Int))) (((0 : Int) ≤ (↑x_1 : Int) ∧ (↑x_1 : Int) < (↑(sg ++ (List.take x qs).flatten).length : Int)) ∧ ∀ (d : Int), (sg ++ (List.take x qs).flatten)[(↑x_1 : Int).toNat]? = some d → ((!decide (d < (0 : Int))) = true → (0 : Int) ≤ (0 : Int) ∧ (0 : Int) ≤ (↑x_1 : Int) ∧ (↑x_1 : Int) ≤ (↑(sg ++ (List.take x qs).flatten).length : Int)) ∧ ((!decide (d < (0 : Int))) = true → (List.drop (0 : Nat) (List.take (↑x_1 : Int).toNat (sg ++ (List.take x qs).flatten))).length ≤ (4611686018427387904 : Nat)) ∧ br (decide (d < (0 : Int)) || hasI (List.drop (0 : Nat) (List.take (↑x_1 : Int).toNat (sg ++ (List.take x qs).flatten))) d) (([] : List Go.Eng.Res) = [] ∧ Ent.one (SV.c (SC.v (Value.bool (formM (vs, os, qs, sg, ()))))) = Ent.one (SV.c (SC.v (Value.bool false)))) (InR IntKind.i64 ((↑x_1 : Int) + (1 : Int)) ∧ ∃ x', (x' ≤ (sg ++ qs.flatten).length ∧ (∀ (j : Nat), j < x' → ∀ (v : Int), (sg ++ qs.flatten)[j]? = some v → (0 : Int) ≤ v) ∧ (List.take x' (sg ++ qs.flatten)).Nodup) ∧ (SV.c (SC.v (Value.int IntKind.i64 ((↑x_1 : Int) + (1 : Int)))) = SV.c (SC.v (Value.int IntKind.i64 (↑x' : Int))) ∧ True) ∧ [(([] : Go.Eng.Gd), bM6 vs os qs sg), (([] : Go.Eng.Gd), Res.gone)] = [(([] : Go.Eng.Gd), bM6 vs os qs sg), (([] : Go.Eng.Gd), Res.gone)] ∧ (sg ++ qs.flatten).length - x' < (sg ++ qs.flatten).length - x_1)) (([] : List Go.Eng.Res) = [] ∧ Ent.one (SV.c (SC.v (Value.bool (formM (vs, os, qs, sg, ()))))) = Ent.one (SV.c (SC.v (Value.bool true)))))))) := by
  obtain ⟨b1, b2, b3, b4, b5, b6⟩ : vs.length ≤ 1000 ∧ os.length ≤ 1000 ∧ qs.length ≤ 1000 ∧ sg.length ≤ 1000 ∧ (∀ q ∈ qs, q.length ≤ 1000) ∧ qs.flatten.length ≤ 100000 := hpre
  have fF : ¬ FormM (vs, os, qs, sg, ()) → ([] : List Go.Eng.Res) = [] ∧ Ent.one (SV.c (SC.v (Value.bool (formM (vs, os, qs, sg, ()))))) = Ent.one (SV.c (SC.v (Value.bool false))) := fun q => ⟨rfl, by rw [formM_false q]⟩
  refine ⟨fun _ => by omega, br_iff.2 ⟨fun h => fF fun q => ?_, fun h => ?_⟩⟩
  · obtain ⟨q1, q2, q3, q4, _⟩ := q
    rw [validI_iff.2 q4] at h
    simp at h; omega
  simp only [Bool.or_eq_false_iff, Bool.not_eq_false', decide_eq_false_iff_not] at h
  obtain ⟨⟨⟨h1, h2⟩, h3⟩, h4⟩ := h
  have h4 : SS sg := validI_iff.1 h4
  refine ⟨⟨0, ⟨by omega, fun j hj => by omega⟩, ⟨rfl, trivial⟩, rfl⟩, fun k hk => br_iff.2 ⟨fun g => ?_, fun g => ?_⟩⟩
  · simp only [decide_eq_true_eq] at g
    refine ⟨⟨by omega, by omega⟩, fun d hd => br_iff.2 ⟨fun g2 => fF fun q => ?_, fun g2 => ⟨InR_i64.2 (by omega), k + 1, ⟨by omega, fun j hj v hv => ?_⟩, ⟨rfl, trivial⟩, rfl, by omega⟩⟩⟩
    · have := valS_iff.1 (q.2.2.2.2.1 d (List.mem_of_getElem? hd))
      simp at g2; omega
    · by_cases hjk : j = k
      · subst hjk
        have hd : vs[j]? = some d := hd
        rw [hd] at hv; cases hv
        rw [valS_iff]
        simp at g2; omega
      · exact hk.2 j (by omega) v hv
  simp only [decide_eq_false_iff_not] at g
  have v1 : ∀ v ∈ vs, valS v = true := fun v hv => by
    obtain ⟨j, hj⟩ := List.getElem?_of_mem hv
    exact hk.2 j (by have := (List.getElem?_eq_some_iff.1 hj).1; omega) v hj
  refine ⟨⟨0, ⟨by omega, fun j hj => by omega⟩, ⟨rfl, trivial⟩, rfl⟩, fun k2 hk2 => br_iff.2 ⟨fun g => ?_, fun g => ?_⟩⟩
  · simp only [decide_eq_true_eq] at g
    refine ⟨⟨by omega, by omega⟩, fun d hd => br_iff.2 ⟨fun g2 => fF fun q => ?_, fun g2 => ⟨InR_i64.2 (by omega), k2 + 1, ⟨by omega, fun j hj v hv => ?_⟩, ⟨rfl, trivial⟩, rfl, by omega⟩⟩⟩
    · have := q.2.2.2.2.2.1 d (List.mem_of_getElem? hd)
      simp at g2; omega
    · by_cases hjk : j = k2
      · subst hjk
        have hd : os[j]? = some d := hd
        rw [hd] at hv; cases hv
        simp at g2; omega
      · exact hk2.2 j (by omega) v hv
  simp only [decide_eq_false_iff_not] at g
  have v2 : ∀ v ∈ os, -1 ≤ v := fun v hv => by
    obtain ⟨j, hj⟩ := List.getElem?_of_mem hv
    exact hk2.2 j (by have := (List.getElem?_eq_some_iff.1 hj).1; omega) v hj
  refine ⟨by omega, ⟨0, by omega, ⟨rfl, rfl, trivial⟩, by simp⟩, fun k3 hk3 => br_iff.2 ⟨fun g => ?_, fun g => ?_⟩⟩
  · simp only [decide_eq_true_eq] at g
    refine ⟨⟨by omega, by omega⟩, fun d hd => ⟨InA_iff.2 ?_, InR_i64.2 (by omega), k3 + 1, by omega, ⟨rfl, rfl, trivial⟩, ?_, by omega⟩⟩
    · have := flat_take qs k3
      have := b5 d (List.mem_of_getElem? hd)
      rw [List.length_append]; omega
    · have hd : qs[k3]? = some d := hd
      rw [flat_succ hd, List.append_assoc]
  simp only [decide_eq_false_iff_not] at g
  have ek : qs.take k3 = qs := List.take_of_length_le (by omega)
  rw [ek]
  have bl : (sg ++ qs.flatten).length ≤ 101000 := by rw [List.length_append]; omega
  refine ⟨⟨0, ⟨by omega, fun j hj => by omega, by simp⟩, ⟨rfl, trivial⟩, rfl⟩, fun k4 hk4 => br_iff.2 ⟨fun g => ?_, fun g => ?_⟩⟩
  · simp only [decide_eq_true_eq] at g
    refine ⟨⟨by omega, by omega⟩, fun d hd => ⟨fun _ => ⟨by omega, by omega, by omega⟩, fun _ => by simp only [List.drop_zero, List.length_take]; omega, br_iff.2 ⟨fun g2 => fF fun q => ?_, fun g2 => ⟨InR_i64.2 (by omega), k4 + 1, ⟨by omega, fun j hj v hv => ?_, ?_⟩, ⟨rfl, trivial⟩, rfl, by omega⟩⟩⟩⟩
    · have hd : (sg ++ qs.flatten)[k4]? = some d := hd
      have n0 := q.2.2.2.2.2.2.1 d (List.mem_of_getElem? hd)
      have n1 := nodup_at q.2.2.2.2.2.2.2 hd
      have n2 : hasI ((sg ++ qs.flatten).take k4) d = false := hasI_false.2 n1
      rw [List.drop_zero, show ((k4 : Int)).toNat = k4 from rfl, n2] at g2
      simp at g2; omega
    all_goals
      rw [List.drop_zero, show ((k4 : Int)).toNat = k4 from rfl, Bool.or_eq_false_iff, decide_eq_false_iff_not] at g2
      have hd : (sg ++ qs.flatten)[k4]? = some d := hd
    · by_cases hjk : j = k4
      · subst hjk
        rw [hd] at hv; cases hv
        omega
      · exact hk4.2.1 j (by omega) v hv
    · exact nodup_succ hk4.2.2 hd (hasI_false.1 g2.2)
  simp only [decide_eq_false_iff_not] at g
  refine ⟨rfl, ?_⟩
  rw [formM_iff.2]
  refine ⟨by omega, by omega, by omega, h4, v1, v2, fun x hx => ?_, ?_⟩
  · obtain ⟨j, hj⟩ := List.getElem?_of_mem hx
    exact hk4.2.1 j (by have := (List.getElem?_eq_some_iff.1 hj).1; omega) x hj
  · have := hk4.2.2
    rwa [List.take_of_length_le (by omega)] at this
set_option maxHeartbeats 2000000 in
set_option maxRecDepth 100000 in
theorem f48_met : Go.Eng.Met Tryd.prog cx0.gd 48 ctFm :=
  (met_all (cx := cx0) (n := 89) (cl := cl48) (il := il48) (hl := hl48) (ml := ml48) (rc := []) (lits := []) (suf := []) (by kernel_rfl) tis_ok ⟨f60_met, f76_met, f77_met, trivial⟩ trivial trivial trivial Tryd.func48 (by kernel_rfl) (by kernel_rfl) rfl (by kernel_rfl) (by kernel_rfl) (by simp) fun d hd => by
    obtain ⟨⟨vs, os, qs, sg, ⟨⟩⟩, ⟨⟩⟩ := d
    exact ex_of (ann48 vs os qs sg) (f48_vc vs os qs sg hd) (by kernel_rfl)).met
@[reducible] noncomputable def ctWf : CT := { ps := [shM], pre := fun d => bndM d.1, res := fun d => ([], vB (formM d.1)) }
@[reducible] noncomputable def cl40 : List (Nat × CT) := [(65, ctrV), (66, ct41)]
@[reducible] def ann40 (vs : List Int) (os : List Int) (qs : List (List Int)) (sg : List Int) : Nat → Option (St → Ann) := fun k => match k with
  | 4 => some fun _ => .inv { α := Nat, slots := fun k => [(3, .c (.v (.int .i64 k)))], res := fun _ => [], inv := fun k => k ≤ vs.length ∧ ∀ j < k, ∀ v, vs[j]? = some v → valS v = true, meas := fun k => vs.length - k }
  | 9 => some fun _ => .inv { α := Nat, slots := fun k => [(4, .c (.v (.int .i64 k)))], res := fun _ => [], inv := fun k => k ≤ os.length ∧ ∀ j < k, ∀ v, os[j]? = some v → -1 ≤ v, meas := fun k => os.length - k }
  | 18 => some fun _ => .inv { α := Nat, drop := [65], slots := fun k => [(6, .c (.v (.int .i64 k))), (5, .c (.row 1))], res := fun k => [(1, .row 3 (.int .i64) (sg ++ (qs.take k).flatten))], inv := fun k => k ≤ qs.length, meas := fun k => qs.length - k }
  | 22 => some fun _ => .inv { α := Nat, frzI := [1], slots := fun k => [(7, .c (.v (.int .i64 k)))], res := fun _ => [], inv := fun k => k ≤ (sg ++ qs.flatten).length ∧ (∀ j < k, ∀ v, (sg ++ qs.flatten)[j]? = some v → 0 ≤ v), meas := fun k => (sg ++ qs.flatten).length - k }
  | _ => none
@[reducible] def il40 : List (Nat × IP) := []
@[reducible] def hl40 : List (Nat × Nat × CT) := []
@[reducible] noncomputable def ml40 : List (Nat × MK) := []
set_option maxRecDepth 100000 in
theorem f40_vc (vs : List Int) (os : List Int) (qs : List (List Int)) (sg : List Int) (hpre : ctWf.pre ((vs, os, qs, sg, ()), ())) :
    br (decide ((8 : Int) < (↑vs.length : Int)) || decide ((4 : Int) < (↑os.length : Int)) || decide ((4 : Int) < (↑qs.length : Int))) (([] : List Go.Eng.Res) = [] ∧ Ent.one (SV.c (SC.v (Value.bool (formM (vs, os, qs, sg, ()))))) = Ent.one (SV.c (SC.v (Value.bool false)))) ((∃ x, (x ≤ vs.length ∧ ∀ (j : Nat), j < x → ∀ (v : Int), vs[j]? = some v → valS v = true) ∧ (SV.c (SC.v (Value.int IntKind.i64 (0 : Int))) = SV.c (SC.v (Value.int IntKind.i64 (↑x : Int))) ∧ True) ∧ [(([] : Go.Eng.Gd), bM6 vs os qs sg)] = [(([] : Go.Eng.Gd), bM6 vs os qs sg)]) ∧ ∀ (x : Nat), (x ≤ vs.length ∧ ∀ (j : Nat), j < x → ∀ (v : Int), vs[j]? = some v → valS v = true) → br (decide ((↑x : Int) < (↑vs.length : Int))) (((0 : Int) ≤ (↑x : Int) ∧ (↑x : Int) < (↑vs.length : Int)) ∧ ∀ (d : Int), vs[(↑x : Int).toNat]? = some d → ((!decide (d < (-2147483648 : Int))) = true → (0 : Int) ≤ (↑x : Int) ∧ (↑x : Int) < (↑vs.length : Int)) ∧ ∀ (d_1 : Int), ((!decide (d < (-2147483648 : Int))) = true → vs[(↑x : Int).toNat]? = some d_1) → br (decide (d < (-2147483648 : Int)) || decide ((2147483647 : Int) < d_1)) (([] : List Go.Eng.Res) = [] ∧ Ent.one (SV.c (SC.v (Value.bool (formM (vs, os, qs, sg, ()))))) = Ent.one (SV.c (SC.v (Value.bool false)))) (InR IntKind.i64 ((↑x : Int) + (1 : Int)) ∧ ∃ x', (x' ≤ vs.length ∧ ∀ (j : Nat), j < x' → ∀ (v : Int), vs[j]? = some v → valS v = true) ∧ (SV.c (SC.v (Value.int IntKind.i64 ((↑x : Int) + (1 : Int)))) = SV.c (SC.v (Value.int IntKind.i64 (↑x' : Int))) ∧ True) ∧ [(([] : Go.Eng.Gd), bM6 vs os qs sg)] = [(([] : Go.Eng.Gd), bM6 vs os qs sg)] ∧ vs.length - x' < vs.length - x)) ((∃ x, (x ≤ os.length ∧ ∀ (j : Nat), j < x → ∀ (v : Int), os[j]? = some v → (-1 : Int) ≤ v) ∧ (SV.c (SC.v (Value.int IntKind.i64 (0 : Int))) = SV.c (SC.v (Value.int IntKind.i64 (↑x : Int))) ∧ True) ∧ [(([] : Go.Eng.Gd), bM6 vs os qs sg)] = [(([] : Go.Eng.Gd), bM6 vs os qs sg)]) ∧ ∀ (x : Nat), (x ≤ os.length ∧ ∀ (j : Nat), j < x → ∀ (v : Int), os[j]? = some v → (-1 : Int) ≤ v) → br (decide ((↑x : Int) < (↑os.length : Int))) (((0 : Int) ≤ (↑x : Int) ∧ (↑x : Int) < (↑os.length : Int)) ∧ ∀ (d : Int), os[(↑x : Int).toNat]? = some d → br (decide (d < (-1 : Int))) (([] : List Go.Eng.Res) = [] ∧ Ent.one (SV.c (SC.v (Value.bool (formM (vs, os, qs, sg, ()))))) = Ent.one (SV.c (SC.v (Value.bool false)))) (InR IntKind.i64 ((↑x : Int) + (1 : Int)) ∧ ∃ x', (x' ≤ os.length ∧ ∀ (j : Nat), j < x' → ∀ (v : Int), os[j]? = some v → (-1 : Int) ≤ v) ∧ (SV.c (SC.v (Value.int IntKind.i64 ((↑x : Int) + (1 : Int)))) = SV.c (SC.v (Value.int IntKind.i64 (↑x' : Int))) ∧ True) ∧ [(([] : Go.Eng.Gd), bM6 vs os qs sg)] = [(([] : Go.Eng.Gd), bM6 vs os qs sg)] ∧ os.length - x' < os.length - x)) (sg.length ≤ (1000000 : Nat) ∧ br (!validI sg) (([] : List Go.Eng.Res) = [] ∧ Ent.one (SV.c (SC.v (Value.bool (formM (vs, os, qs, sg, ()))))) = Ent.one (SV.c (SC.v (Value.bool false)))) (InA (List.length (sg)) (8 : Nat) ∧ (∃ x, x ≤ qs.length ∧ (SV.c (SC.v (Value.int IntKind.i64 (0 : Int))) = SV.c (SC.v (Value.int IntKind.i64 (↑x : Int))) ∧ SV.c (SC.row (Nat.succ (0 : Nat))) = SV.c (SC.row (1 : Nat)) ∧ True) ∧ [(([] : Go.Eng.Gd), bM6 vs os qs sg), (([] : Go.Eng.Gd), Res.row (3 : TypeId) I6 (sg))] = [(([] : Go.Eng.Gd), bM6 vs os qs sg), (([] : Go.Eng.Gd), Res.row (3 : TypeId) I6 (sg ++ (List.take x qs).flatten))]) ∧ ∀ (x : Nat), x ≤ qs.length → br (decide ((↑x : Int) < (↑qs.length : Int))) (((0 : Int) ≤ (↑x : Int) ∧ (↑x : Int) < (↑qs.length : Int)) ∧ ∀ (d : List I6.den), qs[(↑x : Int).toNat]? = some d → InA (List.length ((sg ++ (List.take x qs).flatten)) + List.length (d)) (8 : Nat) ∧ InR IntKind.i64 ((↑x : Int) + (1 : Int)) ∧ ∃ x', x' ≤ qs.length ∧ (SV.c (SC.v (Value.int IntKind.i64 ((↑x : Int) + (1 : Int)))) = SV.c (SC.v (Value.int IntKind.i64 (↑x' : Int))) ∧ SV.c (SC.row (1 : Nat)) = SV.c (SC.row (1 : Nat)) ∧ True) ∧ [(([] : Go.Eng.Gd), bM6 vs os qs sg), (([] : Go.Eng.Gd), Res.row (3 : TypeId) I6 ((sg ++ (List.take x qs).flatten) ++ d))] = [(([] : Go.Eng.Gd), bM6 vs os qs sg), (([] : Go.Eng.Gd), Res.row (3 : TypeId) I6 (sg ++ (List.take x' qs).flatten))] ∧ qs.length - x' < qs.length - x) ((∃ x, (x ≤ (sg ++ qs.flatten).length ∧ ∀ (j : Nat), j < x → ∀ (v : Int), (sg ++ qs.flatten)[j]? = some v → (0 : Int) ≤ v) ∧ (SV.c (SC.v (Value.int IntKind.i64 (0 : Int))) = SV.c (SC.v (Value.int IntKind.i64 (↑x : Int))) ∧ True) ∧ [(([] : Go.Eng.Gd), bM6 vs os qs sg), (([] : Go.Eng.Gd), Res.gone)] = [(([] : Go.Eng.Gd), bM6 vs os qs sg), (([] : Go.Eng.Gd), Res.gone)]) ∧ ∀ (x_1 : Nat), (x_1 ≤ (sg ++ qs.flatten).length ∧ ∀ (j : Nat), j < x_1 → ∀ (v : Int), (sg ++ qs.flatten)[j]? = some v → (0 : Int) ≤ v) → br (decide ((↑x_1 : Int) < (↑(sg ++ (List.take x qs).flatten).length : Int))) (((0 : Int) ≤ (↑x_1 : Int) ∧ (↑x_1 : Int) < (↑(sg ++ (List.take x qs).flatten).length : Int)) ∧ ∀ (d : Int), (sg ++ (List.take x qs).flatten)[(↑x_1 : Int).toNat]? = some d → br (decide (d < (0 : Int))) (([] : List Go.Eng.Res) = [] ∧ Ent.one (SV.c (SC.v (Value.bool (formM (vs, os, qs, sg, ()))))) = Ent.one (SV.c (SC.v (Value.bool false)))) (InR IntKind.i64 ((↑x_1 : Int) + (1 : Int)) ∧ ∃ x', (x' ≤ (sg ++ qs.flatten).length ∧ ∀ (j : Nat), j < x' → ∀ (v : Int), (sg ++ qs.flatten)[j]? = some v → (0 : Int) ≤ v) ∧ (SV.c (SC.v (Value.int IntKind.i64 ((↑x_1 : Int) + (1 : Int)))) = SV.c (SC.v (Value.int IntKind.i64 (↑x' : Int))) ∧ True) ∧ [(([] : Go.Eng.Gd), bM6 vs os qs sg), (([] : Go.Eng.Gd), Res.gone)] = [(([] : Go.Eng.Gd), bM6 vs os qs sg), (([] : Go.Eng.Gd), Res.gone)] ∧ (sg ++ qs.flatten).length - x' < (sg ++ qs.flatten).length - x_1)) ((sg ++ (List.take x qs).flatten).length ≤ (1000000 : Nat) ∧ ([] : List Go.Eng.Res) = [] ∧ Ent.one (SV.c (SC.v (Value.bool (formM (vs, os, qs, sg, ()))))) = Ent.one (SV.c (SC.v (Value.bool (decide ((↑(makeI (sg ++ (List.take x qs).flatten)).length : Int) = (↑(sg ++ (List.take x qs).flatten).length : Int)))))))))))) := by
  obtain ⟨b1, b2, b3, b4, b5, b6⟩ : vs.length ≤ 1000 ∧ os.length ≤ 1000 ∧ qs.length ≤ 1000 ∧ sg.length ≤ 1000 ∧ (∀ q ∈ qs, q.length ≤ 1000) ∧ qs.flatten.length ≤ 100000 := hpre
  have fF : ¬ FormM (vs, os, qs, sg, ()) → ([] : List Go.Eng.Res) = [] ∧ Ent.one (SV.c (SC.v (Value.bool (formM (vs, os, qs, sg, ()))))) = Ent.one (SV.c (SC.v (Value.bool false))) := fun q => ⟨rfl, by rw [formM_false q]⟩
  refine br_iff.2 ⟨fun h => fF fun q => ?_, fun h => ?_⟩
  · obtain ⟨q1, q2, q3, q4, _⟩ := q
    simp at h; omega
  simp only [Bool.or_eq_false_iff, decide_eq_false_iff_not] at h
  obtain ⟨⟨h1, h2⟩, h3⟩ := h
  refine ⟨⟨0, ⟨by omega, fun j hj => by omega⟩, ⟨rfl, trivial⟩, rfl⟩, fun k hk => br_iff.2 ⟨fun g => ?_, fun g => ?_⟩⟩
  · simp only [decide_eq_true_eq] at g
    refine ⟨⟨by omega, by omega⟩, fun d hd => ⟨fun _ => ⟨by omega, by omega⟩, fun d1 hd1 => br_iff.2 ⟨fun g2 => fF fun q => ?_, fun g2 => ⟨InR_i64.2 (by omega), k + 1, ⟨by omega, fun j hj v hv => ?_⟩, ⟨rfl, trivial⟩, rfl, by omega⟩⟩⟩⟩
    · have := valS_iff.1 (q.2.2.2.2.1 d (List.mem_of_getElem? hd))
      by_cases g3 : d < -2147483648
      · omega
      · have e1 := hd1 (by simp [g3])
        rw [hd] at e1; cases e1
        simp at g2; omega
    · by_cases hjk : j = k
      · subst hjk
        have hd : vs[j]? = some d := hd
        rw [hd] at hv; cases hv
        rw [Bool.or_eq_false_iff, decide_eq_false_iff_not, decide_eq_false_iff_not] at g2
        have e1 : vs[j]? = some d1 := hd1 (by simp [g2.1])
        rw [hd] at e1; cases e1
        rw [valS_iff]
        omega
      · exact hk.2 j (by omega) v hv
  simp only [decide_eq_false_iff_not] at g
  have v1 : ∀ v ∈ vs, valS v = true := fun v hv => by
    obtain ⟨j, hj⟩ := List.getElem?_of_mem hv
    exact hk.2 j (by have := (List.getElem?_eq_some_iff.1 hj).1; omega) v hj
  refine ⟨⟨0, ⟨by omega, fun j hj => by omega⟩, ⟨rfl, trivial⟩, rfl⟩, fun k2 hk2 => br_iff.2 ⟨fun g => ?_, fun g => ?_⟩⟩
  · simp only [decide_eq_true_eq] at g
    refine ⟨⟨by omega, by omega⟩, fun d hd => br_iff.2 ⟨fun g2 => fF fun q => ?_, fun g2 => ⟨InR_i64.2 (by omega), k2 + 1, ⟨by omega, fun j hj v hv => ?_⟩, ⟨rfl, trivial⟩, rfl, by omega⟩⟩⟩
    · have := q.2.2.2.2.2.1 d (List.mem_of_getElem? hd)
      simp at g2; omega
    · by_cases hjk : j = k2
      · subst hjk
        have hd : os[j]? = some d := hd
        rw [hd] at hv; cases hv
        simp at g2; omega
      · exact hk2.2 j (by omega) v hv
  simp only [decide_eq_false_iff_not] at g
  have v2 : ∀ v ∈ os, -1 ≤ v := fun v hv => by
    obtain ⟨j, hj⟩ := List.getElem?_of_mem hv
    exact hk2.2 j (by have := (List.getElem?_eq_some_iff.1 hj).1; omega) v hj
  refine ⟨by omega, br_iff.2 ⟨fun h4 => fF fun q => ?_, fun h4 => ?_⟩⟩
  · rw [validI_iff.2 q.2.2.2.1] at h4; cases h4
  have h4 : SS sg := validI_iff.1 (by simpa using h4)
  refine ⟨InA_iff.2 (by omega), ⟨0, by omega, ⟨rfl, rfl, trivial⟩, by simp⟩, fun k3 hk3 => br_iff.2 ⟨fun g => ?_, fun g => ?_⟩⟩
  · simp only [decide_eq_true_eq] at g
    refine ⟨⟨by omega, by omega⟩, fun d hd => ⟨InA_iff.2 ?_, InR_i64.2 (by omega), k3 + 1, by omega, ⟨rfl, rfl, trivial⟩, ?_, by omega⟩⟩
    · have := flat_take qs k3
      have := b5 d (List.mem_of_getElem? hd)
      rw [List.length_append]; omega
    · have hd : qs[k3]? = some d := hd
      rw [flat_succ hd, List.append_assoc]
  simp only [decide_eq_false_iff_not] at g
  have ek : qs.take k3 = qs := List.take_of_length_le (by omega)
  rw [ek]
  have bl : (sg ++ qs.flatten).length ≤ 101000 := by rw [List.length_append]; omega
  refine ⟨⟨0, ⟨by omega, fun j hj => by omega⟩, ⟨rfl, trivial⟩, rfl⟩, fun k4 hk4 => br_iff.2 ⟨fun g => ?_, fun g => ?_⟩⟩
  · simp only [decide_eq_true_eq] at g
    refine ⟨⟨by omega, by omega⟩, fun d hd => br_iff.2 ⟨fun g2 => fF fun q => ?_, fun g2 => ⟨InR_i64.2 (by omega), k4 + 1, ⟨by omega, fun j hj v hv => ?_⟩, ⟨rfl, trivial⟩, rfl, by omega⟩⟩⟩
    · have hd : (sg ++ qs.flatten)[k4]? = some d := hd
      have n0 := q.2.2.2.2.2.2.1 d (List.mem_of_getElem? hd)
      simp at g2; omega
    · by_cases hjk : j = k4
      · subst hjk
        have hd : (sg ++ qs.flatten)[j]? = some d := hd
        rw [hd] at hv; cases hv
        simp at g2; omega
      · exact hk4.2 j (by omega) v hv
  simp only [decide_eq_false_iff_not] at g
  refine ⟨by omega, rfl, ?_⟩
  have e : formM (vs, os, qs, sg, ()) = decide ((↑(makeI (sg ++ qs.flatten)).length : Int) = (↑(sg ++ qs.flatten).length : Int)) := by
    rw [Bool.eq_iff_iff, formM_iff, decide_eq_true_eq, Int.ofNat_inj, make_nodup]
    constructor
    · exact fun q => q.2.2.2.2.2.2.2
    · refine fun q => ⟨by omega, by omega, by omega, h4, v1, v2, fun x hx => ?_, q⟩
      obtain ⟨j, hj⟩ := List.getElem?_of_mem hx
      exact hk4.2 j (by have := (List.getElem?_eq_some_iff.1 hj).1; omega) x hj
  rw [e]
set_option maxHeartbeats 2000000 in
set_option maxRecDepth 100000 in
theorem f40_met : Go.Eng.Met Tryd.prog cx0.gd 40 ctWf :=
  (met_all (cx := cx0) (n := 97) (cl := cl40) (il := il40) (hl := hl40) (ml := ml40) (rc := []) (lits := []) (suf := []) (by kernel_rfl) tis_ok ⟨f65_met, f66_met, trivial⟩ trivial trivial trivial Tryd.func40 (by kernel_rfl) (by kernel_rfl) rfl (by kernel_rfl) (by kernel_rfl) (by simp) fun d hd => by
    obtain ⟨⟨vs, os, qs, sg, ⟨⟩⟩, ⟨⟩⟩ := d
    exact ex_of (ann40 vs os qs sg) (f40_vc vs os qs sg hd) (by kernel_rfl)).met
@[reducible] def ctSm21 : CT := { ps := [.sl (.int .i64), .sl (.int .i64)], pre := fun d => d.1.length ≤ 1000000, res := fun d => ([], vB (decide (d.1 = d.2.1))) }
@[reducible] def cl46 : List (Nat × CT) := []
@[reducible] def ann46 (l : List Int) (m : List Int) : Nat → Option (St → Ann) := fun k => match k with
  | 4 => some fun _ => .inv { α := Nat, slots := fun k => [(5, .c (.v (.int .i64 k)))], res := fun k => [], inv := fun k => k ≤ (l).length ∧ ∀ j < k, l[j]? = m[j]?, meas := fun k => (l).length - k }
  | _ => none
@[reducible] def il46 : List (Nat × IP) := []
@[reducible] def hl46 : List (Nat × Nat × CT) := []
@[reducible] def ml46 : List (Nat × MK) := []
set_option maxRecDepth 100000 in
theorem f46_vc (l : List Int) (m : List Int) (hpre : ctSm21.pre (l, m, ())) :
    br (!decide ((↑l.length : Int) = (↑m.length : Int))) (([] : List Go.Eng.Res) = [] ∧ Ent.one (SV.c (SC.v (Value.bool (decide (l = m))))) = Ent.one (SV.c (SC.v (Value.bool false)))) ((∃ x, (x ≤ l.length ∧ ∀ (j : Nat), j < x → l[j]? = m[j]?) ∧ (SV.c (SC.v (Value.int IntKind.i64 (0 : Int))) = SV.c (SC.v (Value.int IntKind.i64 (↑x : Int))) ∧ True) ∧ ([] : List (Go.Eng.Gd × Go.Eng.Res)) = []) ∧ ∀ (x : Nat), (x ≤ l.length ∧ ∀ (j : Nat), j < x → l[j]? = m[j]?) → br (decide ((↑x : Int) < (↑l.length : Int))) (((0 : Int) ≤ (↑x : Int) ∧ (↑x : Int) < (↑l.length : Int)) ∧ ∀ (d : Int), l[(↑x : Int).toNat]? = some d → ((0 : Int) ≤ (↑x : Int) ∧ (↑x : Int) < (↑m.length : Int)) ∧ ∀ (d_1 : Int), m[(↑x : Int).toNat]? = some d_1 → br (!decide (d = d_1)) (([] : List Go.Eng.Res) = [] ∧ Ent.one (SV.c (SC.v (Value.bool (decide (l = m))))) = Ent.one (SV.c (SC.v (Value.bool false)))) (InR IntKind.i64 ((↑x : Int) + (1 : Int)) ∧ ∃ x', (x' ≤ l.length ∧ ∀ (j : Nat), j < x' → l[j]? = m[j]?) ∧ (SV.c (SC.v (Value.int IntKind.i64 ((↑x : Int) + (1 : Int)))) = SV.c (SC.v (Value.int IntKind.i64 (↑x' : Int))) ∧ True) ∧ ([] : List (Go.Eng.Gd × Go.Eng.Res)) = [] ∧ l.length - x' < l.length - x)) (([] : List Go.Eng.Res) = [] ∧ Ent.one (SV.c (SC.v (Value.bool (decide (l = m))))) = Ent.one (SV.c (SC.v (Value.bool true))))) := by
  have hp : l.length ≤ 1000000 := hpre
  have fF : l ≠ m → ([] : List Go.Eng.Res) = [] ∧ Ent.one (SV.c (SC.v (Value.bool (decide (l = m))))) = Ent.one (SV.c (SC.v (Value.bool false))) := fun q => ⟨rfl, by rw [decide_eq_false q]⟩
  refine br_iff.2 ⟨fun h => fF fun q => ?_, fun h => ?_⟩
  · subst q; simp at h
  simp only [Bool.not_eq_false', decide_eq_true_eq] at h
  refine ⟨⟨0, ⟨by omega, fun j hj => by omega⟩, ⟨rfl, trivial⟩, rfl⟩, fun k hk => br_iff.2 ⟨fun g => ?_, fun g => ?_⟩⟩
  · simp only [decide_eq_true_eq] at g
    refine ⟨⟨by omega, by omega⟩, fun d hd => ⟨⟨by omega, by omega⟩, fun d1 hd1 => br_iff.2 ⟨fun g2 => fF fun q => ?_, fun g2 => ⟨InR_i64.2 (by omega), k + 1, ⟨by omega, fun j hj => ?_⟩, ⟨rfl, trivial⟩, rfl, by omega⟩⟩⟩⟩
    · subst q
      rw [hd] at hd1; cases hd1
      simp at g2
    · by_cases hjk : j = k
      · subst hjk
        have hd : l[j]? = some d := hd
        have hd1 : m[j]? = some d1 := hd1
        simp at g2
        rw [hd, hd1, g2]
      · exact hk.2 j (by omega)
  simp only [decide_eq_false_iff_not] at g
  have e : l = m := by
    apply List.ext_getElem?
    intro j
    by_cases hj : j < k
    · exact hk.2 j hj
    · rw [List.getElem?_eq_none (by omega), List.getElem?_eq_none (by omega)]
  exact ⟨rfl, by rw [decide_eq_true e]⟩
set_option maxHeartbeats 2000000 in
set_option maxRecDepth 100000 in
theorem f46_met : Go.Eng.Met Tryd.prog cx0.gd 46 ctSm21 :=
  (met_all (cx := cx0) (n := 26) (cl := cl46) (il := il46) (hl := hl46) (ml := ml46) (rc := []) (lits := []) (suf := []) (by kernel_rfl) tis_ok trivial trivial trivial trivial Tryd.func46 (by kernel_rfl) (by kernel_rfl) rfl (by kernel_rfl) (by kernel_rfl) (by simp) fun d hd => by
    obtain ⟨l, m, ⟨⟩⟩ := d
    exact ex_of (ann46 l m) (f46_vc l m hd) (by kernel_rfl)).met
@[reducible] def ctEq21 : CT := { ps := [shM, shM], pre := fun d => bndM d.1, res := fun d => ([], vB (decide (d.1 = d.2.1))) }
@[reducible] def cl15 : List (Nat × CT) := [(46, ctSm21)]
@[reducible] def ann15 (vs : List Int) (os : List Int) (qs : List (List Int)) (sg : List Int) (vs2 : List Int) (os2 : List Int) (qs2 : List (List Int)) (sg2 : List Int) : Nat → Option (St → Ann) := fun k => match k with
  | 4 => some fun _ => .inv { α := Nat, slots := fun k => [(5, .c (.v (.int .i64 k)))], res := fun _ => [], inv := fun k => k ≤ qs.length ∧ ∀ j < k, qs[j]? = qs2[j]?, meas := fun k => qs.length - k }
  | _ => none
@[reducible] def il15 : List (Nat × IP) := []
@[reducible] def hl15 : List (Nat × Nat × CT) := []
@[reducible] def ml15 : List (Nat × MK) := []
set_option maxRecDepth 100000 in
theorem f15_vc (vs : List Int) (os : List Int) (qs : List (List Int)) (sg : List Int) (vs2 : List Int) (os2 : List Int) (qs2 : List (List Int)) (sg2 : List Int) (hpre : ctEq21.pre ((vs, os, qs, sg, ()), (vs2, os2, qs2, sg2, ()), ())) :
    vs.length ≤ (1000000 : Nat) ∧ ((!!decide (vs = vs2)) = true → os.length ≤ (1000000 : Nat)) ∧ ((!(!decide (vs = vs2) || !decide (os = os2))) = true → sg.length ≤ (1000000 : Nat)) ∧ br (!decide (vs = vs2) || !decide (os = os2) || !decide (sg = sg2) || !decide ((↑qs.length : Int) = (↑qs2.length : Int))) (([] : List Go.Eng.Res) = [] ∧ Ent.one (SV.c (SC.v (Value.bool (decide ((vs, os, qs, sg, ()) = (vs2, os2, qs2, sg2, ())))))) = Ent.one (SV.c (SC.v (Value.bool false)))) ((∃ x, (x ≤ qs.length ∧ ∀ (j : Nat), j < x → qs[j]? = qs2[j]?) ∧ (SV.c (SC.v (Value.int IntKind.i64 (0 : Int))) = SV.c (SC.v (Value.int IntKind.i64 (↑x : Int))) ∧ True) ∧ [(([] : Go.Eng.Gd), bM6 vs os qs sg), (([] : Go.Eng.Gd), Res.blk (31 : Nat) [SC.sl I6 vs2, SC.sl I6 os2, SC.sl I6.sl qs2, SC.sl I6 sg2])] = [(([] : Go.Eng.Gd), bM6 vs os qs sg), (([] : Go.Eng.Gd), Res.blk (31 : Nat) [SC.sl I6 vs2, SC.sl I6 os2, SC.sl I6.sl qs2, SC.sl I6 sg2])]) ∧ ∀ (x : Nat), (x ≤ qs.length ∧ ∀ (j : Nat), j < x → qs[j]? = qs2[j]?) → br (decide ((↑x : Int) < (↑qs.length : Int))) (((0 : Int) ≤ (↑x : Int) ∧ (↑x : Int) < (↑qs.length : Int)) ∧ ∀ (d : List I6.den), qs[(↑x : Int).toNat]? = some d → ((0 : Int) ≤ (↑x : Int) ∧ (↑x : Int) < (↑qs2.length : Int)) ∧ ∀ (d_1 : List I6.den), qs2[(↑x : Int).toNat]? = some d_1 → d.length ≤ (1000000 : Nat) ∧ br (!decide (d = d_1)) (([] : List Go.Eng.Res) = [] ∧ Ent.one (SV.c (SC.v (Value.bool (decide ((vs, os, qs, sg, ()) = (vs2, os2, qs2, sg2, ())))))) = Ent.one (SV.c (SC.v (Value.bool false)))) (InR IntKind.i64 ((↑x : Int) + (1 : Int)) ∧ ∃ x', (x' ≤ qs.length ∧ ∀ (j : Nat), j < x' → qs[j]? = qs2[j]?) ∧ (SV.c (SC.v (Value.int IntKind.i64 ((↑x : Int) + (1 : Int)))) = SV.c (SC.v (Value.int IntKind.i64 (↑x' : Int))) ∧ True) ∧ [(([] : Go.Eng.Gd), bM6 vs os qs sg), (([] : Go.Eng.Gd), Res.blk (31 : Nat) [SC.sl I6 vs2, SC.sl I6 os2, SC.sl I6.sl qs2, SC.sl I6 sg2])] = [(([] : Go.Eng.Gd), bM6 vs os qs sg), (([] : Go.Eng.Gd), Res.blk (31 : Nat) [SC.sl I6 vs2, SC.sl I6 os2, SC.sl I6.sl qs2, SC.sl I6 sg2])] ∧ qs.length - x' < qs.length - x)) (([] : List Go.Eng.Res) = [] ∧ Ent.one (SV.c (SC.v (Value.bool (decide ((vs, os, qs, sg, ()) = (vs2, os2, qs2, sg2, ())))))) = Ent.one (SV.c (SC.v (Value.bool true))))) := by
  obtain ⟨b1, b2, b3, b4, b5, b6⟩ : vs.length ≤ 1000 ∧ os.length ≤ 1000 ∧ qs.length ≤ 1000 ∧ sg.length ≤ 1000 ∧ (∀ q ∈ qs, q.length ≤ 1000) ∧ qs.flatten.length ≤ 100000 := hpre
  have fF : (vs, os, qs, sg, ()) ≠ (vs2, os2, qs2, sg2, ()) → ([] : List Go.Eng.Res) = [] ∧ Ent.one (SV.c (SC.v (Value.bool (decide ((vs, os, qs, sg, ()) = (vs2, os2, qs2, sg2, ())))))) = Ent.one (SV.c (SC.v (Value.bool false))) := fun q => ⟨rfl, by rw [decide_eq_false q]⟩
  refine ⟨by omega, fun _ => by omega, fun _ => by omega, br_iff.2 ⟨fun h => fF fun q => ?_, fun h => ?_⟩⟩
  · cases q; simp at h
  simp only [Bool.or_eq_false_iff, Bool.not_eq_false', decide_eq_true_eq] at h
  obtain ⟨⟨⟨rfl, rfl⟩, rfl⟩, h⟩ := h
  refine ⟨⟨0, ⟨by omega, fun j hj => by omega⟩, ⟨rfl, trivial⟩, rfl⟩, fun k hk => br_iff.2 ⟨fun g => ?_, fun g => ?_⟩⟩
  · simp only [decide_eq_true_eq] at g
    refine ⟨⟨by omega, by omega⟩, fun d hd => ⟨⟨by omega, by omega⟩, fun d1 hd1 => ⟨?_, br_iff.2 ⟨fun g2 => fF fun q => ?_, fun g2 => ⟨InR_i64.2 (by omega), k + 1, ⟨by omega, fun j hj => ?_⟩, ⟨rfl, trivial⟩, rfl, by omega⟩⟩⟩⟩⟩
    · have := b5 d (List.mem_of_getElem? hd); omega
    · cases q
      rw [hd] at hd1; cases hd1
      simp at g2
    · by_cases hjk : j = k
      · subst hjk
        have hd : qs[j]? = some d := hd
        have hd1 : qs2[j]? = some d1 := hd1
        simp at g2
        rw [hd, hd1, g2]
      · exact hk.2 j (by omega)
  simp only [decide_eq_false_iff_not] at g
  have e : qs = qs2 := by
    apply List.ext_getElem?
    intro j
    by_cases hj : j < k
    · exact hk.2 j hj
    · rw [List.getElem?_eq_none (by omega), List.getElem?_eq_none (by omega)]
  subst e
  exact ⟨rfl, by rw [decide_eq_true rfl]⟩
set_option maxHeartbeats 2000000 in
set_option maxRecDepth 100000 in
theorem f15_met : Go.Eng.Met Tryd.prog cx0.gd 15 ctEq21 :=
  (met_all (cx := cx0) (n := 56) (cl := cl15) (il := il15) (hl := hl15) (ml := ml15) (rc := []) (lits := []) (suf := []) (by kernel_rfl) tis_ok ⟨f46_met, trivial⟩ trivial trivial trivial Tryd.func15 (by kernel_rfl) (by kernel_rfl) rfl (by kernel_rfl) (by kernel_rfl) (by simp) fun d hd => by
    obtain ⟨⟨vs, os, qs, sg, ⟨⟩⟩, ⟨vs2, os2, qs2, sg2, ⟨⟩⟩, ⟨⟩⟩ := d
    exact ex_of (ann15 vs os qs sg vs2 os2 qs2 sg2) (f15_vc vs os qs sg vs2 os2 qs2 sg2 hd) (by kernel_rfl)).met
end Go.Proofs.YtkgjfkdcnoockaaDoor
set_option linter.unusedSimpArgs false
set_option linter.unusedVariables false
set_option maxRecDepth 100000
namespace Go.Proofs.YtkgjfkdcnoockaaDoor
open Go Go.Eng

theorem ownAt_succ (k : Nat) : ownAt (fun j => decide (j < k)) k = fun j => decide (j < k + 1) := by
  funext j; unfold ownAt
  by_cases h : j = k
  · subst h; simp
  · simp [h]; omega
theorem fill_set {qs : List (List Int)} {k : Nat} {d : List Int} (h : qs[k]? = some d) : (qs.take k ++ List.replicate (qs.length - k) []).set k d = qs.take (k + 1) ++ List.replicate (qs.length - (k + 1)) [] := by
  obtain ⟨hk, _⟩ := List.getElem?_eq_some_iff.1 h
  rw [List.set_append_right _ _ (by rw [List.length_take]; omega), List.length_take, show k - min k qs.length = 0 by omega, show qs.length - k = (qs.length - (k + 1)) + 1 by omega, List.replicate_succ, List.set_cons_zero, List.take_add_one, h]
  simp
theorem fill_len {qs : List (List Int)} {k : Nat} (h : k ≤ qs.length) : (qs.take k ++ List.replicate (qs.length - k) []).length = qs.length := by simp; omega
theorem fill_all {qs : List (List Int)} {k : Nat} (h : ¬ k < qs.length) (h' : k ≤ qs.length) : qs.take k ++ List.replicate (qs.length - k) [] = qs := by
  have : k = qs.length := by omega
  subst this; simp
theorem noOwn_zero : noOwn = fun j => decide (j < 0) := by funext j; simp
@[reducible] def ctClO : CT := { ps := [shM], pre := fun d => bndM d.1, res := fun d => ([.row 3 (.int .i64) (d.1.1), .row 3 (.int .i64) (d.1.2.1), .deep 28 (.sl (.int .i64)) (d.1.2.2.1) 3 (.int .i64) 0 (fun j => decide (j < d.1.2.2.1.length)) [], .row 3 (.int .i64) (d.1.2.2.2.1)], .one (.agg [(.row 0), (.row 1), (.row 2), (.row 3)])) }
@[reducible] def cl36 : List (Nat × CT) := [(60, ctCld)]
@[reducible] def ann36 (vs : List Int) (os : List Int) (qs : List (List Int)) (sg : List Int) : Nat → Option (St → Ann) := fun k => match k with
  | 2 => some fun _ => .cut { α := Nat, pad := 5, can := [(2, .slot 3), (3, .cell 2 0), (4, .cell 2 1), (5, .cell 2 2), (6, .cell 2 3)], slots := fun _ => [(3, .c (.own 2 0))], res := fun _ => [(2, .blk 31 [.row 3, .row 4, .row 5, .row 6]), (3, .row 3 (.int .i64) (vs)), (4, .row 3 (.int .i64) (os)), (5, .row 28 (.sl (.int .i64)) (List.replicate qs.length [])), (6, .row 3 (.int .i64) (sg))], inv := fun u => u = 0, meas := fun _ => 0 }
  | 3 => some fun _ => .inv { α := Nat, deep := [(5, 3, .int .i64, 0)], slots := fun k => [(23, .c (.v (.int .i64 k)))], res := fun k => [(5, .deep 28 (.sl (.int .i64)) (qs.take k ++ List.replicate (qs.length - k) []) 3 (.int .i64) 0 (fun j => decide (j < k)) [])], inv := fun k => k ≤ qs.length, meas := fun k => qs.length - k }
  | _ => none
@[reducible] def il36 : List (Nat × IP) := []
@[reducible] def hl36 : List (Nat × Nat × CT) := []
@[reducible] def ml36 : List (Nat × MK) := []
set_option maxRecDepth 100000 in
theorem f36_vc (vs : List Int) (os : List Int) (qs : List (List Int)) (sg : List Int) (hpre : ctClO.pre ((vs, os, qs, sg, ()), ())) :
    ((vs.length ≤ (1000000 : Nat) ∧ (os.length ≤ (1000000 : Nat) ∧ (((0 : Int) ≤ (↑qs.length : Int) ∧ (↑qs.length : Int) ≤ (↑qs.length : Int) ∧ InA (↑qs.length : Int).toNat (24 : Nat)) ∧ (sg.length ≤ (1000000 : Nat) ∧ (∃ v, v = (0 : Nat) ∧ (SV.c (SC.own (2 : Nat) (0 : Nat)) = SV.c (SC.own (2 : Nat) (0 : Nat)) ∧ True) ∧ [(([] : Go.Eng.Gd), bM6 vs os qs sg), (([] : Go.Eng.Gd), zM6), (([] : Go.Eng.Gd), Res.blk (31 : Nat) [SC.row (3 : Nat), SC.row (4 : Nat), SC.row (5 : Nat), SC.row (6 : Nat)]), (([] : Go.Eng.Gd), Res.row (3 : TypeId) I6 vs), (([] : Go.Eng.Gd), Res.row (3 : TypeId) I6 os), (([] : Go.Eng.Gd), Res.row (28 : TypeId) I6.sl (List.replicate (↑qs.length : Int).toNat [])), (([] : Go.Eng.Gd), Res.row (3 : TypeId) I6 sg)] = [(([] : Go.Eng.Gd), bM6 vs os qs sg), (([] : Go.Eng.Gd), zM6), (([] : Go.Eng.Gd), Res.blk (31 : TypeId) [SC.row (3 : Nat), SC.row (4 : Nat), SC.row (5 : Nat), SC.row (6 : Nat)]), (([] : Go.Eng.Gd), Res.row (3 : TypeId) I6 vs), (([] : Go.Eng.Gd), Res.row (3 : TypeId) I6 os), (([] : Go.Eng.Gd), Res.row (28 : TypeId) I6.sl (List.replicate qs.length [])), (([] : Go.Eng.Gd), Res.row (3 : TypeId) I6 sg)]) ∧ ∃ v, v = (0 : Nat) ∧ (SV.c (SC.own (2 : Nat) (0 : Nat)) = SV.c (SC.own (2 : Nat) (0 : Nat)) ∧ True) ∧ [(([] : Go.Eng.Gd), bM6 vs os qs sg), (([] : Go.Eng.Gd), zM6), (([] : Go.Eng.Gd), Res.blk (31 : Nat) [SC.row (3 : Nat), SC.row (4 : Nat), SC.row (5 : Nat), SC.row (6 : Nat)]), (([] : Go.Eng.Gd), Res.row (3 : TypeId) I6 vs), (([] : Go.Eng.Gd), Res.row (3 : TypeId) I6 os), (([] : Go.Eng.Gd), Res.row (28 : TypeId) I6.sl (List.replicate (↑qs.length : Int).toNat [])), (([] : Go.Eng.Gd), Res.row (3 : TypeId) I6 sg)] = [(([] : Go.Eng.Gd), bM6 vs os qs sg), (([] : Go.Eng.Gd), zM6), (([] : Go.Eng.Gd), Res.blk (31 : TypeId) [SC.row (3 : Nat), SC.row (4 : Nat), SC.row (5 : Nat), SC.row (6 : Nat)]), (([] : Go.Eng.Gd), Res.row (3 : TypeId) I6 vs), (([] : Go.Eng.Gd), Res.row (3 : TypeId) I6 os), (([] : Go.Eng.Gd), Res.row (28 : TypeId) I6.sl (List.replicate qs.length [])), (([] : Go.Eng.Gd), Res.row (3 : TypeId) I6 sg)]) ∧ sg.length ≤ (1000000 : Nat) ∧ ∃ v, v = (0 : Nat) ∧ (SV.c (SC.own (2 : Nat) (0 : Nat)) = SV.c (SC.own (2 : Nat) (0 : Nat)) ∧ True) ∧ [(([] : Go.Eng.Gd), bM6 vs os qs sg), (([] : Go.Eng.Gd), zM6), (([] : Go.Eng.Gd), Res.blk (31 : Nat) [SC.row (3 : Nat), SC.row (4 : Nat), SC.row (5 : Nat), SC.row (6 : Nat)]), (([] : Go.Eng.Gd), Res.row (3 : TypeId) I6 vs), (([] : Go.Eng.Gd), Res.row (3 : TypeId) I6 os), (([] : Go.Eng.Gd), Res.row (28 : TypeId) I6.sl (List.replicate (↑qs.length : Int).toNat [])), (([] : Go.Eng.Gd), Res.row (3 : TypeId) I6 sg)] = [(([] : Go.Eng.Gd), bM6 vs os qs sg), (([] : Go.Eng.Gd), zM6), (([] : Go.Eng.Gd), Res.blk (31 : TypeId) [SC.row (3 : Nat), SC.row (4 : Nat), SC.row (5 : Nat), SC.row (6 : Nat)]), (([] : Go.Eng.Gd), Res.row (3 : TypeId) I6 vs), (([] : Go.Eng.Gd), Res.row (3 : TypeId) I6 os), (([] : Go.Eng.Gd), Res.row (28 : TypeId) I6.sl (List.replicate qs.length [])), (([] : Go.Eng.Gd), Res.row (3 : TypeId) I6 sg)]) ∧ (sg.length ≤ (1000000 : Nat) ∧ (((0 : Int) ≤ (↑qs.length : Int) ∧ (↑qs.length : Int) ≤ (↑qs.length : Int) ∧ InA (↑qs.length : Int).toNat (24 : Nat)) ∧ (∃ v, v = (0 : Nat) ∧ (SV.c (SC.own (2 : Nat) (0 : Nat)) = SV.c (SC.own (2 : Nat) (0 : Nat)) ∧ True) ∧ [(([] : Go.Eng.Gd), bM6 vs os qs sg), (([] : Go.Eng.Gd), zM6), (([] : Go.Eng.Gd), Res.blk (31 : Nat) [SC.row (3 : Nat), SC.row (4 : Nat), SC.row (5 : Nat), SC.row (6 : Nat)]), (([] : Go.Eng.Gd), Res.row (3 : TypeId) I6 vs), (([] : Go.Eng.Gd), Res.row (3 : TypeId) I6 os), (([] : Go.Eng.Gd), Res.row (28 : TypeId) I6.sl (List.replicate (↑qs.length : Int).toNat [])), (([] : Go.Eng.Gd), Res.row (3 : TypeId) I6 sg)] = [(([] : Go.Eng.Gd), bM6 vs os qs sg), (([] : Go.Eng.Gd), zM6), (([] : Go.Eng.Gd), Res.blk (31 : TypeId) [SC.row (3 : Nat), SC.row (4 : Nat), SC.row (5 : Nat), SC.row (6 : Nat)]), (([] : Go.Eng.Gd), Res.row (3 : TypeId) I6 vs), (([] : Go.Eng.Gd), Res.row (3 : TypeId) I6 os), (([] : Go.Eng.Gd), Res.row (28 : TypeId) I6.sl (List.replicate qs.length [])), (([] : Go.Eng.Gd), Res.row (3 : TypeId) I6 sg)]) ∧ ∃ v, v = (0 : Nat) ∧ (SV.c (SC.own (2 : Nat) (0 : Nat)) = SV.c (SC.own (2 : Nat) (0 : Nat)) ∧ True) ∧ [(([] : Go.Eng.Gd), bM6 vs os qs sg), (([] : Go.Eng.Gd), zM6), (([] : Go.Eng.Gd), Res.blk (31 : Nat) [SC.row (3 : Nat), SC.row (4 : Nat), SC.row (5 : Nat), SC.row (6 : Nat)]), (([] : Go.Eng.Gd), Res.row (3 : TypeId) I6 vs), (([] : Go.Eng.Gd), Res.row (3 : TypeId) I6 os), (([] : Go.Eng.Gd), Res.row (28 : TypeId) I6.sl (List.replicate (↑qs.length : Int).toNat [])), (([] : Go.Eng.Gd), Res.row (3 : TypeId) I6 sg)] = [(([] : Go.Eng.Gd), bM6 vs os qs sg), (([] : Go.Eng.Gd), zM6), (([] : Go.Eng.Gd), Res.blk (31 : TypeId) [SC.row (3 : Nat), SC.row (4 : Nat), SC.row (5 : Nat), SC.row (6 : Nat)]), (([] : Go.Eng.Gd), Res.row (3 : TypeId) I6 vs), (([] : Go.Eng.Gd), Res.row (3 : TypeId) I6 os), (([] : Go.Eng.Gd), Res.row (28 : TypeId) I6.sl (List.replicate qs.length [])), (([] : Go.Eng.Gd), Res.row (3 : TypeId) I6 sg)]) ∧ ((0 : Int) ≤ (↑qs.length : Int) ∧ (↑qs.length : Int) ≤ (↑qs.length : Int) ∧ InA (↑qs.length : Int).toNat (24 : Nat)) ∧ ∃ v, v = (0 : Nat) ∧ (SV.c (SC.own (2 : Nat) (0 : Nat)) = SV.c (SC.own (2 : Nat) (0 : Nat)) ∧ True) ∧ [(([] : Go.Eng.Gd), bM6 vs os qs sg), (([] : Go.Eng.Gd), zM6), (([] : Go.Eng.Gd), Res.blk (31 : Nat) [SC.row (3 : Nat), SC.row (4 : Nat), SC.row (5 : Nat), SC.row (6 : Nat)]), (([] : Go.Eng.Gd), Res.row (3 : TypeId) I6 vs), (([] : Go.Eng.Gd), Res.row (3 : TypeId) I6 os), (([] : Go.Eng.Gd), Res.row (28 : TypeId) I6.sl (List.replicate (↑qs.length : Int).toNat [])), (([] : Go.Eng.Gd), Res.row (3 : TypeId) I6 sg)] = [(([] : Go.Eng.Gd), bM6 vs os qs sg), (([] : Go.Eng.Gd), zM6), (([] : Go.Eng.Gd), Res.blk (31 : TypeId) [SC.row (3 : Nat), SC.row (4 : Nat), SC.row (5 : Nat), SC.row (6 : Nat)]), (([] : Go.Eng.Gd), Res.row (3 : TypeId) I6 vs), (([] : Go.Eng.Gd), Res.row (3 : TypeId) I6 os), (([] : Go.Eng.Gd), Res.row (28 : TypeId) I6.sl (List.replicate qs.length [])), (([] : Go.Eng.Gd), Res.row (3 : TypeId) I6 sg)]) ∧ (((0 : Int) ≤ (↑qs.length : Int) ∧ (↑qs.length : Int) ≤ (↑qs.length : Int) ∧ InA (↑qs.length : Int).toNat (24 : Nat)) ∧ sg.length ≤ (1000000 : Nat) ∧ ∃ v, v = (0 : Nat) ∧ (SV.c (SC.own (2 : Nat) (0 : Nat)) = SV.c (SC.own (2 : Nat) (0 : Nat)) ∧ True) ∧ [(([] : Go.Eng.Gd), bM6 vs os qs sg), (([] : Go.Eng.Gd), zM6), (([] : Go.Eng.Gd), Res.blk (31 : Nat) [SC.row (3 : Nat), SC.row (4 : Nat), SC.row (5 : Nat), SC.row (6 : Nat)]), (([] : Go.Eng.Gd), Res.row (3 : TypeId) I6 vs), (([] : Go.Eng.Gd), Res.row (3 : TypeId) I6 os), (([] : Go.Eng.Gd), Res.row (28 : TypeId) I6.sl (List.replicate (↑qs.length : Int).toNat [])), (([] : Go.Eng.Gd), Res.row (3 : TypeId) I6 sg)] = [(([] : Go.Eng.Gd), bM6 vs os qs sg), (([] : Go.Eng.Gd), zM6), (([] : Go.Eng.Gd), Res.blk (31 : TypeId) [SC.row (3 : Nat), SC.row (4 : Nat), SC.row (5 : Nat), SC.row (6 : Nat)]), (([] : Go.Eng.Gd), Res.row (3 : TypeId) I6 vs), (([] : Go.Eng.Gd), Res.row (3 : TypeId) I6 os), (([] : Go.Eng.Gd), Res.row (28 : TypeId) I6.sl (List.replicate qs.length [])), (([] : Go.Eng.Gd), Res.row (3 : TypeId) I6 sg)]) ∧ sg.length ≤ (1000000 : Nat) ∧ ((0 : Int) ≤ (↑qs.length : Int) ∧ (↑qs.length : Int) ≤ (↑qs.length : Int) ∧ InA (↑qs.length : Int).toNat (24 : Nat)) ∧ ∃ v, v = (0 : Nat) ∧ (SV.c (SC.own (2 : Nat) (0 : Nat)) = SV.c (SC.own (2 : Nat) (0 : Nat)) ∧ True) ∧ [(([] : Go.Eng.Gd), bM6 vs os qs sg), (([] : Go.Eng.Gd), zM6), (([] : Go.Eng.Gd), Res.blk (31 : Nat) [SC.row (3 : Nat), SC.row (4 : Nat), SC.row (5 : Nat), SC.row (6 : Nat)]), (([] : Go.Eng.Gd), Res.row (3 : TypeId) I6 vs), (([] : Go.Eng.Gd), Res.row (3 : TypeId) I6 os), (([] : Go.Eng.Gd), Res.row (28 : TypeId) I6.sl (List.replicate (↑qs.length : Int).toNat [])), (([] : Go.Eng.Gd), Res.row (3 : TypeId) I6 sg)] = [(([] : Go.Eng.Gd), bM6 vs os qs sg), (([] : Go.Eng.Gd), zM6), (([] : Go.Eng.Gd), Res.blk (31 : TypeId) [SC.row (3 : Nat), SC.row (4 : Nat), SC.row (5 : Nat), SC.row (6 : Nat)]), (([] : Go.Eng.Gd), Res.row (3 : TypeId) I6 vs), (([] : Go.Eng.Gd), Res.row (3 : TypeId) I6 os), (([] : Go.Eng.Gd), Res.row (28 : TypeId) I6.sl (List.replicate qs.length [])), (([] : Go.Eng.Gd), Res.row (3 : TypeId) I6 sg)]) ∧ (((0 : Int) ≤ (↑qs.length : Int) ∧ (↑qs.length : Int) ≤ (↑qs.length : Int) ∧ InA (↑qs.length : Int).toNat (24 : Nat)) ∧ (os.length ≤ (1000000 : Nat) ∧ (sg.length ≤ (1000000 : Nat) ∧ (∃ v, v = (0 : Nat) ∧ (SV.c (SC.own (2 : Nat) (0 : Nat)) = SV.c (SC.own (2 : Nat) (0 : Nat)) ∧ True) ∧ [(([] : Go.Eng.Gd), bM6 vs os qs sg), (([] : Go.Eng.Gd), zM6), (([] : Go.Eng.Gd), Res.blk (31 : Nat) [SC.row (3 : Nat), SC.row (4 : Nat), SC.row (5 : Nat), SC.row (6 : Nat)]), (([] : Go.Eng.Gd), Res.row (3 : TypeId) I6 vs), (([] : Go.Eng.Gd), Res.row (3 : TypeId) I6 os), (([] : Go.Eng.Gd), Res.row (28 : TypeId) I6.sl (List.replicate (↑qs.length : Int).toNat [])), (([] : Go.Eng.Gd), Res.row (3 : TypeId) I6 sg)] = [(([] : Go.Eng.Gd), bM6 vs os qs sg), (([] : Go.Eng.Gd), zM6), (([] : Go.Eng.Gd), Res.blk (31 : TypeId) [SC.row (3 : Nat), SC.row (4 : Nat), SC.row (5 : Nat), SC.row (6 : Nat)]), (([] : Go.Eng.Gd), Res.row (3 : TypeId) I6 vs), (([] : Go.Eng.Gd), Res.row (3 : TypeId) I6 os), (([] : Go.Eng.Gd), Res.row (28 : TypeId) I6.sl (List.replicate qs.length [])), (([] : Go.Eng.Gd), Res.row (3 : TypeId) I6 sg)]) ∧ ∃ v, v = (0 : Nat) ∧ (SV.c (SC.own (2 : Nat) (0 : Nat)) = SV.c (SC.own (2 : Nat) (0 : Nat)) ∧ True) ∧ [(([] : Go.Eng.Gd), bM6 vs os qs sg), (([] : Go.Eng.Gd), zM6), (([] : Go.Eng.Gd), Res.blk (31 : Nat) [SC.row (3 : Nat), SC.row (4 : Nat), SC.row (5 : Nat), SC.row (6 : Nat)]), (([] : Go.Eng.Gd), Res.row (3 : TypeId) I6 vs), (([] : Go.Eng.Gd), Res.row (3 : TypeId) I6 os), (([] : Go.Eng.Gd), Res.row (28 : TypeId) I6.sl (List.replicate (↑qs.length : Int).toNat [])), (([] : Go.Eng.Gd), Res.row (3 : TypeId) I6 sg)] = [(([] : Go.Eng.Gd), bM6 vs os qs sg), (([] : Go.Eng.Gd), zM6), (([] : Go.Eng.Gd), Res.blk (31 : TypeId) [SC.row (3 : Nat), SC.row (4 : Nat), SC.row (5 : Nat), SC.row (6 : Nat)]), (([] : Go.Eng.Gd), Res.row (3 : TypeId) I6 vs), (([] : Go.Eng.Gd), Res.row (3 : TypeId) I6 os), (([] : Go.Eng.Gd), Res.row (28 : TypeId) I6.sl (List.replicate qs.length [])), (([] : Go.Eng.Gd), Res.row (3 : TypeId) I6 sg)]) ∧ sg.length ≤ (1000000 : Nat) ∧ ∃ v, v = (0 : Nat) ∧ (SV.c (SC.own (2 : Nat) (0 : Nat)) = SV.c (SC.own (2 : Nat) (0 : Nat)) ∧ True) ∧ [(([] : Go.Eng.Gd), bM6 vs os qs sg), (([] : Go.Eng.Gd), zM6), (([] : Go.Eng.Gd), Res.blk (31 : Nat) [SC.row (3 : Nat), SC.row (4 : Nat), SC.row (5 : Nat), SC.row (6 : Nat)]), (([] : Go.Eng.Gd), Res.row (3 : TypeId) I6 vs), (([] : Go.Eng.Gd), Res.row (3 : TypeId) I6 os), (([] : Go.Eng.Gd), Res.row (28 : TypeId) I6.sl (List.replicate (↑qs.length : Int).toNat [])), (([] : Go.Eng.Gd), Res.row (3 : TypeId) I6 sg)] = [(([] : Go.Eng.Gd), bM6 vs os qs sg), (([] : Go.Eng.Gd), zM6), (([] : Go.Eng.Gd), Res.blk (31 : TypeId) [SC.row (3 : Nat), SC.row (4 : Nat), SC.row (5 : Nat), SC.row (6 : Nat)]), (([] : Go.Eng.Gd), Res.row (3 : TypeId) I6 vs), (([] : Go.Eng.Gd), Res.row (3 : TypeId) I6 os), (([] : Go.Eng.Gd), Res.row (28 : TypeId) I6.sl (List.replicate qs.length [])), (([] : Go.Eng.Gd), Res.row (3 : TypeId) I6 sg)]) ∧ os.length ≤ (1000000 : Nat) ∧ sg.length ≤ (1000000 : Nat) ∧ ∃ v, v = (0 : Nat) ∧ (SV.c (SC.own (2 : Nat) (0 : Nat)) = SV.c (SC.own (2 : Nat) (0 : Nat)) ∧ True) ∧ [(([] : Go.Eng.Gd), bM6 vs os qs sg), (([] : Go.Eng.Gd), zM6), (([] : Go.Eng.Gd), Res.blk (31 : Nat) [SC.row (3 : Nat), SC.row (4 : Nat), SC.row (5 : Nat), SC.row (6 : Nat)]), (([] : Go.Eng.Gd), Res.row (3 : TypeId) I6 vs), (([] : Go.Eng.Gd), Res.row (3 : TypeId) I6 os), (([] : Go.Eng.Gd), Res.row (28 : TypeId) I6.sl (List.replicate (↑qs.length : Int).toNat [])), (([] : Go.Eng.Gd), Res.row (3 : TypeId) I6 sg)] = [(([] : Go.Eng.Gd), bM6 vs os qs sg), (([] : Go.Eng.Gd), zM6), (([] : Go.Eng.Gd), Res.blk (31 : TypeId) [SC.row (3 : Nat), SC.row (4 : Nat), SC.row (5 : Nat), SC.row (6 : Nat)]), (([] : Go.Eng.Gd), Res.row (3 : TypeId) I6 vs), (([] : Go.Eng.Gd), Res.row (3 : TypeId) I6 os), (([] : Go.Eng.Gd), Res.row (28 : TypeId) I6.sl (List.replicate qs.length [])), (([] : Go.Eng.Gd), Res.row (3 : TypeId) I6 sg)]) ∧ (os.length ≤ (1000000 : Nat) ∧ (((0 : Int) ≤ (↑qs.length : Int) ∧ (↑qs.length : Int) ≤ (↑qs.length : Int) ∧ InA (↑qs.length : Int).toNat (24 : Nat)) ∧ sg.length ≤ (1000000 : Nat) ∧ ∃ v, v = (0 : Nat) ∧ (SV.c (SC.own (2 : Nat) (0 : Nat)) = SV.c (SC.own (2 : Nat) (0 : Nat)) ∧ True) ∧ [(([] : Go.Eng.Gd), bM6 vs os qs sg), (([] : Go.Eng.Gd), zM6), (([] : Go.Eng.Gd), Res.blk (31 : Nat) [SC.row (3 : Nat), SC.row (4 : Nat), SC.row (5 : Nat), SC.row (6 : Nat)]), (([] : Go.Eng.Gd), Res.row (3 : TypeId) I6 vs), (([] : Go.Eng.Gd), Res.row (3 : TypeId) I6 os), (([] : Go.Eng.Gd), Res.row (28 : TypeId) I6.sl (List.replicate (↑qs.length : Int).toNat [])), (([] : Go.Eng.Gd), Res.row (3 : TypeId) I6 sg)] = [(([] : Go.Eng.Gd), bM6 vs os qs sg), (([] : Go.Eng.Gd), zM6), (([] : Go.Eng.Gd), Res.blk (31 : TypeId) [SC.row (3 : Nat), SC.row (4 : Nat), SC.row (5 : Nat), SC.row (6 : Nat)]), (([] : Go.Eng.Gd), Res.row (3 : TypeId) I6 vs), (([] : Go.Eng.Gd), Res.row (3 : TypeId) I6 os), (([] : Go.Eng.Gd), Res.row (28 : TypeId) I6.sl (List.replicate qs.length [])), (([] : Go.Eng.Gd), Res.row (3 : TypeId) I6 sg)]) ∧ sg.length ≤ (1000000 : Nat) ∧ ((0 : Int) ≤ (↑qs.length : Int) ∧ (↑qs.length : Int) ≤ (↑qs.length : Int) ∧ InA (↑qs.length : Int).toNat (24 : Nat)) ∧ ∃ v, v = (0 : Nat) ∧ (SV.c (SC.own (2 : Nat) (0 : Nat)) = SV.c (SC.own (2 : Nat) (0 : Nat)) ∧ True) ∧ [(([] : Go.Eng.Gd), bM6 vs os qs sg), (([] : Go.Eng.Gd), zM6), (([] : Go.Eng.Gd), Res.blk (31 : Nat) [SC.row (3 : Nat), SC.row (4 : Nat), SC.row (5 : Nat), SC.row (6 : Nat)]), (([] : Go.Eng.Gd), Res.row (3 : TypeId) I6 vs), (([] : Go.Eng.Gd), Res.row (3 : TypeId) I6 os), (([] : Go.Eng.Gd), Res.row (28 : TypeId) I6.sl (List.replicate (↑qs.length : Int).toNat [])), (([] : Go.Eng.Gd), Res.row (3 : TypeId) I6 sg)] = [(([] : Go.Eng.Gd), bM6 vs os qs sg), (([] : Go.Eng.Gd), zM6), (([] : Go.Eng.Gd), Res.blk (31 : TypeId) [SC.row (3 : Nat), SC.row (4 : Nat), SC.row (5 : Nat), SC.row (6 : Nat)]), (([] : Go.Eng.Gd), Res.row (3 : TypeId) I6 vs), (([] : Go.Eng.Gd), Res.row (3 : TypeId) I6 os), (([] : Go.Eng.Gd), Res.row (28 : TypeId) I6.sl (List.replicate qs.length [])), (([] : Go.Eng.Gd), Res.row (3 : TypeId) I6 sg)]) ∧ ((0 : Int) ≤ (↑qs.length : Int) ∧ (↑qs.length : Int) ≤ (↑qs.length : Int) ∧ InA (↑qs.length : Int).toNat (24 : Nat)) ∧ os.length ≤ (1000000 : Nat) ∧ sg.length ≤ (1000000 : Nat) ∧ ∃ v, v = (0 : Nat) ∧ (SV.c (SC.own (2 : Nat) (0 : Nat)) = SV.c (SC.own (2 : Nat) (0 : Nat)) ∧ True) ∧ [(([] : Go.Eng.Gd), bM6 vs os qs sg), (([] : Go.Eng.Gd), zM6), (([] : Go.Eng.Gd), Res.blk (31 : Nat) [SC.row (3 : Nat), SC.row (4 : Nat), SC.row (5 : Nat), SC.row (6 : Nat)]), (([] : Go.Eng.Gd), Res.row (3 : TypeId) I6 vs), (([] : Go.Eng.Gd), Res.row (3 : TypeId) I6 os), (([] : Go.Eng.Gd), Res.row (28 : TypeId) I6.sl (List.replicate (↑qs.length : Int).toNat [])), (([] : Go.Eng.Gd), Res.row (3 : TypeId) I6 sg)] = [(([] : Go.Eng.Gd), bM6 vs os qs sg), (([] : Go.Eng.Gd), zM6), (([] : Go.Eng.Gd), Res.blk (31 : TypeId) [SC.row (3 : Nat), SC.row (4 : Nat), SC.row (5 : Nat), SC.row (6 : Nat)]), (([] : Go.Eng.Gd), Res.row (3 : TypeId) I6 vs), (([] : Go.Eng.Gd), Res.row (3 : TypeId) I6 os), (([] : Go.Eng.Gd), Res.row (28 : TypeId) I6.sl (List.replicate qs.length [])), (([] : Go.Eng.Gd), Res.row (3 : TypeId) I6 sg)]) ∧ (((0 : Int) ≤ (↑qs.length : Int) ∧ (↑qs.length : Int) ≤ (↑qs.length : Int) ∧ InA (↑qs.length : Int).toNat (24 : Nat)) ∧ (vs.length ≤ (1000000 : Nat) ∧ (os.length ≤ (1000000 : Nat) ∧ (sg.length ≤ (1000000 : Nat) ∧ (∃ v, v = (0 : Nat) ∧ (SV.c (SC.own (2 : Nat) (0 : Nat)) = SV.c (SC.own (2 : Nat) (0 : Nat)) ∧ True) ∧ [(([] : Go.Eng.Gd), bM6 vs os qs sg), (([] : Go.Eng.Gd), zM6), (([] : Go.Eng.Gd), Res.blk (31 : Nat) [SC.row (3 : Nat), SC.row (4 : Nat), SC.row (5 : Nat), SC.row (6 : Nat)]), (([] : Go.Eng.Gd), Res.row (3 : TypeId) I6 vs), (([] : Go.Eng.Gd), Res.row (3 : TypeId) I6 os), (([] : Go.Eng.Gd), Res.row (28 : TypeId) I6.sl (List.replicate (↑qs.length : Int).toNat [])), (([] : Go.Eng.Gd), Res.row (3 : TypeId) I6 sg)] = [(([] : Go.Eng.Gd), bM6 vs os qs sg), (([] : Go.Eng.Gd), zM6), (([] : Go.Eng.Gd), Res.blk (31 : TypeId) [SC.row (3 : Nat), SC.row (4 : Nat), SC.row (5 : Nat), SC.row (6 : Nat)]), (([] : Go.Eng.Gd), Res.row (3 : TypeId) I6 vs), (([] : Go.Eng.Gd), Res.row (3 : TypeId) I6 os), (([] : Go.Eng.Gd), Res.row (28 : TypeId) I6.sl (List.replicate qs.length [])), (([] : Go.Eng.Gd), Res.row (3 : TypeId) I6 sg)]) ∧ ∃ v, v = (0 : Nat) ∧ (SV.c (SC.own (2 : Nat) (0 : Nat)) = SV.c (SC.own (2 : Nat) (0 : Nat)) ∧ True) ∧ [(([] : Go.Eng.Gd), bM6 vs os qs sg), (([] : Go.Eng.Gd), zM6), (([] : Go.Eng.Gd), Res.blk (31 : Nat) [SC.row (3 : Nat), SC.row (4 : Nat), SC.row (5 : Nat), SC.row (6 : Nat)]), (([] : Go.Eng.Gd), Res.row (3 : TypeId) I6 vs), (([] : Go.Eng.Gd), Res.row (3 : TypeId) I6 os), (([] : Go.Eng.Gd), Res.row (28 : TypeId) I6.sl (List.replicate (↑qs.length : Int).toNat [])), (([] : Go.Eng.Gd), Res.row (3 : TypeId) I6 sg)] = [(([] : Go.Eng.Gd), bM6 vs os qs sg), (([] : Go.Eng.Gd), zM6), (([] : Go.Eng.Gd), Res.blk (31 : TypeId) [SC.row (3 : Nat), SC.row (4 : Nat), SC.row (5 : Nat), SC.row (6 : Nat)]), (([] : Go.Eng.Gd), Res.row (3 : TypeId) I6 vs), (([] : Go.Eng.Gd), Res.row (3 : TypeId) I6 os), (([] : Go.Eng.Gd), Res.row (28 : TypeId) I6.sl (List.replicate qs.length [])), (([] : Go.Eng.Gd), Res.row (3 : TypeId) I6 sg)]) ∧ sg.length ≤ (1000000 : Nat) ∧ ∃ v, v = (0 : Nat) ∧ (SV.c (SC.own (2 : Nat) (0 : Nat)) = SV.c (SC.own (2 : Nat) (0 : Nat)) ∧ True) ∧ [(([] : Go.Eng.Gd), bM6 vs os qs sg), (([] : Go.Eng.Gd), zM6), (([] : Go.Eng.Gd), Res.blk (31 : Nat) [SC.row (3 : Nat), SC.row (4 : Nat), SC.row (5 : Nat), SC.row (6 : Nat)]), (([] : Go.Eng.Gd), Res.row (3 : TypeId) I6 vs), (([] : Go.Eng.Gd), Res.row (3 : TypeId) I6 os), (([] : Go.Eng.Gd), Res.row (28 : TypeId) I6.sl (List.replicate (↑qs.length : Int).toNat [])), (([] : Go.Eng.Gd), Res.row (3 : TypeId) I6 sg)] = [(([] : Go.Eng.Gd), bM6 vs os qs sg), (([] : Go.Eng.Gd), zM6), (([] : Go.Eng.Gd), Res.blk (31 : TypeId) [SC.row (3 : Nat), SC.row (4 : Nat), SC.row (5 : Nat), SC.row (6 : Nat)]), (([] : Go.Eng.Gd), Res.row (3 : TypeId) I6 vs), (([] : Go.Eng.Gd), Res.row (3 : TypeId) I6 os), (([] : Go.Eng.Gd), Res.row (28 : TypeId) I6.sl (List.replicate qs.length [])), (([] : Go.Eng.Gd), Res.row (3 : TypeId) I6 sg)]) ∧ os.length ≤ (1000000 : Nat) ∧ sg.length ≤ (1000000 : Nat) ∧ ∃ v, v = (0 : Nat) ∧ (SV.c (SC.own (2 : Nat) (0 : Nat)) = SV.c (SC.own (2 : Nat) (0 : Nat)) ∧ True) ∧ [(([] : Go.Eng.Gd), bM6 vs os qs sg), (([] : Go.Eng.Gd), zM6), (([] : Go.Eng.Gd), Res.blk (31 : Nat) [SC.row (3 : Nat), SC.row (4 : Nat), SC.row (5 : Nat), SC.row (6 : Nat)]), (([] : Go.Eng.Gd), Res.row (3 : TypeId) I6 vs), (([] : Go.Eng.Gd), Res.row (3 : TypeId) I6 os), (([] : Go.Eng.Gd), Res.row (28 : TypeId) I6.sl (List.replicate (↑qs.length : Int).toNat [])), (([] : Go.Eng.Gd), Res.row (3 : TypeId) I6 sg)] = [(([] : Go.Eng.Gd), bM6 vs os qs sg), (([] : Go.Eng.Gd), zM6), (([] : Go.Eng.Gd), Res.blk (31 : TypeId) [SC.row (3 : Nat), SC.row (4 : Nat), SC.row (5 : Nat), SC.row (6 : Nat)]), (([] : Go.Eng.Gd), Res.row (3 : TypeId) I6 vs), (([] : Go.Eng.Gd), Res.row (3 : TypeId) I6 os), (([] : Go.Eng.Gd), Res.row (28 : TypeId) I6.sl (List.replicate qs.length [])), (([] : Go.Eng.Gd), Res.row (3 : TypeId) I6 sg)]) ∧ vs.length ≤ (1000000 : Nat) ∧ os.length ≤ (1000000 : Nat) ∧ sg.length ≤ (1000000 : Nat) ∧ ∃ v, v = (0 : Nat) ∧ (SV.c (SC.own (2 : Nat) (0 : Nat)) = SV.c (SC.own (2 : Nat) (0 : Nat)) ∧ True) ∧ [(([] : Go.Eng.Gd), bM6 vs os qs sg), (([] : Go.Eng.Gd), zM6), (([] : Go.Eng.Gd), Res.blk (31 : Nat) [SC.row (3 : Nat), SC.row (4 : Nat), SC.row (5 : Nat), SC.row (6 : Nat)]), (([] : Go.Eng.Gd), Res.row (3 : TypeId) I6 vs), (([] : Go.Eng.Gd), Res.row (3 : TypeId) I6 os), (([] : Go.Eng.Gd), Res.row (28 : TypeId) I6.sl (List.replicate (↑qs.length : Int).toNat [])), (([] : Go.Eng.Gd), Res.row (3 : TypeId) I6 sg)] = [(([] : Go.Eng.Gd), bM6 vs os qs sg), (([] : Go.Eng.Gd), zM6), (([] : Go.Eng.Gd), Res.blk (31 : TypeId) [SC.row (3 : Nat), SC.row (4 : Nat), SC.row (5 : Nat), SC.row (6 : Nat)]), (([] : Go.Eng.Gd), Res.row (3 : TypeId) I6 vs), (([] : Go.Eng.Gd), Res.row (3 : TypeId) I6 os), (([] : Go.Eng.Gd), Res.row (28 : TypeId) I6.sl (List.replicate qs.length [])), (([] : Go.Eng.Gd), Res.row (3 : TypeId) I6 sg)]) ∧ (vs.length ≤ (1000000 : Nat) ∧ (os.length ≤ (1000000 : Nat) ∧ (((0 : Int) ≤ (↑qs.length : Int) ∧ (↑qs.length : Int) ≤ (↑qs.length : Int) ∧ InA (↑qs.length : Int).toNat (24 : Nat)) ∧ sg.length ≤ (1000000 : Nat) ∧ ∃ v, v = (0 : Nat) ∧ (SV.c (SC.own (2 : Nat) (0 : Nat)) = SV.c (SC.own (2 : Nat) (0 : Nat)) ∧ True) ∧ [(([] : Go.Eng.Gd), bM6 vs os qs sg), (([] : Go.Eng.Gd), zM6), (([] : Go.Eng.Gd), Res.blk (31 : Nat) [SC.row (3 : Nat), SC.row (4 : Nat), SC.row (5 : Nat), SC.row (6 : Nat)]), (([] : Go.Eng.Gd), Res.row (3 : TypeId) I6 vs), (([] : Go.Eng.Gd), Res.row (3 : TypeId) I6 os), (([] : Go.Eng.Gd), Res.row (28 : TypeId) I6.sl (List.replicate (↑qs.length : Int).toNat [])), (([] : Go.Eng.Gd), Res.row (3 : TypeId) I6 sg)] = [(([] : Go.Eng.Gd), bM6 vs os qs sg), (([] : Go.Eng.Gd), zM6), (([] : Go.Eng.Gd), Res.blk (31 : TypeId) [SC.row (3 : Nat), SC.row (4 : Nat), SC.row (5 : Nat), SC.row (6 : Nat)]), (([] : Go.Eng.Gd), Res.row (3 : TypeId) I6 vs), (([] : Go.Eng.Gd), Res.row (3 : TypeId) I6 os), (([] : Go.Eng.Gd), Res.row (28 : TypeId) I6.sl (List.replicate qs.length [])), (([] : Go.Eng.Gd), Res.row (3 : TypeId) I6 sg)]) ∧ sg.length ≤ (1000000 : Nat) ∧ ((0 : Int) ≤ (↑qs.length : Int) ∧ (↑qs.length : Int) ≤ (↑qs.length : Int) ∧ InA (↑qs.length : Int).toNat (24 : Nat)) ∧ ∃ v, v = (0 : Nat) ∧ (SV.c (SC.own (2 : Nat) (0 : Nat)) = SV.c (SC.own (2 : Nat) (0 : Nat)) ∧ True) ∧ [(([] : Go.Eng.Gd), bM6 vs os qs sg), (([] : Go.Eng.Gd), zM6), (([] : Go.Eng.Gd), Res.blk (31 : Nat) [SC.row (3 : Nat), SC.row (4 : Nat), SC.row (5 : Nat), SC.row (6 : Nat)]), (([] : Go.Eng.Gd), Res.row (3 : TypeId) I6 vs), (([] : Go.Eng.Gd), Res.row (3 : TypeId) I6 os), (([] : Go.Eng.Gd), Res.row (28 : TypeId) I6.sl (List.replicate (↑qs.length : Int).toNat [])), (([] : Go.Eng.Gd), Res.row (3 : TypeId) I6 sg)] = [(([] : Go.Eng.Gd), bM6 vs os qs sg), (([] : Go.Eng.Gd), zM6), (([] : Go.Eng.Gd), Res.blk (31 : TypeId) [SC.row (3 : Nat), SC.row (4 : Nat), SC.row (5 : Nat), SC.row (6 : Nat)]), (([] : Go.Eng.Gd), Res.row (3 : TypeId) I6 vs), (([] : Go.Eng.Gd), Res.row (3 : TypeId) I6 os), (([] : Go.Eng.Gd), Res.row (28 : TypeId) I6.sl (List.replicate qs.length [])), (([] : Go.Eng.Gd), Res.row (3 : TypeId) I6 sg)]) ∧ ((0 : Int) ≤ (↑qs.length : Int) ∧ (↑qs.length : Int) ≤ (↑qs.length : Int) ∧ InA (↑qs.length : Int).toNat (24 : Nat)) ∧ os.length ≤ (1000000 : Nat) ∧ sg.length ≤ (1000000 : Nat) ∧ ∃ v, v = (0 : Nat) ∧ (SV.c (SC.own (2 : Nat) (0 : Nat)) = SV.c (SC.own (2 : Nat) (0 : Nat)) ∧ True) ∧ [(([] : Go.Eng.Gd), bM6 vs os qs sg), (([] : Go.Eng.Gd), zM6), (([] : Go.Eng.Gd), Res.blk (31 : Nat) [SC.row (3 : Nat), SC.row (4 : Nat), SC.row (5 : Nat), SC.row (6 : Nat)]), (([] : Go.Eng.Gd), Res.row (3 : TypeId) I6 vs), (([] : Go.Eng.Gd), Res.row (3 : TypeId) I6 os), (([] : Go.Eng.Gd), Res.row (28 : TypeId) I6.sl (List.replicate (↑qs.length : Int).toNat [])), (([] : Go.Eng.Gd), Res.row (3 : TypeId) I6 sg)] = [(([] : Go.Eng.Gd), bM6 vs os qs sg), (([] : Go.Eng.Gd), zM6), (([] : Go.Eng.Gd), Res.blk (31 : TypeId) [SC.row (3 : Nat), SC.row (4 : Nat), SC.row (5 : Nat), SC.row (6 : Nat)]), (([] : Go.Eng.Gd), Res.row (3 : TypeId) I6 vs), (([] : Go.Eng.Gd), Res.row (3 : TypeId) I6 os), (([] : Go.Eng.Gd), Res.row (28 : TypeId) I6.sl (List.replicate qs.length [])), (([] : Go.Eng.Gd), Res.row (3 : TypeId) I6 sg)]) ∧ ((0 : Int) ≤ (↑qs.length : Int) ∧ (↑qs.length : Int) ≤ (↑qs.length : Int) ∧ InA (↑qs.length : Int).toNat (24 : Nat)) ∧ vs.length ≤ (1000000 : Nat) ∧ os.length ≤ (1000000 : Nat) ∧ sg.length ≤ (1000000 : Nat) ∧ ∃ v, v = (0 : Nat) ∧ (SV.c (SC.own (2 : Nat) (0 : Nat)) = SV.c (SC.own (2 : Nat) (0 : Nat)) ∧ True) ∧ [(([] : Go.Eng.Gd), bM6 vs os qs sg), (([] : Go.Eng.Gd), zM6), (([] : Go.Eng.Gd), Res.blk (31 : Nat) [SC.row (3 : Nat), SC.row (4 : Nat), SC.row (5 : Nat), SC.row (6 : Nat)]), (([] : Go.Eng.Gd), Res.row (3 : TypeId) I6 vs), (([] : Go.Eng.Gd), Res.row (3 : TypeId) I6 os), (([] : Go.Eng.Gd), Res.row (28 : TypeId) I6.sl (List.replicate (↑qs.length : Int).toNat [])), (([] : Go.Eng.Gd), Res.row (3 : TypeId) I6 sg)] = [(([] : Go.Eng.Gd), bM6 vs os qs sg), (([] : Go.Eng.Gd), zM6), (([] : Go.Eng.Gd), Res.blk (31 : TypeId) [SC.row (3 : Nat), SC.row (4 : Nat), SC.row (5 : Nat), SC.row (6 : Nat)]), (([] : Go.Eng.Gd), Res.row (3 : TypeId) I6 vs), (([] : Go.Eng.Gd), Res.row (3 : TypeId) I6 os), (([] : Go.Eng.Gd), Res.row (28 : TypeId) I6.sl (List.replicate qs.length [])), (([] : Go.Eng.Gd), Res.row (3 : TypeId) I6 sg)]) ∧ ∀ (v : Nat), v = (0 : Nat) → (∃ x, x ≤ qs.length ∧ (SV.c (SC.v (Value.int IntKind.i64 (0 : Int))) = SV.c (SC.v (Value.int IntKind.i64 (↑x : Int))) ∧ True) ∧ [(([] : Go.Eng.Gd), bM6 vs os qs sg), (([] : Go.Eng.Gd), zM6), (([] : Go.Eng.Gd), Res.blk (31 : TypeId) [SC.row (3 : Nat), SC.row (4 : Nat), SC.row (5 : Nat), SC.row (6 : Nat)]), (([] : Go.Eng.Gd), Res.row (3 : TypeId) I6 vs), (([] : Go.Eng.Gd), Res.row (3 : TypeId) I6 os), (([] : Go.Eng.Gd), Res.deep (28 : TypeId) I6.sl (List.replicate qs.length []) (3 : TypeId) I6 (0 : Nat) noOwn []), (([] : Go.Eng.Gd), Res.row (3 : TypeId) I6 sg)] = [(([] : Go.Eng.Gd), bM6 vs os qs sg), (([] : Go.Eng.Gd), zM6), (([] : Go.Eng.Gd), Res.blk (31 : TypeId) [SC.row (3 : Nat), SC.row (4 : Nat), SC.row (5 : Nat), SC.row (6 : Nat)]), (([] : Go.Eng.Gd), Res.row (3 : TypeId) I6 vs), (([] : Go.Eng.Gd), Res.row (3 : TypeId) I6 os), (([] : Go.Eng.Gd), Res.deep (28 : TypeId) I6.sl (List.take x qs ++ List.replicate (qs.length - x) []) (3 : TypeId) I6 (0 : Nat) (fun j => decide (j < x)) []), (([] : Go.Eng.Gd), Res.row (3 : TypeId) I6 sg)]) ∧ ∀ (x : Nat), x ≤ qs.length → br (decide ((↑x : Int) < (↑qs.length : Int))) (((0 : Int) ≤ (↑x : Int) ∧ (↑x : Int) < (↑qs.length : Int)) ∧ ∀ (d : List I6.den), qs[(↑x : Int).toNat]? = some d → d.length ≤ (1000000 : Nat) ∧ ((0 : Int) ≤ (↑x : Int) ∧ (↑x : Int) < (↑(List.take x qs ++ List.replicate (qs.length - x) []).length : Int)) ∧ (↑x : Int).toNat < (List.take x qs ++ List.replicate (qs.length - x) []).length ∧ ∀ (e0 : List I6.den), (List.take x qs ++ List.replicate (qs.length - x) [])[(↑x : Int).toNat]? = some e0 → InR IntKind.i64 ((↑x : Int) + (1 : Int)) ∧ ∃ x', x' ≤ qs.length ∧ (SV.c (SC.v (Value.int IntKind.i64 ((↑x : Int) + (1 : Int)))) = SV.c (SC.v (Value.int IntKind.i64 (↑x' : Int))) ∧ True) ∧ [(([] : Go.Eng.Gd), bM6 vs os qs sg), (([] : Go.Eng.Gd), zM6), (([] : Go.Eng.Gd), Res.blk (31 : TypeId) [SC.row (3 : Nat), SC.row (4 : Nat), SC.row (5 : Nat), SC.row (6 : Nat)]), (([] : Go.Eng.Gd), Res.row (3 : TypeId) I6 vs), (([] : Go.Eng.Gd), Res.row (3 : TypeId) I6 os), (([] : Go.Eng.Gd), Res.deep (28 : TypeId) I6.sl ((List.take x qs ++ List.replicate (qs.length - x) []).set (↑x : Int).toNat (d)) (3 : TypeId) I6 (0 : Nat) (ownAt (fun j => decide (j < x)) (↑x : Int).toNat) []), (([] : Go.Eng.Gd), Res.row (3 : TypeId) I6 sg)] = [(([] : Go.Eng.Gd), bM6 vs os qs sg), (([] : Go.Eng.Gd), zM6), (([] : Go.Eng.Gd), Res.blk (31 : TypeId) [SC.row (3 : Nat), SC.row (4 : Nat), SC.row (5 : Nat), SC.row (6 : Nat)]), (([] : Go.Eng.Gd), Res.row (3 : TypeId) I6 vs), (([] : Go.Eng.Gd), Res.row (3 : TypeId) I6 os), (([] : Go.Eng.Gd), Res.deep (28 : TypeId) I6.sl (List.take x' qs ++ List.replicate (qs.length - x') []) (3 : TypeId) I6 (0 : Nat) (fun j => decide (j < x')) []), (([] : Go.Eng.Gd), Res.row (3 : TypeId) I6 sg)] ∧ qs.length - x' < qs.length - x) ([Res.row (3 : TypeId) I6 vs, Res.row (3 : TypeId) I6 os, Res.deep (28 : TypeId) I6.sl qs (3 : TypeId) I6 (0 : Nat) (fun j => decide (j < List.length (vs, os, qs, sg, ()).snd.snd.fst)) [], Res.row (3 : TypeId) I6 sg] = [Res.row (3 : TypeId) I6 vs, Res.row (3 : TypeId) I6 os, Res.deep (28 : TypeId) I6.sl (List.take x qs ++ List.replicate (qs.length - x) []) (3 : TypeId) I6 (0 : Nat) (fun j => decide (j < x)) [], Res.row (3 : TypeId) I6 sg] ∧ Ent.one (SV.agg [SC.row (0 : Nat), SC.row (1 : Nat), SC.row (2 : Nat), SC.row (3 : Nat)]) = Ent.one (SV.agg [SC.row (0 : Nat), SC.row (Nat.succ (0 : Nat)), SC.row (Nat.succ (0 : Nat)).succ, SC.row (Nat.succ (0 : Nat)).succ.succ])) := by
  obtain ⟨b1, b2, b3, b4, b5, b6⟩ : vs.length ≤ 1000 ∧ os.length ≤ 1000 ∧ qs.length ≤ 1000 ∧ sg.length ≤ 1000 ∧ (∀ q ∈ qs, q.length ≤ 1000) ∧ qs.flatten.length ≤ 100000 := hpre
  refine ⟨?_, fun u hu => ⟨⟨0, by omega, ⟨rfl, trivial⟩, ?_⟩, fun k hk => br_iff.2 ⟨fun g => ?_, fun g => ?_⟩⟩⟩
  · have hA : InA (↑qs.length : Int).toNat 24 := InA_iff.2 (by omega)
    repeat' first | exact ⟨0, rfl, ⟨rfl, trivial⟩, rfl⟩ | (refine And.intro ?_ ?_) | omega | exact hA
  · rw [noOwn_zero]; simp
  · simp only [decide_eq_true_eq] at g
    refine ⟨⟨by omega, by omega⟩, fun d hd => ⟨?_, ⟨by omega, ?_⟩, ?_, fun e0 he => ⟨InR_i64.2 (by omega), k + 1, by omega, ⟨rfl, trivial⟩, ?_, by omega⟩⟩⟩
    · have := b5 d (List.mem_of_getElem? hd); omega
    · rw [fill_len hk]; omega
    · rw [fill_len hk]; show k < _; omega
    · have hd : qs[k]? = some d := hd
      have e1 : (qs.take k ++ List.replicate (qs.length - k) []).set (↑k : Int).toNat d = qs.take (k + 1) ++ List.replicate (qs.length - (k + 1)) [] := fill_set hd
      have e2 : ownAt (fun j => decide (j < k)) (↑k : Int).toNat = fun j => decide (j < k + 1) := ownAt_succ k
      rw [e2]
      exact congrArg (fun z => _ :: _ :: _ :: _ :: _ :: (([] : Go.Eng.Gd), Res.deep 28 I6.sl z 3 I6 0 (fun j => decide (j < k + 1)) []) :: _) e1
  simp only [decide_eq_false_iff_not] at g
  have ek : k = qs.length := by omega
  subst ek
  exact ⟨by rw [fill_all (by omega) hk], rfl⟩
set_option maxHeartbeats 2000000 in
set_option maxRecDepth 100000 in
theorem f36_met : Go.Eng.Met Tryd.prog cx0.gd 36 ctClO :=
  (met_all (cx := cx0) (n := 36) (cl := cl36) (il := il36) (hl := hl36) (ml := ml36) (rc := []) (lits := []) (suf := []) (by kernel_rfl) tis_ok ⟨f60_met, trivial⟩ trivial trivial trivial Tryd.func36 (by kernel_rfl) (by kernel_rfl) rfl (by kernel_rfl) (by kernel_rfl) (by simp) fun d hd => by
    obtain ⟨⟨vs, os, qs, sg, ⟨⟩⟩, ⟨⟩⟩ := d
    exact ex_of (ann36 vs os qs sg) (f36_vc vs os qs sg hd) (by kernel_rfl)).met
end Go.Proofs.YtkgjfkdcnoockaaDoor
set_option linter.unusedSimpArgs false
set_option linter.unusedVariables false
set_option maxRecDepth 100000
namespace Go.Proofs.YtkgjfkdcnoockaaDoor
open Go Go.Eng

@[reducible] def ctClD : CT := { ps := [shM], pre := fun d => bndM d.1, res := fun d => ([.row 3 (.int .i64) (d.1.1), .row 3 (.int .i64) (d.1.2.1), .row 28 (.sl (.int .i64)) (d.1.2.2.1), .row 3 (.int .i64) (d.1.2.2.2.1)], .one (.agg [(.row 0), (.row 1), (.row 2), (.row 3)])) }
@[reducible] def cl36d : List (Nat × CT) := [(60, ctCld)]
@[reducible] def ann36d (vs : List Int) (os : List Int) (qs : List (List Int)) (sg : List Int) : Nat → Option (St → Ann) := fun k => match k with
  | 2 => some fun _ => .cut { α := Nat, pad := 5, can := [(2, .slot 3), (3, .cell 2 0), (4, .cell 2 1), (5, .cell 2 2), (6, .cell 2 3)], slots := fun _ => [(3, .c (.own 2 0))], res := fun _ => [(2, .blk 31 [.row 3, .row 4, .row 5, .row 6]), (3, .row 3 (.int .i64) (vs)), (4, .row 3 (.int .i64) (os)), (5, .row 28 (.sl (.int .i64)) (List.replicate qs.length [])), (6, .row 3 (.int .i64) (sg))], inv := fun u => u = 0, meas := fun _ => 0 }
  | 3 => some fun _ => .inv { α := Nat, slots := fun k => [(23, .c (.v (.int .i64 k)))], res := fun k => [(5, .row 28 (.sl (.int .i64)) (qs.take k ++ List.replicate (qs.length - k) []))], inv := fun k => k ≤ qs.length, meas := fun k => qs.length - k }
  | _ => none
@[reducible] def il36d : List (Nat × IP) := []
@[reducible] def hl36d : List (Nat × Nat × CT) := []
@[reducible] def ml36d : List (Nat × MK) := []
set_option maxRecDepth 100000 in
theorem f36d_vc (vs : List Int) (os : List Int) (qs : List (List Int)) (sg : List Int) (hpre : ctClD.pre ((vs, os, qs, sg, ()), ())) :
    ((vs.length ≤ (1000000 : Nat) ∧ (os.length ≤ (1000000 : Nat) ∧ (((0 : Int) ≤ (↑qs.length : Int) ∧ (↑qs.length : Int) ≤ (↑qs.length : Int) ∧ InA (↑qs.length : Int).toNat (24 : Nat)) ∧ (sg.length ≤ (1000000 : Nat) ∧ (∃ v, v = (0 : Nat) ∧ (SV.c (SC.own (2 : Nat) (0 : Nat)) = SV.c (SC.own (2 : Nat) (0 : Nat)) ∧ True) ∧ [(([] : Go.Eng.Gd), bM6 vs os qs sg), (([] : Go.Eng.Gd), zM6), (([] : Go.Eng.Gd), Res.blk (31 : Nat) [SC.row (3 : Nat), SC.row (4 : Nat), SC.row (5 : Nat), SC.row (6 : Nat)]), (([] : Go.Eng.Gd), Res.row (3 : TypeId) I6 vs), (([] : Go.Eng.Gd), Res.row (3 : TypeId) I6 os), (([] : Go.Eng.Gd), Res.row (28 : TypeId) I6.sl (List.replicate (↑qs.length : Int).toNat [])), (([] : Go.Eng.Gd), Res.row (3 : TypeId) I6 sg)] = [(([] : Go.Eng.Gd), bM6 vs os qs sg), (([] : Go.Eng.Gd), zM6), (([] : Go.Eng.Gd), Res.blk (31 : TypeId) [SC.row (3 : Nat), SC.row (4 : Nat), SC.row (5 : Nat), SC.row (6 : Nat)]), (([] : Go.Eng.Gd), Res.row (3 : TypeId) I6 vs), (([] : Go.Eng.Gd), Res.row (3 : TypeId) I6 os), (([] : Go.Eng.Gd), Res.row (28 : TypeId) I6.sl (List.replicate qs.length [])), (([] : Go.Eng.Gd), Res.row (3 : TypeId) I6 sg)]) ∧ ∃ v, v = (0 : Nat) ∧ (SV.c (SC.own (2 : Nat) (0 : Nat)) = SV.c (SC.own (2 : Nat) (0 : Nat)) ∧ True) ∧ [(([] : Go.Eng.Gd), bM6 vs os qs sg), (([] : Go.Eng.Gd), zM6), (([] : Go.Eng.Gd), Res.blk (31 : Nat) [SC.row (3 : Nat), SC.row (4 : Nat), SC.row (5 : Nat), SC.row (6 : Nat)]), (([] : Go.Eng.Gd), Res.row (3 : TypeId) I6 vs), (([] : Go.Eng.Gd), Res.row (3 : TypeId) I6 os), (([] : Go.Eng.Gd), Res.row (28 : TypeId) I6.sl (List.replicate (↑qs.length : Int).toNat [])), (([] : Go.Eng.Gd), Res.row (3 : TypeId) I6 sg)] = [(([] : Go.Eng.Gd), bM6 vs os qs sg), (([] : Go.Eng.Gd), zM6), (([] : Go.Eng.Gd), Res.blk (31 : TypeId) [SC.row (3 : Nat), SC.row (4 : Nat), SC.row (5 : Nat), SC.row (6 : Nat)]), (([] : Go.Eng.Gd), Res.row (3 : TypeId) I6 vs), (([] : Go.Eng.Gd), Res.row (3 : TypeId) I6 os), (([] : Go.Eng.Gd), Res.row (28 : TypeId) I6.sl (List.replicate qs.length [])), (([] : Go.Eng.Gd), Res.row (3 : TypeId) I6 sg)]) ∧ sg.length ≤ (1000000 : Nat) ∧ ∃ v, v = (0 : Nat) ∧ (SV.c (SC.own (2 : Nat) (0 : Nat)) = SV.c (SC.own (2 : Nat) (0 : Nat)) ∧ True) ∧ [(([] : Go.Eng.Gd), bM6 vs os qs sg), (([] : Go.Eng.Gd), zM6), (([] : Go.Eng.Gd), Res.blk (31 : Nat) [SC.row (3 : Nat), SC.row (4 : Nat), SC.row (5 : Nat), SC.row (6 : Nat)]), (([] : Go.Eng.Gd), Res.row (3 : TypeId) I6 vs), (([] : Go.Eng.Gd), Res.row (3 : TypeId) I6 os), (([] : Go.Eng.Gd), Res.row (28 : TypeId) I6.sl (List.replicate (↑qs.length : Int).toNat [])), (([] : Go.Eng.Gd), Res.row (3 : TypeId) I6 sg)] = [(([] : Go.Eng.Gd), bM6 vs os qs sg), (([] : Go.Eng.Gd), zM6), (([] : Go.Eng.Gd), Res.blk (31 : TypeId) [SC.row (3 : Nat), SC.row (4 : Nat), SC.row (5 : Nat), SC.row (6 : Nat)]), (([] : Go.Eng.Gd), Res.row (3 : TypeId) I6 vs), (([] : Go.Eng.Gd), Res.row (3 : TypeId) I6 os), (([] : Go.Eng.Gd), Res.row (28 : TypeId) I6.sl (List.replicate qs.length [])), (([] : Go.Eng.Gd), Res.row (3 : TypeId) I6 sg)]) ∧ (sg.length ≤ (1000000 : Nat) ∧ (((0 : Int) ≤ (↑qs.length : Int) ∧ (↑qs.length : Int) ≤ (↑qs.length : Int) ∧ InA (↑qs.length : Int).toNat (24 : Nat)) ∧ (∃ v, v = (0 : Nat) ∧ (SV.c (SC.own (2 : Nat) (0 : Nat)) = SV.c (SC.own (2 : Nat) (0 : Nat)) ∧ True) ∧ [(([] : Go.Eng.Gd), bM6 vs os qs sg), (([] : Go.Eng.Gd), zM6), (([] : Go.Eng.Gd), Res.blk (31 : Nat) [SC.row (3 : Nat), SC.row (4 : Nat), SC.row (5 : Nat), SC.row (6 : Nat)]), (([] : Go.Eng.Gd), Res.row (3 : TypeId) I6 vs), (([] : Go.Eng.Gd), Res.row (3 : TypeId) I6 os), (([] : Go.Eng.Gd), Res.row (28 : TypeId) I6.sl (List.replicate (↑qs.length : Int).toNat [])), (([] : Go.Eng.Gd), Res.row (3 : TypeId) I6 sg)] = [(([] : Go.Eng.Gd), bM6 vs os qs sg), (([] : Go.Eng.Gd), zM6), (([] : Go.Eng.Gd), Res.blk (31 : TypeId) [SC.row (3 : Nat), SC.row (4 : Nat), SC.row (5 : Nat), SC.row (6 : Nat)]), (([] : Go.Eng.Gd), Res.row (3 : TypeId) I6 vs), (([] : Go.Eng.Gd), Res.row (3 : TypeId) I6 os), (([] : Go.Eng.Gd), Res.row (28 : TypeId) I6.sl (List.replicate qs.length [])), (([] : Go.Eng.Gd), Res.row (3 : TypeId) I6 sg)]) ∧ ∃ v, v = (0 : Nat) ∧ (SV.c (SC.own (2 : Nat) (0 : Nat)) = SV.c (SC.own (2 : Nat) (0 : Nat)) ∧ True) ∧ [(([] : Go.Eng.Gd), bM6 vs os qs sg), (([] : Go.Eng.Gd), zM6), (([] : Go.Eng.Gd), Res.blk (31 : Nat) [SC.row (3 : Nat), SC.row (4 : Nat), SC.row (5 : Nat), SC.row (6 : Nat)]), (([] : Go.Eng.Gd), Res.row (3 : TypeId) I6 vs), (([] : Go.Eng.Gd), Res.row (3 : TypeId) I6 os), (([] : Go.Eng.Gd), Res.row (28 : TypeId) I6.sl (List.replicate (↑qs.length : Int).toNat [])), (([] : Go.Eng.Gd), Res.row (3 : TypeId) I6 sg)] = [(([] : Go.Eng.Gd), bM6 vs os qs sg), (([] : Go.Eng.Gd), zM6), (([] : Go.Eng.Gd), Res.blk (31 : TypeId) [SC.row (3 : Nat), SC.row (4 : Nat), SC.row (5 : Nat), SC.row (6 : Nat)]), (([] : Go.Eng.Gd), Res.row (3 : TypeId) I6 vs), (([] : Go.Eng.Gd), Res.row (3 : TypeId) I6 os), (([] : Go.Eng.Gd), Res.row (28 : TypeId) I6.sl (List.replicate qs.length [])), (([] : Go.Eng.Gd), Res.row (3 : TypeId) I6 sg)]) ∧ ((0 : Int) ≤ (↑qs.length : Int) ∧ (↑qs.length : Int) ≤ (↑qs.length : Int) ∧ InA (↑qs.length : Int).toNat (24 : Nat)) ∧ ∃ v, v = (0 : Nat) ∧ (SV.c (SC.own (2 : Nat) (0 : Nat)) = SV.c (SC.own (2 : Nat) (0 : Nat)) ∧ True) ∧ [(([] : Go.Eng.Gd), bM6 vs os qs sg), (([] : Go.Eng.Gd), zM6), (([] : Go.Eng.Gd), Res.blk (31 : Nat) [SC.row (3 : Nat), SC.row (4 : Nat), SC.row (5 : Nat), SC.row (6 : Nat)]), (([] : Go.Eng.Gd), Res.row (3 : TypeId) I6 vs), (([] : Go.Eng.Gd), Res.row (3 : TypeId) I6 os), (([] : Go.Eng.Gd), Res.row (28 : TypeId) I6.sl (List.replicate (↑qs.length : Int).toNat [])), (([] : Go.Eng.Gd), Res.row (3 : TypeId) I6 sg)] = [(([] : Go.Eng.Gd), bM6 vs os qs sg), (([] : Go.Eng.Gd), zM6), (([] : Go.Eng.Gd), Res.blk (31 : TypeId) [SC.row (3 : Nat), SC.row (4 : Nat), SC.row (5 : Nat), SC.row (6 : Nat)]), (([] : Go.Eng.Gd), Res.row (3 : TypeId) I6 vs), (([] : Go.Eng.Gd), Res.row (3 : TypeId) I6 os), (([] : Go.Eng.Gd), Res.row (28 : TypeId) I6.sl (List.replicate qs.length [])), (([] : Go.Eng.Gd), Res.row (3 : TypeId) I6 sg)]) ∧ (((0 : Int) ≤ (↑qs.length : Int) ∧ (↑qs.length : Int) ≤ (↑qs.length : Int) ∧ InA (↑qs.length : Int).toNat (24 : Nat)) ∧ sg.length ≤ (1000000 : Nat) ∧ ∃ v, v = (0 : Nat) ∧ (SV.c (SC.own (2 : Nat) (0 : Nat)) = SV.c (SC.own (2 : Nat) (0 : Nat)) ∧ True) ∧ [(([] : Go.Eng.Gd), bM6 vs os qs sg), (([] : Go.Eng.Gd), zM6), (([] : Go.Eng.Gd), Res.blk (31 : Nat) [SC.row (3 : Nat), SC.row (4 : Nat), SC.row (5 : Nat), SC.row (6 : Nat)]), (([] : Go.Eng.Gd), Res.row (3 : TypeId) I6 vs), (([] : Go.Eng.Gd), Res.row (3 : TypeId) I6 os), (([] : Go.Eng.Gd), Res.row (28 : TypeId) I6.sl (List.replicate (↑qs.length : Int).toNat [])), (([] : Go.Eng.Gd), Res.row (3 : TypeId) I6 sg)] = [(([] : Go.Eng.Gd), bM6 vs os qs sg), (([] : Go.Eng.Gd), zM6), (([] : Go.Eng.Gd), Res.blk (31 : TypeId) [SC.row (3 : Nat), SC.row (4 : Nat), SC.row (5 : Nat), SC.row (6 : Nat)]), (([] : Go.Eng.Gd), Res.row (3 : TypeId) I6 vs), (([] : Go.Eng.Gd), Res.row (3 : TypeId) I6 os), (([] : Go.Eng.Gd), Res.row (28 : TypeId) I6.sl (List.replicate qs.length [])), (([] : Go.Eng.Gd), Res.row (3 : TypeId) I6 sg)]) ∧ sg.length ≤ (1000000 : Nat) ∧ ((0 : Int) ≤ (↑qs.length : Int) ∧ (↑qs.length : Int) ≤ (↑qs.length : Int) ∧ InA (↑qs.length : Int).toNat (24 : Nat)) ∧ ∃ v, v = (0 : Nat) ∧ (SV.c (SC.own (2 : Nat) (0 : Nat)) = SV.c (SC.own (2 : Nat) (0 : Nat)) ∧ True) ∧ [(([] : Go.Eng.Gd), bM6 vs os qs sg), (([] : Go.Eng.Gd), zM6), (([] : Go.Eng.Gd), Res.blk (31 : Nat) [SC.row (3 : Nat), SC.row (4 : Nat), SC.row (5 : Nat), SC.row (6 : Nat)]), (([] : Go.Eng.Gd), Res.row (3 : TypeId) I6 vs), (([] : Go.Eng.Gd), Res.row (3 : TypeId) I6 os), (([] : Go.Eng.Gd), Res.row (28 : TypeId) I6.sl (List.replicate (↑qs.length : Int).toNat [])), (([] : Go.Eng.Gd), Res.row (3 : TypeId) I6 sg)] = [(([] : Go.Eng.Gd), bM6 vs os qs sg), (([] : Go.Eng.Gd), zM6), (([] : Go.Eng.Gd), Res.blk (31 : TypeId) [SC.row (3 : Nat), SC.row (4 : Nat), SC.row (5 : Nat), SC.row (6 : Nat)]), (([] : Go.Eng.Gd), Res.row (3 : TypeId) I6 vs), (([] : Go.Eng.Gd), Res.row (3 : TypeId) I6 os), (([] : Go.Eng.Gd), Res.row (28 : TypeId) I6.sl (List.replicate qs.length [])), (([] : Go.Eng.Gd), Res.row (3 : TypeId) I6 sg)]) ∧ (((0 : Int) ≤ (↑qs.length : Int) ∧ (↑qs.length : Int) ≤ (↑qs.length : Int) ∧ InA (↑qs.length : Int).toNat (24 : Nat)) ∧ (os.length ≤ (1000000 : Nat) ∧ (sg.length ≤ (1000000 : Nat) ∧ (∃ v, v = (0 : Nat) ∧ (SV.c (SC.own (2 : Nat) (0 : Nat)) = SV.c (SC.own (2 : Nat) (0 : Nat)) ∧ True) ∧ [(([] : Go.Eng.Gd), bM6 vs os qs sg), (([] : Go.Eng.Gd), zM6), (([] : Go.Eng.Gd), Res.blk (31 : Nat) [SC.row (3 : Nat), SC.row (4 : Nat), SC.row (5 : Nat), SC.row (6 : Nat)]), (([] : Go.Eng.Gd), Res.row (3 : TypeId) I6 vs), (([] : Go.Eng.Gd), Res.row (3 : TypeId) I6 os), (([] : Go.Eng.Gd), Res.row (28 : TypeId) I6.sl (List.replicate (↑qs.length : Int).toNat [])), (([] : Go.Eng.Gd), Res.row (3 : TypeId) I6 sg)] = [(([] : Go.Eng.Gd), bM6 vs os qs sg), (([] : Go.Eng.Gd), zM6), (([] : Go.Eng.Gd), Res.blk (31 : TypeId) [SC.row (3 : Nat), SC.row (4 : Nat), SC.row (5 : Nat), SC.row (6 : Nat)]), (([] : Go.Eng.Gd), Res.row (3 : TypeId) I6 vs), (([] : Go.Eng.Gd), Res.row (3 : TypeId) I6 os), (([] : Go.Eng.Gd), Res.row (28 : TypeId) I6.sl (List.replicate qs.length [])), (([] : Go.Eng.Gd), Res.row (3 : TypeId) I6 sg)]) ∧ ∃ v, v = (0 : Nat) ∧ (SV.c (SC.own (2 : Nat) (0 : Nat)) = SV.c (SC.own (2 : Nat) (0 : Nat)) ∧ True) ∧ [(([] : Go.Eng.Gd), bM6 vs os qs sg), (([] : Go.Eng.Gd), zM6), (([] : Go.Eng.Gd), Res.blk (31 : Nat) [SC.row (3 : Nat), SC.row (4 : Nat), SC.row (5 : Nat), SC.row (6 : Nat)]), (([] : Go.Eng.Gd), Res.row (3 : TypeId) I6 vs), (([] : Go.Eng.Gd), Res.row (3 : TypeId) I6 os), (([] : Go.Eng.Gd), Res.row (28 : TypeId) I6.sl (List.replicate (↑qs.length : Int).toNat [])), (([] : Go.Eng.Gd), Res.row (3 : TypeId) I6 sg)] = [(([] : Go.Eng.Gd), bM6 vs os qs sg), (([] : Go.Eng.Gd), zM6), (([] : Go.Eng.Gd), Res.blk (31 : TypeId) [SC.row (3 : Nat), SC.row (4 : Nat), SC.row (5 : Nat), SC.row (6 : Nat)]), (([] : Go.Eng.Gd), Res.row (3 : TypeId) I6 vs), (([] : Go.Eng.Gd), Res.row (3 : TypeId) I6 os), (([] : Go.Eng.Gd), Res.row (28 : TypeId) I6.sl (List.replicate qs.length [])), (([] : Go.Eng.Gd), Res.row (3 : TypeId) I6 sg)]) ∧ sg.length ≤ (1000000 : Nat) ∧ ∃ v, v = (0 : Nat) ∧ (SV.c (SC.own (2 : Nat) (0 : Nat)) = SV.c (SC.own (2 : Nat) (0 : Nat)) ∧ True) ∧ [(([] : Go.Eng.Gd), bM6 vs os qs sg), (([] : Go.Eng.Gd), zM6), (([] : Go.Eng.Gd), Res.blk (31 : Nat) [SC.row (3 : Nat), SC.row (4 : Nat), SC.row (5 : Nat), SC.row (6 : Nat)]), (([] : Go.Eng.Gd), Res.row (3 : TypeId) I6 vs), (([] : Go.Eng.Gd), Res.row (3 : TypeId) I6 os), (([] : Go.Eng.Gd), Res.row (28 : TypeId) I6.sl (List.replicate (↑qs.length : Int).toNat [])), (([] : Go.Eng.Gd), Res.row (3 : TypeId) I6 sg)] = [(([] : Go.Eng.Gd), bM6 vs os qs sg), (([] : Go.Eng.Gd), zM6), (([] : Go.Eng.Gd), Res.blk (31 : TypeId) [SC.row (3 : Nat), SC.row (4 : Nat), SC.row (5 : Nat), SC.row (6 : Nat)]), (([] : Go.Eng.Gd), Res.row (3 : TypeId) I6 vs), (([] : Go.Eng.Gd), Res.row (3 : TypeId) I6 os), (([] : Go.Eng.Gd), Res.row (28 : TypeId) I6.sl (List.replicate qs.length [])), (([] : Go.Eng.Gd), Res.row (3 : TypeId) I6 sg)]) ∧ os.length ≤ (1000000 : Nat) ∧ sg.length ≤ (1000000 : Nat) ∧ ∃ v, v = (0 : Nat) ∧ (SV.c (SC.own (2 : Nat) (0 : Nat)) = SV.c (SC.own (2 : Nat) (0 : Nat)) ∧ True) ∧ [(([] : Go.Eng.Gd), bM6 vs os qs sg), (([] : Go.Eng.Gd), zM6), (([] : Go.Eng.Gd), Res.blk (31 : Nat) [SC.row (3 : Nat), SC.row (4 : Nat), SC.row (5 : Nat), SC.row (6 : Nat)]), (([] : Go.Eng.Gd), Res.row (3 : TypeId) I6 vs), (([] : Go.Eng.Gd), Res.row (3 : TypeId) I6 os), (([] : Go.Eng.Gd), Res.row (28 : TypeId) I6.sl (List.replicate (↑qs.length : Int).toNat [])), (([] : Go.Eng.Gd), Res.row (3 : TypeId) I6 sg)] = [(([] : Go.Eng.Gd), bM6 vs os qs sg), (([] : Go.Eng.Gd), zM6), (([] : Go.Eng.Gd), Res.blk (31 : TypeId) [SC.row (3 : Nat), SC.row (4 : Nat), SC.row (5 : Nat), SC.row (6 : Nat)]), (([] : Go.Eng.Gd), Res.row (3 : TypeId) I6 vs), (([] : Go.Eng.Gd), Res.row (3 : TypeId) I6 os), (([] : Go.Eng.Gd), Res.row (28 : TypeId) I6.sl (List.replicate qs.length [])), (([] : Go.Eng.Gd), Res.row (3 : TypeId) I6 sg)]) ∧ (os.length ≤ (1000000 : Nat) ∧ (((0 : Int) ≤ (↑qs.length : Int) ∧ (↑qs.length : Int) ≤ (↑qs.length : Int) ∧ InA (↑qs.length : Int).toNat (24 : Nat)) ∧ sg.length ≤ (1000000 : Nat) ∧ ∃ v, v = (0 : Nat) ∧ (SV.c (SC.own (2 : Nat) (0 : Nat)) = SV.c (SC.own (2 : Nat) (0 : Nat)) ∧ True) ∧ [(([] : Go.Eng.Gd), bM6 vs os qs sg), (([] : Go.Eng.Gd), zM6), (([] : Go.Eng.Gd), Res.blk (31 : Nat) [SC.row (3 : Nat), SC.row (4 : Nat), SC.row (5 : Nat), SC.row (6 : Nat)]), (([] : Go.Eng.Gd), Res.row (3 : TypeId) I6 vs), (([] : Go.Eng.Gd), Res.row (3 : TypeId) I6 os), (([] : Go.Eng.Gd), Res.row (28 : TypeId) I6.sl (List.replicate (↑qs.length : Int).toNat [])), (([] : Go.Eng.Gd), Res.row (3 : TypeId) I6 sg)] = [(([] : Go.Eng.Gd), bM6 vs os qs sg), (([] : Go.Eng.Gd), zM6), (([] : Go.Eng.Gd), Res.blk (31 : TypeId) [SC.row (3 : Nat), SC.row (4 : Nat), SC.row (5 : Nat), SC.row (6 : Nat)]), (([] : Go.Eng.Gd), Res.row (3 : TypeId) I6 vs), (([] : Go.Eng.Gd), Res.row (3 : TypeId) I6 os), (([] : Go.Eng.Gd), Res.row (28 : TypeId) I6.sl (List.replicate qs.length [])), (([] : Go.Eng.Gd), Res.row (3 : TypeId) I6 sg)]) ∧ sg.length ≤ (1000000 : Nat) ∧ ((0 : Int) ≤ (↑qs.length : Int) ∧ (↑qs.length : Int) ≤ (↑qs.length : Int) ∧ InA (↑qs.length : Int).toNat (24 : Nat)) ∧ ∃ v, v = (0 : Nat) ∧ (SV.c (SC.own (2 : Nat) (0 : Nat)) = SV.c (SC.own (2 : Nat) (0 : Nat)) ∧ True) ∧ [(([] : Go.Eng.Gd), bM6 vs os qs sg), (([] : Go.Eng.Gd), zM6), (([] : Go.Eng.Gd), Res.blk (31 : Nat) [SC.row (3 : Nat), SC.row (4 : Nat), SC.row (5 : Nat), SC.row (6 : Nat)]), (([] : Go.Eng.Gd), Res.row (3 : TypeId) I6 vs), (([] : Go.Eng.Gd), Res.row (3 : TypeId) I6 os), (([] : Go.Eng.Gd), Res.row (28 : TypeId) I6.sl (List.replicate (↑qs.length : Int).toNat [])), (([] : Go.Eng.Gd), Res.row (3 : TypeId) I6 sg)] = [(([] : Go.Eng.Gd), bM6 vs os qs sg), (([] : Go.Eng.Gd), zM6), (([] : Go.Eng.Gd), Res.blk (31 : TypeId) [SC.row (3 : Nat), SC.row (4 : Nat), SC.row (5 : Nat), SC.row (6 : Nat)]), (([] : Go.Eng.Gd), Res.row (3 : TypeId) I6 vs), (([] : Go.Eng.Gd), Res.row (3 : TypeId) I6 os), (([] : Go.Eng.Gd), Res.row (28 : TypeId) I6.sl (List.replicate qs.length [])), (([] : Go.Eng.Gd), Res.row (3 : TypeId) I6 sg)]) ∧ ((0 : Int) ≤ (↑qs.length : Int) ∧ (↑qs.length : Int) ≤ (↑qs.length : Int) ∧ InA (↑qs.length : Int).toNat (24 : Nat)) ∧ os.length ≤ (1000000 : Nat) ∧ sg.length ≤ (1000000 : Nat) ∧ ∃ v, v = (0 : Nat) ∧ (SV.c (SC.own (2 : Nat) (0 : Nat)) = SV.c (SC.own (2 : Nat) (0 : Nat)) ∧ True) ∧ [(([] : Go.Eng.Gd), bM6 vs os qs sg), (([] : Go.Eng.Gd), zM6), (([] : Go.Eng.Gd), Res.blk (31 : Nat) [SC.row (3 : Nat), SC.row (4 : Nat), SC.row (5 : Nat), SC.row (6 : Nat)]), (([] : Go.Eng.Gd), Res.row (3 : TypeId) I6 vs), (([] : Go.Eng.Gd), Res.row (3 : TypeId) I6 os), (([] : Go.Eng.Gd), Res.row (28 : TypeId) I6.sl (List.replicate (↑qs.length : Int).toNat [])), (([] : Go.Eng.Gd), Res.row (3 : TypeId) I6 sg)] = [(([] : Go.Eng.Gd), bM6 vs os qs sg), (([] : Go.Eng.Gd), zM6), (([] : Go.Eng.Gd), Res.blk (31 : TypeId) [SC.row (3 : Nat), SC.row (4 : Nat), SC.row (5 : Nat), SC.row (6 : Nat)]), (([] : Go.Eng.Gd), Res.row (3 : TypeId) I6 vs), (([] : Go.Eng.Gd), Res.row (3 : TypeId) I6 os), (([] : Go.Eng.Gd), Res.row (28 : TypeId) I6.sl (List.replicate qs.length [])), (([] : Go.Eng.Gd), Res.row (3 : TypeId) I6 sg)]) ∧ (((0 : Int) ≤ (↑qs.length : Int) ∧ (↑qs.length : Int) ≤ (↑qs.length : Int) ∧ InA (↑qs.length : Int).toNat (24 : Nat)) ∧ (vs.length ≤ (1000000 : Nat) ∧ (os.length ≤ (1000000 : Nat) ∧ (sg.length ≤ (1000000 : Nat) ∧ (∃ v, v = (0 : Nat) ∧ (SV.c (SC.own (2 : Nat) (0 : Nat)) = SV.c (SC.own (2 : Nat) (0 : Nat)) ∧ True) ∧ [(([] : Go.Eng.Gd), bM6 vs os qs sg), (([] : Go.Eng.Gd), zM6), (([] : Go.Eng.Gd), Res.blk (31 : Nat) [SC.row (3 : Nat), SC.row (4 : Nat), SC.row (5 : Nat), SC.row (6 : Nat)]), (([] : Go.Eng.Gd), Res.row (3 : TypeId) I6 vs), (([] : Go.Eng.Gd), Res.row (3 : TypeId) I6 os), (([] : Go.Eng.Gd), Res.row (28 : TypeId) I6.sl (List.replicate (↑qs.length : Int).toNat [])), (([] : Go.Eng.Gd), Res.row (3 : TypeId) I6 sg)] = [(([] : Go.Eng.Gd), bM6 vs os qs sg), (([] : Go.Eng.Gd), zM6), (([] : Go.Eng.Gd), Res.blk (31 : TypeId) [SC.row (3 : Nat), SC.row (4 : Nat), SC.row (5 : Nat), SC.row (6 : Nat)]), (([] : Go.Eng.Gd), Res.row (3 : TypeId) I6 vs), (([] : Go.Eng.Gd), Res.row (3 : TypeId) I6 os), (([] : Go.Eng.Gd), Res.row (28 : TypeId) I6.sl (List.replicate qs.length [])), (([] : Go.Eng.Gd), Res.row (3 : TypeId) I6 sg)]) ∧ ∃ v, v = (0 : Nat) ∧ (SV.c (SC.own (2 : Nat) (0 : Nat)) = SV.c (SC.own (2 : Nat) (0 : Nat)) ∧ True) ∧ [(([] : Go.Eng.Gd), bM6 vs os qs sg), (([] : Go.Eng.Gd), zM6), (([] : Go.Eng.Gd), Res.blk (31 : Nat) [SC.row (3 : Nat), SC.row (4 : Nat), SC.row (5 : Nat), SC.row (6 : Nat)]), (([] : Go.Eng.Gd), Res.row (3 : TypeId) I6 vs), (([] : Go.Eng.Gd), Res.row (3 : TypeId) I6 os), (([] : Go.Eng.Gd), Res.row (28 : TypeId) I6.sl (List.replicate (↑qs.length : Int).toNat [])), (([] : Go.Eng.Gd), Res.row (3 : TypeId) I6 sg)] = [(([] : Go.Eng.Gd), bM6 vs os qs sg), (([] : Go.Eng.Gd), zM6), (([] : Go.Eng.Gd), Res.blk (31 : TypeId) [SC.row (3 : Nat), SC.row (4 : Nat), SC.row (5 : Nat), SC.row (6 : Nat)]), (([] : Go.Eng.Gd), Res.row (3 : TypeId) I6 vs), (([] : Go.Eng.Gd), Res.row (3 : TypeId) I6 os), (([] : Go.Eng.Gd), Res.row (28 : TypeId) I6.sl (List.replicate qs.length [])), (([] : Go.Eng.Gd), Res.row (3 : TypeId) I6 sg)]) ∧ sg.length ≤ (1000000 : Nat) ∧ ∃ v, v = (0 : Nat) ∧ (SV.c (SC.own (2 : Nat) (0 : Nat)) = SV.c (SC.own (2 : Nat) (0 : Nat)) ∧ True) ∧ [(([] : Go.Eng.Gd), bM6 vs os qs sg), (([] : Go.Eng.Gd), zM6), (([] : Go.Eng.Gd), Res.blk (31 : Nat) [SC.row (3 : Nat), SC.row (4 : Nat), SC.row (5 : Nat), SC.row (6 : Nat)]), (([] : Go.Eng.Gd), Res.row (3 : TypeId) I6 vs), (([] : Go.Eng.Gd), Res.row (3 : TypeId) I6 os), (([] : Go.Eng.Gd), Res.row (28 : TypeId) I6.sl (List.replicate (↑qs.length : Int).toNat [])), (([] : Go.Eng.Gd), Res.row (3 : TypeId) I6 sg)] = [(([] : Go.Eng.Gd), bM6 vs os qs sg), (([] : Go.Eng.Gd), zM6), (([] : Go.Eng.Gd), Res.blk (31 : TypeId) [SC.row (3 : Nat), SC.row (4 : Nat), SC.row (5 : Nat), SC.row (6 : Nat)]), (([] : Go.Eng.Gd), Res.row (3 : TypeId) I6 vs), (([] : Go.Eng.Gd), Res.row (3 : TypeId) I6 os), (([] : Go.Eng.Gd), Res.row (28 : TypeId) I6.sl (List.replicate qs.length [])), (([] : Go.Eng.Gd), Res.row (3 : TypeId) I6 sg)]) ∧ os.length ≤ (1000000 : Nat) ∧ sg.length ≤ (1000000 : Nat) ∧ ∃ v, v = (0 : Nat) ∧ (SV.c (SC.own (2 : Nat) (0 : Nat)) = SV.c (SC.own (2 : Nat) (0 : Nat)) ∧ True) ∧ [(([] : Go.Eng.Gd), bM6 vs os qs sg), (([] : Go.Eng.Gd), zM6), (([] : Go.Eng.Gd), Res.blk (31 : Nat) [SC.row (3 : Nat), SC.row (4 : Nat), SC.row (5 : Nat), SC.row (6 : Nat)]), (([] : Go.Eng.Gd), Res.row (3 : TypeId) I6 vs), (([] : Go.Eng.Gd), Res.row (3 : TypeId) I6 os), (([] : Go.Eng.Gd), Res.row (28 : TypeId) I6.sl (List.replicate (↑qs.length : Int).toNat [])), (([] : Go.Eng.Gd), Res.row (3 : TypeId) I6 sg)] = [(([] : Go.Eng.Gd), bM6 vs os qs sg), (([] : Go.Eng.Gd), zM6), (([] : Go.Eng.Gd), Res.blk (31 : TypeId) [SC.row (3 : Nat), SC.row (4 : Nat), SC.row (5 : Nat), SC.row (6 : Nat)]), (([] : Go.Eng.Gd), Res.row (3 : TypeId) I6 vs), (([] : Go.Eng.Gd), Res.row (3 : TypeId) I6 os), (([] : Go.Eng.Gd), Res.row (28 : TypeId) I6.sl (List.replicate qs.length [])), (([] : Go.Eng.Gd), Res.row (3 : TypeId) I6 sg)]) ∧ vs.length ≤ (1000000 : Nat) ∧ os.length ≤ (1000000 : Nat) ∧ sg.length ≤ (1000000 : Nat) ∧ ∃ v, v = (0 : Nat) ∧ (SV.c (SC.own (2 : Nat) (0 : Nat)) = SV.c (SC.own (2 : Nat) (0 : Nat)) ∧ True) ∧ [(([] : Go.Eng.Gd), bM6 vs os qs sg), (([] : Go.Eng.Gd), zM6), (([] : Go.Eng.Gd), Res.blk (31 : Nat) [SC.row (3 : Nat), SC.row (4 : Nat), SC.row (5 : Nat), SC.row (6 : Nat)]), (([] : Go.Eng.Gd), Res.row (3 : TypeId) I6 vs), (([] : Go.Eng.Gd), Res.row (3 : TypeId) I6 os), (([] : Go.Eng.Gd), Res.row (28 : TypeId) I6.sl (List.replicate (↑qs.length : Int).toNat [])), (([] : Go.Eng.Gd), Res.row (3 : TypeId) I6 sg)] = [(([] : Go.Eng.Gd), bM6 vs os qs sg), (([] : Go.Eng.Gd), zM6), (([] : Go.Eng.Gd), Res.blk (31 : TypeId) [SC.row (3 : Nat), SC.row (4 : Nat), SC.row (5 : Nat), SC.row (6 : Nat)]), (([] : Go.Eng.Gd), Res.row (3 : TypeId) I6 vs), (([] : Go.Eng.Gd), Res.row (3 : TypeId) I6 os), (([] : Go.Eng.Gd), Res.row (28 : TypeId) I6.sl (List.replicate qs.length [])), (([] : Go.Eng.Gd), Res.row (3 : TypeId) I6 sg)]) ∧ (vs.length ≤ (1000000 : Nat) ∧ (os.length ≤ (1000000 : Nat) ∧ (((0 : Int) ≤ (↑qs.length : Int) ∧ (↑qs.length : Int) ≤ (↑qs.length : Int) ∧ InA (↑qs.length : Int).toNat (24 : Nat)) ∧ sg.length ≤ (1000000 : Nat) ∧ ∃ v, v = (0 : Nat) ∧ (SV.c (SC.own (2 : Nat) (0 : Nat)) = SV.c (SC.own (2 : Nat) (0 : Nat)) ∧ True) ∧ [(([] : Go.Eng.Gd), bM6 vs os qs sg), (([] : Go.Eng.Gd), zM6), (([] : Go.Eng.Gd), Res.blk (31 : Nat) [SC.row (3 : Nat), SC.row (4 : Nat), SC.row (5 : Nat), SC.row (6 : Nat)]), (([] : Go.Eng.Gd), Res.row (3 : TypeId) I6 vs), (([] : Go.Eng.Gd), Res.row (3 : TypeId) I6 os), (([] : Go.Eng.Gd), Res.row (28 : TypeId) I6.sl (List.replicate (↑qs.length : Int).toNat [])), (([] : Go.Eng.Gd), Res.row (3 : TypeId) I6 sg)] = [(([] : Go.Eng.Gd), bM6 vs os qs sg), (([] : Go.Eng.Gd), zM6), (([] : Go.Eng.Gd), Res.blk (31 : TypeId) [SC.row (3 : Nat), SC.row (4 : Nat), SC.row (5 : Nat), SC.row (6 : Nat)]), (([] : Go.Eng.Gd), Res.row (3 : TypeId) I6 vs), (([] : Go.Eng.Gd), Res.row (3 : TypeId) I6 os), (([] : Go.Eng.Gd), Res.row (28 : TypeId) I6.sl (List.replicate qs.length [])), (([] : Go.Eng.Gd), Res.row (3 : TypeId) I6 sg)]) ∧ sg.length ≤ (1000000 : Nat) ∧ ((0 : Int) ≤ (↑qs.length : Int) ∧ (↑qs.length : Int) ≤ (↑qs.length : Int) ∧ InA (↑qs.length : Int).toNat (24 : Nat)) ∧ ∃ v, v = (0 : Nat) ∧ (SV.c (SC.own (2 : Nat) (0 : Nat)) = SV.c (SC.own (2 : Nat) (0 : Nat)) ∧ True) ∧ [(([] : Go.Eng.Gd), bM6 vs os qs sg), (([] : Go.Eng.Gd), zM6), (([] : Go.Eng.Gd), Res.blk (31 : Nat) [SC.row (3 : Nat), SC.row (4 : Nat), SC.row (5 : Nat), SC.row (6 : Nat)]), (([] : Go.Eng.Gd), Res.row (3 : TypeId) I6 vs), (([] : Go.Eng.Gd), Res.row (3 : TypeId) I6 os), (([] : Go.Eng.Gd), Res.row (28 : TypeId) I6.sl (List.replicate (↑qs.length : Int).toNat [])), (([] : Go.Eng.Gd), Res.row (3 : TypeId) I6 sg)] = [(([] : Go.Eng.Gd), bM6 vs os qs sg), (([] : Go.Eng.Gd), zM6), (([] : Go.Eng.Gd), Res.blk (31 : TypeId) [SC.row (3 : Nat), SC.row (4 : Nat), SC.row (5 : Nat), SC.row (6 : Nat)]), (([] : Go.Eng.Gd), Res.row (3 : TypeId) I6 vs), (([] : Go.Eng.Gd), Res.row (3 : TypeId) I6 os), (([] : Go.Eng.Gd), Res.row (28 : TypeId) I6.sl (List.replicate qs.length [])), (([] : Go.Eng.Gd), Res.row (3 : TypeId) I6 sg)]) ∧ ((0 : Int) ≤ (↑qs.length : Int) ∧ (↑qs.length : Int) ≤ (↑qs.length : Int) ∧ InA (↑qs.length : Int).toNat (24 : Nat)) ∧ os.length ≤ (1000000 : Nat) ∧ sg.length ≤ (1000000 : Nat) ∧ ∃ v, v = (0 : Nat) ∧ (SV.c (SC.own (2 : Nat) (0 : Nat)) = SV.c (SC.own (2 : Nat) (0 : Nat)) ∧ True) ∧ [(([] : Go.Eng.Gd), bM6 vs os qs sg), (([] : Go.Eng.Gd), zM6), (([] : Go.Eng.Gd), Res.blk (31 : Nat) [SC.row (3 : Nat), SC.row (4 : Nat), SC.row (5 : Nat), SC.row (6 : Nat)]), (([] : Go.Eng.Gd), Res.row (3 : TypeId) I6 vs), (([] : Go.Eng.Gd), Res.row (3 : TypeId) I6 os), (([] : Go.Eng.Gd), Res.row (28 : TypeId) I6.sl (List.replicate (↑qs.length : Int).toNat [])), (([] : Go.Eng.Gd), Res.row (3 : TypeId) I6 sg)] = [(([] : Go.Eng.Gd), bM6 vs os qs sg), (([] : Go.Eng.Gd), zM6), (([] : Go.Eng.Gd), Res.blk (31 : TypeId) [SC.row (3 : Nat), SC.row (4 : Nat), SC.row (5 : Nat), SC.row (6 : Nat)]), (([] : Go.Eng.Gd), Res.row (3 : TypeId) I6 vs), (([] : Go.Eng.Gd), Res.row (3 : TypeId) I6 os), (([] : Go.Eng.Gd), Res.row (28 : TypeId) I6.sl (List.replicate qs.length [])), (([] : Go.Eng.Gd), Res.row (3 : TypeId) I6 sg)]) ∧ ((0 : Int) ≤ (↑qs.length : Int) ∧ (↑qs.length : Int) ≤ (↑qs.length : Int) ∧ InA (↑qs.length : Int).toNat (24 : Nat)) ∧ vs.length ≤ (1000000 : Nat) ∧ os.length ≤ (1000000 : Nat) ∧ sg.length ≤ (1000000 : Nat) ∧ ∃ v, v = (0 : Nat) ∧ (SV.c (SC.own (2 : Nat) (0 : Nat)) = SV.c (SC.own (2 : Nat) (0 : Nat)) ∧ True) ∧ [(([] : Go.Eng.Gd), bM6 vs os qs sg), (([] : Go.Eng.Gd), zM6), (([] : Go.Eng.Gd), Res.blk (31 : Nat) [SC.row (3 : Nat), SC.row (4 : Nat), SC.row (5 : Nat), SC.row (6 : Nat)]), (([] : Go.Eng.Gd), Res.row (3 : TypeId) I6 vs), (([] : Go.Eng.Gd), Res.row (3 : TypeId) I6 os), (([] : Go.Eng.Gd), Res.row (28 : TypeId) I6.sl (List.replicate (↑qs.length : Int).toNat [])), (([] : Go.Eng.Gd), Res.row (3 : TypeId) I6 sg)] = [(([] : Go.Eng.Gd), bM6 vs os qs sg), (([] : Go.Eng.Gd), zM6), (([] : Go.Eng.Gd), Res.blk (31 : TypeId) [SC.row (3 : Nat), SC.row (4 : Nat), SC.row (5 : Nat), SC.row (6 : Nat)]), (([] : Go.Eng.Gd), Res.row (3 : TypeId) I6 vs), (([] : Go.Eng.Gd), Res.row (3 : TypeId) I6 os), (([] : Go.Eng.Gd), Res.row (28 : TypeId) I6.sl (List.replicate qs.length [])), (([] : Go.Eng.Gd), Res.row (3 : TypeId) I6 sg)]) ∧ ∀ (v : Nat), v = (0 : Nat) → (∃ x, x ≤ qs.length ∧ (SV.c (SC.v (Value.int IntKind.i64 (0 : Int))) = SV.c (SC.v (Value.int IntKind.i64 (↑x : Int))) ∧ True) ∧ [(([] : Go.Eng.Gd), bM6 vs os qs sg), (([] : Go.Eng.Gd), zM6), (([] : Go.Eng.Gd), Res.blk (31 : TypeId) [SC.row (3 : Nat), SC.row (4 : Nat), SC.row (5 : Nat), SC.row (6 : Nat)]), (([] : Go.Eng.Gd), Res.row (3 : TypeId) I6 vs), (([] : Go.Eng.Gd), Res.row (3 : TypeId) I6 os), (([] : Go.Eng.Gd), Res.row (28 : TypeId) I6.sl (List.replicate qs.length [])), (([] : Go.Eng.Gd), Res.row (3 : TypeId) I6 sg)] = [(([] : Go.Eng.Gd), bM6 vs os qs sg), (([] : Go.Eng.Gd), zM6), (([] : Go.Eng.Gd), Res.blk (31 : TypeId) [SC.row (3 : Nat), SC.row (4 : Nat), SC.row (5 : Nat), SC.row (6 : Nat)]), (([] : Go.Eng.Gd), Res.row (3 : TypeId) I6 vs), (([] : Go.Eng.Gd), Res.row (3 : TypeId) I6 os), (([] : Go.Eng.Gd), Res.row (28 : TypeId) I6.sl (List.take x qs ++ List.replicate (qs.length - x) [])), (([] : Go.Eng.Gd), Res.row (3 : TypeId) I6 sg)]) ∧ ∀ (x : Nat), x ≤ qs.length → br (decide ((↑x : Int) < (↑qs.length : Int))) (((0 : Int) ≤ (↑x : Int) ∧ (↑x : Int) < (↑qs.length : Int)) ∧ ∀ (d : List I6.den), qs[(↑x : Int).toNat]? = some d → d.length ≤ (1000000 : Nat) ∧ ((0 : Int) ≤ (↑x : Int) ∧ (↑x : Int) < (↑(List.take x qs ++ List.replicate (qs.length - x) []).length : Int)) ∧ (↑x : Int).toNat < (List.take x qs ++ List.replicate (qs.length - x) []).length ∧ InR IntKind.i64 ((↑x : Int) + (1 : Int)) ∧ ∃ x', x' ≤ qs.length ∧ (SV.c (SC.v (Value.int IntKind.i64 ((↑x : Int) + (1 : Int)))) = SV.c (SC.v (Value.int IntKind.i64 (↑x' : Int))) ∧ True) ∧ [(([] : Go.Eng.Gd), bM6 vs os qs sg), (([] : Go.Eng.Gd), zM6), (([] : Go.Eng.Gd), Res.blk (31 : TypeId) [SC.row (3 : Nat), SC.row (4 : Nat), SC.row (5 : Nat), SC.row (6 : Nat)]), (([] : Go.Eng.Gd), Res.row (3 : TypeId) I6 vs), (([] : Go.Eng.Gd), Res.row (3 : TypeId) I6 os), (([] : Go.Eng.Gd), Res.row (28 : TypeId) I6.sl ((List.take x qs ++ List.replicate (qs.length - x) []).set (↑x : Int).toNat (d))), (([] : Go.Eng.Gd), Res.row (3 : TypeId) I6 sg)] = [(([] : Go.Eng.Gd), bM6 vs os qs sg), (([] : Go.Eng.Gd), zM6), (([] : Go.Eng.Gd), Res.blk (31 : TypeId) [SC.row (3 : Nat), SC.row (4 : Nat), SC.row (5 : Nat), SC.row (6 : Nat)]), (([] : Go.Eng.Gd), Res.row (3 : TypeId) I6 vs), (([] : Go.Eng.Gd), Res.row (3 : TypeId) I6 os), (([] : Go.Eng.Gd), Res.row (28 : TypeId) I6.sl (List.take x' qs ++ List.replicate (qs.length - x') [])), (([] : Go.Eng.Gd), Res.row (3 : TypeId) I6 sg)] ∧ qs.length - x' < qs.length - x) ([Res.row (3 : TypeId) I6 vs, Res.row (3 : TypeId) I6 os, Res.row (28 : TypeId) I6.sl qs, Res.row (3 : TypeId) I6 sg] = [Res.row (3 : TypeId) I6 vs, Res.row (3 : TypeId) I6 os, Res.row (28 : TypeId) I6.sl (List.take x qs ++ List.replicate (qs.length - x) []), Res.row (3 : TypeId) I6 sg] ∧ Ent.one (SV.agg [SC.row (0 : Nat), SC.row (1 : Nat), SC.row (2 : Nat), SC.row (3 : Nat)]) = Ent.one (SV.agg [SC.row (0 : Nat), SC.row (Nat.succ (0 : Nat)), SC.row (Nat.succ (0 : Nat)).succ, SC.row (Nat.succ (0 : Nat)).succ.succ])) := by
  obtain ⟨b1, b2, b3, b4, b5, b6⟩ : vs.length ≤ 1000 ∧ os.length ≤ 1000 ∧ qs.length ≤ 1000 ∧ sg.length ≤ 1000 ∧ (∀ q ∈ qs, q.length ≤ 1000) ∧ qs.flatten.length ≤ 100000 := hpre
  refine ⟨?_, fun u hu => ⟨⟨0, by omega, ⟨rfl, trivial⟩, ?_⟩, fun k hk => br_iff.2 ⟨fun g => ?_, fun g => ?_⟩⟩⟩
  · have hA : InA (↑qs.length : Int).toNat 24 := InA_iff.2 (by omega)
    repeat' first | exact ⟨0, rfl, ⟨rfl, trivial⟩, rfl⟩ | (refine And.intro ?_ ?_) | omega | exact hA
  · simp
  · simp only [decide_eq_true_eq] at g
    refine ⟨⟨by omega, by omega⟩, fun d hd => ⟨?_, ⟨by omega, ?_⟩, ?_, ⟨InR_i64.2 (by omega), k + 1, by omega, ⟨rfl, trivial⟩, ?_, by omega⟩⟩⟩
    · have := b5 d (List.mem_of_getElem? hd); omega
    · rw [fill_len hk]; omega
    · rw [fill_len hk]; show k < _; omega
    · have hd : qs[k]? = some d := hd
      have e1 : (qs.take k ++ List.replicate (qs.length - k) []).set (↑k : Int).toNat d = qs.take (k + 1) ++ List.replicate (qs.length - (k + 1)) [] := fill_set hd
      exact congrArg (fun z => _ :: _ :: _ :: _ :: _ :: (([] : Go.Eng.Gd), Res.row 28 I6.sl z) :: _) e1
  simp only [decide_eq_false_iff_not] at g
  have ek : k = qs.length := by omega
  subst ek
  exact ⟨by rw [fill_all (by omega) hk], rfl⟩
set_option maxHeartbeats 2000000 in
set_option maxRecDepth 100000 in
theorem f36d_met : Go.Eng.Met Tryd.prog cx0.gd 36 ctClD :=
  (met_all (cx := cx0) (n := 36) (cl := cl36d) (il := il36d) (hl := hl36d) (ml := ml36d) (rc := []) (lits := []) (suf := []) (by kernel_rfl) tis_ok ⟨f60_met, trivial⟩ trivial trivial trivial Tryd.func36 (by kernel_rfl) (by kernel_rfl) rfl (by kernel_rfl) (by kernel_rfl) (by simp) fun d hd => by
    obtain ⟨⟨vs, os, qs, sg, ⟨⟩⟩, ⟨⟩⟩ := d
    exact ⟨ann36d vs os qs sg, cast (by kernel_rfl) (f36d_vc vs os qs sg hd)⟩).met
end Go.Proofs.YtkgjfkdcnoockaaDoor
set_option linter.unusedSimpArgs false
set_option linter.unusedVariables false
set_option maxRecDepth 100000
namespace Go.Proofs.YtkgjfkdcnoockaaDoor
open Go Go.Eng

def zM : MD := ([], [], [], [], ())
noncomputable def insM (m : MD) (i n : Int) : Int := if formM m = false then 1 else if i < 0 ∨ n ≤ i then 11 else 0
noncomputable def readM (m : MD) (x : Int) : Int × Int := if insM m x m.1.length = 0 then (m.1[x.toNat]?.getD 0, 0) else (0, insM m x m.1.length)
noncomputable def freeM (m : MD) (i : Int) : Bool := decide (insM m i m.2.1.length = 0) && decide (m.2.1[i.toNat]?.getD 0 = -1)
noncomputable def waitsM (m : MD) (id : Int) : Bool := m.2.2.1.any (fun q => hasI q id) || hasI m.2.2.2.1 id
theorem insM_zero {m : MD} {i n : Int} : insM m i n = 0 ↔ formM m = true ∧ 0 ≤ i ∧ i < n := by
  unfold insM
  by_cases h : formM m = true
  · rw [if_neg (by simp [h])]
    split
    · simp [h]; omega
    · simp [h]; omega
  · rw [Bool.not_eq_true] at h
    rw [if_pos h, h]; simp
@[reducible] noncomputable def ctIns : CT := { ps := [shM, .int .i64, .int .i64], pre := fun d => bndM d.1, res := fun d => ([], .one (.c (.v (.int .i64 (insM d.1 d.2.1 d.2.2.1))))) }
@[reducible] noncomputable def cl50 : List (Nat × CT) := [(48, ctFm)]
@[reducible] def ann50 (vs : List Int) (os : List Int) (qs : List (List Int)) (sg : List Int) (i : Int) (n : Int) : Nat → Option (St → Ann) := fun _ => none
@[reducible] def il50 : List (Nat × IP) := []
@[reducible] def hl50 : List (Nat × Nat × CT) := []
@[reducible] noncomputable def ml50 : List (Nat × MK) := []
set_option maxRecDepth 100000 in
theorem f50_vc (vs : List Int) (os : List Int) (qs : List (List Int)) (sg : List Int) (i : Int) (n : Int) (hpre : ctIns.pre ((vs, os, qs, sg, ()), i, n, ())) :
    bndM (vs, os, qs, sg, ()) ∧ br (!formM (vs, os, qs, sg, ())) (([] : List Go.Eng.Res) = [] ∧ Ent.one (SV.c (SC.v (Value.int IntKind.i64 (insM (vs, os, qs, sg, ()) i n)))) = Ent.one (SV.c (SC.v (Value.int IntKind.i64 (1 : Int))))) (br (decide (i < (0 : Int)) || decide (n ≤ i)) (([] : List Go.Eng.Res) = [] ∧ Ent.one (SV.c (SC.v (Value.int IntKind.i64 (insM (vs, os, qs, sg, ()) i n)))) = Ent.one (SV.c (SC.v (Value.int IntKind.i64 (11 : Int))))) (([] : List Go.Eng.Res) = [] ∧ Ent.one (SV.c (SC.v (Value.int IntKind.i64 (insM (vs, os, qs, sg, ()) i n)))) = Ent.one (SV.c (SC.v (Value.int IntKind.i64 (0 : Int)))))) := by
  unfold insM
  refine ⟨hpre, br_iff.2 ⟨fun h => ⟨rfl, ?_⟩, fun h => br_iff.2 ⟨fun g => ⟨rfl, ?_⟩, fun g => ⟨rfl, ?_⟩⟩⟩⟩
  · rw [if_pos (by simpa using h)]
  · rw [if_neg (by simpa using h), if_pos (by simpa using g)]
  · rw [if_neg (by simpa using h), if_neg (by simpa using g)]
set_option maxHeartbeats 2000000 in
set_option maxRecDepth 100000 in
theorem f50_met : Go.Eng.Met Tryd.prog cx0.gd 50 ctIns :=
  (met_all (cx := cx0) (n := 17) (cl := cl50) (il := il50) (hl := hl50) (ml := ml50) (rc := []) (lits := []) (suf := []) (by kernel_rfl) tis_ok ⟨f48_met, trivial⟩ trivial trivial trivial Tryd.func50 (by kernel_rfl) (by kernel_rfl) rfl (by kernel_rfl) (by kernel_rfl) (by simp) fun d hd => by
    obtain ⟨⟨vs, os, qs, sg, ⟨⟩⟩, i, n, ⟨⟩⟩ := d
    exact ex_of (ann50 vs os qs sg i n) (f50_vc vs os qs sg i n hd) (by kernel_rfl)).met
@[reducible] noncomputable def ctRd : CT := { ps := [shM, .int .i64], pre := fun d => bndM d.1, res := fun d => ([], .tup [.c (.v (.int .i64 ((readM d.1 d.2.1).1))), .c (.v (.int .i64 ((readM d.1 d.2.1).2)))]) }
@[reducible] noncomputable def cl26 : List (Nat × CT) := [(50, ctIns)]
@[reducible] def ann26 (vs : List Int) (os : List Int) (qs : List (List Int)) (sg : List Int) (x : Int) : Nat → Option (St → Ann) := fun _ => none
@[reducible] def il26 : List (Nat × IP) := []
@[reducible] def hl26 : List (Nat × Nat × CT) := []
@[reducible] noncomputable def ml26 : List (Nat × MK) := []
set_option maxRecDepth 100000 in
theorem f26_vc (vs : List Int) (os : List Int) (qs : List (List Int)) (sg : List Int) (x : Int) (hpre : ctRd.pre ((vs, os, qs, sg, ()), x, ())) :
    bndM (vs, os, qs, sg, ()) ∧ br (!decide (insM (vs, os, qs, sg, ()) x (↑vs.length : Int) = (0 : Int))) (([] : List Go.Eng.Res) = [] ∧ Ent.tup [SV.c (SC.v (Value.int IntKind.i64 (readM (vs, os, qs, sg, ()) x).fst)), SV.c (SC.v (Value.int IntKind.i64 (readM (vs, os, qs, sg, ()) x).snd))] = Ent.tup [SV.c (SC.v (Value.int IntKind.i64 (0 : Int))), SV.c (SC.v (Value.int IntKind.i64 (insM (vs, os, qs, sg, ()) x (↑vs.length : Int))))]) (((0 : Int) ≤ x ∧ x < (↑vs.length : Int)) ∧ ∀ (d : Int), vs[x.toNat]? = some d → ([] : List Go.Eng.Res) = [] ∧ Ent.tup [SV.c (SC.v (Value.int IntKind.i64 (readM (vs, os, qs, sg, ()) x).fst)), SV.c (SC.v (Value.int IntKind.i64 (readM (vs, os, qs, sg, ()) x).snd))] = Ent.tup [SV.c (SC.v (Value.int IntKind.i64 d)), SV.c (SC.v (Value.int IntKind.i64 (0 : Int)))]) := by
  unfold readM
  refine ⟨hpre, br_iff.2 ⟨fun h => ⟨rfl, ?_⟩, fun h => ?_⟩⟩
  · rw [if_neg (by simpa using h)]
  · have h : insM (vs, os, qs, sg, ()) x vs.length = 0 := by simpa using h
    have hx := insM_zero.1 h
    refine ⟨hx.2, fun d hd => ⟨rfl, ?_⟩⟩
    rw [if_pos h]
    simp [hd]
set_option maxHeartbeats 2000000 in
set_option maxRecDepth 100000 in
theorem f26_met : Go.Eng.Met Tryd.prog cx0.gd 26 ctRd :=
  (met_all (cx := cx0) (n := 21) (cl := cl26) (il := il26) (hl := hl26) (ml := ml26) (rc := []) (lits := []) (suf := []) (by kernel_rfl) tis_ok ⟨f50_met, trivial⟩ trivial trivial trivial Tryd.func26 (by kernel_rfl) (by kernel_rfl) rfl (by kernel_rfl) (by kernel_rfl) (by simp) fun d hd => by
    obtain ⟨⟨vs, os, qs, sg, ⟨⟩⟩, x, ⟨⟩⟩ := d
    exact ex_of (ann26 vs os qs sg x) (f26_vc vs os qs sg x hd) (by kernel_rfl)).met
@[reducible] noncomputable def ctFr : CT := { ps := [shM, .int .i64], pre := fun d => bndM d.1, res := fun d => ([], vB (freeM d.1 d.2.1)) }
@[reducible] noncomputable def cl34 : List (Nat × CT) := [(50, ctIns)]
@[reducible] def ann34 (vs : List Int) (os : List Int) (qs : List (List Int)) (sg : List Int) (i : Int) : Nat → Option (St → Ann) := fun _ => none
@[reducible] def il34 : List (Nat × IP) := []
@[reducible] def hl34 : List (Nat × Nat × CT) := []
@[reducible] noncomputable def ml34 : List (Nat × MK) := []
set_option maxRecDepth 100000 in
theorem f34_vc (vs : List Int) (os : List Int) (qs : List (List Int)) (sg : List Int) (i : Int) (hpre : ctFr.pre ((vs, os, qs, sg, ()), i, ())) :
    bndM (vs, os, qs, sg, ()) ∧ (decide (insM (vs, os, qs, sg, ()) i (↑os.length : Int) = (0 : Int)) = true → (0 : Int) ≤ i ∧ i < (↑os.length : Int)) ∧ ∀ (d : Int), (decide (insM (vs, os, qs, sg, ()) i (↑os.length : Int) = (0 : Int)) = true → os[i.toNat]? = some d) → ([] : List Go.Eng.Res) = [] ∧ Ent.one (SV.c (SC.v (Value.bool (freeM (vs, os, qs, sg, ()) i)))) = Ent.one (SV.c (SC.v (Value.bool (decide (insM (vs, os, qs, sg, ()) i (↑os.length : Int) = (0 : Int)) && decide (d = (-1 : Int)))))) := by
  unfold freeM
  refine ⟨hpre, fun h => (insM_zero.1 (by simpa using h)).2, fun d hd => ⟨rfl, ?_⟩⟩
  by_cases h : insM (vs, os, qs, sg, ()) i os.length = 0
  · have := hd (by simpa using h)
    simp [this]
  · simp [h]
set_option maxHeartbeats 2000000 in
set_option maxRecDepth 100000 in
theorem f34_met : Go.Eng.Met Tryd.prog cx0.gd 34 ctFr :=
  (met_all (cx := cx0) (n := 20) (cl := cl34) (il := il34) (hl := hl34) (ml := ml34) (rc := []) (lits := []) (suf := []) (by kernel_rfl) tis_ok ⟨f50_met, trivial⟩ trivial trivial trivial Tryd.func34 (by kernel_rfl) (by kernel_rfl) rfl (by kernel_rfl) (by kernel_rfl) (by simp) fun d hd => by
    obtain ⟨⟨vs, os, qs, sg, ⟨⟩⟩, i, ⟨⟩⟩ := d
    exact ex_of (ann34 vs os qs sg i) (f34_vc vs os qs sg i hd) (by kernel_rfl)).met
@[reducible] noncomputable def ctWts : CT := { ps := [shM, .int .i64], pre := fun d => bndM d.1, res := fun d => ([], vB (waitsM d.1 d.2.1)) }
@[reducible] noncomputable def cl51 : List (Nat × CT) := [(77, ctCon), (54, ctHas)]
@[reducible] def ann51 (vs : List Int) (os : List Int) (qs : List (List Int)) (sg : List Int) (id : Int) : Nat → Option (St → Ann) := fun k => match k with
  | 2 => some fun _ => .inv { α := Nat, slots := fun k => [(10, .c (.v (.int .i64 k)))], res := fun k => [], inv := fun k => k ≤ (qs).length ∧ ∀ j < k, ∀ q, qs[j]? = some q → hasI q id = false, meas := fun k => (qs).length - k }
  | _ => none
@[reducible] def il51 : List (Nat × IP) := []
@[reducible] def hl51 : List (Nat × Nat × CT) := []
@[reducible] noncomputable def ml51 : List (Nat × MK) := []
set_option maxRecDepth 100000 in
theorem f51_vc (vs : List Int) (os : List Int) (qs : List (List Int)) (sg : List Int) (id : Int) (hpre : ctWts.pre ((vs, os, qs, sg, ()), id, ())) :
    (∃ x, (x ≤ qs.length ∧ ∀ (j : Nat), j < x → ∀ (q : List Int), qs[j]? = some q → hasI q id = false) ∧ (SV.c (SC.v (Value.int IntKind.i64 (0 : Int))) = SV.c (SC.v (Value.int IntKind.i64 (↑x : Int))) ∧ True) ∧ [(([] : Go.Eng.Gd), bM6 vs os qs sg)] = [(([] : Go.Eng.Gd), bM6 vs os qs sg)]) ∧ ∀ (x : Nat), (x ≤ qs.length ∧ ∀ (j : Nat), j < x → ∀ (q : List Int), qs[j]? = some q → hasI q id = false) → br (decide ((↑x : Int) < (↑qs.length : Int))) (((0 : Int) ≤ (↑x : Int) ∧ (↑x : Int) < (↑qs.length : Int)) ∧ ∀ (d : List I6.den), qs[(↑x : Int).toNat]? = some d → d.length ≤ (4611686018427387904 : Nat) ∧ br (hasI d id) (([] : List Go.Eng.Res) = [] ∧ Ent.one (SV.c (SC.v (Value.bool (waitsM (vs, os, qs, sg, ()) id)))) = Ent.one (SV.c (SC.v (Value.bool true)))) (InR IntKind.i64 ((↑x : Int) + (1 : Int)) ∧ ∃ x', (x' ≤ qs.length ∧ ∀ (j : Nat), j < x' → ∀ (q : List Int), qs[j]? = some q → hasI q id = false) ∧ (SV.c (SC.v (Value.int IntKind.i64 ((↑x : Int) + (1 : Int)))) = SV.c (SC.v (Value.int IntKind.i64 (↑x' : Int))) ∧ True) ∧ [(([] : Go.Eng.Gd), bM6 vs os qs sg)] = [(([] : Go.Eng.Gd), bM6 vs os qs sg)] ∧ qs.length - x' < qs.length - x)) (sg.length ≤ (1000000 : Nat) ∧ ([] : List Go.Eng.Res) = [] ∧ Ent.one (SV.c (SC.v (Value.bool (waitsM (vs, os, qs, sg, ()) id)))) = Ent.one (SV.c (SC.v (Value.bool (hasI sg id))))) := by
  obtain ⟨b1, b2, b3, b4, b5, b6⟩ : vs.length ≤ 1000 ∧ os.length ≤ 1000 ∧ qs.length ≤ 1000 ∧ sg.length ≤ 1000 ∧ (∀ q ∈ qs, q.length ≤ 1000) ∧ qs.flatten.length ≤ 100000 := hpre
  refine ⟨⟨0, ⟨by omega, fun j hj => by omega⟩, ⟨rfl, trivial⟩, rfl⟩, fun k hk => br_iff.2 ⟨fun g => ?_, fun g => ?_⟩⟩
  · simp only [decide_eq_true_eq] at g
    refine ⟨⟨by omega, by omega⟩, fun d hd => ⟨?_, br_iff.2 ⟨fun g2 => ⟨rfl, ?_⟩, fun g2 => ⟨InR_i64.2 (by omega), k + 1, ⟨by omega, fun j hj q hq => ?_⟩, ⟨rfl, trivial⟩, rfl, by omega⟩⟩⟩⟩
    · have := b5 d (List.mem_of_getElem? hd); omega
    · have : waitsM (vs, os, qs, sg, ()) id = true := by
        unfold waitsM
        rw [Bool.or_eq_true]
        exact .inl (List.any_eq_true.2 ⟨d, List.mem_of_getElem? hd, g2⟩)
      rw [this]
    · by_cases hjk : j = k
      · subst hjk
        have hd : qs[j]? = some d := hd
        rw [hd] at hq; cases hq
        exact g2
      · exact hk.2 j (by omega) q hq
  simp only [decide_eq_false_iff_not] at g
  have : waitsM (vs, os, qs, sg, ()) id = hasI sg id := by
    unfold waitsM
    have : (qs.any fun q => hasI q id) = false := by
      rw [List.any_eq_false]
      intro q hq
      obtain ⟨j, hj⟩ := List.getElem?_of_mem hq
      rw [hk.2 j (by have := (List.getElem?_eq_some_iff.1 hj).1; omega) q hj]; simp
    simp [this]
  exact ⟨by omega, rfl, by rw [this]⟩
set_option maxHeartbeats 2000000 in
set_option maxRecDepth 100000 in
theorem f51_met : Go.Eng.Met Tryd.prog cx0.gd 51 ctWts :=
  (met_all (cx := cx0) (n := 22) (cl := cl51) (il := il51) (hl := hl51) (ml := ml51) (rc := []) (lits := []) (suf := []) (by kernel_rfl) tis_ok ⟨f77_met, f54_met, trivial⟩ trivial trivial trivial Tryd.func51 (by kernel_rfl) (by kernel_rfl) rfl (by kernel_rfl) (by kernel_rfl) (by simp) fun d hd => by
    obtain ⟨⟨vs, os, qs, sg, ⟨⟩⟩, id, ⟨⟩⟩ := d
    exact ex_of (ann51 vs os qs sg id) (f51_vc vs os qs sg id hd) (by kernel_rfl)).met
end Go.Proofs.YtkgjfkdcnoockaaDoor
set_option linter.unusedSimpArgs false
set_option linter.unusedVariables false
set_option maxRecDepth 100000
namespace Go.Proofs.YtkgjfkdcnoockaaDoor
open Go Go.Eng

noncomputable def enqM (m : MD) (c id : Int) : MD × Int := if insM m c m.2.2.1.length = 0 then (if id < 0 then (zM, 2) else if waitsM m id = true then (zM, 30) else ((m.1, m.2.1, m.2.2.1.set c.toNat (m.2.2.1[c.toNat]?.getD [] ++ [id]), m.2.2.2), 0)) else (zM, insM m c m.2.2.1.length)
def addsI (sg l : List Int) : List Int := l.foldl (fun s x => makeI (s ++ [x])) sg
theorem addsI_take {sg l : List Int} {k : Nat} {d : Int} (h : l[k]? = some d) : addsI sg (l.take (k + 1)) = makeI (addsI sg (l.take k) ++ [d]) := by
  unfold addsI
  rw [List.take_add_one, h]; simp
theorem addsI_len : ∀ (l sg : List Int), (addsI sg l).length ≤ sg.length + l.length
  | [], sg => by simp [addsI]
  | x :: l, sg => by
    have := addsI_len l (makeI (sg ++ [x]))
    have h2 := make_le (sg ++ [x]) []
    have e : addsI sg (x :: l) = addsI (makeI (sg ++ [x])) l := rfl
    rw [e]
    unfold makeI at *
    simp only [List.length_append, List.length_cons, List.length_nil] at *
    omega
noncomputable def wkM (m : MD) (c n : Int) : MD × Int × Int := if insM m c m.2.2.1.length = 0 then ((m.1, m.2.1, m.2.2.1.set c.toNat ((m.2.2.1[c.toNat]?.getD []).drop (minI n ((m.2.2.1[c.toNat]?.getD []).length : Int)).toNat), addsI m.2.2.2.1 ((m.2.2.1[c.toNat]?.getD []).take (minI n ((m.2.2.1[c.toNat]?.getD []).length : Int)).toNat), ()), minI n ((m.2.2.1[c.toNat]?.getD []).length : Int), 0) else (zM, 0, insM m c m.2.2.1.length)
noncomputable def wakeM (m : MD) (id : Int) : MD × Int := if formM m = false then (zM, 1) else if hasI m.2.2.2.1 id = false then (zM, 30) else ((m.1, m.2.1, m.2.2.1, filI (makeI m.2.2.2.1) [id] false, ()), 0)
def newM (vs : List VD) (ms cs : List ByteArray) (fs : List FD) (ts : List SD) : MD × Int := if (chkP vs ms cs fs ts).1 = 0 then ((vs.map (·.2.1), List.replicate ms.length (-1), List.replicate cs.length [], [], ()), 0) else (zM, (chkP vs ms cs fs ts).1)
@[reducible] noncomputable def ctEnq : CT := { ps := [shM, .int .i64, .int .i64], pre := fun d => bndM d.1, res := fun d => ([], .tup [.agg [.sl (.int .i64) ((enqM d.1 d.2.1 d.2.2.1).1).1, .sl (.int .i64) ((enqM d.1 d.2.1 d.2.2.1).1).2.1, .sl (.sl (.int .i64)) ((enqM d.1 d.2.1 d.2.2.1).1).2.2.1, .sl (.int .i64) ((enqM d.1 d.2.1 d.2.2.1).1).2.2.2.1], .c (.v (.int .i64 ((enqM d.1 d.2.1 d.2.2.1).2)))]) }
@[reducible] noncomputable def cl18 : List (Nat × CT) := [(50, ctIns), (51, ctWts), (36, ctClO)]
@[reducible] def ann18 (vs : List Int) (os : List Int) (qs : List (List Int)) (sg : List Int) (c : Int) (id : Int) : Nat → Option (St → Ann) := fun _ => none
@[reducible] def il18 : List (Nat × IP) := []
@[reducible] def hl18 : List (Nat × Nat × CT) := []
@[reducible] noncomputable def ml18 : List (Nat × MK) := []
set_option maxRecDepth 100000 in
theorem f18_vc (vs : List Int) (os : List Int) (qs : List (List Int)) (sg : List Int) (c : Int) (id : Int) (hpre : ctEnq.pre ((vs, os, qs, sg, ()), c, id, ())) :
    bndM (vs, os, qs, sg, ()) ∧ br (!decide (insM (vs, os, qs, sg, ()) c (↑qs.length : Int) = (0 : Int))) (([] : List Go.Eng.Res) = [] ∧ Ent.tup [SV.agg [SC.sl I6 (enqM (vs, os, qs, sg, ()) c id).fst.fst, SC.sl I6 (enqM (vs, os, qs, sg, ()) c id).fst.snd.fst, SC.sl I6.sl (enqM (vs, os, qs, sg, ()) c id).fst.snd.snd.fst, SC.sl I6 (enqM (vs, os, qs, sg, ()) c id).fst.snd.snd.snd.fst], SV.c (SC.v (Value.int IntKind.i64 (enqM (vs, os, qs, sg, ()) c id).snd))] = Ent.tup [SV.agg [SC.sl I6 [], SC.sl I6 [], SC.sl I6.sl [], SC.sl I6 []], SV.c (SC.v (Value.int IntKind.i64 (insM (vs, os, qs, sg, ()) c (↑qs.length : Int))))]) (br (decide (id < (0 : Int))) (([] : List Go.Eng.Res) = [] ∧ Ent.tup [SV.agg [SC.sl I6 (enqM (vs, os, qs, sg, ()) c id).fst.fst, SC.sl I6 (enqM (vs, os, qs, sg, ()) c id).fst.snd.fst, SC.sl I6.sl (enqM (vs, os, qs, sg, ()) c id).fst.snd.snd.fst, SC.sl I6 (enqM (vs, os, qs, sg, ()) c id).fst.snd.snd.snd.fst], SV.c (SC.v (Value.int IntKind.i64 (enqM (vs, os, qs, sg, ()) c id).snd))] = Ent.tup [SV.agg [SC.sl I6 [], SC.sl I6 [], SC.sl I6.sl [], SC.sl I6 []], SV.c (SC.v (Value.int IntKind.i64 (2 : Int)))]) (bndM (vs, os, qs, sg, ()) ∧ br (waitsM (vs, os, qs, sg, ()) id) (([] : List Go.Eng.Res) = [] ∧ Ent.tup [SV.agg [SC.sl I6 (enqM (vs, os, qs, sg, ()) c id).fst.fst, SC.sl I6 (enqM (vs, os, qs, sg, ()) c id).fst.snd.fst, SC.sl I6.sl (enqM (vs, os, qs, sg, ()) c id).fst.snd.snd.fst, SC.sl I6 (enqM (vs, os, qs, sg, ()) c id).fst.snd.snd.snd.fst], SV.c (SC.v (Value.int IntKind.i64 (enqM (vs, os, qs, sg, ()) c id).snd))] = Ent.tup [SV.agg [SC.sl I6 [], SC.sl I6 [], SC.sl I6.sl [], SC.sl I6 []], SV.c (SC.v (Value.int IntKind.i64 (30 : Int)))]) (bndM (vs, os, qs, sg, ()) ∧ ((0 : Int) ≤ c ∧ c < (↑qs.length : Int)) ∧ c.toNat < qs.length ∧ ∀ (d : List I6.den), qs[c.toNat]? = some d → false = false ∧ (decide (c.toNat < qs.length) = true → ((decide (c.toNat < qs.length) = true ∧ c.toNat < qs.length) ∧ ∀ (d : List I6.den), qs[c.toNat]? = some d → InA (List.length (d) + List.length ([id])) (8 : Nat) ∧ ((0 : Int) ≤ c ∧ c < (↑qs.length : Int)) ∧ c.toNat < qs.length ∧ c.toNat = c.toNat ∧ ∀ (e0 : List I6.den), qs[c.toNat]? = some e0 → ([] : List Go.Eng.Res) = [] ∧ Ent.tup [SV.agg [SC.sl I6 (enqM (vs, os, qs, sg, ()) c id).fst.fst, SC.sl I6 (enqM (vs, os, qs, sg, ()) c id).fst.snd.fst, SC.sl I6.sl (enqM (vs, os, qs, sg, ()) c id).fst.snd.snd.fst, SC.sl I6 (enqM (vs, os, qs, sg, ()) c id).fst.snd.snd.snd.fst], SV.c (SC.v (Value.int IntKind.i64 (enqM (vs, os, qs, sg, ()) c id).snd))] = Ent.tup [SV.agg [SC.sl I6 vs, SC.sl I6 os, SC.sl I6.sl (qs.set c.toNat ((d ++ [id]))), SC.sl I6 sg], SV.c (SC.v (Value.int IntKind.i64 (0 : Int)))]) ∧ ((decide (c.toNat < qs.length) = true ∧ c.toNat < qs.length) ∧ ∀ (d : List I6.den), qs[c.toNat]? = some d → InA (List.length (d) + List.length ([id])) (8 : Nat) ∧ ((0 : Int) ≤ c ∧ c < (↑qs.length : Int)) ∧ c.toNat < qs.length ∧ c.toNat = c.toNat ∧ ∀ (e0 : List I6.den), qs[c.toNat]? = some e0 → ([] : List Go.Eng.Res) = [] ∧ Ent.tup [SV.agg [SC.sl I6 (enqM (vs, os, qs, sg, ()) c id).fst.fst, SC.sl I6 (enqM (vs, os, qs, sg, ()) c id).fst.snd.fst, SC.sl I6.sl (enqM (vs, os, qs, sg, ()) c id).fst.snd.snd.fst, SC.sl I6 (enqM (vs, os, qs, sg, ()) c id).fst.snd.snd.snd.fst], SV.c (SC.v (Value.int IntKind.i64 (enqM (vs, os, qs, sg, ()) c id).snd))] = Ent.tup [SV.agg [SC.sl I6 vs, SC.sl I6 os, SC.sl I6.sl (qs.set c.toNat ((d ++ [id]))), SC.sl I6 sg], SV.c (SC.v (Value.int IntKind.i64 (0 : Int)))]) ∧ (decide (c.toNat < qs.length) = true ∧ c.toNat < qs.length) ∧ ∀ (d : List I6.den), qs[c.toNat]? = some d → InA (List.length (d) + List.length ([id])) (8 : Nat) ∧ ((0 : Int) ≤ c ∧ c < (↑qs.length : Int)) ∧ c.toNat < qs.length ∧ c.toNat = c.toNat ∧ ∀ (e0 : List I6.den), qs[c.toNat]? = some e0 → ([] : List Go.Eng.Res) = [] ∧ Ent.tup [SV.agg [SC.sl I6 (enqM (vs, os, qs, sg, ()) c id).fst.fst, SC.sl I6 (enqM (vs, os, qs, sg, ()) c id).fst.snd.fst, SC.sl I6.sl (enqM (vs, os, qs, sg, ()) c id).fst.snd.snd.fst, SC.sl I6 (enqM (vs, os, qs, sg, ()) c id).fst.snd.snd.snd.fst], SV.c (SC.v (Value.int IntKind.i64 (enqM (vs, os, qs, sg, ()) c id).snd))] = Ent.tup [SV.agg [SC.sl I6 vs, SC.sl I6 os, SC.sl I6.sl (qs.set c.toNat ((d ++ [id]))), SC.sl I6 sg], SV.c (SC.v (Value.int IntKind.i64 (0 : Int)))]) ∧ (decide (c.toNat < qs.length) = false → False ∧ False ∧ False)))) := by
  unfold enqM
  have hb := hpre
  obtain ⟨b1, b2, b3, b4, b5, b6⟩ : vs.length ≤ 1000 ∧ os.length ≤ 1000 ∧ qs.length ≤ 1000 ∧ sg.length ≤ 1000 ∧ (∀ q ∈ qs, q.length ≤ 1000) ∧ qs.flatten.length ≤ 100000 := hpre
  refine ⟨hb, br_iff.2 ⟨fun h => ⟨rfl, ?_⟩, fun h => ?_⟩⟩
  · rw [if_neg (by simpa using h)]; rfl
  have h : insM (vs, os, qs, sg, ()) c qs.length = 0 := by simpa using h
  have hx := insM_zero.1 h
  rw [if_pos h]
  refine br_iff.2 ⟨fun g => ⟨rfl, ?_⟩, fun g => ⟨hb, br_iff.2 ⟨fun w => ⟨rfl, ?_⟩, fun w => ⟨hb, hx.2, by omega, fun d hd => ⟨rfl, ?_⟩⟩⟩⟩⟩
  · rw [if_pos (by simpa using g)]; rfl
  · rw [if_neg (by simpa using g), if_pos w]; rfl
  rw [if_neg (by simpa using g), if_neg (by simpa using w)]
  have hc : decide (c.toNat < qs.length) = true := by rw [decide_eq_true_eq]; omega
  have hl := b5 d (List.mem_of_getElem? hd)
  have e : (vs, os, qs, sg, ()).2.2.1[c.toNat]?.getD [] = d := by simp [hd]
  rw [e]
  have key : ∀ d' : List Int, qs[c.toNat]? = some d' → d' = d := fun d' h' => by rw [hd] at h'; cases h'; rfl
  have hI : InA (d.length + 1) 8 := InA_iff.2 (by omega)
  have hz : ¬ decide (c.toNat < qs.length) = false := by rw [hc]; simp
  refine ⟨fun _ => ?_, fun q => absurd q hz⟩
  have F : (decide (c.toNat < qs.length) = true ∧ c.toNat < qs.length) := ⟨hc, by omega⟩
  repeat' first | exact F | (refine And.intro ?_ ?_)
  all_goals
    intro d' h'
    cases key d' h'
    exact ⟨hI, hx.2, by omega, rfl, fun _ _ => ⟨rfl, rfl⟩⟩
set_option maxHeartbeats 2000000 in
set_option maxRecDepth 100000 in
theorem f18_met : Go.Eng.Met Tryd.prog cx0.gd 18 ctEnq :=
  (met_all (cx := cx0) (n := 42) (cl := cl18) (il := il18) (hl := hl18) (ml := ml18) (rc := [.data shM, .keep]) (lits := []) (suf := []) (by kernel_rfl) tis_ok ⟨f50_met, f51_met, f36_met, trivial⟩ trivial trivial trivial Tryd.func18 (by kernel_rfl) (by kernel_rfl) rfl (by kernel_rfl) (by kernel_rfl) (by simp) fun d hd => by
    obtain ⟨⟨vs, os, qs, sg, ⟨⟩⟩, c, id, ⟨⟩⟩ := d
    exact ex_of (ann18 vs os qs sg c id) (f18_vc vs os qs sg c id hd) (by kernel_rfl)).met
@[reducible] noncomputable def ctWks : CT := { ps := [shM, .int .i64, .int .i64], pre := fun d => bndM d.1 ∧ 0 ≤ d.2.2.1, res := fun d => ([], .tup [.agg [.sl (.int .i64) ((wkM d.1 d.2.1 d.2.2.1).1).1, .sl (.int .i64) ((wkM d.1 d.2.1 d.2.2.1).1).2.1, .sl (.sl (.int .i64)) ((wkM d.1 d.2.1 d.2.2.1).1).2.2.1, .sl (.int .i64) ((wkM d.1 d.2.1 d.2.2.1).1).2.2.2.1], .c (.v (.int .i64 ((wkM d.1 d.2.1 d.2.2.1).2.1))), .c (.v (.int .i64 ((wkM d.1 d.2.1 d.2.2.1).2.2)))]) }
@[reducible] noncomputable def cl52 : List (Nat × CT) := [(50, ctIns), (78, ctAdd), (60, ctCld), (36, ctClD)]
@[reducible] def ann52 (vs : List Int) (os : List Int) (qs : List (List Int)) (sg : List Int) (c : Int) (n : Int) : Nat → Option (St → Ann) := fun k => match k with
  | 7 => some fun s => .inv { α := Nat, can := [(5, .cell 6 3)], slots := fun k => [(41, .c (.v (.int .i64 k)))], res := fun k => [(5, .row 3 (.int .i64) (addsI sg ((slotL (.int .i64) s 39).take k)))], inv := fun k => k ≤ (slotL (.int .i64) s 39).length, meas := fun k => (slotL (.int .i64) s 39).length - k }
  | _ => none
@[reducible] def il52 : List (Nat × IP) := []
@[reducible] def hl52 : List (Nat × Nat × CT) := []
@[reducible] noncomputable def ml52 : List (Nat × MK) := []
set_option maxRecDepth 100000 in
theorem f52_vc (vs : List Int) (os : List Int) (qs : List (List Int)) (sg : List Int) (c : Int) (n : Int) (hpre : ctWks.pre ((vs, os, qs, sg, ()), c, n, ())) :
    bndM (vs, os, qs, sg, ()) ∧ br (!decide (insM (vs, os, qs, sg, ()) c (↑qs.length : Int) = (0 : Int))) (([] : List Go.Eng.Res) = [] ∧ Ent.tup [SV.agg [SC.sl I6 (wkM (vs, os, qs, sg, ()) c n).fst.fst, SC.sl I6 (wkM (vs, os, qs, sg, ()) c n).fst.snd.fst, SC.sl I6.sl (wkM (vs, os, qs, sg, ()) c n).fst.snd.snd.fst, SC.sl I6 (wkM (vs, os, qs, sg, ()) c n).fst.snd.snd.snd.fst], SV.c (SC.v (Value.int IntKind.i64 (wkM (vs, os, qs, sg, ()) c n).snd.fst)), SV.c (SC.v (Value.int IntKind.i64 (wkM (vs, os, qs, sg, ()) c n).snd.snd))] = Ent.tup [SV.agg [SC.sl I6 [], SC.sl I6 [], SC.sl I6.sl [], SC.sl I6 []], SV.c (SC.v (Value.int IntKind.i64 (0 : Int))), SV.c (SC.v (Value.int IntKind.i64 (insM (vs, os, qs, sg, ()) c (↑qs.length : Int))))]) (bndM (vs, os, qs, sg, ()) ∧ ((0 : Int) ≤ c ∧ c < (↑qs.length : Int)) ∧ c.toNat < qs.length ∧ ∀ (d : List I6.den), qs[c.toNat]? = some d → ((0 : Int) ≤ c ∧ c < (↑qs.length : Int)) ∧ c.toNat < qs.length ∧ ∀ (d_1 : List I6.den), qs[c.toNat]? = some d_1 → ((0 : Int) ≤ (0 : Int) ∧ (0 : Int) ≤ minI n (↑d.length : Int) ∧ minI n (↑d.length : Int) ≤ (↑d_1.length : Int)) ∧ (∃ x, x ≤ List.length (List.drop (0 : Nat) (List.take (minI n (↑d.length : Int)).toNat d_1)) ∧ (SV.c (SC.v (Value.int IntKind.i64 (0 : Int))) = SV.c (SC.v (Value.int IntKind.i64 (↑x : Int))) ∧ True) ∧ [(([] : Go.Eng.Gd), bM6 vs os qs sg), (([] : Go.Eng.Gd), zM6), (([] : Go.Eng.Gd), Res.row (3 : TypeId) I6 vs), (([] : Go.Eng.Gd), Res.row (3 : TypeId) I6 os), (([] : Go.Eng.Gd), Res.row (28 : TypeId) I6.sl qs), (([] : Go.Eng.Gd), Res.row (3 : TypeId) I6 sg), (([] : Go.Eng.Gd), Res.blk (31 : Nat) [SC.row (2 : Nat), SC.row (3 : Nat), SC.row (4 : Nat), SC.row (5 : Nat)])] = [(([] : Go.Eng.Gd), bM6 vs os qs sg), (([] : Go.Eng.Gd), zM6), (([] : Go.Eng.Gd), Res.row (3 : TypeId) I6 vs), (([] : Go.Eng.Gd), Res.row (3 : TypeId) I6 os), (([] : Go.Eng.Gd), Res.row (28 : TypeId) I6.sl qs), (([] : Go.Eng.Gd), Res.row (3 : TypeId) I6 (addsI sg (List.take x (List.drop (0 : Nat) (List.take (minI n (↑d.length : Int)).toNat d_1))))), (([] : Go.Eng.Gd), Res.blk (31 : Nat) [SC.row (2 : Nat), SC.row (3 : Nat), SC.row (4 : Nat), SC.row (5 : Nat)])]) ∧ ∀ (x : Nat), x ≤ List.length (List.drop (0 : Nat) (List.take (minI n (↑d.length : Int)).toNat d_1)) → br (decide ((↑x : Int) < (↑(List.drop (0 : Nat) (List.take (minI n (↑d.length : Int)).toNat d_1)).length : Int))) (((0 : Int) ≤ (↑x : Int) ∧ (↑x : Int) < (↑(List.drop (0 : Nat) (List.take (minI n (↑d.length : Int)).toNat d_1)).length : Int)) ∧ ∀ (d_2 : Int), (List.drop (0 : Nat) (List.take (minI n (↑d.length : Int)).toNat d_1))[(↑x : Int).toNat]? = some d_2 → (addsI sg (List.take x (List.drop (0 : Nat) (List.take (minI n (↑d.length : Int)).toNat d_1)))).length ≤ (999999 : Nat) ∧ InR IntKind.i64 ((↑x : Int) + (1 : Int)) ∧ ∃ x', x' ≤ List.length (List.drop (0 : Nat) (List.take (minI n (↑d.length : Int)).toNat d_1)) ∧ (SV.c (SC.v (Value.int IntKind.i64 ((↑x : Int) + (1 : Int)))) = SV.c (SC.v (Value.int IntKind.i64 (↑x' : Int))) ∧ True) ∧ [(([] : Go.Eng.Gd), bM6 vs os qs sg), (([] : Go.Eng.Gd), zM6), (([] : Go.Eng.Gd), Res.row (3 : TypeId) I6 vs), (([] : Go.Eng.Gd), Res.row (3 : TypeId) I6 os), (([] : Go.Eng.Gd), Res.row (28 : TypeId) I6.sl qs), (([] : Go.Eng.Gd), Res.row (3 : TypeId) I6 (makeI (addsI sg (List.take x (List.drop (0 : Nat) (List.take (minI n (↑d.length : Int)).toNat d_1))) ++ [d_2]))), (([] : Go.Eng.Gd), Res.blk (31 : Nat) [SC.row (2 : Nat), SC.row (3 : Nat), SC.row (4 : Nat), SC.row (5 : Nat)])] = [(([] : Go.Eng.Gd), bM6 vs os qs sg), (([] : Go.Eng.Gd), zM6), (([] : Go.Eng.Gd), Res.row (3 : TypeId) I6 vs), (([] : Go.Eng.Gd), Res.row (3 : TypeId) I6 os), (([] : Go.Eng.Gd), Res.row (28 : TypeId) I6.sl qs), (([] : Go.Eng.Gd), Res.row (3 : TypeId) I6 (addsI sg (List.take x' (List.drop (0 : Nat) (List.take (minI n (↑d.length : Int)).toNat d_1))))), (([] : Go.Eng.Gd), Res.blk (31 : Nat) [SC.row (2 : Nat), SC.row (3 : Nat), SC.row (4 : Nat), SC.row (5 : Nat)])] ∧ List.length (List.drop (0 : Nat) (List.take (minI n (↑d.length : Int)).toNat d_1)) - x' < List.length (List.drop (0 : Nat) (List.take (minI n (↑d.length : Int)).toNat d_1)) - x) (((0 : Int) ≤ c ∧ c < (↑qs.length : Int)) ∧ c.toNat < qs.length ∧ ∀ (d_2 : List I6.den), qs[c.toNat]? = some d_2 → ((0 : Int) ≤ minI n (↑d.length : Int) ∧ minI n (↑d.length : Int) ≤ (↑d_2.length : Int) ∧ (↑d_2.length : Int) ≤ (↑d_2.length : Int)) ∧ (List.drop (minI n (↑d.length : Int)).toNat (List.take (↑d_2.length : Int).toNat d_2)).length ≤ (1000000 : Nat) ∧ ((0 : Int) ≤ c ∧ c < (↑qs.length : Int)) ∧ c.toNat < qs.length ∧ ([] : List Go.Eng.Res) = [] ∧ Ent.tup [SV.agg [SC.sl I6 (wkM (vs, os, qs, sg, ()) c n).fst.fst, SC.sl I6 (wkM (vs, os, qs, sg, ()) c n).fst.snd.fst, SC.sl I6.sl (wkM (vs, os, qs, sg, ()) c n).fst.snd.snd.fst, SC.sl I6 (wkM (vs, os, qs, sg, ()) c n).fst.snd.snd.snd.fst], SV.c (SC.v (Value.int IntKind.i64 (wkM (vs, os, qs, sg, ()) c n).snd.fst)), SV.c (SC.v (Value.int IntKind.i64 (wkM (vs, os, qs, sg, ()) c n).snd.snd))] = Ent.tup [SV.agg [SC.sl I6 vs, SC.sl I6 os, SC.sl I6.sl (qs.set c.toNat (List.drop (minI n (↑d.length : Int)).toNat (List.take (↑d_2.length : Int).toNat d_2))), SC.sl I6 (addsI sg (List.take x (List.drop (0 : Nat) (List.take (minI n (↑d.length : Int)).toNat d_1))))], SV.c (SC.v (Value.int IntKind.i64 (minI n (↑d.length : Int)))), SV.c (SC.v (Value.int IntKind.i64 (0 : Int)))])) := by
  obtain ⟨hb, hn⟩ : bndM (vs, os, qs, sg, ()) ∧ 0 ≤ n := hpre
  unfold wkM
  obtain ⟨b1, b2, b3, b4, b5, b6⟩ : vs.length ≤ 1000 ∧ os.length ≤ 1000 ∧ qs.length ≤ 1000 ∧ sg.length ≤ 1000 ∧ (∀ q ∈ qs, q.length ≤ 1000) ∧ qs.flatten.length ≤ 100000 := id hb
  refine ⟨hb, br_iff.2 ⟨fun h => ⟨rfl, ?_⟩, fun h => ?_⟩⟩
  · rw [if_neg (by simpa using h)]; rfl
  have h : insM (vs, os, qs, sg, ()) c qs.length = 0 := by simpa using h
  have hx := insM_zero.1 h
  rw [if_pos h]
  refine ⟨hb, hx.2, by omega, fun d hd => ⟨hx.2, by omega, fun d1 hd1 => ?_⟩⟩
  rw [hd] at hd1; cases hd1
  have hl := b5 d (List.mem_of_getElem? hd)
  have e : (vs, os, qs, sg, ()).2.2.1[c.toNat]?.getD [] = d := by simp [hd]
  rw [e]
  have hm : 0 ≤ minI n (d.length : Int) ∧ minI n (d.length : Int) ≤ d.length := by unfold minI; split <;> omega
  generalize minI n (d.length : Int) = k at hm
  rw [List.drop_zero]
  have h2 : (d.take k.toNat).length ≤ 1000 := by rw [List.length_take]; omega
  refine ⟨⟨by omega, hm⟩, ⟨0, by omega, ⟨rfl, trivial⟩, rfl⟩, fun j hj => br_iff.2 ⟨fun g => ?_, fun g => ?_⟩⟩
  · simp only [decide_eq_true_eq] at g
    refine ⟨⟨by omega, by omega⟩, fun x hx2 => ⟨?_, InR_i64.2 (by omega), j + 1, by omega, ⟨rfl, trivial⟩, ?_, by omega⟩⟩
    · have := addsI_len ((d.take k.toNat).take j) sg
      rw [List.length_take] at this; omega
    · have hx2 : (d.take k.toNat)[j]? = some x := hx2
      rw [addsI_take hx2]
  simp only [decide_eq_false_iff_not] at g
  refine ⟨hx.2, by omega, fun d2 hd2 => ?_⟩
  rw [hd] at hd2; cases hd2
  have e2 : List.take (d.length : Int).toNat d = d := List.take_of_length_le (by omega)
  rw [e2]
  refine ⟨⟨by omega, by omega, by omega⟩, by rw [List.length_drop]; omega, hx.2, by omega, rfl, ?_⟩
  rw [List.take_of_length_le (i := j) (by omega)]
set_option maxHeartbeats 2000000 in
set_option maxRecDepth 100000 in
theorem f52_met : Go.Eng.Met Tryd.prog cx0.gd 52 ctWks :=
  (met_all (cx := cx0) (n := 65) (cl := cl52) (il := il52) (hl := hl52) (ml := ml52) (rc := [.data shM, .keep, .keep]) (lits := []) (suf := []) (by kernel_rfl) tis_ok ⟨f50_met, f78_met, f60_met, f36d_met, trivial⟩ trivial trivial trivial Tryd.func52 (by kernel_rfl) (by kernel_rfl) rfl (by kernel_rfl) (by kernel_rfl) (by simp) fun d hd => by
    obtain ⟨⟨vs, os, qs, sg, ⟨⟩⟩, c, n, ⟨⟩⟩ := d
    exact ex_of (ann52 vs os qs sg c n) (f52_vc vs os qs sg c n hd) (by kernel_rfl)).met
@[reducible] noncomputable def ctSig : CT := { ps := [shM, .int .i64], pre := fun d => bndM d.1, res := fun d => ([], .tup [.agg [.sl (.int .i64) ((wkM d.1 d.2.1 1).1).1, .sl (.int .i64) ((wkM d.1 d.2.1 1).1).2.1, .sl (.sl (.int .i64)) ((wkM d.1 d.2.1 1).1).2.2.1, .sl (.int .i64) ((wkM d.1 d.2.1 1).1).2.2.2.1], .c (.v (.int .i64 ((wkM d.1 d.2.1 1).2.1))), .c (.v (.int .i64 ((wkM d.1 d.2.1 1).2.2)))]) }
@[reducible] noncomputable def cl20 : List (Nat × CT) := [(52, ctWks)]
@[reducible] def ann20 (vs : List Int) (os : List Int) (qs : List (List Int)) (sg : List Int) (c : Int) : Nat → Option (St → Ann) := fun _ => none
@[reducible] def il20 : List (Nat × IP) := []
@[reducible] def hl20 : List (Nat × Nat × CT) := []
@[reducible] noncomputable def ml20 : List (Nat × MK) := []
set_option maxRecDepth 100000 in
theorem f20_vc (vs : List Int) (os : List Int) (qs : List (List Int)) (sg : List Int) (c : Int) (hpre : ctSig.pre ((vs, os, qs, sg, ()), c, ())) :
    (bndM (vs, os, qs, sg, ()) ∧ (0 : I6.den) ≤ (1 : Int)) ∧ ([] : List Go.Eng.Res) = [] ∧ Ent.tup [SV.agg [SC.sl I6 (wkM (vs, os, qs, sg, ()) c (1 : Int)).fst.fst, SC.sl I6 (wkM (vs, os, qs, sg, ()) c (1 : Int)).fst.snd.fst, SC.sl I6.sl (wkM (vs, os, qs, sg, ()) c (1 : Int)).fst.snd.snd.fst, SC.sl I6 (wkM (vs, os, qs, sg, ()) c (1 : Int)).fst.snd.snd.snd.fst], SV.c (SC.v (Value.int IntKind.i64 (wkM (vs, os, qs, sg, ()) c (1 : Int)).snd.fst)), SV.c (SC.v (Value.int IntKind.i64 (wkM (vs, os, qs, sg, ()) c (1 : Int)).snd.snd))] = Ent.tup [SV.agg [SC.sl I6 ((wkM (vs, os, qs, sg, ()) c (1 : Int)).fst.fst, (wkM (vs, os, qs, sg, ()) c (1 : Int)).fst.snd.fst, (wkM (vs, os, qs, sg, ()) c (1 : Int)).fst.snd.snd.fst, (wkM (vs, os, qs, sg, ()) c (1 : Int)).fst.snd.snd.snd.fst, ()).fst, SC.sl I6 ((wkM (vs, os, qs, sg, ()) c (1 : Int)).fst.snd.fst, (wkM (vs, os, qs, sg, ()) c (1 : Int)).fst.snd.snd.fst, (wkM (vs, os, qs, sg, ()) c (1 : Int)).fst.snd.snd.snd.fst, ()).fst, SC.sl I6.sl ((wkM (vs, os, qs, sg, ()) c (1 : Int)).fst.snd.snd.fst, (wkM (vs, os, qs, sg, ()) c (1 : Int)).fst.snd.snd.snd.fst, ()).fst, SC.sl I6 (wkM (vs, os, qs, sg, ()) c (1 : Int)).fst.snd.snd.snd.fst], SV.c (SC.v (Value.int IntKind.i64 (wkM (vs, os, qs, sg, ()) c (1 : Int)).snd.fst)), SV.c (SC.v (Value.int IntKind.i64 (wkM (vs, os, qs, sg, ()) c (1 : Int)).snd.snd))] := by
  exact ⟨⟨hpre, by decide⟩, rfl, rfl⟩
set_option maxHeartbeats 2000000 in
set_option maxRecDepth 100000 in
theorem f20_met : Go.Eng.Met Tryd.prog cx0.gd 20 ctSig :=
  (met_all (cx := cx0) (n := 13) (cl := cl20) (il := il20) (hl := hl20) (ml := ml20) (rc := [.data shM, .keep, .keep]) (lits := []) (suf := []) (by kernel_rfl) tis_ok ⟨f52_met, trivial⟩ trivial trivial trivial Tryd.func20 (by kernel_rfl) (by kernel_rfl) rfl (by kernel_rfl) (by kernel_rfl) (by simp) fun d hd => by
    obtain ⟨⟨vs, os, qs, sg, ⟨⟩⟩, c, ⟨⟩⟩ := d
    exact ex_of (ann20 vs os qs sg c) (f20_vc vs os qs sg c hd) (by kernel_rfl)).met
@[reducible] noncomputable def ctWke : CT := { ps := [shM, .int .i64], pre := fun d => bndM d.1, res := fun d => ([], .tup [.agg [.sl (.int .i64) ((wakeM d.1 d.2.1).1).1, .sl (.int .i64) ((wakeM d.1 d.2.1).1).2.1, .sl (.sl (.int .i64)) ((wakeM d.1 d.2.1).1).2.2.1, .sl (.int .i64) ((wakeM d.1 d.2.1).1).2.2.2.1], .c (.v (.int .i64 ((wakeM d.1 d.2.1).2)))]) }
@[reducible] noncomputable def cl24 : List (Nat × CT) := [(48, ctFm), (54, ctHas), (55, ctRem), (36, ctClD)]
@[reducible] def ann24 (vs : List Int) (os : List Int) (qs : List (List Int)) (sg : List Int) (id : Int) : Nat → Option (St → Ann) := fun _ => none
@[reducible] def il24 : List (Nat × IP) := []
@[reducible] def hl24 : List (Nat × Nat × CT) := []
@[reducible] noncomputable def ml24 : List (Nat × MK) := []
set_option maxRecDepth 100000 in
theorem f24_vc (vs : List Int) (os : List Int) (qs : List (List Int)) (sg : List Int) (id : Int) (hpre : ctWke.pre ((vs, os, qs, sg, ()), id, ())) :
    bndM (vs, os, qs, sg, ()) ∧ br (!formM (vs, os, qs, sg, ())) (([] : List Go.Eng.Res) = [] ∧ Ent.tup [SV.agg [SC.sl I6 (wakeM (vs, os, qs, sg, ()) id).fst.fst, SC.sl I6 (wakeM (vs, os, qs, sg, ()) id).fst.snd.fst, SC.sl I6.sl (wakeM (vs, os, qs, sg, ()) id).fst.snd.snd.fst, SC.sl I6 (wakeM (vs, os, qs, sg, ()) id).fst.snd.snd.snd.fst], SV.c (SC.v (Value.int IntKind.i64 (wakeM (vs, os, qs, sg, ()) id).snd))] = Ent.tup [SV.agg [SC.sl I6 [], SC.sl I6 [], SC.sl I6.sl [], SC.sl I6 []], SV.c (SC.v (Value.int IntKind.i64 (1 : Int)))]) (sg.length ≤ (1000000 : Nat) ∧ br (!hasI sg id) (([] : List Go.Eng.Res) = [] ∧ Ent.tup [SV.agg [SC.sl I6 (wakeM (vs, os, qs, sg, ()) id).fst.fst, SC.sl I6 (wakeM (vs, os, qs, sg, ()) id).fst.snd.fst, SC.sl I6.sl (wakeM (vs, os, qs, sg, ()) id).fst.snd.snd.fst, SC.sl I6 (wakeM (vs, os, qs, sg, ()) id).fst.snd.snd.snd.fst], SV.c (SC.v (Value.int IntKind.i64 (wakeM (vs, os, qs, sg, ()) id).snd))] = Ent.tup [SV.agg [SC.sl I6 [], SC.sl I6 [], SC.sl I6.sl [], SC.sl I6 []], SV.c (SC.v (Value.int IntKind.i64 (30 : Int)))]) (bndM (vs, os, qs, sg, ()) ∧ sg.length ≤ (1000000 : Nat) ∧ ([] : List Go.Eng.Res) = [] ∧ Ent.tup [SV.agg [SC.sl I6 (wakeM (vs, os, qs, sg, ()) id).fst.fst, SC.sl I6 (wakeM (vs, os, qs, sg, ()) id).fst.snd.fst, SC.sl I6.sl (wakeM (vs, os, qs, sg, ()) id).fst.snd.snd.fst, SC.sl I6 (wakeM (vs, os, qs, sg, ()) id).fst.snd.snd.snd.fst], SV.c (SC.v (Value.int IntKind.i64 (wakeM (vs, os, qs, sg, ()) id).snd))] = Ent.tup [SV.agg [SC.sl I6 vs, SC.sl I6 os, SC.sl I6.sl qs, SC.sl I6 (filI (makeI sg) [id] false)], SV.c (SC.v (Value.int IntKind.i64 (0 : Int)))])) := by
  have hb := hpre
  obtain ⟨b1, b2, b3, b4, b5, b6⟩ : vs.length ≤ 1000 ∧ os.length ≤ 1000 ∧ qs.length ≤ 1000 ∧ sg.length ≤ 1000 ∧ (∀ q ∈ qs, q.length ≤ 1000) ∧ qs.flatten.length ≤ 100000 := hpre
  unfold wakeM
  refine ⟨hb, br_iff.2 ⟨fun h => ⟨rfl, ?_⟩, fun h => ⟨by omega, br_iff.2 ⟨fun g => ⟨rfl, ?_⟩, fun g => ⟨hb, by omega, rfl, ?_⟩⟩⟩⟩⟩
  · rw [if_pos (by simpa using h)]; rfl
  · rw [if_neg (by simpa using h), if_pos (by simpa using g)]; rfl
  · rw [if_neg (by simpa using h), if_neg (by simpa using g)]
set_option maxHeartbeats 2000000 in
set_option maxRecDepth 100000 in
theorem f24_met : Go.Eng.Met Tryd.prog cx0.gd 24 ctWke :=
  (met_all (cx := cx0) (n := 25) (cl := cl24) (il := il24) (hl := hl24) (ml := ml24) (rc := [.data shM, .keep]) (lits := []) (suf := []) (by kernel_rfl) tis_ok ⟨f48_met, f54_met, f55_met, f36d_met, trivial⟩ trivial trivial trivial Tryd.func24 (by kernel_rfl) (by kernel_rfl) rfl (by kernel_rfl) (by kernel_rfl) (by simp) fun d hd => by
    obtain ⟨⟨vs, os, qs, sg, ⟨⟩⟩, id, ⟨⟩⟩ := d
    exact ex_of (ann24 vs os qs sg id) (f24_vc vs os qs sg id hd) (by kernel_rfl)).met
@[reducible] noncomputable def ctNew : CT := { ps := [shP], pre := fun d => bnd d, res := fun d => ([], .tup [.agg [.sl (.int .i64) ((newM d.1.1 d.1.2.1 d.1.2.2.1 d.1.2.2.2.1 d.1.2.2.2.2.1).1).1, .sl (.int .i64) ((newM d.1.1 d.1.2.1 d.1.2.2.1 d.1.2.2.2.1 d.1.2.2.2.2.1).1).2.1, .sl (.sl (.int .i64)) ((newM d.1.1 d.1.2.1 d.1.2.2.1 d.1.2.2.2.1 d.1.2.2.2.2.1).1).2.2.1, .sl (.int .i64) ((newM d.1.1 d.1.2.1 d.1.2.2.1 d.1.2.2.2.1 d.1.2.2.2.2.1).1).2.2.2.1], .c (.v (.int .i64 ((newM d.1.1 d.1.2.1 d.1.2.2.1 d.1.2.2.2.1 d.1.2.2.2.2.1).2)))]) }
@[reducible] noncomputable def cl13 : List (Nat × CT) := [(44, ctChk)]
@[reducible] def ann13 (vs : List VD) (ms : List ByteArray) (cs : List ByteArray) (fs : List FD) (ts : List SD) : Nat → Option (St → Ann) := fun k => match k with
  | 6 => some fun s => .inv { α := Nat, nilC := [(3, 0, 3, .int .i64)], slots := fun k => [(28, .c (.v (.int .i64 k)))], res := fun k => [(4, .row 3 (.int .i64) ((vs.take k).map (·.2.1)))], inv := fun k => k ≤ vs.length, meas := fun k => vs.length - k }
  | 11 => some fun s => .inv { α := Nat, nilC := [(3, 1, 3, .int .i64)], slots := fun k => [(43, .c (.v (.int .i64 k)))], res := fun k => [(5, .row 3 (.int .i64) (List.replicate k (-1)))], inv := fun k => k ≤ ms.length, meas := fun k => ms.length - k }
  | _ => none
@[reducible] def il13 : List (Nat × IP) := []
@[reducible] def hl13 : List (Nat × Nat × CT) := []
@[reducible] noncomputable def ml13 : List (Nat × MK) := []
set_option maxRecDepth 100000 in
theorem f13_vc (vs : List VD) (ms : List ByteArray) (cs : List ByteArray) (fs : List FD) (ts : List SD) (hpre : ctNew.pre ((vs, ms, cs, fs, ts, ()), ())) :
    (vs.length ≤ (1000000 : Nat) ∧ ms.length ≤ (1000000 : Nat) ∧ cs.length ≤ (1000000 : Nat) ∧ fs.length ≤ (1000000 : Nat) ∧ ts.length ≤ (1000000 : Nat) ∧ (∀ (x : Sh.str.den × (shI.sl.pair Sh.unit).den), x ∈ fs → List.length x.snd.fst ≤ (1000000 : Nat)) ∧ (instL fs).length ≤ (1000000 : Nat)) ∧ br (!decide ((chkP vs ms cs fs ts).fst = (0 : Int))) (([] : List Go.Eng.Res) = [] ∧ Ent.tup [SV.agg [SC.sl I6 (newM vs ms cs fs ts).fst.fst, SC.sl I6 (newM vs ms cs fs ts).fst.snd.fst, SC.sl I6.sl (newM vs ms cs fs ts).fst.snd.snd.fst, SC.sl I6 (newM vs ms cs fs ts).fst.snd.snd.snd.fst], SV.c (SC.v (Value.int IntKind.i64 (newM vs ms cs fs ts).snd))] = Ent.tup [SV.agg [SC.sl I6 [], SC.sl I6 [], SC.sl I6.sl [], SC.sl I6 []], SV.c (SC.v (Value.int IntKind.i64 (chkP vs ms cs fs ts).fst))]) (((0 : Int) ≤ (↑cs.length : Int) ∧ (↑cs.length : Int) ≤ (↑cs.length : Int) ∧ InA (↑cs.length : Int).toNat (24 : Nat)) ∧ (∃ x, x ≤ vs.length ∧ (SV.c (SC.v (Value.int IntKind.i64 (0 : Int))) = SV.c (SC.v (Value.int IntKind.i64 (↑x : Int))) ∧ True) ∧ [(([] : Go.Eng.Gd), Res.blk (27 : Nat) [SC.sl (Sh.str.pair (I6.pair Sh.unit)) vs, SC.sl Sh.str ms, SC.sl Sh.str cs, SC.sl (Sh.str.pair (shI.sl.pair Sh.unit)) fs, SC.sl (I6.pair (I6.pair Sh.unit)) ts]), (([] : Go.Eng.Gd), zM6), (([] : Go.Eng.Gd), Res.row (28 : TypeId) I6.sl (List.replicate (↑cs.length : Int).toNat [])), (([] : Go.Eng.Gd), Res.blk (31 : Nat) [SC.row (Nat.succ (0 : Nat)).succ.succ.succ, nS6, SC.row (Nat.succ (0 : Nat)).succ, nS6]), (([] : Go.Eng.Gd), Res.row (3 : TypeId) I6 [])] = [(([] : Go.Eng.Gd), Res.blk (27 : Nat) [SC.sl (Sh.str.pair (I6.pair Sh.unit)) vs, SC.sl Sh.str ms, SC.sl Sh.str cs, SC.sl (Sh.str.pair (shI.sl.pair Sh.unit)) fs, SC.sl (I6.pair (I6.pair Sh.unit)) ts]), (([] : Go.Eng.Gd), zM6), (([] : Go.Eng.Gd), Res.row (28 : TypeId) I6.sl (List.replicate (↑cs.length : Int).toNat [])), (([] : Go.Eng.Gd), Res.blk (31 : Nat) [SC.row (Nat.succ (0 : Nat)).succ.succ.succ, nS6, SC.row (Nat.succ (0 : Nat)).succ, nS6]), (([] : Go.Eng.Gd), Res.row (3 : TypeId) I6 (List.map (fun x => x.snd.fst) (List.take x vs)))]) ∧ ∀ (x : Nat), x ≤ vs.length → br (decide ((↑x : Int) < (↑vs.length : Int))) (((0 : Int) ≤ (↑x : Int) ∧ (↑x : Int) < (↑vs.length : Int)) ∧ ∀ (d : Sh.str.den × (I6.pair Sh.unit).den), vs[(↑x : Int).toNat]? = some d → InA (List.length (List.map (fun x => x.snd.fst) (List.take x vs)) + List.length ([d.snd.fst])) (8 : Nat) ∧ InR IntKind.i64 ((↑x : Int) + (1 : Int)) ∧ ∃ x', x' ≤ vs.length ∧ (SV.c (SC.v (Value.int IntKind.i64 ((↑x : Int) + (1 : Int)))) = SV.c (SC.v (Value.int IntKind.i64 (↑x' : Int))) ∧ True) ∧ [(([] : Go.Eng.Gd), Res.blk (27 : Nat) [SC.sl (Sh.str.pair (I6.pair Sh.unit)) vs, SC.sl Sh.str ms, SC.sl Sh.str cs, SC.sl (Sh.str.pair (shI.sl.pair Sh.unit)) fs, SC.sl (I6.pair (I6.pair Sh.unit)) ts]), (([] : Go.Eng.Gd), zM6), (([] : Go.Eng.Gd), Res.row (28 : TypeId) I6.sl (List.replicate (↑cs.length : Int).toNat [])), (([] : Go.Eng.Gd), Res.blk (31 : Nat) [SC.row (Nat.succ (0 : Nat)).succ.succ.succ, nS6, SC.row (Nat.succ (0 : Nat)).succ, nS6]), (([] : Go.Eng.Gd), Res.row (3 : TypeId) I6 (List.map (fun x => x.snd.fst) (List.take x vs) ++ [d.snd.fst]))] = [(([] : Go.Eng.Gd), Res.blk (27 : Nat) [SC.sl (Sh.str.pair (I6.pair Sh.unit)) vs, SC.sl Sh.str ms, SC.sl Sh.str cs, SC.sl (Sh.str.pair (shI.sl.pair Sh.unit)) fs, SC.sl (I6.pair (I6.pair Sh.unit)) ts]), (([] : Go.Eng.Gd), zM6), (([] : Go.Eng.Gd), Res.row (28 : TypeId) I6.sl (List.replicate (↑cs.length : Int).toNat [])), (([] : Go.Eng.Gd), Res.blk (31 : Nat) [SC.row (Nat.succ (0 : Nat)).succ.succ.succ, nS6, SC.row (Nat.succ (0 : Nat)).succ, nS6]), (([] : Go.Eng.Gd), Res.row (3 : TypeId) I6 (List.map (fun x => x.snd.fst) (List.take x' vs)))] ∧ vs.length - x' < vs.length - x) ((∃ x_1, x_1 ≤ ms.length ∧ (SV.c (SC.v (Value.int IntKind.i64 (0 : Int))) = SV.c (SC.v (Value.int IntKind.i64 (↑x_1 : Int))) ∧ True) ∧ [(([] : Go.Eng.Gd), Res.blk (27 : Nat) [SC.sl (Sh.str.pair (I6.pair Sh.unit)) vs, SC.sl Sh.str ms, SC.sl Sh.str cs, SC.sl (Sh.str.pair (shI.sl.pair Sh.unit)) fs, SC.sl (I6.pair (I6.pair Sh.unit)) ts]), (([] : Go.Eng.Gd), zM6), (([] : Go.Eng.Gd), Res.row (28 : TypeId) I6.sl (List.replicate (↑cs.length : Int).toNat [])), (([] : Go.Eng.Gd), Res.blk (31 : Nat) [SC.row (Nat.succ (0 : Nat)).succ.succ.succ, SC.row (Nat.succ (0 : Nat)).succ.succ.succ.succ, SC.row (Nat.succ (0 : Nat)).succ, nS6]), (([] : Go.Eng.Gd), Res.row (3 : TypeId) I6 (List.map (fun x => x.snd.fst) (List.take x vs))), (([] : Go.Eng.Gd), Res.row (3 : TypeId) I6 [])] = [(([] : Go.Eng.Gd), Res.blk (27 : Nat) [SC.sl (Sh.str.pair (I6.pair Sh.unit)) vs, SC.sl Sh.str ms, SC.sl Sh.str cs, SC.sl (Sh.str.pair (shI.sl.pair Sh.unit)) fs, SC.sl (I6.pair (I6.pair Sh.unit)) ts]), (([] : Go.Eng.Gd), zM6), (([] : Go.Eng.Gd), Res.row (28 : TypeId) I6.sl (List.replicate (↑cs.length : Int).toNat [])), (([] : Go.Eng.Gd), Res.blk (31 : Nat) [SC.row (Nat.succ (0 : Nat)).succ.succ.succ, SC.row (Nat.succ (0 : Nat)).succ.succ.succ.succ, SC.row (Nat.succ (0 : Nat)).succ, nS6]), (([] : Go.Eng.Gd), Res.row (3 : TypeId) I6 (List.map (fun x => x.snd.fst) (List.take x vs))), (([] : Go.Eng.Gd), Res.row (3 : TypeId) I6 (List.replicate x_1 (-1 : I6.den)))]) ∧ ∀ (x_1 : Nat), x_1 ≤ ms.length → br (decide ((↑x_1 : Int) < (↑ms.length : Int))) (InA (List.length (List.replicate x_1 (-1 : I6.den)) + (1 : Nat)) (8 : Nat) ∧ InR IntKind.i64 ((↑x_1 : Int) + (1 : Int)) ∧ ∃ x', x' ≤ ms.length ∧ (SV.c (SC.v (Value.int IntKind.i64 ((↑x_1 : Int) + (1 : Int)))) = SV.c (SC.v (Value.int IntKind.i64 (↑x' : Int))) ∧ True) ∧ [(([] : Go.Eng.Gd), Res.blk (27 : Nat) [SC.sl (Sh.str.pair (I6.pair Sh.unit)) vs, SC.sl Sh.str ms, SC.sl Sh.str cs, SC.sl (Sh.str.pair (shI.sl.pair Sh.unit)) fs, SC.sl (I6.pair (I6.pair Sh.unit)) ts]), (([] : Go.Eng.Gd), zM6), (([] : Go.Eng.Gd), Res.row (28 : TypeId) I6.sl (List.replicate (↑cs.length : Int).toNat [])), (([] : Go.Eng.Gd), Res.blk (31 : Nat) [SC.row (Nat.succ (0 : Nat)).succ.succ.succ, SC.row (Nat.succ (0 : Nat)).succ.succ.succ.succ, SC.row (Nat.succ (0 : Nat)).succ, nS6]), (([] : Go.Eng.Gd), Res.row (3 : TypeId) I6 (List.map (fun x => x.snd.fst) (List.take x vs))), (([] : Go.Eng.Gd), Res.row (3 : TypeId) I6 (List.replicate x_1 (-1 : I6.den) ++ [(-1 : Int)]))] = [(([] : Go.Eng.Gd), Res.blk (27 : Nat) [SC.sl (Sh.str.pair (I6.pair Sh.unit)) vs, SC.sl Sh.str ms, SC.sl Sh.str cs, SC.sl (Sh.str.pair (shI.sl.pair Sh.unit)) fs, SC.sl (I6.pair (I6.pair Sh.unit)) ts]), (([] : Go.Eng.Gd), zM6), (([] : Go.Eng.Gd), Res.row (28 : TypeId) I6.sl (List.replicate (↑cs.length : Int).toNat [])), (([] : Go.Eng.Gd), Res.blk (31 : Nat) [SC.row (Nat.succ (0 : Nat)).succ.succ.succ, SC.row (Nat.succ (0 : Nat)).succ.succ.succ.succ, SC.row (Nat.succ (0 : Nat)).succ, nS6]), (([] : Go.Eng.Gd), Res.row (3 : TypeId) I6 (List.map (fun x => x.snd.fst) (List.take x vs))), (([] : Go.Eng.Gd), Res.row (3 : TypeId) I6 (List.replicate x' (-1 : I6.den)))] ∧ ms.length - x' < ms.length - x_1) (([] : List Go.Eng.Res) = [] ∧ Ent.tup [SV.agg [SC.sl I6 (newM vs ms cs fs ts).fst.fst, SC.sl I6 (newM vs ms cs fs ts).fst.snd.fst, SC.sl I6.sl (newM vs ms cs fs ts).fst.snd.snd.fst, SC.sl I6 (newM vs ms cs fs ts).fst.snd.snd.snd.fst], SV.c (SC.v (Value.int IntKind.i64 (newM vs ms cs fs ts).snd))] = Ent.tup [SV.agg [SC.sl I6 (List.map (fun x => x.snd.fst) (List.take x vs)), SC.sl I6 (List.replicate x_1 (-1 : I6.den)), SC.sl I6.sl (List.replicate (↑cs.length : Int).toNat []), SC.sl I6 []], SV.c (SC.v (Value.int IntKind.i64 (0 : Int)))]))) := by
  have hb : vs.length ≤ 1000000 ∧ ms.length ≤ 1000000 ∧ cs.length ≤ 1000000 := ⟨hpre.1, hpre.2.1, hpre.2.2.1⟩
  obtain ⟨b1, b2, b3⟩ := hb
  unfold newM
  refine ⟨hpre, br_iff.2 ⟨fun h => ⟨rfl, ?_⟩, fun h => ?_⟩⟩
  · rw [if_neg (by simpa using h)]; rfl
  rw [if_pos (by simpa using h)]
  refine ⟨⟨by omega, by omega, InA_iff.2 (by omega)⟩, ⟨0, by omega, ⟨rfl, trivial⟩, rfl⟩, fun k hk => br_iff.2 ⟨fun g => ?_, fun g => ?_⟩⟩
  · simp only [decide_eq_true_eq] at g
    refine ⟨⟨by omega, by omega⟩, fun d hd => ⟨InA_iff.2 ?_, InR_i64.2 (by omega), k + 1, by omega, ⟨rfl, trivial⟩, ?_, by omega⟩⟩
    · simp only [List.length_map, List.length_take, List.length_cons, List.length_nil]; omega
    · have hd : vs[k]? = some d := hd
      have e : List.map (fun x : VD => x.snd.fst) (List.take (k + 1) vs) = List.map (fun x : VD => x.snd.fst) (List.take k vs) ++ [d.2.1] := by rw [List.take_add_one, hd]; simp
      rw [e]
  simp only [decide_eq_false_iff_not] at g
  rw [List.take_of_length_le (i := k) (by omega)]
  refine ⟨⟨0, by omega, ⟨rfl, trivial⟩, rfl⟩, fun j hj => br_iff.2 ⟨fun g2 => ?_, fun g2 => ?_⟩⟩
  · simp only [decide_eq_true_eq] at g2
    refine ⟨InA_iff.2 ?_, InR_i64.2 (by omega), j + 1, by omega, ⟨rfl, trivial⟩, ?_, by omega⟩
    · simp only [List.length_replicate]; omega
    · have e : List.replicate (j + 1) (-1 : Int) = List.replicate j (-1) ++ [-1] := List.replicate_succ'
      rw [show List.replicate (j + 1) (-1 : I6.den) = List.replicate j (-1) ++ [-1] from e]
  simp only [decide_eq_false_iff_not] at g2
  have ej : j = ms.length := by omega
  subst ej
  exact ⟨rfl, rfl⟩
set_option maxHeartbeats 2000000 in
set_option maxRecDepth 100000 in
theorem f13_met : Go.Eng.Met Tryd.prog cx0.gd 13 ctNew :=
  (met_all (cx := cx0) (n := 52) (cl := cl13) (il := il13) (hl := hl13) (ml := ml13) (rc := [.data shM, .keep]) (lits := []) (suf := []) (by kernel_rfl) tis_ok ⟨f44_met, trivial⟩ trivial trivial trivial Tryd.func13 (by kernel_rfl) (by kernel_rfl) rfl (by kernel_rfl) (by kernel_rfl) (by simp) fun d hd => by
    obtain ⟨⟨vs, ms, cs, fs, ts, ⟨⟩⟩, ⟨⟩⟩ := d
    exact ex_of (ann13 vs ms cs fs ts) (f13_vc vs ms cs fs ts hd) (by kernel_rfl)).met
end Go.Proofs.YtkgjfkdcnoockaaDoor
set_option linter.unusedSimpArgs false
set_option linter.unusedVariables false
set_option maxRecDepth 100000
namespace Go.Proofs.YtkgjfkdcnoockaaDoor
open Go Go.Eng

theorem ins_bad {m : MD} {i n : Int} (h : formM m = false) : insM m i n = 1 := by unfold insM; rw [if_pos h]
theorem ins_out {m : MD} {i n : Int} (h : formM m = true) (g : i < 0 ∨ n ≤ i) : insM m i n = 11 := by unfold insM; rw [if_neg (by simp [h]), if_pos g]
theorem ins_in {m : MD} {i n : Int} (h : formM m = true) (g : ¬ (i < 0 ∨ n ≤ i)) : insM m i n = 0 := by unfold insM; rw [if_neg (by simp [h]), if_neg g]
@[reducible] def cl37 : List (Nat × CT) := [(61, ctCop)]
@[reducible] def ann37 (vs : List Int) (os : List Int) (qs : List (List Int)) (sg : List Int) : Nat → Option (St → Ann) := fun k => match k with
  | 2 => some fun _ => .cut { α := Nat, pad := 4, can := [(2, .slot 3), (3, .cell 2 0), (4, .cell 2 1), (5, .cell 2 3)], slots := fun _ => [(3, .c (.own 2 0))], res := fun _ => [(2, .blk 31 [.row 3, .row 4, .v (.slice none 0 0), .row 5]), (3, .row 3 (.int .i64) (vs)), (4, .row 3 (.int .i64) (os)), (5, .row 3 (.int .i64) (sg))], inv := fun u => u = 0, meas := fun _ => 0 }
  | 3 => some fun _ => .inv { α := Nat, nilC := [(2, 2, 28, .sl (.int .i64))], slots := fun k => [(4, .c (.v (.int .i64 k)))], res := fun k => [(6, .row 28 (.sl (.int .i64)) (qs.take k))], inv := fun k => k ≤ qs.length, meas := fun k => qs.length - k }
  | _ => none
@[reducible] def il37 : List (Nat × IP) := []
@[reducible] def hl37 : List (Nat × Nat × CT) := []
@[reducible] def ml37 : List (Nat × MK) := []
set_option maxRecDepth 100000 in
theorem f37_vc (vs : List Int) (os : List Int) (qs : List (List Int)) (sg : List Int) (hpre : ctClD.pre ((vs, os, qs, sg, ()), ())) :
    ((vs.length ≤ (1000000 : Nat) ∧ (os.length ≤ (1000000 : Nat) ∧ (sg.length ≤ (1000000 : Nat) ∧ (∃ v, v = (0 : Nat) ∧ (SV.c (SC.own (2 : Nat) (0 : Nat)) = SV.c (SC.own (2 : Nat) (0 : Nat)) ∧ True) ∧ [(([] : Go.Eng.Gd), bM6 vs os qs sg), (([] : Go.Eng.Gd), zM6), (([] : Go.Eng.Gd), Res.blk (31 : Nat) [SC.row (3 : Nat), SC.row (4 : Nat), nS6, SC.row (5 : Nat)]), (([] : Go.Eng.Gd), Res.row (3 : TypeId) I6 vs), (([] : Go.Eng.Gd), Res.row (3 : TypeId) I6 os), (([] : Go.Eng.Gd), Res.row (3 : TypeId) I6 sg)] = [(([] : Go.Eng.Gd), bM6 vs os qs sg), (([] : Go.Eng.Gd), zM6), (([] : Go.Eng.Gd), Res.blk (31 : TypeId) [SC.row (3 : Nat), SC.row (4 : Nat), nS6, SC.row (5 : Nat)]), (([] : Go.Eng.Gd), Res.row (3 : TypeId) I6 vs), (([] : Go.Eng.Gd), Res.row (3 : TypeId) I6 os), (([] : Go.Eng.Gd), Res.row (3 : TypeId) I6 sg)]) ∧ ∃ v, v = (0 : Nat) ∧ (SV.c (SC.own (2 : Nat) (0 : Nat)) = SV.c (SC.own (2 : Nat) (0 : Nat)) ∧ True) ∧ [(([] : Go.Eng.Gd), bM6 vs os qs sg), (([] : Go.Eng.Gd), zM6), (([] : Go.Eng.Gd), Res.blk (31 : Nat) [SC.row (3 : Nat), SC.row (4 : Nat), nS6, SC.row (5 : Nat)]), (([] : Go.Eng.Gd), Res.row (3 : TypeId) I6 vs), (([] : Go.Eng.Gd), Res.row (3 : TypeId) I6 os), (([] : Go.Eng.Gd), Res.row (3 : TypeId) I6 sg)] = [(([] : Go.Eng.Gd), bM6 vs os qs sg), (([] : Go.Eng.Gd), zM6), (([] : Go.Eng.Gd), Res.blk (31 : TypeId) [SC.row (3 : Nat), SC.row (4 : Nat), nS6, SC.row (5 : Nat)]), (([] : Go.Eng.Gd), Res.row (3 : TypeId) I6 vs), (([] : Go.Eng.Gd), Res.row (3 : TypeId) I6 os), (([] : Go.Eng.Gd), Res.row (3 : TypeId) I6 sg)]) ∧ sg.length ≤ (1000000 : Nat) ∧ ∃ v, v = (0 : Nat) ∧ (SV.c (SC.own (2 : Nat) (0 : Nat)) = SV.c (SC.own (2 : Nat) (0 : Nat)) ∧ True) ∧ [(([] : Go.Eng.Gd), bM6 vs os qs sg), (([] : Go.Eng.Gd), zM6), (([] : Go.Eng.Gd), Res.blk (31 : Nat) [SC.row (3 : Nat), SC.row (4 : Nat), nS6, SC.row (5 : Nat)]), (([] : Go.Eng.Gd), Res.row (3 : TypeId) I6 vs), (([] : Go.Eng.Gd), Res.row (3 : TypeId) I6 os), (([] : Go.Eng.Gd), Res.row (3 : TypeId) I6 sg)] = [(([] : Go.Eng.Gd), bM6 vs os qs sg), (([] : Go.Eng.Gd), zM6), (([] : Go.Eng.Gd), Res.blk (31 : TypeId) [SC.row (3 : Nat), SC.row (4 : Nat), nS6, SC.row (5 : Nat)]), (([] : Go.Eng.Gd), Res.row (3 : TypeId) I6 vs), (([] : Go.Eng.Gd), Res.row (3 : TypeId) I6 os), (([] : Go.Eng.Gd), Res.row (3 : TypeId) I6 sg)]) ∧ os.length ≤ (1000000 : Nat) ∧ sg.length ≤ (1000000 : Nat) ∧ ∃ v, v = (0 : Nat) ∧ (SV.c (SC.own (2 : Nat) (0 : Nat)) = SV.c (SC.own (2 : Nat) (0 : Nat)) ∧ True) ∧ [(([] : Go.Eng.Gd), bM6 vs os qs sg), (([] : Go.Eng.Gd), zM6), (([] : Go.Eng.Gd), Res.blk (31 : Nat) [SC.row (3 : Nat), SC.row (4 : Nat), nS6, SC.row (5 : Nat)]), (([] : Go.Eng.Gd), Res.row (3 : TypeId) I6 vs), (([] : Go.Eng.Gd), Res.row (3 : TypeId) I6 os), (([] : Go.Eng.Gd), Res.row (3 : TypeId) I6 sg)] = [(([] : Go.Eng.Gd), bM6 vs os qs sg), (([] : Go.Eng.Gd), zM6), (([] : Go.Eng.Gd), Res.blk (31 : TypeId) [SC.row (3 : Nat), SC.row (4 : Nat), nS6, SC.row (5 : Nat)]), (([] : Go.Eng.Gd), Res.row (3 : TypeId) I6 vs), (([] : Go.Eng.Gd), Res.row (3 : TypeId) I6 os), (([] : Go.Eng.Gd), Res.row (3 : TypeId) I6 sg)]) ∧ vs.length ≤ (1000000 : Nat) ∧ os.length ≤ (1000000 : Nat) ∧ sg.length ≤ (1000000 : Nat) ∧ ∃ v, v = (0 : Nat) ∧ (SV.c (SC.own (2 : Nat) (0 : Nat)) = SV.c (SC.own (2 : Nat) (0 : Nat)) ∧ True) ∧ [(([] : Go.Eng.Gd), bM6 vs os qs sg), (([] : Go.Eng.Gd), zM6), (([] : Go.Eng.Gd), Res.blk (31 : Nat) [SC.row (3 : Nat), SC.row (4 : Nat), nS6, SC.row (5 : Nat)]), (([] : Go.Eng.Gd), Res.row (3 : TypeId) I6 vs), (([] : Go.Eng.Gd), Res.row (3 : TypeId) I6 os), (([] : Go.Eng.Gd), Res.row (3 : TypeId) I6 sg)] = [(([] : Go.Eng.Gd), bM6 vs os qs sg), (([] : Go.Eng.Gd), zM6), (([] : Go.Eng.Gd), Res.blk (31 : TypeId) [SC.row (3 : Nat), SC.row (4 : Nat), nS6, SC.row (5 : Nat)]), (([] : Go.Eng.Gd), Res.row (3 : TypeId) I6 vs), (([] : Go.Eng.Gd), Res.row (3 : TypeId) I6 os), (([] : Go.Eng.Gd), Res.row (3 : TypeId) I6 sg)]) ∧ ∀ (v : Nat), v = (0 : Nat) → (∃ x, x ≤ qs.length ∧ (SV.c (SC.v (Value.int IntKind.i64 (0 : Int))) = SV.c (SC.v (Value.int IntKind.i64 (↑x : Int))) ∧ True) ∧ [(([] : Go.Eng.Gd), bM6 vs os qs sg), (([] : Go.Eng.Gd), zM6), (([] : Go.Eng.Gd), Res.blk (31 : TypeId) [SC.row (3 : Nat), SC.row (4 : Nat), SC.row (Nat.succ (0 : Nat)).succ.succ.succ.succ.succ, SC.row (5 : Nat)]), (([] : Go.Eng.Gd), Res.row (3 : TypeId) I6 vs), (([] : Go.Eng.Gd), Res.row (3 : TypeId) I6 os), (([] : Go.Eng.Gd), Res.row (3 : TypeId) I6 sg), (([] : Go.Eng.Gd), Res.row (28 : TypeId) I6.sl [])] = [(([] : Go.Eng.Gd), bM6 vs os qs sg), (([] : Go.Eng.Gd), zM6), (([] : Go.Eng.Gd), Res.blk (31 : TypeId) [SC.row (3 : Nat), SC.row (4 : Nat), SC.row (Nat.succ (0 : Nat)).succ.succ.succ.succ.succ, SC.row (5 : Nat)]), (([] : Go.Eng.Gd), Res.row (3 : TypeId) I6 vs), (([] : Go.Eng.Gd), Res.row (3 : TypeId) I6 os), (([] : Go.Eng.Gd), Res.row (3 : TypeId) I6 sg), (([] : Go.Eng.Gd), Res.row (28 : TypeId) I6.sl (List.take x qs))]) ∧ ∀ (x : Nat), x ≤ qs.length → br (decide ((↑x : Int) < (↑qs.length : Int))) (((0 : Int) ≤ (↑x : Int) ∧ (↑x : Int) < (↑qs.length : Int)) ∧ ∀ (d : List I6.den), qs[(↑x : Int).toNat]? = some d → d.length ≤ (1000000 : Nat) ∧ InA (List.length (List.take x qs) + List.length ([d])) (24 : Nat) ∧ InR IntKind.i64 ((↑x : Int) + (1 : Int)) ∧ ∃ x', x' ≤ qs.length ∧ (SV.c (SC.v (Value.int IntKind.i64 ((↑x : Int) + (1 : Int)))) = SV.c (SC.v (Value.int IntKind.i64 (↑x' : Int))) ∧ True) ∧ [(([] : Go.Eng.Gd), bM6 vs os qs sg), (([] : Go.Eng.Gd), zM6), (([] : Go.Eng.Gd), Res.blk (31 : TypeId) [SC.row (3 : Nat), SC.row (4 : Nat), SC.row (Nat.succ (0 : Nat)).succ.succ.succ.succ.succ, SC.row (5 : Nat)]), (([] : Go.Eng.Gd), Res.row (3 : TypeId) I6 vs), (([] : Go.Eng.Gd), Res.row (3 : TypeId) I6 os), (([] : Go.Eng.Gd), Res.row (3 : TypeId) I6 sg), (([] : Go.Eng.Gd), Res.row (28 : TypeId) I6.sl (List.take x qs ++ [d]))] = [(([] : Go.Eng.Gd), bM6 vs os qs sg), (([] : Go.Eng.Gd), zM6), (([] : Go.Eng.Gd), Res.blk (31 : TypeId) [SC.row (3 : Nat), SC.row (4 : Nat), SC.row (Nat.succ (0 : Nat)).succ.succ.succ.succ.succ, SC.row (5 : Nat)]), (([] : Go.Eng.Gd), Res.row (3 : TypeId) I6 vs), (([] : Go.Eng.Gd), Res.row (3 : TypeId) I6 os), (([] : Go.Eng.Gd), Res.row (3 : TypeId) I6 sg), (([] : Go.Eng.Gd), Res.row (28 : TypeId) I6.sl (List.take x' qs))] ∧ qs.length - x' < qs.length - x) ([Res.row (3 : TypeId) I6 vs, Res.row (3 : TypeId) I6 os, Res.row (28 : TypeId) I6.sl qs, Res.row (3 : TypeId) I6 sg] = [Res.row (3 : TypeId) I6 vs, Res.row (3 : TypeId) I6 os, Res.row (28 : TypeId) I6.sl (List.take x qs), Res.row (3 : TypeId) I6 sg] ∧ Ent.one (SV.agg [SC.row (0 : Nat), SC.row (1 : Nat), SC.row (2 : Nat), SC.row (3 : Nat)]) = Ent.one (SV.agg [SC.row (0 : Nat), SC.row (Nat.succ (0 : Nat)), SC.row (Nat.succ (0 : Nat)).succ, SC.row (Nat.succ (0 : Nat)).succ.succ])) := by
  obtain ⟨b1, b2, b3, b4, b5, b6⟩ : vs.length ≤ 1000 ∧ os.length ≤ 1000 ∧ qs.length ≤ 1000 ∧ sg.length ≤ 1000 ∧ (∀ q ∈ qs, q.length ≤ 1000) ∧ qs.flatten.length ≤ 100000 := hpre
  refine ⟨?_, fun u hu => ⟨⟨0, by omega, ⟨rfl, trivial⟩, rfl⟩, fun k hk => br_iff.2 ⟨fun g => ?_, fun g => ?_⟩⟩⟩
  · repeat' first | exact ⟨0, rfl, ⟨rfl, trivial⟩, rfl⟩ | (refine And.intro ?_ ?_) | omega
  · simp only [decide_eq_true_eq] at g
    refine ⟨⟨by omega, by omega⟩, fun d hd => ⟨?_, InA_iff.2 ?_, InR_i64.2 (by omega), k + 1, by omega, ⟨rfl, trivial⟩, ?_, by omega⟩⟩
    · have := b5 d (List.mem_of_getElem? hd); omega
    · simp only [List.length_take, List.length_cons, List.length_nil]; omega
    · have hd : qs[k]? = some d := hd
      have e : qs.take (k + 1) = qs.take k ++ [d] := by rw [List.take_add_one, hd]; simp
      rw [e]
  simp only [decide_eq_false_iff_not] at g
  rw [List.take_of_length_le (i := k) (by omega)]
  exact ⟨rfl, rfl⟩
set_option maxHeartbeats 2000000 in
set_option maxRecDepth 100000 in
theorem f37_met : Go.Eng.Met Tryd.prog cx0.gd 37 ctClD :=
  (met_all (cx := cx0) (n := 34) (cl := cl37) (il := il37) (hl := hl37) (ml := ml37) (rc := []) (lits := []) (suf := []) (by kernel_rfl) tis_ok ⟨f61_met, trivial⟩ trivial trivial trivial Tryd.func37 (by kernel_rfl) (by kernel_rfl) rfl (by kernel_rfl) (by kernel_rfl) (by simp) fun d hd => by
    obtain ⟨⟨vs, os, qs, sg, ⟨⟩⟩, ⟨⟩⟩ := d
    exact ex_of (ann37 vs os qs sg) (f37_vc vs os qs sg hd) (by kernel_rfl)).met
end Go.Proofs.YtkgjfkdcnoockaaDoor
