/- The Program chapter, part 7: the example. -/
import Derived.Test.YtiikkjlghfhgcaaDoorPV6
set_option linter.unusedSimpArgs false
set_option linter.unusedVariables false
set_option maxRecDepth 100000
namespace Go.Proofs.YtiikkjlghfhgcaaDoor
open Go Go.Eng

theorem ex_of {α : Type 1} {Q : α → Prop} {V : Prop} (a : α) (v : V) (h : V = Q a) : ∃ a, Q a := ⟨a, cast h v⟩
def exD (t : Int) : PD := ([], [], [], [(⟨#[102]⟩, [(21, 1, 0, 0, 1, 0, 0, 0, ())], ()), (⟨#[103]⟩, [(7, 0, 0, 0, 0, 0, 0, 0, ()), (4, 0, 0, 0, 0, t, 0, 0, ())], ())], [(0, 0, ())], ())
@[reducible] def ctEx : CT := { ps := [.int .i64], pre := fun d => True, res := fun d => ([], .one (ofDat shP (exD d.1))) }
@[reducible] def cl31 : List (Nat × CT) := []
@[reducible] def ann31 (t : Int) : Nat → Option (St → Ann) := fun _ => none
@[reducible] def il31 : List (Nat × IP) := []
@[reducible] def hl31 : List (Nat × Nat × CT) := []
@[reducible] def ml31 : List (Nat × MK) := []
set_option maxRecDepth 100000 in
theorem f31_vc (t : Int) :
    ([] : List Go.Eng.Res) = [] ∧ Ent.one (SV.agg [SC.sl (Sh.str.pair ((Sh.int IntKind.i64).pair Sh.unit)) [], SC.sl Sh.str [], SC.sl Sh.str [], SC.sl (Sh.str.pair (((Sh.int IntKind.i64).pair ((Sh.int IntKind.i64).pair ((Sh.int IntKind.i64).pair ((Sh.int IntKind.i64).pair ((Sh.int IntKind.i64).pair ((Sh.int IntKind.i64).pair ((Sh.int IntKind.i64).pair ((Sh.int IntKind.i64).pair Sh.unit)))))))).sl.pair Sh.unit)) [({ data := #[(102 : UInt8)] : ByteArray }, [((21 : Int), (1 : Int), (0 : Int), (0 : Int), (1 : Int), (0 : Int), (0 : Int), (0 : Int), ())], ()), ({ data := #[(103 : UInt8)] : ByteArray }, [((7 : Int), (0 : Int), (0 : Int), (0 : Int), (0 : Int), (0 : Int), (0 : Int), (0 : Int), ()), ((4 : Int), (0 : Int), (0 : Int), (0 : Int), (0 : Int), t, (0 : Int), (0 : Int), ())], ())], SC.sl ((Sh.int IntKind.i64).pair ((Sh.int IntKind.i64).pair Sh.unit)) [((0 : Int), (0 : Int), ())]]) = Ent.one (SV.agg [SC.sl (Sh.str.pair ((Sh.int IntKind.i64).pair Sh.unit)) [], SC.sl Sh.str [], SC.sl Sh.str [], SC.sl (Sh.str.pair (((Sh.int IntKind.i64).pair ((Sh.int IntKind.i64).pair ((Sh.int IntKind.i64).pair ((Sh.int IntKind.i64).pair ((Sh.int IntKind.i64).pair ((Sh.int IntKind.i64).pair ((Sh.int IntKind.i64).pair ((Sh.int IntKind.i64).pair Sh.unit)))))))).sl.pair Sh.unit)) [({ data := #[(102 : UInt8)] : ByteArray }, [((21 : Int), (1 : Int), (0 : Int), (0 : Int), (1 : Int), (0 : Int), (0 : Int), (0 : Int), ())], ()), ({ data := #[(103 : UInt8)] : ByteArray }, [((7 : Int), (0 : Int), (0 : Int), (0 : Int), (0 : Int), (0 : Int), (0 : Int), (0 : Int), ()), ((4 : Int), (0 : Int), (0 : Int), (0 : Int), (0 : Int), t, (0 : Int), (0 : Int), ())], ())], SC.sl ((Sh.int IntKind.i64).pair ((Sh.int IntKind.i64).pair Sh.unit)) [((0 : Int), (0 : Int), ())]]) := by
  exact ⟨rfl, rfl⟩
set_option maxHeartbeats 2000000 in
set_option maxRecDepth 100000 in
theorem f31_met : Go.Eng.Met Tryd.prog cx0.gd 31 ctEx :=
  (met_all (cx := cx0) (n := 19) (cl := cl31) (il := il31) (hl := hl31) (ml := ml31) (rc := [.data shP]) (lits := []) (suf := []) (by kernel_rfl) tis_ok trivial trivial trivial trivial Tryd.func31 (by kernel_rfl) (by kernel_rfl) rfl (by kernel_rfl) (by kernel_rfl) (by simp) fun d hd => by
    obtain ⟨t, ⟨⟩⟩ := d
    exact ex_of (ann31 t) (f31_vc t) (by kernel_rfl)).met
theorem reach_ex : reachF 3 [(⟨#[102]⟩, [(21, 1, 0, 0, 1, 0, 0, 0, ())], ()), (⟨#[103]⟩, [(7, 0, 0, 0, 0, 0, 0, 0, ()), (4, 0, 0, 0, 0, 2, 0, 0, ())], ())] (initR [(0, 0, ())]) = [0, 1] := by decide
@[reducible] def ctLiv : CT := { ps := [], pre := fun _ => True, res := fun _ => ([], vB true) }
@[reducible] noncomputable def cl10 : List (Nat × CT) := [(31, ctEx), (17, ctRch), (11, ctChk), (13, ctVld), (23, ctVN), (28, ctSize), (15, ctCfg)]
@[reducible] def ann10  : Nat → Option (St → Ann) := fun _ => none
set_option maxRecDepth 100000 in
theorem f10_vc  :
    True ∧ ((0 : Nat) ≤ (1000000 : Nat) ∧ (0 : Nat) ≤ (1000000 : Nat) ∧ (0 : Nat) ≤ (1000000 : Nat) ∧ (2 : Nat) ≤ (1000000 : Nat) ∧ (1 : Nat) ≤ (1000000 : Nat) ∧ (∀ (x : Sh.str.den × (((Sh.int IntKind.i64).pair ((Sh.int IntKind.i64).pair ((Sh.int IntKind.i64).pair ((Sh.int IntKind.i64).pair ((Sh.int IntKind.i64).pair ((Sh.int IntKind.i64).pair ((Sh.int IntKind.i64).pair ((Sh.int IntKind.i64).pair Sh.unit)))))))).sl.pair Sh.unit).den), x ∈ [({ data := #[(102 : UInt8)] : ByteArray }, [((21 : Int), (1 : Int), (0 : Int), (0 : Int), (1 : Int), (0 : Int), (0 : Int), (0 : Int), ())], ()), ({ data := #[(103 : UInt8)] : ByteArray }, [((7 : Int), (0 : Int), (0 : Int), (0 : Int), (0 : Int), (0 : Int), (0 : Int), (0 : Int), ()), ((4 : Int), (0 : Int), (0 : Int), (0 : Int), (0 : Int), (2 : Int), (0 : Int), (0 : Int), ())], ())] → List.length x.snd.fst ≤ (1000000 : Nat)) ∧ (3 : Nat) ≤ (1000000 : Nat)) ∧ True ∧ ((0 : Nat) ≤ (1000000 : Nat) ∧ (0 : Nat) ≤ (1000000 : Nat) ∧ (0 : Nat) ≤ (1000000 : Nat) ∧ (2 : Nat) ≤ (1000000 : Nat) ∧ (1 : Nat) ≤ (1000000 : Nat) ∧ (∀ (x : Sh.str.den × (((Sh.int IntKind.i64).pair ((Sh.int IntKind.i64).pair ((Sh.int IntKind.i64).pair ((Sh.int IntKind.i64).pair ((Sh.int IntKind.i64).pair ((Sh.int IntKind.i64).pair ((Sh.int IntKind.i64).pair ((Sh.int IntKind.i64).pair Sh.unit)))))))).sl.pair Sh.unit).den), x ∈ [({ data := #[(102 : UInt8)] : ByteArray }, [((21 : Int), (1 : Int), (0 : Int), (0 : Int), (1 : Int), (0 : Int), (0 : Int), (0 : Int), ())], ()), ({ data := #[(103 : UInt8)] : ByteArray }, [((7 : Int), (0 : Int), (0 : Int), (0 : Int), (0 : Int), (0 : Int), (0 : Int), (0 : Int), ()), ((4 : Int), (0 : Int), (0 : Int), (0 : Int), (0 : Int), (3 : Int), (0 : Int), (0 : Int), ())], ())] → List.length x.snd.fst ≤ (1000000 : Nat)) ∧ (3 : Nat) ≤ (1000000 : Nat)) ∧ (true = true → (0 : Int) ≤ (0 : Int) ∧ (0 : Int) < (2 : Int)) ∧ ∀ (d : Int), (true = true → (reachF (3 : Nat) [({ data := #[(102 : UInt8)] : ByteArray }, [((21 : Int), (1 : Int), (0 : Int), (0 : Int), (1 : Int), (0 : Int), (0 : Int), (0 : Int), ())], ()), ({ data := #[(103 : UInt8)] : ByteArray }, [((7 : Int), (0 : Int), (0 : Int), (0 : Int), (0 : Int), (0 : Int), (0 : Int), (0 : Int), ()), ((4 : Int), (0 : Int), (0 : Int), (0 : Int), (0 : Int), (2 : Int), (0 : Int), (0 : Int), ())], ())] (initR [((0 : Int), (0 : Int), ())]))[(0 : Nat)]? = some d) → ((true && decide (d = (0 : Int))) = true → (0 : Int) ≤ (1 : Int) ∧ (1 : Int) < (2 : Int)) ∧ ∀ (d_1 : Int), ((true && decide (d = (0 : Int))) = true → (reachF (3 : Nat) [({ data := #[(102 : UInt8)] : ByteArray }, [((21 : Int), (1 : Int), (0 : Int), (0 : Int), (1 : Int), (0 : Int), (0 : Int), (0 : Int), ())], ()), ({ data := #[(103 : UInt8)] : ByteArray }, [((7 : Int), (0 : Int), (0 : Int), (0 : Int), (0 : Int), (0 : Int), (0 : Int), (0 : Int), ()), ((4 : Int), (0 : Int), (0 : Int), (0 : Int), (0 : Int), (2 : Int), (0 : Int), (0 : Int), ())], ())] (initR [((0 : Int), (0 : Int), ())]))[(1 : Nat)]? = some d_1) → ((true && decide (d = (0 : Int)) && decide (d_1 = (1 : Int)) && true && true && true) = true → True) ∧ ((true && decide (d = (0 : Int)) && decide (d_1 = (1 : Int)) && true && true && true) = true → (0 : Nat) ≤ (1000000 : Nat) ∧ (0 : Nat) ≤ (1000000 : Nat) ∧ (0 : Nat) ≤ (1000000 : Nat) ∧ (2 : Nat) ≤ (1000000 : Nat) ∧ (1 : Nat) ≤ (1000000 : Nat) ∧ (∀ (x : Sh.str.den × (((Sh.int IntKind.i64).pair ((Sh.int IntKind.i64).pair ((Sh.int IntKind.i64).pair ((Sh.int IntKind.i64).pair ((Sh.int IntKind.i64).pair ((Sh.int IntKind.i64).pair ((Sh.int IntKind.i64).pair ((Sh.int IntKind.i64).pair Sh.unit)))))))).sl.pair Sh.unit).den), x ∈ [({ data := #[(102 : UInt8)] : ByteArray }, [((21 : Int), (1 : Int), (0 : Int), (0 : Int), (1 : Int), (0 : Int), (0 : Int), (0 : Int), ())], ()), ({ data := #[(103 : UInt8)] : ByteArray }, [((7 : Int), (0 : Int), (0 : Int), (0 : Int), (0 : Int), (0 : Int), (0 : Int), (0 : Int), ()), ((4 : Int), (0 : Int), (0 : Int), (0 : Int), (0 : Int), (0 : Int), (0 : Int), (0 : Int), ())], ())] → List.length x.snd.fst ≤ (1000000 : Nat)) ∧ (3 : Nat) ≤ (1000000 : Nat)) ∧ ((true && decide (d = (0 : Int)) && decide (d_1 = (1 : Int)) && true && true && true && true) = true → True) ∧ ((true && decide (d = (0 : Int)) && decide (d_1 = (1 : Int)) && true && true && true && true && true) = true → True) ∧ ((true && decide (d = (0 : Int)) && decide (d_1 = (1 : Int)) && true && true && true && true && true) = true → (3 : Nat) ≤ (1000000 : Nat) ∧ (2 : Nat) ≤ (1000000 : Nat) ∧ ∀ (x : Sh.str.den × (((Sh.int IntKind.i64).pair ((Sh.int IntKind.i64).pair ((Sh.int IntKind.i64).pair ((Sh.int IntKind.i64).pair ((Sh.int IntKind.i64).pair ((Sh.int IntKind.i64).pair ((Sh.int IntKind.i64).pair ((Sh.int IntKind.i64).pair Sh.unit)))))))).sl.pair Sh.unit).den), x ∈ [({ data := #[(102 : UInt8)] : ByteArray }, [((21 : Int), (1 : Int), (0 : Int), (0 : Int), (1 : Int), (0 : Int), (0 : Int), (0 : Int), ())], ()), ({ data := #[(103 : UInt8)] : ByteArray }, [((7 : Int), (0 : Int), (0 : Int), (0 : Int), (0 : Int), (0 : Int), (0 : Int), (0 : Int), ()), ((4 : Int), (0 : Int), (0 : Int), (0 : Int), (0 : Int), (0 : Int), (0 : Int), (0 : Int), ())], ())] → List.length x.snd.fst ≤ (1000000 : Nat)) ∧ ((true && decide (d = (0 : Int)) && decide (d_1 = (1 : Int)) && true && true && true && true && true && true) = true → True) ∧ ([] : List Go.Eng.Res) = [] ∧ Ent.one (SV.c (SC.v (Value.bool true))) = Ent.one (SV.c (SC.v (Value.bool (true && decide (d = (0 : Int)) && decide (d_1 = (1 : Int)) && true && true && true && true && true && true && true)))) := by
  have e := reach_ex
  simp [e]
set_option maxHeartbeats 2000000 in
set_option maxRecDepth 100000 in
theorem f10_met : Go.Eng.Met Tryd.prog cx0.gd 10 ctLiv :=
  met_of (cx := cx0) (n := 65) (cl := cl10) (by kernel_rfl) tis_ok ⟨f31_met, f17_met, f11_met, f13_met, f23_met, f28_met, f15_met, trivial⟩ Tryd.func10 (by kernel_rfl) (by kernel_rfl) rfl (by kernel_rfl) (by kernel_rfl) fun d hd => by
    obtain ⟨⟩ := d
    exact ex_of (ann10 ) (f10_vc ) (by kernel_rfl)
@[reducible] def ctL4 : CT := { ps := [shS], pre := fun d => True, res := fun d => ([], vB (true)) }
@[reducible] noncomputable def cl4 : List (Nat × CT) := [(15, ctCfg), (16, ctrCfg), (10, ctLiv)]
@[reducible] def ann4 (m : Int) (b : Int) : Nat → Option (St → Ann) := fun _ => none
set_option maxRecDepth 100000 in
theorem f4_vc (m : Int) (b : Int) :
    True ∧ True ∧ (decide (cfgS m b = cfgS m b) = true → True) ∧ ([] : List Go.Eng.Res) = [] ∧ Ent.one (SV.c (SC.v (Value.bool true))) = Ent.one (SV.c (SC.v (Value.bool (decide (cfgS m b = cfgS m b) && true)))) := by
  simp
set_option maxHeartbeats 2000000 in
set_option maxRecDepth 100000 in
theorem f4_met : Go.Eng.Met Tryd.prog cx0.gd 4 ctL4 :=
  met_of (cx := cx0) (n := 11) (cl := cl4) (by kernel_rfl) tis_ok ⟨f15_met, f16_met, f10_met, trivial⟩ Tryd.func4 (by kernel_rfl) (by kernel_rfl) rfl (by kernel_rfl) (by kernel_rfl) fun d hd => by
    obtain ⟨⟨m, b, ⟨⟩⟩, ⟨⟩⟩ := d
    exact ex_of (ann4 m b) (f4_vc m b) (by kernel_rfl)
end Go.Proofs.YtiikkjlghfhgcaaDoor
