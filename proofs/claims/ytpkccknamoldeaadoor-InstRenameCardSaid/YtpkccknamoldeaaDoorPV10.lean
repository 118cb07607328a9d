/- The functions of the Inst chapter, part 10: the examples. -/
import Derived.Test.YtpkccknamoldeaaDoorPV9
set_option linter.unusedSimpArgs false
set_option linter.unusedVariables false
set_option maxRecDepth 100000
namespace Go.Proofs.YtpkccknamoldeaaDoor
open Go Go.Eng

@[reducible] def ct10 : CT := { ps := [], pre := fun d => True, res := fun d => ([], .one (.c (.v (.bool true)))) }
@[reducible] def cl10 : List (Nat × CT) := [(8, ct8), (16, ct16), (11, ct11), (14, ct14), (13, ct13), (29, ct29)]
@[reducible] def ann10  : Nat → Option (St → Ann) := fun _ => none
set_option maxRecDepth 100000 in
theorem f10_vc  :
    True ∧ True ∧ True ∧ (true = true → True) ∧ (true = true → True) ∧ (true = true → True) ∧ (true = true → True) ∧ (true = true → (2 : Nat) ≤ (4611686018427387904 : Nat)) ∧ (true = true → True) ∧ ([] : List Go.Eng.Res) = [] ∧ Ent.one (SV.c (SC.v (Value.bool true))) = Ent.one (SV.c (SC.v (Value.bool true))) := by
  simp
set_option maxRecDepth 100000 in
theorem f10_met : Go.Eng.Met Tryd.prog cx0.gd 10 ct10 :=
  met_of (cx := cx0) (n := 62) (cl := cl10) (by kernel_rfl) tis_ok ⟨f8_met, f16_met, f11_met, f14_met, f13_met, f29_met, trivial⟩ Tryd.func10 (by kernel_rfl) (by kernel_rfl) rfl (by kernel_rfl) (by kernel_rfl) fun d hd => by
    obtain ⟨⟩ := d
    exact ⟨ann10 , cast (by kernel_rfl) (f10_vc )⟩
end Go.Proofs.YtpkccknamoldeaaDoor
