/- The functions of the Inst chapter, part 7: sorting nothing. -/
import Derived.Test.YtpkccknamoldeaaDoorPV6
import Derived.Test.YtpkccknamoldeaaDoorEngV
set_option linter.unusedSimpArgs false
set_option linter.unusedVariables false
set_option maxRecDepth 100000
namespace Go.Proofs.YtpkccknamoldeaaDoor
open Go Go.Eng

def Mt (l : List Int) : Prop := l = []
theorem Mt.nil : Mt [] := rfl
@[reducible] def ct58z : CT := { ps := [.int .u64], pre := fun d => d.1 = 0, res := fun d => ([], .one (.c (.v (.int .i64 0)))) }
@[reducible] def cl58 : List (Nat × CT) := []
@[reducible] def ann58  : Nat → Option (St → Ann) := fun _ => none
set_option maxRecDepth 100000 in
theorem f58_vc  :
    ((0 : Int) ≤ (0 : Int) ∧ (0 : Int) < (256 : Int)) ∧ ∀ (u : UInt8), { data := (([(0 : UInt8), (1 : UInt8), (2 : UInt8), (2 : UInt8), (3 : UInt8), (3 : UInt8), (3 : UInt8), (3 : UInt8), (4 : UInt8), (4 : UInt8), (4 : UInt8), (4 : UInt8), (4 : UInt8), (4 : UInt8), (4 : UInt8), (4 : UInt8), (5 : UInt8), (5 : UInt8), (5 : UInt8), (5 : UInt8), (5 : UInt8), (5 : UInt8), (5 : UInt8), (5 : UInt8), (5 : UInt8), (5 : UInt8), (5 : UInt8), (5 : UInt8), (5 : UInt8), (5 : UInt8), (5 : UInt8), (5 : UInt8), (6 : UInt8), (6 : UInt8), (6 : UInt8), (6 : UInt8), (6 : UInt8), (6 : UInt8), (6 : UInt8), (6 : UInt8), (6 : UInt8), (6 : UInt8), (6 : UInt8), (6 : UInt8), (6 : UInt8), (6 : UInt8), (6 : UInt8), (6 : UInt8), (6 : UInt8), (6 : UInt8), (6 : UInt8), (6 : UInt8), (6 : UInt8), (6 : UInt8), (6 : UInt8), (6 : UInt8), (6 : UInt8), (6 : UInt8), (6 : UInt8), (6 : UInt8), (6 : UInt8), (6 : UInt8), (6 : UInt8), (6 : UInt8)].append [(7 : UInt8), (7 : UInt8), (7 : UInt8), (7 : UInt8), (7 : UInt8), (7 : UInt8), (7 : UInt8), (7 : UInt8), (7 : UInt8), (7 : UInt8), (7 : UInt8), (7 : UInt8), (7 : UInt8), (7 : UInt8), (7 : UInt8), (7 : UInt8), (7 : UInt8), (7 : UInt8), (7 : UInt8), (7 : UInt8), (7 : UInt8), (7 : UInt8), (7 : UInt8), (7 : UInt8), (7 : UInt8), (7 : UInt8), (7 : UInt8), (7 : UInt8), (7 : UInt8), (7 : UInt8), (7 : UInt8), (7 : UInt8), (7 : UInt8), (7 : UInt8), (7 : UInt8), (7 : UInt8), (7 : UInt8), (7 : UInt8), (7 : UInt8), (7 : UInt8), (7 : UInt8), (7 : UInt8), (7 : UInt8), (7 : UInt8), (7 : UInt8), (7 : UInt8), (7 : UInt8), (7 : UInt8), (7 : UInt8), (7 : UInt8), (7 : UInt8), (7 : UInt8), (7 : UInt8), (7 : UInt8), (7 : UInt8), (7 : UInt8), (7 : UInt8), (7 : UInt8), (7 : UInt8), (7 : UInt8), (7 : UInt8), (7 : UInt8), (7 : UInt8), (7 : UInt8)]).append ([(8 : UInt8), (8 : UInt8), (8 : UInt8), (8 : UInt8), (8 : UInt8), (8 : UInt8), (8 : UInt8), (8 : UInt8), (8 : UInt8), (8 : UInt8), (8 : UInt8), (8 : UInt8), (8 : UInt8), (8 : UInt8), (8 : UInt8), (8 : UInt8), (8 : UInt8), (8 : UInt8), (8 : UInt8), (8 : UInt8), (8 : UInt8), (8 : UInt8), (8 : UInt8), (8 : UInt8), (8 : UInt8), (8 : UInt8), (8 : UInt8), (8 : UInt8), (8 : UInt8), (8 : UInt8), (8 : UInt8), (8 : UInt8), (8 : UInt8), (8 : UInt8), (8 : UInt8), (8 : UInt8), (8 : UInt8), (8 : UInt8), (8 : UInt8), (8 : UInt8), (8 : UInt8), (8 : UInt8), (8 : UInt8), (8 : UInt8), (8 : UInt8), (8 : UInt8), (8 : UInt8), (8 : UInt8), (8 : UInt8), (8 : UInt8), (8 : UInt8), (8 : UInt8), (8 : UInt8), (8 : UInt8), (8 : UInt8), (8 : UInt8), (8 : UInt8), (8 : UInt8), (8 : UInt8), (8 : UInt8), (8 : UInt8), (8 : UInt8), (8 : UInt8), (8 : UInt8)].append [(8 : UInt8), (8 : UInt8), (8 : UInt8), (8 : UInt8), (8 : UInt8), (8 : UInt8), (8 : UInt8), (8 : UInt8), (8 : UInt8), (8 : UInt8), (8 : UInt8), (8 : UInt8), (8 : UInt8), (8 : UInt8), (8 : UInt8), (8 : UInt8), (8 : UInt8), (8 : UInt8), (8 : UInt8), (8 : UInt8), (8 : UInt8), (8 : UInt8), (8 : UInt8), (8 : UInt8), (8 : UInt8), (8 : UInt8), (8 : UInt8), (8 : UInt8), (8 : UInt8), (8 : UInt8), (8 : UInt8), (8 : UInt8), (8 : UInt8), (8 : UInt8), (8 : UInt8), (8 : UInt8), (8 : UInt8), (8 : UInt8), (8 : UInt8), (8 : UInt8), (8 : UInt8), (8 : UInt8), (8 : UInt8), (8 : UInt8), (8 : UInt8), (8 : UInt8), (8 : UInt8), (8 : UInt8), (8 : UInt8), (8 : UInt8), (8 : UInt8), (8 : UInt8), (8 : UInt8), (8 : UInt8), (8 : UInt8), (8 : UInt8), (8 : UInt8), (8 : UInt8), (8 : UInt8), (8 : UInt8), (8 : UInt8), (8 : UInt8), (8 : UInt8), (8 : UInt8)])).toArray : ByteArray }[(0 : Nat)]? = some u → InR IntKind.i64 (↑u.toNat : Int) ∧ InR IntKind.i64 ((0 : Int) + (↑u.toNat : Int)) ∧ ([] : List Go.Eng.Res) = [] ∧ Ent.one (SV.c (SC.v (Value.int IntKind.i64 (0 : Int)))) = Ent.one (SV.c (SC.v (Value.int IntKind.i64 ((0 : Int) + (↑u.toNat : Int))))) := by
  refine ⟨by omega, fun u hu => ?_⟩
  have hu : some (0 : UInt8) = some u := hu
  cases hu
  exact ⟨InR_i64.2 (by decide), InR_i64.2 (by decide), rfl, rfl⟩
set_option maxRecDepth 100000 in
theorem f58_met : Met Tryd.prog cx0.gd 58 ct58z :=
  met_of (cx := cx0) (n := 25) (cl := cl58) (by kernel_rfl) tis_ok trivial Tryd.func58 (by kernel_rfl) (by kernel_rfl) rfl (by kernel_rfl) (by kernel_rfl) fun d hd => by
    obtain ⟨x, ⟨⟩⟩ := d
    simp only at hd
    subst hd
    exact ⟨ann58 , cast (by kernel_rfl) (f58_vc )⟩
@[reducible] def ct45z : CT := { ps := [.int .u64], pre := fun d => d.1 = 0, res := fun d => ([], .one (.c (.v (.int .i64 0)))) }
@[reducible] def cl45 : List (Nat × CT) := [(58, ct58z)]
@[reducible] def ann45  : Nat → Option (St → Ann) := fun _ => none
set_option maxRecDepth 100000 in
theorem f45_vc  :
    (0 : (Sh.int IntKind.u64).den) = (0 : (Sh.int IntKind.u64).den) ∧ ([] : List Go.Eng.Res) = [] ∧ Ent.one (SV.c (SC.v (Value.int IntKind.i64 (0 : Int)))) = Ent.one (SV.c (SC.v (Value.int IntKind.i64 (0 : Int)))) := by
  exact ⟨rfl, rfl, rfl⟩
set_option maxRecDepth 100000 in
theorem f45_met : Met Tryd.prog cx0.gd 45 ct45z :=
  met_of (cx := cx0) (n := 8) (cl := cl45) (by kernel_rfl) tis_ok ⟨f58_met, trivial⟩ Tryd.func45 (by kernel_rfl) (by kernel_rfl) rfl (by kernel_rfl) (by kernel_rfl) fun d hd => by
    obtain ⟨x, ⟨⟩⟩ := d
    simp only at hd
    subst hd
    exact ⟨ann45 , cast (by kernel_rfl) (f45_vc )⟩
@[reducible] def ct48z : CT := { ps := [.sl (.int .i64), .int .i64, .int .i64], pre := fun d => Mt d.1 ∧ d.2.1 = 0 ∧ d.2.2.1 = 0, res := fun d => ([], .tup []) }
@[reducible] def cl48 : List (Nat × CT) := []
@[reducible] def ann48  : Nat → Option (St → Ann) := fun _ => some fun _ => .unroll 1
set_option maxRecDepth 100000 in
theorem f48_vc  :
    InR IntKind.i64 (1 : Int) ∧ ([] : List Go.Eng.Res) = [] ∧ Ent.tup [] = Ent.tup [] := by
  exact ⟨InR_i64.2 (by omega), rfl, rfl⟩
set_option maxRecDepth 100000 in
theorem f48_met : Met Tryd.prog cx0.gd 48 ct48z :=
  met_of (cx := cx0) (n := 49) (cl := cl48) (by kernel_rfl) tis_ok trivial Tryd.func48 (by kernel_rfl) (by kernel_rfl) rfl (by kernel_rfl) (by kernel_rfl) fun d hd => by
    obtain ⟨l, a, b, ⟨⟩⟩ := d
    obtain ⟨h1, h2, h3⟩ := hd
    simp only at h1 h2 h3
    have h1 : l = [] := h1
    subst h1; subst h2; subst h3
    exact ⟨ann48 , cast (by kernel_rfl) (f48_vc )⟩
@[reducible] def ct44z : CT := { ps := [.sl (.int .i64), .int .i64, .int .i64, .int .i64], pre := fun d => Mt d.1 ∧ d.2.1 = 0 ∧ d.2.2.1 = 0, res := fun d => ([], .tup []) }
@[reducible] def cl44 : List (Nat × CT) := [(48, ct48z)]
@[reducible] def ann44 (m : Int) : Nat → Option (St → Ann) := fun _ => some fun _ => .unroll 1
set_option maxRecDepth 100000 in
theorem f44_vc (m : Int) :
    InR IntKind.i64 (0 : Int) ∧ (Mt [] ∧ (0 : (Sh.int IntKind.i64).den) = (0 : (Sh.int IntKind.i64).den) ∧ (0 : (Sh.int IntKind.i64).den) = (0 : (Sh.int IntKind.i64).den)) ∧ ([] : List Go.Eng.Res) = [] ∧ Ent.tup [] = Ent.tup [] := by
  exact ⟨InR_i64.2 (by omega), ⟨rfl, rfl, rfl⟩, rfl, rfl⟩
set_option maxRecDepth 100000 in
theorem f44_met : Met Tryd.prog cx0.gd 44 ct44z :=
  met_of (cx := cx0) (n := 134) (cl := cl44) (by kernel_rfl) tis_ok ⟨f48_met, trivial⟩ Tryd.func44 (by kernel_rfl) (by kernel_rfl) rfl (by kernel_rfl) (by kernel_rfl) fun d hd => by
    obtain ⟨l, a, b, m, ⟨⟩⟩ := d
    obtain ⟨h1, h2, h3⟩ := hd
    simp only at h1 h2 h3
    have h1 : l = [] := h1
    subst h1; subst h2; subst h3
    exact ⟨ann44 m, cast (by kernel_rfl) (f44_vc m)⟩
@[reducible] def ct39z : CT := { ps := [.sl (.int .i64)], pre := fun d => Mt d.1, res := fun d => ([], .tup []) }
@[reducible] def cl39 : List (Nat × CT) := [(44, ct44z), (45, ct45z)]
@[reducible] def ann39  : Nat → Option (St → Ann) := fun _ => none
set_option maxRecDepth 100000 in
theorem f39_vc  :
    (0 : Int) = (0 : (Sh.int IntKind.u64).den) ∧ (Mt [] ∧ (0 : Int) = (0 : (Sh.int IntKind.i64).den) ∧ (0 : Int) = (0 : (Sh.int IntKind.i64).den)) ∧ ([] : List Go.Eng.Res) = [] ∧ Ent.tup [] = Ent.tup [] := by
  exact ⟨rfl, ⟨rfl, rfl, rfl⟩, rfl, rfl⟩
set_option maxRecDepth 100000 in
theorem f39_met : Met Tryd.prog cx0.gd 39 ct39z :=
  met_of (cx := cx0) (n := 11) (cl := cl39) (by kernel_rfl) tis_ok ⟨f44_met, f45_met, trivial⟩ Tryd.func39 (by kernel_rfl) (by kernel_rfl) rfl (by kernel_rfl) (by kernel_rfl) fun d hd => by
    obtain ⟨l, ⟨⟩⟩ := d
    have hd : l = [] := hd
    subst hd
    exact ⟨ann39 , cast (by kernel_rfl) (f39_vc )⟩
end Go.Proofs.YtpkccknamoldeaaDoor
