/- The Program chapter, part 2: sets of integers. -/
import Derived.Test.YtklnffdjhoacoaaDoorPK1
import Derived.Test.YtklnffdjhoacoaaDoorPSH
set_option linter.unusedSimpArgs false
set_option linter.unusedVariables false
set_option maxRecDepth 100000
namespace Go.Proofs.YtklnffdjhoacoaaDoor
open Go Go.Eng

def Mt (l : List Int) : Prop := l = []
theorem Mt.nil : Mt [] := rfl
@[reducible] def ct58z : CT := { ps := [.int .u64], pre := fun d => d.1 = 0, res := fun d => ([], .one (.c (.v (.int .i64 0)))) }
@[reducible] def cl87 : List (Nat × CT) := []
@[reducible] def ann87  : Nat → Option (St → Ann) := fun _ => none
set_option maxRecDepth 100000 in
theorem f87_vc  :
    ((0 : Int) ≤ (0 : Int) ∧ (0 : Int) < (256 : Int)) ∧ ∀ (u : UInt8), { data := (([(0 : UInt8), (1 : UInt8), (2 : UInt8), (2 : UInt8), (3 : UInt8), (3 : UInt8), (3 : UInt8), (3 : UInt8), (4 : UInt8), (4 : UInt8), (4 : UInt8), (4 : UInt8), (4 : UInt8), (4 : UInt8), (4 : UInt8), (4 : UInt8), (5 : UInt8), (5 : UInt8), (5 : UInt8), (5 : UInt8), (5 : UInt8), (5 : UInt8), (5 : UInt8), (5 : UInt8), (5 : UInt8), (5 : UInt8), (5 : UInt8), (5 : UInt8), (5 : UInt8), (5 : UInt8), (5 : UInt8), (5 : UInt8), (6 : UInt8), (6 : UInt8), (6 : UInt8), (6 : UInt8), (6 : UInt8), (6 : UInt8), (6 : UInt8), (6 : UInt8), (6 : UInt8), (6 : UInt8), (6 : UInt8), (6 : UInt8), (6 : UInt8), (6 : UInt8), (6 : UInt8), (6 : UInt8), (6 : UInt8), (6 : UInt8), (6 : UInt8), (6 : UInt8), (6 : UInt8), (6 : UInt8), (6 : UInt8), (6 : UInt8), (6 : UInt8), (6 : UInt8), (6 : UInt8), (6 : UInt8), (6 : UInt8), (6 : UInt8), (6 : UInt8), (6 : UInt8)].append [(7 : UInt8), (7 : UInt8), (7 : UInt8), (7 : UInt8), (7 : UInt8), (7 : UInt8), (7 : UInt8), (7 : UInt8), (7 : UInt8), (7 : UInt8), (7 : UInt8), (7 : UInt8), (7 : UInt8), (7 : UInt8), (7 : UInt8), (7 : UInt8), (7 : UInt8), (7 : UInt8), (7 : UInt8), (7 : UInt8), (7 : UInt8), (7 : UInt8), (7 : UInt8), (7 : UInt8), (7 : UInt8), (7 : UInt8), (7 : UInt8), (7 : UInt8), (7 : UInt8), (7 : UInt8), (7 : UInt8), (7 : UInt8), (7 : UInt8), (7 : UInt8), (7 : UInt8), (7 : UInt8), (7 : UInt8), (7 : UInt8), (7 : UInt8), (7 : UInt8), (7 : UInt8), (7 : UInt8), (7 : UInt8), (7 : UInt8), (7 : UInt8), (7 : UInt8), (7 : UInt8), (7 : UInt8), (7 : UInt8), (7 : UInt8), (7 : UInt8), (7 : UInt8), (7 : UInt8), (7 : UInt8), (7 : UInt8), (7 : UInt8), (7 : UInt8), (7 : UInt8), (7 : UInt8), (7 : UInt8), (7 : UInt8), (7 : UInt8), (7 : UInt8), (7 : UInt8)]).append ([(8 : UInt8), (8 : UInt8), (8 : UInt8), (8 : UInt8), (8 : UInt8), (8 : UInt8), (8 : UInt8), (8 : UInt8), (8 : UInt8), (8 : UInt8), (8 : UInt8), (8 : UInt8), (8 : UInt8), (8 : UInt8), (8 : UInt8), (8 : UInt8), (8 : UInt8), (8 : UInt8), (8 : UInt8), (8 : UInt8), (8 : UInt8), (8 : UInt8), (8 : UInt8), (8 : UInt8), (8 : UInt8), (8 : UInt8), (8 : UInt8), (8 : UInt8), (8 : UInt8), (8 : UInt8), (8 : UInt8), (8 : UInt8), (8 : UInt8), (8 : UInt8), (8 : UInt8), (8 : UInt8), (8 : UInt8), (8 : UInt8), (8 : UInt8), (8 : UInt8), (8 : UInt8), (8 : UInt8), (8 : UInt8), (8 : UInt8), (8 : UInt8), (8 : UInt8), (8 : UInt8), (8 : UInt8), (8 : UInt8), (8 : UInt8), (8 : UInt8), (8 : UInt8), (8 : UInt8), (8 : UInt8), (8 : UInt8), (8 : UInt8), (8 : UInt8), (8 : UInt8), (8 : UInt8), (8 : UInt8), (8 : UInt8), (8 : UInt8), (8 : UInt8), (8 : UInt8)].append [(8 : UInt8), (8 : UInt8), (8 : UInt8), (8 : UInt8), (8 : UInt8), (8 : UInt8), (8 : UInt8), (8 : UInt8), (8 : UInt8), (8 : UInt8), (8 : UInt8), (8 : UInt8), (8 : UInt8), (8 : UInt8), (8 : UInt8), (8 : UInt8), (8 : UInt8), (8 : UInt8), (8 : UInt8), (8 : UInt8), (8 : UInt8), (8 : UInt8), (8 : UInt8), (8 : UInt8), (8 : UInt8), (8 : UInt8), (8 : UInt8), (8 : UInt8), (8 : UInt8), (8 : UInt8), (8 : UInt8), (8 : UInt8), (8 : UInt8), (8 : UInt8), (8 : UInt8), (8 : UInt8), (8 : UInt8), (8 : UInt8), (8 : UInt8), (8 : UInt8), (8 : UInt8), (8 : UInt8), (8 : UInt8), (8 : UInt8), (8 : UInt8), (8 : UInt8), (8 : UInt8), (8 : UInt8), (8 : UInt8), (8 : UInt8), (8 : UInt8), (8 : UInt8), (8 : UInt8), (8 : UInt8), (8 : UInt8), (8 : UInt8), (8 : UInt8), (8 : UInt8), (8 : UInt8), (8 : UInt8), (8 : UInt8), (8 : UInt8), (8 : UInt8), (8 : UInt8)])).toArray : ByteArray }[(0 : Nat)]? = some u → InR IntKind.i64 (↑u.toNat : Int) ∧ InR IntKind.i64 ((0 : Int) + (↑u.toNat : Int)) ∧ ([] : List Go.Eng.Res) = [] ∧ Ent.one (SV.c (SC.v (Value.int IntKind.i64 (0 : Int)))) = Ent.one (SV.c (SC.v (Value.int IntKind.i64 ((0 : Int) + (↑u.toNat : Int))))) := by
  refine ⟨by omega, fun u hu => ?_⟩
  have hu : some (0 : UInt8) = some u := hu
  cases hu
  exact ⟨InR_i64.2 (by decide), InR_i64.2 (by decide), rfl, rfl⟩
set_option maxRecDepth 100000 in
theorem f87_met : Go.Eng.Met Tryd.prog cx0.gd 87 ct58z :=
  met_of (cx := cx0) (n := 25) (cl := cl87) (by kernel_rfl) tis_ok trivial Tryd.func87 (by kernel_rfl) (by kernel_rfl) rfl (by kernel_rfl) (by kernel_rfl) fun d hd => by
    obtain ⟨x, ⟨⟩⟩ := d
    simp only at hd
    subst hd
    exact ⟨ann87 , cast (by kernel_rfl) (f87_vc )⟩
@[reducible] def ct45z : CT := { ps := [.int .u64], pre := fun d => d.1 = 0, res := fun d => ([], .one (.c (.v (.int .i64 0)))) }
@[reducible] def cl72 : List (Nat × CT) := [(87, ct58z)]
@[reducible] def ann72  : Nat → Option (St → Ann) := fun _ => none
set_option maxRecDepth 100000 in
theorem f72_vc  :
    (0 : (Sh.int IntKind.u64).den) = (0 : (Sh.int IntKind.u64).den) ∧ ([] : List Go.Eng.Res) = [] ∧ Ent.one (SV.c (SC.v (Value.int IntKind.i64 (0 : Int)))) = Ent.one (SV.c (SC.v (Value.int IntKind.i64 (0 : Int)))) := by
  exact ⟨rfl, rfl, rfl⟩
set_option maxRecDepth 100000 in
theorem f72_met : Go.Eng.Met Tryd.prog cx0.gd 72 ct45z :=
  met_of (cx := cx0) (n := 8) (cl := cl72) (by kernel_rfl) tis_ok ⟨f87_met, trivial⟩ Tryd.func72 (by kernel_rfl) (by kernel_rfl) rfl (by kernel_rfl) (by kernel_rfl) fun d hd => by
    obtain ⟨x, ⟨⟩⟩ := d
    simp only at hd
    subst hd
    exact ⟨ann72 , cast (by kernel_rfl) (f72_vc )⟩
@[reducible] def ct48z : CT := { ps := [.sl (.int .i64), .int .i64, .int .i64], pre := fun d => Mt d.1 ∧ d.2.1 = 0 ∧ d.2.2.1 = 0, res := fun d => ([], .tup []) }
@[reducible] def cl77 : List (Nat × CT) := []
@[reducible] def ann77  : Nat → Option (St → Ann) := fun _ => some fun _ => .unroll 1
set_option maxRecDepth 100000 in
theorem f77_vc  :
    InR IntKind.i64 (1 : Int) ∧ ([] : List Go.Eng.Res) = [] ∧ Ent.tup [] = Ent.tup [] := by
  exact ⟨InR_i64.2 (by omega), rfl, rfl⟩
set_option maxRecDepth 100000 in
theorem f77_met : Go.Eng.Met Tryd.prog cx0.gd 77 ct48z :=
  met_of (cx := cx0) (n := 49) (cl := cl77) (by kernel_rfl) tis_ok trivial Tryd.func77 (by kernel_rfl) (by kernel_rfl) rfl (by kernel_rfl) (by kernel_rfl) fun d hd => by
    obtain ⟨l, a, b, ⟨⟩⟩ := d
    obtain ⟨h1, h2, h3⟩ := hd
    simp only at h1 h2 h3
    have h1 : l = [] := h1
    subst h1; subst h2; subst h3
    exact ⟨ann77 , cast (by kernel_rfl) (f77_vc )⟩
@[reducible] def ct44z : CT := { ps := [.sl (.int .i64), .int .i64, .int .i64, .int .i64], pre := fun d => Mt d.1 ∧ d.2.1 = 0 ∧ d.2.2.1 = 0, res := fun d => ([], .tup []) }
@[reducible] def cl71 : List (Nat × CT) := [(77, ct48z)]
@[reducible] def ann71 (m : Int) : Nat → Option (St → Ann) := fun _ => some fun _ => .unroll 1
set_option maxRecDepth 100000 in
theorem f71_vc (m : Int) :
    InR IntKind.i64 (0 : Int) ∧ (Mt [] ∧ (0 : (Sh.int IntKind.i64).den) = (0 : (Sh.int IntKind.i64).den) ∧ (0 : (Sh.int IntKind.i64).den) = (0 : (Sh.int IntKind.i64).den)) ∧ ([] : List Go.Eng.Res) = [] ∧ Ent.tup [] = Ent.tup [] := by
  exact ⟨InR_i64.2 (by omega), ⟨rfl, rfl, rfl⟩, rfl, rfl⟩
set_option maxRecDepth 100000 in
theorem f71_met : Go.Eng.Met Tryd.prog cx0.gd 71 ct44z :=
  met_of (cx := cx0) (n := 134) (cl := cl71) (by kernel_rfl) tis_ok ⟨f77_met, trivial⟩ Tryd.func71 (by kernel_rfl) (by kernel_rfl) rfl (by kernel_rfl) (by kernel_rfl) fun d hd => by
    obtain ⟨l, a, b, m, ⟨⟩⟩ := d
    obtain ⟨h1, h2, h3⟩ := hd
    simp only at h1 h2 h3
    have h1 : l = [] := h1
    subst h1; subst h2; subst h3
    exact ⟨ann71 m, cast (by kernel_rfl) (f71_vc m)⟩
@[reducible] def ct39z : CT := { ps := [.sl (.int .i64)], pre := fun d => Mt d.1, res := fun d => ([], .tup []) }
@[reducible] def cl59 : List (Nat × CT) := [(71, ct44z), (72, ct45z)]
@[reducible] def ann59  : Nat → Option (St → Ann) := fun _ => none
set_option maxRecDepth 100000 in
theorem f59_vc  :
    (0 : Int) = (0 : (Sh.int IntKind.u64).den) ∧ (Mt [] ∧ (0 : Int) = (0 : (Sh.int IntKind.i64).den) ∧ (0 : Int) = (0 : (Sh.int IntKind.i64).den)) ∧ ([] : List Go.Eng.Res) = [] ∧ Ent.tup [] = Ent.tup [] := by
  exact ⟨rfl, ⟨rfl, rfl, rfl⟩, rfl, rfl⟩
set_option maxRecDepth 100000 in
theorem f59_met : Go.Eng.Met Tryd.prog cx0.gd 59 ct39z :=
  met_of (cx := cx0) (n := 11) (cl := cl59) (by kernel_rfl) tis_ok ⟨f71_met, f72_met, trivial⟩ Tryd.func59 (by kernel_rfl) (by kernel_rfl) rfl (by kernel_rfl) (by kernel_rfl) fun d hd => by
    obtain ⟨l, ⟨⟩⟩ := d
    have hd : l = [] := hd
    subst hd
    exact ⟨ann59 , cast (by kernel_rfl) (f59_vc )⟩
@[reducible] def ctClone : CT := { ps := [.sl (.int .i64)], pre := fun d => d.1.length ≤ 1000000, res := fun d => ([.row 3 (.int .i64) (d.1)], .one (.c (.row 0))) }
@[reducible] def cl40 : List (Nat × CT) := []
@[reducible] def il40 : List (Nat × IP) := []
@[reducible] def ann40 (l : List Int) : Nat → Option (St → Ann) := fun _ => none
set_option maxRecDepth 100000 in
theorem f40_vc (l : List Int) (hpre : ctClone.pre (l, ())) :
    ∀ (b : Bool), (b = true → l = []) → br b ([Res.row (3 : TypeId) (Sh.int IntKind.i64) l] = [Res.row (3 : TypeId) (Sh.int IntKind.i64) []] ∧ Ent.one (SV.c (SC.row (0 : Nat))) = Ent.one (SV.c (SC.row (0 : Nat)))) (InA ((0 : Nat) + List.length (l)) (8 : Nat) ∧ [Res.row (3 : TypeId) (Sh.int IntKind.i64) l] = [Res.row (3 : TypeId) (Sh.int IntKind.i64) ([] ++ l)] ∧ Ent.one (SV.c (SC.row (0 : Nat))) = Ent.one (SV.c (SC.row (0 : Nat)))) := by
  have hp : l.length ≤ 1000000 := hpre
  intro b hb
  refine br_iff.2 ⟨fun h => by rw [hb h]; exact ⟨rfl, rfl⟩, fun h => ⟨?_, by simp, rfl⟩⟩
  rw [InA_iff]; omega
set_option maxRecDepth 100000 in
theorem f40_met : Go.Eng.Met Tryd.prog cx0.gd 40 ctClone :=
  met_ip (il := il40) (rc := [.row 3 (.int .i64)]) (cx := cx0) (n := 8) (cl := cl40) (by kernel_rfl) tis_ok trivial trivial Tryd.func40 (by kernel_rfl) (by kernel_rfl) rfl (by kernel_rfl) (by kernel_rfl) fun d hd => by
    obtain ⟨l, ⟨⟩⟩ := d
    exact ⟨ann40 l, cast (by kernel_rfl) (f40_vc l hd)⟩
def idxI (l : List Int) (x : Int) : Int := match l.findIdx? (fun y => decide (y = x)) with | some k => (k : Int) | none => -1
theorem idxI_found {l : List Int} {x : Int} {k : Nat} (hd : l[k]? = some x) (hn : ∀ j < k, ∀ y, l[j]? = some y → y ≠ x) : idxI l x = k := by
  have hlt : k < l.length := (List.getElem?_eq_some_iff.1 hd).1
  have : l.findIdx? (fun y => decide (y = x)) = some k := by
    rw [List.findIdx?_eq_some_iff_getElem]
    refine ⟨hlt, by have := (List.getElem?_eq_some_iff.1 hd).2; simp [this], fun j hj => ?_⟩
    have := hn j hj l[j] (List.getElem?_eq_getElem (by omega))
    simpa using this
  simp [idxI, this]
theorem idxI_none {l : List Int} {x : Int} (hn : ∀ (j : Nat) y, l[j]? = some y → y ≠ x) : idxI l x = -1 := by
  have : l.findIdx? (fun y => decide (y = x)) = none := by
    rw [List.findIdx?_eq_none_iff]
    intro y hy
    obtain ⟨j, hj⟩ := List.getElem?_of_mem hy
    simpa using hn j y hj
  simp [idxI, this]
@[reducible] def ctIdx : CT := { ps := [.sl (.int .i64), .int .i64], pre := fun d => d.1.length ≤ 4611686018427387904, res := fun d => ([], .one (.c (.v (.int .i64 (idxI d.1 d.2.1))))) }
@[reducible] def cl70 : List (Nat × CT) := []
@[reducible] def ann70 (l : List Int) (x : Int) : Nat → Option (St → Ann) := fun _ => some fun _ => .inv { α := Nat, slots := fun k => [(8, .c (.v (.int .i64 k)))], res := fun _ => [], inv := fun k => k ≤ l.length ∧ ∀ j < k, ∀ y, l[j]? = some y → y ≠ x, meas := fun k => l.length - k }
set_option maxRecDepth 100000 in
theorem f70_vc (l : List Int) (x : Int) (hpre : ctIdx.pre (l, x, ())) :
    (∃ x_1, (x_1 ≤ l.length ∧ ∀ (j : Nat), j < x_1 → ∀ (y : Int), l[j]? = some y → y ≠ x) ∧ (SV.c (SC.v (Value.int IntKind.i64 (0 : Int))) = SV.c (SC.v (Value.int IntKind.i64 (↑x_1 : Int))) ∧ True) ∧ ([] : List (Go.Eng.Gd × Go.Eng.Res)) = []) ∧ ∀ (x_1 : Nat), (x_1 ≤ l.length ∧ ∀ (j : Nat), j < x_1 → ∀ (y : Int), l[j]? = some y → y ≠ x) → br (decide ((↑x_1 : Int) < (↑l.length : Int))) (((0 : Int) ≤ (↑x_1 : Int) ∧ (↑x_1 : Int) < (↑l.length : Int)) ∧ ∀ (d : Int), l[(↑x_1 : Int).toNat]? = some d → br (decide (x = d)) (([] : List Go.Eng.Res) = [] ∧ Ent.one (SV.c (SC.v (Value.int IntKind.i64 (idxI l x)))) = Ent.one (SV.c (SC.v (Value.int IntKind.i64 (↑x_1 : Int))))) (InR IntKind.i64 ((↑x_1 : Int) + (1 : Int)) ∧ ∃ x', (x' ≤ l.length ∧ ∀ (j : Nat), j < x' → ∀ (y : Int), l[j]? = some y → y ≠ x) ∧ (SV.c (SC.v (Value.int IntKind.i64 ((↑x_1 : Int) + (1 : Int)))) = SV.c (SC.v (Value.int IntKind.i64 (↑x' : Int))) ∧ True) ∧ ([] : List (Go.Eng.Gd × Go.Eng.Res)) = [] ∧ l.length - x' < l.length - x_1)) (([] : List Go.Eng.Res) = [] ∧ Ent.one (SV.c (SC.v (Value.int IntKind.i64 (idxI l x)))) = Ent.one (SV.c (SC.v (Value.int IntKind.i64 (-1 : Int))))) := by
  refine ⟨⟨0, ⟨by omega, fun j hj => by omega⟩, ⟨rfl, trivial⟩, rfl⟩, fun k hk => br_iff.2 ⟨fun h => ?_, fun h => ?_⟩⟩
  · simp only [decide_eq_true_eq] at h
    have hp : l.length ≤ 4611686018427387904 := hpre
    refine ⟨by omega, fun d hd => ?_⟩
    have hd : l[k]? = some d := by simpa using hd
    refine br_iff.2 ⟨fun he => ?_, fun he => ⟨InR_i64.2 (by omega), k + 1, ⟨by omega, fun j hj y hy => ?_⟩, ⟨rfl, trivial⟩, rfl, by omega⟩⟩
    · have he : x = d := by simpa using he
      rw [idxI_found (by rw [hd, he]) hk.2]; exact ⟨rfl, rfl⟩
    · by_cases hjk : j = k
      · subst hjk; rw [hd] at hy; cases hy
        intro hh; simp [hh] at he
      · exact hk.2 j (by omega) y hy
  · simp only [decide_eq_false_iff_not] at h
    rw [idxI_none (fun j y hy => hk.2 j (by have := (List.getElem?_eq_some_iff.1 hy).1; omega) y hy)]; exact ⟨rfl, rfl⟩
set_option maxRecDepth 100000 in
theorem f70_met : Go.Eng.Met Tryd.prog cx0.gd 70 ctIdx :=
  met_of (cx := cx0) (n := 19) (cl := cl70) (by kernel_rfl) tis_ok trivial Tryd.func70 (by kernel_rfl) (by kernel_rfl) rfl (by kernel_rfl) (by kernel_rfl) fun d hd => by
    obtain ⟨l, x, ⟨⟩⟩ := d
    exact ⟨ann70 l x, cast (by kernel_rfl) (f70_vc l x hd)⟩
theorem hasI_idx (l : List Int) (x : Int) : hasI l x = decide (0 ≤ idxI l x) := by
  have h := List.findIdx?_isSome (xs := l) (p := fun y => decide (y = x))
  unfold hasI idxI
  rw [← h]
  cases l.findIdx? (fun y => decide (y = x)) with
  | none => rfl
  | some k => simp
@[reducible] def ctCon : CT := { ps := [.sl (.int .i64), .int .i64], pre := fun d => d.1.length ≤ 4611686018427387904, res := fun d => ([], vB (hasI d.1 d.2.1)) }
@[reducible] def cl55 : List (Nat × CT) := [(70, ctIdx)]
@[reducible] def ann55 (l : List Int) (x : Int) : Nat → Option (St → Ann) := fun _ => none
set_option maxRecDepth 100000 in
theorem f55_vc (l : List Int) (x : Int) (hpre : ctCon.pre (l, x, ())) :
    l.length ≤ (4611686018427387904 : Nat) ∧ ([] : List Go.Eng.Res) = [] ∧ Ent.one (SV.c (SC.v (Value.bool (hasI l x)))) = Ent.one (SV.c (SC.v (Value.bool (decide ((0 : Int) ≤ idxI l x))))) := by
  refine ⟨hpre, rfl, ?_⟩
  rw [hasI_idx]
set_option maxRecDepth 100000 in
theorem f55_met : Go.Eng.Met Tryd.prog cx0.gd 55 ctCon :=
  met_of (cx := cx0) (n := 9) (cl := cl55) (by kernel_rfl) tis_ok ⟨f70_met, trivial⟩ Tryd.func55 (by kernel_rfl) (by kernel_rfl) rfl (by kernel_rfl) (by kernel_rfl) fun d hd => by
    obtain ⟨l, x, ⟨⟩⟩ := d
    exact ⟨ann55 l x, cast (by kernel_rfl) (f55_vc l x hd)⟩
theorem sortI_len (l : List Int) : (sortI l).length = l.length := by simp [sortI]
theorem make_len (l : List Int) : (makeI l).length ≤ l.length := makeI_len l
theorem f59_ip : MetIP Tryd.prog cx0.gd 59 ipSort := ⟨ipok_sort f59_met.1 rfl (fun blk cap zs w hH hb hz => Tryd.slices_Sort_int blk 0 cap zs w hH hb hz), f59_met.2⟩
theorem f60_ip : MetIP Tryd.prog cx0.gd 60 ipCompact := ⟨ipok_compact (fun a cap w => Tryd.slices_Compact_int_empty a cap w) (fun blk cap zs w hH h1 h2 => Tryd.slices_Compact_int blk 0 cap zs w hH h1 h2), ⟨_, Tryd.func60, rfl, by kernel_rfl⟩⟩
@[reducible] def ctSorted : CT := { ps := [.sl (.int .i64)], pre := fun d => d.1.length ≤ 1000000, res := fun d => ([.row 3 (.int .i64) (makeI d.1)], .one (.c (.row 0))) }
@[reducible] def cl48 : List (Nat × CT) := [(40, ctClone)]
@[reducible] def il48 : List (Nat × IP) := [(59, ipSort), (60, ipCompact)]
@[reducible] def ann48 (l : List Int) : Nat → Option (St → Ann) := fun _ => none
set_option maxRecDepth 100000 in
theorem f48_vc (l : List Int) (hpre : ctSorted.pre (l, ())) :
    l.length ≤ (1000000 : Nat) ∧ List.length (l) < (4611686018427387904 : Nat) ∧ List.length (sortI (l)) < (4611686018427387904 : Nat) ∧ [Res.row (3 : TypeId) (Sh.int IntKind.i64) (makeI l)] = [Res.row (3 : TypeId) (Sh.int IntKind.i64) (Lib.compact (sortI (l)))] ∧ Ent.one (SV.c (SC.row (0 : Nat))) = Ent.one (SV.c (SC.row (0 : Nat))) := by
  have hp : l.length ≤ 1000000 := hpre
  exact ⟨hp, by omega, by rw [sortI_len]; omega, by rw [dd_make], rfl⟩
set_option maxRecDepth 100000 in
theorem f48_met : Go.Eng.Met Tryd.prog cx0.gd 48 ctSorted :=
  met_ip (il := il48) (rc := []) (cx := cx0) (n := 10) (cl := cl48) (by kernel_rfl) tis_ok ⟨f40_met, trivial⟩ ⟨f59_ip, f60_ip, trivial⟩ Tryd.func48 (by kernel_rfl) (by kernel_rfl) rfl (by kernel_rfl) (by kernel_rfl) fun d hd => by
    obtain ⟨l, ⟨⟩⟩ := d
    exact ⟨ann48 l, cast (by kernel_rfl) (f48_vc l hd)⟩
@[reducible] def ctHas : CT := { ps := [.sl (.int .i64), .int .i64], pre := fun d => d.1.length ≤ 1000000, res := fun d => ([], vB (hasI d.1 d.2.1)) }
@[reducible] def cl46 : List (Nat × CT) := [(55, ctCon)]
@[reducible] def ann46 (l : List Int) (x : Int) : Nat → Option (St → Ann) := fun _ => none
set_option maxRecDepth 100000 in
theorem f46_vc (l : List Int) (x : Int) (hpre : ctHas.pre (l, x, ())) :
    l.length ≤ (4611686018427387904 : Nat) ∧ ([] : List Go.Eng.Res) = [] ∧ Ent.one (SV.c (SC.v (Value.bool (hasI l x)))) = Ent.one (SV.c (SC.v (Value.bool (hasI l x)))) := by
  have hp : l.length ≤ 1000000 := hpre
  exact ⟨by omega, rfl, rfl⟩
set_option maxRecDepth 100000 in
theorem f46_met : Go.Eng.Met Tryd.prog cx0.gd 46 ctHas :=
  met_of (cx := cx0) (n := 8) (cl := cl46) (by kernel_rfl) tis_ok ⟨f55_met, trivial⟩ Tryd.func46 (by kernel_rfl) (by kernel_rfl) rfl (by kernel_rfl) (by kernel_rfl) fun d hd => by
    obtain ⟨l, x, ⟨⟩⟩ := d
    exact ⟨ann46 l x, cast (by kernel_rfl) (f46_vc l x hd)⟩
@[reducible] def ctAdd : CT := { ps := [.sl (.int .i64), .int .i64], pre := fun d => d.1.length ≤ 999999, res := fun d => ([.row 3 (.int .i64) (makeI (d.1 ++ [d.2.1]))], .one (.c (.row 0))) }
@[reducible] def cl37 : List (Nat × CT) := [(40, ctClone), (48, ctSorted)]
@[reducible] def ann37 (l : List Int) (x : Int) : Nat → Option (St → Ann) := fun _ => none
set_option maxRecDepth 100000 in
theorem f37_vc (l : List Int) (x : Int) (hpre : ctAdd.pre (l, x, ())) :
    l.length ≤ (1000000 : Nat) ∧ InA (List.length (l) + List.length ([x])) (8 : Nat) ∧ List.length (l ++ [x]) ≤ (1000000 : Nat) ∧ [Res.row (3 : TypeId) (Sh.int IntKind.i64) (makeI (l ++ [x]))] = [Res.row (3 : TypeId) (Sh.int IntKind.i64) (makeI (l ++ [x]))] ∧ Ent.one (SV.c (SC.row (0 : Nat))) = Ent.one (SV.c (SC.row (0 : Nat))) := by
  have hp : l.length ≤ 999999 := hpre
  refine ⟨by omega, ?_, ?_, rfl, rfl⟩
  · rw [InA_iff]; simp; omega
  · simp; omega
set_option maxRecDepth 100000 in
theorem f37_met : Go.Eng.Met Tryd.prog cx0.gd 37 ctAdd :=
  met_of (cx := cx0) (n := 11) (cl := cl37) (by kernel_rfl) tis_ok ⟨f40_met, f48_met, trivial⟩ Tryd.func37 (by kernel_rfl) (by kernel_rfl) rfl (by kernel_rfl) (by kernel_rfl) fun d hd => by
    obtain ⟨l, x, ⟨⟩⟩ := d
    exact ⟨ann37 l x, cast (by kernel_rfl) (f37_vc l x hd)⟩
end Go.Proofs.YtklnffdjhoacoaaDoor
