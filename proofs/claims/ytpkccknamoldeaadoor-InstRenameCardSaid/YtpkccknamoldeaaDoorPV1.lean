/- The functions of the Inst chapter, part 1. -/
import Derived.Test.YtpkccknamoldeaaDoorPC1
import Derived.Test.YtpkccknamoldeaaDoorEngV
set_option linter.unusedSimpArgs false
set_option linter.unusedVariables false
set_option maxRecDepth 100000
namespace Go.Proofs.YtpkccknamoldeaaDoor
open Go Go.Eng

@[reducible] def ct43 : CT := { ps := [], pre := fun d => True, res := fun d => ([.row 9 .str fieldsD], .one (.c (.row 0))) }
@[reducible] def cl43 : List (Nat × CT) := []
@[reducible] def ann43  : Nat → Option (St → Ann) := fun _ => none
set_option maxRecDepth 100000 in
theorem f43_vc  :
    [Res.row (9 : TypeId) Sh.str fieldsD] = [Res.row (9 : TypeId) Sh.str [{ data := #[(65 : UInt8), (78 : UInt8)] : ByteArray }, { data := #[(65 : UInt8), (66 : UInt8)] : ByteArray }, { data := #[(70 : UInt8), (65 : UInt8), (66 : UInt8), (67 : UInt8)] : ByteArray }, { data := #[(78 : UInt8)] : ByteArray }, { data := #[(66 : UInt8), (78 : UInt8)] : ByteArray }, { data := #[(66 : UInt8)] : ByteArray }, { data := #[] : ByteArray }, { data := #[(65 : UInt8), (79 : UInt8), (82 : UInt8)] : ByteArray }, { data := #[(79 : UInt8), (66 : UInt8), (82 : UInt8)] : ByteArray }, { data := #[(65 : UInt8), (79 : UInt8), (66 : UInt8), (82 : UInt8)] : ByteArray }, { data := #[(65 : UInt8), (79 : UInt8), (66 : UInt8), (82 : UInt8)] : ByteArray }, { data := #[(65 : UInt8), (79 : UInt8), (66 : UInt8), (67 : UInt8), (82 : UInt8)] : ByteArray }, { data := #[] : ByteArray }, { data := #[(65 : UInt8), (79 : UInt8), (70 : UInt8), (66 : UInt8), (82 : UInt8)] : ByteArray }, { data := #[(79 : UInt8)] : ByteArray }, { data := #[(79 : UInt8)] : ByteArray }, { data := #[(65 : UInt8), (79 : UInt8)] : ByteArray }, { data := #[(79 : UInt8), (78 : UInt8)] : ByteArray }, { data := #[(79 : UInt8)] : ByteArray }, { data := #[(79 : UInt8)] : ByteArray }, { data := #[(65 : UInt8), (79 : UInt8), (66 : UInt8)] : ByteArray }, { data := #[(66 : UInt8)] : ByteArray }]] ∧ Ent.one (SV.c (SC.row (0 : Nat))) = Ent.one (SV.c (SC.row (0 : Nat))) := by
  exact ⟨rfl, rfl⟩
set_option maxRecDepth 100000 in
theorem f43_met : Met Tryd.prog cx0.gd 43 ct43 :=
  met_of (cx := cx0) (n := 2) (cl := cl43) (by kernel_rfl) tis_ok trivial Tryd.func43 (by kernel_rfl) (by kernel_rfl) rfl (by kernel_rfl) (by kernel_rfl) fun d hd => by
    obtain ⟨⟩ := d
    exact ⟨ann43 , cast (by kernel_rfl) (f43_vc )⟩
@[reducible] def ct34 : CT := { ps := [.int .i64], pre := fun d => True, res := fun d => ([], vB (knownS d.1)) }
@[reducible] def cl34 : List (Nat × CT) := []
@[reducible] def ann34 (op : Int) : Nat → Option (St → Ann) := fun _ => none
set_option maxRecDepth 100000 in
theorem f34_vc (op : Int) :
    ([] : List Go.Eng.Res) = [] ∧ Ent.one (SV.c (SC.v (Value.bool (knownS op)))) = Ent.one (SV.c (SC.v (Value.bool (decide ((1 : Int) ≤ op) && decide (op ≤ (22 : Int)))))) := by
  exact ⟨rfl, rfl⟩
set_option maxRecDepth 100000 in
theorem f34_met : Met Tryd.prog cx0.gd 34 ct34 :=
  met_of (cx := cx0) (n := 9) (cl := cl34) (by kernel_rfl) tis_ok trivial Tryd.func34 (by kernel_rfl) (by kernel_rfl) rfl (by kernel_rfl) (by kernel_rfl) fun d hd => by
    obtain ⟨op, ⟨⟩⟩ := d
    exact ⟨ann34 op, cast (by kernel_rfl) (f34_vc op)⟩
@[reducible] def ct37 : CT := { ps := [.int .i64], pre := fun d => True, res := fun d => ([], vB (decide (0 ≤ d.1) && decide (d.1 < 8))) }
@[reducible] def cl37 : List (Nat × CT) := []
@[reducible] def ann37 (r : Int) : Nat → Option (St → Ann) := fun _ => none
set_option maxRecDepth 100000 in
theorem f37_vc (r : Int) :
    ([] : List Go.Eng.Res) = [] ∧ Ent.one (SV.c (SC.v (Value.bool (decide ((0 : (Sh.int IntKind.i64).den) ≤ r) && decide (r < (8 : (Sh.int IntKind.i64).den)))))) = Ent.one (SV.c (SC.v (Value.bool (decide ((0 : Int) ≤ r) && decide (r < (8 : Int)))))) := by
  exact ⟨rfl, rfl⟩
set_option maxRecDepth 100000 in
theorem f37_met : Met Tryd.prog cx0.gd 37 ct37 :=
  met_of (cx := cx0) (n := 9) (cl := cl37) (by kernel_rfl) tis_ok trivial Tryd.func37 (by kernel_rfl) (by kernel_rfl) rfl (by kernel_rfl) (by kernel_rfl) fun d hd => by
    obtain ⟨r, ⟨⟩⟩ := d
    exact ⟨ann37 r, cast (by kernel_rfl) (f37_vc r)⟩
@[reducible] def ct35 : CT := { ps := [shI], pre := fun d => True, res := fun d => ([], .one (.dat (.arr 7 (.int .i64)) [d.1.2.1, d.1.2.2.1, d.1.2.2.2.1, d.1.2.2.2.2.1, d.1.2.2.2.2.2.1, d.1.2.2.2.2.2.2.1, d.1.2.2.2.2.2.2.2.1])) }
@[reducible] def cl35 : List (Nat × CT) := []
@[reducible] def ann35 (op : Int) (a : Int) (b : Int) (c : Int) (obj : Int) (n : Int) (fn : Int) (ord : Int) : Nat → Option (St → Ann) := fun _ => none
set_option maxRecDepth 100000 in
theorem f35_vc (op : Int) (a : Int) (b : Int) (c : Int) (obj : Int) (n : Int) (fn : Int) (ord : Int) :
    ([] : List Go.Eng.Res) = [] ∧ Ent.one (SV.dat (Sh.arr (7 : Nat) (Sh.int IntKind.i64)) [a, b, c, obj, n, fn, ord]) = Ent.one (SV.dat (Sh.arr (7 : Nat) (Sh.int IntKind.i64)) [a, b, c, obj, n, fn, ord]) := by
  exact ⟨rfl, rfl⟩
set_option maxRecDepth 100000 in
theorem f35_met : Met Tryd.prog cx0.gd 35 ct35 :=
  met_of (cx := cx0) (n := 18) (cl := cl35) (by kernel_rfl) tis_ok trivial Tryd.func35 (by kernel_rfl) (by kernel_rfl) rfl (by kernel_rfl) (by kernel_rfl) fun d hd => by
    obtain ⟨⟨op, a, b, c, obj, n, fn, ord, ⟨⟩⟩, ⟨⟩⟩ := d
    exact ⟨ann35 op a b c obj n fn ord, cast (by kernel_rfl) (f35_vc op a b c obj n fn ord)⟩
@[reducible] def ct36 : CT := { ps := [.int .i64], pre := fun d => True, res := fun d => ([], .one (.c (.v (.string (nameS d.1))))) }
@[reducible] def cl36 : List (Nat × CT) := []
@[reducible] def ann36 (f : Int) : Nat → Option (St → Ann) := fun _ => none
set_option maxRecDepth 100000 in
theorem f36_vc (f : Int) :
    br (decide (f < (1 : Int)) || decide ((10 : Int) < f)) (([] : List Go.Eng.Res) = [] ∧ Ent.one (SV.c (SC.v (Value.string (nameS f)))) = Ent.one (SV.c (SC.v (Value.string { data := #[] : ByteArray })))) (InR IntKind.i64 (f - (1 : Int)) ∧ ((0 : Int) ≤ f - (1 : Int) ∧ f - (1 : Int) < (10 : Int)) ∧ ∀ (d : ByteArray), namesD[(f - (1 : Int)).toNat]? = some d → ([] : List Go.Eng.Res) = [] ∧ Ent.one (SV.c (SC.v (Value.string (nameS f)))) = Ent.one (SV.c (SC.v (Value.string d)))) := by
  refine br_iff.2 ⟨fun h => ?_, fun h => ?_⟩
  · simp only [Bool.or_eq_true, decide_eq_true_eq] at h
    rw [show nameS f = ByteArray.empty from if_neg (by omega)]
    exact ⟨rfl, rfl⟩
  · simp only [Bool.or_eq_false_iff, decide_eq_false_iff_not] at h
    refine ⟨InR_i64.2 (by omega), by omega, fun d hd => ⟨rfl, ?_⟩⟩
    rw [show nameS f = namesD.getD (f - 1).toNat ByteArray.empty from if_pos (by omega), List.getD, hd]; rfl
set_option maxRecDepth 100000 in
theorem f36_met : Met Tryd.prog cx0.gd 36 ct36 :=
  met_of (cx := cx0) (n := 13) (cl := cl36) (by kernel_rfl) tis_ok trivial Tryd.func36 (by kernel_rfl) (by kernel_rfl) rfl (by kernel_rfl) (by kernel_rfl) fun d hd => by
    obtain ⟨f, ⟨⟩⟩ := d
    exact ⟨ann36 f, cast (by kernel_rfl) (f36_vc f)⟩
@[reducible] def ct38 : CT := { ps := [.int .i64], pre := fun d => True, res := fun d => ([], .one (.c (.v (.string (nameS d.1))))) }
@[reducible] def cl38 : List (Nat × CT) := []
@[reducible] def ann38 (f : Int) : Nat → Option (St → Ann) := fun _ => none
set_option maxRecDepth 100000 in
theorem f38_vc (f : Int) :
    br (decide (f = (1 : Int))) (([] : List Go.Eng.Res) = [] ∧ Ent.one (SV.c (SC.v (Value.string (nameS f)))) = Ent.one (SV.c (SC.v (Value.string { data := #[(97 : UInt8), (100 : UInt8), (100 : UInt8)] : ByteArray })))) (br (decide (f = (2 : Int))) (([] : List Go.Eng.Res) = [] ∧ Ent.one (SV.c (SC.v (Value.string (nameS f)))) = Ent.one (SV.c (SC.v (Value.string { data := #[(115 : UInt8), (117 : UInt8), (98 : UInt8)] : ByteArray })))) (br (decide (f = (3 : Int))) (([] : List Go.Eng.Res) = [] ∧ Ent.one (SV.c (SC.v (Value.string (nameS f)))) = Ent.one (SV.c (SC.v (Value.string { data := #[(109 : UInt8), (117 : UInt8), (108 : UInt8)] : ByteArray })))) (br (decide (f = (4 : Int))) (([] : List Go.Eng.Res) = [] ∧ Ent.one (SV.c (SC.v (Value.string (nameS f)))) = Ent.one (SV.c (SC.v (Value.string { data := #[(97 : UInt8), (110 : UInt8), (100 : UInt8)] : ByteArray })))) (br (decide (f = (5 : Int))) (([] : List Go.Eng.Res) = [] ∧ Ent.one (SV.c (SC.v (Value.string (nameS f)))) = Ent.one (SV.c (SC.v (Value.string { data := #[(111 : UInt8), (114 : UInt8)] : ByteArray })))) (br (decide (f = (6 : Int))) (([] : List Go.Eng.Res) = [] ∧ Ent.one (SV.c (SC.v (Value.string (nameS f)))) = Ent.one (SV.c (SC.v (Value.string { data := #[(120 : UInt8), (111 : UInt8), (114 : UInt8)] : ByteArray })))) (br (decide (f = (7 : Int))) (([] : List Go.Eng.Res) = [] ∧ Ent.one (SV.c (SC.v (Value.string (nameS f)))) = Ent.one (SV.c (SC.v (Value.string { data := #[(101 : UInt8), (113 : UInt8)] : ByteArray })))) (br (decide (f = (8 : Int))) (([] : List Go.Eng.Res) = [] ∧ Ent.one (SV.c (SC.v (Value.string (nameS f)))) = Ent.one (SV.c (SC.v (Value.string { data := #[(110 : UInt8), (101 : UInt8)] : ByteArray })))) (br (decide (f = (9 : Int))) (([] : List Go.Eng.Res) = [] ∧ Ent.one (SV.c (SC.v (Value.string (nameS f)))) = Ent.one (SV.c (SC.v (Value.string { data := #[(108 : UInt8), (116 : UInt8)] : ByteArray })))) (br (decide (f = (10 : Int))) (([] : List Go.Eng.Res) = [] ∧ Ent.one (SV.c (SC.v (Value.string (nameS f)))) = Ent.one (SV.c (SC.v (Value.string { data := #[(108 : UInt8), (101 : UInt8)] : ByteArray })))) (([] : List Go.Eng.Res) = [] ∧ Ent.one (SV.c (SC.v (Value.string (nameS f)))) = Ent.one (SV.c (SC.v (Value.string { data := #[] : ByteArray }))))))))))))) := by
  by_cases h : 1 ≤ f ∧ f ≤ 10
  · have : f = 1 ∨ f = 2 ∨ f = 3 ∨ f = 4 ∨ f = 5 ∨ f = 6 ∨ f = 7 ∨ f = 8 ∨ f = 9 ∨ f = 10 := by omega
    rcases this with rfl | rfl | rfl | rfl | rfl | rfl | rfl | rfl | rfl | rfl <;> exact ⟨rfl, rfl⟩
  · have e : nameS f = ByteArray.empty := if_neg h
    rw [e]
    rw [show decide (f = 1) = false from decide_eq_false (by omega)]
    rw [show decide (f = 2) = false from decide_eq_false (by omega)]
    rw [show decide (f = 3) = false from decide_eq_false (by omega)]
    rw [show decide (f = 4) = false from decide_eq_false (by omega)]
    rw [show decide (f = 5) = false from decide_eq_false (by omega)]
    rw [show decide (f = 6) = false from decide_eq_false (by omega)]
    rw [show decide (f = 7) = false from decide_eq_false (by omega)]
    rw [show decide (f = 8) = false from decide_eq_false (by omega)]
    rw [show decide (f = 9) = false from decide_eq_false (by omega)]
    rw [show decide (f = 10) = false from decide_eq_false (by omega)]
    exact ⟨rfl, rfl⟩
set_option maxRecDepth 100000 in
theorem f38_met : Met Tryd.prog cx0.gd 38 ct38 :=
  met_of (cx := cx0) (n := 24) (cl := cl38) (by kernel_rfl) tis_ok trivial Tryd.func38 (by kernel_rfl) (by kernel_rfl) rfl (by kernel_rfl) (by kernel_rfl) fun d hd => by
    obtain ⟨f, ⟨⟩⟩ := d
    exact ⟨ann38 f, cast (by kernel_rfl) (f38_vc f)⟩
def hasF (op c : Int) : Bool := decide (1 ≤ op) && decide (op ≤ 22) && ((fieldsD.getD (op - 1).toNat ByteArray.empty).data.toList.any fun b => decide ((b.toNat : Int) = c))
@[reducible] def ct33 : CT := { ps := [.int .i64, .int .u8], pre := fun d => True, res := fun d => ([], vB (hasF d.1 d.2.1)) }
@[reducible] def cl33 : List (Nat × CT) := [(43, ct43)]
@[reducible] def ann33 (op : Int) (c : Int) : Nat → Option (St → Ann) := fun k => match k with
  | 5 => some fun s => .inv { α := Nat, slots := fun k => [(6, .c (.v (.int .i64 k)))], res := fun _ => [], inv := fun k => k ≤ (slotS s 5).size ∧ ∀ j, j < k → ∀ b, (slotS s 5)[j]? = some b → ¬ ((b.toNat : Int) = c), meas := fun k => (slotS s 5).size - k }
  | _ => none
set_option maxRecDepth 100000 in
theorem f33_vc (op : Int) (c : Int) :
    br (decide (op < (1 : Int)) || decide ((22 : Int) < op)) (([] : List Go.Eng.Res) = [] ∧ Ent.one (SV.c (SC.v (Value.bool (hasF op c)))) = Ent.one (SV.c (SC.v (Value.bool false)))) (True ∧ InR IntKind.i64 (op - (1 : Int)) ∧ ((0 : Int) ≤ op - (1 : Int) ∧ op - (1 : Int) < (22 : Int)) ∧ (op - (1 : Int)).toNat < (22 : Nat) ∧ ∀ (d : ByteArray), fieldsD[(op - (1 : Int)).toNat]? = some d → (∃ x, (x ≤ d.size ∧ ∀ (j : Nat), j < x → ∀ (b : UInt8), d[j]? = some b → ¬(↑b.toNat : Int) = c) ∧ (SV.c (SC.v (Value.int IntKind.i64 (0 : Int))) = SV.c (SC.v (Value.int IntKind.i64 (↑x : Int))) ∧ True) ∧ [(([] : Go.Eng.Gd), Res.row (9 : TypeId) Sh.str fieldsD)] = [(([] : Go.Eng.Gd), Res.row (9 : TypeId) Sh.str fieldsD)]) ∧ ∀ (x : Nat), (x ≤ d.size ∧ ∀ (j : Nat), j < x → ∀ (b : UInt8), d[j]? = some b → ¬(↑b.toNat : Int) = c) → br (decide ((↑x : Int) < (↑d.size : Int))) (((0 : Int) ≤ (↑x : Int) ∧ (↑x : Int) < (↑d.size : Int)) ∧ ∀ (u : UInt8), d[(↑x : Int).toNat]? = some u → br (decide ((↑u.toNat : Int) = c)) (([] : List Go.Eng.Res) = [] ∧ Ent.one (SV.c (SC.v (Value.bool (hasF op c)))) = Ent.one (SV.c (SC.v (Value.bool true)))) (InR IntKind.i64 ((↑x : Int) + (1 : Int)) ∧ ∃ x', (x' ≤ d.size ∧ ∀ (j : Nat), j < x' → ∀ (b : UInt8), d[j]? = some b → ¬(↑b.toNat : Int) = c) ∧ (SV.c (SC.v (Value.int IntKind.i64 ((↑x : Int) + (1 : Int)))) = SV.c (SC.v (Value.int IntKind.i64 (↑x' : Int))) ∧ True) ∧ [(([] : Go.Eng.Gd), Res.row (9 : TypeId) Sh.str fieldsD)] = [(([] : Go.Eng.Gd), Res.row (9 : TypeId) Sh.str fieldsD)] ∧ d.size - x' < d.size - x)) (([] : List Go.Eng.Res) = [] ∧ Ent.one (SV.c (SC.v (Value.bool (hasF op c)))) = Ent.one (SV.c (SC.v (Value.bool false))))) := by
  refine br_iff.2 ⟨fun h => ?_, fun h => ?_⟩
  · simp only [Bool.or_eq_true, decide_eq_true_eq] at h
    have : hasF op c = false := by
      unfold hasF
      by_cases h1 : 1 ≤ op <;> by_cases h2 : op ≤ 22 <;> simp [h1, h2]
      omega
    rw [this]; exact ⟨rfl, rfl⟩
  · simp only [Bool.or_eq_false_iff, decide_eq_false_iff_not] at h
    refine ⟨trivial, InR_i64.2 (by omega), by omega, by omega, fun d hd => ⟨⟨0, ⟨by omega, fun j hj => by omega⟩, ⟨rfl, trivial⟩, rfl⟩, fun x hx => ?_⟩⟩
    have e : hasF op c = d.data.toList.any fun b => decide ((b.toNat : Int) = c) := by
      unfold hasF
      rw [List.getD, hd]
      simp [show 1 ≤ op by omega, show op ≤ 22 by omega]
    have hs : d.size ≤ 9 := (show ∀ d ∈ fieldsD, d.size ≤ 9 by decide) d (List.mem_of_getElem? hd)
    have get : ∀ j : Nat, d[j]? = d.data.toList[j]? := ba_get d
    refine br_iff.2 ⟨fun hlt => ⟨by simp only [decide_eq_true_eq] at hlt; omega, fun u hu => br_iff.2 ⟨fun hc => ?_, fun hc => ?_⟩⟩, fun hge => ?_⟩
    · simp only [decide_eq_true_eq] at hc
      have hm : u ∈ d.data.toList := List.mem_of_getElem? (i := x) (by rw [← get]; simpa using hu)
      rw [e, List.any_eq_true.2 ⟨u, hm, by simpa using hc⟩]
      exact ⟨rfl, rfl⟩
    · simp only [decide_eq_false_iff_not] at hc
      simp only [decide_eq_true_eq] at hlt
      refine ⟨InR_i64.2 (by omega), x + 1, ⟨by omega, fun j hj b hb => ?_⟩, ⟨by simp, trivial⟩, rfl, by omega⟩
      by_cases hjx : j = x
      · subst hjx
        have : some u = some b := by rw [← hu, ← hb]; simp
        cases this; exact hc
      · exact hx.2 j (by omega) b hb
    · simp only [decide_eq_false_iff_not] at hge
      have : hasF op c = false := by
        rw [e, List.any_eq_false]
        intro b hb
        obtain ⟨j, hj⟩ := List.getElem?_of_mem hb
        have hj' : j < d.data.toList.length := (List.getElem?_eq_some_iff.1 hj).1
        have hsz : d.data.toList.length = d.size := by cases d; simp [ByteArray.size]
        simpa using hx.2 j (by omega) b (by rw [get]; exact hj)
      rw [this]
      exact ⟨rfl, rfl⟩
set_option maxRecDepth 100000 in
theorem f33_met : Met Tryd.prog cx0.gd 33 ct33 :=
  met_of (cx := cx0) (n := 29) (cl := cl33) (by kernel_rfl) tis_ok ⟨f43_met, trivial⟩ Tryd.func33 (by kernel_rfl) (by kernel_rfl) rfl (by kernel_rfl) (by kernel_rfl) fun d hd => by
    obtain ⟨op, c, ⟨⟩⟩ := d
    exact ⟨ann33 op c, cast (by kernel_rfl) (f33_vc op c)⟩
end Go.Proofs.YtpkccknamoldeaaDoor
