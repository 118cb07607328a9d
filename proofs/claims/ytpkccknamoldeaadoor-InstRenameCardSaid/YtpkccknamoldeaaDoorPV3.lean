/- The functions of the Inst chapter, part 3. -/
import Derived.Test.YtpkccknamoldeaaDoorPV2
import Derived.Test.YtpkccknamoldeaaDoorEngV
set_option linter.unusedSimpArgs false
set_option linter.unusedVariables false
set_option maxRecDepth 100000
namespace Go.Proofs.YtpkccknamoldeaaDoor
open Go Go.Eng

def visS (op : Int) : Bool := decide (8 ≤ op) && decide (op ≤ 22)
def drnS (op : Int) : Bool := visS op && !decide (op = 8) && !decide (op = 9) && !decide (op = 14)
def idxS (l : List ByteArray) (s : ByteArray) : Option Nat := l.findIdx? fun x => decide (x = s)
def byMn (s : ByteArray) : Int := match idxS mnsD s with | some k => (k : Int) + 1 | none => 0
def byMnOk (s : ByteArray) : Bool := (idxS mnsD s).isSome
def byOrd (s : ByteArray) : Int := match idxS ordersD s with | some k => (k : Int) | none => 0
def byOrdOk (s : ByteArray) : Bool := (idxS ordersD s).isSome
theorem known_of_chk {op a b c obj n fn ord : Int} (h : chkS op a b c obj n fn ord = 0) : 1 ≤ op ∧ op ≤ 22 := by
  unfold chkS at h
  split at h
  · cases h
  · rename_i hk
    have : knownS op = true := by simpa using hk
    simpa [knownS] using this
theorem idx_hit {l : List ByteArray} {s d : ByteArray} {k : Nat} (h : l[k]? = some d) (hd : d = s) (hj : ∀ j, j < k → ∀ b, l[j]? = some b → ¬ b = s) : idxS l s = some k := by
  subst hd
  obtain ⟨hk, e⟩ := List.getElem?_eq_some_iff.1 h
  unfold idxS
  rw [List.findIdx?_eq_some_iff_getElem]
  refine ⟨hk, by simp [e], fun j hjk => ?_⟩
  have := hj j hjk l[j] (List.getElem?_eq_getElem (by omega))
  simpa using this
theorem idx_none {l : List ByteArray} {s : ByteArray} {k : Nat} (hk : l.length ≤ k) (hj : ∀ j, j < k → ∀ b, l[j]? = some b → ¬ b = s) : idxS l s = none := by
  unfold idxS
  rw [List.findIdx?_eq_none_iff]
  intro b hb
  obtain ⟨j, hl⟩ := List.getElem?_of_mem hb
  have := (List.getElem?_eq_some_iff.1 hl).1
  simpa using hj j (by omega) b hl
@[reducible] def ct8 : CT := { ps := [shI], pre := fun d => True, res := fun d => ([], .tup [.c (.v (.int .i64 (if (chkS d.1.1 d.1.2.1 d.1.2.2.1 d.1.2.2.2.1 d.1.2.2.2.2.1 d.1.2.2.2.2.2.1 d.1.2.2.2.2.2.2.1 d.1.2.2.2.2.2.2.2.1) = 0 ∧ use d.1.1 0 = true then d.1.2.1 else 0))), .c (.v (.bool (decide ((chkS d.1.1 d.1.2.1 d.1.2.2.1 d.1.2.2.2.1 d.1.2.2.2.2.1 d.1.2.2.2.2.2.1 d.1.2.2.2.2.2.2.1 d.1.2.2.2.2.2.2.2.1) = 0) && use d.1.1 0)))]) }
@[reducible] def cl8 : List (Nat × CT) := [(11, ct11)]
@[reducible] def ann8 (op : Int) (a : Int) (b : Int) (c : Int) (obj : Int) (n : Int) (fn : Int) (ord : Int) : Nat → Option (St → Ann) := fun _ => none
set_option maxRecDepth 100000 in
theorem f8_vc (op : Int) (a : Int) (b : Int) (c : Int) (obj : Int) (n : Int) (fn : Int) (ord : Int) :
    True ∧ ((!!decide (chkS op a b c obj n fn ord = (0 : Int))) = true → InR IntKind.i64 (op - (1 : Int))) ∧ ((!!decide (chkS op a b c obj n fn ord = (0 : Int))) = true → (0 : Int) ≤ op - (1 : Int) ∧ op - (1 : Int) < (22 : Int)) ∧ ∀ (d : Sh.str.den × ((Sh.arr (7 : Nat) Sh.bool).pair Sh.unit).den), ((!!decide (chkS op a b c obj n fn ord = (0 : Int))) = true → rowsD[(op - (1 : Int)).toNat]? = some d) → ((!!decide (chkS op a b c obj n fn ord = (0 : Int))) = true → (0 : Int) ≤ (0 : Int) ∧ (0 : Int) < (↑(List.length d.snd.fst) : Int)) ∧ ∀ (d_1 : Bool), ((!!decide (chkS op a b c obj n fn ord = (0 : Int))) = true → d.snd.fst[(0 : Nat)]? = some d_1) → br (!decide (chkS op a b c obj n fn ord = (0 : Int)) || !d_1) (([] : List Go.Eng.Res) = [] ∧ Ent.tup [SV.c (SC.v (Value.int IntKind.i64 (if chkS op a b c obj n fn ord = (0 : Int) ∧ use op (0 : Nat) = true then a else (0 : Int)))), SV.c (SC.v (Value.bool (decide (chkS op a b c obj n fn ord = (0 : Int)) && use op (0 : Nat))))] = Ent.tup [SV.c (SC.v (Value.int IntKind.i64 (0 : Int))), SV.c (SC.v (Value.bool false))]) (([] : List Go.Eng.Res) = [] ∧ Ent.tup [SV.c (SC.v (Value.int IntKind.i64 (if chkS op a b c obj n fn ord = (0 : Int) ∧ use op (0 : Nat) = true then a else (0 : Int)))), SV.c (SC.v (Value.bool (decide (chkS op a b c obj n fn ord = (0 : Int)) && use op (0 : Nat))))] = Ent.tup [SV.c (SC.v (Value.int IntKind.i64 a)), SV.c (SC.v (Value.bool true))]) := by
  by_cases hc : chkS op a b c obj n fn ord = 0
  · have hb := known_of_chk hc
    refine ⟨trivial, fun _ => InR_i64.2 (by omega), fun _ => by omega, fun d hd => ?_⟩
    have hd := hd (by simp [hc])
    obtain ⟨nm, us, ⟨⟩⟩ := d
    have hu := rows_use hb hd
    subst hu
    refine ⟨fun _ => by simp, fun d1 h1 => ?_⟩
    have h1 := h1 (by simp [hc])
    simp only [List.getElem?_cons_zero, Option.some.injEq] at h1
    subst h1
    cases hu0 : use op 0 <;> simp [br, hc]
  · refine ⟨trivial, fun h => by simp [hc] at h, fun h => by simp [hc] at h, fun d hd => ⟨fun h => by simp [hc] at h, fun d1 h1 => ?_⟩⟩
    simp [br, hc]
set_option maxRecDepth 100000 in
theorem f8_met : Go.Eng.Met Tryd.prog cx0.gd 8 ct8 :=
  met_of (cx := cx0) (n := 19) (cl := cl8) (by kernel_rfl) tis_ok ⟨f11_met, trivial⟩ Tryd.func8 (by kernel_rfl) (by kernel_rfl) rfl (by kernel_rfl) (by kernel_rfl) fun d hd => by
    obtain ⟨⟨op, a, b, c, obj, n, fn, ord, ⟨⟩⟩, ⟨⟩⟩ := d
    exact ⟨ann8 op a b c obj n fn ord, cast (by kernel_rfl) (f8_vc op a b c obj n fn ord)⟩
@[reducible] def ct9 : CT := { ps := [shI], pre := fun d => True, res := fun d => ([], .tup [.c (.v (.int .i64 (if (chkS d.1.1 d.1.2.1 d.1.2.2.1 d.1.2.2.2.1 d.1.2.2.2.2.1 d.1.2.2.2.2.2.1 d.1.2.2.2.2.2.2.1 d.1.2.2.2.2.2.2.2.1) = 0 ∧ use d.1.1 0 = true then d.1.2.1 else 0))), .c (.v (.bool (decide ((chkS d.1.1 d.1.2.1 d.1.2.2.1 d.1.2.2.2.1 d.1.2.2.2.2.1 d.1.2.2.2.2.2.1 d.1.2.2.2.2.2.2.1 d.1.2.2.2.2.2.2.2.1) = 0) && use d.1.1 0)))]) }
@[reducible] def cl9 : List (Nat × CT) := [(12, ct12), (33, ct33)]
@[reducible] def ann9 (op : Int) (a : Int) (b : Int) (c : Int) (obj : Int) (n : Int) (fn : Int) (ord : Int) : Nat → Option (St → Ann) := fun _ => none
set_option maxRecDepth 100000 in
theorem f9_vc (op : Int) (a : Int) (b : Int) (c : Int) (obj : Int) (n : Int) (fn : Int) (ord : Int) :
    True ∧ ((!!decide (chkS op a b c obj n fn ord = (0 : Int))) = true → True) ∧ br (!decide (chkS op a b c obj n fn ord = (0 : Int)) || !hasF op (65 : Int)) (([] : List Go.Eng.Res) = [] ∧ Ent.tup [SV.c (SC.v (Value.int IntKind.i64 (if chkS op a b c obj n fn ord = (0 : Int) ∧ use op (0 : Nat) = true then a else (0 : Int)))), SV.c (SC.v (Value.bool (decide (chkS op a b c obj n fn ord = (0 : Int)) && use op (0 : Nat))))] = Ent.tup [SV.c (SC.v (Value.int IntKind.i64 (0 : Int))), SV.c (SC.v (Value.bool false))]) (([] : List Go.Eng.Res) = [] ∧ Ent.tup [SV.c (SC.v (Value.int IntKind.i64 (if chkS op a b c obj n fn ord = (0 : Int) ∧ use op (0 : Nat) = true then a else (0 : Int)))), SV.c (SC.v (Value.bool (decide (chkS op a b c obj n fn ord = (0 : Int)) && use op (0 : Nat))))] = Ent.tup [SV.c (SC.v (Value.int IntKind.i64 a)), SV.c (SC.v (Value.bool true))]) := by
  rw [(has_use op).1]
  refine ⟨trivial, fun _ => trivial, ?_⟩
  by_cases hc : chkS op a b c obj n fn ord = 0 <;> cases hu0 : use op 0 <;> simp [br, hc]
set_option maxRecDepth 100000 in
theorem f9_met : Go.Eng.Met Tryd.prog cx0.gd 9 ct9 :=
  met_of (cx := cx0) (n := 15) (cl := cl9) (by kernel_rfl) tis_ok ⟨f12_met, f33_met, trivial⟩ Tryd.func9 (by kernel_rfl) (by kernel_rfl) rfl (by kernel_rfl) (by kernel_rfl) fun d hd => by
    obtain ⟨⟨op, a, b, c, obj, n, fn, ord, ⟨⟩⟩, ⟨⟩⟩ := d
    exact ⟨ann9 op a b c obj n fn ord, cast (by kernel_rfl) (f9_vc op a b c obj n fn ord)⟩
@[reducible] def ct42 : CT := { ps := [], pre := fun d => True, res := fun d => ([.row 9 .str mnsD], .one (.c (.row 0))) }
@[reducible] def cl42 : List (Nat × CT) := []
@[reducible] def ann42  : Nat → Option (St → Ann) := fun _ => none
set_option maxRecDepth 100000 in
theorem f42_vc  :
    [Res.row (9 : TypeId) Sh.str mnsD] = [Res.row (9 : TypeId) Sh.str [{ data := #[(99 : UInt8), (111 : UInt8), (110 : UInt8), (115 : UInt8), (116 : UInt8)] : ByteArray }, { data := #[(99 : UInt8), (111 : UInt8), (112 : UInt8), (121 : UInt8)] : ByteArray }, { data := #[(99 : UInt8), (97 : UInt8), (108 : UInt8), (99 : UInt8)] : ByteArray }, { data := #[(106 : UInt8), (117 : UInt8), (109 : UInt8), (112 : UInt8)] : ByteArray }, { data := #[(98 : UInt8), (114 : UInt8), (97 : UInt8), (110 : UInt8), (99 : UInt8), (104 : UInt8)] : ByteArray }, { data := #[(97 : UInt8), (115 : UInt8), (115 : UInt8), (101 : UInt8), (114 : UInt8), (116 : UInt8)] : ByteArray }, { data := #[(115 : UInt8), (116 : UInt8), (111 : UInt8), (112 : UInt8)] : ByteArray }, { data := #[(108 : UInt8), (111 : UInt8), (97 : UInt8), (100 : UInt8)] : ByteArray }, { data := #[(115 : UInt8), (116 : UInt8), (111 : UInt8), (114 : UInt8), (101 : UInt8)] : ByteArray }, { data := #[(115 : UInt8), (119 : UInt8), (97 : UInt8), (112 : UInt8)] : ByteArray }, { data := #[(102 : UInt8), (101 : UInt8), (116 : UInt8), (99 : UInt8), (104 : UInt8), (97 : UInt8), (100 : UInt8), (100 : UInt8)] : ByteArray }, { data := #[(99 : UInt8), (97 : UInt8), (115 : UInt8)] : ByteArray }, { data := #[(102 : UInt8), (101 : UInt8), (110 : UInt8), (99 : UInt8), (101 : UInt8)] : ByteArray }, { data := #[(97 : UInt8), (119 : UInt8), (97 : UInt8), (105 : UInt8), (116 : UInt8)] : ByteArray }, { data := #[(108 : UInt8), (111 : UInt8), (99 : UInt8), (107 : UInt8)] : ByteArray }, { data := #[(117 : UInt8), (110 : UInt8), (108 : UInt8), (111 : UInt8), (99 : UInt8), (107 : UInt8)] : ByteArray }, { data := #[(116 : UInt8), (114 : UInt8), (121 : UInt8), (108 : UInt8), (111 : UInt8), (99 : UInt8), (107 : UInt8)] : ByteArray }, { data := #[(119 : UInt8), (97 : UInt8), (105 : UInt8), (116 : UInt8)] : ByteArray }, { data := #[(115 : UInt8), (105 : UInt8), (103 : UInt8), (110 : UInt8), (97 : UInt8), (108 : UInt8)] : ByteArray }, { data := #[(98 : UInt8), (114 : UInt8), (111 : UInt8), (97 : UInt8), (100 : UInt8), (99 : UInt8), (97 : UInt8), (115 : UInt8), (116 : UInt8)] : ByteArray }, { data := #[(115 : UInt8), (112 : UInt8), (97 : UInt8), (119 : UInt8), (110 : UInt8)] : ByteArray }, { data := #[(106 : UInt8), (111 : UInt8), (105 : UInt8), (110 : UInt8)] : ByteArray }]] ∧ Ent.one (SV.c (SC.row (0 : Nat))) = Ent.one (SV.c (SC.row (0 : Nat))) := by
  exact ⟨rfl, rfl⟩
set_option maxRecDepth 100000 in
theorem f42_met : Go.Eng.Met Tryd.prog cx0.gd 42 ct42 :=
  met_of (cx := cx0) (n := 2) (cl := cl42) (by kernel_rfl) tis_ok trivial Tryd.func42 (by kernel_rfl) (by kernel_rfl) rfl (by kernel_rfl) (by kernel_rfl) fun d hd => by
    obtain ⟨⟩ := d
    exact ⟨ann42 , cast (by kernel_rfl) (f42_vc )⟩
@[reducible] def ct29 : CT := { ps := [.int .i64], pre := fun d => True, res := fun d => ([], .one (.c (.v (.string (mnS d.1))))) }
@[reducible] def cl29 : List (Nat × CT) := [(34, ct34)]
@[reducible] def ann29 (op : Int) : Nat → Option (St → Ann) := fun _ => none
set_option maxRecDepth 100000 in
theorem f29_vc (op : Int) :
    True ∧ br (!knownS op) (([] : List Go.Eng.Res) = [] ∧ Ent.one (SV.c (SC.v (Value.string (mnS op)))) = Ent.one (SV.c (SC.v (Value.string { data := #[] : ByteArray })))) (InR IntKind.i64 (op - (1 : Int)) ∧ ((0 : Int) ≤ op - (1 : Int) ∧ op - (1 : Int) < (22 : Int)) ∧ ∀ (d : Sh.str.den × ((Sh.arr (7 : Nat) Sh.bool).pair Sh.unit).den), rowsD[(op - (1 : Int)).toNat]? = some d → ([] : List Go.Eng.Res) = [] ∧ Ent.one (SV.c (SC.v (Value.string (mnS op)))) = Ent.one (SV.c (SC.v (Value.string d.fst)))) := by
  refine ⟨trivial, br_iff.2 ⟨fun h => ?_, fun h => ?_⟩⟩
  · have hk : ¬ (1 ≤ op ∧ op ≤ 22) := by simp [knownS] at h; omega
    rw [show mnS op = ByteArray.empty from if_neg hk]
    exact ⟨rfl, rfl⟩
  · have hb : 1 ≤ op ∧ op ≤ 22 := by simpa [knownS] using h
    refine ⟨InR_i64.2 (by omega), by omega, fun d hd => ⟨rfl, ?_⟩⟩
    have e : mnsD = rowsD.map fun r => r.1 := by decide
    rw [show mnS op = mnsD.getD (op - 1).toNat ByteArray.empty from if_pos hb, e, List.getD, List.getElem?_map, hd]; rfl
set_option maxRecDepth 100000 in
theorem f29_met : Go.Eng.Met Tryd.prog cx0.gd 29 ct29 :=
  met_of (cx := cx0) (n := 11) (cl := cl29) (by kernel_rfl) tis_ok ⟨f34_met, trivial⟩ Tryd.func29 (by kernel_rfl) (by kernel_rfl) rfl (by kernel_rfl) (by kernel_rfl) fun d hd => by
    obtain ⟨op, ⟨⟩⟩ := d
    exact ⟨ann29 op, cast (by kernel_rfl) (f29_vc op)⟩
@[reducible] def ct30 : CT := { ps := [.int .i64], pre := fun d => True, res := fun d => ([], .one (.c (.v (.string (mnS d.1))))) }
@[reducible] def cl30 : List (Nat × CT) := [(42, ct42)]
@[reducible] def ann30 (op : Int) : Nat → Option (St → Ann) := fun _ => none
set_option maxRecDepth 100000 in
theorem f30_vc (op : Int) :
    br (decide (op < (1 : Int)) || decide ((22 : Int) < op)) (([] : List Go.Eng.Res) = [] ∧ Ent.one (SV.c (SC.v (Value.string (mnS op)))) = Ent.one (SV.c (SC.v (Value.string { data := #[] : ByteArray })))) (True ∧ InR IntKind.i64 (op - (1 : Int)) ∧ ((0 : Int) ≤ op - (1 : Int) ∧ op - (1 : Int) < (22 : Int)) ∧ (op - (1 : Int)).toNat < (22 : Nat) ∧ ∀ (d : ByteArray), mnsD[(op - (1 : Int)).toNat]? = some d → ([] : List Go.Eng.Res) = [] ∧ Ent.one (SV.c (SC.v (Value.string (mnS op)))) = Ent.one (SV.c (SC.v (Value.string d)))) := by
  refine br_iff.2 ⟨fun h => ?_, fun h => ?_⟩
  · simp only [Bool.or_eq_true, decide_eq_true_eq] at h
    rw [show mnS op = ByteArray.empty from if_neg (by omega)]
    exact ⟨rfl, rfl⟩
  · simp only [Bool.or_eq_false_iff, decide_eq_false_iff_not] at h
    refine ⟨trivial, InR_i64.2 (by omega), by omega, by omega, fun d hd => ⟨rfl, ?_⟩⟩
    rw [show mnS op = mnsD.getD (op - 1).toNat ByteArray.empty from if_pos (by omega), List.getD, hd]; rfl
set_option maxRecDepth 100000 in
theorem f30_met : Go.Eng.Met Tryd.prog cx0.gd 30 ct30 :=
  met_of (cx := cx0) (n := 14) (cl := cl30) (by kernel_rfl) tis_ok ⟨f42_met, trivial⟩ Tryd.func30 (by kernel_rfl) (by kernel_rfl) rfl (by kernel_rfl) (by kernel_rfl) fun d hd => by
    obtain ⟨op, ⟨⟩⟩ := d
    exact ⟨ann30 op, cast (by kernel_rfl) (f30_vc op)⟩
@[reducible] def ct31 : CT := { ps := [.int .i64], pre := fun d => True, res := fun d => ([], .one (.c (.v (.string (ordS d.1))))) }
@[reducible] def cl31 : List (Nat × CT) := []
@[reducible] def ann31 (o : Int) : Nat → Option (St → Ann) := fun _ => none
set_option maxRecDepth 100000 in
theorem f31_vc (o : Int) :
    br (decide (o < (0 : Int)) || decide ((2 : Int) < o)) (([] : List Go.Eng.Res) = [] ∧ Ent.one (SV.c (SC.v (Value.string (ordS o)))) = Ent.one (SV.c (SC.v (Value.string { data := #[] : ByteArray })))) (((0 : Int) ≤ o ∧ o < (3 : Int)) ∧ ∀ (d : ByteArray), ordersD[o.toNat]? = some d → ([] : List Go.Eng.Res) = [] ∧ Ent.one (SV.c (SC.v (Value.string (ordS o)))) = Ent.one (SV.c (SC.v (Value.string d)))) := by
  refine br_iff.2 ⟨fun h => ?_, fun h => ?_⟩
  · simp only [Bool.or_eq_true, decide_eq_true_eq] at h
    rw [show ordS o = ByteArray.empty from if_neg (by omega)]
    exact ⟨rfl, rfl⟩
  · simp only [Bool.or_eq_false_iff, decide_eq_false_iff_not] at h
    refine ⟨by omega, fun d hd => ⟨rfl, ?_⟩⟩
    rw [show ordS o = ordersD.getD o.toNat ByteArray.empty from if_pos (by omega), List.getD, hd]; rfl
set_option maxRecDepth 100000 in
theorem f31_met : Go.Eng.Met Tryd.prog cx1.gd 31 ct31 :=
  met_of (cx := cx1) (n := 12) (cl := cl31) (by kernel_rfl) tis_ok trivial Tryd.func31 (by kernel_rfl) (by kernel_rfl) rfl (by kernel_rfl) (by kernel_rfl) fun d hd => by
    obtain ⟨o, ⟨⟩⟩ := d
    exact ⟨ann31 o, cast (by kernel_rfl) (f31_vc o)⟩
@[reducible] def ct32 : CT := { ps := [.int .i64], pre := fun d => True, res := fun d => ([], .one (.c (.v (.string (ordS d.1))))) }
@[reducible] def cl32 : List (Nat × CT) := []
@[reducible] def ann32 (o : Int) : Nat → Option (St → Ann) := fun _ => none
set_option maxRecDepth 100000 in
theorem f32_vc (o : Int) :
    br (decide (o < (0 : Int)) || decide ((2 : Int) < o)) (([] : List Go.Eng.Res) = [] ∧ Ent.one (SV.c (SC.v (Value.string (ordS o)))) = Ent.one (SV.c (SC.v (Value.string { data := #[] : ByteArray })))) (((0 : Int) ≤ o ∧ o < (3 : Int)) ∧ o.toNat < (3 : Nat) ∧ ∀ (d : ByteArray), [{ data := #[(112 : UInt8), (108 : UInt8), (97 : UInt8), (105 : UInt8), (110 : UInt8)] : ByteArray }, { data := #[(114 : UInt8), (101 : UInt8), (108 : UInt8), (97 : UInt8), (120 : UInt8), (101 : UInt8), (100 : UInt8)] : ByteArray }, { data := #[(114 : UInt8), (101 : UInt8), (108 : UInt8), (97 : UInt8), (99 : UInt8), (113 : UInt8)] : ByteArray }][o.toNat]? = some d → ([] : List Go.Eng.Res) = [] ∧ Ent.one (SV.c (SC.v (Value.string (ordS o)))) = Ent.one (SV.c (SC.v (Value.string d)))) := by
  refine br_iff.2 ⟨fun h => ?_, fun h => ?_⟩
  · simp only [Bool.or_eq_true, decide_eq_true_eq] at h
    rw [show ordS o = ByteArray.empty from if_neg (by omega)]
    exact ⟨rfl, rfl⟩
  · simp only [Bool.or_eq_false_iff, decide_eq_false_iff_not] at h
    refine ⟨by omega, by omega, fun d hd => ⟨rfl, ?_⟩⟩
    have hd : ordersD[o.toNat]? = some d := hd
    rw [show ordS o = ordersD.getD o.toNat ByteArray.empty from if_pos (by omega), List.getD, hd]; rfl
set_option maxRecDepth 100000 in
theorem f32_met : Go.Eng.Met Tryd.prog cx0.gd 32 ct32 :=
  met_of (cx := cx0) (n := 13) (cl := cl32) (by kernel_rfl) tis_ok trivial Tryd.func32 (by kernel_rfl) (by kernel_rfl) rfl (by kernel_rfl) (by kernel_rfl) fun d hd => by
    obtain ⟨o, ⟨⟩⟩ := d
    exact ⟨ann32 o, cast (by kernel_rfl) (f32_vc o)⟩
@[reducible] def ct25 : CT := { ps := [.int .i64], pre := fun d => True, res := fun d => ([], vB (visS d.1)) }
@[reducible] def cl25 : List (Nat × CT) := []
@[reducible] def ann25 (op : Int) : Nat → Option (St → Ann) := fun _ => none
set_option maxRecDepth 100000 in
theorem f25_vc (op : Int) :
    ([] : List Go.Eng.Res) = [] ∧ Ent.one (SV.c (SC.v (Value.bool (visS op)))) = Ent.one (SV.c (SC.v (Value.bool (decide ((8 : Int) ≤ op) && decide (op ≤ (22 : Int)))))) := by
  exact ⟨rfl, rfl⟩
set_option maxRecDepth 100000 in
theorem f25_met : Go.Eng.Met Tryd.prog cx0.gd 25 ct25 :=
  met_of (cx := cx0) (n := 9) (cl := cl25) (by kernel_rfl) tis_ok trivial Tryd.func25 (by kernel_rfl) (by kernel_rfl) rfl (by kernel_rfl) (by kernel_rfl) fun d hd => by
    obtain ⟨op, ⟨⟩⟩ := d
    exact ⟨ann25 op, cast (by kernel_rfl) (f25_vc op)⟩
@[reducible] def ct26 : CT := { ps := [.int .i64], pre := fun d => True, res := fun d => ([], vB (visS d.1)) }
@[reducible] def cl26 : List (Nat × CT) := []
@[reducible] def ann26 (op : Int) : Nat → Option (St → Ann) := fun _ => none
set_option maxRecDepth 100000 in
theorem f26_vc (op : Int) :
    ([] : List Go.Eng.Res) = [] ∧ Ent.one (SV.c (SC.v (Value.bool (visS op)))) = Ent.one (SV.c (SC.v (Value.bool (decide ((8 : Int) ≤ op) && decide (op ≤ (22 : Int)))))) := by
  exact ⟨rfl, rfl⟩
set_option maxRecDepth 100000 in
theorem f26_met : Go.Eng.Met Tryd.prog cx0.gd 26 ct26 :=
  met_of (cx := cx0) (n := 9) (cl := cl26) (by kernel_rfl) tis_ok trivial Tryd.func26 (by kernel_rfl) (by kernel_rfl) rfl (by kernel_rfl) (by kernel_rfl) fun d hd => by
    obtain ⟨op, ⟨⟩⟩ := d
    exact ⟨ann26 op, cast (by kernel_rfl) (f26_vc op)⟩
@[reducible] def ct27 : CT := { ps := [.int .i64], pre := fun d => True, res := fun d => ([], vB (drnS d.1)) }
@[reducible] def cl27 : List (Nat × CT) := [(25, ct25)]
@[reducible] def ann27 (op : Int) : Nat → Option (St → Ann) := fun _ => none
set_option maxRecDepth 100000 in
theorem f27_vc (op : Int) :
    True ∧ ([] : List Go.Eng.Res) = [] ∧ Ent.one (SV.c (SC.v (Value.bool (drnS op)))) = Ent.one (SV.c (SC.v (Value.bool (visS op && !decide (op = (8 : Int)) && !decide (op = (9 : Int)) && !decide (op = (14 : Int)))))) := by
  exact ⟨trivial, rfl, rfl⟩
set_option maxRecDepth 100000 in
theorem f27_met : Go.Eng.Met Tryd.prog cx0.gd 27 ct27 :=
  met_of (cx := cx0) (n := 17) (cl := cl27) (by kernel_rfl) tis_ok ⟨f25_met, trivial⟩ Tryd.func27 (by kernel_rfl) (by kernel_rfl) rfl (by kernel_rfl) (by kernel_rfl) fun d hd => by
    obtain ⟨op, ⟨⟩⟩ := d
    exact ⟨ann27 op, cast (by kernel_rfl) (f27_vc op)⟩
@[reducible] def ct28 : CT := { ps := [.int .i64], pre := fun d => True, res := fun d => ([], vB (drnS d.1)) }
@[reducible] def cl28 : List (Nat × CT) := [(26, ct26)]
@[reducible] def ann28 (op : Int) : Nat → Option (St → Ann) := fun _ => none
set_option maxRecDepth 100000 in
theorem f28_vc (op : Int) :
    True ∧ ([] : List Go.Eng.Res) = [] ∧ Ent.one (SV.c (SC.v (Value.bool (drnS op)))) = Ent.one (SV.c (SC.v (Value.bool (visS op && !decide (op = (8 : Int)) && !decide (op = (9 : Int)) && !decide (op = (14 : Int)))))) := by
  exact ⟨trivial, rfl, rfl⟩
set_option maxRecDepth 100000 in
theorem f28_met : Go.Eng.Met Tryd.prog cx0.gd 28 ct28 :=
  met_of (cx := cx0) (n := 17) (cl := cl28) (by kernel_rfl) tis_ok ⟨f26_met, trivial⟩ Tryd.func28 (by kernel_rfl) (by kernel_rfl) rfl (by kernel_rfl) (by kernel_rfl) fun d hd => by
    obtain ⟨op, ⟨⟩⟩ := d
    exact ⟨ann28 op, cast (by kernel_rfl) (f28_vc op)⟩
@[reducible] def ct21 : CT := { ps := [.str], pre := fun d => True, res := fun d => ([], .tup [.c (.v (.int .i64 (byMn d.1))), .c (.v (.bool (byMnOk d.1)))]) }
@[reducible] def cl21 : List (Nat × CT) := []
@[reducible] def ann21 (s : ByteArray) : Nat → Option (St → Ann) := fun k => match k with
  | 2 => some fun _ => .inv { α := Nat, slots := fun k => [(5, .c (.v (.int .i64 k)))], res := fun _ => [], inv := fun k => k ≤ 22 ∧ ∀ j, j < k → ∀ b, mnsD[j]? = some b → ¬ (b = s), meas := fun k => 22 - k }
  | _ => none
set_option maxRecDepth 100000 in
theorem f21_vc (s : ByteArray) :
    (∃ x, (x ≤ (22 : Nat) ∧ ∀ (j : Nat), j < x → ∀ (b : ByteArray), mnsD[j]? = some b → ¬b = s) ∧ (SV.c (SC.v (Value.int IntKind.i64 (0 : Int))) = SV.c (SC.v (Value.int IntKind.i64 (↑x : Int))) ∧ True) ∧ ([] : List (Go.Eng.Gd × Go.Eng.Res)) = []) ∧ ∀ (x : Nat), (x ≤ (22 : Nat) ∧ ∀ (j : Nat), j < x → ∀ (b : ByteArray), mnsD[j]? = some b → ¬b = s) → br (decide ((↑x : Int) < (22 : Int))) (((0 : Int) ≤ (↑x : Int) ∧ (↑x : Int) < (22 : Int)) ∧ ∀ (d : Sh.str.den × ((Sh.arr (7 : Nat) Sh.bool).pair Sh.unit).den), rowsD[(↑x : Int).toNat]? = some d → br (decide (d.fst = s)) (InR IntKind.i64 ((1 : Int) + (↑x : Int)) ∧ ([] : List Go.Eng.Res) = [] ∧ Ent.tup [SV.c (SC.v (Value.int IntKind.i64 (byMn s))), SV.c (SC.v (Value.bool (byMnOk s)))] = Ent.tup [SV.c (SC.v (Value.int IntKind.i64 ((1 : Int) + (↑x : Int)))), SV.c (SC.v (Value.bool true))]) (InR IntKind.i64 ((↑x : Int) + (1 : Int)) ∧ ∃ x', (x' ≤ (22 : Nat) ∧ ∀ (j : Nat), j < x' → ∀ (b : ByteArray), mnsD[j]? = some b → ¬b = s) ∧ (SV.c (SC.v (Value.int IntKind.i64 ((↑x : Int) + (1 : Int)))) = SV.c (SC.v (Value.int IntKind.i64 (↑x' : Int))) ∧ True) ∧ ([] : List (Go.Eng.Gd × Go.Eng.Res)) = [] ∧ (22 : Nat) - x' < (22 : Nat) - x)) (([] : List Go.Eng.Res) = [] ∧ Ent.tup [SV.c (SC.v (Value.int IntKind.i64 (byMn s))), SV.c (SC.v (Value.bool (byMnOk s)))] = Ent.tup [SV.c (SC.v (Value.int IntKind.i64 (0 : Int))), SV.c (SC.v (Value.bool false))]) := by
  refine ⟨⟨0, ⟨by omega, fun j hj => by omega⟩, ⟨rfl, trivial⟩, rfl⟩, fun x hx => br_iff.2 ⟨fun h => ?_, fun h => ?_⟩⟩
  · simp only [decide_eq_true_eq] at h
    refine ⟨by omega, fun d hd => br_iff.2 ⟨fun h2 => ?_, fun h2 => ?_⟩⟩
    · simp only [decide_eq_true_eq] at h2
      have hm : mnsD[x]? = some d.fst := by
        have e : mnsD = rowsD.map fun r => r.1 := by decide
        have hd : rowsD[x]? = some d := by simpa using hd
        rw [e, List.getElem?_map, hd]; rfl
      have hi := idx_hit hm h2 hx.2
      refine ⟨InR_i64.2 (by omega), rfl, ?_⟩
      simp [byMn, byMnOk, hi]; omega
    · simp only [decide_eq_false_iff_not] at h2
      have hm : mnsD[x]? = some d.fst := by
        have e : mnsD = rowsD.map fun r => r.1 := by decide
        have hd : rowsD[x]? = some d := by simpa using hd
        rw [e, List.getElem?_map, hd]; rfl
      refine ⟨InR_i64.2 (by omega), x + 1, ⟨by omega, fun j hj b hb => ?_⟩, ⟨by simp, trivial⟩, rfl, by omega⟩
      by_cases hjx : j = x
      · subst hjx
        rw [hm] at hb; cases hb; exact h2
      · exact hx.2 j (by omega) b hb
  · simp only [decide_eq_false_iff_not] at h
    have hi := idx_none (l := mnsD) (s := s) (k := x) (by show 22 ≤ x; omega) hx.2
    simp [byMn, byMnOk, hi]
set_option maxRecDepth 100000 in
theorem f21_met : Go.Eng.Met Tryd.prog cx0.gd 21 ct21 :=
  met_of (cx := cx0) (n := 17) (cl := cl21) (by kernel_rfl) tis_ok trivial Tryd.func21 (by kernel_rfl) (by kernel_rfl) rfl (by kernel_rfl) (by kernel_rfl) fun d hd => by
    obtain ⟨s, ⟨⟩⟩ := d
    exact ⟨ann21 s, cast (by kernel_rfl) (f21_vc s)⟩
@[reducible] def ct22 : CT := { ps := [.str], pre := fun d => True, res := fun d => ([], .tup [.c (.v (.int .i64 (byMn d.1))), .c (.v (.bool (byMnOk d.1)))]) }
@[reducible] def cl22 : List (Nat × CT) := [(42, ct42)]
@[reducible] def ann22 (s : ByteArray) : Nat → Option (St → Ann) := fun k => match k with
  | 3 => some fun _ => .inv { α := Nat, slots := fun k => [(5, .c (.v (.int .i64 k)))], res := fun _ => [], inv := fun k => k ≤ 22 ∧ ∀ j, j < k → ∀ b, mnsD[j]? = some b → ¬ (b = s), meas := fun k => 22 - k }
  | _ => none
set_option maxRecDepth 100000 in
theorem f22_vc (s : ByteArray) :
    True ∧ (∃ x, (x ≤ (22 : Nat) ∧ ∀ (j : Nat), j < x → ∀ (b : ByteArray), mnsD[j]? = some b → ¬b = s) ∧ (SV.c (SC.v (Value.int IntKind.i64 (0 : Int))) = SV.c (SC.v (Value.int IntKind.i64 (↑x : Int))) ∧ True) ∧ [(([] : Go.Eng.Gd), Res.row (9 : TypeId) Sh.str mnsD)] = [(([] : Go.Eng.Gd), Res.row (9 : TypeId) Sh.str mnsD)]) ∧ ∀ (x : Nat), (x ≤ (22 : Nat) ∧ ∀ (j : Nat), j < x → ∀ (b : ByteArray), mnsD[j]? = some b → ¬b = s) → br (decide ((↑x : Int) < (22 : Int))) (((0 : Int) ≤ (↑x : Int) ∧ (↑x : Int) < (22 : Int)) ∧ (↑x : Int).toNat < (22 : Nat) ∧ ∀ (d : ByteArray), mnsD[(↑x : Int).toNat]? = some d → br (decide (d = s)) (InR IntKind.i64 ((↑x : Int) + (1 : Int)) ∧ ([] : List Go.Eng.Res) = [] ∧ Ent.tup [SV.c (SC.v (Value.int IntKind.i64 (byMn s))), SV.c (SC.v (Value.bool (byMnOk s)))] = Ent.tup [SV.c (SC.v (Value.int IntKind.i64 ((↑x : Int) + (1 : Int)))), SV.c (SC.v (Value.bool true))]) (InR IntKind.i64 ((↑x : Int) + (1 : Int)) ∧ ∃ x', (x' ≤ (22 : Nat) ∧ ∀ (j : Nat), j < x' → ∀ (b : ByteArray), mnsD[j]? = some b → ¬b = s) ∧ (SV.c (SC.v (Value.int IntKind.i64 ((↑x : Int) + (1 : Int)))) = SV.c (SC.v (Value.int IntKind.i64 (↑x' : Int))) ∧ True) ∧ [(([] : Go.Eng.Gd), Res.row (9 : TypeId) Sh.str mnsD)] = [(([] : Go.Eng.Gd), Res.row (9 : TypeId) Sh.str mnsD)] ∧ (22 : Nat) - x' < (22 : Nat) - x)) (([] : List Go.Eng.Res) = [] ∧ Ent.tup [SV.c (SC.v (Value.int IntKind.i64 (byMn s))), SV.c (SC.v (Value.bool (byMnOk s)))] = Ent.tup [SV.c (SC.v (Value.int IntKind.i64 (0 : Int))), SV.c (SC.v (Value.bool false))]) := by
  refine ⟨trivial, ⟨0, ⟨by omega, fun j hj => by omega⟩, ⟨rfl, trivial⟩, rfl⟩, fun x hx => br_iff.2 ⟨fun h => ?_, fun h => ?_⟩⟩
  · simp only [decide_eq_true_eq] at h
    refine ⟨by omega, by omega, fun d hd => br_iff.2 ⟨fun h2 => ?_, fun h2 => ?_⟩⟩
    · simp only [decide_eq_true_eq] at h2
      have hm : mnsD[x]? = some d := by simpa using hd
      have hi := idx_hit hm h2 hx.2
      refine ⟨InR_i64.2 (by omega), rfl, ?_⟩
      simp [byMn, byMnOk, hi]
    · simp only [decide_eq_false_iff_not] at h2
      have hm : mnsD[x]? = some d := by simpa using hd
      refine ⟨InR_i64.2 (by omega), x + 1, ⟨by omega, fun j hj b hb => ?_⟩, ⟨by simp, trivial⟩, rfl, by omega⟩
      by_cases hjx : j = x
      · subst hjx
        rw [hm] at hb; cases hb; exact h2
      · exact hx.2 j (by omega) b hb
  · simp only [decide_eq_false_iff_not] at h
    have hi := idx_none (l := mnsD) (s := s) (k := x) (by show 22 ≤ x; omega) hx.2
    simp [byMn, byMnOk, hi]
set_option maxRecDepth 100000 in
theorem f22_met : Go.Eng.Met Tryd.prog cx0.gd 22 ct22 :=
  met_of (cx := cx0) (n := 21) (cl := cl22) (by kernel_rfl) tis_ok ⟨f42_met, trivial⟩ Tryd.func22 (by kernel_rfl) (by kernel_rfl) rfl (by kernel_rfl) (by kernel_rfl) fun d hd => by
    obtain ⟨s, ⟨⟩⟩ := d
    exact ⟨ann22 s, cast (by kernel_rfl) (f22_vc s)⟩
@[reducible] def ct23 : CT := { ps := [.str], pre := fun d => True, res := fun d => ([], .tup [.c (.v (.int .i64 (byOrd d.1))), .c (.v (.bool (byOrdOk d.1)))]) }
@[reducible] def cl23 : List (Nat × CT) := []
@[reducible] def ann23 (s : ByteArray) : Nat → Option (St → Ann) := fun k => match k with
  | 2 => some fun _ => .unroll 4
  | _ => none
set_option maxRecDepth 100000 in
theorem f23_vc (s : ByteArray) :
    ((0 : Int) ≤ (0 : Int) ∧ (0 : Int) < (3 : Int)) ∧ ∀ (d : ByteArray), ordersD[(0 : Nat)]? = some d → br (decide (d = s)) (([] : List Go.Eng.Res) = [] ∧ Ent.tup [SV.c (SC.v (Value.int IntKind.i64 (byOrd s))), SV.c (SC.v (Value.bool (byOrdOk s)))] = Ent.tup [SV.c (SC.v (Value.int IntKind.i64 (0 : Int))), SV.c (SC.v (Value.bool true))]) (InR IntKind.i64 (1 : Int) ∧ ((0 : Int) ≤ (1 : Int) ∧ (1 : Int) < (3 : Int)) ∧ ∀ (d : ByteArray), ordersD[(1 : Nat)]? = some d → br (decide (d = s)) (([] : List Go.Eng.Res) = [] ∧ Ent.tup [SV.c (SC.v (Value.int IntKind.i64 (byOrd s))), SV.c (SC.v (Value.bool (byOrdOk s)))] = Ent.tup [SV.c (SC.v (Value.int IntKind.i64 (1 : Int))), SV.c (SC.v (Value.bool true))]) (InR IntKind.i64 (2 : Int) ∧ ((0 : Int) ≤ (2 : Int) ∧ (2 : Int) < (3 : Int)) ∧ ∀ (d : ByteArray), ordersD[(2 : Nat)]? = some d → br (decide (d = s)) (([] : List Go.Eng.Res) = [] ∧ Ent.tup [SV.c (SC.v (Value.int IntKind.i64 (byOrd s))), SV.c (SC.v (Value.bool (byOrdOk s)))] = Ent.tup [SV.c (SC.v (Value.int IntKind.i64 (2 : Int))), SV.c (SC.v (Value.bool true))]) (InR IntKind.i64 (3 : Int) ∧ ([] : List Go.Eng.Res) = [] ∧ Ent.tup [SV.c (SC.v (Value.int IntKind.i64 (byOrd s))), SV.c (SC.v (Value.bool (byOrdOk s)))] = Ent.tup [SV.c (SC.v (Value.int IntKind.i64 (0 : Int))), SV.c (SC.v (Value.bool false))]))) := by
  refine ⟨by omega, fun d hd => ?_⟩
  cases hd
  refine br_iff.2 ⟨fun h => ?_, fun h => ⟨InR_i64.2 (by omega), by omega, fun d hd => ?_⟩⟩
  · simp only [decide_eq_true_eq] at h; subst h; exact ⟨rfl, rfl⟩
  cases hd
  refine br_iff.2 ⟨fun h => ?_, fun h' => ⟨InR_i64.2 (by omega), by omega, fun d hd => ?_⟩⟩
  · simp only [decide_eq_true_eq] at h; subst h; exact ⟨rfl, rfl⟩
  cases hd
  refine br_iff.2 ⟨fun h => ?_, fun h'' => ⟨InR_i64.2 (by omega), ?_⟩⟩
  · simp only [decide_eq_true_eq] at h; subst h; exact ⟨rfl, rfl⟩
  simp only [decide_eq_false_iff_not] at h h' h''
  have hi : idxS ordersD s = none := by
    unfold idxS
    rw [List.findIdx?_eq_none_iff]
    intro b hb
    simp only [ordersD, List.mem_cons, List.not_mem_nil, or_false] at hb
    rcases hb with rfl | rfl | rfl <;> simp only [decide_eq_false_iff_not] <;> assumption
  simp [byOrd, byOrdOk, hi]
set_option maxRecDepth 100000 in
theorem f23_met : Go.Eng.Met Tryd.prog cx1.gd 23 ct23 :=
  met_of (cx := cx1) (n := 15) (cl := cl23) (by kernel_rfl) tis_ok trivial Tryd.func23 (by kernel_rfl) (by kernel_rfl) rfl (by kernel_rfl) (by kernel_rfl) fun d hd => by
    obtain ⟨s, ⟨⟩⟩ := d
    exact ⟨ann23 s, cast (by kernel_rfl) (f23_vc s)⟩
@[reducible] def ct24 : CT := { ps := [.str], pre := fun d => True, res := fun d => ([], .tup [.c (.v (.int .i64 (byOrd d.1))), .c (.v (.bool (byOrdOk d.1)))]) }
@[reducible] def cl24 : List (Nat × CT) := [(32, ct32)]
@[reducible] def ann24 (s : ByteArray) : Nat → Option (St → Ann) := fun k => match k with
  | 2 => some fun _ => .unroll 4
  | _ => none
set_option maxRecDepth 100000 in
theorem f24_vc (s : ByteArray) :
    True ∧ br (decide (ordS (0 : Int) = s)) (([] : List Go.Eng.Res) = [] ∧ Ent.tup [SV.c (SC.v (Value.int IntKind.i64 (byOrd s))), SV.c (SC.v (Value.bool (byOrdOk s)))] = Ent.tup [SV.c (SC.v (Value.int IntKind.i64 (0 : Int))), SV.c (SC.v (Value.bool true))]) (InR IntKind.i64 (1 : Int) ∧ True ∧ br (decide (ordS (1 : Int) = s)) (([] : List Go.Eng.Res) = [] ∧ Ent.tup [SV.c (SC.v (Value.int IntKind.i64 (byOrd s))), SV.c (SC.v (Value.bool (byOrdOk s)))] = Ent.tup [SV.c (SC.v (Value.int IntKind.i64 (1 : Int))), SV.c (SC.v (Value.bool true))]) (InR IntKind.i64 (2 : Int) ∧ True ∧ br (decide (ordS (2 : Int) = s)) (([] : List Go.Eng.Res) = [] ∧ Ent.tup [SV.c (SC.v (Value.int IntKind.i64 (byOrd s))), SV.c (SC.v (Value.bool (byOrdOk s)))] = Ent.tup [SV.c (SC.v (Value.int IntKind.i64 (2 : Int))), SV.c (SC.v (Value.bool true))]) (InR IntKind.i64 (3 : Int) ∧ ([] : List Go.Eng.Res) = [] ∧ Ent.tup [SV.c (SC.v (Value.int IntKind.i64 (byOrd s))), SV.c (SC.v (Value.bool (byOrdOk s)))] = Ent.tup [SV.c (SC.v (Value.int IntKind.i64 (0 : Int))), SV.c (SC.v (Value.bool false))]))) := by
  have e0 : ordS 0 = ⟨#[112, 108, 97, 105, 110]⟩ := rfl
  have e1 : ordS 1 = ⟨#[114, 101, 108, 97, 120, 101, 100]⟩ := rfl
  have e2 : ordS 2 = ⟨#[114, 101, 108, 97, 99, 113]⟩ := rfl
  rw [e0, e1, e2]
  refine ⟨trivial, br_iff.2 ⟨fun h => ?_, fun h => ⟨InR_i64.2 (by omega), trivial, br_iff.2 ⟨fun h => ?_, fun h' => ⟨InR_i64.2 (by omega), trivial, br_iff.2 ⟨fun h => ?_, fun h'' => ⟨InR_i64.2 (by omega), ?_⟩⟩⟩⟩⟩⟩⟩
  · simp only [decide_eq_true_eq] at h; subst h; exact ⟨rfl, rfl⟩
  · simp only [decide_eq_true_eq] at h; subst h; exact ⟨rfl, rfl⟩
  · simp only [decide_eq_true_eq] at h; subst h; exact ⟨rfl, rfl⟩
  simp only [decide_eq_false_iff_not] at h h' h''
  have hi : idxS ordersD s = none := by
    unfold idxS
    rw [List.findIdx?_eq_none_iff]
    intro b hb
    simp only [ordersD, List.mem_cons, List.not_mem_nil, or_false] at hb
    rcases hb with rfl | rfl | rfl <;> simp only [decide_eq_false_iff_not] <;> assumption
  simp [byOrd, byOrdOk, hi]
set_option maxRecDepth 100000 in
theorem f24_met : Go.Eng.Met Tryd.prog cx0.gd 24 ct24 :=
  met_of (cx := cx0) (n := 14) (cl := cl24) (by kernel_rfl) tis_ok ⟨f32_met, trivial⟩ Tryd.func24 (by kernel_rfl) (by kernel_rfl) rfl (by kernel_rfl) (by kernel_rfl) fun d hd => by
    obtain ⟨s, ⟨⟩⟩ := d
    exact ⟨ann24 s, cast (by kernel_rfl) (f24_vc s)⟩
end Go.Proofs.YtpkccknamoldeaaDoor
