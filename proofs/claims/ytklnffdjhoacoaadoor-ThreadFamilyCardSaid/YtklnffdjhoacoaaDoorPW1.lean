/- The Thread chapter, part 1: values, instructions, sets. -/
import Derived.Test.YtklnffdjhoacoaaDoorPK3
set_option linter.unusedSimpArgs false
set_option linter.unusedVariables false
set_option maxRecDepth 100000
namespace Go.Proofs.YtklnffdjhoacoaaDoor
open Go Go.Eng

theorem wrap32 (n : Int) : IntKind.i32.wrap (IntKind.u32.wrap n) = wrapS n := by
  simp only [IntKind.wrap, IntKind.bits, IntKind.signed, wrapS]
  simp
  split <;> omega
theorem mul32 {x y : Int} (hx : -2147483648 ≤ x ∧ x ≤ 2147483647) (hy : -2147483648 ≤ y ∧ y ≤ 2147483647) : -9223372036854775808 ≤ x * y ∧ x * y ≤ 9223372036854775807 := by
  have h1 : x.natAbs ≤ 2147483648 := by omega
  have h2 : y.natAbs ≤ 2147483648 := by omega
  have h3 : (x * y).natAbs ≤ 2147483648 * 2147483648 := by rw [Int.natAbs_mul]; exact Nat.mul_le_mul h1 h2
  omega
@[reducible] def ctWrap : CT := { ps := [.int .i64], pre := fun d => True, res := fun d => ([], .one (.c (.v (.int .i64 (wrapS d.1))))) }
@[reducible] def cl30 : List (Nat × CT) := []
@[reducible] def ann30 (n : Int) : Nat → Option (St → Ann) := fun _ => none
set_option maxRecDepth 100000 in
theorem f30_vc (n : Int) :
    InR IntKind.i64 (IntKind.i32.wrap (IntKind.u32.wrap n)) ∧ ([] : List Go.Eng.Res) = [] ∧ Ent.one (SV.c (SC.v (Value.int IntKind.i64 (wrapS n)))) = Ent.one (SV.c (SC.v (Value.int IntKind.i64 (IntKind.i32.wrap (IntKind.u32.wrap n))))) := by
  have := wrapS_rng n
  rw [wrap32]
  exact ⟨InR_i64.2 (by omega), rfl, rfl⟩
set_option maxHeartbeats 2000000 in
set_option maxRecDepth 100000 in
theorem f30_met : Go.Eng.Met Tryd.prog cx0.gd 30 ctWrap :=
  met_of (cx := cx0) (n := 7) (cl := cl30) (by kernel_rfl) tis_ok trivial Tryd.func30 (by kernel_rfl) (by kernel_rfl) rfl (by kernel_rfl) (by kernel_rfl) fun d hd => by
    obtain ⟨n, ⟨⟩⟩ := d
    exact ex_of (ann30 n) (f30_vc n) (by kernel_rfl)
@[reducible] def ctTru : CT := { ps := [.bool], pre := fun d => True, res := fun d => ([], .one (.c (.v (.int .i64 (if d.1 = true then 1 else 0))))) }
@[reducible] def cl69 : List (Nat × CT) := []
@[reducible] def ann69 (b : Bool) : Nat → Option (St → Ann) := fun _ => none
set_option maxRecDepth 100000 in
theorem f69_vc (b : Bool) :
    br b (([] : List Go.Eng.Res) = [] ∧ Ent.one (SV.c (SC.v (Value.int IntKind.i64 (if b = true then (1 : Int) else (0 : Int))))) = Ent.one (SV.c (SC.v (Value.int IntKind.i64 (1 : Int))))) (([] : List Go.Eng.Res) = [] ∧ Ent.one (SV.c (SC.v (Value.int IntKind.i64 (if b = true then (1 : Int) else (0 : Int))))) = Ent.one (SV.c (SC.v (Value.int IntKind.i64 (0 : Int))))) := by
  rw [br_iff]
  cases b <;> simp
set_option maxHeartbeats 2000000 in
set_option maxRecDepth 100000 in
theorem f69_met : Go.Eng.Met Tryd.prog cx0.gd 69 ctTru :=
  met_of (cx := cx0) (n := 4) (cl := cl69) (by kernel_rfl) tis_ok trivial Tryd.func69 (by kernel_rfl) (by kernel_rfl) rfl (by kernel_rfl) (by kernel_rfl) fun d hd => by
    obtain ⟨b, ⟨⟩⟩ := d
    exact ex_of (ann69 b) (f69_vc b) (by kernel_rfl)
@[reducible] def ctApp : CT := { ps := [.int .i64, .int .i64, .int .i64], pre := fun d => True, res := fun d => ([], .tup [.c (.v (.int .i64 (applyS d.1 d.2.1 d.2.2.1).1)), .c (.v (.int .i64 (applyS d.1 d.2.1 d.2.2.1).2))]) }
@[reducible] def cl54 : List (Nat × CT) := [(30, ctWrap), (69, ctTru)]
@[reducible] def ann54 (f : Int) (a : Int) (b : Int) : Nat → Option (St → Ann) := fun _ => none
set_option maxRecDepth 100000 in
theorem f54_vc (f : Int) (a : Int) (b : Int) :
    True ∧ True ∧ br (decide (f = (1 : Int))) (InR IntKind.i64 (wrapS a + wrapS b) ∧ True ∧ ([] : List Go.Eng.Res) = [] ∧ Ent.tup [SV.c (SC.v (Value.int IntKind.i64 (applyS f a b).fst)), SV.c (SC.v (Value.int IntKind.i64 (applyS f a b).snd))] = Ent.tup [SV.c (SC.v (Value.int IntKind.i64 (wrapS (wrapS a + wrapS b)))), SV.c (SC.v (Value.int IntKind.i64 (0 : Int)))]) (br (decide (f = (2 : Int))) (InR IntKind.i64 (wrapS a - wrapS b) ∧ True ∧ ([] : List Go.Eng.Res) = [] ∧ Ent.tup [SV.c (SC.v (Value.int IntKind.i64 (applyS f a b).fst)), SV.c (SC.v (Value.int IntKind.i64 (applyS f a b).snd))] = Ent.tup [SV.c (SC.v (Value.int IntKind.i64 (wrapS (wrapS a - wrapS b)))), SV.c (SC.v (Value.int IntKind.i64 (0 : Int)))]) (br (decide (f = (3 : Int))) (InR IntKind.i64 (wrapS a * wrapS b) ∧ True ∧ ([] : List Go.Eng.Res) = [] ∧ Ent.tup [SV.c (SC.v (Value.int IntKind.i64 (applyS f a b).fst)), SV.c (SC.v (Value.int IntKind.i64 (applyS f a b).snd))] = Ent.tup [SV.c (SC.v (Value.int IntKind.i64 (wrapS (wrapS a * wrapS b)))), SV.c (SC.v (Value.int IntKind.i64 (0 : Int)))]) (br (decide (f = (4 : Int))) (True ∧ ([] : List Go.Eng.Res) = [] ∧ Ent.tup [SV.c (SC.v (Value.int IntKind.i64 (applyS f a b).fst)), SV.c (SC.v (Value.int IntKind.i64 (applyS f a b).snd))] = Ent.tup [SV.c (SC.v (Value.int IntKind.i64 (wrapS (bitop BinOp.and IntKind.i64 (wrapS a) (wrapS b))))), SV.c (SC.v (Value.int IntKind.i64 (0 : Int)))]) (br (decide (f = (5 : Int))) (True ∧ ([] : List Go.Eng.Res) = [] ∧ Ent.tup [SV.c (SC.v (Value.int IntKind.i64 (applyS f a b).fst)), SV.c (SC.v (Value.int IntKind.i64 (applyS f a b).snd))] = Ent.tup [SV.c (SC.v (Value.int IntKind.i64 (wrapS (bitop BinOp.or IntKind.i64 (wrapS a) (wrapS b))))), SV.c (SC.v (Value.int IntKind.i64 (0 : Int)))]) (br (decide (f = (6 : Int))) (True ∧ ([] : List Go.Eng.Res) = [] ∧ Ent.tup [SV.c (SC.v (Value.int IntKind.i64 (applyS f a b).fst)), SV.c (SC.v (Value.int IntKind.i64 (applyS f a b).snd))] = Ent.tup [SV.c (SC.v (Value.int IntKind.i64 (wrapS (bitop BinOp.xor IntKind.i64 (wrapS a) (wrapS b))))), SV.c (SC.v (Value.int IntKind.i64 (0 : Int)))]) (br (decide (f = (7 : Int))) (True ∧ ([] : List Go.Eng.Res) = [] ∧ Ent.tup [SV.c (SC.v (Value.int IntKind.i64 (applyS f a b).fst)), SV.c (SC.v (Value.int IntKind.i64 (applyS f a b).snd))] = Ent.tup [SV.c (SC.v (Value.int IntKind.i64 (if decide (wrapS a = wrapS b) = true then (1 : Int) else (0 : Int)))), SV.c (SC.v (Value.int IntKind.i64 (0 : Int)))]) (br (decide (f = (8 : Int))) (True ∧ ([] : List Go.Eng.Res) = [] ∧ Ent.tup [SV.c (SC.v (Value.int IntKind.i64 (applyS f a b).fst)), SV.c (SC.v (Value.int IntKind.i64 (applyS f a b).snd))] = Ent.tup [SV.c (SC.v (Value.int IntKind.i64 (if (!decide (wrapS a = wrapS b)) = true then (1 : Int) else (0 : Int)))), SV.c (SC.v (Value.int IntKind.i64 (0 : Int)))]) (br (decide (f = (9 : Int))) (True ∧ ([] : List Go.Eng.Res) = [] ∧ Ent.tup [SV.c (SC.v (Value.int IntKind.i64 (applyS f a b).fst)), SV.c (SC.v (Value.int IntKind.i64 (applyS f a b).snd))] = Ent.tup [SV.c (SC.v (Value.int IntKind.i64 (if decide (wrapS a < wrapS b) = true then (1 : Int) else (0 : Int)))), SV.c (SC.v (Value.int IntKind.i64 (0 : Int)))]) (br (decide (f = (10 : Int))) (True ∧ ([] : List Go.Eng.Res) = [] ∧ Ent.tup [SV.c (SC.v (Value.int IntKind.i64 (applyS f a b).fst)), SV.c (SC.v (Value.int IntKind.i64 (applyS f a b).snd))] = Ent.tup [SV.c (SC.v (Value.int IntKind.i64 (if decide (wrapS a ≤ wrapS b) = true then (1 : Int) else (0 : Int)))), SV.c (SC.v (Value.int IntKind.i64 (0 : Int)))]) (([] : List Go.Eng.Res) = [] ∧ Ent.tup [SV.c (SC.v (Value.int IntKind.i64 (applyS f a b).fst)), SV.c (SC.v (Value.int IntKind.i64 (applyS f a b).snd))] = Ent.tup [SV.c (SC.v (Value.int IntKind.i64 (0 : Int))), SV.c (SC.v (Value.int IntKind.i64 (8 : Int)))])))))))))) := by
  have ha := wrapS_rng a
  have hb := wrapS_rng b
  have hm := mul32 ha hb
  unfold applyS
  simp only [br_iff, decide_eq_true_eq, decide_eq_false_iff_not]
  repeat' (first | (refine And.intro ?_ ?_) | (intro _))
  all_goals first | rfl | trivial | exact InR_i64.2 (by omega) | (simp [*]; done) | skip
set_option maxHeartbeats 2000000 in
set_option maxRecDepth 100000 in
theorem f54_met : Go.Eng.Met Tryd.prog cx0.gd 54 ctApp :=
  met_of (cx := cx0) (n := 75) (cl := cl54) (by kernel_rfl) tis_ok ⟨f30_met, f69_met, trivial⟩ Tryd.func54 (by kernel_rfl) (by kernel_rfl) rfl (by kernel_rfl) (by kernel_rfl) fun d hd => by
    obtain ⟨f, a, b, ⟨⟩⟩ := d
    exact ex_of (ann54 f a b) (f54_vc f a b) (by kernel_rfl)
@[reducible] def ctVis : CT := { ps := [.int .i64], pre := fun d => True, res := fun d => ([], vB (visS d.1)) }
@[reducible] def cl42 : List (Nat × CT) := []
@[reducible] def ann42 (op : Int) : Nat → Option (St → Ann) := fun _ => none
set_option maxRecDepth 100000 in
theorem f42_vc (op : Int) :
    ([] : List Go.Eng.Res) = [] ∧ Ent.one (SV.c (SC.v (Value.bool (visS op)))) = Ent.one (SV.c (SC.v (Value.bool (decide ((8 : Int) ≤ op) && decide (op ≤ (22 : Int)))))) := by
  refine ⟨rfl, ?_⟩
  rw [show visS op = (decide (8 ≤ op) && decide (op ≤ 22)) by unfold visS; rw [Bool.eq_iff_iff]; simp]
set_option maxHeartbeats 2000000 in
set_option maxRecDepth 100000 in
theorem f42_met : Go.Eng.Met Tryd.prog cx0.gd 42 ctVis :=
  met_of (cx := cx0) (n := 9) (cl := cl42) (by kernel_rfl) tis_ok trivial Tryd.func42 (by kernel_rfl) (by kernel_rfl) rfl (by kernel_rfl) (by kernel_rfl) fun d hd => by
    obtain ⟨op, ⟨⟩⟩ := d
    exact ex_of (ann42 op) (f42_vc op) (by kernel_rfl)
@[reducible] def ctDef : CT := { ps := [shI], pre := fun d => True, res := fun d => ([], .tup [.c (.v (.int .i64 (defS d.1).1)), .c (.v (.bool (defS d.1).2))]) }
@[reducible] def cl35 : List (Nat × CT) := [(47, ct11)]
@[reducible] def ann35 (op : Int) (a : Int) (b : Int) (c : Int) (obj : Int) (n : Int) (fo : Int) (ord : Int) : Nat → Option (St → Ann) := fun _ => none
set_option maxRecDepth 100000 in
theorem f35_vc (op : Int) (a : Int) (b : Int) (c : Int) (obj : Int) (n : Int) (fo : Int) (ord : Int) :
    True ∧ ((!!decide (chkS op a b c obj n fo ord = (0 : Int))) = true → InR IntKind.i64 (op - (1 : Int))) ∧ ((!!decide (chkS op a b c obj n fo ord = (0 : Int))) = true → (0 : Int) ≤ op - (1 : Int) ∧ op - (1 : Int) < (22 : Int)) ∧ ∀ (d : Sh.str.den × ((Sh.arr (7 : Nat) Sh.bool).pair Sh.unit).den), ((!!decide (chkS op a b c obj n fo ord = (0 : Int))) = true → rowsD[(op - (1 : Int)).toNat]? = some d) → ((!!decide (chkS op a b c obj n fo ord = (0 : Int))) = true → (0 : Int) ≤ (0 : Int) ∧ (0 : Int) < (↑(List.length d.snd.fst) : Int)) ∧ ∀ (d_1 : Bool), ((!!decide (chkS op a b c obj n fo ord = (0 : Int))) = true → d.snd.fst[(0 : Nat)]? = some d_1) → br (!decide (chkS op a b c obj n fo ord = (0 : Int)) || !d_1) (([] : List Go.Eng.Res) = [] ∧ Ent.tup [SV.c (SC.v (Value.int IntKind.i64 (defS (op, a, b, c, obj, n, fo, ord, ())).fst)), SV.c (SC.v (Value.bool (defS (op, a, b, c, obj, n, fo, ord, ())).snd))] = Ent.tup [SV.c (SC.v (Value.int IntKind.i64 (0 : Int))), SV.c (SC.v (Value.bool false))]) (([] : List Go.Eng.Res) = [] ∧ Ent.tup [SV.c (SC.v (Value.int IntKind.i64 (defS (op, a, b, c, obj, n, fo, ord, ())).fst)), SV.c (SC.v (Value.bool (defS (op, a, b, c, obj, n, fo, ord, ())).snd))] = Ent.tup [SV.c (SC.v (Value.int IntKind.i64 a)), SV.c (SC.v (Value.bool true))]) := by
  by_cases h : chkS op a b c obj n fo ord = 0
  · obtain ⟨r1, r2, r3, r4⟩ := chkI_regs (i := (op, a, b, c, obj, n, fo, ord, ())) h
    have r4 : 1 ≤ op ∧ op ≤ 22 := r4
    refine ⟨trivial, fun _ => InR_i64.2 (by omega), fun _ => by omega, fun d hd => ?_⟩
    have hd := hd (by simp [h])
    obtain ⟨nm, us, u⟩ := d
    have hu := rows_use r4 hd
    subst hu
    refine ⟨fun _ => by simp, fun d1 hd1 => ?_⟩
    have hd1 : use op 0 = d1 := by simpa [h] using hd1
    subst hd1
    rw [br_iff]
    have hc : chkI (op, a, b, c, obj, n, fo, ord, ()) = 0 := h
    refine ⟨fun q => ?_, fun q => ?_⟩
    · have q : use op 0 = false := by simpa [h] using q
      have e : defS (op, a, b, c, obj, n, fo, ord, ()) = (0, false) := by unfold defS; rw [if_pos (.inr q)]
      rw [e]; exact ⟨rfl, rfl⟩
    · have q : use op 0 = true := by simpa [h] using q
      have e : defS (op, a, b, c, obj, n, fo, ord, ()) = (a, true) := by unfold defS; rw [if_neg (by rw [hc]; simp [q])]
      rw [e]; exact ⟨rfl, rfl⟩
  · have hc : ¬ chkI (op, a, b, c, obj, n, fo, ord, ()) = 0 := h
    have e : defS (op, a, b, c, obj, n, fo, ord, ()) = (0, false) := by unfold defS; rw [if_pos (.inl hc)]
    rw [e]
    refine ⟨trivial, fun q => by simp [h] at q, fun q => by simp [h] at q, fun d hd => ⟨fun q => by simp [h] at q, fun d1 hd1 => ?_⟩⟩
    rw [br_iff]
    exact ⟨fun _ => ⟨rfl, rfl⟩, fun q => by simp [h] at q⟩
set_option maxHeartbeats 2000000 in
set_option maxRecDepth 100000 in
theorem f35_met : Go.Eng.Met Tryd.prog cx0.gd 35 ctDef :=
  met_of (cx := cx0) (n := 19) (cl := cl35) (by kernel_rfl) tis_ok ⟨f47_met, trivial⟩ Tryd.func35 (by kernel_rfl) (by kernel_rfl) rfl (by kernel_rfl) (by kernel_rfl) fun d hd => by
    obtain ⟨⟨op, a, b, c, obj, n, fo, ord, ⟨⟩⟩, ⟨⟩⟩ := d
    exact ex_of (ann35 op a b c obj n fo ord) (f35_vc op a b c obj n fo ord) (by kernel_rfl)
instance (l : List Int) : Decidable (SS l) := inferInstanceAs (Decidable (l.Pairwise (· < ·)))
def validI (l : List Int) : Bool := decide (SS l)
theorem ss_adj : ∀ {l : List Int}, (∀ j x y, l[j]? = some x → l[j + 1]? = some y → x < y) → SS l
  | [], _ => List.Pairwise.nil
  | [a], _ => by simp [SS]
  | a :: b :: l, h => by
    have ih : SS (b :: l) := ss_adj fun j x y h1 h2 => h (j + 1) x y (by simpa using h1) (by simpa using h2)
    refine List.pairwise_cons.2 ⟨fun z hz => ?_, ih⟩
    have hab := h 0 a b rfl rfl
    rcases List.mem_cons.1 hz with rfl | hz
    · exact hab
    · have := (List.pairwise_cons.1 ih).1 z hz; omega
theorem adj_ss {l : List Int} (h : SS l) {j : Nat} {x y : Int} (h1 : l[j]? = some x) (h2 : l[j + 1]? = some y) : x < y := by
  obtain ⟨a1, a2⟩ := List.getElem?_eq_some_iff.1 h1
  obtain ⟨b1, b2⟩ := List.getElem?_eq_some_iff.1 h2
  have := List.pairwise_iff_getElem.1 h j (j + 1) a1 b1 (by omega)
  omega
@[reducible] def ctV : CT := { ps := [.sl (.int .i64)], pre := fun d => d.1.length ≤ 1000000, res := fun d => ([], vB (validI d.1)) }
@[reducible] def cl45 : List (Nat × CT) := []
@[reducible] def ann45 (l : List Int) : Nat → Option (St → Ann) := fun k => match k with
  | 2 => some fun _ => .inv { α := Nat, slots := fun k => [(3, .c (.v (.int .i64 k)))], res := fun _ => [], inv := fun k => (1 ≤ k ∧ (k ≤ l.length ∨ k = 1)) ∧ ∀ j, j + 1 < k → ∀ x y, l[j]? = some x → l[j + 1]? = some y → x < y, meas := fun k => l.length - k }
  | _ => none
set_option maxRecDepth 100000 in
theorem f45_vc (l : List Int) (hpre : ctV.pre (l, ())) :
    (∃ x, (((1 : Nat) ≤ x ∧ (x ≤ l.length ∨ x = (1 : Nat))) ∧ ∀ (j : Nat), j + (1 : Nat) < x → ∀ (x y : Int), l[j]? = some x → l[j + (1 : Nat)]? = some y → x < y) ∧ (SV.c (SC.v (Value.int IntKind.i64 (1 : Int))) = SV.c (SC.v (Value.int IntKind.i64 (↑x : Int))) ∧ True) ∧ ([] : List (Go.Eng.Gd × Go.Eng.Res)) = []) ∧ ∀ (x : Nat), (((1 : Nat) ≤ x ∧ (x ≤ l.length ∨ x = (1 : Nat))) ∧ ∀ (j : Nat), j + (1 : Nat) < x → ∀ (x y : Int), l[j]? = some x → l[j + (1 : Nat)]? = some y → x < y) → br (decide ((↑x : Int) < (↑l.length : Int))) (InR IntKind.i64 ((↑x : Int) - (1 : Int)) ∧ ((0 : Int) ≤ (↑x : Int) - (1 : Int) ∧ (↑x : Int) - (1 : Int) < (↑l.length : Int)) ∧ ∀ (d : Int), l[((↑x : Int) - (1 : Int)).toNat]? = some d → ((0 : Int) ≤ (↑x : Int) ∧ (↑x : Int) < (↑l.length : Int)) ∧ ∀ (d_1 : Int), l[(↑x : Int).toNat]? = some d_1 → br (decide (d_1 ≤ d)) (([] : List Go.Eng.Res) = [] ∧ Ent.one (SV.c (SC.v (Value.bool (validI l)))) = Ent.one (SV.c (SC.v (Value.bool false)))) (InR IntKind.i64 ((↑x : Int) + (1 : Int)) ∧ ∃ x', (((1 : Nat) ≤ x' ∧ (x' ≤ l.length ∨ x' = (1 : Nat))) ∧ ∀ (j : Nat), j + (1 : Nat) < x' → ∀ (x y : Int), l[j]? = some x → l[j + (1 : Nat)]? = some y → x < y) ∧ (SV.c (SC.v (Value.int IntKind.i64 ((↑x : Int) + (1 : Int)))) = SV.c (SC.v (Value.int IntKind.i64 (↑x' : Int))) ∧ True) ∧ ([] : List (Go.Eng.Gd × Go.Eng.Res)) = [] ∧ l.length - x' < l.length - x)) (([] : List Go.Eng.Res) = [] ∧ Ent.one (SV.c (SC.v (Value.bool (validI l)))) = Ent.one (SV.c (SC.v (Value.bool true)))) := by
  have hp : l.length ≤ 1000000 := hpre
  refine ⟨⟨1, ⟨⟨by omega, .inr rfl⟩, fun j hj => by omega⟩, ⟨rfl, trivial⟩, rfl⟩, fun k hk => br_iff.2 ⟨fun h => ?_, fun h => ?_⟩⟩
  · simp only [decide_eq_true_eq] at h
    have hk1 := hk.1.1
    refine ⟨InR_i64.2 (by omega), by omega, fun d hd => ⟨by omega, fun e he => ?_⟩⟩
    have hd : l[k - 1]? = some d := by rw [← hd]; congr 1; omega
    have he : l[k]? = some e := by simpa using he
    have he' : l[k - 1 + 1]? = some e := by rw [show k - 1 + 1 = k by omega]; exact he
    refine br_iff.2 ⟨fun h2 => ?_, fun h2 => ⟨InR_i64.2 (by omega), k + 1, ⟨⟨by omega, .inl (by omega)⟩, fun j hj x y hx hy => ?_⟩, ⟨by simp, trivial⟩, rfl, by omega⟩⟩
    · simp only [decide_eq_true_eq] at h2
      have : validI l = false := decide_eq_false fun hs => by have := adj_ss hs hd he'; omega
      rw [this]; exact ⟨rfl, rfl⟩
    · simp only [decide_eq_false_iff_not] at h2
      by_cases hjk : j + 1 = k
      · have hj' : j = k - 1 := by omega
        subst hj'
        rw [hd] at hx; rw [he'] at hy; cases hx; cases hy; omega
      · exact hk.2 j (by omega) x y hx hy
  · simp only [decide_eq_false_iff_not] at h
    have : validI l = true := decide_eq_true (ss_adj fun j x y hx hy => hk.2 j (by have := (List.getElem?_eq_some_iff.1 hy).1; omega) x y hx hy)
    rw [this]; exact ⟨rfl, rfl⟩
set_option maxHeartbeats 2000000 in
set_option maxRecDepth 100000 in
theorem f45_met : Go.Eng.Met Tryd.prog cx0.gd 45 ctV :=
  met_of (cx := cx0) (n := 20) (cl := cl45) (by kernel_rfl) tis_ok trivial Tryd.func45 (by kernel_rfl) (by kernel_rfl) rfl (by kernel_rfl) (by kernel_rfl) fun d hd => by
    obtain ⟨l, ⟨⟩⟩ := d
    exact ex_of (ann45 l) (f45_vc l hd) (by kernel_rfl)
@[reducible] def ctFilter : CT := { ps := [.sl (.int .i64), .sl (.int .i64), .bool], pre := fun d => d.1.length ≤ 1000000 ∧ d.2.1.length ≤ 1000000, res := fun d => ([.row 3 (.int .i64) (filI (makeI d.1) d.2.1 d.2.2.1)], .one (.c (.row 0))) }
@[reducible] def cl49 : List (Nat × CT) := [(48, ctSorted), (55, ctCon)]
@[reducible] def ann49 (l : List Int) (o : List Int) (b : Bool) : Nat → Option (St → Ann) := fun k => match k with
  | 3 => some fun _ => .inv { α := Nat, slots := fun k => [(13, .c (.v (.int .i64 k))), (7, .c (.row 1))], res := fun k => [(1, .row 3 (.int .i64) (filI ((makeI l).take k) o b))], inv := fun k => k ≤ (makeI l).length, meas := fun k => (makeI l).length - k, nil := [(7, 3, .int .i64)] }
  | _ => none
set_option maxRecDepth 100000 in
theorem f49_vc (l : List Int) (o : List Int) (b : Bool) (hpre : ctFilter.pre (l, o, b, ())) :
    l.length ≤ (1000000 : Nat) ∧ (∃ x, x ≤ (makeI l).length ∧ (SV.c (SC.v (Value.int IntKind.i64 (0 : Int))) = SV.c (SC.v (Value.int IntKind.i64 (↑x : Int))) ∧ SV.c (SC.row (Nat.succ (0 : Nat))) = SV.c (SC.row (1 : Nat)) ∧ True) ∧ [(([] : Go.Eng.Gd), Res.row (3 : TypeId) (Sh.int IntKind.i64) (makeI l)), (([] : Go.Eng.Gd), Res.row (3 : TypeId) (Sh.int IntKind.i64) [])] = [(([] : Go.Eng.Gd), Res.row (3 : TypeId) (Sh.int IntKind.i64) (makeI l)), (([] : Go.Eng.Gd), Res.row (3 : TypeId) (Sh.int IntKind.i64) (filI (List.take x (makeI l)) o b))]) ∧ ∀ (x : Nat), x ≤ (makeI l).length → br (decide ((↑x : Int) < (↑(makeI l).length : Int))) (((0 : Int) ≤ (↑x : Int) ∧ (↑x : Int) < (↑(makeI l).length : Int)) ∧ (↑x : Int).toNat < (makeI l).length ∧ ∀ (d : Int), (makeI l)[(↑x : Int).toNat]? = some d → o.length ≤ (4611686018427387904 : Nat) ∧ br (hasI o d == b) (InA (List.length (filI (List.take x (makeI l)) o b) + List.length ([d])) (8 : Nat) ∧ InR IntKind.i64 ((↑x : Int) + (1 : Int)) ∧ ∃ x', x' ≤ (makeI l).length ∧ (SV.c (SC.v (Value.int IntKind.i64 ((↑x : Int) + (1 : Int)))) = SV.c (SC.v (Value.int IntKind.i64 (↑x' : Int))) ∧ SV.c (SC.row (1 : Nat)) = SV.c (SC.row (1 : Nat)) ∧ True) ∧ [(([] : Go.Eng.Gd), Res.row (3 : TypeId) (Sh.int IntKind.i64) (makeI l)), (([] : Go.Eng.Gd), Res.row (3 : TypeId) (Sh.int IntKind.i64) (filI (List.take x (makeI l)) o b ++ [d]))] = [(([] : Go.Eng.Gd), Res.row (3 : TypeId) (Sh.int IntKind.i64) (makeI l)), (([] : Go.Eng.Gd), Res.row (3 : TypeId) (Sh.int IntKind.i64) (filI (List.take x' (makeI l)) o b))] ∧ (makeI l).length - x' < (makeI l).length - x) (InR IntKind.i64 ((↑x : Int) + (1 : Int)) ∧ ∃ x', x' ≤ (makeI l).length ∧ (SV.c (SC.v (Value.int IntKind.i64 ((↑x : Int) + (1 : Int)))) = SV.c (SC.v (Value.int IntKind.i64 (↑x' : Int))) ∧ SV.c (SC.row (1 : Nat)) = SV.c (SC.row (1 : Nat)) ∧ True) ∧ [(([] : Go.Eng.Gd), Res.row (3 : TypeId) (Sh.int IntKind.i64) (makeI l)), (([] : Go.Eng.Gd), Res.row (3 : TypeId) (Sh.int IntKind.i64) (filI (List.take x (makeI l)) o b))] = [(([] : Go.Eng.Gd), Res.row (3 : TypeId) (Sh.int IntKind.i64) (makeI l)), (([] : Go.Eng.Gd), Res.row (3 : TypeId) (Sh.int IntKind.i64) (filI (List.take x' (makeI l)) o b))] ∧ (makeI l).length - x' < (makeI l).length - x)) ([Res.row (3 : TypeId) (Sh.int IntKind.i64) (filI (makeI l) o b)] = [Res.row (3 : TypeId) (Sh.int IntKind.i64) (filI (List.take x (makeI l)) o b)] ∧ Ent.one (SV.c (SC.row (0 : Nat))) = Ent.one (SV.c (SC.row (0 : Nat)))) := by
  have hp : l.length ≤ 1000000 ∧ o.length ≤ 1000000 := hpre
  have hm := make_len l
  have hf : ∀ k, (filI ((makeI l).take k) o b).length ≤ 1000000 := fun k => by
    refine Nat.le_trans (List.length_filter_le _ _) ?_
    rw [List.length_take]; omega
  refine ⟨hp.1, ⟨0, by omega, ⟨rfl, rfl, trivial⟩, by simp [filI]⟩, fun k hk => br_iff.2 ⟨fun h => ?_, fun h => ?_⟩⟩
  · simp only [decide_eq_true_eq] at h
    refine ⟨⟨by omega, h⟩, by omega, fun d hd => ?_⟩
    have hd : (makeI l)[k]? = some d := by simpa using hd
    have e : filI ((makeI l).take (k + 1)) o b = filI ((makeI l).take k) o b ++ (if hasI o d == b then [d] else []) := by
      unfold filI
      rw [List.take_add_one, hd, Option.toList_some, List.filter_append]
      congr 1
      simp only [List.filter_cons, List.filter_nil]
    refine ⟨by omega, br_iff.2 ⟨fun h2 => ⟨?_, InR_i64.2 (by omega), k + 1, by omega, ⟨by simp, rfl, trivial⟩, ?_, by omega⟩, fun h2 => ⟨InR_i64.2 (by omega), k + 1, by omega, ⟨by simp, rfl, trivial⟩, ?_, by omega⟩⟩⟩
    · have := hf k
      rw [InA_iff]; simp; omega
    · rw [e, h2]; rfl
    · rw [e, h2]; simp
  · simp only [decide_eq_false_iff_not] at h
    rw [List.take_of_length_le (by omega)]; exact ⟨rfl, rfl⟩
set_option maxHeartbeats 2000000 in
set_option maxRecDepth 100000 in
theorem f49_met : Go.Eng.Met Tryd.prog cx0.gd 49 ctFilter :=
  met_of (cx := cx0) (n := 28) (cl := cl49) (by kernel_rfl) tis_ok ⟨f48_met, f55_met, trivial⟩ Tryd.func49 (by kernel_rfl) (by kernel_rfl) rfl (by kernel_rfl) (by kernel_rfl) fun d hd => by
    obtain ⟨l, o, b, ⟨⟩⟩ := d
    exact ex_of (ann49 l o b) (f49_vc l o b hd) (by kernel_rfl)
@[reducible] def ctRem : CT := { ps := [.sl (.int .i64), .int .i64], pre := fun d => d.1.length ≤ 1000000, res := fun d => ([.row 3 (.int .i64) (filI (makeI d.1) [d.2.1] false)], .one (.c (.row 0))) }
@[reducible] def cl38 : List (Nat × CT) := [(49, ctFilter)]
@[reducible] def ann38 (l : List Int) (x : Int) : Nat → Option (St → Ann) := fun _ => none
set_option maxRecDepth 100000 in
theorem f38_vc (l : List Int) (x : Int) (hpre : ctRem.pre (l, x, ())) :
    (l.length ≤ (1000000 : Nat) ∧ [x].length ≤ (1000000 : Nat)) ∧ [Res.row (3 : TypeId) (Sh.int IntKind.i64) (filI (makeI l) [x] false)] = [Res.row (3 : TypeId) (Sh.int IntKind.i64) (filI (makeI l) [x] false)] ∧ Ent.one (SV.c (SC.row (0 : Nat))) = Ent.one (SV.c (SC.row (0 : Nat))) := by
  have hp : l.length ≤ 1000000 := hpre
  exact ⟨⟨hp, by simp⟩, rfl, rfl⟩
set_option maxHeartbeats 2000000 in
set_option maxRecDepth 100000 in
theorem f38_met : Go.Eng.Met Tryd.prog cx0.gd 38 ctRem :=
  met_of (cx := cx0) (n := 9) (cl := cl38) (by kernel_rfl) tis_ok ⟨f49_met, trivial⟩ Tryd.func38 (by kernel_rfl) (by kernel_rfl) rfl (by kernel_rfl) (by kernel_rfl) fun d hd => by
    obtain ⟨l, x, ⟨⟩⟩ := d
    exact ex_of (ann38 l x) (f38_vc l x hd) (by kernel_rfl)
end Go.Proofs.YtklnffdjhoacoaaDoor
