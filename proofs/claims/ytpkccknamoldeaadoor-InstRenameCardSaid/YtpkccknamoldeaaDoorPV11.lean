/- The functions of the Inst chapter, part 11: the statements. -/
import Derived.Test.YtpkccknamoldeaaDoorPV10
set_option linter.unusedSimpArgs false
set_option linter.unusedVariables false
set_option maxRecDepth 100000
namespace Go.Proofs.YtpkccknamoldeaaDoor
open Go Go.Eng

@[reducible] def ct3 : CT := { ps := [shI], pre := fun d => True, res := fun d => ([], .one (.c (.v (.bool true)))) }
@[reducible] def cl3 : List (Nat × CT) := [(8, ct8), (9, ct9), (10, ct10), (11, ct11), (12, ct12), (14, ct14), (15, ct15), (13, ct13)]
@[reducible] def ann3 (op : Int) (a : Int) (b : Int) (c : Int) (obj : Int) (n : Int) (fn : Int) (ord : Int) : Nat → Option (St → Ann) := fun _ => none
set_option maxRecDepth 100000 in
theorem f3_vc (op : Int) (a : Int) (b : Int) (c : Int) (obj : Int) (n : Int) (fn : Int) (ord : Int) :
    True ∧ True ∧ True ∧ (true = true → True) ∧ (true = true → True) ∧ ((true && decide (chkS op a b c obj n fn ord = chkS op a b c obj n fn ord)) = true → True) ∧ ((true && decide (chkS op a b c obj n fn ord = chkS op a b c obj n fn ord)) = true → True) ∧ ((true && decide (chkS op a b c obj n fn ord = chkS op a b c obj n fn ord)) = true → (usesS op a b c obj n fn ord).length ≤ (4611686018427387904 : Nat)) ∧ ([] : List Go.Eng.Res) = [] ∧ Ent.one (SV.c (SC.v (Value.bool true))) = Ent.one (SV.c (SC.v (Value.bool (true && decide (chkS op a b c obj n fn ord = chkS op a b c obj n fn ord) && decide (usesS op a b c obj n fn ord = usesS op a b c obj n fn ord) && decide ((if chkS op a b c obj n fn ord = (0 : Int) ∧ use op (0 : Nat) = true then a else (0 : Int)) = if chkS op a b c obj n fn ord = (0 : Int) ∧ use op (0 : Nat) = true then a else (0 : Int)) && (decide (chkS op a b c obj n fn ord = (0 : Int)) && use op (0 : Nat)) == (decide (chkS op a b c obj n fn ord = (0 : Int)) && use op (0 : Nat)))))) := by
  have hl : (usesS op a b c obj n fn ord).length ≤ 4611686018427387904 := by
    unfold usesS
    split
    · have h1 := makeI_len (useL op b c)
      have h2 : (useL op b c).length ≤ 2 := by
        unfold useL; cases use op 1 <;> cases use op 2 <;> simp
      omega
    · simp
  simp [hl]
set_option maxRecDepth 100000 in
theorem f3_met : Go.Eng.Met Tryd.prog cx0.gd 3 ct3 :=
  met_of (cx := cx0) (n := 42) (cl := cl3) (by kernel_rfl) tis_ok ⟨f8_met, f9_met, f10_met, f11_met, f12_met, f14_met, f15_met, f13_met, trivial⟩ Tryd.func3 (by kernel_rfl) (by kernel_rfl) rfl (by kernel_rfl) (by kernel_rfl) fun d hd => by
    obtain ⟨⟨op, a, b, c, obj, n, fn, ord, ⟨⟩⟩, ⟨⟩⟩ := d
    exact ⟨ann3 op a b c obj n fn ord, cast (by kernel_rfl) (f3_vc op a b c obj n fn ord)⟩
@[reducible] def ct4 : CT := { ps := [shI, .sl (.int .i64)], pre := fun d => True, res := fun d => ([], .one (.c (.v (.bool true)))) }
@[reducible] def cl4 : List (Nat × CT) := [(16, ct16), (17, ct17), (10, ct10)]
@[reducible] def ann4 (op : Int) (a : Int) (b : Int) (c : Int) (obj : Int) (n : Int) (fn : Int) (ord : Int) (l : List Int) : Nat → Option (St → Ann) := fun _ => none
set_option maxRecDepth 100000 in
theorem f4_vc (op : Int) (a : Int) (b : Int) (c : Int) (obj : Int) (n : Int) (fn : Int) (ord : Int) (l : List Int) :
    br (decide ((100 : Int) < (↑l.length : Int))) (True ∧ ([] : List Go.Eng.Res) = [] ∧ Ent.one (SV.c (SC.v (Value.bool true))) = Ent.one (SV.c (SC.v (Value.bool true)))) (True ∧ True ∧ True ∧ ([] : List Go.Eng.Res) = [] ∧ Ent.one (SV.c (SC.v (Value.bool true))) = Ent.one (SV.c (SC.v (Value.bool (true && (true && ren0 (renE op a b c obj n fn ord l) op == ren0 (renE op a b c obj n fn ord l) op && renF (renE op a b c obj n fn ord l) op l (0 : Nat) a == renF (renE op a b c obj n fn ord l) op l (0 : Nat) a && renF (renE op a b c obj n fn ord l) op l (1 : Nat) b == renF (renE op a b c obj n fn ord l) op l (1 : Nat) b && renF (renE op a b c obj n fn ord l) op l (2 : Nat) c == renF (renE op a b c obj n fn ord l) op l (2 : Nat) c && ren0 (renE op a b c obj n fn ord l) obj == ren0 (renE op a b c obj n fn ord l) obj && ren0 (renE op a b c obj n fn ord l) n == ren0 (renE op a b c obj n fn ord l) n && ren0 (renE op a b c obj n fn ord l) fn == ren0 (renE op a b c obj n fn ord l) fn && ren0 (renE op a b c obj n fn ord l) ord == ren0 (renE op a b c obj n fn ord l) ord) && decide (renE op a b c obj n fn ord l = renE op a b c obj n fn ord l)))))) := by
  refine br_iff.2 ⟨fun _ => ⟨trivial, rfl, rfl⟩, fun _ => ?_⟩
  simp
set_option maxRecDepth 100000 in
theorem f4_met : Go.Eng.Met Tryd.prog cx0.gd 4 ct4 :=
  met_of (cx := cx0) (n := 36) (cl := cl4) (by kernel_rfl) tis_ok ⟨f16_met, f17_met, f10_met, trivial⟩ Tryd.func4 (by kernel_rfl) (by kernel_rfl) rfl (by kernel_rfl) (by kernel_rfl) fun d hd => by
    obtain ⟨⟨op, a, b, c, obj, n, fn, ord, ⟨⟩⟩, l, ⟨⟩⟩ := d
    exact ⟨ann4 op a b c obj n fn ord l, cast (by kernel_rfl) (f4_vc op a b c obj n fn ord l)⟩
@[reducible] def ct6 : CT := { ps := [.int .i64, .int .i64, .str], pre := fun d => True, res := fun d => ([], .one (.c (.v (.bool true)))) }
@[reducible] def cl6 : List (Nat × CT) := [(21, ct21), (22, ct22), (23, ct23), (24, ct24), (10, ct10), (25, ct25), (26, ct26), (27, ct27), (28, ct28), (29, ct29), (30, ct30), (31, ct31), (32, ct32)]
@[reducible] def ann6 (op : Int) (o : Int) (s : ByteArray) : Nat → Option (St → Ann) := fun _ => none
set_option maxRecDepth 100000 in
theorem f6_vc (op : Int) (o : Int) (s : ByteArray) :
    True ∧ True ∧ True ∧ True ∧ True ∧ (true = true → True) ∧ (true = true → True) ∧ ((true && visS op == visS op) = true → True) ∧ ((true && visS op == visS op) = true → True) ∧ ((true && visS op == visS op && drnS op == drnS op) = true → True) ∧ ((true && visS op == visS op && drnS op == drnS op) = true → True) ∧ ((true && visS op == visS op && drnS op == drnS op && decide (mnS op = mnS op)) = true → True) ∧ ((true && visS op == visS op && drnS op == drnS op && decide (mnS op = mnS op)) = true → True) ∧ ([] : List Go.Eng.Res) = [] ∧ Ent.one (SV.c (SC.v (Value.bool true))) = Ent.one (SV.c (SC.v (Value.bool (true && visS op == visS op && drnS op == drnS op && decide (mnS op = mnS op) && decide (ordS o = ordS o) && decide (byMn s = byMn s) && byMnOk s == byMnOk s && decide (byOrd s = byOrd s) && byOrdOk s == byOrdOk s)))) := by
  simp
set_option maxRecDepth 100000 in
theorem f6_met : Go.Eng.Met Tryd.prog cx1.gd 6 ct6 :=
  met_of (cx := cx1) (n := 84) (cl := cl6) (by kernel_rfl) tis_ok ⟨(up f21_met), (up f22_met), f23_met, (up f24_met), (up f10_met), (up f25_met), (up f26_met), (up f27_met), (up f28_met), (up f29_met), (up f30_met), f31_met, (up f32_met), trivial⟩ Tryd.func6 (by kernel_rfl) (by kernel_rfl) rfl (by kernel_rfl) (by kernel_rfl) fun d hd => by
    obtain ⟨op, o, s, ⟨⟩⟩ := d
    exact ⟨ann6 op o s, cast (by kernel_rfl) (f6_vc op o s)⟩
theorem kn_iff {a : Int} : (decide (1 ≤ a) && decide (a ≤ 22)) = true ↔ 1 ≤ a ∧ a ≤ 22 := by simp
theorem mn_not {a : Int} (h : ¬ (1 ≤ a ∧ a ≤ 22)) : mnS a = ByteArray.empty := by unfold mnS; rw [if_neg h]
theorem mn_at {a : Int} (h : 1 ≤ a ∧ a ≤ 22) : ∃ k : Fin 22, a = k.1 + 1 := ⟨⟨(a - 1).toNat, by omega⟩, by simp; omega⟩
theorem mn_ne : ∀ k : Fin 22, mnS ((k.1 : Int) + 1) ≠ ByteArray.empty := by decide
theorem mn_by : ∀ k : Fin 22, byMn (mnS ((k.1 : Int) + 1)) = (k.1 : Int) + 1 ∧ byMnOk (mnS ((k.1 : Int) + 1)) = true := by decide
theorem or_at {o : Int} (h : 0 ≤ o ∧ o ≤ 2) : ∃ k : Fin 3, o = k.1 := ⟨⟨o.toNat, by omega⟩, by simp; omega⟩
theorem or_by : ∀ k : Fin 3, byOrd (ordS (k.1 : Int)) = (k.1 : Int) ∧ byOrdOk (ordS (k.1 : Int)) = true := by decide
theorem mn_facts (a : Int) : (decide (1 ≤ a) && decide (a ≤ 22)) = (!decide (mnS a = ⟨#[]⟩)) ∧ (decide (1 ≤ a) && decide (a ≤ 22)) = byMnOk (mnS a) ∧ ((decide (1 ≤ a) && decide (a ≤ 22)) = true → byMn (mnS a) = a) := by
  by_cases h : 1 ≤ a ∧ a ≤ 22
  · rw [kn_iff.2 h]
    obtain ⟨k, rfl⟩ := mn_at h
    have h1 := mn_ne k
    have h2 := mn_by k
    refine ⟨?_, h2.2.symm, fun _ => h2.1⟩
    rw [decide_eq_false (show ¬ mnS (↑↑k + 1) = ⟨#[]⟩ from h1)]; rfl
  · have e : (decide (1 ≤ a) && decide (a ≤ 22)) = false := by
      cases hh : (decide (1 ≤ a) && decide (a ≤ 22)) with
      | false => rfl
      | true => exact absurd (kn_iff.1 hh) h
    rw [e, mn_not h]
    exact ⟨by decide, by decide, fun hh => by cases hh⟩
theorem or_facts (o : Int) : (decide (0 ≤ o) && decide (o ≤ 2)) = byOrdOk (ordS o) ∧ ((decide (0 ≤ o) && decide (o ≤ 2)) = true → byOrd (ordS o) = o) := by
  by_cases h : 0 ≤ o ∧ o ≤ 2
  · have e : (decide (0 ≤ o) && decide (o ≤ 2)) = true := by simp [h]
    rw [e]
    obtain ⟨k, rfl⟩ := or_at h
    have h2 := or_by k
    exact ⟨h2.2.symm, fun _ => h2.1⟩
  · have e : (decide (0 ≤ o) && decide (o ≤ 2)) = false := by
      cases hh : (decide (0 ≤ o) && decide (o ≤ 2)) with
      | false => rfl
      | true => simp at hh; exact absurd hh h
    rw [e, show ordS o = ByteArray.empty from if_neg h]
    exact ⟨by decide, fun hh => by cases hh⟩
theorem mn_inj {a b : Int} (h : mnS a ≠ ⟨#[]⟩) (e : mnS a = mnS b) : a = b := by
  obtain ⟨a1, a2, a3⟩ := mn_facts a
  obtain ⟨b1, b2, b3⟩ := mn_facts b
  have ka : (decide (1 ≤ a) && decide (a ≤ 22)) = true := by rw [a1, decide_eq_false h]; rfl
  have kb : (decide (1 ≤ b) && decide (b ≤ 22)) = true := by rw [b1, ← e, decide_eq_false h]; rfl
  rw [← a3 ka, ← b3 kb, e]
@[reducible] def ct7 : CT := { ps := [.int .i64, .int .i64, .int .i64], pre := fun d => True, res := fun d => ([], .one (.c (.v (.bool true)))) }
@[reducible] def cl7 : List (Nat × CT) := [(29, ct29), (21, ct21), (31, ct31), (23, ct23), (10, ct10), (27, ct27), (25, ct25)]
@[reducible] def ann7 (a : Int) (b : Int) (o : Int) : Nat → Option (St → Ann) := fun _ => none
set_option maxRecDepth 100000 in
theorem f7_vc (a : Int) (b : Int) (o : Int) :
    True ∧ True ∧ True ∧ True ∧ True ∧ br (!decide (mnS a = { data := #[] : ByteArray }) && decide (mnS a = mnS b) && !decide (a = b) || !(decide ((1 : Int) ≤ a) && decide (a ≤ (22 : Int))) == !decide (mnS a = { data := #[] : ByteArray }) || !(decide ((1 : Int) ≤ a) && decide (a ≤ (22 : Int))) == byMnOk (mnS a) || decide ((1 : Int) ≤ a) && decide (a ≤ (22 : Int)) && !decide (byMn (mnS a) = a) || !(decide ((0 : Int) ≤ o) && decide (o ≤ (2 : Int))) == byOrdOk (ordS o) || decide ((0 : Int) ≤ o) && decide (o ≤ (2 : Int)) && !decide (byOrd (ordS o) = o)) (([] : List Go.Eng.Res) = [] ∧ Ent.one (SV.c (SC.v (Value.bool true))) = Ent.one (SV.c (SC.v (Value.bool false)))) (True ∧ (true = true → True) ∧ ((!!drnS a && true) = true → True) ∧ ((true && (!drnS a || visS a)) = true → True) ∧ ([] : List Go.Eng.Res) = [] ∧ Ent.one (SV.c (SC.v (Value.bool true))) = Ent.one (SV.c (SC.v (Value.bool (true && (!drnS a || visS a) && (!visS a || decide ((1 : Int) ≤ a) && decide (a ≤ (22 : Int)))))))) := by
  obtain ⟨a1, a2, a3⟩ := mn_facts a
  obtain ⟨o1, o2⟩ := or_facts o
  have hi : (!decide (mnS a = ⟨#[]⟩) && decide (mnS a = mnS b) && !decide (a = b)) = false := by
    cases hh : (!decide (mnS a = ⟨#[]⟩) && decide (mnS a = mnS b) && !decide (a = b)) with
    | false => rfl
    | true =>
      simp only [Bool.and_eq_true, Bool.not_eq_true', decide_eq_true_eq, decide_eq_false_iff_not] at hh
      exact absurd (mn_inj hh.1.1 hh.1.2) hh.2
  have hv : (!drnS a || visS a) = true := by unfold drnS; cases visS a <;> simp
  have hk : (!visS a || decide (1 ≤ a) && decide (a ≤ 22)) = true := by simp [visS]; omega
  have h4 : (decide (1 ≤ a) && decide (a ≤ 22) && !decide (byMn (mnS a) = a)) = false := by
    cases hh : (decide (1 ≤ a) && decide (a ≤ 22)) with
    | false => rfl
    | true => simp [a3 hh]
  have h5 : (decide (0 ≤ o) && decide (o ≤ 2) && !decide (byOrd (ordS o) = o)) = false := by
    cases hh : (decide (0 ≤ o) && decide (o ≤ 2)) with
    | false => rfl
    | true => simp [o2 hh]
  rw [hi, ← a1, ← a2, ← o1, h4, h5, hv, hk]
  refine ⟨trivial, trivial, trivial, trivial, trivial, br_iff.2 ⟨fun h => ?_, fun h => ?_⟩⟩
  · exfalso
    revert h
    cases (decide (1 ≤ a) && decide (a ≤ 22)) <;> cases (decide (0 ≤ o) && decide (o ≤ 2)) <;> decide
  · simp
set_option maxRecDepth 100000 in
theorem f7_met : Go.Eng.Met Tryd.prog cx1.gd 7 ct7 :=
  met_of (cx := cx1) (n := 104) (cl := cl7) (by kernel_rfl) tis_ok ⟨(up f29_met), (up f21_met), f31_met, f23_met, (up f10_met), (up f27_met), (up f25_met), trivial⟩ Tryd.func7 (by kernel_rfl) (by kernel_rfl) rfl (by kernel_rfl) (by kernel_rfl) fun d hd => by
    obtain ⟨a, b, o, ⟨⟩⟩ := d
    exact ⟨ann7 a b o, cast (by kernel_rfl) (f7_vc a b o)⟩
end Go.Proofs.YtpkccknamoldeaaDoor
