/- Texts of this claim, part 7: E15, K12, E16, L6. Conditions: those of the given rows. -/
import Derived.Test.YtigfbjjphegleaaDoorB6
import Derived.Test.YtigfbjjphegleaaDoorCards
import Derived.Test.YtigfbjjphegleaaDoorTie
import Derived.WalkKit
import Derived.ProofKit
import Derived.OpenShut
import Derived.Deep.DeepHandedRow
import Derived.Lib.LaidTab
set_option linter.unusedSimpArgs false
set_option linter.unusedVariables false
set_option maxRecDepth 100000
namespace Go.Proofs.YtigfbjjphegleaaDoor
open Go Go.Eng

def relOK (r : Int × List PrD × Unit) : Prop := 0 ≤ r.1 ∧ r.1 ≤ 64 ∧ inR r.1.toNat r.2.1 ∧ r.2.1.length ≤ 10000
@[reducible] def ctRv : CT := { ps := [shR], pre := fun d => relOK d.1, res := fun d => ([], vB (true)) }
@[reducible] def cl44 : List (Nat × CT) := []
@[reducible] def ann44 (m : Int) (ps : List (List Int)) : Nat → Option (St → Ann) := fun n => match n with
  | 4 => some fun _ => .inv { α := Nat, slots := fun k => [(3, .c (.v (.int .i64 k)))], res := fun k => [], inv := fun k => k ≤ ps.length, meas := fun k => ps.length - k }
  | _ => none
@[reducible] def il44 : List (Nat × IP) := []
@[reducible] def hl44 : List (Nat × Nat × CT) := []
@[reducible] def ml44 : List (Nat × MK) := []
set_option maxRecDepth 100000 in
theorem f44_vc (m : Int) (ps : List (List Int)) (hpre : ctRv.pre ((m, ps, ()), ())) :
    br (decide (m < (0 : Int)) || decide ((64 : Int) < m)) (([] : List Go.Eng.Res) = [] ∧ Ent.one (SV.c (SC.v (Value.bool true))) = Ent.one (SV.c (SC.v (Value.bool false)))) ((∃ x, x ≤ ps.length ∧ (SV.c (v6 ((0 : Int))) = SV.c (v6 ((↑x : Int))) ∧ True) ∧ [(([] : Go.Eng.Gd), Res.blk (43 : Nat) [v6 (m), SC.sl shP ps])] = [(([] : Go.Eng.Gd), Res.blk (43 : Nat) [v6 (m), SC.sl shP ps])]) ∧ ∀ (x : Nat), x ≤ ps.length → br (decide ((↑x : Int) < (↑ps.length : Int))) (((0 : Int) ≤ (↑x : Int) ∧ (↑x : Int) < (↑ps.length : Int)) ∧ ∀ (d : List I6.den), ps[(↑x : Int).toNat]? = some d → ((0 : Int) ≤ (0 : Int) ∧ (0 : Int) < (↑d.length : Int)) ∧ ∀ (d_1 : Int), d[(0 : Nat)]? = some d_1 → ((0 : Int) ≤ (↑x : Int) ∧ (↑x : Int) < (↑ps.length : Int)) ∧ ∀ (d : List I6.den), ps[(↑x : Int).toNat]? = some d → ((0 : Int) ≤ (1 : Int) ∧ (1 : Int) < (↑d.length : Int)) ∧ ∀ (d_2 : Int), d[(1 : Nat)]? = some d_2 → br (decide (d_1 < (0 : Int)) || decide (m ≤ d_1) || decide (d_2 < (0 : Int)) || decide (m ≤ d_2)) (([] : List Go.Eng.Res) = [] ∧ Ent.one (SV.c (SC.v (Value.bool true))) = Ent.one (SV.c (SC.v (Value.bool false)))) (InR IntKind.i64 ((↑x : Int) + (1 : Int)) ∧ ∃ x', x' ≤ ps.length ∧ (SV.c (v6 (((↑x : Int) + (1 : Int)))) = SV.c (v6 ((↑x' : Int))) ∧ True) ∧ [(([] : Go.Eng.Gd), Res.blk (43 : Nat) [v6 (m), SC.sl shP ps])] = [(([] : Go.Eng.Gd), Res.blk (43 : Nat) [v6 (m), SC.sl shP ps])] ∧ ps.length - x' < ps.length - x)) (([] : List Go.Eng.Res) = [] ∧ Ent.one (SV.c (SC.v (Value.bool true))) = Ent.one (SV.c (SC.v (Value.bool true))))) := by
  obtain ⟨h0, h1, hr, hl⟩ : 0 ≤ m ∧ m ≤ 64 ∧ inR m.toNat ps ∧ ps.length ≤ 10000 := hpre
  refine br_iff.2 ⟨fun q => by simp at q; omega, fun _ => ⟨⟨0, by omega, ⟨rfl, trivial⟩, rfl⟩, fun x hx => br_iff.2 ⟨fun g => ?_, fun _ => ⟨rfl, rfl⟩⟩⟩⟩
  simp only [decide_eq_true_eq] at g
  refine ⟨⟨by omega, by omega⟩, fun d hd => ?_⟩
  obtain ⟨a, b, rfl, ha, hb⟩ := hr d (List.mem_of_getElem? hd)
  refine ⟨⟨by decide, by simp⟩, fun d1 hd1 => ⟨⟨by omega, by omega⟩, fun d' hd' => ?_⟩⟩
  have ed : d' = [(a : Int), (b : Int)] := Option.some.inj (hd'.symm.trans hd)
  subst ed
  refine ⟨⟨by decide, by simp⟩, fun d2 hd2 => br_iff.2 ⟨fun q => ?_, fun _ => ⟨InR_i64.2 (by omega), x + 1, by omega, ⟨rfl, trivial⟩, rfl, by omega⟩⟩⟩
  exfalso
  have e1 : d1 = (a : Int) := (Option.some.inj hd1).symm
  have e2 : d2 = (b : Int) := (Option.some.inj hd2).symm
  rw [e1, e2] at q
  simp only [Bool.or_eq_true, decide_eq_true_eq] at q
  omega
set_option maxHeartbeats 2000000 in
set_option maxRecDepth 100000 in
theorem f44_met : Go.Eng.Met Tryd.prog cx0.gd 44 ctRv :=
  (met_all (cx := cx0) (n := 51) (cl := cl44) (il := il44) (hl := hl44) (ml := ml44) (rc := []) (lits := []) (suf := []) (by kernel_rfl) tis_ok trivial trivial trivial trivial Tryd.func44 (by kernel_rfl) (by kernel_rfl) rfl (by kernel_rfl) (by kernel_rfl) (by simp) fun d hd => by
    obtain ⟨⟨m, ps, ⟨⟩⟩, ⟨⟩⟩ := d
    exact ex_of (ann44 m ps) (f44_vc m ps hd) (by kernel_rfl)).met
@[reducible] def ctRt : CT := { ps := [shR], pre := fun d => relOK d.1, res := fun d => ([.row 4 .bool (mtx d.1.1.toNat (memB d.1.2.1))], .one (.c (.row 0))) }
@[reducible] def cl69 : List (Nat × CT) := []
@[reducible] def ann69 (m : Int) (ps : List (List Int)) : Nat → Option (St → Ann) := fun n => match n with
  | 3 => some fun _ => .inv { α := Nat, slots := fun k => [(4, .c (.v (.int .i64 k)))], res := fun k => [(1, .row 4 .bool (mtx m.toNat (memB (ps.take k))))], inv := fun k => k ≤ ps.length, meas := fun k => ps.length - k }
  | _ => none
@[reducible] def il69 : List (Nat × IP) := []
@[reducible] def hl69 : List (Nat × Nat × CT) := []
@[reducible] def ml69 : List (Nat × MK) := []
set_option maxRecDepth 100000 in
theorem f69_vc (m : Int) (ps : List (List Int)) (hpre : ctRt.pre ((m, ps, ()), ())) :
    InR IntKind.i64 (m * m) ∧ ((0 : Int) ≤ m * m ∧ m * m ≤ m * m ∧ InA (m * m).toNat (1 : Nat)) ∧ (∃ x, x ≤ ps.length ∧ (SV.c (v6 ((0 : Int))) = SV.c (v6 ((↑x : Int))) ∧ True) ∧ [(([] : Go.Eng.Gd), Res.blk (43 : Nat) [v6 (m), SC.sl shP ps]), (([] : Go.Eng.Gd), Res.row (4 : TypeId) Sh.bool (List.replicate (m * m).toNat false))] = [(([] : Go.Eng.Gd), Res.blk (43 : Nat) [v6 (m), SC.sl shP ps]), (([] : Go.Eng.Gd), Res.row (4 : TypeId) Sh.bool (mtx m.toNat (memB (List.take x ps))))]) ∧ ∀ (x : Nat), x ≤ ps.length → br (decide ((↑x : Int) < (↑ps.length : Int))) (((0 : Int) ≤ (↑x : Int) ∧ (↑x : Int) < (↑ps.length : Int)) ∧ ∀ (d : List I6.den), ps[(↑x : Int).toNat]? = some d → ((0 : Int) ≤ (0 : Int) ∧ (0 : Int) < (↑d.length : Int)) ∧ ∀ (d_1 : Int), d[(0 : Nat)]? = some d_1 → InR IntKind.i64 (d_1 * m) ∧ ((0 : Int) ≤ (↑x : Int) ∧ (↑x : Int) < (↑ps.length : Int)) ∧ ∀ (d : List I6.den), ps[(↑x : Int).toNat]? = some d → ((0 : Int) ≤ (1 : Int) ∧ (1 : Int) < (↑d.length : Int)) ∧ ∀ (d_2 : Int), d[(1 : Nat)]? = some d_2 → InR IntKind.i64 (d_1 * m + d_2) ∧ ((0 : Int) ≤ d_1 * m + d_2 ∧ d_1 * m + d_2 < (↑(mtx m.toNat (memB (List.take x ps))).length : Int)) ∧ (d_1 * m + d_2).toNat < (mtx m.toNat (memB (List.take x ps))).length ∧ InR IntKind.i64 ((↑x : Int) + (1 : Int)) ∧ ∃ x', x' ≤ ps.length ∧ (SV.c (v6 (((↑x : Int) + (1 : Int)))) = SV.c (v6 ((↑x' : Int))) ∧ True) ∧ [(([] : Go.Eng.Gd), Res.blk (43 : Nat) [v6 (m), SC.sl shP ps]), (([] : Go.Eng.Gd), Res.row (4 : TypeId) Sh.bool ((mtx m.toNat (memB (List.take x ps))).set (d_1 * m + d_2).toNat true))] = [(([] : Go.Eng.Gd), Res.blk (43 : Nat) [v6 (m), SC.sl shP ps]), (([] : Go.Eng.Gd), Res.row (4 : TypeId) Sh.bool (mtx m.toNat (memB (List.take x' ps))))] ∧ ps.length - x' < ps.length - x) ([Res.row (4 : TypeId) Sh.bool (mtx m.toNat (memB (m, ps, ()).snd.fst))] = [Res.row (4 : TypeId) Sh.bool (mtx m.toNat (memB (List.take x ps)))] ∧ Ent.one (SV.c (SC.row (0 : Nat))) = Ent.one (SV.c (SC.row (0 : Nat)))) := by
  obtain ⟨h0, h1, hr, hl⟩ : 0 ≤ m ∧ m ≤ 64 ∧ inR m.toNat ps ∧ ps.length ≤ 10000 := hpre
  obtain ⟨n, rfl⟩ := Int.eq_ofNat_of_zero_le h0
  have hn : n ≤ 64 := by omega
  simp only [Int.toNat_natCast] at hr ⊢
  obtain ⟨n1, n2, n3, n4⟩ := nn_le hn
  refine ⟨n1, ⟨n2, Int.le_refl _, InA_iff.2 (by omega)⟩, ⟨0, by omega, ⟨by trivial, trivial⟩, ?_⟩, fun x hx => br_iff.2 ⟨fun g => ?_, fun g => ?_⟩⟩
  · have e : mtx n (memB (ps.take 0)) = List.replicate (n * n) false := by
      rw [← mtx_false]
      exact mtx_ext fun a b _ _ => by simp [memB]
    rw [n3, e]
  · simp only [decide_eq_true_eq] at g
    refine ⟨⟨by omega, by omega⟩, fun d hd => ?_⟩
    obtain ⟨a, b, rfl, ha, hb⟩ := hr d (List.mem_of_getElem? hd)
    obtain ⟨r1, r2, r3, r4, r5, r6⟩ := ix hn ha hb
    have hd : ps[x]? = some [(a : Int), (b : Int)] := hd
    refine ⟨⟨by decide, by simp⟩, fun d1 hd1 => ?_⟩
    have e1 : d1 = (a : Int) := (Option.some.inj hd1).symm
    subst e1
    refine ⟨r1, ⟨by omega, by omega⟩, fun d' hd' => ?_⟩
    have ed : d' = [(a : Int), (b : Int)] := Option.some.inj (hd'.symm.trans hd)
    subst ed
    refine ⟨⟨by decide, by simp⟩, fun d2 hd2 => ?_⟩
    have e2 : d2 = (b : Int) := (Option.some.inj hd2).symm
    subst e2
    refine ⟨r2, ⟨r3, by rw [mtx_len]; exact r4⟩, by rw [mtx_len, r5]; exact r6, InR_i64.2 (by omega), x + 1, by omega, ⟨by trivial, trivial⟩, ?_, by omega⟩
    rw [r5, tab_set hd ha hb]
  · simp only [decide_eq_false_iff_not] at g
    have ex : x = ps.length := by omega
    subst ex
    rw [List.take_length]
    exact ⟨by trivial, by trivial⟩
set_option maxHeartbeats 2000000 in
set_option maxRecDepth 100000 in
theorem f69_met : Go.Eng.Met Tryd.prog cx0.gd 69 ctRt :=
  (met_all (cx := cx0) (n := 37) (cl := cl69) (il := il69) (hl := hl69) (ml := ml69) (rc := []) (lits := []) (suf := []) (by kernel_rfl) tis_ok trivial trivial trivial trivial Tryd.func69 (by kernel_rfl) (by kernel_rfl) rfl (by kernel_rfl) (by kernel_rfl) (by simp) fun d hd => by
    obtain ⟨⟨m, ps, ⟨⟩⟩, ⟨⟩⟩ := d
    exact ex_of (ann69 m ps) (f69_vc m ps hd) (by kernel_rfl)).met
@[reducible] def ctRc : CT := { ps := [shR], pre := fun d => relOK d.1, res := fun d => ([], .one (.c (.sl .bool (mtx d.1.1.toNat (wsh (memB d.1.2.1) d.1.1.toNat))))) }
@[reducible] def cl46 : List (Nat × CT) := [(69, ctRt)]
@[reducible] def ann46 (m : Int) (ps : List (List Int)) : Nat → Option (St → Ann) := fun n => match n with
  | 4 => some fun _ => .inv { α := Nat, slots := fun k => [(5, .c (.v (.int .i64 k)))], res := fun k => [(1, .row 4 .bool (mtx m.toNat (wsh (memB ps) k)))], inv := fun k => k ≤ m.toNat, meas := fun k => m.toNat - k }
  | 7 => some fun s => .inv { α := Nat, slots := fun k => [(6, .c (.v (.int .i64 k)))], res := fun k => [(1, .row 4 .bool (mtxW m.toNat (memB ps) (slotI s 5).toNat k 0))], inv := fun k => k ≤ m.toNat, meas := fun k => m.toNat - k }
  | 10 => some fun s => .inv { α := Nat, slots := fun k => [(7, .c (.v (.int .i64 k)))], res := fun k => [(1, .row 4 .bool (mtxW m.toNat (memB ps) (slotI s 5).toNat (slotI s 6).toNat k))], inv := fun k => k ≤ m.toNat, meas := fun k => m.toNat - k }
  | _ => none
@[reducible] def il46 : List (Nat × IP) := []
@[reducible] def hl46 : List (Nat × Nat × CT) := []
@[reducible] def ml46 : List (Nat × MK) := []
set_option maxRecDepth 100000 in
theorem f46_vc (m : Int) (ps : List (List Int)) (hpre : ctRc.pre ((m, ps, ()), ())) :
    relOK (m, ps, ()) ∧ (∃ x, x ≤ m.toNat ∧ (SV.c (v6 ((0 : Int))) = SV.c (v6 ((↑x : Int))) ∧ True) ∧ [(([] : Go.Eng.Gd), Res.blk (43 : Nat) [v6 (m), SC.sl shP ps]), (([] : Go.Eng.Gd), Res.row (4 : TypeId) Sh.bool (mtx m.toNat (memB (m, ps, ()).snd.fst)))] = [(([] : Go.Eng.Gd), Res.blk (43 : Nat) [v6 (m), SC.sl shP ps]), (([] : Go.Eng.Gd), Res.row (4 : TypeId) Sh.bool (mtx m.toNat (wsh (memB ps) x)))]) ∧ ∀ (x : Nat), x ≤ m.toNat → br (decide ((↑x : Int) < m)) ((∃ x_1, x_1 ≤ m.toNat ∧ (SV.c (v6 ((0 : Int))) = SV.c (v6 ((↑x_1 : Int))) ∧ True) ∧ [(([] : Go.Eng.Gd), Res.blk (43 : Nat) [v6 (m), SC.sl shP ps]), (([] : Go.Eng.Gd), Res.row (4 : TypeId) Sh.bool (mtx m.toNat (wsh (memB ps) x)))] = [(([] : Go.Eng.Gd), Res.blk (43 : Nat) [v6 (m), SC.sl shP ps]), (([] : Go.Eng.Gd), Res.row (4 : TypeId) Sh.bool (mtxW m.toNat (memB ps) (↑x : Int).toNat x_1 (0 : Nat)))]) ∧ ∀ (x_1 : Nat), x_1 ≤ m.toNat → br (decide ((↑x_1 : Int) < m)) ((∃ x_2, x_2 ≤ m.toNat ∧ (SV.c (v6 ((0 : Int))) = SV.c (v6 ((↑x_2 : Int))) ∧ True) ∧ [(([] : Go.Eng.Gd), Res.blk (43 : Nat) [v6 (m), SC.sl shP ps]), (([] : Go.Eng.Gd), Res.row (4 : TypeId) Sh.bool (mtxW m.toNat (memB ps) (↑x : Int).toNat x_1 (0 : Nat)))] = [(([] : Go.Eng.Gd), Res.blk (43 : Nat) [v6 (m), SC.sl shP ps]), (([] : Go.Eng.Gd), Res.row (4 : TypeId) Sh.bool (mtxW m.toNat (memB ps) (↑x : Int).toNat (↑x_1 : Int).toNat x_2))]) ∧ ∀ (x_2 : Nat), x_2 ≤ m.toNat → (decide ((↑x_2 : Int) < m) = true → InR IntKind.i64 ((↑x_1 : Int) * m)) ∧ (decide ((↑x_2 : Int) < m) = true → InR IntKind.i64 ((↑x_1 : Int) * m + (↑x : Int))) ∧ (decide ((↑x_2 : Int) < m) = true → (0 : Int) ≤ (↑x_1 : Int) * m + (↑x : Int) ∧ (↑x_1 : Int) * m + (↑x : Int) < (↑(mtxW m.toNat (memB ps) (↑x : Int).toNat (↑x_1 : Int).toNat x_2).length : Int)) ∧ (decide ((↑x_2 : Int) < m) = true → ((↑x_1 : Int) * m + (↑x : Int)).toNat < (mtxW m.toNat (memB ps) (↑x : Int).toNat (↑x_1 : Int).toNat x_2).length) ∧ ∀ (d : Bool), (decide ((↑x_2 : Int) < m) = true → (mtxW m.toNat (memB ps) (↑x : Int).toNat (↑x_1 : Int).toNat x_2)[((↑x_1 : Int) * m + (↑x : Int)).toNat]? = some d) → br (decide ((↑x_2 : Int) < m) && d) (InR IntKind.i64 ((↑x_1 : Int) * m) ∧ InR IntKind.i64 ((↑x_1 : Int) * m + (↑x_2 : Int)) ∧ InR IntKind.i64 ((↑x_1 : Int) * m) ∧ InR IntKind.i64 ((↑x_1 : Int) * m + (↑x_2 : Int)) ∧ ((0 : Int) ≤ (↑x_1 : Int) * m + (↑x_2 : Int) ∧ (↑x_1 : Int) * m + (↑x_2 : Int) < (↑(mtxW m.toNat (memB ps) (↑x : Int).toNat (↑x_1 : Int).toNat x_2).length : Int)) ∧ ((↑x_1 : Int) * m + (↑x_2 : Int)).toNat < (mtxW m.toNat (memB ps) (↑x : Int).toNat (↑x_1 : Int).toNat x_2).length ∧ ∀ (d : Bool), (mtxW m.toNat (memB ps) (↑x : Int).toNat (↑x_1 : Int).toNat x_2)[((↑x_1 : Int) * m + (↑x_2 : Int)).toNat]? = some d → ((!d) = true → InR IntKind.i64 ((↑x : Int) * m)) ∧ ((!d) = true → InR IntKind.i64 ((↑x : Int) * m + (↑x_2 : Int))) ∧ ((!d) = true → (0 : Int) ≤ (↑x : Int) * m + (↑x_2 : Int) ∧ (↑x : Int) * m + (↑x_2 : Int) < (↑(mtxW m.toNat (memB ps) (↑x : Int).toNat (↑x_1 : Int).toNat x_2).length : Int)) ∧ ((!d) = true → ((↑x : Int) * m + (↑x_2 : Int)).toNat < (mtxW m.toNat (memB ps) (↑x : Int).toNat (↑x_1 : Int).toNat x_2).length) ∧ ∀ (d_1 : Bool), ((!d) = true → (mtxW m.toNat (memB ps) (↑x : Int).toNat (↑x_1 : Int).toNat x_2)[((↑x : Int) * m + (↑x_2 : Int)).toNat]? = some d_1) → ((0 : Int) ≤ (↑x_1 : Int) * m + (↑x_2 : Int) ∧ (↑x_1 : Int) * m + (↑x_2 : Int) < (↑(mtxW m.toNat (memB ps) (↑x : Int).toNat (↑x_1 : Int).toNat x_2).length : Int)) ∧ ((↑x_1 : Int) * m + (↑x_2 : Int)).toNat < (mtxW m.toNat (memB ps) (↑x : Int).toNat (↑x_1 : Int).toNat x_2).length ∧ InR IntKind.i64 ((↑x_2 : Int) + (1 : Int)) ∧ ∃ x', x' ≤ m.toNat ∧ (SV.c (v6 (((↑x_2 : Int) + (1 : Int)))) = SV.c (v6 ((↑x' : Int))) ∧ True) ∧ [(([] : Go.Eng.Gd), Res.blk (43 : Nat) [v6 (m), SC.sl shP ps]), (([] : Go.Eng.Gd), Res.row (4 : TypeId) Sh.bool ((mtxW m.toNat (memB ps) (↑x : Int).toNat (↑x_1 : Int).toNat x_2).set ((↑x_1 : Int) * m + (↑x_2 : Int)).toNat (d || d_1)))] = [(([] : Go.Eng.Gd), Res.blk (43 : Nat) [v6 (m), SC.sl shP ps]), (([] : Go.Eng.Gd), Res.row (4 : TypeId) Sh.bool (mtxW m.toNat (memB ps) (↑x : Int).toNat (↑x_1 : Int).toNat x'))] ∧ m.toNat - x' < m.toNat - x_2) (InR IntKind.i64 ((↑x_1 : Int) + (1 : Int)) ∧ ∃ x', x' ≤ m.toNat ∧ (SV.c (v6 (((↑x_1 : Int) + (1 : Int)))) = SV.c (v6 ((↑x' : Int))) ∧ True) ∧ [(([] : Go.Eng.Gd), Res.blk (43 : Nat) [v6 (m), SC.sl shP ps]), (([] : Go.Eng.Gd), Res.row (4 : TypeId) Sh.bool (mtxW m.toNat (memB ps) (↑x : Int).toNat (↑x_1 : Int).toNat x_2))] = [(([] : Go.Eng.Gd), Res.blk (43 : Nat) [v6 (m), SC.sl shP ps]), (([] : Go.Eng.Gd), Res.row (4 : TypeId) Sh.bool (mtxW m.toNat (memB ps) (↑x : Int).toNat x' (0 : Nat)))] ∧ m.toNat - x' < m.toNat - x_1)) (InR IntKind.i64 ((↑x : Int) + (1 : Int)) ∧ ∃ x', x' ≤ m.toNat ∧ (SV.c (v6 (((↑x : Int) + (1 : Int)))) = SV.c (v6 ((↑x' : Int))) ∧ True) ∧ [(([] : Go.Eng.Gd), Res.blk (43 : Nat) [v6 (m), SC.sl shP ps]), (([] : Go.Eng.Gd), Res.row (4 : TypeId) Sh.bool (mtxW m.toNat (memB ps) (↑x : Int).toNat x_1 (0 : Nat)))] = [(([] : Go.Eng.Gd), Res.blk (43 : Nat) [v6 (m), SC.sl shP ps]), (([] : Go.Eng.Gd), Res.row (4 : TypeId) Sh.bool (mtx m.toNat (wsh (memB ps) x')))] ∧ m.toNat - x' < m.toNat - x)) (([] : List Go.Eng.Res) = [] ∧ Ent.one (SV.c (SC.sl Sh.bool (mtx m.toNat (wsh (memB (m, ps, ()).snd.fst) (Int.toNat (m, ps, ()).fst))))) = Ent.one (SV.c (SC.sl Sh.bool (mtx m.toNat (wsh (memB ps) x))))) := by
  obtain ⟨h0, h1, hr, hl⟩ : 0 ≤ m ∧ m ≤ 64 ∧ inR m.toNat ps ∧ ps.length ≤ 10000 := hpre
  have hok : relOK (m, ps, ()) := ⟨h0, h1, hr, hl⟩
  obtain ⟨n, rfl⟩ := Int.eq_ofNat_of_zero_le h0
  have hn : n ≤ 64 := by omega
  simp only [Int.toNat_natCast] at hr ⊢
  refine ⟨hok, ⟨0, Nat.zero_le _, ⟨by trivial, trivial⟩, by trivial⟩, fun k hk => br_iff.2 ⟨fun g => ?_, fun g => ?_⟩⟩
  · simp only [decide_eq_true_eq] at g
    have hkn : k < n := by omega
    refine ⟨⟨0, Nat.zero_le _, ⟨by trivial, trivial⟩, ?_⟩, fun i hi => br_iff.2 ⟨fun g2 => ?_, fun g2 => ?_⟩⟩
    · rw [show mtxW n (memB ps) k 0 0 = mtx n (wsh (memB ps) k) from wshS_start _ _ _]
    · simp only [decide_eq_true_eq] at g2
      have hin : i < n := by omega
      refine ⟨⟨0, Nat.zero_le _, ⟨by trivial, trivial⟩, by trivial⟩, fun j hj => ?_⟩
      obtain ⟨r1, r2, r3, r4, r5, r6⟩ := ix hn hin hkn
      have col : (mtxW n (memB ps) k i j)[i * n + k]? = some (wsh (memB ps) k i k) := by
        unfold mtxW
        rw [mtx_get hin hkn, wshS_col]
      refine ⟨fun _ => r1, fun _ => r2, fun _ => ⟨r3, by rw [mtxW_len]; exact r4⟩, fun _ => by rw [mtxW_len, r5]; exact r6, fun d hd => br_iff.2 ⟨fun g3 => ?_, fun g3 => ?_⟩⟩
      · rw [Bool.and_eq_true, decide_eq_true_eq] at g3
        obtain ⟨g3, rfl⟩ := g3
        have hjn : j < n := by omega
        have hd := hd (decide_eq_true g3)
        rw [r5, col] at hd
        have hw : wsh (memB ps) k i k = true := Option.some.inj hd
        obtain ⟨s1, s2, s3, s4, s5, s6⟩ := ix hn hin hjn
        obtain ⟨t1, t2, t3, t4, t5, t6⟩ := ix hn hkn hjn
        refine ⟨s1, s2, s1, s2, ⟨s3, by rw [mtxW_len]; exact s4⟩, by rw [mtxW_len, s5]; exact s6, fun d1 hd1 => ⟨fun _ => t1, fun _ => t2, fun _ => ⟨t3, by rw [mtxW_len]; exact t4⟩, fun _ => by rw [mtxW_len, t5]; exact t6, fun d2 hd2 => ⟨⟨s3, by rw [mtxW_len]; exact s4⟩, by rw [mtxW_len, s5]; exact s6, InR_i64.2 (by omega), j + 1, by omega, ⟨by trivial, trivial⟩, ?_, by omega⟩⟩⟩
        rw [s5] at hd1
        rw [t5] at hd2
        have e1 : d1 = wshS (memB ps) k i j i j := Option.some.inj (hd1.symm.trans (mtx_get hin hjn))
        have key : (d1 || d2) = (wshS (memB ps) k i j i j || wsh (memB ps) k k j) := by
          rw [← e1]
          cases d1 with
          | true => rfl
          | false =>
            have e2 : d2 = wshS (memB ps) k i j k j := Option.some.inj ((hd2 rfl).symm.trans (mtx_get hkn hjn))
            rw [e2, wshS_row]
        rw [s5, key, show (mtxW n (memB ps) k i j).set (i * n + j) (wshS (memB ps) k i j i j || wsh (memB ps) k k j) = mtxW n (memB ps) k i (j + 1) from wshS_set hin hjn hw]
      · have hx : j = n ∨ wsh (memB ps) k i k = false := by
          by_cases hjn : j = n
          · exact .inl hjn
          · right
            have hj2 : decide ((j : Int) < (n : Int)) = true := decide_eq_true (by omega)
            have hd := hd hj2
            rw [r5, col] at hd
            rw [hj2, Bool.true_and] at g3
            rw [← g3]; exact Option.some.inj hd
        exact ⟨InR_i64.2 (by omega), i + 1, by omega, ⟨by trivial, trivial⟩, by rw [show mtxW n (memB ps) k i j = mtxW n (memB ps) k (i + 1) 0 from wshS_next hx], by omega⟩
    · simp only [decide_eq_false_iff_not] at g2
      have hin : i = n := by omega
      subst hin
      exact ⟨InR_i64.2 (by omega), k + 1, by omega, ⟨by trivial, trivial⟩, by rw [show mtxW i (memB ps) k i 0 = mtx i (wsh (memB ps) (k + 1)) from wshS_end _ _ _], by omega⟩
  · simp only [decide_eq_false_iff_not] at g
    have hkn : k = n := by omega
    subst hkn
    exact ⟨by trivial, by trivial⟩
set_option maxHeartbeats 2000000 in
set_option maxRecDepth 100000 in
theorem f46_met : Go.Eng.Met Tryd.prog cx0.gd 46 ctRc :=
  (met_all (cx := cx0) (n := 63) (cl := cl46) (il := il46) (hl := hl46) (ml := ml46) (rc := [.data (.sl .bool)]) (lits := []) (suf := []) (by kernel_rfl) tis_ok ⟨f69_met, trivial⟩ trivial trivial trivial Tryd.func46 (by kernel_rfl) (by kernel_rfl) rfl (by kernel_rfl) (by kernel_rfl) (by simp) fun d hd => by
    obtain ⟨⟨m, ps, ⟨⟩⟩, ⟨⟩⟩ := d
    exact ex_of (ann46 m ps) (f46_vc m ps hd) (by kernel_rfl)).met
def getM (u : List Bool) (n a b : Nat) : Bool := u.getD (a * n + b) false
@[reducible] def ctRl : CT := { ps := [.int .i64, .sl .bool], pre := fun d => 0 ≤ d.1 ∧ d.1 ≤ 64 ∧ d.2.1.length = d.1.toNat * d.1.toNat, res := fun d => ([], .one (.agg [.v (.int .i64 (d.1)), .sl shP (partF d.1.toNat (getM d.2.1 d.1.toNat) d.1.toNat)])) }
@[reducible] def cl45 : List (Nat × CT) := []
@[reducible] def ann45 (m : Int) (u : List Bool) : Nat → Option (St → Ann) := fun n => match n with
  | 3 => some fun _ => .inv { α := Nat, slots := fun k => [(6, .c (.v (.int .i64 k)))], res := fun k => [(2, .row 55 shP (partF m.toNat (getM u m.toNat) k))], inv := fun k => k ≤ m.toNat, meas := fun k => m.toNat - k, nilC := [(1, 1, 55, shP)] }
  | 6 => some fun s => .inv { α := Nat, slots := fun k => [(7, .c (.v (.int .i64 k)))], res := fun k => [(2, .row 55 shP (partF m.toNat (getM u m.toNat) (slotI s 6).toNat ++ rowF (getM u m.toNat) (slotI s 6).toNat k))], inv := fun k => k ≤ m.toNat, meas := fun k => m.toNat - k }
  | _ => none
@[reducible] def il45 : List (Nat × IP) := []
@[reducible] def hl45 : List (Nat × Nat × CT) := []
@[reducible] def ml45 : List (Nat × MK) := []
set_option maxRecDepth 100000 in
theorem f45_vc (m : Int) (u : List Bool) (hpre : ctRl.pre (m, u, ())) :
    (∃ x, x ≤ m.toNat ∧ (SV.c (v6 ((0 : Int))) = SV.c (v6 ((↑x : Int))) ∧ True) ∧ [(([] : Go.Eng.Gd), Res.blk (43 : Nat) [v6 ((0 : Int)), SC.v (Value.slice none (0 : Nat) (0 : Nat))]), (([] : Go.Eng.Gd), Res.blk (43 : Nat) [v6 (m), SC.row (Nat.succ (0 : Nat)).succ]), (([] : Go.Eng.Gd), Res.row (55 : TypeId) shP [])] = [(([] : Go.Eng.Gd), Res.blk (43 : Nat) [v6 ((0 : Int)), SC.v (Value.slice none (0 : Nat) (0 : Nat))]), (([] : Go.Eng.Gd), Res.blk (43 : Nat) [v6 (m), SC.row (Nat.succ (0 : Nat)).succ]), (([] : Go.Eng.Gd), Res.row (55 : TypeId) shP (partF m.toNat (getM u m.toNat) x))]) ∧ ∀ (x : Nat), x ≤ m.toNat → br (decide ((↑x : Int) < m)) ((∃ x_1, x_1 ≤ m.toNat ∧ (SV.c (v6 ((0 : Int))) = SV.c (v6 ((↑x_1 : Int))) ∧ True) ∧ [(([] : Go.Eng.Gd), Res.blk (43 : Nat) [v6 ((0 : Int)), SC.v (Value.slice none (0 : Nat) (0 : Nat))]), (([] : Go.Eng.Gd), Res.blk (43 : Nat) [v6 (m), SC.row (Nat.succ (0 : Nat)).succ]), (([] : Go.Eng.Gd), Res.row (55 : TypeId) shP (partF m.toNat (getM u m.toNat) x))] = [(([] : Go.Eng.Gd), Res.blk (43 : Nat) [v6 ((0 : Int)), SC.v (Value.slice none (0 : Nat) (0 : Nat))]), (([] : Go.Eng.Gd), Res.blk (43 : Nat) [v6 (m), SC.row (Nat.succ (0 : Nat)).succ]), (([] : Go.Eng.Gd), Res.row (55 : TypeId) shP (partF m.toNat (getM u m.toNat) (↑x : Int).toNat ++ rowF (getM u m.toNat) (↑x : Int).toNat x_1))]) ∧ ∀ (x_1 : Nat), x_1 ≤ m.toNat → br (decide ((↑x_1 : Int) < m)) (InR IntKind.i64 ((↑x : Int) * m) ∧ InR IntKind.i64 ((↑x : Int) * m + (↑x_1 : Int)) ∧ ((0 : Int) ≤ (↑x : Int) * m + (↑x_1 : Int) ∧ (↑x : Int) * m + (↑x_1 : Int) < (↑u.length : Int)) ∧ ∀ (d : Bool), u[((↑x : Int) * m + (↑x_1 : Int)).toNat]? = some d → br d (InA (List.length ((partF m.toNat (getM u m.toNat) (↑x : Int).toNat ++ rowF (getM u m.toNat) (↑x : Int).toNat x_1)) + List.length ([[(↑x : Int), (↑x_1 : Int)]])) (16 : Nat) ∧ InR IntKind.i64 ((↑x_1 : Int) + (1 : Int)) ∧ ∃ x', x' ≤ m.toNat ∧ (SV.c (v6 (((↑x_1 : Int) + (1 : Int)))) = SV.c (v6 ((↑x' : Int))) ∧ True) ∧ [(([] : Go.Eng.Gd), Res.blk (43 : Nat) [v6 ((0 : Int)), SC.v (Value.slice none (0 : Nat) (0 : Nat))]), (([] : Go.Eng.Gd), Res.blk (43 : Nat) [v6 (m), SC.row (Nat.succ (0 : Nat)).succ]), (([] : Go.Eng.Gd), Res.row (55 : TypeId) shP ((partF m.toNat (getM u m.toNat) (↑x : Int).toNat ++ rowF (getM u m.toNat) (↑x : Int).toNat x_1) ++ [[(↑x : Int), (↑x_1 : Int)]]))] = [(([] : Go.Eng.Gd), Res.blk (43 : Nat) [v6 ((0 : Int)), SC.v (Value.slice none (0 : Nat) (0 : Nat))]), (([] : Go.Eng.Gd), Res.blk (43 : Nat) [v6 (m), SC.row (Nat.succ (0 : Nat)).succ]), (([] : Go.Eng.Gd), Res.row (55 : TypeId) shP (partF m.toNat (getM u m.toNat) (↑x : Int).toNat ++ rowF (getM u m.toNat) (↑x : Int).toNat x'))] ∧ m.toNat - x' < m.toNat - x_1) (InR IntKind.i64 ((↑x_1 : Int) + (1 : Int)) ∧ ∃ x', x' ≤ m.toNat ∧ (SV.c (v6 (((↑x_1 : Int) + (1 : Int)))) = SV.c (v6 ((↑x' : Int))) ∧ True) ∧ [(([] : Go.Eng.Gd), Res.blk (43 : Nat) [v6 ((0 : Int)), SC.v (Value.slice none (0 : Nat) (0 : Nat))]), (([] : Go.Eng.Gd), Res.blk (43 : Nat) [v6 (m), SC.row (Nat.succ (0 : Nat)).succ]), (([] : Go.Eng.Gd), Res.row (55 : TypeId) shP (partF m.toNat (getM u m.toNat) (↑x : Int).toNat ++ rowF (getM u m.toNat) (↑x : Int).toNat x_1))] = [(([] : Go.Eng.Gd), Res.blk (43 : Nat) [v6 ((0 : Int)), SC.v (Value.slice none (0 : Nat) (0 : Nat))]), (([] : Go.Eng.Gd), Res.blk (43 : Nat) [v6 (m), SC.row (Nat.succ (0 : Nat)).succ]), (([] : Go.Eng.Gd), Res.row (55 : TypeId) shP (partF m.toNat (getM u m.toNat) (↑x : Int).toNat ++ rowF (getM u m.toNat) (↑x : Int).toNat x'))] ∧ m.toNat - x' < m.toNat - x_1)) (InR IntKind.i64 ((↑x : Int) + (1 : Int)) ∧ ∃ x', x' ≤ m.toNat ∧ (SV.c (v6 (((↑x : Int) + (1 : Int)))) = SV.c (v6 ((↑x' : Int))) ∧ True) ∧ [(([] : Go.Eng.Gd), Res.blk (43 : Nat) [v6 ((0 : Int)), SC.v (Value.slice none (0 : Nat) (0 : Nat))]), (([] : Go.Eng.Gd), Res.blk (43 : Nat) [v6 (m), SC.row (Nat.succ (0 : Nat)).succ]), (([] : Go.Eng.Gd), Res.row (55 : TypeId) shP (partF m.toNat (getM u m.toNat) (↑x : Int).toNat ++ rowF (getM u m.toNat) (↑x : Int).toNat x_1))] = [(([] : Go.Eng.Gd), Res.blk (43 : Nat) [v6 ((0 : Int)), SC.v (Value.slice none (0 : Nat) (0 : Nat))]), (([] : Go.Eng.Gd), Res.blk (43 : Nat) [v6 (m), SC.row (Nat.succ (0 : Nat)).succ]), (([] : Go.Eng.Gd), Res.row (55 : TypeId) shP (partF m.toNat (getM u m.toNat) x'))] ∧ m.toNat - x' < m.toNat - x)) (([] : List Go.Eng.Res) = [] ∧ Ent.one (SV.agg [v6 (m), SC.sl shP (partF m.toNat (getM (m, u, ()).snd.fst (Int.toNat (m, u, ()).fst)) m.toNat)]) = Ent.one (SV.agg [v6 (m), SC.sl shP (partF m.toNat (getM u m.toNat) x)])) := by
  obtain ⟨h0, h1, hu⟩ : 0 ≤ m ∧ m ≤ 64 ∧ u.length = m.toNat * m.toNat := hpre
  obtain ⟨n, rfl⟩ := Int.eq_ofNat_of_zero_le h0
  have hn : n ≤ 64 := by omega
  simp only [Int.toNat_natCast] at hu ⊢
  have ul : ∀ x y, x ≤ n → y ≤ n → (partF n (getM u n) x ++ rowF (getM u n) x y).length + 1 ≤ 100000 := fun x y hx hy => by
    have a1 := partF_len n (getM u n) x
    have a2 := rowF_len (getM u n) x y
    have a3 : n * x ≤ 64 * 64 := Nat.mul_le_mul hn (by omega)
    rw [List.length_append]; omega
  refine ⟨⟨0, Nat.zero_le _, ⟨by trivial, trivial⟩, by trivial⟩, fun x hx => br_iff.2 ⟨fun g => ?_, fun g => ?_⟩⟩
  · simp only [decide_eq_true_eq] at g
    have hxn : x < n := by omega
    refine ⟨⟨0, Nat.zero_le _, ⟨by trivial, trivial⟩, by simp [rowF]⟩, fun y hy => br_iff.2 ⟨fun g2 => ?_, fun g2 => ?_⟩⟩
    · simp only [decide_eq_true_eq] at g2
      have hyn : y < n := by omega
      obtain ⟨r1, r2, r3, r4, r5, r6⟩ := ix hn hxn hyn
      refine ⟨r1, r2, ⟨r3, by rw [hu]; exact r4⟩, fun d hd => ?_⟩
      rw [r5] at hd
      have ed : getM u n x y = d := by unfold getM; rw [List.getD_eq_getElem?_getD, hd]; rfl
      have us := rowF_succ (f := getM u n) (a := x) (j := y)
      refine br_iff.2 ⟨fun h => ⟨inA16 (ul x y hx hy), InR_i64.2 (by omega), y + 1, by omega, ⟨by trivial, trivial⟩, ?_, by omega⟩, fun h => ⟨InR_i64.2 (by omega), y + 1, by omega, ⟨by trivial, trivial⟩, ?_, by omega⟩⟩
      · rw [if_pos (ed.trans h)] at us
        rw [us, ← List.append_assoc]
      · rw [if_neg (by rw [ed, h]; simp), List.append_nil] at us
        rw [us]
    · simp only [decide_eq_false_iff_not] at g2
      have hyn : y = n := by omega
      subst hyn
      refine ⟨InR_i64.2 (by omega), x + 1, by omega, ⟨by trivial, trivial⟩, ?_, by omega⟩
      rw [partF_succ]
  · simp only [decide_eq_false_iff_not] at g
    have hxn : x = n := by omega
    subst hxn
    exact ⟨by trivial, by trivial⟩
set_option maxHeartbeats 2000000 in
set_option maxRecDepth 100000 in
theorem f45_met : Go.Eng.Met Tryd.prog cx0.gd 45 ctRl :=
  (met_all (cx := cx0) (n := 37) (cl := cl45) (il := il45) (hl := hl45) (ml := ml45) (rc := [.data shR]) (lits := []) (suf := []) (by kernel_rfl) tis_ok trivial trivial trivial trivial Tryd.func45 (by kernel_rfl) (by kernel_rfl) rfl (by kernel_rfl) (by kernel_rfl) (by simp) fun d hd => by
    obtain ⟨m, u, ⟨⟩⟩ := d
    exact ex_of (ann45 m u) (f45_vc m u hd) (by kernel_rfl)).met
@[reducible] def ctRa : CT := { ps := [shR], pre := fun d => relOK d.1 ∧ ∀ a < d.1.1.toNat, wsh (memB d.1.2.1) d.1.1.toNat a a = false, res := fun d => ([], vB (true)) }
@[reducible] def cl47 : List (Nat × CT) := [(44, ctRv), (46, ctRc)]
@[reducible] def ann47 (m : Int) (ps : List (List Int)) : Nat → Option (St → Ann) := fun n => match n with
  | 5 => some fun _ => .inv { α := Nat, slots := fun k => [(4, .c (.v (.int .i64 k)))], res := fun k => [], inv := fun k => k ≤ m.toNat, meas := fun k => m.toNat - k }
  | _ => none
@[reducible] def il47 : List (Nat × IP) := []
@[reducible] def hl47 : List (Nat × Nat × CT) := []
@[reducible] def ml47 : List (Nat × MK) := []
set_option maxRecDepth 100000 in
theorem f47_vc (m : Int) (ps : List (List Int)) (hpre : ctRa.pre ((m, ps, ()), ())) :
    relOK (m, ps, ()) ∧ relOK (m, ps, ()) ∧ (∃ x, x ≤ m.toNat ∧ (SV.c (v6 ((0 : Int))) = SV.c (v6 ((↑x : Int))) ∧ True) ∧ [(([] : Go.Eng.Gd), Res.blk (43 : Nat) [v6 (m), SC.sl shP ps])] = [(([] : Go.Eng.Gd), Res.blk (43 : Nat) [v6 (m), SC.sl shP ps])]) ∧ ∀ (x : Nat), x ≤ m.toNat → br (decide ((↑x : Int) < m)) (InR IntKind.i64 ((↑x : Int) * m) ∧ InR IntKind.i64 ((↑x : Int) * m + (↑x : Int)) ∧ ((0 : Int) ≤ (↑x : Int) * m + (↑x : Int) ∧ (↑x : Int) * m + (↑x : Int) < (↑(mtx m.toNat (wsh (memB (m, ps, ()).snd.fst) (Int.toNat (m, ps, ()).fst))).length : Int)) ∧ ∀ (d : Bool), (mtx m.toNat (wsh (memB (m, ps, ()).snd.fst) (Int.toNat (m, ps, ()).fst)))[((↑x : Int) * m + (↑x : Int)).toNat]? = some d → br d (([] : List Go.Eng.Res) = [] ∧ Ent.one (SV.c (SC.v (Value.bool true))) = Ent.one (SV.c (SC.v (Value.bool false)))) (InR IntKind.i64 ((↑x : Int) + (1 : Int)) ∧ ∃ x', x' ≤ m.toNat ∧ (SV.c (v6 (((↑x : Int) + (1 : Int)))) = SV.c (v6 ((↑x' : Int))) ∧ True) ∧ [(([] : Go.Eng.Gd), Res.blk (43 : Nat) [v6 (m), SC.sl shP ps])] = [(([] : Go.Eng.Gd), Res.blk (43 : Nat) [v6 (m), SC.sl shP ps])] ∧ m.toNat - x' < m.toNat - x)) (([] : List Go.Eng.Res) = [] ∧ Ent.one (SV.c (SC.v (Value.bool true))) = Ent.one (SV.c (SC.v (Value.bool true)))) := by
  obtain ⟨⟨h0, h1, hr, hl⟩, hac⟩ : (0 ≤ m ∧ m ≤ 64 ∧ inR m.toNat ps ∧ ps.length ≤ 10000) ∧ ∀ a < m.toNat, wsh (memB ps) m.toNat a a = false := hpre
  have hok : relOK (m, ps, ()) := ⟨h0, h1, hr, hl⟩
  obtain ⟨n, rfl⟩ := Int.eq_ofNat_of_zero_le h0
  have hn : n ≤ 64 := by omega
  simp only [Int.toNat_natCast] at hr hac ⊢
  refine ⟨hok, hok, ⟨0, Nat.zero_le _, ⟨by trivial, trivial⟩, by trivial⟩, fun x hx => br_iff.2 ⟨fun g => ?_, fun _ => ⟨by trivial, by trivial⟩⟩⟩
  simp only [decide_eq_true_eq] at g
  have hxn : x < n := by omega
  obtain ⟨r1, r2, r3, r4, r5, r6⟩ := ix hn hxn hxn
  refine ⟨r1, r2, ⟨r3, by rw [mtx_len]; exact r4⟩, fun d hd => ?_⟩
  rw [r5] at hd
  have ed : d = wsh (memB ps) n x x := Option.some.inj (hd.symm.trans (mtx_get hxn hxn))
  refine br_iff.2 ⟨fun q => ?_, fun _ => ⟨InR_i64.2 (by omega), x + 1, by omega, ⟨by trivial, trivial⟩, by trivial, by omega⟩⟩
  exfalso
  rw [ed, hac x hxn] at q
  cases q
set_option maxHeartbeats 2000000 in
set_option maxRecDepth 100000 in
theorem f47_met : Go.Eng.Met Tryd.prog cx0.gd 47 ctRa :=
  (met_all (cx := cx0) (n := 25) (cl := cl47) (il := il47) (hl := hl47) (ml := ml47) (rc := []) (lits := []) (suf := []) (by kernel_rfl) tis_ok ⟨f44_met, f46_met, trivial⟩ trivial trivial trivial Tryd.func47 (by kernel_rfl) (by kernel_rfl) rfl (by kernel_rfl) (by kernel_rfl) (by simp) fun d hd => by
    obtain ⟨⟨m, ps, ⟨⟩⟩, ⟨⟩⟩ := d
    exact ex_of (ann47 m ps) (f47_vc m ps hd) (by kernel_rfl)).met
theorem get_mtx {n : Nat} {f : Nat → Nat → Bool} {a b : Nat} (ha : a < n) (hb : b < n) : getM (mtx n f) n a b = f a b := by
  unfold getM
  rw [List.getD_eq_getElem?_getD, mtx_get ha hb]; rfl
@[reducible] def ctRx : CT := { ps := [shR], pre := fun d => relOK d.1, res := fun d => ([], .one (.agg [.v (.int .i64 (d.1.1)), .sl shP (partF d.1.1.toNat (wsh (memB d.1.2.1) d.1.1.toNat) d.1.1.toNat)])) }
@[reducible] def cl27 : List (Nat × CT) := [(44, ctRv), (46, ctRc), (45, ctRl)]
@[reducible] def ann27 (m : Int) (ps : List (List Int)) : Nat → Option (St → Ann) := fun _ => none
@[reducible] def il27 : List (Nat × IP) := []
@[reducible] def hl27 : List (Nat × Nat × CT) := []
@[reducible] def ml27 : List (Nat × MK) := []
set_option maxRecDepth 100000 in
theorem f27_vc (m : Int) (ps : List (List Int)) (hpre : ctRx.pre ((m, ps, ()), ())) :
    relOK (m, ps, ()) ∧ relOK (m, ps, ()) ∧ ((0 : I6.den) ≤ m ∧ m ≤ (64 : I6.den) ∧ (mtx m.toNat (wsh (memB (m, ps, ()).snd.fst) (Int.toNat (m, ps, ()).fst))).length = m.toNat * m.toNat) ∧ ([] : List Go.Eng.Res) = [] ∧ Ent.one (SV.agg [v6 (m), SC.sl shP (partF m.toNat (wsh (memB (m, ps, ()).snd.fst) (Int.toNat (m, ps, ()).fst)) m.toNat)]) = Ent.one (SV.agg [v6 (m), SC.sl shP (partF m.toNat (getM (m, mtx m.toNat (wsh (memB (m, ps, ()).snd.fst) (Int.toNat (m, ps, ()).fst)), ()).snd.fst (Int.toNat (m, mtx m.toNat (wsh (memB (m, ps, ()).snd.fst) (Int.toNat (m, ps, ()).fst)), ()).fst)) m.toNat)]) := by
  obtain ⟨h0, h1, hr, hl⟩ : 0 ≤ m ∧ m ≤ 64 ∧ inR m.toNat ps ∧ ps.length ≤ 10000 := hpre
  have hok : relOK (m, ps, ()) := ⟨h0, h1, hr, hl⟩
  obtain ⟨n, rfl⟩ := Int.eq_ofNat_of_zero_le h0
  have hn : n ≤ 64 := by omega
  simp only [Int.toNat_natCast] at hr ⊢
  have e : partF n (getM (mtx n (wsh (memB ps) n)) n) n = partF n (wsh (memB ps) n) n := partF_ext (fun a b ha hb => get_mtx ha hb) (Nat.le_refl n)
  exact ⟨hok, hok, ⟨h0, h1, mtx_len _ _⟩, by trivial, congrArg (fun z : List (List Int) => Ent.one (SV.agg [v6 ((n : Int)), SC.sl shP z])) e.symm⟩
set_option maxHeartbeats 2000000 in
set_option maxRecDepth 100000 in
theorem f27_met : Go.Eng.Met Tryd.prog cx0.gd 27 ctRx :=
  (met_all (cx := cx0) (n := 12) (cl := cl27) (il := il27) (hl := hl27) (ml := ml27) (rc := [.data shR]) (lits := []) (suf := []) (by kernel_rfl) tis_ok ⟨f44_met, f46_met, f45_met, trivial⟩ trivial trivial trivial Tryd.func27 (by kernel_rfl) (by kernel_rfl) rfl (by kernel_rfl) (by kernel_rfl) (by simp) fun d hd => by
    obtain ⟨⟨m, ps, ⟨⟩⟩, ⟨⟩⟩ := d
    exact ex_of (ann27 m ps) (f27_vc m ps hd) (by kernel_rfl)).met
@[reducible] def ctRr : CT := { ps := [shR], pre := fun d => relOK d.1 ∧ ∀ a < d.1.1.toNat, wsh (memB d.1.2.1) d.1.1.toNat a a = false, res := fun d => ([], .tup [.agg [.v (.int .i64 d.1.1), .sl shP (partF d.1.1.toNat (redP (wsh (memB d.1.2.1) d.1.1.toNat) d.1.1.toNat) d.1.1.toNat)], .c (.v (.int .i64 0))]) }
@[reducible] def cl28 : List (Nat × CT) := [(44, ctRv), (47, ctRa), (46, ctRc), (45, ctRl)]
@[reducible] def ann28 (m : Int) (ps : List (List Int)) : Nat → Option (St → Ann) := fun n => match n with
  | 9 => some fun _ => .inv { α := Nat, slots := fun k => [(7, .c (.v (.int .i64 k)))], res := fun k => [(2, .row 4 .bool (mtxR m.toNat (wsh (memB ps) m.toNat) k 0))], inv := fun k => k ≤ m.toNat, meas := fun k => m.toNat - k }
  | 12 => some fun s => .inv { α := Nat, slots := fun k => [(8, .c (.v (.int .i64 k)))], res := fun k => [(2, .row 4 .bool (mtxR m.toNat (wsh (memB ps) m.toNat) (slotI s 7).toNat k))], inv := fun k => k ≤ m.toNat, meas := fun k => m.toNat - k }
  | 16 => some fun s => .inv { α := Nat, slots := fun k => [(9, .c (.v (.int .i64 k)))], res := fun k => [(2, .row 4 .bool (mtxQ m.toNat (wsh (memB ps) m.toNat) (slotI s 7).toNat (slotI s 8).toNat k))], inv := fun k => k ≤ m.toNat, meas := fun k => m.toNat - k }
  | _ => none
@[reducible] def il28 : List (Nat × IP) := []
@[reducible] def hl28 : List (Nat × Nat × CT) := []
@[reducible] def ml28 : List (Nat × MK) := []
set_option maxRecDepth 100000 in
theorem f28_vc (m : Int) (ps : List (List Int)) (hpre : ctRr.pre ((m, ps, ()), ())) :
    relOK (m, ps, ()) ∧ (relOK (m, ps, ()) ∧ ∀ (a : Nat), a < m.toNat → wsh (memB (m, ps, ()).snd.fst) m.toNat a a = false) ∧ relOK (m, ps, ()) ∧ InR IntKind.i64 (m * m) ∧ ((0 : Int) ≤ m * m ∧ m * m ≤ m * m ∧ InA (m * m).toNat (1 : Nat)) ∧ (∃ x, x ≤ m.toNat ∧ (SV.c (v6 ((0 : Int))) = SV.c (v6 ((↑x : Int))) ∧ True) ∧ [(([] : Go.Eng.Gd), Res.blk (43 : Nat) [v6 (m), SC.sl shP ps]), (([] : Go.Eng.Gd), Res.blk (43 : Nat) [v6 ((0 : Int)), SC.v (Value.slice none (0 : Nat) (0 : Nat))]), (([] : Go.Eng.Gd), Res.row (4 : TypeId) Sh.bool (List.replicate (m * m).toNat false))] = [(([] : Go.Eng.Gd), Res.blk (43 : Nat) [v6 (m), SC.sl shP ps]), (([] : Go.Eng.Gd), Res.blk (43 : Nat) [v6 ((0 : Int)), SC.v (Value.slice none (0 : Nat) (0 : Nat))]), (([] : Go.Eng.Gd), Res.row (4 : TypeId) Sh.bool (mtxR m.toNat (wsh (memB ps) m.toNat) x (0 : Nat)))]) ∧ ∀ (x : Nat), x ≤ m.toNat → br (decide ((↑x : Int) < m)) ((∃ x_1, x_1 ≤ m.toNat ∧ (SV.c (v6 ((0 : Int))) = SV.c (v6 ((↑x_1 : Int))) ∧ True) ∧ [(([] : Go.Eng.Gd), Res.blk (43 : Nat) [v6 (m), SC.sl shP ps]), (([] : Go.Eng.Gd), Res.blk (43 : Nat) [v6 ((0 : Int)), SC.v (Value.slice none (0 : Nat) (0 : Nat))]), (([] : Go.Eng.Gd), Res.row (4 : TypeId) Sh.bool (mtxR m.toNat (wsh (memB ps) m.toNat) x (0 : Nat)))] = [(([] : Go.Eng.Gd), Res.blk (43 : Nat) [v6 (m), SC.sl shP ps]), (([] : Go.Eng.Gd), Res.blk (43 : Nat) [v6 ((0 : Int)), SC.v (Value.slice none (0 : Nat) (0 : Nat))]), (([] : Go.Eng.Gd), Res.row (4 : TypeId) Sh.bool (mtxR m.toNat (wsh (memB ps) m.toNat) (↑x : Int).toNat x_1))]) ∧ ∀ (x_1 : Nat), x_1 ≤ m.toNat → br (decide ((↑x_1 : Int) < m)) (InR IntKind.i64 ((↑x : Int) * m) ∧ InR IntKind.i64 ((↑x : Int) * m + (↑x_1 : Int)) ∧ InR IntKind.i64 ((↑x : Int) * m) ∧ InR IntKind.i64 ((↑x : Int) * m + (↑x_1 : Int)) ∧ ((0 : Int) ≤ (↑x : Int) * m + (↑x_1 : Int) ∧ (↑x : Int) * m + (↑x_1 : Int) < (↑(mtx m.toNat (wsh (memB (m, ps, ()).snd.fst) (Int.toNat (m, ps, ()).fst))).length : Int)) ∧ ∀ (d : Bool), (mtx m.toNat (wsh (memB (m, ps, ()).snd.fst) (Int.toNat (m, ps, ()).fst)))[((↑x : Int) * m + (↑x_1 : Int)).toNat]? = some d → ((0 : Int) ≤ (↑x : Int) * m + (↑x_1 : Int) ∧ (↑x : Int) * m + (↑x_1 : Int) < (↑(mtxR m.toNat (wsh (memB ps) m.toNat) (↑x : Int).toNat x_1).length : Int)) ∧ ((↑x : Int) * m + (↑x_1 : Int)).toNat < (mtxR m.toNat (wsh (memB ps) m.toNat) (↑x : Int).toNat x_1).length ∧ (∃ x_2, x_2 ≤ m.toNat ∧ (SV.c (v6 ((0 : Int))) = SV.c (v6 ((↑x_2 : Int))) ∧ True) ∧ [(([] : Go.Eng.Gd), Res.blk (43 : Nat) [v6 (m), SC.sl shP ps]), (([] : Go.Eng.Gd), Res.blk (43 : Nat) [v6 ((0 : Int)), SC.v (Value.slice none (0 : Nat) (0 : Nat))]), (([] : Go.Eng.Gd), Res.row (4 : TypeId) Sh.bool ((mtxR m.toNat (wsh (memB ps) m.toNat) (↑x : Int).toNat x_1).set ((↑x : Int) * m + (↑x_1 : Int)).toNat d))] = [(([] : Go.Eng.Gd), Res.blk (43 : Nat) [v6 (m), SC.sl shP ps]), (([] : Go.Eng.Gd), Res.blk (43 : Nat) [v6 ((0 : Int)), SC.v (Value.slice none (0 : Nat) (0 : Nat))]), (([] : Go.Eng.Gd), Res.row (4 : TypeId) Sh.bool (mtxQ m.toNat (wsh (memB ps) m.toNat) (↑x : Int).toNat (↑x_1 : Int).toNat x_2))]) ∧ ∀ (x_2 : Nat), x_2 ≤ m.toNat → br (decide ((↑x_2 : Int) < m)) (InR IntKind.i64 ((↑x : Int) * m) ∧ InR IntKind.i64 ((↑x : Int) * m + (↑x_2 : Int)) ∧ ((0 : Int) ≤ (↑x : Int) * m + (↑x_2 : Int) ∧ (↑x : Int) * m + (↑x_2 : Int) < (↑(mtx m.toNat (wsh (memB (m, ps, ()).snd.fst) (Int.toNat (m, ps, ()).fst))).length : Int)) ∧ ∀ (d_1 : Bool), (mtx m.toNat (wsh (memB (m, ps, ()).snd.fst) (Int.toNat (m, ps, ()).fst)))[((↑x : Int) * m + (↑x_2 : Int)).toNat]? = some d_1 → (d_1 = true → InR IntKind.i64 ((↑x_2 : Int) * m)) ∧ (d_1 = true → InR IntKind.i64 ((↑x_2 : Int) * m + (↑x_1 : Int))) ∧ (d_1 = true → (0 : Int) ≤ (↑x_2 : Int) * m + (↑x_1 : Int) ∧ (↑x_2 : Int) * m + (↑x_1 : Int) < (↑(mtx m.toNat (wsh (memB (m, ps, ()).snd.fst) (Int.toNat (m, ps, ()).fst))).length : Int)) ∧ ∀ (d_2 : Bool), (d_1 = true → (mtx m.toNat (wsh (memB (m, ps, ()).snd.fst) (Int.toNat (m, ps, ()).fst)))[((↑x_2 : Int) * m + (↑x_1 : Int)).toNat]? = some d_2) → br (d_1 && d_2) (InR IntKind.i64 ((↑x : Int) * m) ∧ InR IntKind.i64 ((↑x : Int) * m + (↑x_1 : Int)) ∧ ((0 : Int) ≤ (↑x : Int) * m + (↑x_1 : Int) ∧ (↑x : Int) * m + (↑x_1 : Int) < (↑(mtxQ m.toNat (wsh (memB ps) m.toNat) (↑x : Int).toNat (↑x_1 : Int).toNat x_2).length : Int)) ∧ ((↑x : Int) * m + (↑x_1 : Int)).toNat < (mtxQ m.toNat (wsh (memB ps) m.toNat) (↑x : Int).toNat (↑x_1 : Int).toNat x_2).length ∧ InR IntKind.i64 ((↑x_2 : Int) + (1 : Int)) ∧ ∃ x', x' ≤ m.toNat ∧ (SV.c (v6 (((↑x_2 : Int) + (1 : Int)))) = SV.c (v6 ((↑x' : Int))) ∧ True) ∧ [(([] : Go.Eng.Gd), Res.blk (43 : Nat) [v6 (m), SC.sl shP ps]), (([] : Go.Eng.Gd), Res.blk (43 : Nat) [v6 ((0 : Int)), SC.v (Value.slice none (0 : Nat) (0 : Nat))]), (([] : Go.Eng.Gd), Res.row (4 : TypeId) Sh.bool ((mtxQ m.toNat (wsh (memB ps) m.toNat) (↑x : Int).toNat (↑x_1 : Int).toNat x_2).set ((↑x : Int) * m + (↑x_1 : Int)).toNat false))] = [(([] : Go.Eng.Gd), Res.blk (43 : Nat) [v6 (m), SC.sl shP ps]), (([] : Go.Eng.Gd), Res.blk (43 : Nat) [v6 ((0 : Int)), SC.v (Value.slice none (0 : Nat) (0 : Nat))]), (([] : Go.Eng.Gd), Res.row (4 : TypeId) Sh.bool (mtxQ m.toNat (wsh (memB ps) m.toNat) (↑x : Int).toNat (↑x_1 : Int).toNat x'))] ∧ m.toNat - x' < m.toNat - x_2) (InR IntKind.i64 ((↑x_2 : Int) + (1 : Int)) ∧ ∃ x', x' ≤ m.toNat ∧ (SV.c (v6 (((↑x_2 : Int) + (1 : Int)))) = SV.c (v6 ((↑x' : Int))) ∧ True) ∧ [(([] : Go.Eng.Gd), Res.blk (43 : Nat) [v6 (m), SC.sl shP ps]), (([] : Go.Eng.Gd), Res.blk (43 : Nat) [v6 ((0 : Int)), SC.v (Value.slice none (0 : Nat) (0 : Nat))]), (([] : Go.Eng.Gd), Res.row (4 : TypeId) Sh.bool (mtxQ m.toNat (wsh (memB ps) m.toNat) (↑x : Int).toNat (↑x_1 : Int).toNat x_2))] = [(([] : Go.Eng.Gd), Res.blk (43 : Nat) [v6 (m), SC.sl shP ps]), (([] : Go.Eng.Gd), Res.blk (43 : Nat) [v6 ((0 : Int)), SC.v (Value.slice none (0 : Nat) (0 : Nat))]), (([] : Go.Eng.Gd), Res.row (4 : TypeId) Sh.bool (mtxQ m.toNat (wsh (memB ps) m.toNat) (↑x : Int).toNat (↑x_1 : Int).toNat x'))] ∧ m.toNat - x' < m.toNat - x_2)) (InR IntKind.i64 ((↑x_1 : Int) + (1 : Int)) ∧ ∃ x', x' ≤ m.toNat ∧ (SV.c (v6 (((↑x_1 : Int) + (1 : Int)))) = SV.c (v6 ((↑x' : Int))) ∧ True) ∧ [(([] : Go.Eng.Gd), Res.blk (43 : Nat) [v6 (m), SC.sl shP ps]), (([] : Go.Eng.Gd), Res.blk (43 : Nat) [v6 ((0 : Int)), SC.v (Value.slice none (0 : Nat) (0 : Nat))]), (([] : Go.Eng.Gd), Res.row (4 : TypeId) Sh.bool (mtxQ m.toNat (wsh (memB ps) m.toNat) (↑x : Int).toNat (↑x_1 : Int).toNat x_2))] = [(([] : Go.Eng.Gd), Res.blk (43 : Nat) [v6 (m), SC.sl shP ps]), (([] : Go.Eng.Gd), Res.blk (43 : Nat) [v6 ((0 : Int)), SC.v (Value.slice none (0 : Nat) (0 : Nat))]), (([] : Go.Eng.Gd), Res.row (4 : TypeId) Sh.bool (mtxR m.toNat (wsh (memB ps) m.toNat) (↑x : Int).toNat x'))] ∧ m.toNat - x' < m.toNat - x_1)) (InR IntKind.i64 ((↑x : Int) + (1 : Int)) ∧ ∃ x', x' ≤ m.toNat ∧ (SV.c (v6 (((↑x : Int) + (1 : Int)))) = SV.c (v6 ((↑x' : Int))) ∧ True) ∧ [(([] : Go.Eng.Gd), Res.blk (43 : Nat) [v6 (m), SC.sl shP ps]), (([] : Go.Eng.Gd), Res.blk (43 : Nat) [v6 ((0 : Int)), SC.v (Value.slice none (0 : Nat) (0 : Nat))]), (([] : Go.Eng.Gd), Res.row (4 : TypeId) Sh.bool (mtxR m.toNat (wsh (memB ps) m.toNat) (↑x : Int).toNat x_1))] = [(([] : Go.Eng.Gd), Res.blk (43 : Nat) [v6 (m), SC.sl shP ps]), (([] : Go.Eng.Gd), Res.blk (43 : Nat) [v6 ((0 : Int)), SC.v (Value.slice none (0 : Nat) (0 : Nat))]), (([] : Go.Eng.Gd), Res.row (4 : TypeId) Sh.bool (mtxR m.toNat (wsh (memB ps) m.toNat) x' (0 : Nat)))] ∧ m.toNat - x' < m.toNat - x)) (((0 : I6.den) ≤ m ∧ m ≤ (64 : I6.den) ∧ (mtxR m.toNat (wsh (memB ps) m.toNat) x (0 : Nat)).length = m.toNat * m.toNat) ∧ ([] : List Go.Eng.Res) = [] ∧ Ent.tup [SV.agg [v6 (m), SC.sl shP (partF m.toNat (redP (wsh (memB (m, ps, ()).snd.fst) (Int.toNat (m, ps, ()).fst)) (Int.toNat (m, ps, ()).fst)) m.toNat)], SV.c (v6 ((0 : Int)))] = Ent.tup [SV.agg [v6 (m), SC.sl shP (partF m.toNat (getM (m, mtxR m.toNat (wsh (memB ps) m.toNat) x (0 : Nat), ()).snd.fst (Int.toNat (m, mtxR m.toNat (wsh (memB ps) m.toNat) x (0 : Nat), ()).fst)) m.toNat)], SV.c (v6 ((0 : Int)))]) := by
  obtain ⟨⟨h0, h1, hr, hl⟩, hac⟩ : (0 ≤ m ∧ m ≤ 64 ∧ inR m.toNat ps ∧ ps.length ≤ 10000) ∧ ∀ a < m.toNat, wsh (memB ps) m.toNat a a = false := hpre
  have hok : relOK (m, ps, ()) := ⟨h0, h1, hr, hl⟩
  obtain ⟨n, rfl⟩ := Int.eq_ofNat_of_zero_le h0
  have hn : n ≤ 64 := by omega
  simp only [Int.toNat_natCast] at hr hac ⊢
  obtain ⟨n1, n2, n3, n4⟩ := nn_le hn
  refine ⟨hok, ⟨hok, hac⟩, hok, n1, ⟨n2, Int.le_refl _, InA_iff.2 (by omega)⟩, ⟨0, Nat.zero_le _, ⟨by trivial, trivial⟩, ?_⟩, fun i hi => br_iff.2 ⟨fun g => ?_, fun g => ?_⟩⟩
  · rw [n3, show mtxR n (wsh (memB ps) n) 0 0 = List.replicate (n * n) false from redS_zero]
  · simp only [decide_eq_true_eq] at g
    have hin : i < n := by omega
    refine ⟨⟨0, Nat.zero_le _, ⟨by trivial, trivial⟩, by trivial⟩, fun j hj => br_iff.2 ⟨fun g2 => ?_, fun g2 => ?_⟩⟩
    · simp only [decide_eq_true_eq] at g2
      have hjn : j < n := by omega
      obtain ⟨r1, r2, r3, r4, r5, r6⟩ := ix hn hin hjn
      refine ⟨r1, r2, r1, r2, ⟨r3, by rw [mtx_len]; exact r4⟩, fun d hd => ⟨⟨r3, by rw [mtxR_len]; exact r4⟩, by rw [mtxR_len, r5]; exact r6, ⟨0, Nat.zero_le _, ⟨by trivial, trivial⟩, ?_⟩, fun k hk => br_iff.2 ⟨fun g3 => ?_, fun g3 => ?_⟩⟩⟩
      · rw [r5] at hd
        have ed : d = wsh (memB ps) n i j := Option.some.inj (hd.symm.trans (mtx_get hin hjn))
        rw [r5, ed, show (mtxR n (wsh (memB ps) n) i j).set (i * n + j) (wsh (memB ps) n i j) = mtxQ n (wsh (memB ps) n) i j 0 from redK_zero hin hjn]
      · simp only [decide_eq_true_eq] at g3
        have hkn : k < n := by omega
        obtain ⟨s1, s2, s3, s4, s5, s6⟩ := ix hn hin hkn
        obtain ⟨t1, t2, t3, t4, t5, t6⟩ := ix hn hkn hjn
        refine ⟨s1, s2, ⟨s3, by rw [mtx_len]; exact s4⟩, fun d1 hd1 => ⟨fun _ => t1, fun _ => t2, fun _ => ⟨t3, by rw [mtx_len]; exact t4⟩, fun d2 hd2 => ?_⟩⟩
        rw [s5] at hd1
        rw [t5] at hd2
        have e1 : d1 = wsh (memB ps) n i k := Option.some.inj (hd1.symm.trans (mtx_get hin hkn))
        have key : (d1 && d2) = (wsh (memB ps) n i k && wsh (memB ps) n k j) := by
          rw [← e1]
          cases d1 with
          | false => rfl
          | true =>
            have e2 : d2 = wsh (memB ps) n k j := Option.some.inj ((hd2 rfl).symm.trans (mtx_get hkn hjn))
            rw [e2]
        refine br_iff.2 ⟨fun q => ⟨r1, r2, ⟨r3, by rw [mtxQ_len]; exact r4⟩, by rw [mtxQ_len, r5]; exact r6, InR_i64.2 (by omega), k + 1, by omega, ⟨by trivial, trivial⟩, ?_, by omega⟩, fun q => ⟨InR_i64.2 (by omega), k + 1, by omega, ⟨by trivial, trivial⟩, ?_, by omega⟩⟩
        · rw [r5, show (mtxQ n (wsh (memB ps) n) i j k).set (i * n + j) false = mtxQ n (wsh (memB ps) n) i j (k + 1) from redK_set hin hjn (key.symm.trans q)]
        · rw [show mtxQ n (wsh (memB ps) n) i j k = mtxQ n (wsh (memB ps) n) i j (k + 1) from redK_same (key.symm.trans q)]
      · simp only [decide_eq_false_iff_not] at g3
        have hkn : k = n := by omega
        subst hkn
        exact ⟨InR_i64.2 (by omega), j + 1, by omega, ⟨by trivial, trivial⟩, by rw [show mtxQ k (wsh (memB ps) k) i j k = mtxR k (wsh (memB ps) k) i (j + 1) from redK_end], by omega⟩
    · simp only [decide_eq_false_iff_not] at g2
      have hjn : j = n := by omega
      subst hjn
      exact ⟨InR_i64.2 (by omega), i + 1, by omega, ⟨by trivial, trivial⟩, by rw [show mtxR j (wsh (memB ps) j) i j = mtxR j (wsh (memB ps) j) (i + 1) 0 from redS_next], by omega⟩
  · simp only [decide_eq_false_iff_not] at g
    have hin : i = n := by omega
    subst hin
    have e : partF i (getM (mtxR i (wsh (memB ps) i) i 0) i) i = partF i (redP (wsh (memB ps) i) i) i := by
      rw [show mtxR i (wsh (memB ps) i) i 0 = mtx i (redP (wsh (memB ps) i) i) from redS_end]
      exact partF_ext (fun a b ha hb => get_mtx ha hb) (Nat.le_refl i)
    exact ⟨⟨h0, h1, mtxR_len _ _ _ _⟩, by trivial, congrArg (fun z : List (List Int) => Ent.tup [SV.agg [v6 ((i : Int)), SC.sl shP z], SV.c (v6 (0))]) e.symm⟩
set_option maxHeartbeats 2000000 in
set_option maxRecDepth 100000 in
theorem f28_met : Go.Eng.Met Tryd.prog cx0.gd 28 ctRr :=
  (met_all (cx := cx0) (n := 84) (cl := cl28) (il := il28) (hl := hl28) (ml := ml28) (rc := [.data shR, .keep]) (lits := []) (suf := []) (by kernel_rfl) tis_ok ⟨f44_met, f47_met, f46_met, f45_met, trivial⟩ trivial trivial trivial Tryd.func28 (by kernel_rfl) (by kernel_rfl) rfl (by kernel_rfl) (by kernel_rfl) (by simp) fun d hd => by
    obtain ⟨⟨m, ps, ⟨⟩⟩, ⟨⟩⟩ := d
    exact ex_of (ann28 m ps) (f28_vc m ps hd) (by kernel_rfl)).met
end Go.Proofs.YtigfbjjphegleaaDoor
set_option linter.unusedSimpArgs false
set_option linter.unusedVariables false
namespace Go.Proofs.YtigfbjjphegleaaDoor
open Go Go.Eng
theorem wsh_up {R : Nat → Nat → Bool} {i j : Nat} (h : R i j = true) : ∀ k, wsh R k i j = true
  | 0 => h
  | k + 1 => by simp only [wsh, wsh_up h k, Bool.true_or]
theorem wsh_trans {R : Nat → Nat → Bool} : ∀ {k m i j : Nat}, m < k → wsh R k i m = true → wsh R k m j = true → wsh R k i j = true
  | k + 1, m, i, j, hm, h1, h2 => by
    simp only [wsh, Bool.or_eq_true, Bool.and_eq_true] at h1 h2 ⊢
    by_cases hk : m = k
    · subst hk
      have a : wsh R m i m = true := by rcases h1 with h | h; exact h; exact h.1
      have b : wsh R m m j = true := by rcases h2 with h | h; exact h; exact h.2
      exact .inr ⟨a, b⟩
    · have hm : m < k := by omega
      rcases h1 with h1 | ⟨h1, h3⟩ <;> rcases h2 with h2 | ⟨h2, h4⟩
      · exact .inl (wsh_trans hm h1 h2)
      · exact .inr ⟨wsh_trans hm h1 h2, h4⟩
      · exact .inr ⟨h1, wsh_trans hm h3 h2⟩
      · exact .inr ⟨h1, h4⟩
theorem wsh_sound {R B : Nat → Nat → Bool} {n : Nat} (hR : ∀ i j, i < n → j < n → R i j = true → B i j = true) (ht : ∀ i m j, B i m = true → B m j = true → B i j = true) : ∀ {k i j : Nat}, k ≤ n → i < n → j < n → wsh R k i j = true → B i j = true
  | 0, i, j, _, hi, hj, h => hR i j hi hj h
  | k + 1, i, j, hk, hi, hj, h => by
    simp only [wsh, Bool.or_eq_true, Bool.and_eq_true] at h
    rcases h with h | ⟨h1, h2⟩
    · exact wsh_sound hR ht (by omega) hi hj h
    · exact ht _ _ _ (wsh_sound hR ht (by omega) hi (by omega) h1) (wsh_sound hR ht (by omega) (by omega) hj h2)
theorem bf_bet {l : List ED} {i j : Nat} (h : bfL l i j = true) : i < j ∧ j < l.length := bf_lt (bfL_iff.1 h)
theorem cov_or {l : List ED} {i j : Nat} (h : bfL l i j = true) : covB l i j = true ∨ ∃ k, i < k ∧ k < j ∧ bfL l i k = true ∧ bfL l k j = true := by
  by_cases hc : covB l i j = true
  · exact .inl hc
  · right
    unfold covB at hc
    rw [h, Bool.true_and, List.all_eq_true] at hc
    have ⟨k, hk⟩ := Classical.not_forall.1 hc
    have ⟨hm, hk⟩ := Classical.not_imp.1 hk
    rw [List.mem_range] at hm
    simp only [Bool.not_eq_true', Bool.not_eq_false, Bool.and_eq_true, decide_eq_true_eq] at hk
    exact ⟨k, hk.1.1, hm, hk.1.2, hk.2⟩
theorem cov_bf {l : List ED} {i j : Nat} (h : covB l i j = true) : bfL l i j = true := by
  unfold covB at h
  rw [Bool.and_eq_true] at h
  exact h.1
theorem cov_clo {l : List ED} {R : Nat → Nat → Bool} (hR : ∀ i j, i < l.length → j < l.length → R i j = covB l i j) : ∀ i j, i < l.length → j < l.length → wsh R l.length i j = bfL l i j := by
  have up : ∀ d i j, j - i ≤ d → bfL l i j = true → wsh R l.length i j = true := by
    intro d
    induction d with
    | zero => intro i j hd h; have := bf_bet h; omega
    | succ d ih =>
      intro i j hd h
      have hb := bf_bet h
      rcases cov_or h with hc | ⟨k, h1, h2, h3, h4⟩
      · exact wsh_up (by rw [hR i j (by omega) hb.2]; exact hc) _
      · exact wsh_trans (by omega) (ih i k (by omega) h3) (ih k j (by omega) h4)
  intro i j hi hj
  apply bool_ext
  exact ⟨wsh_sound (R := R) (B := bfL l) (fun i j hi hj h => by rw [hR i j hi hj] at h; exact cov_bf h) (fun _ _ _ a b => bfL_trans a b) (Nat.le_refl _) hi hj, fun h => up _ i j (Nat.le_refl _) h⟩
theorem ord_clo {l : List ED} {R : Nat → Nat → Bool} (hR : ∀ i j, i < l.length → j < l.length → R i j = bfL l i j) : ∀ i j, i < l.length → j < l.length → wsh R l.length i j = bfL l i j := fun i j hi hj => bool_ext
  ⟨wsh_sound (R := R) (B := bfL l) (fun i j hi hj h => by rw [hR i j hi hj] at h; exact h) (fun _ _ _ a b => bfL_trans a b) (Nat.le_refl _) hi hj, fun h => wsh_up (by rw [hR i j hi hj]; exact h) _⟩
theorem red_cov {l : List ED} {W : Nat → Nat → Bool} (hW : ∀ i j, i < l.length → j < l.length → W i j = bfL l i j) {i j : Nat} (hi : i < l.length) (hj : j < l.length) : redP W l.length i j = (decide (i < j) && covB l i j) := bool_ext (by
  unfold redP
  rw [Bool.and_eq_true, Bool.and_eq_true, List.all_eq_true, decide_eq_true_eq, hW i j hi hj]
  constructor
  · rintro ⟨h, ha⟩
    have hb := bf_bet h
    refine ⟨hb.1, ?_⟩
    rcases cov_or h with hc | ⟨k, h1, h2, h3, h4⟩
    · exact hc
    · have hk : k < l.length := by omega
      have := ha k (List.mem_range.2 hk)
      rw [hW i k hi hk, hW k j hk hj, h3, h4] at this
      cases this
  · rintro ⟨_, hc⟩
    refine ⟨cov_bf hc, fun m hm => ?_⟩
    have hm := List.mem_range.1 hm
    rw [hW i m hi hm, hW m j hm hj]
    cases h1 : bfL l i m with
    | false => rfl
    | true =>
      cases h2 : bfL l m j with
      | false => rfl
      | true =>
        exfalso
        have b1 := bf_bet h1
        have b2 := bf_bet h2
        unfold covB at hc
        rw [Bool.and_eq_true, List.all_eq_true] at hc
        have := hc.2 m (List.mem_range.2 (by omega))
        rw [h1, h2, decide_eq_true b1.1] at this
        cases this)
end Go.Proofs.YtigfbjjphegleaaDoor
set_option linter.unusedSimpArgs false
set_option linter.unusedVariables false
set_option maxRecDepth 100000
namespace Go.Proofs.YtigfbjjphegleaaDoor
open Go Go.Eng

@[reducible] def ctL7 : CT := { ps := [.sl shE], pre := fun d => ∀ e ∈ d.1, bE e, res := fun d => ([], vB (true)) }
@[reducible] noncomputable def cl7 : List (Nat × CT) := [(9, ctLiv), (22, ctOdr), (24, ctCov), (27, ctRx), (28, ctRr), (26, ctPrs)]
@[reducible] noncomputable def ann7 (l : List ED) : Nat → Option (St → Ann) := fun _ => none
@[reducible] def il7 : List (Nat × IP) := []
@[reducible] def hl7 : List (Nat × Nat × CT) := []
@[reducible] noncomputable def ml7 : List (Nat × MK) := []
set_option maxRecDepth 100000 in
theorem f7_vc (l : List ED) (hpre : ctL7.pre (l, ())) :
    br (decide ((30 : Int) < (↑l.length : Int))) (True ∧ ([] : List Go.Eng.Res) = [] ∧ Ent.one (SV.c (SC.v (Value.bool true))) = Ent.one (SV.c (SC.v (Value.bool true)))) ((∀ (e : I6.den × (I6.pair (I6.pair (I6.pair (I6.pair (I6.pair (I6.pair shTk)))))).den), e ∈ l → bE e) ∧ (∀ (e : I6.den × (I6.pair (I6.pair (I6.pair (I6.pair (I6.pair (I6.pair shTk)))))).den), e ∈ l → bE e) ∧ br (!decide (tooM l = (0 : Int)) || !decide (tooM l = (0 : Int)) || !decide ((ordM l).fst = (↑l.length : Int))) (([] : List Go.Eng.Res) = [] ∧ Ent.one (SV.c (SC.v (Value.bool true))) = Ent.one (SV.c (SC.v (Value.bool false)))) (relOK ((↑l.length : Int), covM l, ()) ∧ (relOK ((ordM l).fst, (ordM l).snd.fst, ()) ∧ ∀ (a : Nat), a < Int.toNat ((ordM l).fst, (ordM l).snd.fst, ()).fst → wsh (memB ((ordM l).fst, (ordM l).snd.fst, ()).snd.fst) (Int.toNat ((ordM l).fst, (ordM l).snd.fst, ()).fst) a a = false) ∧ (true = true → (partF (↑l.length : Int).toNat (wsh (memB ((↑l.length : Int), covM l, ()).snd.fst) (Int.toNat ((↑l.length : Int), covM l, ()).fst)) (↑l.length : Int).toNat).length ≤ (1000000 : Nat)) ∧ ((true && decide (partF (↑l.length : Int).toNat (wsh (memB ((↑l.length : Int), covM l, ()).snd.fst) (Int.toNat ((↑l.length : Int), covM l, ()).fst)) (↑l.length : Int).toNat = (ordM l).snd.fst)) = true → (partF (Int.toNat ((ordM l).fst, (ordM l).snd.fst, ()).fst) (redP (wsh (memB ((ordM l).fst, (ordM l).snd.fst, ()).snd.fst) (Int.toNat ((ordM l).fst, (ordM l).snd.fst, ()).fst)) (Int.toNat ((ordM l).fst, (ordM l).snd.fst, ()).fst)) (Int.toNat ((ordM l).fst, (ordM l).snd.fst, ()).fst)).length ≤ (1000000 : Nat)) ∧ ((true && decide (partF (↑l.length : Int).toNat (wsh (memB ((↑l.length : Int), covM l, ()).snd.fst) (Int.toNat ((↑l.length : Int), covM l, ()).fst)) (↑l.length : Int).toNat = (ordM l).snd.fst) && decide (partF (Int.toNat ((ordM l).fst, (ordM l).snd.fst, ()).fst) (redP (wsh (memB ((ordM l).fst, (ordM l).snd.fst, ()).snd.fst) (Int.toNat ((ordM l).fst, (ordM l).snd.fst, ()).fst)) (Int.toNat ((ordM l).fst, (ordM l).snd.fst, ()).fst)) (Int.toNat ((ordM l).fst, (ordM l).snd.fst, ()).fst) = covM l)) = true → True) ∧ ([] : List Go.Eng.Res) = [] ∧ Ent.one (SV.c (SC.v (Value.bool true))) = Ent.one (SV.c (SC.v (Value.bool (true && decide (partF (↑l.length : Int).toNat (wsh (memB ((↑l.length : Int), covM l, ()).snd.fst) (Int.toNat ((↑l.length : Int), covM l, ()).fst)) (↑l.length : Int).toNat = (ordM l).snd.fst) && decide (partF (Int.toNat ((ordM l).fst, (ordM l).snd.fst, ()).fst) (redP (wsh (memB ((ordM l).fst, (ordM l).snd.fst, ()).snd.fst) (Int.toNat ((ordM l).fst, (ordM l).snd.fst, ()).fst)) (Int.toNat ((ordM l).fst, (ordM l).snd.fst, ()).fst)) (Int.toNat ((ordM l).fst, (ordM l).snd.fst, ()).fst) = covM l) && true)))))) := by
  have hb : ∀ e ∈ l, bE e := hpre
  refine br_iff.2 ⟨fun _ => ⟨trivial, rfl, rfl⟩, fun h => ?_⟩
  simp only [decide_eq_false_iff_not] at h
  have hn : l.length ≤ 30 := by omega
  obtain ⟨O, hO⟩ : ∃ O, O = partF l.length (fun a b => decide (a < b) && bfL l a b) l.length := ⟨_, rfl⟩
  obtain ⟨C, hC⟩ : ∃ C, C = partF l.length (fun a b => decide (a < b) && covB l a b) l.length := ⟨_, rfl⟩
  have eo : ordM l = ((l.length : Int), O, ()) := by
    rw [hO]
    exact if_neg (by omega)
  have ec : covM l = C := by
    rw [hC]
    exact if_neg (by omega)
  have et : tooM l = 0 := if_neg (by omega)
  have cb : ∀ i j, (decide (i < j) && covB l i j) = covB l i j := fun i j => by
    cases hc : covB l i j with
    | false => simp
    | true => rw [decide_eq_true (bf_bet (cov_bf hc)).1]; rfl
  have ob : ∀ i j, (decide (i < j) && bfL l i j) = bfL l i j := fun i j => by
    cases hc : bfL l i j with
    | false => simp
    | true => rw [decide_eq_true (bf_bet hc).1]; rfl
  have w1 := cov_clo (l := l) (R := memB C) fun i j hi hj => by rw [hC, memB_partF hi hj, cb]
  have w2 := ord_clo (l := l) (R := memB O) fun i j hi hj => by rw [hO, memB_partF hi hj, ob]
  have F1 : partF l.length (wsh (memB C) l.length) l.length = O := by
    rw [hO]
    exact partF_ext (fun a b ha hb => by rw [w1 a b ha hb, ob]) (Nat.le_refl _)
  have F2 : partF l.length (redP (wsh (memB O) l.length) l.length) l.length = C := by
    rw [hC]
    exact partF_ext (fun a b ha hb => red_cov w2 ha hb) (Nat.le_refl _)
  have nn : l.length * l.length ≤ 30 * 30 := Nat.mul_le_mul hn hn
  have lO : O.length ≤ 900 := by
    rw [hO]
    exact Nat.le_trans (partF_len _ _ _) nn
  have lC : C.length ≤ 900 := by
    rw [hC]
    exact Nat.le_trans (partF_len _ _ _) nn
  rw [eo, ec, et]
  refine ⟨hb, hb, br_iff.2 ⟨fun q => by simp at q, fun _ => ⟨⟨Int.natCast_nonneg _, ?_, ?_, ?_⟩, ⟨⟨Int.natCast_nonneg _, ?_, ?_, ?_⟩, fun a ha => ?_⟩, fun _ => ?_, fun _ => ?_, fun _ => trivial, rfl, ?_⟩⟩⟩
  · show (l.length : Int) ≤ 64; omega
  · show inR l.length C
    rw [hC]; exact inR_partF _ _
  · show C.length ≤ 10000; omega
  · show (l.length : Int) ≤ 64; omega
  · show inR l.length O
    rw [hO]; exact inR_partF _ _
  · show O.length ≤ 10000; omega
  · have ha : a < l.length := ha
    show wsh (memB O) l.length a a = false
    rw [w2 a a ha ha]; exact bf_up (Nat.le_refl a)
  · show (partF l.length (wsh (memB C) l.length) l.length).length ≤ 1000000
    rw [F1]; omega
  · show (partF l.length (redP (wsh (memB O) l.length) l.length) l.length).length ≤ 1000000
    rw [F2]; omega
  · show Ent.one (SV.c (SC.v (Value.bool true))) = Ent.one (SV.c (SC.v (Value.bool (true && decide (partF l.length (wsh (memB C) l.length) l.length = O) && decide (partF l.length (redP (wsh (memB O) l.length) l.length) l.length = C) && true))))
    rw [F1, F2]; simp
set_option maxHeartbeats 2000000 in
set_option maxRecDepth 100000 in
theorem f7_met : Go.Eng.Met Tryd.prog cx0.gd 7 ctL7 :=
  (met_all (cx := cx0) (n := 65) (cl := cl7) (il := il7) (hl := hl7) (ml := ml7) (rc := []) (lits := []) (suf := []) (by kernel_rfl) tis_ok ⟨f9_met, f22_met, f24_met, f27_met, f28_met, f26_met, trivial⟩ trivial trivial trivial Tryd.func7 (by kernel_rfl) (by kernel_rfl) rfl (by kernel_rfl) (by kernel_rfl) (by simp) fun d hd => by
    obtain ⟨l, ⟨⟩⟩ := d
    exact ex_of (ann7 l) (f7_vc l hd) (by kernel_rfl)).met
end Go.Proofs.YtigfbjjphegleaaDoor
set_option linter.unusedSimpArgs false
set_option linter.unusedVariables false
set_option maxRecDepth 1000000
namespace Go.Proofs.YtigfbjjphegleaaDoor
open Go Go.Eng Go.ChangeShapes Go.WideShapes Go.ChangeAt Go.RowKit
theorem own : ownKnob Tryd.prog.godebug = none := by kernel_rfl
theorem laidOut : laidOutB Tryd.prog = true := by kernel_rfl
theorem rowed : mapsRowed Tryd.prog = true := by kernel_rfl
theorem full : ∀ t e, t < Tryd.prog.types.size → Tryd.prog.underlying t = some (.slice e) → 0 < Tryd.prog.cellsOf e := slices_full_of _ (by kernel_rfl)
theorem gname0 : Tryd.prog.globalNamed "modelcheck/event.rows" = some 0 := by kernel_rfl
theorem gtype0 : (Tryd.prog.globals[0]?).map (·.type) = some 87 := by kernel_rfl
theorem gsok0 : (SOK Tryd.prog (.arr 17 shRow)).1 87 = true := by kernel_rfl
noncomputable def laidWorld (os : Os) : World :=
  { World.holding Tryd.prog os ⟨#[], #[], []⟩ with heap := ((World.holding Tryd.prog os ⟨#[], #[], []⟩).heap).modify 0 (lay #[.int .i64 7, .bool true, .int .i64 (-2147483648), .int .i64 2147483647, .bool false, .int .i64 (-1), .int .i64 1, .bool false, .int .i64 7, .bool true, .int .i64 0, .int .i64 0, .bool true, .int .i64 (-2), .int .i64 1, .bool true, .int .i64 7, .bool true, .int .i64 0, .int .i64 0, .bool true, .int .i64 0, .int .i64 4, .bool true, .int .i64 7, .bool false, .int .i64 0, .int .i64 0, .bool true, .int .i64 0, .int .i64 1, .bool true, .int .i64 7, .bool true, .int .i64 (-2147483648), .int .i64 2147483647, .bool true, .int .i64 (-2), .int .i64 1, .bool true, .int .i64 7, .bool true, .int .i64 (-2147483648), .int .i64 2147483647, .bool false, .int .i64 (-2), .int .i64 1, .bool false, .int .i64 0, .bool false, .int .i64 0, .int .i64 0, .bool false, .int .i64 (-2), .int .i64 0, .bool false, .int .i64 7, .bool true, .int .i64 (-2147483648), .int .i64 2147483647, .bool false, .int .i64 (-1), .int .i64 1, .bool false, .int .i64 3, .bool false, .int .i64 0, .int .i64 0, .bool false, .int .i64 (-2), .int .i64 2, .bool true, .int .i64 3, .bool false, .int .i64 0, .int .i64 0, .bool false, .int .i64 (-2), .int .i64 2, .bool true, .int .i64 3, .bool false, .int .i64 0, .int .i64 1, .bool false, .int .i64 (-2), .int .i64 2, .bool true, .int .i64 3, .bool false, .int .i64 0, .int .i64 0, .bool false, .int .i64 (-2), .int .i64 3, .bool true, .int .i64 3, .bool false, .int .i64 0, .int .i64 0, .bool false, .int .i64 (-2), .int .i64 3, .bool true, .int .i64 3, .bool false, .int .i64 0, .int .i64 1, .bool false, .int .i64 (-2), .int .i64 3, .bool true, .int .i64 3, .bool false, .int .i64 0, .int .i64 (-1), .bool false, .int .i64 (-2), .int .i64 3, .bool true, .int .i64 (-1), .bool false, .int .i64 0, .int .i64 0, .bool false, .int .i64 (-2), .int .i64 0, .bool false, .int .i64 (-1), .bool false, .int .i64 0, .int .i64 0, .bool false, .int .i64 (-2), .int .i64 0, .bool false]) }
theorem i64_of {n : Int} (h : (Lit.int .i64 n).wf = true) : -9223372036854775808 ≤ n ∧ n ≤ 9223372036854775807 := by
  simp [Lit.wf, IntKind.min, IntKind.max, IntKind.signed, IntKind.bits] at h; omega
namespace hbCoversL
theorem globs {W : World} (hL : laidMetH Tryd.prog Rows.hbCoversRow.laid W) : GlobOK gd0 (FH.all W) := by
  intro g p hp
  unfold gd0 at hp
  split at hp
  · cases hp; exact glob_open hL (by kernel_rfl) (n := "modelcheck/event.rows") (D := Rows.laid_modelcheck_event_rows) (by simp [Rows.hbCoversRow]) gname0 gtype0 gsok0 (by kernel_rfl)
  · cases hp
theorem laid_met (os : Os) : laidMet Tryd.prog Rows.hbCoversRow.laid ((laidWorld os).forCall (fun _ _ => 0) ⟨#[], #[.slice none 0 0], []⟩).memory :=
  laidMet_of_run' 20 (by kernel_rfl) (by kernel_rfl)
theorem reads (os : Os) {H : Type} (enc : TypeId × Value → H) : ∃ places, DataW.whole enc Tryd.prog ((laidWorld os).forCall (fun _ _ => 0) ⟨#[], #[.slice none 0 0], []⟩).memory Tryd.f7.params.toList Rows.hbCoversSpec.vars false (#[.slice none 0 0] : Array Value).toList 20 = some ([.nil], [], places) :=
  ⟨[], by kernel_rfl⟩
theorem lifted (os : Os) (started : os.Started) (H : Type) (enc : TypeId × Value → H) (F : Stop.Interp) :
    ReturnsInHanded {} Tryd.checked os 7 .any ((OpenSpec.ofChange Rows.hbCoversSpec).preRow enc Tryd.prog Tryd.f7 Rows.hbCoversRow.domain false Rows.hbCoversRow.laid) (((OpenSpec.ofChange Rows.hbCoversSpec).at F).post enc Tryd.prog Tryd.f7 false true false false) := by
  obtain ⟨places, hx⟩ := reads os enc
  refine returnsInHanded_of_row (C := Tryd.checked) (s := OpenSpec.ofChange Rows.hbCoversSpec) own started (by kernel_rfl) Tryd.func7
    (witness_row_at (enc := enc) (C := Tryd.checked) false (laidWorld os) #[.slice none 0 0] rfl (by kernel_rfl) (by kernel_rfl) (by kernel_rfl)
      (OpenSpec.preRow_of_cond 20 hx (by kernel_rfl) (fun k hk => by cases hk) (by kernel_rfl) (laid_met os))) ?_
  intro W base args ds gs before hval hW _ hcond hwt hL _ _
  refine call_true (fn := Tryd.f7) f7_met laidOut rowed full (by decide +kernel) (t := 4) (by kernel_rfl) (by kernel_rfl) rfl (by kernel_rfl) (fun _ => rfl) (fun d hd hwf => ?_) hval hW (globs hL)
  match ds, rdats_len hd with
  | [d0], _ => exact ⟨rfl, by exact fun e he => i64_of (hwf.1.2 e he).1⟩
theorem said : Rows.HbCoversSaid :=
  OpenClaim.holds_of_cond 7 Tryd.f7 rfl rfl rfl rfl rfl rfl rfl ⟨rfl, rfl, rfl, rfl, rfl⟩ rfl rfl rfl rfl rfl (by kernel_rfl) Tryd.func7 (by kernel_rfl)
    (of_decide_eq_true (by kernel_rfl)) (by unfold Func.isWrapper; first | (rw [if_pos (by decide +kernel)]; kernel_rfl) | (rw [if_neg (by decide +kernel)]; exact ⟨rfl, rfl⟩))
    (fun os started H enc _ F => by rw [OpenClaim.pre_eq_preRow]; exact lifted os started H enc F)
theorem plain (f : FuncId) (fn : Func) (hf : Tryd.pinned.checked.prog.funcNamed "modelcheck/modelchecklaw27.HbCovers" = some f) (hfn : Tryd.pinned.checked.prog.funcs[f]? = some fn) :
    false = Tryd.pinned.checked.prog.looks [] ∧ ∀ (j : Nat) t, fn.params[j]? = some t → Tryd.pinned.checked.prog.wantsStandIn t = false := by
  obtain rfl : f = 7 := Option.some.inj ((show Tryd.prog.funcNamed "modelcheck/modelchecklaw27.HbCovers" = some 7 by kernel_rfl).symm.trans hf) |>.symm
  obtain rfl : fn = Tryd.f7 := (Option.some.inj (Tryd.func7.symm.trans hfn)).symm
  refine ⟨by kernel_rfl, fun j t ht => ?_⟩
  have hm : t ∈ Tryd.f7.params.toList := List.mem_of_getElem? (by simpa using ht)
  have key : ∀ t ∈ Tryd.f7.params.toList, Tryd.prog.wantsStandIn t = false := by decide +kernel
  exact key t hm
theorem card : Rows.HbCoversCardSaid :=
  Claim7.holds_tied_plain_at .later [] _ _ _ _ said (fun _ h => by cases h) (by kernel_rfl) (fun _ h => by cases h) hbCovers_row_tie rfl ⟨rfl, rfl⟩ (by kernel_rfl) rfl plain (by kernel_rfl)
end hbCoversL
end Go.Proofs.YtigfbjjphegleaaDoor
