/- Texts of this claim, part 6: E5, K3, E6, E6b, K4, E7, E7b, SF, SO, SQ, K6, E8, K7, E9, E10, K8, E11, E12, K11. Conditions: those of the given rows. -/
import Derived.Test.YtigfbjjphegleaaDoorB5
import Derived.Shelf.SlGeneric
import Derived.Shelf.SlSortCmp.WholeK
import Derived.Shelf.SlSortCmp.NoneTotal
import Derived.Ground.SlsfProg
import Derived.Test.YtigfbjjphegleaaDoorProg
import Derived.WalkKit
import Derived.ProofKit
set_option linter.unusedSimpArgs false
set_option linter.unusedVariables false
set_option maxRecDepth 100000
namespace Go.Proofs.YtigfbjjphegleaaDoor
open Go Go.Eng

theorem flt_get {p : Nat → Bool} {x j : Nat} (h : p x = true) (hx : x < j) : ((List.range j).filter p)[((List.range x).filter p).length]? = some x := by
  obtain ⟨m, rfl⟩ : ∃ m, j = x + (m + 1) := ⟨j - x - 1, by omega⟩
  rw [List.range_add, List.filter_append, List.getElem?_append_right (Nat.le_refl _), Nat.sub_self, List.range_succ_eq_map, List.map_cons, List.filter_cons]
  simp [h]
theorem flt_succ (p : Nat → Bool) (x : Nat) : ((List.range (x + 1)).filter p).length = ((List.range x).filter p).length + (if p x = true then 1 else 0) := by
  rw [List.range_succ, List.filter_append, List.length_append, List.filter_cons]
  split <;> simp
def ownLt (n j : Nat) : Bool := decide (j < n)
@[reducible] noncomputable def mk71 : MK := { ss := [.int .i64, .sl shE], f := fun d => .seq Tryd.prog [.int .i64] (depL d.2.1 d.1.toNat), pre := fun d => 0 ≤ d.1 ∧ d.1 < d.2.1.length ∧ d.2.1.length ≤ 512 ∧ ∀ e ∈ d.2.1, bE e }

@[reducible] noncomputable def cl71 : List (Nat × CT) := [(20, ctDp)]
@[reducible] noncomputable def ann71 (j : Int) (ev : List ED) : Nat → Option (St → Ann) := fun k => match k with
  | 1 => some fun _ => .gen { α := Nat, slots := fun k => [(6, .c (.v (.int .i64 k)))], res := fun _ => [], inv := fun k => k ≤ j.toNat, meas := fun k => j.toNat - k } fun k => ((List.range k).filter fun i => dAt ev i j.toNat).length
  | _ => none
@[reducible] def il71 : List (Nat × IP) := []
@[reducible] def hl71 : List (Nat × Nat × CT) := []
@[reducible] noncomputable def ml71 : List (Nat × MK) := []
set_option maxRecDepth 100000 in
theorem f71_vc (j : Int) (ev : List ED) (l : Nat) (hpre : mk71.pre (j, ev, ())) :
    (∃ x, x ≤ j.toNat ∧ (List.filter (fun i => dAt ev i j.toNat) (List.range x)).length = (0 : Nat) ∧ (SV.c (v6 ((0 : Int))) = SV.c (v6 ((↑x : Int))) ∧ True) ∧ ([] : List (Go.Eng.Gd × Go.Eng.Res)) = []) ∧ ∀ (x : Nat), x ≤ j.toNat → br (decide ((↑x : Int) < j)) (((0 : Int) ≤ (↑x : Int) ∧ (↑x : Int) < (↑ev.length : Int)) ∧ ∀ (d : I6.den × (I6.pair (I6.pair (I6.pair (I6.pair (I6.pair (I6.pair (I6.pair (I6.pair Sh.unit)))))))).den), ev[(↑x : Int).toNat]? = some d → ((0 : Int) ≤ j ∧ j < (↑ev.length : Int)) ∧ ∀ (d_1 : I6.den × (I6.pair (I6.pair (I6.pair (I6.pair (I6.pair (I6.pair (I6.pair (I6.pair Sh.unit)))))))).den), ev[j.toNat]? = some d_1 → (bE d ∧ bE d_1) ∧ l = l ∧ l = l ∧ br (depM d d_1) ((depL ev j.toNat)[(List.filter (fun i => dAt ev i j.toNat) (List.range x)).length]? = some ((↑x : Int), ()) ∧ br (depM d d_1 && false) ((List.filter (fun i => dAt ev i j.toNat) (List.range x)).length + (1 : Nat) = lenL (depL ev j.toNat)) (InR IntKind.i64 ((↑x : Int) + (1 : Int)) ∧ ∃ x', x' ≤ j.toNat ∧ (List.filter (fun i => dAt ev i j.toNat) (List.range x')).length = (List.filter (fun i => dAt ev i j.toNat) (List.range x)).length + (1 : Nat) ∧ (SV.c (v6 (((↑x : Int) + (1 : Int)))) = SV.c (v6 ((↑x' : Int))) ∧ True) ∧ ([] : List (Go.Eng.Gd × Go.Eng.Res)) = [] ∧ j.toNat - x' < j.toNat - x) ∧ br (depM d d_1 && !false) True (InR IntKind.i64 ((↑x : Int) + (1 : Int)) ∧ False)) (br (depM d d_1 && !false) ((List.filter (fun i => dAt ev i j.toNat) (List.range x)).length = lenL (depL ev j.toNat)) (InR IntKind.i64 ((↑x : Int) + (1 : Int)) ∧ ∃ x', x' ≤ j.toNat ∧ (List.filter (fun i => dAt ev i j.toNat) (List.range x')).length = (List.filter (fun i => dAt ev i j.toNat) (List.range x)).length ∧ (SV.c (v6 (((↑x : Int) + (1 : Int)))) = SV.c (v6 ((↑x' : Int))) ∧ True) ∧ ([] : List (Go.Eng.Gd × Go.Eng.Res)) = [] ∧ j.toNat - x' < j.toNat - x))) ((List.filter (fun i => dAt ev i j.toNat) (List.range x)).length = lenL (depL ev j.toNat)) := by
  obtain ⟨h0, h1, h2, hb⟩ : 0 ≤ j ∧ j < ev.length ∧ ev.length ≤ 512 ∧ ∀ e ∈ ev, bE e := hpre
  refine ⟨⟨0, Nat.zero_le _, rfl, ⟨rfl, trivial⟩, rfl⟩, fun x hx => br_iff.2 ⟨fun g => ?_, fun g => ?_⟩⟩
  · simp only [decide_eq_true_eq] at g
    refine ⟨⟨by omega, by omega⟩, fun d hd => ⟨⟨h0, h1⟩, fun d1 hd1 => ⟨⟨hb _ (List.mem_of_getElem? hd), hb _ (List.mem_of_getElem? hd1)⟩, rfl, rfl, ?_⟩⟩⟩
    have hd : ev[x]? = some d := hd
    have e : dAt ev x j.toNat = depM d d1 := by simp only [dAt, hd, hd1]
    have st := flt_succ (fun i => dAt ev i j.toNat) x
    simp only [e] at st
    refine br_iff.2 ⟨fun h => ⟨?_, br_iff.2 ⟨fun h3 => ?_, fun h3 => ⟨InR_i64.2 (by omega), x + 1, by omega, ?_, ⟨rfl, trivial⟩, rfl, by omega⟩⟩, br_iff.2 ⟨fun _ => trivial, fun h3 => ?_⟩⟩, fun h => br_iff.2 ⟨fun h3 => ?_, fun h3 => ⟨InR_i64.2 (by omega), x + 1, by omega, ?_, ⟨rfl, trivial⟩, rfl, by omega⟩⟩⟩
    · have := flt_get (p := fun i => dAt ev i j.toNat) (x := x) (j := j.toNat) (by rw [e]; exact h) (by omega)
      simp only [depL, List.getElem?_map, this]; rfl
    · simp at h3
    · rw [st, if_pos h]
    · rw [h] at h3; simp at h3
    · rw [h] at h3; simp at h3
    · rw [st, if_neg (by rw [h]; simp), Nat.add_zero]
  · simp only [decide_eq_false_iff_not] at g
    have : x = j.toNat := by omega
    subst this
    rw [lenL_eq, depL_len]
set_option maxRecDepth 100000 in
theorem f71_gv : MkOK Tryd.prog cx0.gd 71 mk71 := by
  intro d h lb hd hg cap
  obtain ⟨j, ev, ⟨⟩⟩ := d
  exact gives_of (E := envA Tryd.prog cx0 25 cl71 il71 hl71 ml71 [] [] fun _ => none) (envA_ok (by kernel_rfl) tis_ok ⟨f20_met, trivial⟩ trivial trivial trivial) rfl Tryd.func71 (body := bodyOf Tryd.f71) (by kernel_rfl) (by kernel_rfl) rfl rfl rfl rfl ⟨ann71 j ev, fun l => cast (by kernel_rfl) (f71_vc j ev l hd)⟩ hg cap
@[reducible] noncomputable def ctEar : CT := { ps := [.sl shE, .int .i64], pre := fun d => 0 ≤ d.2.1 ∧ d.2.1 < d.1.length ∧ d.1.length ≤ 512 ∧ ∀ e ∈ d.1, bE e, res := fun d => ([], .one (.c (.abs (.seq Tryd.prog [.int .i64] (depL d.1 d.2.1.toNat))))) }
@[reducible] noncomputable def cl57 : List (Nat × CT) := []
@[reducible] noncomputable def ann57 (l : List ED) (j : Int) : Nat → Option (St → Ann) := fun _ => none
@[reducible] def il57 : List (Nat × IP) := []
@[reducible] def hl57 : List (Nat × Nat × CT) := []
@[reducible] noncomputable def ml57 : List (Nat × MK) := [(71, mk71)]
set_option maxRecDepth 100000 in
theorem f57_vc (l : List ED) (j : Int) (hpre : ctEar.pre (l, j, ())) :
    ((0 : I6.den) ≤ j ∧ j < (↑l.length : I6.den) ∧ l.length ≤ (512 : Nat) ∧ ∀ (e : I6.den × (I6.pair (I6.pair (I6.pair (I6.pair (I6.pair (I6.pair (I6.pair (I6.pair Sh.unit)))))))).den), e ∈ l → bE e) ∧ ([] : List Go.Eng.Res) = [] ∧ Ent.one (SV.c (SC.abs (Abs.seq Tryd.prog [Sh.int IntKind.i64] (depL l j.toNat)))) = Ent.one (SV.c (SC.abs (Abs.seq Tryd.prog [Sh.int IntKind.i64] (depL l j.toNat)))) := by
  exact ⟨hpre, rfl, rfl⟩
set_option maxHeartbeats 2000000 in
set_option maxRecDepth 100000 in
theorem f57_met : Go.Eng.Met Tryd.prog cx0.gd 57 ctEar :=
  (met_all (cx := cx0) (n := 6) (cl := cl57) (il := il57) (hl := hl57) (ml := ml57) (rc := []) (lits := []) (suf := []) (by kernel_rfl) tis_ok trivial trivial trivial ⟨f71_gv, trivial⟩ Tryd.func57 (by kernel_rfl) (by kernel_rfl) rfl (by kernel_rfl) (by kernel_rfl) (by simp) fun d hd => by
    obtain ⟨l, j, ⟨⟩⟩ := d
    exact ex_of (ann57 l j) (f57_vc l j hd) (by kernel_rfl)).met
@[reducible] noncomputable def ctPst : CT := { ps := [.sl shE], pre := fun d => d.1.length ≤ 512 ∧ ∀ e ∈ d.1, bE e, res := fun d => ([], .one (.c (.sl (.sl (.int .u64)) (pstM d.1)))) }
noncomputable def fillP (l : List ED) (k : Nat) : List (List Int) := (pstM l).take k ++ List.replicate (l.length - k) []
noncomputable def fillV (l : List ED) (k : Nat) (v : List Int) : List (List Int) := (pstM l).take k ++ v :: List.replicate (l.length - (k + 1)) []
noncomputable def fillS (l : List ED) (k n : Nat) : List (List Int) := fillV l k (stW l k n)
theorem pstM_len (l : List ED) : (pstM l).length = l.length := by simp [pstM]
theorem pstM_get {l : List ED} {j : Nat} (h : j < l.length) : (pstM l)[j]? = some (pstW l j) := by simp [pstM, List.getElem?_range h]
theorem fillP_len {l : List ED} {k : Nat} (h : k ≤ l.length) : (fillP l k).length = l.length := by simp [fillP, pstM_len]; omega
theorem fillV_len {l : List ED} {k : Nat} (h : k < l.length) (v : List Int) : (fillV l k v).length = l.length := by simp [fillV, pstM_len]; omega
theorem fillV_at {l : List ED} {k : Nat} (h : k < l.length) (v : List Int) : (fillV l k v)[k]? = some v := by
  unfold fillV
  rw [List.getElem?_append_right (by rw [List.length_take, pstM_len]; omega), List.length_take, pstM_len, show k - min k l.length = 0 by omega]; rfl
theorem fillV_old {l : List ED} {k i : Nat} (h : k < l.length) (hi : i < k) (v : List Int) : (fillV l k v)[i]? = some (pstW l i) := by
  unfold fillV
  rw [List.getElem?_append_left (by rw [List.length_take, pstM_len]; omega), List.getElem?_take, if_pos hi, pstM_get (by omega)]
theorem fillV_set {l : List ED} {k : Nat} (h : k < l.length) (v v' : List Int) : (fillV l k v).set k v' = fillV l k v' := by
  unfold fillV
  rw [List.set_append_right _ _ (by rw [List.length_take, pstM_len]; omega), List.length_take, pstM_len, show k - min k l.length = 0 by omega]; rfl
theorem fillP_set {l : List ED} {k : Nat} (h : k < l.length) (v : List Int) : (fillP l k).set k v = fillV l k v := by
  unfold fillP fillV
  rw [List.set_append_right _ _ (by rw [List.length_take, pstM_len]; omega), List.length_take, pstM_len, show k - min k l.length = 0 by omega, show l.length - k = (l.length - (k + 1)) + 1 by omega, List.replicate_succ]; rfl
theorem fillP_succ {l : List ED} {k : Nat} (h : k < l.length) : fillV l k (pstW l k) = fillP l (k + 1) := by
  unfold fillP fillV
  rw [List.take_add_one, pstM_get h]; simp
theorem ownLt_at (k : Nat) : ownAt (ownLt k) k = ownLt (k + 1) := by
  funext j; unfold ownAt ownLt
  by_cases h : j = k
  · subst h; simp
  · simp [h]; omega
theorem ownLt_zero : ownLt 0 = noOwn := by funext j; simp [ownLt]
@[reducible] noncomputable def cl33 : List (Nat × CT) := [(57, ctEar)]
@[reducible] def il33 : List (Nat × IP) := [(58, ipAdd), (59, ipMrg)]
@[reducible] noncomputable def ann33 (l : List ED) : Nat → Option (St → Ann) := fun k => match k with
  | 3 => some fun _ => .inv { α := Nat, deep := [(0, 80, .int .u64, 0)], slots := fun k => [(11, .c (.v (.int .i64 k)))], res := fun k => [(0, .deep 59 (.sl (.int .u64)) (fillP l k) 80 (.int .u64) 0 (ownLt k) [])], inv := fun k => k ≤ l.length, meas := fun k => l.length - k }
  | 8 => some fun s => .rng { α := Nat, res := fun n => [(0, .deep 59 (.sl (.int .u64)) (fillS l (slotI s 11).toNat n) 80 (.int .u64) 0 (ownLt ((slotI s 11).toNat + 1)) [])], inv := fun i n => n = i }
  | _ => none
@[reducible] def hl33 : List (Nat × Nat × CT) := []
@[reducible] noncomputable def ml33 : List (Nat × MK) := []
set_option maxRecDepth 100000 in
theorem f33_vc (l : List ED) (hpre : ctPst.pre (l, ())) :
    ((0 : Int) ≤ (↑l.length : Int) ∧ (↑l.length : Int) ≤ (↑l.length : Int) ∧ InA (↑l.length : Int).toNat (24 : Nat)) ∧ (∃ x, x ≤ l.length ∧ (SV.c (v6 ((0 : Int))) = SV.c (v6 ((↑x : Int))) ∧ True) ∧ [(([] : Go.Eng.Gd), Res.deep (59 : TypeId) (Sh.int IntKind.u64).sl (List.replicate (↑l.length : Int).toNat []) (80 : TypeId) (Sh.int IntKind.u64) (0 : Nat) noOwn []), (([] : Go.Eng.Gd), Res.blk (60 : Nat) [SC.row (0 : Nat)])] = [(([] : Go.Eng.Gd), Res.deep (59 : TypeId) (Sh.int IntKind.u64).sl (fillP l x) (80 : TypeId) (Sh.int IntKind.u64) (0 : Nat) (ownLt x) []), (([] : Go.Eng.Gd), Res.blk (60 : Nat) [SC.row (0 : Nat)])]) ∧ ∀ (x : Nat), x ≤ l.length → br (decide ((↑x : Int) < (↑l.length : Int))) (InR IntKind.i64 ((↑l.length : Int) + (63 : Int)) ∧ (64 : Int) ≠ (0 : Int) ∧ InR IntKind.i64 (((↑l.length : Int) + (63 : Int)).tdiv (64 : Int)) ∧ ((0 : Int) ≤ ((↑l.length : Int) + (63 : Int)).tdiv (64 : Int) ∧ ((↑l.length : Int) + (63 : Int)).tdiv (64 : Int) ≤ ((↑l.length : Int) + (63 : Int)).tdiv (64 : Int) ∧ InA (((↑l.length : Int) + (63 : Int)).tdiv (64 : Int)).toNat (8 : Nat)) ∧ ((0 : Int) ≤ (↑x : Int) ∧ (↑x : Int) < (↑(fillP l x).length : Int)) ∧ (↑x : Int).toNat < (fillP l x).length ∧ ∀ (e0 : List (Sh.int IntKind.u64).den), (fillP l x)[(↑x : Int).toNat]? = some e0 → ((0 : I6.den) ≤ (↑x : Int) ∧ (↑x : Int) < (↑l.length : I6.den) ∧ l.length ≤ (512 : Nat) ∧ ∀ (e : I6.den × (I6.pair (I6.pair (I6.pair (I6.pair (I6.pair (I6.pair (I6.pair (I6.pair Sh.unit)))))))).den), e ∈ l → bE e) ∧ some Tryd.prog = some Tryd.prog ∧ (∃ x_1, x_1 = (0 : Nat) ∧ [(([] : Go.Eng.Gd), Res.deep (59 : TypeId) (Sh.int IntKind.u64).sl ((fillP l x).set (↑x : Int).toNat (List.replicate (((↑l.length : Int) + (63 : Int)).tdiv (64 : Int)).toNat (0 : Int))) (80 : TypeId) (Sh.int IntKind.u64) (0 : Nat) (ownAt (ownLt x) (↑x : Int).toNat) []), (([] : Go.Eng.Gd), Res.blk (60 : Nat) [SC.row (0 : Nat)]), (([] : Go.Eng.Gd), Res.blk (3 : Nat) [v6 ((↑x : Int))]), (([] : Go.Eng.Gd), Res.gone)] = [(([] : Go.Eng.Gd), Res.deep (59 : TypeId) (Sh.int IntKind.u64).sl (fillS l (↑x : Int).toNat x_1) (80 : TypeId) (Sh.int IntKind.u64) (0 : Nat) (ownLt (((↑x : Int)).toNat + (1 : Nat))) []), (([] : Go.Eng.Gd), Res.blk (60 : Nat) [SC.row (0 : Nat)]), (([] : Go.Eng.Gd), Res.blk (3 : Nat) [v6 ((↑x : Int))]), (([] : Go.Eng.Gd), Res.gone)]) ∧ (∀ (i x_1 : Nat) (d : I6.den × dens []), x_1 = i → (depL l (↑x : Int).toNat)[i]? = some d → ((0 : Int) ≤ (↑x : Int) ∧ (↑x : Int) < (↑(fillS l (↑x : Int).toNat x_1).length : Int)) ∧ (↑x : Int).toNat < (fillS l (↑x : Int).toNat x_1).length ∧ ∀ (d_1 : List (Sh.int IntKind.u64).den), (fillS l (↑x : Int).toNat x_1)[(↑x : Int).toNat]? = some d_1 → false = false ∧ (ownLt ((↑x : Int).toNat + (1 : Nat)) (↑x : Int).toNat = true → (ownLt ((↑x : Int).toNat + (1 : Nat)) (↑x : Int).toNat = true ∧ false = false ∧ (↑x : Int).toNat < (fillS l (↑x : Int).toNat x_1).length) ∧ ∀ (d0 : List (Sh.int IntKind.u64).den), (fillS l (↑x : Int).toNat x_1)[(↑x : Int).toNat]? = some d0 → ((0 : I6.den) ≤ d.fst ∧ d.fst < (64 : I6.den) * (↑(List.length (d0)) : I6.den) ∧ okW (d0) ∧ List.length (d0) ≤ (1000 : Nat)) ∧ ((0 : Int) ≤ (↑x : Int) ∧ (↑x : Int) < (↑((fillS l (↑x : Int).toNat x_1).set (↑x : Int).toNat (addW (d0) (Int.toNat d.fst))).length : Int)) ∧ (↑x : Int).toNat < ((fillS l (↑x : Int).toNat x_1).set (↑x : Int).toNat (addW (d0) (Int.toNat d.fst))).length ∧ ∀ (d_2 : List (Sh.int IntKind.u64).den), ((fillS l (↑x : Int).toNat x_1).set (↑x : Int).toNat (addW (d0) (Int.toNat d.fst)))[(↑x : Int).toNat]? = some d_2 → false = false ∧ (ownLt ((↑x : Int).toNat + (1 : Nat)) (↑x : Int).toNat = true → ((0 : Int) ≤ d.fst ∧ d.fst < (↑((fillS l (↑x : Int).toNat x_1).set (↑x : Int).toNat (addW (d0) (Int.toNat d.fst))).length : Int)) ∧ Int.toNat d.fst < ((fillS l (↑x : Int).toNat x_1).set (↑x : Int).toNat (addW (d0) (Int.toNat d.fst))).length ∧ ∀ (d_3 : List (Sh.int IntKind.u64).den), ((fillS l (↑x : Int).toNat x_1).set (↑x : Int).toNat (addW (d0) (Int.toNat d.fst)))[Int.toNat d.fst]? = some d_3 → false = false ∧ (ownLt ((↑x : Int).toNat + (1 : Nat)) (Int.toNat d.fst) = true → (ownLt ((↑x : Int).toNat + (1 : Nat)) (↑x : Int).toNat = true ∧ false = false ∧ (↑x : Int).toNat < ((fillS l (↑x : Int).toNat x_1).set (↑x : Int).toNat (addW (d0) (Int.toNat d.fst))).length) ∧ ∀ (d0_1 : List (Sh.int IntKind.u64).den), ((fillS l (↑x : Int).toNat x_1).set (↑x : Int).toNat (addW (d0) (Int.toNat d.fst)))[(↑x : Int).toNat]? = some d0_1 → Int.toNat d.fst ≠ (↑x : Int).toNat ∧ (ownLt ((↑x : Int).toNat + (1 : Nat)) (Int.toNat d.fst) = true ∧ false = false ∧ Int.toNat d.fst < ((fillS l (↑x : Int).toNat x_1).set (↑x : Int).toNat (addW (d0) (Int.toNat d.fst))).length) ∧ ∀ (d_4 : List (Sh.int IntKind.u64).den), ((fillS l (↑x : Int).toNat x_1).set (↑x : Int).toNat (addW (d0) (Int.toNat d.fst)))[Int.toNat d.fst]? = some d_4 → (List.length (d0_1) = d_4.length ∧ okW (d0_1) ∧ okW d_4 ∧ List.length (d0_1) ≤ (1000 : Nat)) ∧ ∃ x', x' = i + (1 : Nat) ∧ [(([] : Go.Eng.Gd), Res.deep (59 : TypeId) (Sh.int IntKind.u64).sl (((fillS l (↑x : Int).toNat x_1).set (↑x : Int).toNat (addW (d0) (Int.toNat d.fst))).set (↑x : Int).toNat (mrgW (d0_1) d_4)) (80 : TypeId) (Sh.int IntKind.u64) (0 : Nat) (ownLt (((↑x : Int)).toNat + (1 : Nat))) []), (([] : Go.Eng.Gd), Res.blk (60 : Nat) [SC.row (0 : Nat)]), (([] : Go.Eng.Gd), Res.blk (3 : Nat) [v6 ((↑x : Int))]), (([] : Go.Eng.Gd), Res.gone)] = [(([] : Go.Eng.Gd), Res.deep (59 : TypeId) (Sh.int IntKind.u64).sl (fillS l (↑x : Int).toNat x') (80 : TypeId) (Sh.int IntKind.u64) (0 : Nat) (ownLt (((↑x : Int)).toNat + (1 : Nat))) []), (([] : Go.Eng.Gd), Res.blk (60 : Nat) [SC.row (0 : Nat)]), (([] : Go.Eng.Gd), Res.blk (3 : Nat) [v6 ((↑x : Int))]), (([] : Go.Eng.Gd), Res.gone)]) ∧ (ownLt ((↑x : Int).toNat + (1 : Nat)) (Int.toNat d.fst) = false → (ownLt ((↑x : Int).toNat + (1 : Nat)) (↑x : Int).toNat = true ∧ false = false ∧ (↑x : Int).toNat < ((fillS l (↑x : Int).toNat x_1).set (↑x : Int).toNat (addW (d0) (Int.toNat d.fst))).length) ∧ ∀ (d0_1 : List (Sh.int IntKind.u64).den), ((fillS l (↑x : Int).toNat x_1).set (↑x : Int).toNat (addW (d0) (Int.toNat d.fst)))[(↑x : Int).toNat]? = some d0_1 → (List.length (d0_1) = d_3.length ∧ okW (d0_1) ∧ okW d_3 ∧ List.length (d0_1) ≤ (1000 : Nat)) ∧ ∃ x', x' = i + (1 : Nat) ∧ [(([] : Go.Eng.Gd), Res.deep (59 : TypeId) (Sh.int IntKind.u64).sl (((fillS l (↑x : Int).toNat x_1).set (↑x : Int).toNat (addW (d0) (Int.toNat d.fst))).set (↑x : Int).toNat (mrgW (d0_1) d_3)) (80 : TypeId) (Sh.int IntKind.u64) (0 : Nat) (ownLt (((↑x : Int)).toNat + (1 : Nat))) []), (([] : Go.Eng.Gd), Res.blk (60 : Nat) [SC.row (0 : Nat)]), (([] : Go.Eng.Gd), Res.blk (3 : Nat) [v6 ((↑x : Int))]), (([] : Go.Eng.Gd), Res.gone)] = [(([] : Go.Eng.Gd), Res.deep (59 : TypeId) (Sh.int IntKind.u64).sl (fillS l (↑x : Int).toNat x') (80 : TypeId) (Sh.int IntKind.u64) (0 : Nat) (ownLt (((↑x : Int)).toNat + (1 : Nat))) []), (([] : Go.Eng.Gd), Res.blk (60 : Nat) [SC.row (0 : Nat)]), (([] : Go.Eng.Gd), Res.blk (3 : Nat) [v6 ((↑x : Int))]), (([] : Go.Eng.Gd), Res.gone)])) ∧ (ownLt ((↑x : Int).toNat + (1 : Nat)) (↑x : Int).toNat = false → ((0 : Int) ≤ d.fst ∧ d.fst < (↑((fillS l (↑x : Int).toNat x_1).set (↑x : Int).toNat (addW (d0) (Int.toNat d.fst))).length : Int)) ∧ Int.toNat d.fst < ((fillS l (↑x : Int).toNat x_1).set (↑x : Int).toNat (addW (d0) (Int.toNat d.fst))).length ∧ ∀ (d_3 : List (Sh.int IntKind.u64).den), ((fillS l (↑x : Int).toNat x_1).set (↑x : Int).toNat (addW (d0) (Int.toNat d.fst)))[Int.toNat d.fst]? = some d_3 → false = false ∧ (ownLt ((↑x : Int).toNat + (1 : Nat)) (Int.toNat d.fst) = true → False) ∧ (ownLt ((↑x : Int).toNat + (1 : Nat)) (Int.toNat d.fst) = false → False))) ∧ (ownLt ((↑x : Int).toNat + (1 : Nat)) (↑x : Int).toNat = false → False)) ∧ ∀ (x_1 : Nat), x_1 = lenL (depL l (↑x : Int).toNat) → InR IntKind.i64 ((↑x : Int) + (1 : Int)) ∧ ∃ x', x' ≤ l.length ∧ (SV.c (v6 (((↑x : Int) + (1 : Int)))) = SV.c (v6 ((↑x' : Int))) ∧ True) ∧ [(([] : Go.Eng.Gd), Res.deep (59 : TypeId) (Sh.int IntKind.u64).sl (fillS l (↑x : Int).toNat x_1) (80 : TypeId) (Sh.int IntKind.u64) (0 : Nat) (ownLt (((↑x : Int)).toNat + (1 : Nat))) []), (([] : Go.Eng.Gd), Res.blk (60 : Nat) [SC.row (0 : Nat)])] = [(([] : Go.Eng.Gd), Res.deep (59 : TypeId) (Sh.int IntKind.u64).sl (fillP l x') (80 : TypeId) (Sh.int IntKind.u64) (0 : Nat) (ownLt x') []), (([] : Go.Eng.Gd), Res.blk (60 : Nat) [SC.row (0 : Nat)])] ∧ l.length - x' < l.length - x) (([] : List Go.Eng.Res) = [] ∧ Ent.one (SV.c (SC.sl (Sh.int IntKind.u64).sl (pstM l))) = Ent.one (SV.c (SC.sl (Sh.int IntKind.u64).sl (fillP l x)))) := by
  obtain ⟨h2, hb⟩ : l.length ≤ 512 ∧ ∀ e ∈ l, bE e := hpre
  have f0 : fillP l 0 = List.replicate (↑l.length : Int).toNat [] := by simp [fillP]
  refine ⟨⟨by omega, by omega, InA_iff.2 (by omega)⟩, ⟨0, by omega, ⟨rfl, trivial⟩, by rw [f0, ownLt_zero]⟩, fun x hx => br_iff.2 ⟨fun g => ?_, fun g => ?_⟩⟩
  · simp only [decide_eq_true_eq] at g
    have hxl : x < l.length := by omega
    have e1 : ((↑l.length : Int) + 63).tdiv 64 = (((l.length + 63) / 64 : Nat) : Int) := by
      rw [Int.tdiv_eq_ediv_of_nonneg (by omega)]; omega
    rw [e1]
    simp only [show (↑x : Int).toNat = x from Int.toNat_natCast x]
    have hn : ((l.length + 63) / 64 : Nat) ≤ 8 := by omega
    refine ⟨InR_i64.2 (by omega), by decide, InR_i64.2 (by omega), ⟨by omega, by omega, InA_iff.2 (by omega)⟩, ⟨by omega, by rw [fillP_len hx]; omega⟩, by rw [fillP_len hx]; omega, fun e0 he0 => ⟨⟨Int.natCast_nonneg x, (by omega : (x : Int) < l.length), h2, hb⟩, by trivial, ⟨0, rfl, ?_⟩, ?_, ?_⟩⟩
    · rw [ownLt_at, fillP_set hxl, fillS, stW_zero]; rfl
    · intro i n d hni hd
      subst hni
      obtain ⟨k, hk, rfl, hkx⟩ := depL_get hd
      have o1 : ∀ m, m ≤ x → ownLt (x + 1) m = true := fun m hm => by simp [ownLt]; omega
      have f1 : (fillS l x n).length = l.length := fillV_len hxl _
      have hS : ∀ v, ((fillS l x n).set x v).length = l.length := by intro v; rw [List.length_set]; exact f1
      have sl := stW_len l x n
      have pl := pstW_len l k
      have al := addW_len (stW l x n) k
      refine ⟨⟨by omega, by rw [f1]; omega⟩, by rw [f1]; exact hxl, fun d1 hd1 => ⟨by trivial, fun _ => ⟨⟨o1 x (Nat.le_refl _), by trivial, by rw [f1]; exact hxl⟩, fun d0 hd0 => ?_⟩, fun q => absurd ((o1 x (Nat.le_refl _)).symm.trans q) (by simp)⟩⟩
      have q0 : d0 = stW l x n := Option.some.inj (hd0.symm.trans (fillV_at hxl _))
      subst q0
      refine ⟨⟨Int.natCast_nonneg k, ?_, stW_ok _ _ _, ?_⟩, ⟨by omega, by rw [hS]; omega⟩, by rw [hS]; omega, fun d2 hd2 => ⟨by trivial, fun _ => ⟨⟨Int.natCast_nonneg k, ?_⟩, ?_, fun d3 hd3 => ⟨by trivial, fun _ => ⟨⟨o1 x (Nat.le_refl _), by trivial, by rw [hS]; omega⟩, fun d01 hd01 => ?_⟩, fun q => absurd ((o1 k (Nat.le_of_lt hkx)).symm.trans q) (by simp)⟩⟩, fun q => absurd ((o1 x (Nat.le_refl _)).symm.trans q) (by simp)⟩⟩
      · show (k : Int) < 64 * ((stW l x n).length : Int)
        omega
      · show (stW l x n).length ≤ 1000
        omega
      · rw [hS]; show (k : Int) < l.length; omega
      · rw [hS]; show k < l.length; omega
      have q1 : d01 = addW (stW l x n) k := Option.some.inj (hd01.symm.trans ((congrArg (fun z : List (List Int) => z[x]?) (fillV_set hxl (stW l x n) (addW (stW l x n) k))).trans (fillV_at hxl _)))
      subst q1
      refine ⟨?_, ⟨o1 k (by omega), by trivial, by rw [hS]; show k < l.length; omega⟩, fun d4 hd4 => ?_⟩
      · show k ≠ x
        omega
      have q2 : d4 = pstW l k := Option.some.inj (hd4.symm.trans ((congrArg (fun z : List (List Int) => z[k]?) (fillV_set hxl (stW l x n) (addW (stW l x n) k))).trans (fillV_old hxl hkx _)))
      subst q2
      refine ⟨⟨?_, addW_ok (stW_ok _ _ _) _, pstW_ok _ _, ?_⟩, n + 1, rfl, ?_⟩
      · show (addW (stW l x n) k).length = (pstW l k).length
        omega
      · show (addW (stW l x n) k).length ≤ 1000
        omega
      · have e : ((fillS l x n).set x (addW (stW l x n) k)).set x (mrgW (addW (stW l x n) k) (pstW l k)) = fillS l x (n + 1) := by
          rw [stW_succ hxl hk, List.set_set]
          exact fillV_set hxl _ _
        exact congrArg (fun z : List (List Int) => (([] : Go.Eng.Gd), Res.deep 59 (.sl (.int .u64)) z 80 (.int .u64) 0 (ownLt (x + 1)) []) :: _) e
    · intro i hi
      have e : fillS l x i = fillP l (x + 1) := by
        rw [hi, lenL_eq, depL_len]
        unfold fillS
        rw [stW_all, fillP_succ hxl]
      exact ⟨InR_i64.2 (by omega), x + 1, hxl, ⟨rfl, trivial⟩, by rw [e], by omega⟩
  · simp only [decide_eq_false_iff_not] at g
    have : x = l.length := by omega
    subst this
    have e : fillP l l.length = pstM l := by
      unfold fillP
      rw [List.take_of_length_le (by rw [pstM_len]; omega)]; simp
    refine ⟨rfl, ?_⟩
    rw [e]
set_option maxHeartbeats 2000000 in
set_option maxRecDepth 100000 in
theorem f33_met : Go.Eng.Met Tryd.prog cx0.gd 33 ctPst :=
  (met_all (cx := cx0) (n := 43) (cl := cl33) (il := il33) (hl := hl33) (ml := ml33) (rc := [.data (.sl (.sl (.int .u64)))]) (lits := []) (suf := []) (by kernel_rfl) tis_ok ⟨f57_met, trivial⟩ ⟨f58_ip, f59_ip, trivial⟩ trivial trivial Tryd.func33 (by kernel_rfl) (by kernel_rfl) rfl (by kernel_rfl) (by kernel_rfl) (by simp) fun d hd => by
    obtain ⟨l, ⟨⟩⟩ := d
    exact ex_of (ann33 l) (f33_vc l hd) (by kernel_rfl)).met
end Go.Proofs.YtigfbjjphegleaaDoor
set_option linter.unusedSimpArgs false
set_option linter.unusedVariables false
namespace Go.Proofs.YtigfbjjphegleaaDoor
open Go Go.Eng
abbrev PrD := List Int
@[reducible] def shP : Sh := .arr 2 (.int .i64)
@[reducible] def shR : Sh := .pair (.int .i64) (.pair (.sl shP) .unit)
noncomputable def bfL (l : List ED) (i j : Nat) : Bool := bfB (dAt l) i j
def badI (l : List ED) (j : Int) : Prop := 512 < l.length ∨ j < 0 ∨ (l.length : Int) ≤ j
instance (l : List ED) (j : Int) : Decidable (badI l j) := by unfold badI; infer_instance
noncomputable def befM (l : List ED) (i j : Int) : Bool := if badI l i ∨ badI l j then false else bfL l i.toNat j.toNat
def upL (p : Nat → Bool) (k : Nat) : List Int := ((List.range k).filter p).map fun (i : Nat) => (i : Int)
noncomputable def pasM (l : List ED) (j : Int) : List Int := if badI l j then [] else upL (fun i => bfL l i j.toNat) j.toNat ++ [j]
noncomputable def notM (l : List ED) (j : Int) : List Int := if badI l j then [] else upL (fun i => decide (j.toNat < i) && !bfL l j.toNat i) l.length
def pairI (P : Nat → Nat → Bool) (i j : Nat) : List PrD := ((List.range j).filter fun b => decide (i < b) && P i b).map fun (b : Nat) => [(i : Int), (b : Int)]
def pairs (P : Nat → Nat → Bool) (n i : Nat) : List PrD := (List.range i).flatMap fun a => pairI P a n
/-- The covering pairs. -/
noncomputable def covB (l : List ED) (i j : Nat) : Bool := bfL l i j && (List.range j).all fun k => !(decide (i < k) && bfL l i k && bfL l k j)
noncomputable def ordM (l : List ED) : Int × List PrD × Unit := if 64 < l.length then (0, [], ()) else ((l.length : Int), pairs (bfL l) l.length l.length, ())
noncomputable def covM (l : List ED) : List PrD := if 64 < l.length then [] else pairs (covB l) l.length l.length
def tooM (l : List ED) : Int := if 64 < l.length then 4 else 0
theorem upL_succ {p : Nat → Bool} {k : Nat} : upL p (k + 1) = upL p k ++ if p k = true then [(k : Int)] else [] := by
  unfold upL
  rw [List.range_succ, List.filter_append, List.map_append, List.filter_cons]
  split <;> simp
theorem upL_len (p : Nat → Bool) (k : Nat) : (upL p k).length ≤ k := by
  unfold upL
  rw [List.length_map]
  exact Nat.le_trans (List.length_filter_le _ _) (by simp)
theorem pairI_succ {P : Nat → Nat → Bool} {i j : Nat} (h : i < j) : pairI P i (j + 1) = pairI P i j ++ if P i j = true then [[(i : Int), (j : Int)]] else [] := by
  unfold pairI
  rw [List.range_succ, List.filter_append, List.map_append, List.filter_cons]
  simp only [decide_eq_true h, Bool.true_and]
  split <;> simp
theorem pairI_zero {P : Nat → Nat → Bool} {i : Nat} : pairI P i (i + 1) = [] := by
  unfold pairI
  rw [List.filter_eq_nil_iff.2, List.map_nil]
  intro b hb
  rw [List.mem_range] at hb
  simp; omega
theorem pairs_succ {P : Nat → Nat → Bool} {n i : Nat} : pairs P n (i + 1) = pairs P n i ++ pairI P i n := by
  unfold pairs
  rw [List.range_succ, List.flatMap_append]; simp
theorem pairI_len (P : Nat → Nat → Bool) (i j : Nat) : (pairI P i j).length ≤ j := by
  unfold pairI
  rw [List.length_map]
  exact Nat.le_trans (List.length_filter_le _ _) (by simp)
theorem pairs_len (P : Nat → Nat → Bool) (n i : Nat) : (pairs P n i).length ≤ n * i := by
  induction i with
  | zero => simp [pairs]
  | succ i ih =>
    rw [pairs_succ, List.length_append, Nat.mul_succ]
    have := pairI_len P i n
    omega
theorem pst_at {l : List ED} {j : Nat} {d : List Int} (h : (pstM l)[j]? = some d) : d = pstW l j ∧ j < l.length := by
  obtain ⟨hj, _⟩ := List.getElem?_eq_some_iff.1 h
  rw [pstM_len] at hj
  rw [pstM_get hj] at h
  exact ⟨(Option.some.inj h).symm, hj⟩
theorem has_pst {l : List ED} {i j : Nat} (hi : i < l.length) : hasB (pstW l j) i = bfL l i j := pstW_has hi
theorem pst_pre {l : List ED} (h : l.length ≤ 512) {i j : Nat} (hi : i < l.length) : 0 ≤ (i : Int) ∧ (i : Int) < 64 * (pstW l j).length ∧ okW (pstW l j) ∧ (pstW l j).length ≤ 1000 := by
  have := pstW_len l j
  exact ⟨by omega, by omega, pstW_ok _ _, by omega⟩
theorem bf_up {l : List ED} {i j : Nat} (h : j ≤ i) : bfL l i j = false := bfB_false.2 fun q => by have := q.lt; omega
theorem bf_out {l : List ED} {i j : Nat} (h : l.length ≤ j) : bfL l i j = false := bfB_false.2 fun q => by have := (bf_lt q).2; omega
/-- Where the search for an event between i and j stands. -/
noncomputable def midB (l : List ED) (i j k : Nat) : Bool := !(decide (i < k) && bfL l i k && bfL l k j)
def covI (l : List ED) (i j : Nat) (u : Nat × Bool) : Prop := i < u.1 ∧ u.1 ≤ j ∧ u.2 = (bfL l i j && (List.range u.1).all (midB l i j))
theorem covI_zero {l : List ED} {i j : Nat} (h : i < j) : covI l i j (i + 1, bfL l i j) := by
  refine ⟨Nat.lt_succ_self i, h, ?_⟩
  have : (List.range (i + 1)).all (midB l i j) = true := by
    rw [List.all_eq_true]
    intro k hk
    rw [List.mem_range] at hk
    simp [midB]; omega
  show bfL l i j = _
  rw [this, Bool.and_true]
theorem covI_step {l : List ED} {i j k : Nat} {c : Bool} (h : covI l i j (k, c)) (hk : k < j) : covI l i j (k + 1, c && !(bfL l i k && bfL l k j)) := by
  obtain ⟨h1, h2, h3⟩ := h
  have h1 : i < k := h1
  have h3 : c = (bfL l i j && (List.range k).all (midB l i j)) := h3
  refine ⟨Nat.lt_succ_of_lt h1, hk, ?_⟩
  show (c && _) = _
  rw [List.range_succ, List.all_append, h3]
  simp only [List.all_cons, List.all_nil, Bool.and_true, midB, h1, decide_true, Bool.true_and, Bool.and_assoc]
theorem covI_end {l : List ED} {i j k : Nat} {c : Bool} (h : covI l i j (k, c)) (hk : k = j ∨ c = false) : c = covB l i j := by
  obtain ⟨h1, h2, h3⟩ := h
  have h2 : k ≤ j := h2
  have h3 : c = (bfL l i j && (List.range k).all (midB l i j)) := h3
  have e : covB l i j = (bfL l i j && (List.range j).all (midB l i j)) := rfl
  rcases hk with rfl | rfl
  · rw [e]; exact h3
  · rw [e]
    cases hb : bfL l i j with
    | false => rfl
    | true =>
      rw [hb, Bool.true_and] at h3
      rw [Bool.true_and]
      symm
      have h3 := h3.symm
      rw [List.all_eq_false] at h3 ⊢
      obtain ⟨x, hx, hx2⟩ := h3
      rw [List.mem_range] at hx
      exact ⟨x, List.mem_range.2 (by omega), hx2⟩
end Go.Proofs.YtigfbjjphegleaaDoor
set_option linter.unusedSimpArgs false
set_option linter.unusedVariables false
set_option maxRecDepth 100000
namespace Go.Proofs.YtigfbjjphegleaaDoor
open Go Go.Eng

theorem inA8 {n : Nat} (h : n ≤ 100000) : InA n 8 := InA_iff.2 (by omega)
@[reducible] noncomputable def ctBef : CT := { ps := [.sl shE, .int .i64, .int .i64], pre := fun d => ∀ e ∈ d.1, bE e, res := fun d => ([], vB (befM d.1 d.2.1 d.2.2.1)) }
@[reducible] noncomputable def cl10 : List (Nat × CT) := [(33, ctPst), (34, ctHas)]
@[reducible] noncomputable def ann10 (l : List ED) (i : Int) (j : Int) : Nat → Option (St → Ann) := fun _ => none
@[reducible] def il10 : List (Nat × IP) := []
@[reducible] def hl10 : List (Nat × Nat × CT) := []
@[reducible] noncomputable def ml10 : List (Nat × MK) := []
set_option maxRecDepth 100000 in
theorem f10_vc (l : List ED) (i : Int) (j : Int) (hpre : ctBef.pre (l, i, j, ())) :
    br (decide ((512 : Int) < (↑l.length : Int)) || decide (i < (0 : Int)) || decide (j < (0 : Int)) || decide ((↑l.length : Int) ≤ i) || decide ((↑l.length : Int) ≤ j)) (([] : List Go.Eng.Res) = [] ∧ Ent.one (SV.c (SC.v (Value.bool (befM l i j)))) = Ent.one (SV.c (SC.v (Value.bool false)))) ((l.length ≤ (512 : Nat) ∧ ∀ (e : I6.den × (I6.pair (I6.pair (I6.pair (I6.pair (I6.pair (I6.pair (I6.pair (I6.pair Sh.unit)))))))).den), e ∈ l → bE e) ∧ ((0 : Int) ≤ j ∧ j < (↑(pstM l).length : Int)) ∧ ∀ (d : List (Sh.int IntKind.u64).den), (pstM l)[j.toNat]? = some d → ((0 : I6.den) ≤ i ∧ i < (64 : I6.den) * (↑d.length : I6.den) ∧ okW d ∧ d.length ≤ (1000 : Nat)) ∧ ([] : List Go.Eng.Res) = [] ∧ Ent.one (SV.c (SC.v (Value.bool (befM l i j)))) = Ent.one (SV.c (SC.v (Value.bool (hasB d i.toNat))))) := by
  have hb : ∀ e ∈ l, bE e := hpre
  refine br_iff.2 ⟨fun h => ⟨rfl, ?_⟩, fun h => ?_⟩
  · have e : befM l i j = false := by
      unfold befM
      rw [if_pos]
      simp only [Bool.or_eq_true, decide_eq_true_eq] at h
      unfold badI; omega
    rw [e]
  · simp only [Bool.or_eq_false_iff, decide_eq_false_iff_not] at h
    obtain ⟨⟨⟨⟨h1, h2⟩, h3⟩, h4⟩, h5⟩ := h
    refine ⟨⟨by omega, hb⟩, ⟨by omega, by rw [pstM_len]; omega⟩, fun d hd => ?_⟩
    obtain ⟨rfl, hj⟩ := pst_at hd
    have hp := pst_pre (l := l) (by omega) (i := i.toNat) (j := j.toNat) (by omega)
    rw [Int.toNat_of_nonneg (by omega)] at hp
    refine ⟨hp, rfl, ?_⟩
    have e : befM l i j = bfL l i.toNat j.toNat := by
      unfold befM
      rw [if_neg]; unfold badI; omega
    rw [has_pst (by omega), e]
set_option maxHeartbeats 2000000 in
set_option maxRecDepth 100000 in
theorem f10_met : Go.Eng.Met Tryd.prog cx0.gd 10 ctBef :=
  (met_all (cx := cx0) (n := 37) (cl := cl10) (il := il10) (hl := hl10) (ml := ml10) (rc := []) (lits := []) (suf := []) (by kernel_rfl) tis_ok ⟨f33_met, f34_met, trivial⟩ trivial trivial trivial Tryd.func10 (by kernel_rfl) (by kernel_rfl) rfl (by kernel_rfl) (by kernel_rfl) (by simp) fun d hd => by
    obtain ⟨l, i, j, ⟨⟩⟩ := d
    exact ex_of (ann10 l i j) (f10_vc l i j hd) (by kernel_rfl)).met
@[reducible] noncomputable def ctPas : CT := { ps := [.sl shE, .int .i64], pre := fun d => ∀ e ∈ d.1, bE e, res := fun d => ([], .one (.c (.sl (.int .i64) (pasM d.1 d.2.1)))) }
@[reducible] noncomputable def cl13 : List (Nat × CT) := [(33, ctPst), (34, ctHas)]
@[reducible] noncomputable def ann13 (l : List ED) (j : Int) : Nat → Option (St → Ann) := fun n => match n with
  | 6 => some fun _ => .inv { α := Nat, slots := fun k => [(27, .c (.v (.int .i64 k))), (6, .c (.row 0))], res := fun k => [(0, .row 3 (.int .i64) (upL (fun i => bfL l i j.toNat) k))], inv := fun k => k ≤ j.toNat, meas := fun k => j.toNat - k, nil := [(6, 3, .int .i64)] }
  | _ => none
@[reducible] def il13 : List (Nat × IP) := []
@[reducible] def hl13 : List (Nat × Nat × CT) := []
@[reducible] noncomputable def ml13 : List (Nat × MK) := []
set_option maxRecDepth 100000 in
theorem f13_vc (l : List ED) (j : Int) (hpre : ctPas.pre (l, j, ())) :
    br (decide ((512 : Int) < (↑l.length : Int)) || decide (j < (0 : Int)) || decide ((↑l.length : Int) ≤ j)) (([] : List Go.Eng.Res) = [] ∧ Ent.one (SV.c (SC.sl I6 (pasM l j))) = Ent.one (SV.c (SC.sl I6 []))) ((l.length ≤ (512 : Nat) ∧ ∀ (e : I6.den × (I6.pair (I6.pair (I6.pair (I6.pair (I6.pair (I6.pair (I6.pair (I6.pair Sh.unit)))))))).den), e ∈ l → bE e) ∧ ((0 : Int) ≤ j ∧ j < (↑(pstM l).length : Int)) ∧ ∀ (d : List (Sh.int IntKind.u64).den), (pstM l)[j.toNat]? = some d → (∃ x, x ≤ j.toNat ∧ (SV.c (v6 ((0 : Int))) = SV.c (v6 ((↑x : Int))) ∧ SV.c (SC.row (0 : Nat)) = SV.c (SC.row (0 : Nat)) ∧ True) ∧ [(([] : Go.Eng.Gd), Res.row (3 : TypeId) I6 [])] = [(([] : Go.Eng.Gd), Res.row (3 : TypeId) I6 (upL (fun i => bfL l i j.toNat) x))]) ∧ ∀ (x : Nat), x ≤ j.toNat → br (decide ((↑x : Int) < j)) (((0 : I6.den) ≤ (↑x : Int) ∧ (↑x : Int) < (64 : I6.den) * (↑d.length : I6.den) ∧ okW d ∧ d.length ≤ (1000 : Nat)) ∧ br (hasB d (↑x : Int).toNat) (InA (List.length (upL (fun i => bfL l i j.toNat) x) + List.length ([(↑x : Int)])) (8 : Nat) ∧ InR IntKind.i64 ((↑x : Int) + (1 : Int)) ∧ ∃ x', x' ≤ j.toNat ∧ (SV.c (v6 (((↑x : Int) + (1 : Int)))) = SV.c (v6 ((↑x' : Int))) ∧ SV.c (SC.row (0 : Nat)) = SV.c (SC.row (0 : Nat)) ∧ True) ∧ [(([] : Go.Eng.Gd), Res.row (3 : TypeId) I6 (upL (fun i => bfL l i j.toNat) x ++ [(↑x : Int)]))] = [(([] : Go.Eng.Gd), Res.row (3 : TypeId) I6 (upL (fun i => bfL l i j.toNat) x'))] ∧ j.toNat - x' < j.toNat - x) (InR IntKind.i64 ((↑x : Int) + (1 : Int)) ∧ ∃ x', x' ≤ j.toNat ∧ (SV.c (v6 (((↑x : Int) + (1 : Int)))) = SV.c (v6 ((↑x' : Int))) ∧ SV.c (SC.row (0 : Nat)) = SV.c (SC.row (0 : Nat)) ∧ True) ∧ [(([] : Go.Eng.Gd), Res.row (3 : TypeId) I6 (upL (fun i => bfL l i j.toNat) x))] = [(([] : Go.Eng.Gd), Res.row (3 : TypeId) I6 (upL (fun i => bfL l i j.toNat) x'))] ∧ j.toNat - x' < j.toNat - x)) (InA (List.length (upL (fun i => bfL l i j.toNat) x) + List.length ([j])) (8 : Nat) ∧ ([] : List Go.Eng.Res) = [] ∧ Ent.one (SV.c (SC.sl I6 (pasM l j))) = Ent.one (SV.c (SC.sl I6 ((upL (fun i => bfL l i j.toNat) x ++ [j])))))) := by
  have hb : ∀ e ∈ l, bE e := hpre
  refine br_iff.2 ⟨fun h => ⟨rfl, ?_⟩, fun h => ?_⟩
  · have e : pasM l j = [] := by
      unfold pasM
      rw [if_pos]
      simp only [Bool.or_eq_true, decide_eq_true_eq] at h
      unfold badI; omega
    rw [e]
  simp only [Bool.or_eq_false_iff, decide_eq_false_iff_not] at h
  obtain ⟨⟨h1, h2⟩, h3⟩ := h
  have ul : ∀ x, x ≤ j.toNat → (upL (fun i => bfL l i j.toNat) x).length + 1 ≤ 100000 := fun x hx => by
    have := upL_len (fun i => bfL l i j.toNat) x
    omega
  refine ⟨⟨by omega, hb⟩, ⟨by omega, by rw [pstM_len]; omega⟩, fun d hd => ⟨⟨0, by omega, ⟨rfl, rfl, trivial⟩, rfl⟩, fun x hx => br_iff.2 ⟨fun g => ?_, fun g => ?_⟩⟩⟩
  · simp only [decide_eq_true_eq] at g
    obtain ⟨rfl, hj⟩ := pst_at hd
    refine ⟨pst_pre (by omega) (by omega), ?_⟩
    rw [show (x : Int).toNat = x from rfl, has_pst (by omega)]
    have us := upL_succ (p := fun i => bfL l i j.toNat) (k := x)
    refine br_iff.2 ⟨fun h => ⟨inA8 (ul x hx), InR_i64.2 (by omega), x + 1, by omega, ⟨rfl, rfl, trivial⟩, ?_, by omega⟩, fun h => ⟨InR_i64.2 (by omega), x + 1, by omega, ⟨rfl, rfl, trivial⟩, ?_, by omega⟩⟩
    · rw [if_pos h] at us
      rw [us]
    · rw [if_neg (by rw [h]; simp), List.append_nil] at us
      rw [us]
  · simp only [decide_eq_false_iff_not] at g
    have ex : x = j.toNat := by omega
    refine ⟨inA8 (ul x hx), rfl, ?_⟩
    subst ex
    have e : pasM l j = upL (fun i => bfL l i j.toNat) j.toNat ++ [j] := by
      unfold pasM
      rw [if_neg]; unfold badI; omega
    rw [e]
set_option maxHeartbeats 2000000 in
set_option maxRecDepth 100000 in
theorem f13_met : Go.Eng.Met Tryd.prog cx0.gd 13 ctPas :=
  (met_all (cx := cx0) (n := 42) (cl := cl13) (il := il13) (hl := hl13) (ml := ml13) (rc := [.data (.sl (.int .i64))]) (lits := []) (suf := []) (by kernel_rfl) tis_ok ⟨f33_met, f34_met, trivial⟩ trivial trivial trivial Tryd.func13 (by kernel_rfl) (by kernel_rfl) rfl (by kernel_rfl) (by kernel_rfl) (by simp) fun d hd => by
    obtain ⟨l, j, ⟨⟩⟩ := d
    exact ex_of (ann13 l j) (f13_vc l j hd) (by kernel_rfl)).met
@[reducible] noncomputable def ctNot : CT := { ps := [.sl shE, .int .i64], pre := fun d => ∀ e ∈ d.1, bE e, res := fun d => ([], .one (.c (.sl (.int .i64) (notM d.1 d.2.1)))) }
@[reducible] noncomputable def cl15 : List (Nat × CT) := [(33, ctPst), (34, ctHas)]
@[reducible] noncomputable def ann15 (l : List ED) (j : Int) : Nat → Option (St → Ann) := fun n => match n with
  | 6 => some fun _ => .inv { α := Nat, slots := fun k => [(7, .c (.v (.int .i64 k))), (6, .c (.row 0))], res := fun k => [(0, .row 3 (.int .i64) (upL (fun i => decide (j.toNat < i) && !bfL l j.toNat i) k))], inv := fun k => j.toNat < k ∧ k ≤ l.length, meas := fun k => l.length - k, nil := [(6, 3, .int .i64)] }
  | _ => none
@[reducible] def il15 : List (Nat × IP) := []
@[reducible] def hl15 : List (Nat × Nat × CT) := []
@[reducible] noncomputable def ml15 : List (Nat × MK) := []
set_option maxRecDepth 100000 in
theorem f15_vc (l : List ED) (j : Int) (hpre : ctNot.pre (l, j, ())) :
    br (decide ((512 : Int) < (↑l.length : Int)) || decide (j < (0 : Int)) || decide ((↑l.length : Int) ≤ j)) (([] : List Go.Eng.Res) = [] ∧ Ent.one (SV.c (SC.sl I6 (notM l j))) = Ent.one (SV.c (SC.sl I6 []))) ((l.length ≤ (512 : Nat) ∧ ∀ (e : I6.den × (I6.pair (I6.pair (I6.pair (I6.pair (I6.pair (I6.pair (I6.pair (I6.pair Sh.unit)))))))).den), e ∈ l → bE e) ∧ InR IntKind.i64 (j + (1 : Int)) ∧ (∃ x, (j.toNat < x ∧ x ≤ l.length) ∧ (SV.c (v6 ((j + (1 : Int)))) = SV.c (v6 ((↑x : Int))) ∧ SV.c (SC.row (0 : Nat)) = SV.c (SC.row (0 : Nat)) ∧ True) ∧ [(([] : Go.Eng.Gd), Res.row (3 : TypeId) I6 [])] = [(([] : Go.Eng.Gd), Res.row (3 : TypeId) I6 (upL (fun i => decide (j.toNat < i) && !bfL l j.toNat i) x))]) ∧ ∀ (x : Nat), j.toNat < x ∧ x ≤ l.length → br (decide ((↑x : Int) < (↑l.length : Int))) (((0 : Int) ≤ (↑x : Int) ∧ (↑x : Int) < (↑(pstM l).length : Int)) ∧ ∀ (d : List (Sh.int IntKind.u64).den), (pstM l)[(↑x : Int).toNat]? = some d → ((0 : I6.den) ≤ j ∧ j < (64 : I6.den) * (↑d.length : I6.den) ∧ okW d ∧ d.length ≤ (1000 : Nat)) ∧ br (!hasB d j.toNat) (InA (List.length (upL (fun i => decide (j.toNat < i) && !bfL l j.toNat i) x) + List.length ([(↑x : Int)])) (8 : Nat) ∧ InR IntKind.i64 ((↑x : Int) + (1 : Int)) ∧ ∃ x', (j.toNat < x' ∧ x' ≤ l.length) ∧ (SV.c (v6 (((↑x : Int) + (1 : Int)))) = SV.c (v6 ((↑x' : Int))) ∧ SV.c (SC.row (0 : Nat)) = SV.c (SC.row (0 : Nat)) ∧ True) ∧ [(([] : Go.Eng.Gd), Res.row (3 : TypeId) I6 (upL (fun i => decide (j.toNat < i) && !bfL l j.toNat i) x ++ [(↑x : Int)]))] = [(([] : Go.Eng.Gd), Res.row (3 : TypeId) I6 (upL (fun i => decide (j.toNat < i) && !bfL l j.toNat i) x'))] ∧ l.length - x' < l.length - x) (InR IntKind.i64 ((↑x : Int) + (1 : Int)) ∧ ∃ x', (j.toNat < x' ∧ x' ≤ l.length) ∧ (SV.c (v6 (((↑x : Int) + (1 : Int)))) = SV.c (v6 ((↑x' : Int))) ∧ SV.c (SC.row (0 : Nat)) = SV.c (SC.row (0 : Nat)) ∧ True) ∧ [(([] : Go.Eng.Gd), Res.row (3 : TypeId) I6 (upL (fun i => decide (j.toNat < i) && !bfL l j.toNat i) x))] = [(([] : Go.Eng.Gd), Res.row (3 : TypeId) I6 (upL (fun i => decide (j.toNat < i) && !bfL l j.toNat i) x'))] ∧ l.length - x' < l.length - x)) (([] : List Go.Eng.Res) = [] ∧ Ent.one (SV.c (SC.sl I6 (notM l j))) = Ent.one (SV.c (SC.sl I6 (upL (fun i => decide (j.toNat < i) && !bfL l j.toNat i) x))))) := by
  have hb : ∀ e ∈ l, bE e := hpre
  refine br_iff.2 ⟨fun h => ⟨rfl, ?_⟩, fun h => ?_⟩
  · have e : notM l j = [] := by
      unfold notM
      rw [if_pos]
      simp only [Bool.or_eq_true, decide_eq_true_eq] at h
      unfold badI; omega
    rw [e]
  simp only [Bool.or_eq_false_iff, decide_eq_false_iff_not] at h
  obtain ⟨⟨h1, h2⟩, h3⟩ := h
  have ul : ∀ x, x ≤ l.length → (upL (fun i => decide (j.toNat < i) && !bfL l j.toNat i) x).length + 1 ≤ 100000 := fun x hx => by
    have := upL_len (fun i => decide (j.toNat < i) && !bfL l j.toNat i) x
    omega
  refine ⟨⟨by omega, hb⟩, InR_i64.2 (by omega), ⟨j.toNat + 1, by omega, ⟨by rw [show ((j.toNat + 1 : Nat) : Int) = j + 1 by omega], rfl, trivial⟩, ?_⟩, fun x hx => br_iff.2 ⟨fun g => ?_, fun g => ?_⟩⟩
  · rw [show upL (fun i => decide (j.toNat < i) && !bfL l j.toNat i) (j.toNat + 1) = [] by
      unfold upL
      rw [List.filter_eq_nil_iff.2, List.map_nil]
      intro b hb
      rw [List.mem_range] at hb
      simp; omega]
  · simp only [decide_eq_true_eq] at g
    refine ⟨⟨by omega, by rw [pstM_len]; omega⟩, fun d hd => ?_⟩
    obtain ⟨rfl, hj⟩ := pst_at hd
    have hp := pst_pre (l := l) (by omega) (i := j.toNat) (j := x) (by omega)
    rw [Int.toNat_of_nonneg (by omega)] at hp
    refine ⟨hp, ?_⟩
    rw [show (x : Int).toNat = x from rfl, has_pst (by omega)]
    have us := upL_succ (p := fun i => decide (j.toNat < i) && !bfL l j.toNat i) (k := x)
    simp only [show j.toNat < x from hx.1, decide_true, Bool.true_and] at us
    refine br_iff.2 ⟨fun h => ⟨inA8 (ul x hx.2), InR_i64.2 (by omega), x + 1, by omega, ⟨rfl, rfl, trivial⟩, ?_, by omega⟩, fun h => ⟨InR_i64.2 (by omega), x + 1, by omega, ⟨rfl, rfl, trivial⟩, ?_, by omega⟩⟩
    · rw [if_pos h] at us
      rw [us]
    · rw [if_neg (by rw [h]; simp), List.append_nil] at us
      rw [us]
  · simp only [decide_eq_false_iff_not] at g
    have ex : x = l.length := by omega
    refine ⟨rfl, ?_⟩
    subst ex
    have e : notM l j = upL (fun i => decide (j.toNat < i) && !bfL l j.toNat i) l.length := by
      unfold notM
      rw [if_neg]; unfold badI; omega
    rw [e]
set_option maxHeartbeats 2000000 in
set_option maxRecDepth 100000 in
theorem f15_met : Go.Eng.Met Tryd.prog cx0.gd 15 ctNot :=
  (met_all (cx := cx0) (n := 43) (cl := cl15) (il := il15) (hl := hl15) (ml := ml15) (rc := [.data (.sl (.int .i64))]) (lits := []) (suf := []) (by kernel_rfl) tis_ok ⟨f33_met, f34_met, trivial⟩ trivial trivial trivial Tryd.func15 (by kernel_rfl) (by kernel_rfl) rfl (by kernel_rfl) (by kernel_rfl) (by simp) fun d hd => by
    obtain ⟨l, j, ⟨⟩⟩ := d
    exact ex_of (ann15 l j) (f15_vc l j hd) (by kernel_rfl)).met
end Go.Proofs.YtigfbjjphegleaaDoor
set_option linter.unusedSimpArgs false
set_option linter.unusedVariables false
set_option maxRecDepth 100000
namespace Go.Proofs.YtigfbjjphegleaaDoor
open Go Go.Eng

theorem inA16 {n : Nat} (h : n ≤ 100000) : InA n 16 := InA_iff.2 (by omega)
@[reducible] noncomputable def ctOdr : CT := { ps := [.sl shE], pre := fun d => ∀ e ∈ d.1, bE e, res := fun d => ([], .tup [.agg [.v (.int .i64 (ordM d.1).1), .sl shP (ordM d.1).2.1], .c (.v (.int .i64 (tooM d.1)))]) }
@[reducible] noncomputable def cl22 : List (Nat × CT) := [(33, ctPst), (34, ctHas)]
@[reducible] noncomputable def ann22 (l : List ED) : Nat → Option (St → Ann) := fun n => match n with
  | 6 => some fun _ => .inv { α := Nat, slots := fun k => [(19, .c (.v (.int .i64 k)))], res := fun k => [(2, .row 55 shP (pairs (bfL l) l.length k))], inv := fun k => k ≤ l.length, meas := fun k => l.length - k, nilC := [(1, 1, 55, shP)] }
  | 9 => some fun s => .inv { α := Nat, slots := fun k => [(7, .c (.v (.int .i64 k)))], res := fun k => [(2, .row 55 shP (pairs (bfL l) l.length (slotI s 6).toNat ++ pairI (bfL l) (slotI s 6).toNat k))], inv := fun k => (slotI s 6).toNat < k ∧ k ≤ l.length, meas := fun k => l.length - k }
  | _ => none
@[reducible] def il22 : List (Nat × IP) := []
@[reducible] def hl22 : List (Nat × Nat × CT) := []
@[reducible] noncomputable def ml22 : List (Nat × MK) := []
set_option maxRecDepth 100000 in
theorem f22_vc (l : List ED) (hpre : ctOdr.pre (l, ())) :
    br (decide ((64 : Int) < (↑l.length : Int))) (([] : List Go.Eng.Res) = [] ∧ Ent.tup [SV.agg [v6 ((ordM l).fst), SC.sl shP (ordM l).snd.fst], SV.c (v6 ((tooM l)))] = Ent.tup [SV.agg [v6 ((0 : Int)), SC.sl shP []], SV.c (v6 ((4 : Int)))]) ((l.length ≤ (512 : Nat) ∧ ∀ (e : I6.den × (I6.pair (I6.pair (I6.pair (I6.pair (I6.pair (I6.pair (I6.pair (I6.pair Sh.unit)))))))).den), e ∈ l → bE e) ∧ (∃ x, x ≤ l.length ∧ (SV.c (v6 ((0 : Int))) = SV.c (v6 ((↑x : Int))) ∧ True) ∧ [(([] : Go.Eng.Gd), Res.blk (43 : Nat) [v6 ((0 : Int)), SC.v (Value.slice none (0 : Nat) (0 : Nat))]), (([] : Go.Eng.Gd), Res.blk (43 : Nat) [v6 ((↑l.length : Int)), SC.row (Nat.succ (0 : Nat)).succ]), (([] : Go.Eng.Gd), Res.row (55 : TypeId) shP [])] = [(([] : Go.Eng.Gd), Res.blk (43 : Nat) [v6 ((0 : Int)), SC.v (Value.slice none (0 : Nat) (0 : Nat))]), (([] : Go.Eng.Gd), Res.blk (43 : Nat) [v6 ((↑l.length : Int)), SC.row (Nat.succ (0 : Nat)).succ]), (([] : Go.Eng.Gd), Res.row (55 : TypeId) shP (pairs (bfL l) l.length x))]) ∧ ∀ (x : Nat), x ≤ l.length → br (decide ((↑x : Int) < (↑l.length : Int))) (InR IntKind.i64 ((↑x : Int) + (1 : Int)) ∧ (∃ x_1, ((↑x : Int).toNat < x_1 ∧ x_1 ≤ l.length) ∧ (SV.c (v6 (((↑x : Int) + (1 : Int)))) = SV.c (v6 ((↑x_1 : Int))) ∧ True) ∧ [(([] : Go.Eng.Gd), Res.blk (43 : Nat) [v6 ((0 : Int)), SC.v (Value.slice none (0 : Nat) (0 : Nat))]), (([] : Go.Eng.Gd), Res.blk (43 : Nat) [v6 ((↑l.length : Int)), SC.row (Nat.succ (0 : Nat)).succ]), (([] : Go.Eng.Gd), Res.row (55 : TypeId) shP (pairs (bfL l) l.length x))] = [(([] : Go.Eng.Gd), Res.blk (43 : Nat) [v6 ((0 : Int)), SC.v (Value.slice none (0 : Nat) (0 : Nat))]), (([] : Go.Eng.Gd), Res.blk (43 : Nat) [v6 ((↑l.length : Int)), SC.row (Nat.succ (0 : Nat)).succ]), (([] : Go.Eng.Gd), Res.row (55 : TypeId) shP (pairs (bfL l) l.length (↑x : Int).toNat ++ pairI (bfL l) (↑x : Int).toNat x_1))]) ∧ ∀ (x_1 : Nat), (↑x : Int).toNat < x_1 ∧ x_1 ≤ l.length → br (decide ((↑x_1 : Int) < (↑l.length : Int))) (((0 : Int) ≤ (↑x_1 : Int) ∧ (↑x_1 : Int) < (↑(pstM l).length : Int)) ∧ ∀ (d : List (Sh.int IntKind.u64).den), (pstM l)[(↑x_1 : Int).toNat]? = some d → ((0 : I6.den) ≤ (↑x : Int) ∧ (↑x : Int) < (64 : I6.den) * (↑d.length : I6.den) ∧ okW d ∧ d.length ≤ (1000 : Nat)) ∧ br (hasB d (↑x : Int).toNat) (InA (List.length ((pairs (bfL l) l.length (↑x : Int).toNat ++ pairI (bfL l) (↑x : Int).toNat x_1)) + List.length ([[(↑x : Int), (↑x_1 : Int)]])) (16 : Nat) ∧ InR IntKind.i64 ((↑x_1 : Int) + (1 : Int)) ∧ ∃ x', ((↑x : Int).toNat < x' ∧ x' ≤ l.length) ∧ (SV.c (v6 (((↑x_1 : Int) + (1 : Int)))) = SV.c (v6 ((↑x' : Int))) ∧ True) ∧ [(([] : Go.Eng.Gd), Res.blk (43 : Nat) [v6 ((0 : Int)), SC.v (Value.slice none (0 : Nat) (0 : Nat))]), (([] : Go.Eng.Gd), Res.blk (43 : Nat) [v6 ((↑l.length : Int)), SC.row (Nat.succ (0 : Nat)).succ]), (([] : Go.Eng.Gd), Res.row (55 : TypeId) shP ((pairs (bfL l) l.length (↑x : Int).toNat ++ pairI (bfL l) (↑x : Int).toNat x_1) ++ [[(↑x : Int), (↑x_1 : Int)]]))] = [(([] : Go.Eng.Gd), Res.blk (43 : Nat) [v6 ((0 : Int)), SC.v (Value.slice none (0 : Nat) (0 : Nat))]), (([] : Go.Eng.Gd), Res.blk (43 : Nat) [v6 ((↑l.length : Int)), SC.row (Nat.succ (0 : Nat)).succ]), (([] : Go.Eng.Gd), Res.row (55 : TypeId) shP (pairs (bfL l) l.length (↑x : Int).toNat ++ pairI (bfL l) (↑x : Int).toNat x'))] ∧ l.length - x' < l.length - x_1) (InR IntKind.i64 ((↑x_1 : Int) + (1 : Int)) ∧ ∃ x', ((↑x : Int).toNat < x' ∧ x' ≤ l.length) ∧ (SV.c (v6 (((↑x_1 : Int) + (1 : Int)))) = SV.c (v6 ((↑x' : Int))) ∧ True) ∧ [(([] : Go.Eng.Gd), Res.blk (43 : Nat) [v6 ((0 : Int)), SC.v (Value.slice none (0 : Nat) (0 : Nat))]), (([] : Go.Eng.Gd), Res.blk (43 : Nat) [v6 ((↑l.length : Int)), SC.row (Nat.succ (0 : Nat)).succ]), (([] : Go.Eng.Gd), Res.row (55 : TypeId) shP (pairs (bfL l) l.length (↑x : Int).toNat ++ pairI (bfL l) (↑x : Int).toNat x_1))] = [(([] : Go.Eng.Gd), Res.blk (43 : Nat) [v6 ((0 : Int)), SC.v (Value.slice none (0 : Nat) (0 : Nat))]), (([] : Go.Eng.Gd), Res.blk (43 : Nat) [v6 ((↑l.length : Int)), SC.row (Nat.succ (0 : Nat)).succ]), (([] : Go.Eng.Gd), Res.row (55 : TypeId) shP (pairs (bfL l) l.length (↑x : Int).toNat ++ pairI (bfL l) (↑x : Int).toNat x'))] ∧ l.length - x' < l.length - x_1)) (InR IntKind.i64 ((↑x : Int) + (1 : Int)) ∧ ∃ x', x' ≤ l.length ∧ (SV.c (v6 (((↑x : Int) + (1 : Int)))) = SV.c (v6 ((↑x' : Int))) ∧ True) ∧ [(([] : Go.Eng.Gd), Res.blk (43 : Nat) [v6 ((0 : Int)), SC.v (Value.slice none (0 : Nat) (0 : Nat))]), (([] : Go.Eng.Gd), Res.blk (43 : Nat) [v6 ((↑l.length : Int)), SC.row (Nat.succ (0 : Nat)).succ]), (([] : Go.Eng.Gd), Res.row (55 : TypeId) shP (pairs (bfL l) l.length (↑x : Int).toNat ++ pairI (bfL l) (↑x : Int).toNat x_1))] = [(([] : Go.Eng.Gd), Res.blk (43 : Nat) [v6 ((0 : Int)), SC.v (Value.slice none (0 : Nat) (0 : Nat))]), (([] : Go.Eng.Gd), Res.blk (43 : Nat) [v6 ((↑l.length : Int)), SC.row (Nat.succ (0 : Nat)).succ]), (([] : Go.Eng.Gd), Res.row (55 : TypeId) shP (pairs (bfL l) l.length x'))] ∧ l.length - x' < l.length - x)) (([] : List Go.Eng.Res) = [] ∧ Ent.tup [SV.agg [v6 ((ordM l).fst), SC.sl shP (ordM l).snd.fst], SV.c (v6 ((tooM l)))] = Ent.tup [SV.agg [v6 ((↑l.length : Int)), SC.sl shP (pairs (bfL l) l.length x)], SV.c (v6 ((0 : Int)))])) := by
  have hb : ∀ e ∈ l, bE e := hpre
  refine br_iff.2 ⟨fun h => ⟨rfl, ?_⟩, fun h => ?_⟩
  · simp only [decide_eq_true_eq] at h
    have h1 : 64 < l.length := by omega
    rw [show ordM l = (0, [], ()) from if_pos h1, show tooM l = 4 from if_pos h1]
  simp only [decide_eq_false_iff_not] at h
  have hl : l.length ≤ 64 := by omega
  have ul : ∀ x y, x ≤ l.length → y ≤ l.length → (pairs (bfL l) l.length x ++ pairI (bfL l) x y).length + 1 ≤ 100000 := fun x y hx hy => by
    have h1 := pairs_len (bfL l) l.length x
    have h2 := pairI_len (bfL l) x y
    have h3 : l.length * x ≤ 64 * 64 := Nat.mul_le_mul hl (by omega)
    rw [List.length_append]; omega
  refine ⟨⟨by omega, hb⟩, ⟨0, by omega, ⟨rfl, trivial⟩, rfl⟩, fun x hx => br_iff.2 ⟨fun g => ?_, fun g => ?_⟩⟩
  · simp only [decide_eq_true_eq] at g
    refine ⟨InR_i64.2 (by omega), ⟨x + 1, ⟨Nat.lt_succ_self x, by omega⟩, ⟨rfl, trivial⟩, ?_⟩, fun y hy => br_iff.2 ⟨fun g2 => ?_, fun g2 => ?_⟩⟩
    · rw [show (x : Int).toNat = x from rfl, pairI_zero, List.append_nil]
    · simp only [decide_eq_true_eq] at g2
      have hxy : x < y := hy.1
      refine ⟨⟨by omega, by rw [pstM_len]; omega⟩, fun d hd => ?_⟩
      obtain ⟨rfl, hj⟩ := pst_at hd
      refine ⟨pst_pre (by omega) (by omega), ?_⟩
      rw [show (x : Int).toNat = x from rfl, show (y : Int).toNat = y from rfl, has_pst (by omega)]
      have us := pairI_succ (P := bfL l) hxy
      refine br_iff.2 ⟨fun h => ⟨inA16 (ul x y hx hy.2), InR_i64.2 (by omega), y + 1, ⟨by omega, by omega⟩, ⟨rfl, trivial⟩, ?_, by omega⟩, fun h => ⟨InR_i64.2 (by omega), y + 1, ⟨by omega, by omega⟩, ⟨rfl, trivial⟩, ?_, by omega⟩⟩
      · rw [if_pos h] at us
        rw [us, ← List.append_assoc]
      · rw [if_neg (by rw [h]; simp), List.append_nil] at us
        rw [us]
    · simp only [decide_eq_false_iff_not] at g2
      have : y = l.length := by omega
      subst this
      refine ⟨InR_i64.2 (by omega), x + 1, by omega, ⟨rfl, trivial⟩, ?_, by omega⟩
      rw [pairs_succ, show (x : Int).toNat = x from rfl]
  · simp only [decide_eq_false_iff_not] at g
    have ex : x = l.length := by omega
    subst ex
    refine ⟨rfl, ?_⟩
    rw [show ordM l = ((l.length : Int), pairs (bfL l) l.length l.length, ()) from if_neg (by omega), show tooM l = 0 from if_neg (by omega)]
set_option maxHeartbeats 2000000 in
set_option maxRecDepth 100000 in
theorem f22_met : Go.Eng.Met Tryd.prog cx0.gd 22 ctOdr :=
  (met_all (cx := cx0) (n := 46) (cl := cl22) (il := il22) (hl := hl22) (ml := ml22) (rc := [.data shR, .keep]) (lits := []) (suf := []) (by kernel_rfl) tis_ok ⟨f33_met, f34_met, trivial⟩ trivial trivial trivial Tryd.func22 (by kernel_rfl) (by kernel_rfl) rfl (by kernel_rfl) (by kernel_rfl) (by simp) fun d hd => by
    obtain ⟨l, ⟨⟩⟩ := d
    exact ex_of (ann22 l) (f22_vc l hd) (by kernel_rfl)).met
@[reducible] noncomputable def ctCov : CT := { ps := [.sl shE], pre := fun d => ∀ e ∈ d.1, bE e, res := fun d => ([], .tup [.c (.sl shP (covM d.1)), .c (.v (.int .i64 (tooM d.1)))]) }
@[reducible] noncomputable def cl24 : List (Nat × CT) := [(33, ctPst), (34, ctHas)]
@[reducible] noncomputable def ann24 (l : List ED) : Nat → Option (St → Ann) := fun n => match n with
  | 6 => some fun _ => .inv { α := Nat, slots := fun k => [(17, .c (.v (.int .i64 k))), (5, .c (.row 0))], res := fun k => [(0, .row 55 shP (pairs (covB l) l.length k))], inv := fun k => k ≤ l.length, meas := fun k => l.length - k, nil := [(5, 55, shP)] }
  | 9 => some fun s => .inv { α := Nat, slots := fun k => [(7, .c (.v (.int .i64 k))), (5, .c (.row 0))], res := fun k => [(0, .row 55 shP (pairs (covB l) l.length (slotI s 6).toNat ++ pairI (covB l) (slotI s 6).toNat k))], inv := fun k => (slotI s 6).toNat < k ∧ k ≤ l.length, meas := fun k => l.length - k }
  | 13 => some fun s => .inv { α := Nat × Bool, slots := fun u => [(9, .c (.v (.int .i64 u.1))), (8, .c (.v (.bool u.2)))], res := fun u => [], inv := fun u => covI l (slotI s 6).toNat (slotI s 7).toNat u, meas := fun u => (slotI s 7).toNat - u.1 }
  | _ => none
@[reducible] def il24 : List (Nat × IP) := []
@[reducible] def hl24 : List (Nat × Nat × CT) := []
@[reducible] noncomputable def ml24 : List (Nat × MK) := []
set_option maxRecDepth 100000 in
theorem f24_vc (l : List ED) (hpre : ctCov.pre (l, ())) :
    br (decide ((64 : Int) < (↑l.length : Int))) (([] : List Go.Eng.Res) = [] ∧ Ent.tup [SV.c (SC.sl shP (covM l)), SV.c (v6 ((tooM l)))] = Ent.tup [SV.c (SC.sl shP []), SV.c (v6 ((4 : Int)))]) ((l.length ≤ (512 : Nat) ∧ ∀ (e : I6.den × (I6.pair (I6.pair (I6.pair (I6.pair (I6.pair (I6.pair (I6.pair (I6.pair Sh.unit)))))))).den), e ∈ l → bE e) ∧ (∃ x, x ≤ l.length ∧ (SV.c (v6 ((0 : Int))) = SV.c (v6 ((↑x : Int))) ∧ SV.c (SC.row (0 : Nat)) = SV.c (SC.row (0 : Nat)) ∧ True) ∧ [(([] : Go.Eng.Gd), Res.row (55 : TypeId) shP [])] = [(([] : Go.Eng.Gd), Res.row (55 : TypeId) shP (pairs (covB l) l.length x))]) ∧ ∀ (x : Nat), x ≤ l.length → br (decide ((↑x : Int) < (↑l.length : Int))) (InR IntKind.i64 ((↑x : Int) + (1 : Int)) ∧ (∃ x_1, ((↑x : Int).toNat < x_1 ∧ x_1 ≤ l.length) ∧ (SV.c (v6 (((↑x : Int) + (1 : Int)))) = SV.c (v6 ((↑x_1 : Int))) ∧ SV.c (SC.row (0 : Nat)) = SV.c (SC.row (0 : Nat)) ∧ True) ∧ [(([] : Go.Eng.Gd), Res.row (55 : TypeId) shP (pairs (covB l) l.length x))] = [(([] : Go.Eng.Gd), Res.row (55 : TypeId) shP (pairs (covB l) l.length (↑x : Int).toNat ++ pairI (covB l) (↑x : Int).toNat x_1))]) ∧ ∀ (x_1 : Nat), (↑x : Int).toNat < x_1 ∧ x_1 ≤ l.length → br (decide ((↑x_1 : Int) < (↑l.length : Int))) (((0 : Int) ≤ (↑x_1 : Int) ∧ (↑x_1 : Int) < (↑(pstM l).length : Int)) ∧ ∀ (d : List (Sh.int IntKind.u64).den), (pstM l)[(↑x_1 : Int).toNat]? = some d → ((0 : I6.den) ≤ (↑x : Int) ∧ (↑x : Int) < (64 : I6.den) * (↑d.length : I6.den) ∧ okW d ∧ d.length ≤ (1000 : Nat)) ∧ InR IntKind.i64 ((↑x : Int) + (1 : Int)) ∧ (∃ x_2, covI l (↑x : Int).toNat (↑x_1 : Int).toNat x_2 ∧ (SV.c (v6 (((↑x : Int) + (1 : Int)))) = SV.c (v6 ((↑x_2.fst : Int))) ∧ SV.c (SC.v (Value.bool (hasB d (↑x : Int).toNat))) = SV.c (SC.v (Value.bool x_2.snd)) ∧ True) ∧ [(([] : Go.Eng.Gd), Res.row (55 : TypeId) shP (pairs (covB l) l.length (↑x : Int).toNat ++ pairI (covB l) (↑x : Int).toNat x_1))] = [(([] : Go.Eng.Gd), Res.row (55 : TypeId) shP (pairs (covB l) l.length (↑x : Int).toNat ++ pairI (covB l) (↑x : Int).toNat x_1))]) ∧ ∀ (x_2 : Nat × Bool), covI l (↑x : Int).toNat (↑x_1 : Int).toNat x_2 → br (decide ((↑x_2.fst : Int) < (↑x_1 : Int)) && x_2.snd) (((0 : Int) ≤ (↑x_2.fst : Int) ∧ (↑x_2.fst : Int) < (↑(pstM l).length : Int)) ∧ ∀ (d_1 : List (Sh.int IntKind.u64).den), (pstM l)[(↑x_2.fst : Int).toNat]? = some d_1 → ((0 : I6.den) ≤ (↑x : Int) ∧ (↑x : Int) < (64 : I6.den) * (↑d_1.length : I6.den) ∧ okW d_1 ∧ d_1.length ≤ (1000 : Nat)) ∧ ((!!hasB d_1 (↑x : Int).toNat) = true → (0 : Int) ≤ (↑x_1 : Int) ∧ (↑x_1 : Int) < (↑(pstM l).length : Int)) ∧ ∀ (d_2 : List (Sh.int IntKind.u64).den), ((!!hasB d_1 (↑x : Int).toNat) = true → (pstM l)[(↑x_1 : Int).toNat]? = some d_2) → ((!!hasB d_1 (↑x : Int).toNat) = true → (0 : I6.den) ≤ (↑x_2.fst : Int) ∧ (↑x_2.fst : Int) < (64 : I6.den) * (↑d_2.length : I6.den) ∧ okW d_2 ∧ d_2.length ≤ (1000 : Nat)) ∧ InR IntKind.i64 ((↑x_2.fst : Int) + (1 : Int)) ∧ ∃ x', covI l (↑x : Int).toNat (↑x_1 : Int).toNat x' ∧ (SV.c (v6 (((↑x_2.fst : Int) + (1 : Int)))) = SV.c (v6 ((↑x'.fst : Int))) ∧ SV.c (SC.v (Value.bool (!hasB d_1 (↑x : Int).toNat || !hasB d_2 (↑x_2.fst : Int).toNat))) = SV.c (SC.v (Value.bool x'.snd)) ∧ True) ∧ [(([] : Go.Eng.Gd), Res.row (55 : TypeId) shP (pairs (covB l) l.length (↑x : Int).toNat ++ pairI (covB l) (↑x : Int).toNat x_1))] = [(([] : Go.Eng.Gd), Res.row (55 : TypeId) shP (pairs (covB l) l.length (↑x : Int).toNat ++ pairI (covB l) (↑x : Int).toNat x_1))] ∧ (↑x_1 : Int).toNat - x'.fst < (↑x_1 : Int).toNat - x_2.fst) (br x_2.snd (InA (List.length ((pairs (covB l) l.length (↑x : Int).toNat ++ pairI (covB l) (↑x : Int).toNat x_1)) + List.length ([[(↑x : Int), (↑x_1 : Int)]])) (16 : Nat) ∧ InR IntKind.i64 ((↑x_1 : Int) + (1 : Int)) ∧ ∃ x', ((↑x : Int).toNat < x' ∧ x' ≤ l.length) ∧ (SV.c (v6 (((↑x_1 : Int) + (1 : Int)))) = SV.c (v6 ((↑x' : Int))) ∧ SV.c (SC.row (0 : Nat)) = SV.c (SC.row (0 : Nat)) ∧ True) ∧ [(([] : Go.Eng.Gd), Res.row (55 : TypeId) shP ((pairs (covB l) l.length (↑x : Int).toNat ++ pairI (covB l) (↑x : Int).toNat x_1) ++ [[(↑x : Int), (↑x_1 : Int)]]))] = [(([] : Go.Eng.Gd), Res.row (55 : TypeId) shP (pairs (covB l) l.length (↑x : Int).toNat ++ pairI (covB l) (↑x : Int).toNat x'))] ∧ l.length - x' < l.length - x_1) (InR IntKind.i64 ((↑x_1 : Int) + (1 : Int)) ∧ ∃ x', ((↑x : Int).toNat < x' ∧ x' ≤ l.length) ∧ (SV.c (v6 (((↑x_1 : Int) + (1 : Int)))) = SV.c (v6 ((↑x' : Int))) ∧ SV.c (SC.row (0 : Nat)) = SV.c (SC.row (0 : Nat)) ∧ True) ∧ [(([] : Go.Eng.Gd), Res.row (55 : TypeId) shP (pairs (covB l) l.length (↑x : Int).toNat ++ pairI (covB l) (↑x : Int).toNat x_1))] = [(([] : Go.Eng.Gd), Res.row (55 : TypeId) shP (pairs (covB l) l.length (↑x : Int).toNat ++ pairI (covB l) (↑x : Int).toNat x'))] ∧ l.length - x' < l.length - x_1))) (InR IntKind.i64 ((↑x : Int) + (1 : Int)) ∧ ∃ x', x' ≤ l.length ∧ (SV.c (v6 (((↑x : Int) + (1 : Int)))) = SV.c (v6 ((↑x' : Int))) ∧ SV.c (SC.row (0 : Nat)) = SV.c (SC.row (0 : Nat)) ∧ True) ∧ [(([] : Go.Eng.Gd), Res.row (55 : TypeId) shP (pairs (covB l) l.length (↑x : Int).toNat ++ pairI (covB l) (↑x : Int).toNat x_1))] = [(([] : Go.Eng.Gd), Res.row (55 : TypeId) shP (pairs (covB l) l.length x'))] ∧ l.length - x' < l.length - x)) (([] : List Go.Eng.Res) = [] ∧ Ent.tup [SV.c (SC.sl shP (covM l)), SV.c (v6 ((tooM l)))] = Ent.tup [SV.c (SC.sl shP (pairs (covB l) l.length x)), SV.c (v6 ((0 : Int)))])) := by
  have hb : ∀ e ∈ l, bE e := hpre
  refine br_iff.2 ⟨fun h => ⟨rfl, ?_⟩, fun h => ?_⟩
  · simp only [decide_eq_true_eq] at h
    have h1 : 64 < l.length := by omega
    rw [show covM l = [] from if_pos h1, show tooM l = 4 from if_pos h1]
  simp only [decide_eq_false_iff_not] at h
  have hl : l.length ≤ 64 := by omega
  have ul : ∀ x y, x ≤ l.length → y ≤ l.length → (pairs (covB l) l.length x ++ pairI (covB l) x y).length + 1 ≤ 100000 := fun x y hx hy => by
    have h1 := pairs_len (covB l) l.length x
    have h2 := pairI_len (covB l) x y
    have h3 : l.length * x ≤ 64 * 64 := Nat.mul_le_mul hl (by omega)
    rw [List.length_append]; omega
  refine ⟨⟨by omega, hb⟩, ⟨0, by omega, ⟨rfl, rfl, trivial⟩, rfl⟩, fun x hx => br_iff.2 ⟨fun g => ?_, fun g => ?_⟩⟩
  · simp only [decide_eq_true_eq] at g
    refine ⟨InR_i64.2 (by omega), ⟨x + 1, ⟨Nat.lt_succ_self x, by omega⟩, ⟨rfl, rfl, trivial⟩, ?_⟩, fun y hy => br_iff.2 ⟨fun g2 => ?_, fun g2 => ?_⟩⟩
    · rw [show (x : Int).toNat = x from rfl, pairI_zero, List.append_nil]
    · simp only [decide_eq_true_eq] at g2
      have hxy : x < y := hy.1
      refine ⟨⟨by omega, by rw [pstM_len]; omega⟩, fun d hd => ?_⟩
      obtain ⟨rfl, hj⟩ := pst_at hd
      simp only [show (x : Int).toNat = x from rfl, show (y : Int).toNat = y from rfl]
      refine ⟨pst_pre (by omega) (by omega), InR_i64.2 (by omega), ⟨(x + 1, bfL l x y), covI_zero hxy, ⟨by trivial, by rw [has_pst (by omega)], trivial⟩, by trivial⟩, ?_⟩
      rintro ⟨k, c⟩ hu
      have hu1 : x < k := hu.1
      have hu2 : k ≤ y := hu.2.1
      have ek : ((k : Int)).toNat = k := rfl
      refine br_iff.2 ⟨fun g3 => ?_, fun g3 => ?_⟩
      · simp only [Bool.and_eq_true, decide_eq_true_eq] at g3
        obtain ⟨g3, rfl⟩ := g3
        have hky : k < y := by omega
        refine ⟨⟨Int.natCast_nonneg k, by rw [pstM_len]; show (k : Int) < _; omega⟩, fun d1 hd1 => ?_⟩
        obtain ⟨rfl, hk⟩ := pst_at (j := k) hd1
        refine ⟨pst_pre (by omega) (by omega), fun _ => ⟨Int.natCast_nonneg y, by rw [pstM_len]; omega⟩, fun d2 hd2 => ⟨fun q => ?_, InR_i64.2 (by show _ ≤ (k : Int) + 1 ∧ (k : Int) + 1 ≤ _; omega), (k + 1, true && !(bfL l x k && bfL l k y)), covI_step hu hky, ⟨by trivial, ?_, trivial⟩, by trivial, by show y - (k + 1) < y - k; omega⟩⟩
        · obtain ⟨rfl, _⟩ := pst_at (hd2 q)
          exact pst_pre (i := k) (by omega) (by omega)
        · refine congrArg (fun b => SV.c (SC.v (Value.bool b))) ?_
          have e1 : hasB (pstW l k) x = bfL l x k := has_pst (by omega)
          rw [e1] at hd2 ⊢
          cases hc : bfL l x k with
          | false => rfl
          | true =>
            rw [hc] at hd2
            obtain ⟨rfl, _⟩ := pst_at (hd2 rfl)
            have e2 : hasB (pstW l y) ((k, true).1 : Int).toNat = bfL l k y := has_pst (i := k) (by omega)
            rw [e2]; rfl
      · have ec : c = covB l x y := covI_end hu (by
          have g3 : (decide ((k : Int) < (y : Int)) && c) = false := g3
          cases c with
          | false => exact .inr rfl
          | true =>
            rw [Bool.and_true, decide_eq_false_iff_not] at g3
            exact .inl (by omega))
        have us := pairI_succ (P := covB l) hxy
        refine br_iff.2 ⟨fun h => ⟨inA16 (ul x y hx hy.2), InR_i64.2 (by omega), y + 1, ⟨by omega, by omega⟩, ⟨by trivial, by trivial, trivial⟩, ?_, by omega⟩, fun h => ⟨InR_i64.2 (by omega), y + 1, ⟨by omega, by omega⟩, ⟨by trivial, by trivial, trivial⟩, ?_, by omega⟩⟩
        · have h : covB l x y = true := ec.symm.trans h
          rw [if_pos h] at us
          rw [us, ← List.append_assoc]
        · have h : covB l x y = false := ec.symm.trans h
          rw [if_neg (by rw [h]; simp), List.append_nil] at us
          rw [us]
    · simp only [decide_eq_false_iff_not] at g2
      have : y = l.length := by omega
      subst this
      refine ⟨InR_i64.2 (by omega), x + 1, by omega, ⟨rfl, rfl, trivial⟩, ?_, by omega⟩
      rw [pairs_succ, show (x : Int).toNat = x from rfl]
  · simp only [decide_eq_false_iff_not] at g
    have ex : x = l.length := by omega
    subst ex
    refine ⟨rfl, ?_⟩
    rw [show covM l = pairs (covB l) l.length l.length from if_neg (by omega), show tooM l = 0 from if_neg (by omega)]
set_option maxHeartbeats 2000000 in
set_option maxRecDepth 100000 in
theorem f24_met : Go.Eng.Met Tryd.prog cx0.gd 24 ctCov :=
  (met_all (cx := cx0) (n := 69) (cl := cl24) (il := il24) (hl := hl24) (ml := ml24) (rc := [.data (.sl shP), .keep]) (lits := []) (suf := []) (by kernel_rfl) tis_ok ⟨f33_met, f34_met, trivial⟩ trivial trivial trivial Tryd.func24 (by kernel_rfl) (by kernel_rfl) rfl (by kernel_rfl) (by kernel_rfl) (by simp) fun d hd => by
    obtain ⟨l, ⟨⟩⟩ := d
    exact ex_of (ann24 l) (f24_vc l hd) (by kernel_rfl)).met
end Go.Proofs.YtigfbjjphegleaaDoor
set_option linter.unusedSimpArgs false
set_option linter.unusedVariables false
namespace Go.Proofs.YtigfbjjphegleaaDoor
open Go Go.Eng
noncomputable def rowB (l : List ED) (j : Nat) : List Bool := (List.range j).map fun i => bfL l i j
noncomputable def tabP (l : List ED) (k : Nat) : List (List Bool) := (List.range k).map (rowB l)
noncomputable def tabM (l : List ED) : List (List Bool) := tabP l l.length
noncomputable def eB (l : List ED) (j u k : Nat) : Bool := decide (u ≤ k) && bfL l k j || (List.range j).any fun m => decide (u ≤ m) && bfL l m j && bfL l k m
noncomputable def erM (l : List ED) (j u : Nat) : List Bool := (List.range j).map (eB l j u)
noncomputable def erK (l : List ED) (j i k : Nat) : List Bool := (List.range j).map fun x => decide (x = i) || if x < k then eB l j i x else eB l j (i + 1) x
theorem bfL_iff {l : List ED} {i j : Nat} : bfL l i j = true ↔ Bf (dAt l) i j := bfB_iff
theorem bfL_trans {l : List ED} {i k j : Nat} (a : bfL l i k = true) (b : bfL l k j = true) : bfL l i j = true := bfL_iff.2 ((bfL_iff.1 a).trans (bfL_iff.1 b))
theorem bool_ext {a b : Bool} (h : a = true ↔ b = true) : a = b := Bool.eq_iff_iff.2 h
theorem eB_iff {l : List ED} {j u k : Nat} : eB l j u k = true ↔ (u ≤ k ∧ bfL l k j = true) ∨ ∃ m, m < j ∧ u ≤ m ∧ bfL l m j = true ∧ bfL l k m = true := by
  simp only [eB, Bool.or_eq_true, Bool.and_eq_true, decide_eq_true_eq, List.any_eq_true, List.mem_range, and_assoc]
theorem eB_up {l : List ED} {j u k : Nat} (h : u ≤ k) : eB l j u k = bfL l k j := bool_ext (by
  rw [eB_iff]
  constructor
  · rintro (⟨_, h⟩ | ⟨m, _, _, h1, h2⟩)
    · exact h
    · exact bfL_trans h2 h1
  · exact fun q => .inl ⟨h, q⟩)
theorem eB_dn {l : List ED} {j u k : Nat} (h : k < u) : eB l j u k = (List.range j).any fun m => decide (u ≤ m) && bfL l m j && bfL l k m := by
  unfold eB
  rw [decide_eq_false (by omega)]; simp
theorem dep_bf {l : List ED} {i j : Nat} (h : i < j) (d : dAt l i j = true) : bfL l i j = true := bfL_iff.2 (.one h d)
/-- The next entry: told by what is known, or the events depend on each other. -/
theorem eB_next {l : List ED} {j i : Nat} (h : i < j) : (eB l j (i + 1) i || dAt l i j) = bfL l i j := bool_ext (by
  rw [Bool.or_eq_true, eB_iff]
  constructor
  · rintro ((⟨h, _⟩ | ⟨m, _, _, h1, h2⟩) | h2)
    · omega
    · exact bfL_trans h2 h1
    · exact dep_bf h h2
  · intro q
    obtain ⟨k, h1, h2, h3, h4⟩ := (bfL_iff.1 q).first
    rcases h4 with rfl | h4
    · exact .inr h3
    · exact .inl (.inr ⟨k, by have := h4.lt; omega, by omega, bfL_iff.2 h4, bfL_iff.2 (.one h1 h3)⟩))
theorem eB_step {l : List ED} {j i x : Nat} (hij : i < j) (h : x < i) : eB l j i x = (eB l j (i + 1) x || (bfL l i j && bfL l x i)) := bool_ext (by
  rw [Bool.or_eq_true, eB_iff, eB_iff, Bool.and_eq_true]
  constructor
  · rintro (⟨h2, _⟩ | ⟨m, h1, h2, h3, h4⟩)
    · omega
    · by_cases hm : m = i
      · subst hm; exact .inr ⟨h3, h4⟩
      · exact .inl (.inr ⟨m, h1, by omega, h3, h4⟩)
  · rintro ((⟨h2, _⟩ | ⟨m, h1, h2, h3, h4⟩) | ⟨h1, h2⟩)
    · omega
    · exact .inr ⟨m, h1, by omega, h3, h4⟩
    · exact .inr ⟨i, hij, by omega, h1, h2⟩)
theorem erM_len (l : List ED) (j u : Nat) : (erM l j u).length = j := by simp [erM]
theorem erK_len (l : List ED) (j i k : Nat) : (erK l j i k).length = j := by simp [erK]
theorem erM_get {l : List ED} {j u k : Nat} (h : k < j) : (erM l j u)[k]? = some (eB l j u k) := by simp [erM, List.getElem?_range h]
theorem erK_get {l : List ED} {j i k x : Nat} (h : x < j) : (erK l j i k)[x]? = some (decide (x = i) || if x < k then eB l j i x else eB l j (i + 1) x) := by simp [erK, List.getElem?_range h]
theorem map_ext_lt {α : Type} {f g : Nat → α} {j : Nat} (h : ∀ x, x < j → f x = g x) : (List.range j).map f = (List.range j).map g := List.map_congr_left fun x hx => h x (List.mem_range.1 hx)
theorem map_set {α : Type} {f g : Nat → α} {j i : Nat} {a : α} (h : ∀ x, x < j → x ≠ i → f x = g x) (ha : i < j → g i = a) : ((List.range j).map f).set i a = (List.range j).map g := by
  apply List.ext_getElem?
  intro x
  by_cases hx : x < j
  · by_cases hxi : i = x
    · subst hxi
      rw [List.getElem?_set_self (by simpa using hx), List.getElem?_map, List.getElem?_range hx]
      simp [ha hx]
    · rw [List.getElem?_set_ne hxi, List.getElem?_map, List.getElem?_map, List.getElem?_range hx]
      simp [h x hx (Ne.symm hxi)]
  · rw [List.getElem?_eq_none (by simp; omega), List.getElem?_eq_none (by simp; omega)]
/-- No chain from i: the row stays. -/
theorem erM_skip {l : List ED} {j i : Nat} (h : i < j) (hf : bfL l i j = false) : erM l j (i + 1) = erM l j i := map_ext_lt fun x hx => by
  by_cases hxi : x < i
  · rw [eB_step h hxi, hf]; simp
  · rw [eB_up (u := i) (by omega)]
    by_cases hxe : x = i
    · subst hxe
      have := eB_next (l := l) h
      rw [hf, Bool.or_eq_false_iff] at this
      rw [this.1, hf]
    · rw [eB_up (by omega)]
theorem erK_start {l : List ED} {j i : Nat} (h : i < j) : (erM l j (i + 1)).set i true = erK l j i 0 := map_set (fun x hx hxi => by simp [hxi]) fun _ => by simp
theorem erK_start' {l : List ED} {j i : Nat} (h : i < j) (ht : eB l j (i + 1) i = true) : erM l j (i + 1) = erK l j i 0 := map_ext_lt fun x hx => by
  by_cases hxi : x = i
  · subst hxi; simp [ht]
  · simp [hxi]
theorem erK_set {l : List ED} {j i k : Nat} (hij : i < j) (hb : bfL l i j = true) (hk : k < i) : (erK l j i k).set k (eB l j (i + 1) k || bfL l k i) = erK l j i (k + 1) := map_set (fun x hx hxk => by
    by_cases h1 : x < k
    · rw [if_pos h1, if_pos (by omega)]
    · rw [if_neg h1, if_neg (by omega)]) fun _ => by
    rw [if_pos (by omega), decide_eq_false (by omega), Bool.false_or, eB_step hij hk, hb, Bool.true_and]
theorem erK_end {l : List ED} {j i k : Nat} (hij : i < j) (hb : bfL l i j = true) (hk : k = i) : erK l j i k = erM l j i := map_ext_lt fun x hx => by
  subst hk
  by_cases h1 : x < k
  · rw [if_pos h1, decide_eq_false (by omega), Bool.false_or]
  · rw [if_neg h1, eB_up (u := k) (by omega)]
    by_cases h2 : x = k
    · subst h2; simp [hb]
    · rw [eB_up (by omega)]; simp [h2]
theorem erM_zero {l : List ED} {j : Nat} : erM l j 0 = rowB l j := map_ext_lt fun x hx => eB_up (Nat.zero_le _)
theorem erM_top {l : List ED} {j : Nat} : erM l j j = List.replicate j false := by
  apply List.ext_getElem?
  intro x
  by_cases hx : x < j
  · rw [erM_get hx, List.getElem?_replicate, if_pos hx, eB_dn hx]
    congr 1
    rw [List.any_eq_false]
    intro m hm
    rw [List.mem_range] at hm
    simp; omega
  · rw [List.getElem?_eq_none (by rw [erM_len]; omega), List.getElem?_eq_none (by simp; omega)]
theorem tabP_len (l : List ED) (k : Nat) : (tabP l k).length = k := by simp [tabP]
theorem tabP_succ (l : List ED) (k : Nat) : tabP l (k + 1) = tabP l k ++ [rowB l k] := by simp [tabP, List.range_succ]
theorem tabP_get {l : List ED} {k i : Nat} {d : List Bool} (h : (tabP l k)[i]? = some d) : d = rowB l i ∧ i < k := by
  obtain ⟨hi, _⟩ := List.getElem?_eq_some_iff.1 h
  rw [tabP_len] at hi
  rw [show (tabP l k)[i]? = some (rowB l i) by simp [tabP, List.getElem?_range hi]] at h
  exact ⟨(Option.some.inj h).symm, hi⟩
theorem rowB_len (l : List ED) (k : Nat) : (rowB l k).length = k := by simp [rowB]
theorem rowB_get {l : List ED} {j i : Nat} {d : Bool} (h : (rowB l j)[i]? = some d) : d = bfL l i j ∧ i < j := by
  obtain ⟨hi, _⟩ := List.getElem?_eq_some_iff.1 h
  rw [rowB_len] at hi
  rw [show (rowB l j)[i]? = some (bfL l i j) by simp [rowB, List.getElem?_range hi]] at h
  exact ⟨(Option.some.inj h).symm, hi⟩
end Go.Proofs.YtigfbjjphegleaaDoor
set_option linter.unusedSimpArgs false
set_option linter.unusedVariables false
set_option maxRecDepth 100000
namespace Go.Proofs.YtigfbjjphegleaaDoor
open Go Go.Eng

theorem inA24 {n : Nat} (h : n ≤ 100000) : InA n 24 := InA_iff.2 (by omega)
@[reducible] noncomputable def ctTab : CT := { ps := [.sl shE], pre := fun d => d.1.length ≤ 512 ∧ ∀ e ∈ d.1, bE e, res := fun d => ([], .one (.c (.sl (.sl .bool) (tabM d.1)))) }
@[reducible] noncomputable def cl35 : List (Nat × CT) := [(60, ctDp)]
@[reducible] noncomputable def ann35 (l : List ED) : Nat → Option (St → Ann) := fun n => match n with
  | 3 => some fun _ => .inv { α := Nat, slots := fun k => [(4, .c (.v (.int .i64 k))), (3, .c (.row 0))], res := fun k => [(0, .row 63 (.sl .bool) (tabP l k))], inv := fun k => k ≤ l.length, meas := fun k => l.length - k, nil := [(3, 63, .sl .bool)] }
  | 7 => some fun s => .inv { α := Nat, slots := fun u => [(6, .c (.v (.int .i64 ((u : Int) - 1))))], res := fun u => [(1, .row 4 .bool (erM l (slotI s 4).toNat u))], inv := fun u => u ≤ (slotI s 4).toNat, meas := fun u => u }
  | 13 => some fun s => .inv { α := Nat, slots := fun k => [(7, .c (.v (.int .i64 k)))], res := fun k => [(1, .row 4 .bool (erK l (slotI s 4).toNat (slotI s 6).toNat k))], inv := fun k => k ≤ (slotI s 6).toNat, meas := fun k => (slotI s 6).toNat - k }
  | _ => none
@[reducible] def il35 : List (Nat × IP) := []
@[reducible] def hl35 : List (Nat × Nat × CT) := []
@[reducible] noncomputable def ml35 : List (Nat × MK) := []
set_option maxRecDepth 100000 in
theorem f35_vc (l : List ED) (hpre : ctTab.pre (l, ())) :
    (∃ x, x ≤ l.length ∧ (SV.c (v6 ((0 : Int))) = SV.c (v6 ((↑x : Int))) ∧ SV.c (SC.row (0 : Nat)) = SV.c (SC.row (0 : Nat)) ∧ True) ∧ [(([] : Go.Eng.Gd), Res.row (63 : TypeId) Sh.bool.sl [])] = [(([] : Go.Eng.Gd), Res.row (63 : TypeId) Sh.bool.sl (tabP l x))]) ∧ ∀ (x : Nat), x ≤ l.length → br (decide ((↑x : Int) < (↑l.length : Int))) (((0 : Int) ≤ (↑x : Int) ∧ (↑x : Int) ≤ (↑x : Int) ∧ InA (↑x : Int).toNat (1 : Nat)) ∧ InR IntKind.i64 ((↑x : Int) - (1 : Int)) ∧ (∃ x_1, x_1 ≤ (↑x : Int).toNat ∧ (SV.c (v6 (((↑x : Int) - (1 : Int)))) = SV.c (v6 (((↑x_1 : Int) - (1 : Int)))) ∧ True) ∧ [(([] : Go.Eng.Gd), Res.row (63 : TypeId) Sh.bool.sl (tabP l x)), (([] : Go.Eng.Gd), Res.row (4 : TypeId) Sh.bool (List.replicate (↑x : Int).toNat false))] = [(([] : Go.Eng.Gd), Res.row (63 : TypeId) Sh.bool.sl (tabP l x)), (([] : Go.Eng.Gd), Res.row (4 : TypeId) Sh.bool (erM l (↑x : Int).toNat x_1))]) ∧ ∀ (x_1 : Nat), x_1 ≤ (↑x : Int).toNat → br (decide ((0 : Int) ≤ (↑x_1 : Int) - (1 : Int))) (((0 : Int) ≤ (↑x_1 : Int) - (1 : Int) ∧ (↑x_1 : Int) - (1 : Int) < (↑(erM l (↑x : Int).toNat x_1).length : Int)) ∧ ((↑x_1 : Int) - (1 : Int)).toNat < (erM l (↑x : Int).toNat x_1).length ∧ ∀ (d : Bool), (erM l (↑x : Int).toNat x_1)[((↑x_1 : Int) - (1 : Int)).toNat]? = some d → ((!d) = true → (0 : Int) ≤ (↑x_1 : Int) - (1 : Int) ∧ (↑x_1 : Int) - (1 : Int) < (↑l.length : Int)) ∧ ∀ (d_1 : I6.den × (I6.pair (I6.pair (I6.pair (I6.pair (I6.pair (I6.pair (I6.pair (I6.pair Sh.unit)))))))).den), ((!d) = true → l[((↑x_1 : Int) - (1 : Int)).toNat]? = some d_1) → ((!d) = true → (0 : Int) ≤ (↑x : Int) ∧ (↑x : Int) < (↑l.length : Int)) ∧ ∀ (d_2 : I6.den × (I6.pair (I6.pair (I6.pair (I6.pair (I6.pair (I6.pair (I6.pair (I6.pair Sh.unit)))))))).den), ((!d) = true → l[(↑x : Int).toNat]? = some d_2) → ((!d) = true → bE d_1 ∧ bE d_2) ∧ br (!d && depM d_1 d_2) (((0 : Int) ≤ (↑x_1 : Int) - (1 : Int) ∧ (↑x_1 : Int) - (1 : Int) < (↑(erM l (↑x : Int).toNat x_1).length : Int)) ∧ ((↑x_1 : Int) - (1 : Int)).toNat < (erM l (↑x : Int).toNat x_1).length ∧ ((0 : Int) ≤ (↑x_1 : Int) - (1 : Int) ∧ (↑x_1 : Int) - (1 : Int) < (↑((erM l (↑x : Int).toNat x_1).set ((↑x_1 : Int) - (1 : Int)).toNat true).length : Int)) ∧ ((↑x_1 : Int) - (1 : Int)).toNat < ((erM l (↑x : Int).toNat x_1).set ((↑x_1 : Int) - (1 : Int)).toNat true).length ∧ ∀ (d_3 : Bool), ((erM l (↑x : Int).toNat x_1).set ((↑x_1 : Int) - (1 : Int)).toNat true)[((↑x_1 : Int) - (1 : Int)).toNat]? = some d_3 → br d_3 ((∃ x_2, x_2 ≤ ((↑x_1 : Int) - (1 : Int)).toNat ∧ (SV.c (v6 ((0 : Int))) = SV.c (v6 ((↑x_2 : Int))) ∧ True) ∧ [(([] : Go.Eng.Gd), Res.row (63 : TypeId) Sh.bool.sl (tabP l x)), (([] : Go.Eng.Gd), Res.row (4 : TypeId) Sh.bool ((erM l (↑x : Int).toNat x_1).set ((↑x_1 : Int) - (1 : Int)).toNat true))] = [(([] : Go.Eng.Gd), Res.row (63 : TypeId) Sh.bool.sl (tabP l x)), (([] : Go.Eng.Gd), Res.row (4 : TypeId) Sh.bool (erK l (↑x : Int).toNat ((↑x_1 : Int) - (1 : Int)).toNat x_2))]) ∧ ∀ (x_2 : Nat), x_2 ≤ ((↑x_1 : Int) - (1 : Int)).toNat → br (decide ((↑x_2 : Int) < (↑x_1 : Int) - (1 : Int))) (((0 : Int) ≤ (↑x_2 : Int) ∧ (↑x_2 : Int) < (↑(erK l (↑x : Int).toNat ((↑x_1 : Int) - (1 : Int)).toNat x_2).length : Int)) ∧ (↑x_2 : Int).toNat < (erK l (↑x : Int).toNat ((↑x_1 : Int) - (1 : Int)).toNat x_2).length ∧ ∀ (d_4 : Bool), (erK l (↑x : Int).toNat ((↑x_1 : Int) - (1 : Int)).toNat x_2)[(↑x_2 : Int).toNat]? = some d_4 → ((!d_4) = true → (0 : Int) ≤ (↑x_1 : Int) - (1 : Int) ∧ (↑x_1 : Int) - (1 : Int) < (↑(tabP l x).length : Int)) ∧ ((!d_4) = true → ((↑x_1 : Int) - (1 : Int)).toNat < (tabP l x).length) ∧ ∀ (d_5 : List Sh.bool.den), ((!d_4) = true → (tabP l x)[((↑x_1 : Int) - (1 : Int)).toNat]? = some d_5) → ((!d_4) = true → (0 : Int) ≤ (↑x_2 : Int) ∧ (↑x_2 : Int) < (↑d_5.length : Int)) ∧ ∀ (d_6 : Bool), ((!d_4) = true → d_5[(↑x_2 : Int).toNat]? = some d_6) → ((0 : Int) ≤ (↑x_2 : Int) ∧ (↑x_2 : Int) < (↑(erK l (↑x : Int).toNat ((↑x_1 : Int) - (1 : Int)).toNat x_2).length : Int)) ∧ (↑x_2 : Int).toNat < (erK l (↑x : Int).toNat ((↑x_1 : Int) - (1 : Int)).toNat x_2).length ∧ InR IntKind.i64 ((↑x_2 : Int) + (1 : Int)) ∧ ∃ x', x' ≤ ((↑x_1 : Int) - (1 : Int)).toNat ∧ (SV.c (v6 (((↑x_2 : Int) + (1 : Int)))) = SV.c (v6 ((↑x' : Int))) ∧ True) ∧ [(([] : Go.Eng.Gd), Res.row (63 : TypeId) Sh.bool.sl (tabP l x)), (([] : Go.Eng.Gd), Res.row (4 : TypeId) Sh.bool ((erK l (↑x : Int).toNat ((↑x_1 : Int) - (1 : Int)).toNat x_2).set (↑x_2 : Int).toNat (d_4 || d_6)))] = [(([] : Go.Eng.Gd), Res.row (63 : TypeId) Sh.bool.sl (tabP l x)), (([] : Go.Eng.Gd), Res.row (4 : TypeId) Sh.bool (erK l (↑x : Int).toNat ((↑x_1 : Int) - (1 : Int)).toNat x'))] ∧ ((↑x_1 : Int) - (1 : Int)).toNat - x' < ((↑x_1 : Int) - (1 : Int)).toNat - x_2) (InR IntKind.i64 ((↑x_1 : Int) - (1 : Int) - (1 : Int)) ∧ ∃ x', x' ≤ (↑x : Int).toNat ∧ (SV.c (v6 (((↑x_1 : Int) - (1 : Int) - (1 : Int)))) = SV.c (v6 (((↑x' : Int) - (1 : Int)))) ∧ True) ∧ [(([] : Go.Eng.Gd), Res.row (63 : TypeId) Sh.bool.sl (tabP l x)), (([] : Go.Eng.Gd), Res.row (4 : TypeId) Sh.bool (erK l (↑x : Int).toNat ((↑x_1 : Int) - (1 : Int)).toNat x_2))] = [(([] : Go.Eng.Gd), Res.row (63 : TypeId) Sh.bool.sl (tabP l x)), (([] : Go.Eng.Gd), Res.row (4 : TypeId) Sh.bool (erM l (↑x : Int).toNat x'))] ∧ x' < x_1)) (InR IntKind.i64 ((↑x_1 : Int) - (1 : Int) - (1 : Int)) ∧ ∃ x', x' ≤ (↑x : Int).toNat ∧ (SV.c (v6 (((↑x_1 : Int) - (1 : Int) - (1 : Int)))) = SV.c (v6 (((↑x' : Int) - (1 : Int)))) ∧ True) ∧ [(([] : Go.Eng.Gd), Res.row (63 : TypeId) Sh.bool.sl (tabP l x)), (([] : Go.Eng.Gd), Res.row (4 : TypeId) Sh.bool ((erM l (↑x : Int).toNat x_1).set ((↑x_1 : Int) - (1 : Int)).toNat true))] = [(([] : Go.Eng.Gd), Res.row (63 : TypeId) Sh.bool.sl (tabP l x)), (([] : Go.Eng.Gd), Res.row (4 : TypeId) Sh.bool (erM l (↑x : Int).toNat x'))] ∧ x' < x_1)) (((0 : Int) ≤ (↑x_1 : Int) - (1 : Int) ∧ (↑x_1 : Int) - (1 : Int) < (↑(erM l (↑x : Int).toNat x_1).length : Int)) ∧ ((↑x_1 : Int) - (1 : Int)).toNat < (erM l (↑x : Int).toNat x_1).length ∧ ∀ (d_3 : Bool), (erM l (↑x : Int).toNat x_1)[((↑x_1 : Int) - (1 : Int)).toNat]? = some d_3 → br d_3 ((∃ x_2, x_2 ≤ ((↑x_1 : Int) - (1 : Int)).toNat ∧ (SV.c (v6 ((0 : Int))) = SV.c (v6 ((↑x_2 : Int))) ∧ True) ∧ [(([] : Go.Eng.Gd), Res.row (63 : TypeId) Sh.bool.sl (tabP l x)), (([] : Go.Eng.Gd), Res.row (4 : TypeId) Sh.bool (erM l (↑x : Int).toNat x_1))] = [(([] : Go.Eng.Gd), Res.row (63 : TypeId) Sh.bool.sl (tabP l x)), (([] : Go.Eng.Gd), Res.row (4 : TypeId) Sh.bool (erK l (↑x : Int).toNat ((↑x_1 : Int) - (1 : Int)).toNat x_2))]) ∧ ∀ (x_2 : Nat), x_2 ≤ ((↑x_1 : Int) - (1 : Int)).toNat → br (decide ((↑x_2 : Int) < (↑x_1 : Int) - (1 : Int))) (((0 : Int) ≤ (↑x_2 : Int) ∧ (↑x_2 : Int) < (↑(erK l (↑x : Int).toNat ((↑x_1 : Int) - (1 : Int)).toNat x_2).length : Int)) ∧ (↑x_2 : Int).toNat < (erK l (↑x : Int).toNat ((↑x_1 : Int) - (1 : Int)).toNat x_2).length ∧ ∀ (d_4 : Bool), (erK l (↑x : Int).toNat ((↑x_1 : Int) - (1 : Int)).toNat x_2)[(↑x_2 : Int).toNat]? = some d_4 → ((!d_4) = true → (0 : Int) ≤ (↑x_1 : Int) - (1 : Int) ∧ (↑x_1 : Int) - (1 : Int) < (↑(tabP l x).length : Int)) ∧ ((!d_4) = true → ((↑x_1 : Int) - (1 : Int)).toNat < (tabP l x).length) ∧ ∀ (d_5 : List Sh.bool.den), ((!d_4) = true → (tabP l x)[((↑x_1 : Int) - (1 : Int)).toNat]? = some d_5) → ((!d_4) = true → (0 : Int) ≤ (↑x_2 : Int) ∧ (↑x_2 : Int) < (↑d_5.length : Int)) ∧ ∀ (d_6 : Bool), ((!d_4) = true → d_5[(↑x_2 : Int).toNat]? = some d_6) → ((0 : Int) ≤ (↑x_2 : Int) ∧ (↑x_2 : Int) < (↑(erK l (↑x : Int).toNat ((↑x_1 : Int) - (1 : Int)).toNat x_2).length : Int)) ∧ (↑x_2 : Int).toNat < (erK l (↑x : Int).toNat ((↑x_1 : Int) - (1 : Int)).toNat x_2).length ∧ InR IntKind.i64 ((↑x_2 : Int) + (1 : Int)) ∧ ∃ x', x' ≤ ((↑x_1 : Int) - (1 : Int)).toNat ∧ (SV.c (v6 (((↑x_2 : Int) + (1 : Int)))) = SV.c (v6 ((↑x' : Int))) ∧ True) ∧ [(([] : Go.Eng.Gd), Res.row (63 : TypeId) Sh.bool.sl (tabP l x)), (([] : Go.Eng.Gd), Res.row (4 : TypeId) Sh.bool ((erK l (↑x : Int).toNat ((↑x_1 : Int) - (1 : Int)).toNat x_2).set (↑x_2 : Int).toNat (d_4 || d_6)))] = [(([] : Go.Eng.Gd), Res.row (63 : TypeId) Sh.bool.sl (tabP l x)), (([] : Go.Eng.Gd), Res.row (4 : TypeId) Sh.bool (erK l (↑x : Int).toNat ((↑x_1 : Int) - (1 : Int)).toNat x'))] ∧ ((↑x_1 : Int) - (1 : Int)).toNat - x' < ((↑x_1 : Int) - (1 : Int)).toNat - x_2) (InR IntKind.i64 ((↑x_1 : Int) - (1 : Int) - (1 : Int)) ∧ ∃ x', x' ≤ (↑x : Int).toNat ∧ (SV.c (v6 (((↑x_1 : Int) - (1 : Int) - (1 : Int)))) = SV.c (v6 (((↑x' : Int) - (1 : Int)))) ∧ True) ∧ [(([] : Go.Eng.Gd), Res.row (63 : TypeId) Sh.bool.sl (tabP l x)), (([] : Go.Eng.Gd), Res.row (4 : TypeId) Sh.bool (erK l (↑x : Int).toNat ((↑x_1 : Int) - (1 : Int)).toNat x_2))] = [(([] : Go.Eng.Gd), Res.row (63 : TypeId) Sh.bool.sl (tabP l x)), (([] : Go.Eng.Gd), Res.row (4 : TypeId) Sh.bool (erM l (↑x : Int).toNat x'))] ∧ x' < x_1)) (InR IntKind.i64 ((↑x_1 : Int) - (1 : Int) - (1 : Int)) ∧ ∃ x', x' ≤ (↑x : Int).toNat ∧ (SV.c (v6 (((↑x_1 : Int) - (1 : Int) - (1 : Int)))) = SV.c (v6 (((↑x' : Int) - (1 : Int)))) ∧ True) ∧ [(([] : Go.Eng.Gd), Res.row (63 : TypeId) Sh.bool.sl (tabP l x)), (([] : Go.Eng.Gd), Res.row (4 : TypeId) Sh.bool (erM l (↑x : Int).toNat x_1))] = [(([] : Go.Eng.Gd), Res.row (63 : TypeId) Sh.bool.sl (tabP l x)), (([] : Go.Eng.Gd), Res.row (4 : TypeId) Sh.bool (erM l (↑x : Int).toNat x'))] ∧ x' < x_1))) (InA (List.length (tabP l x) + List.length ([erM l (↑x : Int).toNat x_1])) (24 : Nat) ∧ InR IntKind.i64 ((↑x : Int) + (1 : Int)) ∧ ∃ x', x' ≤ l.length ∧ (SV.c (v6 (((↑x : Int) + (1 : Int)))) = SV.c (v6 ((↑x' : Int))) ∧ SV.c (SC.row (0 : Nat)) = SV.c (SC.row (0 : Nat)) ∧ True) ∧ [(([] : Go.Eng.Gd), Res.row (63 : TypeId) Sh.bool.sl (tabP l x ++ [erM l (↑x : Int).toNat x_1]))] = [(([] : Go.Eng.Gd), Res.row (63 : TypeId) Sh.bool.sl (tabP l x'))] ∧ l.length - x' < l.length - x)) (([] : List Go.Eng.Res) = [] ∧ Ent.one (SV.c (SC.sl Sh.bool.sl (tabM l))) = Ent.one (SV.c (SC.sl Sh.bool.sl (tabP l x)))) := by
  obtain ⟨hl, hb⟩ : l.length ≤ 512 ∧ ∀ e ∈ l, bE e := hpre
  refine ⟨⟨0, by omega, ⟨rfl, rfl, trivial⟩, rfl⟩, fun x hx => br_iff.2 ⟨fun g => ?_, fun g => ?_⟩⟩
  · simp only [decide_eq_true_eq] at g
    have hxl : x < l.length := by omega
    simp only [show (x : Int).toNat = x from rfl]
    refine ⟨⟨by omega, by omega, InA_iff.2 (by omega)⟩, InR_i64.2 (by omega), ⟨x, Nat.le_refl x, ⟨by trivial, trivial⟩, by rw [erM_top]⟩, fun u hu => br_iff.2 ⟨fun g2 => ?_, fun g2 => ?_⟩⟩
    · simp only [decide_eq_true_eq] at g2
      obtain ⟨i, rfl⟩ : ∃ i, u = i + 1 := ⟨u - 1, by omega⟩
      have hix : i < x := by omega
      have ei : ((i + 1 : Nat) : Int) - 1 = (i : Int) := by omega
      simp only [ei, show (i : Int).toNat = i from rfl, erM_len]
      refine ⟨⟨by omega, by omega⟩, hix, fun d hd => ⟨fun _ => ⟨by omega, by omega⟩, fun d1 h1 => ⟨fun _ => ⟨by omega, by omega⟩, fun d2 h2 => ⟨fun q => ⟨hb _ (List.mem_of_getElem? (h1 q)), hb _ (List.mem_of_getElem? (h2 q))⟩, ?_⟩⟩⟩⟩
      have ed : d = eB l x (i + 1) i := Option.some.inj (hd.symm.trans (erM_get hix))
      refine br_iff.2 ⟨fun g3 => ?_, fun g3 => ?_⟩
      · simp only [Bool.and_eq_true, Bool.not_eq_true'] at g3
        have hbf : bfL l i x = true := by
          rw [← eB_next hix, Bool.or_eq_true]
          right
          have a1 : l[i]? = some d1 := h1 (by rw [g3.1]; rfl)
          have a2 : l[x]? = some d2 := h2 (by rw [g3.1]; rfl)
          simp only [dAt, a1, a2]
          exact g3.2
        refine ⟨⟨by omega, by omega⟩, hix, ⟨by omega, by rw [List.length_set, erM_len]; omega⟩, by rw [List.length_set, erM_len]; exact hix, fun d3 hd3 => ?_⟩
        have e3 : d3 = true := Option.some.inj (hd3.symm.trans (List.getElem?_set_self (by rw [erM_len]; exact hix)))
        subst e3
        refine br_iff.2 ⟨fun _ => ?_, fun q => by cases q⟩
        rw [erK_start hix]
        refine ⟨⟨0, Nat.zero_le _, ⟨by trivial, trivial⟩, by trivial⟩, fun k hk => br_iff.2 ⟨fun g4 => ?_, fun g4 => ?_⟩⟩
        · simp only [decide_eq_true_eq] at g4
          have hki : k < i := by omega
          simp only [erK_len, tabP_len, show (k : Int).toNat = k from rfl]
          refine ⟨⟨by omega, by omega⟩, by omega, fun d4 hd4 => ⟨fun _ => ⟨by omega, by omega⟩, fun _ => hix, fun d5 h5 => ⟨fun q => ?_, fun d6 h6 => ⟨⟨by omega, by omega⟩, by omega, InR_i64.2 (by omega), k + 1, by omega, ⟨by trivial, trivial⟩, ?_, by omega⟩⟩⟩⟩
          · obtain ⟨rfl, _⟩ := tabP_get (h5 q)
            rw [rowB_len]; omega
          · have e4 : d4 = eB l x (i + 1) k := by
              have := Option.some.inj (hd4.symm.trans (erK_get (l := l) (i := i) (k := k) (show k < x by omega)))
              rw [this, if_neg (by omega), decide_eq_false (by omega), Bool.false_or]
            have e6 : (d4 || d6) = (eB l x (i + 1) k || bfL l k i) := by
              rw [← e4]
              cases d4 with
              | true => rfl
              | false =>
                obtain ⟨rfl, _⟩ := tabP_get (h5 rfl)
                obtain ⟨rfl, _⟩ := rowB_get (h6 rfl)
                rfl
            rw [e6, erK_set hix hbf hki]
        · simp only [decide_eq_false_iff_not] at g4
          have hki : k = i := by omega
          exact ⟨InR_i64.2 (by omega), i, by omega, ⟨by trivial, trivial⟩, by rw [erK_end hix hbf hki], by omega⟩
      · refine ⟨⟨by omega, by omega⟩, hix, fun d3 hd3 => ?_⟩
        have e3 : d3 = eB l x (i + 1) i := Option.some.inj (hd3.symm.trans (erM_get hix))
        refine br_iff.2 ⟨fun q => ?_, fun q => ?_⟩
        · have ht : eB l x (i + 1) i = true := e3.symm.trans q
          have hbf : bfL l i x = true := by rw [← eB_next hix, ht]; rfl
          rw [erK_start' hix ht]
          refine ⟨⟨0, Nat.zero_le _, ⟨by trivial, trivial⟩, by trivial⟩, fun k hk => br_iff.2 ⟨fun g4 => ?_, fun g4 => ?_⟩⟩
          · simp only [decide_eq_true_eq] at g4
            have hki : k < i := by omega
            simp only [erK_len, tabP_len, show (k : Int).toNat = k from rfl]
            refine ⟨⟨by omega, by omega⟩, by omega, fun d4 hd4 => ⟨fun _ => ⟨by omega, by omega⟩, fun _ => hix, fun d5 h5 => ⟨fun q => ?_, fun d6 h6 => ⟨⟨by omega, by omega⟩, by omega, InR_i64.2 (by omega), k + 1, by omega, ⟨by trivial, trivial⟩, ?_, by omega⟩⟩⟩⟩
            · obtain ⟨rfl, _⟩ := tabP_get (h5 q)
              rw [rowB_len]; omega
            · have e4 : d4 = eB l x (i + 1) k := by
                have := Option.some.inj (hd4.symm.trans (erK_get (l := l) (i := i) (k := k) (show k < x by omega)))
                rw [this, if_neg (by omega), decide_eq_false (by omega), Bool.false_or]
              have e6 : (d4 || d6) = (eB l x (i + 1) k || bfL l k i) := by
                rw [← e4]
                cases d4 with
                | true => rfl
                | false =>
                  obtain ⟨rfl, _⟩ := tabP_get (h5 rfl)
                  obtain ⟨rfl, _⟩ := rowB_get (h6 rfl)
                  rfl
              rw [e6, erK_set hix hbf hki]
          · simp only [decide_eq_false_iff_not] at g4
            have hki : k = i := by omega
            exact ⟨InR_i64.2 (by omega), i, by omega, ⟨by trivial, trivial⟩, by rw [erK_end hix hbf hki], by omega⟩
        · have hbf : bfL l i x = false := by
            rw [← eB_next hix, Bool.or_eq_false_iff]
            have hf : eB l x (i + 1) i = false := e3.symm.trans q
            refine ⟨hf, ?_⟩
            have hdf : d = false := ed.trans hf
            subst hdf
            have a1 : l[i]? = some d1 := h1 rfl
            have a2 : l[x]? = some d2 := h2 rfl
            simp only [dAt, a1, a2]
            exact g3
          exact ⟨InR_i64.2 (by omega), i, by omega, ⟨by trivial, trivial⟩, by rw [erM_skip hix hbf], by omega⟩
    · simp only [decide_eq_false_iff_not] at g2
      have hu0 : u = 0 := by omega
      subst hu0
      have e : tabP l x ++ [erM l x 0] = tabP l (x + 1) := by rw [tabP_succ, erM_zero]
      exact ⟨inA24 (by show (tabP l x).length + 1 ≤ 100000; rw [tabP_len]; omega), InR_i64.2 (by omega), x + 1, by omega, ⟨by trivial, by trivial, trivial⟩, congrArg (fun z : List (List Bool) => [(([] : Go.Eng.Gd), Res.row 63 (.sl .bool) z)]) e, by omega⟩
  · simp only [decide_eq_false_iff_not] at g
    have ex : x = l.length := by omega
    subst ex
    exact ⟨rfl, rfl⟩
set_option maxHeartbeats 2000000 in
set_option maxRecDepth 100000 in
theorem f35_met : Go.Eng.Met Tryd.prog cx0.gd 35 ctTab :=
  (met_all (cx := cx0) (n := 71) (cl := cl35) (il := il35) (hl := hl35) (ml := ml35) (rc := [.data (.sl (.sl .bool))]) (lits := []) (suf := []) (by kernel_rfl) tis_ok ⟨f60_met, trivial⟩ trivial trivial trivial Tryd.func35 (by kernel_rfl) (by kernel_rfl) rfl (by kernel_rfl) (by kernel_rfl) (by simp) fun d hd => by
    obtain ⟨l, ⟨⟩⟩ := d
    exact ex_of (ann35 l) (f35_vc l hd) (by kernel_rfl)).met
end Go.Proofs.YtigfbjjphegleaaDoor
set_option linter.unusedSimpArgs false
set_option linter.unusedVariables false
set_option maxRecDepth 100000
namespace Go.Proofs.YtigfbjjphegleaaDoor
open Go Go.Eng

theorem Bf.congr {D D' : Nat → Nat → Bool} {i j : Nat} (b : Bf D i j) : (∀ a c, c ≤ j → a < c → D a c = D' a c) → Bf D' i j := by
  induction b with
  | one h d => exact fun e => .one h ((e _ _ (Nat.le_refl _) h).symm.trans d)
  | more b h d ih => exact fun e => .more (ih fun a c hc hac => e a c (by omega) hac) h ((e _ _ (Nat.le_refl _) h).symm.trans d)
theorem dAt_take {l : List ED} {n i j : Nat} (hi : i < n) (hj : j < n) : dAt (l.take n) i j = dAt l i j := by
  unfold dAt
  rw [List.getElem?_take_of_lt hi, List.getElem?_take_of_lt hj]
theorem bfL_take {l : List ED} {n i j : Nat} (hj : j < n) : bfL (l.take n) i j = bfL l i j := bool_ext (by
  rw [bfL_iff, bfL_iff]
  exact ⟨fun b => b.congr fun a c hc hac => dAt_take (by omega) (by omega), fun b => b.congr fun a c hc hac => (dAt_take (by omega) (by omega)).symm⟩)
theorem tab_take {l : List ED} {n : Nat} {d : List Bool} (hd : (tabM (l.take (n + 1)))[n]? = some d) : d = rowB l n := by
  rw [(tabP_get hd).1]
  exact map_ext_lt fun x hx => bfL_take (Nat.lt_succ_self n)
theorem tabM_len (l : List ED) : (tabM l).length = l.length := tabP_len _ _

@[reducible] noncomputable def cl11 : List (Nat × CT) := [(35, ctTab)]
@[reducible] noncomputable def ann11 (l : List ED) (i : Int) (j : Int) : Nat → Option (St → Ann) := fun _ => none
@[reducible] def il11 : List (Nat × IP) := []
@[reducible] def hl11 : List (Nat × Nat × CT) := []
@[reducible] noncomputable def ml11 : List (Nat × MK) := []
set_option maxRecDepth 100000 in
theorem f11_vc (l : List ED) (i : Int) (j : Int) (hpre : ctBef.pre (l, i, j, ())) :
    br (decide ((512 : Int) < (↑l.length : Int)) || decide (i < (0 : Int)) || decide (j < (0 : Int)) || decide ((↑l.length : Int) ≤ j) || decide (j ≤ i)) (([] : List Go.Eng.Res) = [] ∧ Ent.one (SV.c (SC.v (Value.bool (befM l i j)))) = Ent.one (SV.c (SC.v (Value.bool false)))) (InR IntKind.i64 (j + (1 : Int)) ∧ ((0 : Int) ≤ (0 : Int) ∧ (0 : Int) ≤ j + (1 : Int) ∧ j + (1 : Int) ≤ (↑l.length : Int)) ∧ ((List.drop (0 : Nat) (List.take (j + (1 : Int)).toNat l)).length ≤ (512 : Nat) ∧ ∀ (e : I6.den × (I6.pair (I6.pair (I6.pair (I6.pair (I6.pair (I6.pair (I6.pair (I6.pair Sh.unit)))))))).den), e ∈ List.drop (0 : Nat) (List.take (j + (1 : Int)).toNat l) → bE e) ∧ ((0 : Int) ≤ j ∧ j < (↑(tabM (List.drop (0 : Nat) (List.take (j + (1 : Int)).toNat l))).length : Int)) ∧ ∀ (d : List Sh.bool.den), (tabM (List.drop (0 : Nat) (List.take (j + (1 : Int)).toNat l)))[j.toNat]? = some d → ((0 : Int) ≤ i ∧ i < (↑d.length : Int)) ∧ ∀ (d_1 : Bool), d[i.toNat]? = some d_1 → ([] : List Go.Eng.Res) = [] ∧ Ent.one (SV.c (SC.v (Value.bool (befM l i j)))) = Ent.one (SV.c (SC.v (Value.bool d_1)))) := by
  have hb : ∀ e ∈ l, bE e := hpre
  refine br_iff.2 ⟨fun h => ⟨rfl, ?_⟩, fun h => ?_⟩
  · have e : befM l i j = false := by
      simp only [Bool.or_eq_true, decide_eq_true_eq] at h
      by_cases hx : badI l i ∨ badI l j
      · unfold befM; rw [if_pos hx]
      · unfold badI at hx
        unfold befM badI
        rw [if_neg hx]
        exact bf_up (by omega)
    rw [e]
  · simp only [Bool.or_eq_false_iff, decide_eq_false_iff_not] at h
    obtain ⟨⟨⟨⟨h1, h2⟩, h3⟩, h4⟩, h5⟩ := h
    have ej : (j + 1).toNat = j.toNat + 1 := by omega
    simp only [List.drop_zero, ej, tabM_len, List.length_take]
    refine ⟨InR_i64.2 (by omega), ⟨by omega, by omega, by omega⟩, ⟨by omega, fun e he => hb e (List.mem_of_mem_take he)⟩, ⟨by omega, by omega⟩, fun d hd => ?_⟩
    have ed := tab_take hd
    subst ed
    rw [rowB_len]
    refine ⟨⟨by omega, by omega⟩, fun d1 hd1 => ⟨by trivial, ?_⟩⟩
    obtain ⟨rfl, _⟩ := rowB_get hd1
    have e : befM l i j = bfL l i.toNat j.toNat := by
      unfold befM
      rw [if_neg]; unfold badI; omega
    rw [e]
set_option maxHeartbeats 2000000 in
set_option maxRecDepth 100000 in
theorem f11_met : Go.Eng.Met Tryd.prog cx0.gd 11 ctBef :=
  (met_all (cx := cx0) (n := 40) (cl := cl11) (il := il11) (hl := hl11) (ml := ml11) (rc := []) (lits := []) (suf := []) (by kernel_rfl) tis_ok ⟨f35_met, trivial⟩ trivial trivial trivial Tryd.func11 (by kernel_rfl) (by kernel_rfl) rfl (by kernel_rfl) (by kernel_rfl) (by simp) fun d hd => by
    obtain ⟨l, i, j, ⟨⟩⟩ := d
    exact ex_of (ann11 l i j) (f11_vc l i j hd) (by kernel_rfl)).met
@[reducible] noncomputable def cl14 : List (Nat × CT) := [(35, ctTab)]
@[reducible] noncomputable def ann14 (l : List ED) (j : Int) : Nat → Option (St → Ann) := fun n => match n with
  | 6 => some fun _ => .inv { α := Nat, slots := fun k => [(7, .c (.v (.int .i64 k))), (6, .c (.row 0))], res := fun k => [(0, .row 3 (.int .i64) (upL (fun i => bfL l i j.toNat) k))], inv := fun k => k ≤ j.toNat, meas := fun k => j.toNat - k, nil := [(6, 3, .int .i64)] }
  | _ => none
@[reducible] def il14 : List (Nat × IP) := []
@[reducible] def hl14 : List (Nat × Nat × CT) := []
@[reducible] noncomputable def ml14 : List (Nat × MK) := []
set_option maxRecDepth 100000 in
theorem f14_vc (l : List ED) (j : Int) (hpre : ctPas.pre (l, j, ())) :
    br (decide ((512 : Int) < (↑l.length : Int)) || decide (j < (0 : Int)) || decide ((↑l.length : Int) ≤ j)) (([] : List Go.Eng.Res) = [] ∧ Ent.one (SV.c (SC.sl I6 (pasM l j))) = Ent.one (SV.c (SC.sl I6 []))) (InR IntKind.i64 (j + (1 : Int)) ∧ ((0 : Int) ≤ (0 : Int) ∧ (0 : Int) ≤ j + (1 : Int) ∧ j + (1 : Int) ≤ (↑l.length : Int)) ∧ ((List.drop (0 : Nat) (List.take (j + (1 : Int)).toNat l)).length ≤ (512 : Nat) ∧ ∀ (e : I6.den × (I6.pair (I6.pair (I6.pair (I6.pair (I6.pair (I6.pair (I6.pair (I6.pair Sh.unit)))))))).den), e ∈ List.drop (0 : Nat) (List.take (j + (1 : Int)).toNat l) → bE e) ∧ ((0 : Int) ≤ j ∧ j < (↑(tabM (List.drop (0 : Nat) (List.take (j + (1 : Int)).toNat l))).length : Int)) ∧ ∀ (d : List Sh.bool.den), (tabM (List.drop (0 : Nat) (List.take (j + (1 : Int)).toNat l)))[j.toNat]? = some d → (∃ x, x ≤ j.toNat ∧ (SV.c (v6 ((0 : Int))) = SV.c (v6 ((↑x : Int))) ∧ SV.c (SC.row (0 : Nat)) = SV.c (SC.row (0 : Nat)) ∧ True) ∧ [(([] : Go.Eng.Gd), Res.row (3 : TypeId) I6 [])] = [(([] : Go.Eng.Gd), Res.row (3 : TypeId) I6 (upL (fun i => bfL l i j.toNat) x))]) ∧ ∀ (x : Nat), x ≤ j.toNat → br (decide ((↑x : Int) < j)) (((0 : Int) ≤ (↑x : Int) ∧ (↑x : Int) < (↑d.length : Int)) ∧ ∀ (d_1 : Bool), d[(↑x : Int).toNat]? = some d_1 → br d_1 (InA (List.length (upL (fun i => bfL l i j.toNat) x) + List.length ([(↑x : Int)])) (8 : Nat) ∧ InR IntKind.i64 ((↑x : Int) + (1 : Int)) ∧ ∃ x', x' ≤ j.toNat ∧ (SV.c (v6 (((↑x : Int) + (1 : Int)))) = SV.c (v6 ((↑x' : Int))) ∧ SV.c (SC.row (0 : Nat)) = SV.c (SC.row (0 : Nat)) ∧ True) ∧ [(([] : Go.Eng.Gd), Res.row (3 : TypeId) I6 (upL (fun i => bfL l i j.toNat) x ++ [(↑x : Int)]))] = [(([] : Go.Eng.Gd), Res.row (3 : TypeId) I6 (upL (fun i => bfL l i j.toNat) x'))] ∧ j.toNat - x' < j.toNat - x) (InR IntKind.i64 ((↑x : Int) + (1 : Int)) ∧ ∃ x', x' ≤ j.toNat ∧ (SV.c (v6 (((↑x : Int) + (1 : Int)))) = SV.c (v6 ((↑x' : Int))) ∧ SV.c (SC.row (0 : Nat)) = SV.c (SC.row (0 : Nat)) ∧ True) ∧ [(([] : Go.Eng.Gd), Res.row (3 : TypeId) I6 (upL (fun i => bfL l i j.toNat) x))] = [(([] : Go.Eng.Gd), Res.row (3 : TypeId) I6 (upL (fun i => bfL l i j.toNat) x'))] ∧ j.toNat - x' < j.toNat - x)) (InA (List.length (upL (fun i => bfL l i j.toNat) x) + List.length ([j])) (8 : Nat) ∧ ([] : List Go.Eng.Res) = [] ∧ Ent.one (SV.c (SC.sl I6 (pasM l j))) = Ent.one (SV.c (SC.sl I6 ((upL (fun i => bfL l i j.toNat) x ++ [j])))))) := by
  have hb : ∀ e ∈ l, bE e := hpre
  refine br_iff.2 ⟨fun h => ⟨rfl, ?_⟩, fun h => ?_⟩
  · have e : pasM l j = [] := by
      unfold pasM
      rw [if_pos]
      simp only [Bool.or_eq_true, decide_eq_true_eq] at h
      unfold badI; omega
    rw [e]
  simp only [Bool.or_eq_false_iff, decide_eq_false_iff_not] at h
  obtain ⟨⟨h1, h2⟩, h3⟩ := h
  have ul : ∀ x, x ≤ j.toNat → (upL (fun i => bfL l i j.toNat) x).length + 1 ≤ 100000 := fun x hx => by
    have := upL_len (fun i => bfL l i j.toNat) x
    omega
  have ej : (j + 1).toNat = j.toNat + 1 := by omega
  simp only [List.drop_zero, ej, tabM_len, List.length_take]
  refine ⟨InR_i64.2 (by omega), ⟨by omega, by omega, by omega⟩, ⟨by omega, fun e he => hb e (List.mem_of_mem_take he)⟩, ⟨by omega, by omega⟩, fun d hd => ⟨⟨0, by omega, ⟨by trivial, by trivial, trivial⟩, rfl⟩, fun x hx => br_iff.2 ⟨fun g => ?_, fun g => ?_⟩⟩⟩
  · simp only [decide_eq_true_eq] at g
    have ed := tab_take hd
    subst ed
    rw [rowB_len]
    refine ⟨⟨by omega, by omega⟩, fun d1 hd1 => ?_⟩
    obtain ⟨rfl, _⟩ := rowB_get hd1
    rw [show (x : Int).toNat = x from rfl]
    have us := upL_succ (p := fun i => bfL l i j.toNat) (k := x)
    refine br_iff.2 ⟨fun h => ⟨inA8 (ul x hx), InR_i64.2 (by omega), x + 1, by omega, ⟨by trivial, by trivial, trivial⟩, ?_, by omega⟩, fun h => ⟨InR_i64.2 (by omega), x + 1, by omega, ⟨by trivial, by trivial, trivial⟩, ?_, by omega⟩⟩
    · rw [if_pos h] at us
      rw [us]
    · rw [if_neg (by rw [h]; simp), List.append_nil] at us
      rw [us]
  · simp only [decide_eq_false_iff_not] at g
    have ex : x = j.toNat := by omega
    refine ⟨inA8 (ul x hx), by trivial, ?_⟩
    subst ex
    have e : pasM l j = upL (fun i => bfL l i j.toNat) j.toNat ++ [j] := by
      unfold pasM
      rw [if_neg]; unfold badI; omega
    rw [e]
set_option maxHeartbeats 2000000 in
set_option maxRecDepth 100000 in
theorem f14_met : Go.Eng.Met Tryd.prog cx0.gd 14 ctPas :=
  (met_all (cx := cx0) (n := 46) (cl := cl14) (il := il14) (hl := hl14) (ml := ml14) (rc := [.data (.sl (.int .i64))]) (lits := []) (suf := []) (by kernel_rfl) tis_ok ⟨f35_met, trivial⟩ trivial trivial trivial Tryd.func14 (by kernel_rfl) (by kernel_rfl) rfl (by kernel_rfl) (by kernel_rfl) (by simp) fun d hd => by
    obtain ⟨l, j, ⟨⟩⟩ := d
    exact ex_of (ann14 l j) (f14_vc l j hd) (by kernel_rfl)).met
@[reducible] noncomputable def cl16 : List (Nat × CT) := [(35, ctTab)]
@[reducible] noncomputable def ann16 (l : List ED) (j : Int) : Nat → Option (St → Ann) := fun n => match n with
  | 6 => some fun _ => .inv { α := Nat, slots := fun k => [(7, .c (.v (.int .i64 k))), (6, .c (.row 0))], res := fun k => [(0, .row 3 (.int .i64) (upL (fun i => decide (j.toNat < i) && !bfL l j.toNat i) k))], inv := fun k => j.toNat < k ∧ k ≤ l.length, meas := fun k => l.length - k, nil := [(6, 3, .int .i64)] }
  | _ => none
@[reducible] def il16 : List (Nat × IP) := []
@[reducible] def hl16 : List (Nat × Nat × CT) := []
@[reducible] noncomputable def ml16 : List (Nat × MK) := []
set_option maxRecDepth 100000 in
theorem f16_vc (l : List ED) (j : Int) (hpre : ctNot.pre (l, j, ())) :
    br (decide ((512 : Int) < (↑l.length : Int)) || decide (j < (0 : Int)) || decide ((↑l.length : Int) ≤ j)) (([] : List Go.Eng.Res) = [] ∧ Ent.one (SV.c (SC.sl I6 (notM l j))) = Ent.one (SV.c (SC.sl I6 []))) ((l.length ≤ (512 : Nat) ∧ ∀ (e : I6.den × (I6.pair (I6.pair (I6.pair (I6.pair (I6.pair (I6.pair (I6.pair (I6.pair Sh.unit)))))))).den), e ∈ l → bE e) ∧ InR IntKind.i64 (j + (1 : Int)) ∧ (∃ x, (j.toNat < x ∧ x ≤ l.length) ∧ (SV.c (v6 ((j + (1 : Int)))) = SV.c (v6 ((↑x : Int))) ∧ SV.c (SC.row (0 : Nat)) = SV.c (SC.row (0 : Nat)) ∧ True) ∧ [(([] : Go.Eng.Gd), Res.row (3 : TypeId) I6 [])] = [(([] : Go.Eng.Gd), Res.row (3 : TypeId) I6 (upL (fun i => decide (j.toNat < i) && !bfL l j.toNat i) x))]) ∧ ∀ (x : Nat), j.toNat < x ∧ x ≤ l.length → br (decide ((↑x : Int) < (↑l.length : Int))) (((0 : Int) ≤ (↑x : Int) ∧ (↑x : Int) < (↑(tabM l).length : Int)) ∧ ∀ (d : List Sh.bool.den), (tabM l)[(↑x : Int).toNat]? = some d → ((0 : Int) ≤ j ∧ j < (↑d.length : Int)) ∧ ∀ (d_1 : Bool), d[j.toNat]? = some d_1 → br (!d_1) (InA (List.length (upL (fun i => decide (j.toNat < i) && !bfL l j.toNat i) x) + List.length ([(↑x : Int)])) (8 : Nat) ∧ InR IntKind.i64 ((↑x : Int) + (1 : Int)) ∧ ∃ x', (j.toNat < x' ∧ x' ≤ l.length) ∧ (SV.c (v6 (((↑x : Int) + (1 : Int)))) = SV.c (v6 ((↑x' : Int))) ∧ SV.c (SC.row (0 : Nat)) = SV.c (SC.row (0 : Nat)) ∧ True) ∧ [(([] : Go.Eng.Gd), Res.row (3 : TypeId) I6 (upL (fun i => decide (j.toNat < i) && !bfL l j.toNat i) x ++ [(↑x : Int)]))] = [(([] : Go.Eng.Gd), Res.row (3 : TypeId) I6 (upL (fun i => decide (j.toNat < i) && !bfL l j.toNat i) x'))] ∧ l.length - x' < l.length - x) (InR IntKind.i64 ((↑x : Int) + (1 : Int)) ∧ ∃ x', (j.toNat < x' ∧ x' ≤ l.length) ∧ (SV.c (v6 (((↑x : Int) + (1 : Int)))) = SV.c (v6 ((↑x' : Int))) ∧ SV.c (SC.row (0 : Nat)) = SV.c (SC.row (0 : Nat)) ∧ True) ∧ [(([] : Go.Eng.Gd), Res.row (3 : TypeId) I6 (upL (fun i => decide (j.toNat < i) && !bfL l j.toNat i) x))] = [(([] : Go.Eng.Gd), Res.row (3 : TypeId) I6 (upL (fun i => decide (j.toNat < i) && !bfL l j.toNat i) x'))] ∧ l.length - x' < l.length - x)) (([] : List Go.Eng.Res) = [] ∧ Ent.one (SV.c (SC.sl I6 (notM l j))) = Ent.one (SV.c (SC.sl I6 (upL (fun i => decide (j.toNat < i) && !bfL l j.toNat i) x))))) := by
  have hb : ∀ e ∈ l, bE e := hpre
  refine br_iff.2 ⟨fun h => ⟨rfl, ?_⟩, fun h => ?_⟩
  · have e : notM l j = [] := by
      unfold notM
      rw [if_pos]
      simp only [Bool.or_eq_true, decide_eq_true_eq] at h
      unfold badI; omega
    rw [e]
  simp only [Bool.or_eq_false_iff, decide_eq_false_iff_not] at h
  obtain ⟨⟨h1, h2⟩, h3⟩ := h
  have ul : ∀ x, x ≤ l.length → (upL (fun i => decide (j.toNat < i) && !bfL l j.toNat i) x).length + 1 ≤ 100000 := fun x hx => by
    have := upL_len (fun i => decide (j.toNat < i) && !bfL l j.toNat i) x
    omega
  refine ⟨⟨by omega, hb⟩, InR_i64.2 (by omega), ⟨j.toNat + 1, by omega, ⟨by rw [show ((j.toNat + 1 : Nat) : Int) = j + 1 by omega], rfl, trivial⟩, ?_⟩, fun x hx => br_iff.2 ⟨fun g => ?_, fun g => ?_⟩⟩
  · rw [show upL (fun i => decide (j.toNat < i) && !bfL l j.toNat i) (j.toNat + 1) = [] by
      unfold upL
      rw [List.filter_eq_nil_iff.2, List.map_nil]
      intro b hb
      rw [List.mem_range] at hb
      simp; omega]
  · simp only [decide_eq_true_eq] at g
    refine ⟨⟨by omega, by rw [tabM_len]; omega⟩, fun d hd => ?_⟩
    obtain ⟨rfl, hj⟩ := tabP_get hd
    rw [rowB_len]
    refine ⟨⟨by omega, by omega⟩, fun d1 hd1 => ?_⟩
    obtain ⟨rfl, _⟩ := rowB_get hd1
    rw [show (x : Int).toNat = x from rfl]
    have us := upL_succ (p := fun i => decide (j.toNat < i) && !bfL l j.toNat i) (k := x)
    simp only [show j.toNat < x from hx.1, decide_true, Bool.true_and] at us
    refine br_iff.2 ⟨fun h => ⟨inA8 (ul x hx.2), InR_i64.2 (by omega), x + 1, by omega, ⟨rfl, rfl, trivial⟩, ?_, by omega⟩, fun h => ⟨InR_i64.2 (by omega), x + 1, by omega, ⟨rfl, rfl, trivial⟩, ?_, by omega⟩⟩
    · rw [if_pos h] at us
      rw [us]
    · rw [if_neg (by rw [h]; simp), List.append_nil] at us
      rw [us]
  · simp only [decide_eq_false_iff_not] at g
    have ex : x = l.length := by omega
    refine ⟨rfl, ?_⟩
    subst ex
    have e : notM l j = upL (fun i => decide (j.toNat < i) && !bfL l j.toNat i) l.length := by
      unfold notM
      rw [if_neg]; unfold badI; omega
    rw [e]
set_option maxHeartbeats 2000000 in
set_option maxRecDepth 100000 in
theorem f16_met : Go.Eng.Met Tryd.prog cx0.gd 16 ctNot :=
  (met_all (cx := cx0) (n := 44) (cl := cl16) (il := il16) (hl := hl16) (ml := ml16) (rc := [.data (.sl (.int .i64))]) (lits := []) (suf := []) (by kernel_rfl) tis_ok ⟨f35_met, trivial⟩ trivial trivial trivial Tryd.func16 (by kernel_rfl) (by kernel_rfl) rfl (by kernel_rfl) (by kernel_rfl) (by simp) fun d hd => by
    obtain ⟨l, j, ⟨⟩⟩ := d
    exact ex_of (ann16 l j) (f16_vc l j hd) (by kernel_rfl)).met
@[reducible] noncomputable def cl23 : List (Nat × CT) := [(35, ctTab)]
@[reducible] noncomputable def ann23 (l : List ED) : Nat → Option (St → Ann) := fun n => match n with
  | 6 => some fun _ => .inv { α := Nat, slots := fun k => [(6, .c (.v (.int .i64 k)))], res := fun k => [(2, .row 55 shP (pairs (bfL l) l.length k))], inv := fun k => k ≤ l.length, meas := fun k => l.length - k, nilC := [(1, 1, 55, shP)] }
  | 9 => some fun s => .inv { α := Nat, slots := fun k => [(7, .c (.v (.int .i64 k)))], res := fun k => [(2, .row 55 shP (pairs (bfL l) l.length (slotI s 6).toNat ++ pairI (bfL l) (slotI s 6).toNat k))], inv := fun k => (slotI s 6).toNat < k ∧ k ≤ l.length, meas := fun k => l.length - k }
  | _ => none
@[reducible] def il23 : List (Nat × IP) := []
@[reducible] def hl23 : List (Nat × Nat × CT) := []
@[reducible] noncomputable def ml23 : List (Nat × MK) := []
set_option maxRecDepth 100000 in
theorem f23_vc (l : List ED) (hpre : ctOdr.pre (l, ())) :
    br (decide ((64 : Int) < (↑l.length : Int))) (([] : List Go.Eng.Res) = [] ∧ Ent.tup [SV.agg [v6 ((ordM l).fst), SC.sl shP (ordM l).snd.fst], SV.c (v6 ((tooM l)))] = Ent.tup [SV.agg [v6 ((0 : Int)), SC.sl shP []], SV.c (v6 ((4 : Int)))]) ((l.length ≤ (512 : Nat) ∧ ∀ (e : I6.den × (I6.pair (I6.pair (I6.pair (I6.pair (I6.pair (I6.pair (I6.pair (I6.pair Sh.unit)))))))).den), e ∈ l → bE e) ∧ (∃ x, x ≤ l.length ∧ (SV.c (v6 ((0 : Int))) = SV.c (v6 ((↑x : Int))) ∧ True) ∧ [(([] : Go.Eng.Gd), Res.blk (43 : Nat) [v6 ((0 : Int)), SC.v (Value.slice none (0 : Nat) (0 : Nat))]), (([] : Go.Eng.Gd), Res.blk (43 : Nat) [v6 ((↑l.length : Int)), SC.row (Nat.succ (0 : Nat)).succ]), (([] : Go.Eng.Gd), Res.row (55 : TypeId) shP [])] = [(([] : Go.Eng.Gd), Res.blk (43 : Nat) [v6 ((0 : Int)), SC.v (Value.slice none (0 : Nat) (0 : Nat))]), (([] : Go.Eng.Gd), Res.blk (43 : Nat) [v6 ((↑l.length : Int)), SC.row (Nat.succ (0 : Nat)).succ]), (([] : Go.Eng.Gd), Res.row (55 : TypeId) shP (pairs (bfL l) l.length x))]) ∧ ∀ (x : Nat), x ≤ l.length → br (decide ((↑x : Int) < (↑l.length : Int))) (InR IntKind.i64 ((↑x : Int) + (1 : Int)) ∧ (∃ x_1, ((↑x : Int).toNat < x_1 ∧ x_1 ≤ l.length) ∧ (SV.c (v6 (((↑x : Int) + (1 : Int)))) = SV.c (v6 ((↑x_1 : Int))) ∧ True) ∧ [(([] : Go.Eng.Gd), Res.blk (43 : Nat) [v6 ((0 : Int)), SC.v (Value.slice none (0 : Nat) (0 : Nat))]), (([] : Go.Eng.Gd), Res.blk (43 : Nat) [v6 ((↑l.length : Int)), SC.row (Nat.succ (0 : Nat)).succ]), (([] : Go.Eng.Gd), Res.row (55 : TypeId) shP (pairs (bfL l) l.length x))] = [(([] : Go.Eng.Gd), Res.blk (43 : Nat) [v6 ((0 : Int)), SC.v (Value.slice none (0 : Nat) (0 : Nat))]), (([] : Go.Eng.Gd), Res.blk (43 : Nat) [v6 ((↑l.length : Int)), SC.row (Nat.succ (0 : Nat)).succ]), (([] : Go.Eng.Gd), Res.row (55 : TypeId) shP (pairs (bfL l) l.length (↑x : Int).toNat ++ pairI (bfL l) (↑x : Int).toNat x_1))]) ∧ ∀ (x_1 : Nat), (↑x : Int).toNat < x_1 ∧ x_1 ≤ l.length → br (decide ((↑x_1 : Int) < (↑l.length : Int))) (((0 : Int) ≤ (↑x_1 : Int) ∧ (↑x_1 : Int) < (↑(tabM l).length : Int)) ∧ ∀ (d : List Sh.bool.den), (tabM l)[(↑x_1 : Int).toNat]? = some d → ((0 : Int) ≤ (↑x : Int) ∧ (↑x : Int) < (↑d.length : Int)) ∧ ∀ (d_1 : Bool), d[(↑x : Int).toNat]? = some d_1 → br d_1 (InA (List.length ((pairs (bfL l) l.length (↑x : Int).toNat ++ pairI (bfL l) (↑x : Int).toNat x_1)) + List.length ([[(↑x : Int), (↑x_1 : Int)]])) (16 : Nat) ∧ InR IntKind.i64 ((↑x_1 : Int) + (1 : Int)) ∧ ∃ x', ((↑x : Int).toNat < x' ∧ x' ≤ l.length) ∧ (SV.c (v6 (((↑x_1 : Int) + (1 : Int)))) = SV.c (v6 ((↑x' : Int))) ∧ True) ∧ [(([] : Go.Eng.Gd), Res.blk (43 : Nat) [v6 ((0 : Int)), SC.v (Value.slice none (0 : Nat) (0 : Nat))]), (([] : Go.Eng.Gd), Res.blk (43 : Nat) [v6 ((↑l.length : Int)), SC.row (Nat.succ (0 : Nat)).succ]), (([] : Go.Eng.Gd), Res.row (55 : TypeId) shP ((pairs (bfL l) l.length (↑x : Int).toNat ++ pairI (bfL l) (↑x : Int).toNat x_1) ++ [[(↑x : Int), (↑x_1 : Int)]]))] = [(([] : Go.Eng.Gd), Res.blk (43 : Nat) [v6 ((0 : Int)), SC.v (Value.slice none (0 : Nat) (0 : Nat))]), (([] : Go.Eng.Gd), Res.blk (43 : Nat) [v6 ((↑l.length : Int)), SC.row (Nat.succ (0 : Nat)).succ]), (([] : Go.Eng.Gd), Res.row (55 : TypeId) shP (pairs (bfL l) l.length (↑x : Int).toNat ++ pairI (bfL l) (↑x : Int).toNat x'))] ∧ l.length - x' < l.length - x_1) (InR IntKind.i64 ((↑x_1 : Int) + (1 : Int)) ∧ ∃ x', ((↑x : Int).toNat < x' ∧ x' ≤ l.length) ∧ (SV.c (v6 (((↑x_1 : Int) + (1 : Int)))) = SV.c (v6 ((↑x' : Int))) ∧ True) ∧ [(([] : Go.Eng.Gd), Res.blk (43 : Nat) [v6 ((0 : Int)), SC.v (Value.slice none (0 : Nat) (0 : Nat))]), (([] : Go.Eng.Gd), Res.blk (43 : Nat) [v6 ((↑l.length : Int)), SC.row (Nat.succ (0 : Nat)).succ]), (([] : Go.Eng.Gd), Res.row (55 : TypeId) shP (pairs (bfL l) l.length (↑x : Int).toNat ++ pairI (bfL l) (↑x : Int).toNat x_1))] = [(([] : Go.Eng.Gd), Res.blk (43 : Nat) [v6 ((0 : Int)), SC.v (Value.slice none (0 : Nat) (0 : Nat))]), (([] : Go.Eng.Gd), Res.blk (43 : Nat) [v6 ((↑l.length : Int)), SC.row (Nat.succ (0 : Nat)).succ]), (([] : Go.Eng.Gd), Res.row (55 : TypeId) shP (pairs (bfL l) l.length (↑x : Int).toNat ++ pairI (bfL l) (↑x : Int).toNat x'))] ∧ l.length - x' < l.length - x_1)) (InR IntKind.i64 ((↑x : Int) + (1 : Int)) ∧ ∃ x', x' ≤ l.length ∧ (SV.c (v6 (((↑x : Int) + (1 : Int)))) = SV.c (v6 ((↑x' : Int))) ∧ True) ∧ [(([] : Go.Eng.Gd), Res.blk (43 : Nat) [v6 ((0 : Int)), SC.v (Value.slice none (0 : Nat) (0 : Nat))]), (([] : Go.Eng.Gd), Res.blk (43 : Nat) [v6 ((↑l.length : Int)), SC.row (Nat.succ (0 : Nat)).succ]), (([] : Go.Eng.Gd), Res.row (55 : TypeId) shP (pairs (bfL l) l.length (↑x : Int).toNat ++ pairI (bfL l) (↑x : Int).toNat x_1))] = [(([] : Go.Eng.Gd), Res.blk (43 : Nat) [v6 ((0 : Int)), SC.v (Value.slice none (0 : Nat) (0 : Nat))]), (([] : Go.Eng.Gd), Res.blk (43 : Nat) [v6 ((↑l.length : Int)), SC.row (Nat.succ (0 : Nat)).succ]), (([] : Go.Eng.Gd), Res.row (55 : TypeId) shP (pairs (bfL l) l.length x'))] ∧ l.length - x' < l.length - x)) (([] : List Go.Eng.Res) = [] ∧ Ent.tup [SV.agg [v6 ((ordM l).fst), SC.sl shP (ordM l).snd.fst], SV.c (v6 ((tooM l)))] = Ent.tup [SV.agg [v6 ((↑l.length : Int)), SC.sl shP (pairs (bfL l) l.length x)], SV.c (v6 ((0 : Int)))])) := by
  have hb : ∀ e ∈ l, bE e := hpre
  refine br_iff.2 ⟨fun h => ⟨rfl, ?_⟩, fun h => ?_⟩
  · simp only [decide_eq_true_eq] at h
    have h1 : 64 < l.length := by omega
    rw [show ordM l = (0, [], ()) from if_pos h1, show tooM l = 4 from if_pos h1]
  simp only [decide_eq_false_iff_not] at h
  have hl : l.length ≤ 64 := by omega
  have ul : ∀ x y, x ≤ l.length → y ≤ l.length → (pairs (bfL l) l.length x ++ pairI (bfL l) x y).length + 1 ≤ 100000 := fun x y hx hy => by
    have h1 := pairs_len (bfL l) l.length x
    have h2 := pairI_len (bfL l) x y
    have h3 : l.length * x ≤ 64 * 64 := Nat.mul_le_mul hl (by omega)
    rw [List.length_append]; omega
  refine ⟨⟨by omega, hb⟩, ⟨0, by omega, ⟨rfl, trivial⟩, rfl⟩, fun x hx => br_iff.2 ⟨fun g => ?_, fun g => ?_⟩⟩
  · simp only [decide_eq_true_eq] at g
    refine ⟨InR_i64.2 (by omega), ⟨x + 1, ⟨Nat.lt_succ_self x, by omega⟩, ⟨rfl, trivial⟩, ?_⟩, fun y hy => br_iff.2 ⟨fun g2 => ?_, fun g2 => ?_⟩⟩
    · rw [show (x : Int).toNat = x from rfl, pairI_zero, List.append_nil]
    · simp only [decide_eq_true_eq] at g2
      have hxy : x < y := hy.1
      refine ⟨⟨by omega, by rw [tabM_len]; omega⟩, fun d hd => ?_⟩
      obtain ⟨rfl, hj⟩ := tabP_get hd
      rw [rowB_len]
      refine ⟨⟨by omega, by omega⟩, fun d1 hd1 => ?_⟩
      obtain ⟨rfl, _⟩ := rowB_get hd1
      rw [show (x : Int).toNat = x from rfl, show (y : Int).toNat = y from rfl]
      have us := pairI_succ (P := bfL l) hxy
      refine br_iff.2 ⟨fun h => ⟨inA16 (ul x y hx hy.2), InR_i64.2 (by omega), y + 1, ⟨by omega, by omega⟩, ⟨rfl, trivial⟩, ?_, by omega⟩, fun h => ⟨InR_i64.2 (by omega), y + 1, ⟨by omega, by omega⟩, ⟨rfl, trivial⟩, ?_, by omega⟩⟩
      · rw [if_pos h] at us
        rw [us, ← List.append_assoc]
      · rw [if_neg (by rw [h]; simp), List.append_nil] at us
        rw [us]
    · simp only [decide_eq_false_iff_not] at g2
      have : y = l.length := by omega
      subst this
      refine ⟨InR_i64.2 (by omega), x + 1, by omega, ⟨rfl, trivial⟩, ?_, by omega⟩
      rw [pairs_succ, show (x : Int).toNat = x from rfl]
  · simp only [decide_eq_false_iff_not] at g
    have ex : x = l.length := by omega
    subst ex
    refine ⟨rfl, ?_⟩
    rw [show ordM l = ((l.length : Int), pairs (bfL l) l.length l.length, ()) from if_neg (by omega), show tooM l = 0 from if_neg (by omega)]
set_option maxHeartbeats 2000000 in
set_option maxRecDepth 100000 in
theorem f23_met : Go.Eng.Met Tryd.prog cx0.gd 23 ctOdr :=
  (met_all (cx := cx0) (n := 47) (cl := cl23) (il := il23) (hl := hl23) (ml := ml23) (rc := [.data shR, .keep]) (lits := []) (suf := []) (by kernel_rfl) tis_ok ⟨f35_met, trivial⟩ trivial trivial trivial Tryd.func23 (by kernel_rfl) (by kernel_rfl) rfl (by kernel_rfl) (by kernel_rfl) (by simp) fun d hd => by
    obtain ⟨l, ⟨⟩⟩ := d
    exact ex_of (ann23 l) (f23_vc l hd) (by kernel_rfl)).met
@[reducible] noncomputable def cl25 : List (Nat × CT) := [(35, ctTab)]
@[reducible] noncomputable def ann25 (l : List ED) : Nat → Option (St → Ann) := fun n => match n with
  | 6 => some fun _ => .inv { α := Nat, slots := fun k => [(6, .c (.v (.int .i64 k))), (5, .c (.row 0))], res := fun k => [(0, .row 55 shP (pairs (covB l) l.length k))], inv := fun k => k ≤ l.length, meas := fun k => l.length - k, nil := [(5, 55, shP)] }
  | 9 => some fun s => .inv { α := Nat, slots := fun k => [(7, .c (.v (.int .i64 k))), (5, .c (.row 0))], res := fun k => [(0, .row 55 shP (pairs (covB l) l.length (slotI s 6).toNat ++ pairI (covB l) (slotI s 6).toNat k))], inv := fun k => (slotI s 6).toNat < k ∧ k ≤ l.length, meas := fun k => l.length - k }
  | 13 => some fun s => .inv { α := Nat × Bool, slots := fun u => [(9, .c (.v (.int .i64 u.1))), (8, .c (.v (.bool u.2)))], res := fun u => [], inv := fun u => covI l (slotI s 6).toNat (slotI s 7).toNat u, meas := fun u => (slotI s 7).toNat - u.1 }
  | _ => none
@[reducible] def il25 : List (Nat × IP) := []
@[reducible] def hl25 : List (Nat × Nat × CT) := []
@[reducible] noncomputable def ml25 : List (Nat × MK) := []
set_option maxRecDepth 100000 in
theorem f25_vc (l : List ED) (hpre : ctCov.pre (l, ())) :
    br (decide ((64 : Int) < (↑l.length : Int))) (([] : List Go.Eng.Res) = [] ∧ Ent.tup [SV.c (SC.sl shP (covM l)), SV.c (v6 ((tooM l)))] = Ent.tup [SV.c (SC.sl shP []), SV.c (v6 ((4 : Int)))]) ((l.length ≤ (512 : Nat) ∧ ∀ (e : I6.den × (I6.pair (I6.pair (I6.pair (I6.pair (I6.pair (I6.pair (I6.pair (I6.pair Sh.unit)))))))).den), e ∈ l → bE e) ∧ (∃ x, x ≤ l.length ∧ (SV.c (v6 ((0 : Int))) = SV.c (v6 ((↑x : Int))) ∧ SV.c (SC.row (0 : Nat)) = SV.c (SC.row (0 : Nat)) ∧ True) ∧ [(([] : Go.Eng.Gd), Res.row (55 : TypeId) shP [])] = [(([] : Go.Eng.Gd), Res.row (55 : TypeId) shP (pairs (covB l) l.length x))]) ∧ ∀ (x : Nat), x ≤ l.length → br (decide ((↑x : Int) < (↑l.length : Int))) (InR IntKind.i64 ((↑x : Int) + (1 : Int)) ∧ (∃ x_1, ((↑x : Int).toNat < x_1 ∧ x_1 ≤ l.length) ∧ (SV.c (v6 (((↑x : Int) + (1 : Int)))) = SV.c (v6 ((↑x_1 : Int))) ∧ SV.c (SC.row (0 : Nat)) = SV.c (SC.row (0 : Nat)) ∧ True) ∧ [(([] : Go.Eng.Gd), Res.row (55 : TypeId) shP (pairs (covB l) l.length x))] = [(([] : Go.Eng.Gd), Res.row (55 : TypeId) shP (pairs (covB l) l.length (↑x : Int).toNat ++ pairI (covB l) (↑x : Int).toNat x_1))]) ∧ ∀ (x_1 : Nat), (↑x : Int).toNat < x_1 ∧ x_1 ≤ l.length → br (decide ((↑x_1 : Int) < (↑l.length : Int))) (((0 : Int) ≤ (↑x_1 : Int) ∧ (↑x_1 : Int) < (↑(tabM l).length : Int)) ∧ ∀ (d : List Sh.bool.den), (tabM l)[(↑x_1 : Int).toNat]? = some d → ((0 : Int) ≤ (↑x : Int) ∧ (↑x : Int) < (↑d.length : Int)) ∧ ∀ (d_1 : Bool), d[(↑x : Int).toNat]? = some d_1 → InR IntKind.i64 ((↑x : Int) + (1 : Int)) ∧ (∃ x_2, covI l (↑x : Int).toNat (↑x_1 : Int).toNat x_2 ∧ (SV.c (v6 (((↑x : Int) + (1 : Int)))) = SV.c (v6 ((↑x_2.fst : Int))) ∧ SV.c (SC.v (Value.bool d_1)) = SV.c (SC.v (Value.bool x_2.snd)) ∧ True) ∧ [(([] : Go.Eng.Gd), Res.row (55 : TypeId) shP (pairs (covB l) l.length (↑x : Int).toNat ++ pairI (covB l) (↑x : Int).toNat x_1))] = [(([] : Go.Eng.Gd), Res.row (55 : TypeId) shP (pairs (covB l) l.length (↑x : Int).toNat ++ pairI (covB l) (↑x : Int).toNat x_1))]) ∧ ∀ (x_2 : Nat × Bool), covI l (↑x : Int).toNat (↑x_1 : Int).toNat x_2 → br (decide ((↑x_2.fst : Int) < (↑x_1 : Int))) (((0 : Int) ≤ (↑x_2.fst : Int) ∧ (↑x_2.fst : Int) < (↑(tabM l).length : Int)) ∧ ∀ (d_2 : List Sh.bool.den), (tabM l)[(↑x_2.fst : Int).toNat]? = some d_2 → ((0 : Int) ≤ (↑x : Int) ∧ (↑x : Int) < (↑d_2.length : Int)) ∧ ∀ (d_3 : Bool), d_2[(↑x : Int).toNat]? = some d_3 → (d_3 = true → (0 : Int) ≤ (↑x_1 : Int) ∧ (↑x_1 : Int) < (↑(tabM l).length : Int)) ∧ ∀ (d_4 : List Sh.bool.den), (d_3 = true → (tabM l)[(↑x_1 : Int).toNat]? = some d_4) → (d_3 = true → (0 : Int) ≤ (↑x_2.fst : Int) ∧ (↑x_2.fst : Int) < (↑d_4.length : Int)) ∧ ∀ (d_5 : Bool), (d_3 = true → d_4[(↑x_2.fst : Int).toNat]? = some d_5) → br (d_3 && d_5) (InR IntKind.i64 ((↑x_2.fst : Int) + (1 : Int)) ∧ ∃ x', covI l (↑x : Int).toNat (↑x_1 : Int).toNat x' ∧ (SV.c (v6 (((↑x_2.fst : Int) + (1 : Int)))) = SV.c (v6 ((↑x'.fst : Int))) ∧ SV.c (SC.v (Value.bool false)) = SV.c (SC.v (Value.bool x'.snd)) ∧ True) ∧ [(([] : Go.Eng.Gd), Res.row (55 : TypeId) shP (pairs (covB l) l.length (↑x : Int).toNat ++ pairI (covB l) (↑x : Int).toNat x_1))] = [(([] : Go.Eng.Gd), Res.row (55 : TypeId) shP (pairs (covB l) l.length (↑x : Int).toNat ++ pairI (covB l) (↑x : Int).toNat x_1))] ∧ (↑x_1 : Int).toNat - x'.fst < (↑x_1 : Int).toNat - x_2.fst) (InR IntKind.i64 ((↑x_2.fst : Int) + (1 : Int)) ∧ ∃ x', covI l (↑x : Int).toNat (↑x_1 : Int).toNat x' ∧ (SV.c (v6 (((↑x_2.fst : Int) + (1 : Int)))) = SV.c (v6 ((↑x'.fst : Int))) ∧ SV.c (SC.v (Value.bool x_2.snd)) = SV.c (SC.v (Value.bool x'.snd)) ∧ True) ∧ [(([] : Go.Eng.Gd), Res.row (55 : TypeId) shP (pairs (covB l) l.length (↑x : Int).toNat ++ pairI (covB l) (↑x : Int).toNat x_1))] = [(([] : Go.Eng.Gd), Res.row (55 : TypeId) shP (pairs (covB l) l.length (↑x : Int).toNat ++ pairI (covB l) (↑x : Int).toNat x_1))] ∧ (↑x_1 : Int).toNat - x'.fst < (↑x_1 : Int).toNat - x_2.fst)) (br x_2.snd (InA (List.length ((pairs (covB l) l.length (↑x : Int).toNat ++ pairI (covB l) (↑x : Int).toNat x_1)) + List.length ([[(↑x : Int), (↑x_1 : Int)]])) (16 : Nat) ∧ InR IntKind.i64 ((↑x_1 : Int) + (1 : Int)) ∧ ∃ x', ((↑x : Int).toNat < x' ∧ x' ≤ l.length) ∧ (SV.c (v6 (((↑x_1 : Int) + (1 : Int)))) = SV.c (v6 ((↑x' : Int))) ∧ SV.c (SC.row (0 : Nat)) = SV.c (SC.row (0 : Nat)) ∧ True) ∧ [(([] : Go.Eng.Gd), Res.row (55 : TypeId) shP ((pairs (covB l) l.length (↑x : Int).toNat ++ pairI (covB l) (↑x : Int).toNat x_1) ++ [[(↑x : Int), (↑x_1 : Int)]]))] = [(([] : Go.Eng.Gd), Res.row (55 : TypeId) shP (pairs (covB l) l.length (↑x : Int).toNat ++ pairI (covB l) (↑x : Int).toNat x'))] ∧ l.length - x' < l.length - x_1) (InR IntKind.i64 ((↑x_1 : Int) + (1 : Int)) ∧ ∃ x', ((↑x : Int).toNat < x' ∧ x' ≤ l.length) ∧ (SV.c (v6 (((↑x_1 : Int) + (1 : Int)))) = SV.c (v6 ((↑x' : Int))) ∧ SV.c (SC.row (0 : Nat)) = SV.c (SC.row (0 : Nat)) ∧ True) ∧ [(([] : Go.Eng.Gd), Res.row (55 : TypeId) shP (pairs (covB l) l.length (↑x : Int).toNat ++ pairI (covB l) (↑x : Int).toNat x_1))] = [(([] : Go.Eng.Gd), Res.row (55 : TypeId) shP (pairs (covB l) l.length (↑x : Int).toNat ++ pairI (covB l) (↑x : Int).toNat x'))] ∧ l.length - x' < l.length - x_1))) (InR IntKind.i64 ((↑x : Int) + (1 : Int)) ∧ ∃ x', x' ≤ l.length ∧ (SV.c (v6 (((↑x : Int) + (1 : Int)))) = SV.c (v6 ((↑x' : Int))) ∧ SV.c (SC.row (0 : Nat)) = SV.c (SC.row (0 : Nat)) ∧ True) ∧ [(([] : Go.Eng.Gd), Res.row (55 : TypeId) shP (pairs (covB l) l.length (↑x : Int).toNat ++ pairI (covB l) (↑x : Int).toNat x_1))] = [(([] : Go.Eng.Gd), Res.row (55 : TypeId) shP (pairs (covB l) l.length x'))] ∧ l.length - x' < l.length - x)) (([] : List Go.Eng.Res) = [] ∧ Ent.tup [SV.c (SC.sl shP (covM l)), SV.c (v6 ((tooM l)))] = Ent.tup [SV.c (SC.sl shP (pairs (covB l) l.length x)), SV.c (v6 ((0 : Int)))])) := by
  have hb : ∀ e ∈ l, bE e := hpre
  refine br_iff.2 ⟨fun h => ⟨rfl, ?_⟩, fun h => ?_⟩
  · simp only [decide_eq_true_eq] at h
    have h1 : 64 < l.length := by omega
    rw [show covM l = [] from if_pos h1, show tooM l = 4 from if_pos h1]
  simp only [decide_eq_false_iff_not] at h
  have hl : l.length ≤ 64 := by omega
  have ul : ∀ x y, x ≤ l.length → y ≤ l.length → (pairs (covB l) l.length x ++ pairI (covB l) x y).length + 1 ≤ 100000 := fun x y hx hy => by
    have h1 := pairs_len (covB l) l.length x
    have h2 := pairI_len (covB l) x y
    have h3 : l.length * x ≤ 64 * 64 := Nat.mul_le_mul hl (by omega)
    rw [List.length_append]; omega
  refine ⟨⟨by omega, hb⟩, ⟨0, by omega, ⟨rfl, rfl, trivial⟩, rfl⟩, fun x hx => br_iff.2 ⟨fun g => ?_, fun g => ?_⟩⟩
  · simp only [decide_eq_true_eq] at g
    refine ⟨InR_i64.2 (by omega), ⟨x + 1, ⟨Nat.lt_succ_self x, by omega⟩, ⟨rfl, rfl, trivial⟩, ?_⟩, fun y hy => br_iff.2 ⟨fun g2 => ?_, fun g2 => ?_⟩⟩
    · rw [show (x : Int).toNat = x from rfl, pairI_zero, List.append_nil]
    · simp only [decide_eq_true_eq] at g2
      have hxy : x < y := hy.1
      simp only [show (x : Int).toNat = x from rfl, show (y : Int).toNat = y from rfl]
      refine ⟨⟨by omega, by rw [tabM_len]; omega⟩, fun d hd => ?_⟩
      obtain ⟨rfl, hj⟩ := tabP_get (k := l.length) hd
      rw [rowB_len]
      refine ⟨⟨by omega, by omega⟩, fun d1 hd1 => ?_⟩
      obtain ⟨rfl, _⟩ := rowB_get hd1
      refine ⟨InR_i64.2 (by omega), ⟨(x + 1, bfL l x y), covI_zero hxy, ⟨by trivial, by trivial, trivial⟩, by trivial⟩, ?_⟩
      rintro ⟨k, c⟩ hu
      have hu1 : x < k := hu.1
      have hu2 : k ≤ y := hu.2.1
      refine br_iff.2 ⟨fun g3 => ?_, fun g3 => ?_⟩
      · have hky : k < y := by
          have g3 : decide ((k : Int) < (y : Int)) = true := g3
          rw [decide_eq_true_eq] at g3; omega
        have st := covI_step hu hky
        refine ⟨⟨Int.natCast_nonneg k, by rw [tabM_len]; show (k : Int) < _; omega⟩, fun d2 hd2 => ?_⟩
        obtain ⟨rfl, hk⟩ := tabP_get (k := l.length) (i := k) hd2
        rw [rowB_len]
        refine ⟨⟨by omega, by omega⟩, fun d3 hd3 => ?_⟩
        obtain ⟨rfl, _⟩ := rowB_get hd3
        refine ⟨fun _ => ⟨by omega, by rw [tabM_len]; omega⟩, fun d4 hd4 => ⟨fun q => ?_, fun d5 hd5 => ?_⟩⟩
        · obtain ⟨rfl, _⟩ := tabP_get (k := l.length) (hd4 q)
          rw [rowB_len]
          exact ⟨Int.natCast_nonneg k, by show (k : Int) < y; omega⟩
        have key : (bfL l x k && d5) = (bfL l x k && bfL l k y) := by
          cases hc : bfL l x k with
          | false => rfl
          | true =>
            obtain ⟨rfl, _⟩ := tabP_get (k := l.length) (hd4 hc)
            obtain ⟨rfl, _⟩ := rowB_get (i := k) (hd5 hc)
            rfl
        rw [key]
        refine br_iff.2 ⟨fun q => ⟨InR_i64.2 (by show _ ≤ (k : Int) + 1 ∧ (k : Int) + 1 ≤ _; omega), (k + 1, c && !(bfL l x k && bfL l k y)), st, ⟨by trivial, ?_, trivial⟩, by trivial, by show y - (k + 1) < y - k; omega⟩, fun q => ⟨InR_i64.2 (by show _ ≤ (k : Int) + 1 ∧ (k : Int) + 1 ≤ _; omega), (k + 1, c && !(bfL l x k && bfL l k y)), st, ⟨by trivial, ?_, trivial⟩, by trivial, by show y - (k + 1) < y - k; omega⟩⟩
        · rw [q, Bool.not_true, Bool.and_false]
        · rw [q, Bool.not_false, Bool.and_true]
      · have ec : c = covB l x y := covI_end hu (by
          have g3 : decide ((k : Int) < (y : Int)) = false := g3
          rw [decide_eq_false_iff_not] at g3
          exact .inl (by omega))
        have us := pairI_succ (P := covB l) hxy
        refine br_iff.2 ⟨fun h => ⟨inA16 (ul x y hx hy.2), InR_i64.2 (by omega), y + 1, ⟨by omega, by omega⟩, ⟨by trivial, by trivial, trivial⟩, ?_, by omega⟩, fun h => ⟨InR_i64.2 (by omega), y + 1, ⟨by omega, by omega⟩, ⟨by trivial, by trivial, trivial⟩, ?_, by omega⟩⟩
        · have h : covB l x y = true := ec.symm.trans h
          rw [if_pos h] at us
          rw [us, ← List.append_assoc]
        · have h : covB l x y = false := ec.symm.trans h
          rw [if_neg (by rw [h]; simp), List.append_nil] at us
          rw [us]
    · simp only [decide_eq_false_iff_not] at g2
      have : y = l.length := by omega
      subst this
      refine ⟨InR_i64.2 (by omega), x + 1, by omega, ⟨rfl, rfl, trivial⟩, ?_, by omega⟩
      rw [pairs_succ, show (x : Int).toNat = x from rfl]
  · simp only [decide_eq_false_iff_not] at g
    have ex : x = l.length := by omega
    subst ex
    refine ⟨rfl, ?_⟩
    rw [show covM l = pairs (covB l) l.length l.length from if_neg (by omega), show tooM l = 0 from if_neg (by omega)]
set_option maxHeartbeats 2000000 in
set_option maxRecDepth 100000 in
theorem f25_met : Go.Eng.Met Tryd.prog cx0.gd 25 ctCov :=
  (met_all (cx := cx0) (n := 67) (cl := cl25) (il := il25) (hl := hl25) (ml := ml25) (rc := [.data (.sl shP), .keep]) (lits := []) (suf := []) (by kernel_rfl) tis_ok ⟨f35_met, trivial⟩ trivial trivial trivial Tryd.func25 (by kernel_rfl) (by kernel_rfl) rfl (by kernel_rfl) (by kernel_rfl) (by simp) fun d hd => by
    obtain ⟨l, ⟨⟩⟩ := d
    exact ex_of (ann25 l) (f25_vc l hd) (by kernel_rfl)).met
end Go.Proofs.YtigfbjjphegleaaDoor
namespace Go.Proofs
open Go.Shelf
def Tryd.laysPQ_ren : Go.Shelf.Ren := ⟨fun | 14 => 61 | 20 => 75 | 21 => 76 | 22 => 77 | 23 => 78 | 24 => 79 | 25 => 80 | 26 => 81 | 27 => 82 | 46 => 89 | 47 => 90 | 48 => 91 | 49 => 92 | 50 => 93 | 15 => 62 | 57 => 94 | 28 => 83 | 29 => 84 | n => n, fun | 24 => 57 | 22 => 31 | 3 => 3 | 25 => 68 | 4 => 4 | 0 => 0 | 46 => 96 | 45 => 95 | 50 => 100 | 66 => 106 | 39 => 83 | 55 => 80 | 70 => 110 | 76 => 112 | 77 => 113 | 53 => 103 | 5 => 5 | 9 => 9 | n => n, fun | n => n⟩
theorem Tryd.laysPQ : Go.Proofs.SlLaysF0.n14 Tryd.prog Tryd.laysPQ_ren := {
  mixed := by kernel_rfl
  f14 := ⟨Tryd.f61.name, by decide, Tryd.func61.trans (congrArg some (by kernel_rfl))⟩
  f15 := Tryd.func62.trans (congrArg some (by kernel_rfl))
  f20 := ⟨Tryd.f75.name, by decide, Tryd.func75.trans (congrArg some (by kernel_rfl))⟩
  f21 := ⟨Tryd.f76.name, by decide, Tryd.func76.trans (congrArg some (by kernel_rfl))⟩
  f22 := ⟨Tryd.f77.name, by decide, Tryd.func77.trans (congrArg some (by kernel_rfl))⟩
  f23 := ⟨Tryd.f78.name, by decide, Tryd.func78.trans (congrArg some (by kernel_rfl))⟩
  f24 := ⟨Tryd.f79.name, by decide, Tryd.func79.trans (congrArg some (by kernel_rfl))⟩
  f25 := ⟨Tryd.f80.name, by decide, Tryd.func80.trans (congrArg some (by kernel_rfl))⟩
  f26 := ⟨Tryd.f81.name, by decide, Tryd.func81.trans (congrArg some (by kernel_rfl))⟩
  f27 := ⟨Tryd.f82.name, by decide, Tryd.func82.trans (congrArg some (by kernel_rfl))⟩
  f28 := Tryd.func83.trans (congrArg some (by kernel_rfl))
  f29 := Tryd.func84.trans (congrArg some (by kernel_rfl))
  f46 := ⟨Tryd.f89.name, by decide, Tryd.func89.trans (congrArg some (by kernel_rfl))⟩
  f47 := Tryd.func90.trans (congrArg some (by kernel_rfl))
  f48 := Tryd.func91.trans (congrArg some (by kernel_rfl))
  f49 := ⟨Tryd.f92.name, by decide, Tryd.func92.trans (congrArg some (by kernel_rfl))⟩
  f50 := ⟨Tryd.f93.name, by decide, Tryd.func93.trans (congrArg some (by kernel_rfl))⟩
  f57 := ⟨Tryd.f94.name, by decide, Tryd.func94.trans (congrArg some (by kernel_rfl))⟩
  t0 := Tryd.underlying0
  a0 := Tryd.isAgg0
  z0 := Tryd.sizeOf0
  v0 := Tryd.zeroValue0
  t3 := Tryd.underlying3
  a3 := Tryd.isAgg3
  z3 := Tryd.sizeOf3
  v3 := Tryd.zeroValue3
  t4 := Tryd.underlying4
  a4 := Tryd.isAgg4
  z4 := Tryd.sizeOf4
  v4 := Tryd.zeroValue4
  t5 := Tryd.underlying5
  a5 := Tryd.isAgg5
  z5 := Tryd.sizeOf5
  v5 := Tryd.zeroValue5
  t9 := Tryd.underlying9
  a9 := Tryd.isAgg9
  z9 := Tryd.sizeOf9
  v9 := Tryd.zeroValue9
  t22 := Tryd.underlying31
  a22 := Tryd.isAgg31
  z22 := Tryd.sizeOf31
  v22 := Tryd.zeroValue31
  t25 := Tryd.underlying68
  a25 := Tryd.isAgg68
  z25 := Tryd.sizeOf68
  v25 := Tryd.zeroValue68
  t39 := Tryd.underlying83
  a39 := Tryd.isAgg83
  z39 := Tryd.sizeOf83
  v39 := Tryd.zeroValue83
  t45 := Tryd.underlying95
  a45 := Tryd.isAgg95
  z45 := Tryd.sizeOf95
  v45 := Tryd.zeroValue95
  t46 := Tryd.underlying96
  a46 := Tryd.isAgg96
  z46 := Tryd.sizeOf96
  v46 := Tryd.zeroValue96
  t50 := Tryd.underlying100
  a50 := Tryd.isAgg100
  z50 := Tryd.sizeOf100
  v50 := Tryd.zeroValue100
  t53 := Tryd.underlying103
  a53 := Tryd.isAgg103
  z53 := Tryd.sizeOf103
  v53 := Tryd.zeroValue103
  t55 := Tryd.underlying80
  a55 := Tryd.isAgg80
  z55 := Tryd.sizeOf80
  v55 := Tryd.zeroValue80
  t66 := Tryd.underlying106
  a66 := Tryd.isAgg106
  z66 := Tryd.sizeOf106
  v66 := Tryd.zeroValue106
  t70 := Tryd.underlying110
  a70 := Tryd.isAgg110
  z70 := Tryd.sizeOf110
  v70 := Tryd.zeroValue110
  t76 := Tryd.underlying112
  a76 := Tryd.isAgg112
  z76 := Tryd.sizeOf112
  v76 := Tryd.zeroValue112
  t77 := Tryd.underlying113
  a77 := Tryd.isAgg113
  z77 := Tryd.sizeOf113
  v77 := Tryd.zeroValue113 }
def Tryd.laysBL_ren : Go.Shelf.Ren := ⟨fun | 15 => 62 | 28 => 83 | 29 => 84 | n => n, fun | 39 => 83 | 3 => 3 | 53 => 103 | 55 => 80 | 4 => 4 | 5 => 5 | 9 => 9 | n => n, fun | n => n⟩
theorem Tryd.laysBL : Go.Proofs.SlLaysF0.n15 Tryd.prog Tryd.laysBL_ren := {
  mixed := by kernel_rfl
  f15 := Tryd.func62.trans (congrArg some (by kernel_rfl))
  f28 := Tryd.func83.trans (congrArg some (by kernel_rfl))
  f29 := Tryd.func84.trans (congrArg some (by kernel_rfl))
  t3 := Tryd.underlying3
  a3 := Tryd.isAgg3
  z3 := Tryd.sizeOf3
  v3 := Tryd.zeroValue3
  t4 := Tryd.underlying4
  a4 := Tryd.isAgg4
  z4 := Tryd.sizeOf4
  v4 := Tryd.zeroValue4
  t5 := Tryd.underlying5
  a5 := Tryd.isAgg5
  z5 := Tryd.sizeOf5
  v5 := Tryd.zeroValue5
  t9 := Tryd.underlying9
  a9 := Tryd.isAgg9
  z9 := Tryd.sizeOf9
  v9 := Tryd.zeroValue9
  t39 := Tryd.underlying83
  a39 := Tryd.isAgg83
  z39 := Tryd.sizeOf83
  v39 := Tryd.zeroValue83
  t53 := Tryd.underlying103
  a53 := Tryd.isAgg103
  z53 := Tryd.sizeOf103
  v53 := Tryd.zeroValue103
  t55 := Tryd.underlying80
  a55 := Tryd.isAgg80
  z55 := Tryd.sizeOf80
  v55 := Tryd.zeroValue80 }
end Go.Proofs
set_option linter.unusedSimpArgs false
set_option linter.unusedVariables false
namespace Go.Eng
open Go Go.RowKit

@[reducible] def shTk : Sh := .pair (.int .i64) (.pair (.int .i64) .unit)
abbrev TkD := Int × Int × Unit
def tk (x : TkD) : Int × Int := (x.1, x.2.1)
theorem tk_inj {x y : TkD} (h : tk x = tk y) : x = y := by
  obtain ⟨a, b, ⟨⟩⟩ := x; obtain ⟨c, d, ⟨⟩⟩ := y
  cases h; rfl
def enc2 (x : Int × Int) : List Value := [.int .i64 x.1, .int .i64 x.2]
abbrev CmpF := Int × Int → Int × Int → Int
def sortTk (cf : CmpF) (l : List TkD) : List TkD := l.mergeSort fun x y => !decide (cf (tk y) (tk x) < 0)
@[reducible] def ctCmpT (cf : CmpF) : CT := { ps := [shTk, shTk], pre := fun _ => True, res := fun d => ([], .one (.c (.v (.int .i64 (cf (tk d.1) (tk d.2.1)))))) }
@[reducible] def ipSortT (g : FuncId) (cf : CmpF) : IP :=
  { sh := shTk, ps := [.any], pre := fun l d => d.1 = .func (.func g) #[] #[] ∧ l.length ≤ 1000000 ∧ ∀ x ∈ l, ∀ y ∈ l, ¬ cf (tk x) (tk y) < 0 → ¬ cf (tk y) (tk x) < 0 → x = y, res := fun l _ => sortTk cf l, back := false }

theorem fm_get : ∀ (d : List (Int × Int)) (t : Nat), (d.flatMap enc2)[t]? = (d[t / 2]?).bind fun x => (enc2 x)[t % 2]?
  | [], t => by simp
  | x :: d, 0 => by simp [enc2]
  | x :: d, 1 => by simp [enc2]
  | x :: d, t + 2 => by
    have e1 : (t + 2) / 2 = t / 2 + 1 := by omega
    have e2 : (t + 2) % 2 = t % 2 := by omega
    rw [e1, e2, List.getElem?_cons_succ, ← fm_get d t]
    simp [enc2]
theorem fm_len : ∀ d : List (Int × Int), (d.flatMap enc2).length = d.length * 2
  | [] => rfl
  | x :: d => by
    rw [List.flatMap_cons, List.length_append, fm_len d, List.length_cons]
    simp [enc2]; omega
theorem flat_list (d : Array (Int × Int)) : (Sort.flatK enc2 2 d).toList = d.toList.flatMap enc2 := by
  apply List.ext_getElem?
  intro t
  rw [fm_get, Array.getElem?_toList, Array.getElem?_toList]
  by_cases ht : t < d.size * 2
  · have h2 : t / 2 < d.size := by omega
    have h3 : t % 2 < 2 := Nat.mod_lt _ (by omega)
    have e1 : (Sort.flatK enc2 2 d)[t]? = some ((Sort.flatK enc2 2 d)[t]!) := by
      rw [getElem!_pos _ t (by simpa using ht)]
      exact Array.getElem?_eq_getElem (by simpa using ht)
    rw [e1, Sort.get_flatK _ _ _ _ ht, Array.getElem?_eq_getElem h2, getElem!_pos d (t / 2) h2]
    simp only [Option.bind_some]
    have hl : (enc2 d[t / 2]).length = 2 := rfl
    rw [getElem!_pos (enc2 d[t / 2]) (t % 2) (by omega), List.getElem?_eq_getElem (by omega)]
  · rw [Array.getElem?_eq_none (by simp; omega), Array.getElem?_eq_none (show d.size ≤ t / 2 by omega)]
    rfl

theorem rdl_tk {h : FH} : ∀ {l : List TkD} {cs : List Value}, RdL (Rd h shTk) cs l → cs = (l.map tk).flatMap enc2
  | [], cs, r => by simpa [RdL] using r
  | (x, y, ()) :: l, cs, ⟨c, r, e, h1, h2⟩ => by
    obtain ⟨c1, c2, rfl, q1, c3, c4, rfl, q2, q3⟩ := h1
    have q1 : c1 = [.int .i64 x] := q1
    have q2 : c3 = [.int .i64 y] := q2
    have q3 : c4 = [] := q3
    rw [e, q1, q2, q3, rdl_tk h2]; rfl
theorem tk_rdl {h : FH} : ∀ (l : List TkD), RdL (Rd h shTk) ((l.map tk).flatMap enc2) l
  | [] => rfl
  | (x, y, ()) :: l => ⟨enc2 (x, y), (l.map tk).flatMap enc2, rfl, ⟨[.int .i64 x], [.int .i64 y], rfl, rfl, [.int .i64 y], [], rfl, rfl, rfl⟩, tk_rdl l⟩

theorem holds_row {α : Type} [Inhabited α] {enc : α → Value} {w : World} {g : Nat} {cur : Array Value} {e : TypeId} {d : List α} (hb : w.heap[g]? = some (.cells cur e (0, 0))) (ht : cur.toList.take d.length = d.map enc) : Sort.Holds enc w g 0 d.toArray := by
  intro j hj
  have hj' : j < d.length := by simpa using hj
  refine ⟨?_, by simp [World.frozen?, hb]⟩
  have h1 : (cur.toList.take d.length)[j]? = (d.map enc)[j]? := by rw [ht]
  rw [List.getElem?_take_of_lt hj'] at h1
  simp only [World.cell?, hb, Nat.zero_add]
  simp only [Option.isSome_none, Bool.false_eq_true, if_false]
  rw [← Array.getElem?_toList, h1]
  simp [hj', getElem!_pos]

theorem heap_put {α : Type} [Inhabited α] {enc : α → Value} {w : World} {g n : Nat} {os : Array Obj} {cur : Array Value} {e : TypeId} {fr : Nat × Nat} (d : Array α) (hb : w.heap[g]? = some (.cells cur e fr)) :
    (Proofs.sortWorld enc w g 0 n d os).heap[g]? = some (.cells (Sort.putCells enc 0 d cur) e fr) := by
  have hg : g < w.heap.size := (Array.getElem?_eq_some_iff.1 hb).1
  unfold Proofs.sortWorld
  rw [Sort.heap_grow_old _ _ (by simpa using hg)]
  simp [Sort.putRow, Sort.mapBlock, Sort.ahead, Array.getElem?_modify, hb, Sort.onCells]
theorem heap_oth {α : Type} [Inhabited α] {enc : α → Value} {w : World} {g n : Nat} {os : Array Obj} (d : Array α) {k : Nat} (hk : k < w.heap.size) (hne : k ≠ g) :
    (Proofs.sortWorld enc w g 0 n d os).heap[k]? = w.heap[k]? := by
  unfold Proofs.sortWorld
  rw [Sort.heap_grow_old _ _ (by simpa using hk)]
  have : g ≠ k := fun e => hne e.symm
  simp [Sort.putRow, Sort.mapBlock, Sort.ahead, Array.getElem?_modify, this]
theorem gb_sortw {α : Type} [Inhabited α] {enc : α → Value} {w : World} {g n : Nat} {os : Array Obj} (d : Array α) : Gb w (Proofs.sortWorld enc w g 0 n d os) (some g) := by
  refine ⟨⟨rfl, rfl, rfl, ?_, fun k hk hne => heap_oth d hk fun e => hne (by rw [e])⟩, ?_⟩
  · unfold Proofs.sortWorld; simp [Sort.grow]
  · unfold Proofs.sortWorld; simp [Sort.grow, Sort.putRow, Sort.mapBlock, Sort.ahead]
theorem take_put {α : Type} [Inhabited α] {enc : α → Value} (cur : Array Value) (ts : List α) (h : ts.length ≤ cur.size) : (Sort.putCells enc 0 ts.toArray cur).toList.take ts.length = ts.map enc := by
  apply List.ext_getElem?
  intro j
  by_cases hj : j < ts.length
  · rw [List.getElem?_take_of_lt hj, Array.getElem?_toList]
    simp [Sort.putCells, hj, show j < cur.size by omega]
  · rw [List.getElem?_take_eq_none (by omega), List.getElem?_eq_none (by simp; omega)]

theorem grow_of {W w' : World} (hos : w'.os = W.os) (ht : w'.tape = W.tape) (ho : w'.output = W.output) (hs : W.heap.size ≤ w'.heap.size) (hb : ∀ k, k < W.heap.size → w'.heap[k]? = W.heap[k]?) (hd : W.drawn ≤ w'.drawn) :
    ∃ q os', w' = Sort.grow (W.drewN q) os' := by
  refine ⟨w'.drawn - W.drawn, w'.heap.extract W.heap.size w'.heap.size, ?_⟩
  have e1 : w'.heap = W.heap ++ w'.heap.extract W.heap.size w'.heap.size := by
    apply Array.ext_getElem?
    intro k
    by_cases hk : k < W.heap.size
    · rw [Array.getElem?_append_left hk]; exact hb k hk
    · rw [Array.getElem?_append_right (by omega), Array.getElem?_extract]
      by_cases hk2 : k < w'.heap.size
      · rw [if_pos (by omega)]; congr 1; omega
      · rw [if_neg (by omega)]; exact Array.getElem?_eq_none (by omega)
  cases w' with
  | mk hp tp dr os ou =>
    cases W with
    | mk hp2 tp2 dr2 os2 ou2 =>
      simp only at *
      subst hos; subst ht; subst ho
      simp only [Sort.grow, World.drewN]
      congr 1
      omega

theorem FnIs.enters {P : Program} {f : FuncId} (h : FnIs P f) : ∀ args w, (callFunc f args).run P w = .ok (.enter f args) w := by
  obtain ⟨fn, hf, hb, hn⟩ := h
  obtain ⟨c, hc⟩ := Option.isSome_iff_exists.1 hb
  exact Go.Proofs.enters_of hf hn hc

theorem ipok_sortk {P : Program} {gd : Nat → Option (Sigma Sh.den)} {f g : FuncId} {cf : CmpF} (hO : Sort.SWO (Proofs.ltOf cf)) (hc : CTOK P gd g (ctCmpT cf))
    (hs : ∀ (blk cap : Nat) (d : Array (Int × Int)) (w : World), Proofs.CmpLays P g #[] enc2 2 cf blk 0 d.size w → Sort.HoldsK enc2 2 w blk 0 d → blk < w.heap.size → d.size < 4611686018427387904 →
      Calls P f #[.slice (some ⟨blk, 0, none⟩) d.size cap, .func (.func g) #[] #[]] w fun e w' => e = .returned (.tuple #[]) ∧ ∃ d' n os, Sort.PermIn 0 d.size d d' ∧ Sort.SortedIn (Proofs.ltOf cf) 0 d.size d' ∧ w' = Proofs.sortWorldK enc2 2 w blk 0 n d' os)
    (hz : ∀ (a : Option Addr) (cap : Nat) w, Calls P f #[.slice a 0 cap, .func (.func g) #[] #[]] w fun e w' => e = .returned (.tuple #[]) ∧ w' = w) : IPOK P gd f (ipSortT g cf) := by
  intro t l d v vs h w hw hg hold hfr hvs hpre
  obtain ⟨d0, d1⟩ := d
  obtain ⟨hd0, hl, hdis⟩ := hpre
  simp only at hd0
  subst hd0
  match vs, hvs with
  | [u], ⟨⟨⟨hu, _⟩, _⟩, _⟩ =>
    subst hu
    rcases hold with ⟨rfl, rfl⟩ | ⟨ra, rfl, rfl⟩ | ⟨gb, cap, cur, rfl, e1, e2, e3, e4, r⟩
    · refine (hz none 0 w).mono ?_
      rintro en w' ⟨rfl, rfl⟩
      exact ⟨.slice none 0 0, _, rfl, grown_refl _ _, fun b hb => .inl hb, .inl ⟨rfl, by simp [sortTk]⟩, fun hh => (by cases hh), fun _ => ⟨rfl, rfl⟩⟩
    · refine (hz (some ra) 0 w).mono ?_
      rintro en w' ⟨rfl, rfl⟩
      exact ⟨.slice (some ra) 0 0, _, rfl, grown_refl _ _, fun b hb => .inl hb, .inr (.inl ⟨ra, rfl, by simp [sortTk]⟩), fun hh => (by cases hh), fun _ => ⟨rfl, rfl⟩⟩
    · have hcs := rdl_tk r
      have hgs : gb < w.heap.size := (Array.getElem?_eq_some_iff.1 e1).1
      have hsz2 : (Sh.pair (.int .i64) (.pair (.int .i64) .unit)).size = 2 := rfl
      have e4' : cur.size = cap * 2 := e4
      have e4 : l.length * 2 ≤ cur.size := by omega
      have hcs : cur.toList.take (l.length * 2) = (l.map tk).flatMap enc2 := by simpa [hsz2] using hcs
      have hH : Sort.HoldsK enc2 2 w gb 0 (l.map tk).toArray := by
        unfold Sort.HoldsK
        have e0 : Sort.flatK enc2 2 (l.map tk).toArray = ((l.map tk).flatMap enc2).toArray := by
          apply Array.ext'
          rw [flat_list]
        rw [e0]
        refine holds_row e1 ?_
        rw [fm_len, List.length_map, hcs]; simp
      have hfree := hfr gb (rowBlk_own e3.1)
      have hcmp : Proofs.CmpLays P g #[] enc2 2 cf gb 0 (l.map tk).toArray.size w := by
        intro m os dk hdk x y
        have hW : ∀ b o u, h b o = some u → vis (Proofs.sortWorldK enc2 2 w gb 0 m dk os) b o = some u := by
          intro b o u hh
          have h1 := hw b o u hh
          have hlt := vis_lt h1
          have hne : b ≠ gb := fun e => by subst e; rw [hfree o] at hh; cases hh
          exact (vis_of_block (o := o) (heap_oth (enc := id) (n := m) (os := os) (Sort.flatK enc2 2 dk) hlt hne)).trans h1
        have := hc ((x.1, x.2, ()), (y.1, y.2, ()), ()) [.agg (enc2 x).toArray, .agg (enc2 y).toArray] h _ hW hg ⟨⟨enc2 x, rfl, ⟨⟨rfl, oneC_int _ _⟩, oneC_int _ _⟩, ⟨⟨rfl, oneC_int _ _⟩, oneC_int _ _⟩, trivial⟩, ⟨enc2 y, rfl, ⟨⟨rfl, oneC_int _ _⟩, oneC_int _ _⟩, ⟨⟨rfl, oneC_int _ _⟩, oneC_int _ _⟩, trivial⟩, trivial⟩ trivial
        refine Calls.mono (by simpa using this) ?_
        rintro en w' ⟨h', β, yv, rfl, ok, he⟩
        obtain ⟨⟨rfl, _⟩, _⟩ := he
        exact ⟨rfl, grow_of ok.below.os ok.below.tape ok.below.output ok.below.size (Bw.bel ok.below).block ok.dr⟩
      have hs := hs gb cap (l.map tk).toArray w hcmp hH hgs (by simp; omega)
      have hs : Calls P f #[.slice (some ⟨gb, 0, none⟩) l.length cap, .func (.func g) #[] #[]] w fun e w' => e = .returned (.tuple #[]) ∧ ∃ d' n os, Sort.PermIn 0 (l.map tk).toArray.size (l.map tk).toArray d' ∧ Sort.SortedIn (Proofs.ltOf cf) 0 (l.map tk).toArray.size d' ∧ w' = Proofs.sortWorldK enc2 2 w gb 0 n d' os := by
        simpa using hs
      refine Calls.mono hs ?_
      rintro en w' ⟨rfl, d', n, os, hp, hsrt, rfl⟩
      have hdsz : d'.toList.length = l.length := by have := hp.1; simp at this; simp; omega
      have hperm : d'.toList.Perm (l.map tk) := by
        have := hp.2.2
        have h1 : d'.extract 0 (l.map tk).toArray.size = d' := by rw [← hp.1]; simp
        have h2 : (l.map tk).toArray.extract 0 (l.map tk).toArray.size = (l.map tk).toArray := by
          apply Array.ext'
          rw [Array.toList_extract]
          simp only [List.size_toArray, List.extract_eq_take_drop, List.drop_zero, Nat.sub_zero]
          exact List.take_of_length_le (Nat.le_refl _)
        rw [h1, h2] at this
        simpa using this
      have hres : d'.toList = (sortTk cf l).map tk := by
        have p2 : (sortTk cf l).Perm l := List.mergeSort_perm l _
        have p3 : ((sortTk cf l).map tk).Perm (l.map tk) := p2.map _
        refine List.Perm.eq_of_pairwise (le := fun x y => ¬ cf y x < 0) (fun a b ha hb h1 h2 => ?_) ?_ ?_ (hperm.trans p3.symm)
        · obtain ⟨a', ha', rfl⟩ := List.mem_map.1 (hperm.mem_iff.1 ha)
          obtain ⟨b', hb', rfl⟩ := List.mem_map.1 (p3.mem_iff.1 hb)
          rw [hdis a' ha' b' hb' h2 h1]
        · rw [List.pairwise_iff_getElem]
          intro i j hi hj hij
          have := hsrt i j (Nat.zero_le _) hij (by simp at hj; have := hp.1; omega)
          rw [getElem!_pos d' i (by simpa using hi), getElem!_pos d' j (by simpa using hj)] at this
          simpa [Proofs.ltOf] using this
        · rw [List.pairwise_map]
          have := List.pairwise_mergeSort (le := fun x y => !decide (cf (tk y) (tk x) < 0)) (fun a b q h1 h2 => by
            have h3 := hO.ntrans (tk q) (tk b) (tk a)
            unfold Proofs.ltOf at h3
            cases hx : decide (cf (tk q) (tk b) < 0) <;> cases hy : decide (cf (tk b) (tk a) < 0) <;> simp [hx, hy] at h1 h2 h3 ⊢
            simpa using h3) (fun a b => by
            have t1 := hO.trans (tk a) (tk b) (tk a)
            have t2 := hO.irrefl (tk a)
            unfold Proofs.ltOf at t1 t2
            cases hx : decide (cf (tk a) (tk b) < 0) <;> cases hy : decide (cf (tk b) (tk a) < 0) <;> simp [hx, hy] at t1 t2 ⊢
            omega) l
          exact this.imp fun h => by simp at h; omega
      refine ⟨.slice (some ⟨gb, 0, none⟩) l.length cap, _, rfl, by rw [rowBlk_own e3.1]; exact gb_sortw (enc := id) _, fun b hb => .inl hb, ?_, fun hh => (by cases hh), fun _ => ⟨rfl, rfl⟩⟩
      have hsl : (sortTk cf l).length = l.length := List.length_mergeSort l
      have hput := take_put (enc := id) cur ((d'.toList).flatMap enc2) (by rw [fm_len, hdsz]; exact e4)
      have e0 : Sort.flatK enc2 2 d' = ((d'.toList).flatMap enc2).toArray := by
        apply Array.ext'
        rw [flat_list]
      refine .inr (.inr ⟨gb, cap, _, by rw [hsl], heap_put (enc := id) _ e1, by rw [hsl]; exact e2, e3, by rw [show (Sort.putCells id 0 (Sort.flatK enc2 2 d') cur).size = cur.size by simp [Sort.putCells]]; exact e4', ?_⟩)
      rw [e0, hsl, hsz2]
      rw [fm_len, hdsz, List.map_id] at hput
      rw [hput, hres]
      exact tk_rdl _
end Go.Eng
set_option linter.unusedSimpArgs false
set_option linter.unusedVariables false
namespace Go.Proofs
open Go Go.Shelf Go.RowKit Go.Lib Go.Sort Go.Eng

set_option maxHeartbeats 2000000 in
set_option maxRecDepth 100000 in
theorem Tryd.sort36 {cf : CmpF} (hO : SWO (ltOf cf)) (g : Nat) (eg : ∀ args w, (callFunc g args).run Tryd.prog w = .ok (.enter g args) w) (blk cap : Nat) (d : Array (Int × Int)) (w : World)
    (hcmp : CmpLays Tryd.prog g #[] enc2 2 cf blk 0 d.size w) (hH : HoldsK enc2 2 w blk 0 d) (hblk : blk < w.heap.size) (hsz : d.size < 4611686018427387904) :
    Calls Tryd.prog 36 #[.slice (some ⟨blk, 0, none⟩) d.size cap, .func (.func g) #[] #[]] w fun e w' => e = .returned (.tuple #[]) ∧ ∃ d' n os, PermIn 0 d.size d d' ∧ SortedIn (ltOf cf) 0 d.size d' ∧ w' = sortWorldK enc2 2 w blk 0 n d' os := by
  have hlim : Lib.bitLen d.size < 4611686018427387904 := Nat.lt_of_le_of_lt (Lib.bitLen_le d.size 62 (by omega) (by omega)) (by omega)
  have hp := AnyQ.pdqsortCmpFunc_all Tryd.laysPQ 2 Tryd.isAgg57 Tryd.sizeOf57 enc2 cf g #[] hO blk 0 cap d w eg hcmp ⟨fun _ => rfl, fun x v hv => by simp [enc2] at hv; rcases hv with rfl | rfl <;> rfl, hH, hblk⟩ (d.size + 1) 0 d.size (Lib.bitLen d.size) d w (by omega) rfl (SWK.start hH) (Nat.zero_le _) (Nat.le_refl _) hsz hlim (Or.inl rfl)
  change Calls Tryd.prog 61 _ _ _ at hp
  have hl : Calls Tryd.prog 62 #[.int .u64 (d.size : Int)] w fun e w' => e = .returned (.int .i64 (Lib.bitLen d.size : Nat)) ∧ w' = w := by
    have h := Any.bits_Len (SlLaysF0.n15.bits Tryd.laysBL) (d.size : Int) w (by omega) (by omega)
    rw [Int.toNat_natCast] at h
    exact h
  have wr : IntKind.u64.wrap (d.size : Int) = d.size := by simp [IntKind.wrap, IntKind.bits, IntKind.signed]; omega
  have srt := pdq_sorts (ltOf cf) hO d 0 d.size (Lib.bitLen d.size) true true (Nat.zero_le _) (Nat.le_refl _) (Or.inl rfl)
  clear hH hcmp
  go_enter Tryd.func36, Tryd.ntmps36
  go_wp2_with (first | (go_at_call 62; refine hl.mono ?_; rintro e w' ⟨rfl, rfl⟩) | (go_at_call 61; refine hp.mono ?_; rintro e w' ⟨rfl, n, os, rfl⟩))
  go_end0
  exact ⟨rfl, _, n, os, srt.1, srt.2, rfl⟩

set_option maxHeartbeats 2000000 in
set_option maxRecDepth 100000 in
theorem Tryd.sort36_none (fv : Value) (p : Option Addr) (cap : Nat) (w : World) : Calls Tryd.prog 36 #[.slice p 0 cap, fv] w fun e w' => e = .returned (.tuple #[]) ∧ w' = w := by
  have hp := fun lim W => AnyF.pdqsortCmpFunc_none Tryd.laysPQ p cap lim fv W
  have hp : ∀ lim W, Calls Tryd.prog 61 #[.slice p 0 cap, .int .i64 0, .int .i64 0, .int .i64 lim, fv] W fun e w' => e = .returned (.tuple #[]) ∧ w' = W := hp
  have hl : ∀ W, Calls Tryd.prog 62 #[.int .u64 0] W fun e w' => e = .returned (.int .i64 (Lib.bitLen 0 : Nat)) ∧ w' = W := fun W => by
    have h := Any.bits_Len (SlLaysF0.n15.bits Tryd.laysBL) 0 W (by omega) (by omega)
    exact h
  go_enter Tryd.func36, Tryd.ntmps36
  go_wp2_with (first | (go_at_call 62; refine (hl _).mono ?_; rintro e w' ⟨rfl, rfl⟩) | (go_at_call 61; refine (hp _ _).mono ?_; rintro e w' ⟨rfl, rfl⟩))
  go_end0
  exact ⟨rfl, rfl⟩
end Go.Proofs
set_option linter.unusedSimpArgs false
set_option linter.unusedVariables false
namespace Go.Proofs.YtigfbjjphegleaaDoor
open Go Go.Eng
abbrev MpD := List (Int × Int)
def cmpF : CmpF := fun x y => if x.1 < y.1 then -1 else if y.1 < x.1 then 1 else 0
theorem cmpF_lt {x y : Int × Int} : cmpF x y < 0 ↔ x.1 < y.1 := by
  unfold cmpF
  by_cases h : x.1 < y.1
  · simp [h]
  · by_cases h2 : y.1 < x.1
    · simp [h, h2]
    · simp [h, h2]
theorem swoF : Sort.SWO (Proofs.ltOf cmpF) where
  irrefl x := by simp [Proofs.ltOf, cmpF_lt]
  trans x y z h1 h2 := by simp [Proofs.ltOf, cmpF_lt] at *; omega
  ntrans x y z h1 h2 := by simp [Proofs.ltOf, cmpF_lt] at *; omega
def agA (l : List ED) (x : Nat) : Int := ((l[x]?).map eA).getD 0
def bump (m : MpD) (a : Int) : MpD := mput m a (mgetD m a 0 + 1)
noncomputable def ckA (l : List ED) (i : Nat) : Nat → MpD
  | 0 => mput [] (agA l i) 1
  | k + 1 => if bfL l k i = true then bump (ckA l i k) (agA l k) else ckA l i k
def toT (p : Int × Int) : TkD := (p.1, p.2, ())
noncomputable def ckL (l : List ED) (i : Nat) : List TkD := (ckA l i i).map toT
noncomputable def clkP (l : List ED) (k : Nat) : List (List TkD) := (List.range k).map (ckL l)
noncomputable def clkM (l : List ED) : List (List TkD) := if 512 < l.length then [] else clkP l l.length
theorem clkP_len (l : List ED) (k : Nat) : (clkP l k).length = k := by simp [clkP]
theorem clkP_succ (l : List ED) (k : Nat) : clkP l (k + 1) = clkP l k ++ [ckL l k] := by simp [clkP, List.range_succ]
theorem mput_len {m : MpD} {a n : Int} : (mput m a n).length ≤ m.length + 1 := by
  induction m with
  | nil => simp [mput]
  | cons x m ih =>
    obtain ⟨k, v⟩ := x
    simp only [mput]
    split
    · simp
    · split
      · simp
      · simp only [List.length_cons]; omega
theorem ckA_up (l : List ED) (i : Nat) : ∀ k, keysUp (ckA l i k)
  | 0 => mput_up (by simp [keysUp])
  | k + 1 => by
    simp only [ckA]
    split
    · exact mput_up (ckA_up l i k)
    · exact ckA_up l i k
theorem ckA_len (l : List ED) (i : Nat) : ∀ k, (ckA l i k).length ≤ k + 1
  | 0 => mput_len
  | k + 1 => by
    have := ckA_len l i k
    simp only [ckA]
    split
    · have := mput_len (m := ckA l i k) (a := agA l k) (n := mgetD (ckA l i k) (agA l k) 0 + 1)
      unfold bump; omega
    · omega
theorem get_bnd {m : MpD} {b : Int} (h : ∀ p ∈ m, 1 ≤ p.2 ∧ p.2 ≤ b) (hu : keysUp m) (h0 : 0 ≤ b) (a : Int) : 0 ≤ mgetD m a 0 ∧ mgetD m a 0 ≤ b := by
  unfold mgetD
  cases e : mget m a with
  | none => simp [h0]
  | some v =>
    have := h _ ((mget_mem hu).1 e)
    simp at this ⊢; omega
theorem ckA_bnd (l : List ED) (i : Nat) : ∀ k, ∀ p ∈ ckA l i k, 1 ≤ p.2 ∧ p.2 ≤ (k : Int) + 1
  | 0, p, hp => by
    simp [ckA, mput] at hp
    subst hp; simp
  | k + 1, p, hp => by
    have ih := ckA_bnd l i k
    simp only [ckA] at hp
    split at hp
    · rcases (mput_mem (ckA_up l i k)).1 hp with rfl | ⟨hp, _⟩
      · have := get_bnd ih (ckA_up l i k) (by omega) (agA l k)
        simp; omega
      · have := ih p hp; omega
    · have := ih p hp; omega
theorem nodup_len {α : Type} [DecidableEq α] : ∀ {a b : List α}, a.Nodup → (∀ x ∈ a, x ∈ b) → a.length ≤ b.length
  | [], b, _, _ => Nat.zero_le _
  | x :: a, b, hn, hs => by
    obtain ⟨h1, h2⟩ := List.nodup_cons.1 hn
    have hx : x ∈ b := hs x (by simp)
    have := nodup_len (b := b.erase x) h2 fun y hy => (List.mem_erase_of_ne fun (e : y = x) => h1 (e ▸ hy)).2 (hs y (by simp [hy]))
    rw [List.length_erase_of_mem hx] at this
    have := List.length_pos_of_mem hx
    simp only [List.length_cons]; omega
theorem nodup_perm {α : Type} [DecidableEq α] : ∀ {a b : List α}, a.Nodup → b.Nodup → (∀ x, x ∈ a ↔ x ∈ b) → a.Perm b
  | [], b, _, _, h => by
    cases b with
    | nil => exact .refl _
    | cons y b => have := (h y).2 (by simp); cases this
  | x :: a, b, ha, hb, h => by
    obtain ⟨h1, h2⟩ := List.nodup_cons.1 ha
    have hx : x ∈ b := (h x).1 (by simp)
    refine List.Perm.trans ?_ (List.perm_cons_erase hx).symm
    refine List.Perm.cons x (nodup_perm h2 (hb.erase x) fun y => ?_)
    rw [List.Nodup.mem_erase_iff hb, ← h y]
    constructor
    · intro hy
      exact ⟨fun e => h1 (e ▸ hy), by simp [hy]⟩
    · rintro ⟨hne, hy⟩
      rcases List.mem_cons.1 hy with e | hy
      · exact absurd e hne
      · exact hy
theorem sort_eq {c d : List TkD} (hp : c.Perm d) (hd : d.Pairwise fun x y => x.1 < y.1) : sortTk cmpF c = d := by
  have hinj : ∀ x ∈ d, ∀ y ∈ d, x.1 = y.1 → x = y := by
    intro x hx y hy e
    obtain ⟨i, hi, rfl⟩ := List.getElem_of_mem hx
    obtain ⟨j, hj, rfl⟩ := List.getElem_of_mem hy
    rw [List.pairwise_iff_getElem] at hd
    rcases Nat.lt_trichotomy i j with h | h | h
    · have := hd i j hi hj h; omega
    · subst h; rfl
    · have := hd j i hj hi h; omega
  have p2 : (sortTk cmpF c).Perm c := List.mergeSort_perm c _
  refine List.Perm.eq_of_pairwise (le := fun x y => x.1 ≤ y.1) (fun a b ha hb h1 h2 => hinj a ((p2.trans hp).mem_iff.1 ha) b hb (by omega)) ?_ (hd.imp fun h => by omega) (p2.trans hp)
  have := List.pairwise_mergeSort (le := fun x y : TkD => !decide (cmpF (tk y) (tk x) < 0)) (fun a b q h1 h2 => by
    simp [cmpF_lt, tk] at *; omega) (fun a b => by simp [cmpF_lt, tk]; omega) c
  exact this.imp fun h => by simp [cmpF_lt, tk] at h; exact h
theorem toT_up {m : MpD} (h : keysUp m) : (m.map toT).Pairwise fun x y => x.1 < y.1 := by
  rw [List.pairwise_map]
  exact h.imp fun h => h
/-- What has been handed out of a map: each pair once. -/
def outI (m dn : MpD) : Prop := (∀ x ∈ dn, x ∈ m) ∧ (dn.map (·.1)).Nodup
theorem outI_nil (m : MpD) : outI m [] := ⟨by simp, by simp⟩
theorem outI_snoc {m dn : MpD} {n v : Int} (h : outI m dn) (hm : (n, v) ∈ m) (hn : ∀ y ∈ dn, y.1 ≠ n) : outI m (dn ++ [(n, v)]) := by
  refine ⟨fun x hx => ?_, ?_⟩
  · rcases List.mem_append.1 hx with hx | hx
    · exact h.1 x hx
    · simp at hx; subst hx; exact hm
  · rw [List.map_append, List.nodup_append]
    refine ⟨h.2, by simp, ?_⟩
    intro a ha b hb
    obtain ⟨y, hy, rfl⟩ := List.mem_map.1 ha
    simp at hb; subst hb
    exact hn y hy
theorem outI_len {m dn : MpD} (h : outI m dn) : dn.length ≤ m.length := nodup_len (keys_nodup h.2) h.1
theorem outI_all {m dn : MpD} (h : outI m dn) (hu : keysUp m) (ha : ∀ x ∈ m, x ∈ dn) : (dn.map toT).Perm (m.map toT) :=
  (nodup_perm (keys_nodup h.2) (keys_nodup (up_keys hu)) fun x => ⟨h.1 x, ha x⟩).map _
theorem outI_inj {m dn : MpD} (h : outI m dn) : ∀ x ∈ dn.map toT, ∀ y ∈ dn.map toT, ¬ cmpF (tk x) (tk y) < 0 → ¬ cmpF (tk y) (tk x) < 0 → x = y := by
  intro x hx y hy h1 h2
  obtain ⟨a, ha, rfl⟩ := List.mem_map.1 hx
  obtain ⟨b, hb, rfl⟩ := List.mem_map.1 hy
  simp only [cmpF_lt, tk, toT] at h1 h2
  rw [keys_inj h.2 ha hb (by omega)]
end Go.Proofs.YtigfbjjphegleaaDoor
set_option linter.unusedSimpArgs false
set_option linter.unusedVariables false
set_option maxRecDepth 100000
namespace Go.Proofs.YtigfbjjphegleaaDoor
open Go Go.Eng

@[reducible] def ctNaN : CT := { ps := [.int .i64], pre := fun d => True, res := fun d => ([], vB (false)) }
@[reducible] def cl63 : List (Nat × CT) := []
@[reducible] def ann63 (x : Int) : Nat → Option (St → Ann) := fun _ => none
set_option maxRecDepth 100000 in
theorem f63_vc (x : Int) :
    ([] : List Go.Eng.Res) = [] ∧ Ent.one (SV.c (SC.v (Value.bool false))) = Ent.one (SV.c (SC.v (Value.bool !decide (x = x)))) := by
  simp
set_option maxHeartbeats 2000000 in
set_option maxRecDepth 100000 in
theorem f63_met : Go.Eng.Met Tryd.prog cx0.gd 63 ctNaN :=
  met_of (cx := cx0) (n := 6) (cl := cl63) (by kernel_rfl) tis_ok trivial Tryd.func63 (by kernel_rfl) (by kernel_rfl) rfl (by kernel_rfl) (by kernel_rfl) fun d hd => by
    obtain ⟨x, ⟨⟩⟩ := d
    exact ex_of (ann63 x) (f63_vc x) (by kernel_rfl)
@[reducible] def ctCmp : CT := { ps := [.int .i64, .int .i64], pre := fun d => True, res := fun d => ([], .one (.c (.v (.int .i64 (if d.1 < d.2.1 then -1 else if d.2.1 < d.1 then 1 else 0))))) }
@[reducible] def cl38 : List (Nat × CT) := [(63, ctNaN)]
@[reducible] def ann38 (x : Int) (y : Int) : Nat → Option (St → Ann) := fun _ => none
set_option maxRecDepth 100000 in
theorem f38_vc (x : Int) (y : Int) :
    True ∧ True ∧ br (decide (x < y)) (([] : List Go.Eng.Res) = [] ∧ Ent.one (SV.c (v6 ((if x < y then (-1 : Int) else if y < x then (1 : Int) else (0 : Int))))) = Ent.one (SV.c (v6 ((-1 : Int))))) (br (decide (y < x)) (([] : List Go.Eng.Res) = [] ∧ Ent.one (SV.c (v6 ((if x < y then (-1 : Int) else if y < x then (1 : Int) else (0 : Int))))) = Ent.one (SV.c (v6 ((1 : Int))))) (([] : List Go.Eng.Res) = [] ∧ Ent.one (SV.c (v6 ((if x < y then (-1 : Int) else if y < x then (1 : Int) else (0 : Int))))) = Ent.one (SV.c (v6 ((0 : Int)))))) := by
  refine ⟨trivial, trivial, br_iff.2 ⟨fun h => ?_, fun h => br_iff.2 ⟨fun h2 => ?_, fun h2 => ?_⟩⟩⟩
  · simp_all
  · simp_all
  · simp only [decide_eq_false_iff_not] at h h2
    rw [if_neg h, if_neg h2]; exact ⟨rfl, rfl⟩
set_option maxHeartbeats 2000000 in
set_option maxRecDepth 100000 in
theorem f38_met : Go.Eng.Met Tryd.prog cx0.gd 38 ctCmp :=
  met_of (cx := cx0) (n := 20) (cl := cl38) (by kernel_rfl) tis_ok ⟨f63_met, trivial⟩ Tryd.func38 (by kernel_rfl) (by kernel_rfl) rfl (by kernel_rfl) (by kernel_rfl) fun d hd => by
    obtain ⟨x, y, ⟨⟩⟩ := d
    exact ex_of (ann38 x y) (f38_vc x y) (by kernel_rfl)
@[reducible] def cl37 : List (Nat × CT) := [(38, ctCmp)]
@[reducible] def ann37 (a : Int) (b : Int) (c : Int) (q : Int) : Nat → Option (St → Ann) := fun _ => none
set_option maxRecDepth 100000 in
theorem f37_vc (a : Int) (b : Int) (c : Int) (q : Int) :
    True ∧ ([] : List Go.Eng.Res) = [] ∧ Ent.one (SV.c (v6 ((cmpF (tk (a, b, ())) (tk (c, q, ())))))) = Ent.one (SV.c (v6 ((if a < c then (-1 : Int) else if c < a then (1 : Int) else (0 : Int))))) := by
  exact ⟨trivial, rfl, rfl⟩
set_option maxHeartbeats 2000000 in
set_option maxRecDepth 100000 in
theorem f37_met : Go.Eng.Met Tryd.prog cx0.gd 37 (ctCmpT cmpF) :=
  met_of (cx := cx0) (n := 10) (cl := cl37) (by kernel_rfl) tis_ok ⟨f38_met, trivial⟩ Tryd.func37 (by kernel_rfl) (by kernel_rfl) rfl (by kernel_rfl) (by kernel_rfl) fun d hd => by
    obtain ⟨⟨a, b, ⟨⟩⟩, ⟨c, q, ⟨⟩⟩, ⟨⟩⟩ := d
    exact ex_of (ann37 a b c q) (f37_vc a b c q) (by kernel_rfl)
theorem f36_ip : MetIP Tryd.prog cx0.gd 36 (ipSortT 37 cmpF) := ⟨ipok_sortk swoF f37_met.1 (fun blk cap d w h1 h2 h3 h4 => Proofs.Tryd.sort36 swoF 37 f37_met.2.enters blk cap d w h1 h2 h3 h4) (fun a cap w => Proofs.Tryd.sort36_none _ a cap w), ⟨_, Tryd.func36, rfl, by kernel_rfl⟩⟩
@[reducible] noncomputable def ctClk : CT := { ps := [.sl shE], pre := fun d => ∀ e ∈ d.1, bE e, res := fun d => ([], .one (.c (.sl (.sl shTk) (clkM d.1)))) }
@[reducible] noncomputable def cl17 : List (Nat × CT) := [(33, ctPst), (34, ctHas)]
@[reducible] def il17 : List (Nat × IP) := [(36, (ipSortT 37 cmpF))]
@[reducible] noncomputable def ann17 (l : List ED) : Nat → Option (St → Ann) := fun n => match n with
  | 6 => some fun _ => .inv { α := Nat, slots := fun k => [(18, .c (.v (.int .i64 k))), (4, .c (.row 0))], res := fun k => [(0, .row 32 (.sl shTk) (clkP l k))], inv := fun k => k ≤ l.length, meas := fun k => l.length - k, nil := [(4, 32, .sl shTk)] }
  | 10 => some fun s => .inv { α := Nat, slots := fun k => [(29, .c (.v (.int .i64 k)))], res := fun k => [(1, .mp .i64 (.int .i64) (ckA l (slotI s 5).toNat k))], inv := fun k => k ≤ (slotI s 5).toNat, meas := fun k => (slotI s 5).toNat - k }
  | 17 => some fun s => .inv { α := MpD, nil := [(8, 57, shTk)], slots := fun dn => [(8, .c (.row 3))], res := fun dn => [(2, .it .i64 (.int .i64) (ckA l (slotI s 5).toNat (slotI s 5).toNat) dn), (3, .row 57 shTk (dn.map toT))], inv := fun dn => outI (ckA l (slotI s 5).toNat (slotI s 5).toNat) dn, meas := fun dn => (ckA l (slotI s 5).toNat (slotI s 5).toNat).length - dn.length }
  | _ => none
@[reducible] def hl17 : List (Nat × Nat × CT) := []
@[reducible] noncomputable def ml17 : List (Nat × MK) := []
set_option maxRecDepth 100000 in
theorem f17_vc (l : List ED) (hpre : ctClk.pre (l, ())) :
    br (decide ((512 : Int) < (↑l.length : Int))) (([] : List Go.Eng.Res) = [] ∧ Ent.one (SV.c (SC.sl shTk.sl (clkM l))) = Ent.one (SV.c (SC.sl shTk.sl []))) ((l.length ≤ (512 : Nat) ∧ ∀ (e : I6.den × (I6.pair (I6.pair (I6.pair (I6.pair (I6.pair (I6.pair shTk)))))).den), e ∈ l → bE e) ∧ (∃ x, x ≤ l.length ∧ (SV.c (v6 ((0 : Int))) = SV.c (v6 ((↑x : Int))) ∧ SV.c (SC.row (0 : Nat)) = SV.c (SC.row (0 : Nat)) ∧ True) ∧ [(([] : Go.Eng.Gd), Res.row (32 : TypeId) shTk.sl [])] = [(([] : Go.Eng.Gd), Res.row (32 : TypeId) shTk.sl (clkP l x))]) ∧ ∀ (x : Nat), x ≤ l.length → br (decide ((↑x : Int) < (↑l.length : Int))) (((0 : Int) ≤ (↑x : Int) ∧ (↑x : Int) < (↑l.length : Int)) ∧ ∀ (d : I6.den × (I6.pair (I6.pair (I6.pair (I6.pair (I6.pair (I6.pair shTk)))))).den), l[(↑x : Int).toNat]? = some d → (∃ x_1, x_1 ≤ (↑x : Int).toNat ∧ (SV.c (v6 ((0 : Int))) = SV.c (v6 ((↑x_1 : Int))) ∧ True) ∧ [(([] : Go.Eng.Gd), Res.row (32 : TypeId) shTk.sl (clkP l x)), (([] : Go.Eng.Gd), Res.mp IntKind.i64 I6 (mput ([]) d.fst (1 : Int)))] = [(([] : Go.Eng.Gd), Res.row (32 : TypeId) shTk.sl (clkP l x)), (([] : Go.Eng.Gd), Res.mp IntKind.i64 I6 (ckA l (↑x : Int).toNat x_1))]) ∧ ∀ (x_1 : Nat), x_1 ≤ (↑x : Int).toNat → br (decide ((↑x_1 : Int) < (↑x : Int))) (((0 : Int) ≤ (↑x : Int) ∧ (↑x : Int) < (↑(pstM l).length : Int)) ∧ ∀ (d_1 : List (Sh.int IntKind.u64).den), (pstM l)[(↑x : Int).toNat]? = some d_1 → ((0 : I6.den) ≤ (↑x_1 : Int) ∧ (↑x_1 : Int) < (64 : I6.den) * (↑d_1.length : I6.den) ∧ okW d_1 ∧ d_1.length ≤ (1000 : Nat)) ∧ br (hasB d_1 (↑x_1 : Int).toNat) (((0 : Int) ≤ (↑x_1 : Int) ∧ (↑x_1 : Int) < (↑l.length : Int)) ∧ ∀ (d_2 : I6.den × (I6.pair (I6.pair (I6.pair (I6.pair (I6.pair (I6.pair shTk)))))).den), l[(↑x_1 : Int).toNat]? = some d_2 → InR IntKind.i64 (mgetD (ckA l (↑x : Int).toNat x_1) d_2.fst (0 : Int) + (1 : Int)) ∧ InR IntKind.i64 ((↑x_1 : Int) + (1 : Int)) ∧ ∃ x', x' ≤ (↑x : Int).toNat ∧ (SV.c (v6 (((↑x_1 : Int) + (1 : Int)))) = SV.c (v6 ((↑x' : Int))) ∧ True) ∧ [(([] : Go.Eng.Gd), Res.row (32 : TypeId) shTk.sl (clkP l x)), (([] : Go.Eng.Gd), Res.mp IntKind.i64 I6 (mput (ckA l (↑x : Int).toNat x_1) d_2.fst (mgetD (ckA l (↑x : Int).toNat x_1) d_2.fst (0 : Int) + (1 : Int))))] = [(([] : Go.Eng.Gd), Res.row (32 : TypeId) shTk.sl (clkP l x)), (([] : Go.Eng.Gd), Res.mp IntKind.i64 I6 (ckA l (↑x : Int).toNat x'))] ∧ (↑x : Int).toNat - x' < (↑x : Int).toNat - x_1) (InR IntKind.i64 ((↑x_1 : Int) + (1 : Int)) ∧ ∃ x', x' ≤ (↑x : Int).toNat ∧ (SV.c (v6 (((↑x_1 : Int) + (1 : Int)))) = SV.c (v6 ((↑x' : Int))) ∧ True) ∧ [(([] : Go.Eng.Gd), Res.row (32 : TypeId) shTk.sl (clkP l x)), (([] : Go.Eng.Gd), Res.mp IntKind.i64 I6 (ckA l (↑x : Int).toNat x_1))] = [(([] : Go.Eng.Gd), Res.row (32 : TypeId) shTk.sl (clkP l x)), (([] : Go.Eng.Gd), Res.mp IntKind.i64 I6 (ckA l (↑x : Int).toNat x'))] ∧ (↑x : Int).toNat - x' < (↑x : Int).toNat - x_1)) ((∃ x_2, outI (ckA l (↑x : Int).toNat (↑x : Int).toNat) x_2 ∧ (SV.c (SC.row (Nat.succ (0 : Nat)).succ.succ) = SV.c (SC.row (3 : Nat)) ∧ True) ∧ [(([] : Go.Eng.Gd), Res.row (32 : TypeId) shTk.sl (clkP l x)), (([] : Go.Eng.Gd), Res.gone), (([] : Go.Eng.Gd), Res.it IntKind.i64 I6 (ckA l (↑x : Int).toNat x_1) []), (([] : Go.Eng.Gd), Res.row (57 : TypeId) shTk [])] = [(([] : Go.Eng.Gd), Res.row (32 : TypeId) shTk.sl (clkP l x)), (([] : Go.Eng.Gd), Res.gone), (([] : Go.Eng.Gd), Res.it IntKind.i64 I6 (ckA l (↑x : Int).toNat (↑x : Int).toNat) x_2), (([] : Go.Eng.Gd), Res.row (57 : TypeId) shTk (List.map toT x_2))]) ∧ ∀ (x_2 : List (Int × Int)), outI (ckA l (↑x : Int).toNat (↑x : Int).toNat) x_2 → ((∀ (x_3 : Int × I6.den), x_3 ∈ ckA l (↑x : Int).toNat (↑x : Int).toNat → x_3 ∈ x_2) → (Value.func (Fn.func (37 : Nat)) #[] #[] = Value.func (Fn.func (37 : FuncId)) #[] #[] ∧ List.length (List.map toT x_2) ≤ (1000000 : Nat) ∧ ∀ (x : I6.den × (I6.pair Sh.unit).den), x ∈ List.map toT x_2 → ∀ (y : I6.den × (I6.pair Sh.unit).den), y ∈ List.map toT x_2 → ¬cmpF (tk x) (tk y) < (0 : Int) → ¬cmpF (tk y) (tk x) < (0 : Int) → x = y) ∧ InA (List.length (clkP l x) + List.length ([sortTk cmpF (List.map toT x_2)])) (24 : Nat) ∧ InR IntKind.i64 ((↑x : Int) + (1 : Int)) ∧ ∃ x', x' ≤ l.length ∧ (SV.c (v6 (((↑x : Int) + (1 : Int)))) = SV.c (v6 ((↑x' : Int))) ∧ SV.c (SC.row (0 : Nat)) = SV.c (SC.row (0 : Nat)) ∧ True) ∧ [(([] : Go.Eng.Gd), Res.row (32 : TypeId) shTk.sl (clkP l x ++ [sortTk cmpF (List.map toT x_2)]))] = [(([] : Go.Eng.Gd), Res.row (32 : TypeId) shTk.sl (clkP l x'))] ∧ l.length - x' < l.length - x) ∧ ∀ (n v : Int), (n, v) ∈ ckA l (↑x : Int).toNat (↑x : Int).toNat → (∀ (y : Int × I6.den), y ∈ x_2 → y.fst ≠ n) → x_2 ++ [(n, v)] ≠ [] ∧ ∀ (n_1 v_1 : Int), (x_2 ++ [(n, v)]).getLast? = some (n_1, v_1) → InA (List.length (List.map toT x_2) + List.length ([(n_1, v_1, ())])) (16 : Nat) ∧ ∃ x', outI (ckA l (↑x : Int).toNat (↑x : Int).toNat) x' ∧ (SV.c (SC.row (3 : Nat)) = SV.c (SC.row (3 : Nat)) ∧ True) ∧ [(([] : Go.Eng.Gd), Res.row (32 : TypeId) shTk.sl (clkP l x)), (([] : Go.Eng.Gd), Res.gone), (([] : Go.Eng.Gd), Res.it IntKind.i64 I6 (ckA l (↑x : Int).toNat (↑x : Int).toNat) (x_2 ++ [(n, v)])), (([] : Go.Eng.Gd), Res.row (57 : TypeId) shTk (List.map toT x_2 ++ [(n_1, v_1, ())]))] = [(([] : Go.Eng.Gd), Res.row (32 : TypeId) shTk.sl (clkP l x)), (([] : Go.Eng.Gd), Res.gone), (([] : Go.Eng.Gd), Res.it IntKind.i64 I6 (ckA l (↑x : Int).toNat (↑x : Int).toNat) x'), (([] : Go.Eng.Gd), Res.row (57 : TypeId) shTk (List.map toT x'))] ∧ List.length (ckA l (↑x : Int).toNat (↑x : Int).toNat) - List.length x' < List.length (ckA l (↑x : Int).toNat (↑x : Int).toNat) - x_2.length)) (([] : List Go.Eng.Res) = [] ∧ Ent.one (SV.c (SC.sl shTk.sl (clkM l))) = Ent.one (SV.c (SC.sl shTk.sl (clkP l x))))) := by
  have hb : ∀ e ∈ l, bE e := hpre
  refine br_iff.2 ⟨fun h => ⟨rfl, ?_⟩, fun h => ?_⟩
  · simp only [decide_eq_true_eq] at h
    rw [show clkM l = [] from if_pos (by omega)]
  simp only [decide_eq_false_iff_not] at h
  have hl : l.length ≤ 512 := by omega
  refine ⟨⟨hl, hb⟩, ⟨0, by omega, ⟨rfl, rfl, trivial⟩, rfl⟩, fun x hx => br_iff.2 ⟨fun g => ?_, fun g => ?_⟩⟩
  · simp only [decide_eq_true_eq] at g
    have hxl : x < l.length := by omega
    simp only [show (x : Int).toNat = x from rfl]
    refine ⟨⟨by omega, by omega⟩, fun d hd => ⟨⟨0, Nat.zero_le _, ⟨by trivial, trivial⟩, ?_⟩, fun k hk => br_iff.2 ⟨fun g2 => ?_, fun g2 => ?_⟩⟩⟩
    · have hd : l[x]? = some d := hd
      have e : agA l x = d.1 := by simp [agA, hd, eA]
      rw [← e]; rfl
    · simp only [decide_eq_true_eq] at g2
      have hkx : k < x := by omega
      simp only [show (k : Int).toNat = k from rfl]
      refine ⟨⟨by omega, by rw [pstM_len]; omega⟩, fun d1 hd1 => ?_⟩
      obtain ⟨rfl, _⟩ := pst_at hd1
      refine ⟨pst_pre (by omega) (by omega), ?_⟩
      rw [has_pst (by omega)]
      refine br_iff.2 ⟨fun h => ⟨⟨by omega, by omega⟩, fun d2 hd2 => ?_⟩, fun h => ⟨InR_i64.2 (by omega), k + 1, by omega, ⟨by trivial, trivial⟩, ?_, by omega⟩⟩
      · have hd2 : l[k]? = some d2 := hd2
        have e : agA l k = d2.1 := by simp [agA, hd2, eA]
        have gb := get_bnd (ckA_bnd l x k) (ckA_up l x k) (by omega) d2.1
        refine ⟨InR_i64.2 (by show _ ≤ mgetD (ckA l x k) d2.1 0 + 1 ∧ mgetD (ckA l x k) d2.1 0 + 1 ≤ _; omega), InR_i64.2 (by omega), k + 1, by omega, ⟨by trivial, trivial⟩, ?_, by omega⟩
        rw [show ckA l x (k + 1) = bump (ckA l x k) (agA l k) from if_pos h, e]; rfl
      · rw [show ckA l x (k + 1) = ckA l x k from if_neg (by rw [h]; simp)]
    · simp only [decide_eq_false_iff_not] at g2
      have ek : k = x := by omega
      subst ek
      refine ⟨⟨[], outI_nil _, ⟨by trivial, trivial⟩, by trivial⟩, fun dn hdn => ⟨fun hall => ?_, fun n v hm hn => ⟨by simp, fun n1 v1 hl1 => ?_⟩⟩⟩
      · have hp := outI_all hdn (ckA_up l k k) hall
        have es : sortTk cmpF (dn.map toT) = ckL l k := sort_eq hp (toT_up (ckA_up l k k))
        have le := outI_len hdn
        have lc := ckA_len l k k
        have e : clkP l k ++ [sortTk cmpF (dn.map toT)] = clkP l (k + 1) := by rw [es, clkP_succ]
        exact ⟨⟨by trivial, by show (dn.map toT).length ≤ 1000000; rw [List.length_map]; omega, outI_inj hdn⟩, inA24 (by show (clkP l k).length + 1 ≤ 100000; rw [clkP_len]; omega), InR_i64.2 (by omega), k + 1, by omega, ⟨by trivial, by trivial, trivial⟩, congrArg (fun z : List (List TkD) => [(([] : Go.Eng.Gd), Res.row 32 (.sl shTk) z)]) e, by omega⟩
      · have hn2 := outI_snoc hdn hm hn
        have le := outI_len hn2
        have lc := ckA_len l k k
        rw [List.length_append] at le
        simp only [List.getLast?_append, List.getLast?_singleton, Option.some_or, Option.some.injEq, Prod.mk.injEq] at hl1
        obtain ⟨rfl, rfl⟩ := hl1
        have e : dn.map toT ++ [(n, v, ())] = (dn ++ [(n, v)]).map toT := by simp [toT]
        refine ⟨inA16 (by show (dn.map toT).length + 1 ≤ 100000; rw [List.length_map]; simp only [List.length_cons, List.length_nil] at le; omega), dn ++ [(n, v)], hn2, ⟨by trivial, trivial⟩, ?_, ?_⟩
        · exact congrArg (fun z : List TkD => _ :: _ :: _ :: [(([] : Go.Eng.Gd), Res.row 57 shTk z)]) e
        · rw [List.length_append]
          simp only [List.length_cons, List.length_nil] at le ⊢
          omega
  · simp only [decide_eq_false_iff_not] at g
    have ex : x = l.length := by omega
    subst ex
    refine ⟨rfl, ?_⟩
    rw [show clkM l = clkP l l.length from if_neg (by omega)]
set_option maxHeartbeats 2000000 in
set_option maxRecDepth 100000 in
theorem f17_met : Go.Eng.Met Tryd.prog cx0.gd 17 ctClk :=
  (met_all (cx := cx0) (n := 68) (cl := cl17) (il := il17) (hl := hl17) (ml := ml17) (rc := [.data (.sl (.sl shTk))]) (lits := []) (suf := []) (by kernel_rfl) tis_ok ⟨f33_met, f34_met, trivial⟩ ⟨f36_ip, trivial⟩ trivial trivial Tryd.func17 (by kernel_rfl) (by kernel_rfl) rfl (by kernel_rfl) (by kernel_rfl) (by simp) fun d hd => by
    obtain ⟨l, ⟨⟩⟩ := d
    exact ex_of (ann17 l) (f17_vc l hd) (by kernel_rfl)).met
end Go.Proofs.YtigfbjjphegleaaDoor
set_option linter.unusedSimpArgs false
set_option linter.unusedVariables false
namespace Go.Proofs.YtigfbjjphegleaaDoor
open Go Go.Eng
def stp (a : Int) (s : List TkD × Bool) (t : TkD) : List TkD × Bool :=
  let s1 := if (!s.2 && decide (a < t.1)) = true then (s.1 ++ [(a, 1, ())], true) else s
  if t.1 = a then (s1.1 ++ [(t.1, t.2.1 + 1, ())], true) else (s1.1 ++ [t], s1.2)
def tkF (c : List TkD) (a : Int) (k : Nat) : List TkD × Bool := (c.take k).foldl (stp a) ([], false)
def tickM (c : List TkD) (a : Int) : List TkD := if (tkF c a c.length).2 = true then (tkF c a c.length).1 else (tkF c a c.length).1 ++ [(a, 1, ())]
theorem stp_tt {a : Int} {s : List TkD × Bool} {t : TkD} (h : (!s.2 && decide (a < t.1)) = true) (h2 : t.1 = a) : stp a s t = (s.1 ++ [(a, 1, ())] ++ [(t.1, t.2.1 + 1, ())], true) := by
  simp only [stp, h, if_true, if_pos h2]
theorem stp_tf {a : Int} {s : List TkD × Bool} {t : TkD} (h : (!s.2 && decide (a < t.1)) = true) (h2 : ¬ t.1 = a) : stp a s t = (s.1 ++ [(a, 1, ())] ++ [t], true) := by
  simp only [stp, h, if_true, if_neg h2]
theorem stp_ft {a : Int} {s : List TkD × Bool} {t : TkD} (h : (!s.2 && decide (a < t.1)) = false) (h2 : t.1 = a) : stp a s t = (s.1 ++ [(t.1, t.2.1 + 1, ())], true) := by
  simp only [stp, h, if_pos h2]; simp
theorem stp_ff {a : Int} {s : List TkD × Bool} {t : TkD} (h : (!s.2 && decide (a < t.1)) = false) (h2 : ¬ t.1 = a) : stp a s t = (s.1 ++ [t], s.2) := by
  simp only [stp, h, if_neg h2]; simp
theorem tkF_succ {c : List TkD} {a : Int} {k : Nat} {t : TkD} (h : c[k]? = some t) : tkF c a (k + 1) = stp a (tkF c a k) t := by
  unfold tkF
  rw [List.take_add_one, h]
  simp
theorem stp_len (a : Int) (s : List TkD × Bool) (t : TkD) : (stp a s t).1.length ≤ s.1.length + 2 := by
  unfold stp
  simp only
  split <;> split <;> simp
theorem fold_len (a : Int) : ∀ (c : List TkD) (s : List TkD × Bool), (c.foldl (stp a) s).1.length ≤ s.1.length + 2 * c.length
  | [], s => by simp
  | t :: c, s => by
    have h1 := fold_len a c (stp a s t)
    have h2 := stp_len a s t
    simp only [List.foldl_cons, List.length_cons]
    omega
theorem tkF_len (c : List TkD) (a : Int) (k : Nat) : (tkF c a k).1.length ≤ 2 * c.length := by
  have := fold_len a (c.take k) ([], false)
  rw [List.length_take] at this
  simp only [List.length_nil] at this
  unfold tkF; omega
theorem fold_done {a : Int} : ∀ {m : MpD} {o : List TkD}, (∀ p ∈ m, p.1 ≠ a) → (m.map toT).foldl (stp a) (o, true) = (o ++ m.map toT, true)
  | [], o, _ => by simp
  | p :: m, o, h => by
    have h1 : (toT p).1 ≠ a := h p (by simp)
    rw [List.map_cons, List.foldl_cons, show stp a (o, true) (toT p) = (o ++ [toT p], true) by simp [stp, h1], fold_done (fun q hq => h q (by simp [hq]))]
    simp
theorem fold_bump {a : Int} : ∀ {m : MpD} {o : List TkD}, keysUp m →
    (if ((m.map toT).foldl (stp a) (o, false)).2 = true then ((m.map toT).foldl (stp a) (o, false)).1 else ((m.map toT).foldl (stp a) (o, false)).1 ++ [(a, 1, ())]) = o ++ (bump m a).map toT
  | [], o, _ => by simp [bump, mput, mgetD, mget, toT]
  | (k, v) :: m, o, hu => by
    obtain ⟨h1, h2⟩ := up_cons.1 hu
    rw [List.map_cons, List.foldl_cons]
    by_cases hak : a < k
    · have e : stp a (o, false) (toT (k, v)) = (o ++ [(a, 1, ())] ++ [toT (k, v)], true) := by
        simp [stp, toT, hak, show ¬ k = a by omega]
      rw [e, fold_done (fun p hp => by have := h1 p hp; simp at this; omega)]
      have hn : mget ((k, v) :: m) a = none := mget_none.2 fun x hx => by
        rcases List.mem_cons.1 hx with rfl | hx
        · simp; omega
        · have := h1 x hx; simp at this; omega
      simp [bump, mgetD, hn, mput, hak, toT]
    · by_cases hk : k = a
      · subst hk
        have e : stp k (o, false) (toT (k, v)) = (o ++ [(k, v + 1, ())], true) := by simp [stp, toT]
        rw [e, fold_done (fun p hp => by have := h1 p hp; simp at this; omega)]
        simp [bump, mgetD, mget, mput, toT]
      · have e : stp a (o, false) (toT (k, v)) = (o ++ [toT (k, v)], false) := by simp [stp, toT, hak, hk]
        rw [e, fold_bump h2]
        simp [bump, mgetD, mget, mput, hak, hk]
theorem tick_bump {m : MpD} (hu : keysUp m) (a : Int) : tickM (m.map toT) a = (bump m a).map toT := by
  have := fold_bump (a := a) (o := []) hu
  unfold tickM tkF
  rw [List.take_length]
  simpa using this
end Go.Proofs.YtigfbjjphegleaaDoor
set_option linter.unusedSimpArgs false
set_option linter.unusedVariables false
set_option maxRecDepth 100000
namespace Go.Proofs.YtigfbjjphegleaaDoor
open Go Go.Eng

@[reducible] def ctTick : CT := { ps := [.sl shTk, .int .i64], pre := fun d => d.1.length ≤ 1000 ∧ ∀ t ∈ d.1, 0 ≤ t.2.1 ∧ t.2.1 ≤ 1000, res := fun d => ([], .one (.c (.sl shTk (tickM d.1 d.2.1)))) }
@[reducible] def cl39 : List (Nat × CT) := []
@[reducible] def ann39 (cl : List TkD) (a : Int) : Nat → Option (St → Ann) := fun n => match n with
  | 4 => some fun _ => .inv { α := Nat, slots := fun k => [(7, .c (.v (.int .i64 k))), (6, .c (.v (.bool (tkF cl a k).2))), (5, .c (.row 0))], res := fun k => [(0, .row 57 shTk (tkF cl a k).1)], inv := fun k => k ≤ cl.length, meas := fun k => cl.length - k, nil := [(5, 57, shTk)] }
  | _ => none
@[reducible] def il39 : List (Nat × IP) := []
@[reducible] def hl39 : List (Nat × Nat × CT) := []
@[reducible] def ml39 : List (Nat × MK) := []
set_option maxRecDepth 100000 in
theorem f39_vc (cl : List TkD) (a : Int) (hpre : ctTick.pre (cl, a, ())) :
    (∃ x, x ≤ cl.length ∧ (SV.c (v6 ((0 : Int))) = SV.c (v6 ((↑x : Int))) ∧ SV.c (SC.v (Value.bool false)) = SV.c (SC.v (Value.bool (tkF cl a x).snd)) ∧ SV.c (SC.row (0 : Nat)) = SV.c (SC.row (0 : Nat)) ∧ True) ∧ [(([] : Go.Eng.Gd), Res.row (57 : TypeId) shTk [])] = [(([] : Go.Eng.Gd), Res.row (57 : TypeId) shTk (tkF cl a x).fst)]) ∧ ∀ (x : Nat), x ≤ cl.length → br (decide ((↑x : Int) < (↑cl.length : Int))) (((!(tkF cl a x).snd) = true → (0 : Int) ≤ (↑x : Int) ∧ (↑x : Int) < (↑cl.length : Int)) ∧ ∀ (d : I6.den × (I6.pair Sh.unit).den), ((!(tkF cl a x).snd) = true → cl[(↑x : Int).toNat]? = some d) → br (!(tkF cl a x).snd && decide (a < d.fst)) (InA (List.length ((tkF cl a x).fst) + List.length ([(a, (1 : Int), ())])) (16 : Nat) ∧ ((0 : Int) ≤ (↑x : Int) ∧ (↑x : Int) < (↑cl.length : Int)) ∧ ∀ (d : I6.den × (I6.pair Sh.unit).den), cl[(↑x : Int).toNat]? = some d → br (decide (d.fst = a)) (InR IntKind.i64 (d.snd.fst + (1 : Int)) ∧ InA (List.length (((tkF cl a x).fst ++ [(a, (1 : Int), ())])) + List.length ([(d.fst, d.snd.fst + (1 : Int), ())])) (16 : Nat) ∧ InR IntKind.i64 ((↑x : Int) + (1 : Int)) ∧ ∃ x', x' ≤ cl.length ∧ (SV.c (v6 (((↑x : Int) + (1 : Int)))) = SV.c (v6 ((↑x' : Int))) ∧ SV.c (SC.v (Value.bool true)) = SV.c (SC.v (Value.bool (tkF cl a x').snd)) ∧ SV.c (SC.row (0 : Nat)) = SV.c (SC.row (0 : Nat)) ∧ True) ∧ [(([] : Go.Eng.Gd), Res.row (57 : TypeId) shTk (((tkF cl a x).fst ++ [(a, (1 : Int), ())]) ++ [(d.fst, d.snd.fst + (1 : Int), ())]))] = [(([] : Go.Eng.Gd), Res.row (57 : TypeId) shTk (tkF cl a x').fst)] ∧ cl.length - x' < cl.length - x) (InA (List.length (((tkF cl a x).fst ++ [(a, (1 : Int), ())])) + List.length ([(d.fst, d.snd.fst, ())])) (16 : Nat) ∧ InR IntKind.i64 ((↑x : Int) + (1 : Int)) ∧ ∃ x', x' ≤ cl.length ∧ (SV.c (v6 (((↑x : Int) + (1 : Int)))) = SV.c (v6 ((↑x' : Int))) ∧ SV.c (SC.v (Value.bool true)) = SV.c (SC.v (Value.bool (tkF cl a x').snd)) ∧ SV.c (SC.row (0 : Nat)) = SV.c (SC.row (0 : Nat)) ∧ True) ∧ [(([] : Go.Eng.Gd), Res.row (57 : TypeId) shTk (((tkF cl a x).fst ++ [(a, (1 : Int), ())]) ++ [(d.fst, d.snd.fst, ())]))] = [(([] : Go.Eng.Gd), Res.row (57 : TypeId) shTk (tkF cl a x').fst)] ∧ cl.length - x' < cl.length - x)) (((0 : Int) ≤ (↑x : Int) ∧ (↑x : Int) < (↑cl.length : Int)) ∧ ∀ (d : I6.den × (I6.pair Sh.unit).den), cl[(↑x : Int).toNat]? = some d → br (decide (d.fst = a)) (InR IntKind.i64 (d.snd.fst + (1 : Int)) ∧ InA (List.length ((tkF cl a x).fst) + List.length ([(d.fst, d.snd.fst + (1 : Int), ())])) (16 : Nat) ∧ InR IntKind.i64 ((↑x : Int) + (1 : Int)) ∧ ∃ x', x' ≤ cl.length ∧ (SV.c (v6 (((↑x : Int) + (1 : Int)))) = SV.c (v6 ((↑x' : Int))) ∧ SV.c (SC.v (Value.bool true)) = SV.c (SC.v (Value.bool (tkF cl a x').snd)) ∧ SV.c (SC.row (0 : Nat)) = SV.c (SC.row (0 : Nat)) ∧ True) ∧ [(([] : Go.Eng.Gd), Res.row (57 : TypeId) shTk ((tkF cl a x).fst ++ [(d.fst, d.snd.fst + (1 : Int), ())]))] = [(([] : Go.Eng.Gd), Res.row (57 : TypeId) shTk (tkF cl a x').fst)] ∧ cl.length - x' < cl.length - x) (InA (List.length ((tkF cl a x).fst) + List.length ([(d.fst, d.snd.fst, ())])) (16 : Nat) ∧ InR IntKind.i64 ((↑x : Int) + (1 : Int)) ∧ ∃ x', x' ≤ cl.length ∧ (SV.c (v6 (((↑x : Int) + (1 : Int)))) = SV.c (v6 ((↑x' : Int))) ∧ SV.c (SC.v (Value.bool (tkF cl a x).snd)) = SV.c (SC.v (Value.bool (tkF cl a x').snd)) ∧ SV.c (SC.row (0 : Nat)) = SV.c (SC.row (0 : Nat)) ∧ True) ∧ [(([] : Go.Eng.Gd), Res.row (57 : TypeId) shTk ((tkF cl a x).fst ++ [(d.fst, d.snd.fst, ())]))] = [(([] : Go.Eng.Gd), Res.row (57 : TypeId) shTk (tkF cl a x').fst)] ∧ cl.length - x' < cl.length - x))) (br (!(tkF cl a x).snd) (InA (List.length ((tkF cl a x).fst) + List.length ([(a, (1 : Int), ())])) (16 : Nat) ∧ ([] : List Go.Eng.Res) = [] ∧ Ent.one (SV.c (SC.sl shTk (tickM cl a))) = Ent.one (SV.c (SC.sl shTk (((tkF cl a x).fst ++ [(a, (1 : Int), ())]))))) (([] : List Go.Eng.Res) = [] ∧ Ent.one (SV.c (SC.sl shTk (tickM cl a))) = Ent.one (SV.c (SC.sl shTk ((tkF cl a x).fst))))) := by
  obtain ⟨hl, hc⟩ : cl.length ≤ 1000 ∧ ∀ t ∈ cl, 0 ≤ t.2.1 ∧ t.2.1 ≤ 1000 := hpre
  refine ⟨⟨0, by omega, ⟨rfl, rfl, rfl, trivial⟩, rfl⟩, fun x hx => br_iff.2 ⟨fun g => ?_, fun g => ?_⟩⟩
  · simp only [decide_eq_true_eq] at g
    refine ⟨fun _ => ⟨by omega, by omega⟩, fun d0 hd0 => br_iff.2 ⟨fun g2 => ⟨inA16 ?_, ⟨by omega, by omega⟩, fun d hd => ?_⟩, fun g2 => ⟨⟨by omega, by omega⟩, fun d hd => ?_⟩⟩⟩
    · have ln := tkF_len cl a x
      show (tkF cl a x).1.length + 1 ≤ 100000
      omega
    · have hd : cl[x]? = some d := hd
      have cnd : (!(tkF cl a x).2 && decide (a < d.1)) = true := by
        have g2' := g2
        rw [Bool.and_eq_true] at g2'
        have : d0 = d := Option.some.inj ((hd0 g2'.1).symm.trans hd)
        subst this
        exact g2
      refine br_iff.2 ⟨fun g3 => ?_, fun g3 => ?_⟩
      · have es := (tkF_succ (a := a) hd).trans (stp_tt cnd (by simpa using g3))
        have ln := tkF_len cl a x
        have bd := hc d (List.mem_of_getElem? hd)
        refine ⟨InR_i64.2 (by omega), inA16 ?_, InR_i64.2 (by omega), x + 1, by omega, ⟨rfl, by rw [es], rfl, trivial⟩, congrArg (fun z : List TkD => [(([] : Go.Eng.Gd), Res.row 57 shTk z)]) (congrArg Prod.fst es).symm, by omega⟩
        show ((tkF cl a x).1 ++ [(a, 1, ())]).length + 1 ≤ 100000
        (try simp only [List.length_append, List.length_cons, List.length_nil]); omega
      · have es := (tkF_succ (a := a) hd).trans (stp_tf cnd (by simpa using g3))
        have ln := tkF_len cl a x
        refine ⟨inA16 ?_, InR_i64.2 (by omega), x + 1, by omega, ⟨rfl, by rw [es], rfl, trivial⟩, congrArg (fun z : List TkD => [(([] : Go.Eng.Gd), Res.row 57 shTk z)]) (congrArg Prod.fst es).symm, by omega⟩
        show ((tkF cl a x).1 ++ [(a, 1, ())]).length + 1 ≤ 100000
        (try simp only [List.length_append, List.length_cons, List.length_nil]); omega
    · have hd : cl[x]? = some d := hd
      have cnd : (!(tkF cl a x).2 && decide (a < d.1)) = false := by
        cases hq : (!(tkF cl a x).2) with
        | false => rfl
        | true =>
          have : d0 = d := Option.some.inj ((hd0 hq).symm.trans hd)
          subst this
          rw [hq] at g2
          exact g2
      refine br_iff.2 ⟨fun g3 => ?_, fun g3 => ?_⟩
      · have es := (tkF_succ (a := a) hd).trans (stp_ft cnd (by simpa using g3))
        have ln := tkF_len cl a x
        have bd := hc d (List.mem_of_getElem? hd)
        refine ⟨InR_i64.2 (by omega), inA16 ?_, InR_i64.2 (by omega), x + 1, by omega, ⟨rfl, by rw [es], rfl, trivial⟩, congrArg (fun z : List TkD => [(([] : Go.Eng.Gd), Res.row 57 shTk z)]) (congrArg Prod.fst es).symm, by omega⟩
        show ((tkF cl a x).1).length + 1 ≤ 100000
        (try simp only [List.length_append, List.length_cons, List.length_nil]); omega
      · have es := (tkF_succ (a := a) hd).trans (stp_ff cnd (by simpa using g3))
        have ln := tkF_len cl a x
        refine ⟨inA16 ?_, InR_i64.2 (by omega), x + 1, by omega, ⟨rfl, by rw [es], rfl, trivial⟩, congrArg (fun z : List TkD => [(([] : Go.Eng.Gd), Res.row 57 shTk z)]) (congrArg Prod.fst es).symm, by omega⟩
        show ((tkF cl a x).1).length + 1 ≤ 100000
        (try simp only [List.length_append, List.length_cons, List.length_nil]); omega
  · simp only [decide_eq_false_iff_not] at g
    have ex : x = cl.length := by omega
    subst ex
    have ln := tkF_len cl a cl.length
    refine br_iff.2 ⟨fun g2 => ⟨inA16 (by show (tkF cl a cl.length).1.length + 1 ≤ 100000; omega), rfl, ?_⟩, fun g2 => ⟨rfl, ?_⟩⟩
    · have e : tickM cl a = (tkF cl a cl.length).1 ++ [(a, 1, ())] := if_neg (by simpa using g2)
      rw [e]
    · have e : tickM cl a = (tkF cl a cl.length).1 := if_pos (by simpa using g2)
      rw [e]
set_option maxHeartbeats 2000000 in
set_option maxRecDepth 100000 in
theorem f39_met : Go.Eng.Met Tryd.prog cx0.gd 39 ctTick :=
  (met_all (cx := cx0) (n := 55) (cl := cl39) (il := il39) (hl := hl39) (ml := ml39) (rc := [.data (.sl shTk)]) (lits := []) (suf := []) (by kernel_rfl) tis_ok trivial trivial trivial trivial Tryd.func39 (by kernel_rfl) (by kernel_rfl) rfl (by kernel_rfl) (by kernel_rfl) (by simp) fun d hd => by
    obtain ⟨cl, a, ⟨⟩⟩ := d
    exact ex_of (ann39 cl a) (f39_vc cl a hd) (by kernel_rfl)).met
@[reducible] noncomputable def cl18 : List (Nat × CT) := [(35, ctTab), (39, ctTick)]
@[reducible] noncomputable def ann18 (l : List ED) : Nat → Option (St → Ann) := fun n => match n with
  | 6 => some fun _ => .inv { α := Nat, slots := fun k => [(5, .c (.v (.int .i64 k))), (4, .c (.row 0))], res := fun k => [(0, .row 32 (.sl shTk) (clkP l k))], inv := fun k => k ≤ l.length, meas := fun k => l.length - k, nil := [(4, 32, .sl shTk)] }
  | 10 => some fun s => .inv { α := Nat, slots := fun k => [(7, .c (.v (.int .i64 k))), (6, .c (.sl shTk ((ckA l (slotI s 5).toNat k).map toT)))], res := fun k => [], inv := fun k => k ≤ (slotI s 5).toNat, meas := fun k => (slotI s 5).toNat - k }
  | _ => none
@[reducible] def il18 : List (Nat × IP) := []
@[reducible] def hl18 : List (Nat × Nat × CT) := []
@[reducible] noncomputable def ml18 : List (Nat × MK) := []
set_option maxRecDepth 100000 in
theorem f18_vc (l : List ED) (hpre : ctClk.pre (l, ())) :
    br (decide ((512 : Int) < (↑l.length : Int))) (([] : List Go.Eng.Res) = [] ∧ Ent.one (SV.c (SC.sl shTk.sl (clkM l))) = Ent.one (SV.c (SC.sl shTk.sl []))) ((l.length ≤ (512 : Nat) ∧ ∀ (e : I6.den × (I6.pair (I6.pair (I6.pair (I6.pair (I6.pair (I6.pair shTk)))))).den), e ∈ l → bE e) ∧ (∃ x, x ≤ l.length ∧ (SV.c (v6 ((0 : Int))) = SV.c (v6 ((↑x : Int))) ∧ SV.c (SC.row (0 : Nat)) = SV.c (SC.row (0 : Nat)) ∧ True) ∧ [(([] : Go.Eng.Gd), Res.row (32 : TypeId) shTk.sl [])] = [(([] : Go.Eng.Gd), Res.row (32 : TypeId) shTk.sl (clkP l x))]) ∧ ∀ (x : Nat), x ≤ l.length → br (decide ((↑x : Int) < (↑l.length : Int))) (((0 : Int) ≤ (↑x : Int) ∧ (↑x : Int) < (↑l.length : Int)) ∧ ∀ (d : I6.den × (I6.pair (I6.pair (I6.pair (I6.pair (I6.pair (I6.pair shTk)))))).den), l[(↑x : Int).toNat]? = some d → ((0 : Nat) ≤ (1000 : Nat) ∧ ∀ (t : I6.den × (I6.pair Sh.unit).den), t ∈ [] → (0 : I6.den) ≤ t.snd.fst ∧ t.snd.fst ≤ (1000 : I6.den)) ∧ (∃ x_1, x_1 ≤ (↑x : Int).toNat ∧ (SV.c (v6 ((0 : Int))) = SV.c (v6 ((↑x_1 : Int))) ∧ SV.c (SC.sl shTk (tickM [] d.fst)) = SV.c (SC.sl shTk (List.map toT (ckA l (↑x : Int).toNat x_1))) ∧ True) ∧ [(([] : Go.Eng.Gd), Res.row (32 : TypeId) shTk.sl (clkP l x))] = [(([] : Go.Eng.Gd), Res.row (32 : TypeId) shTk.sl (clkP l x))]) ∧ ∀ (x_1 : Nat), x_1 ≤ (↑x : Int).toNat → br (decide ((↑x_1 : Int) < (↑x : Int))) (((0 : Int) ≤ (↑x : Int) ∧ (↑x : Int) < (↑(tabM l).length : Int)) ∧ ∀ (d_1 : List Sh.bool.den), (tabM l)[(↑x : Int).toNat]? = some d_1 → ((0 : Int) ≤ (↑x_1 : Int) ∧ (↑x_1 : Int) < (↑d_1.length : Int)) ∧ ∀ (d_2 : Bool), d_1[(↑x_1 : Int).toNat]? = some d_2 → br d_2 (((0 : Int) ≤ (↑x_1 : Int) ∧ (↑x_1 : Int) < (↑l.length : Int)) ∧ ∀ (d_3 : I6.den × (I6.pair (I6.pair (I6.pair (I6.pair (I6.pair (I6.pair shTk)))))).den), l[(↑x_1 : Int).toNat]? = some d_3 → ((List.map toT (ckA l (↑x : Int).toNat x_1)).length ≤ (1000 : Nat) ∧ ∀ (t : I6.den × (I6.pair Sh.unit).den), t ∈ List.map toT (ckA l (↑x : Int).toNat x_1) → (0 : I6.den) ≤ t.snd.fst ∧ t.snd.fst ≤ (1000 : I6.den)) ∧ InR IntKind.i64 ((↑x_1 : Int) + (1 : Int)) ∧ ∃ x', x' ≤ (↑x : Int).toNat ∧ (SV.c (v6 (((↑x_1 : Int) + (1 : Int)))) = SV.c (v6 ((↑x' : Int))) ∧ SV.c (SC.sl shTk (tickM (List.map toT (ckA l (↑x : Int).toNat x_1)) d_3.fst)) = SV.c (SC.sl shTk (List.map toT (ckA l (↑x : Int).toNat x'))) ∧ True) ∧ [(([] : Go.Eng.Gd), Res.row (32 : TypeId) shTk.sl (clkP l x))] = [(([] : Go.Eng.Gd), Res.row (32 : TypeId) shTk.sl (clkP l x))] ∧ (↑x : Int).toNat - x' < (↑x : Int).toNat - x_1) (InR IntKind.i64 ((↑x_1 : Int) + (1 : Int)) ∧ ∃ x', x' ≤ (↑x : Int).toNat ∧ (SV.c (v6 (((↑x_1 : Int) + (1 : Int)))) = SV.c (v6 ((↑x' : Int))) ∧ SV.c (SC.sl shTk (List.map toT (ckA l (↑x : Int).toNat x_1))) = SV.c (SC.sl shTk (List.map toT (ckA l (↑x : Int).toNat x'))) ∧ True) ∧ [(([] : Go.Eng.Gd), Res.row (32 : TypeId) shTk.sl (clkP l x))] = [(([] : Go.Eng.Gd), Res.row (32 : TypeId) shTk.sl (clkP l x))] ∧ (↑x : Int).toNat - x' < (↑x : Int).toNat - x_1)) (InA (List.length (clkP l x) + List.length ([List.map toT (ckA l (↑x : Int).toNat x_1)])) (24 : Nat) ∧ InR IntKind.i64 ((↑x : Int) + (1 : Int)) ∧ ∃ x', x' ≤ l.length ∧ (SV.c (v6 (((↑x : Int) + (1 : Int)))) = SV.c (v6 ((↑x' : Int))) ∧ SV.c (SC.row (0 : Nat)) = SV.c (SC.row (0 : Nat)) ∧ True) ∧ [(([] : Go.Eng.Gd), Res.row (32 : TypeId) shTk.sl (clkP l x ++ [List.map toT (ckA l (↑x : Int).toNat x_1)]))] = [(([] : Go.Eng.Gd), Res.row (32 : TypeId) shTk.sl (clkP l x'))] ∧ l.length - x' < l.length - x)) (([] : List Go.Eng.Res) = [] ∧ Ent.one (SV.c (SC.sl shTk.sl (clkM l))) = Ent.one (SV.c (SC.sl shTk.sl (clkP l x))))) := by
  have hb : ∀ e ∈ l, bE e := hpre
  refine br_iff.2 ⟨fun h => ⟨rfl, ?_⟩, fun h => ?_⟩
  · simp only [decide_eq_true_eq] at h
    rw [show clkM l = [] from if_pos (by omega)]
  simp only [decide_eq_false_iff_not] at h
  have hl : l.length ≤ 512 := by omega
  refine ⟨⟨hl, hb⟩, ⟨0, by omega, ⟨rfl, rfl, trivial⟩, rfl⟩, fun x hx => br_iff.2 ⟨fun g => ?_, fun g => ?_⟩⟩
  · simp only [decide_eq_true_eq] at g
    have hxl : x < l.length := by omega
    simp only [show (x : Int).toNat = x from rfl]
    refine ⟨⟨by omega, by omega⟩, fun d hd => ⟨⟨by omega, fun t ht => by cases ht⟩, ⟨0, Nat.zero_le _, ⟨by trivial, ?_, trivial⟩, by trivial⟩, fun k hk => br_iff.2 ⟨fun g2 => ?_, fun g2 => ?_⟩⟩⟩
    · have hd : l[x]? = some d := hd
      have e : agA l x = d.1 := by simp [agA, hd, eA]
      show SV.c (SC.sl shTk (tickM [] d.1)) = SV.c (SC.sl shTk ((ckA l x 0).map toT))
      rw [← e]
      exact congrArg (fun z => SV.c (SC.sl shTk z)) (tick_bump (m := []) (by simp [keysUp]) (agA l x))
    · simp only [decide_eq_true_eq] at g2
      have hkx : k < x := by omega
      simp only [show (k : Int).toNat = k from rfl]
      refine ⟨⟨by omega, by rw [tabM_len]; omega⟩, fun d1 hd1 => ?_⟩
      obtain ⟨rfl, _⟩ := tabP_get (k := l.length) hd1
      rw [rowB_len]
      refine ⟨⟨by omega, by omega⟩, fun d2 hd2 => ?_⟩
      obtain ⟨rfl, _⟩ := rowB_get hd2
      refine br_iff.2 ⟨fun h => ⟨⟨by omega, by omega⟩, fun d3 hd3 => ⟨⟨?_, ?_⟩, InR_i64.2 (by omega), k + 1, by omega, ⟨by trivial, ?_, trivial⟩, by trivial, by omega⟩⟩, fun h => ⟨InR_i64.2 (by omega), k + 1, by omega, ⟨by trivial, ?_, trivial⟩, by trivial, by omega⟩⟩
      · have := ckA_len l x k
        rw [List.length_map]; omega
      · intro t ht
        obtain ⟨p, hp, rfl⟩ := List.mem_map.1 ht
        have := ckA_bnd l x k p hp
        show 0 ≤ p.2 ∧ p.2 ≤ 1000
        omega
      · have hd3 : l[k]? = some d3 := hd3
        have e : agA l k = d3.1 := by simp [agA, hd3, eA]
        show SV.c (SC.sl shTk (tickM ((ckA l x k).map toT) d3.1)) = SV.c (SC.sl shTk ((ckA l x (k + 1)).map toT))
        rw [show ckA l x (k + 1) = bump (ckA l x k) (agA l k) from if_pos h, e, tick_bump (ckA_up l x k)]
      · rw [show ckA l x (k + 1) = ckA l x k from if_neg (by rw [h]; simp)]
    · simp only [decide_eq_false_iff_not] at g2
      have ek : k = x := by omega
      subst ek
      have e : clkP l k ++ [(ckA l k k).map toT] = clkP l (k + 1) := (clkP_succ l k).symm
      exact ⟨inA24 (by show (clkP l k).length + 1 ≤ 100000; rw [clkP_len]; omega), InR_i64.2 (by omega), k + 1, by omega, ⟨by trivial, by trivial, trivial⟩, congrArg (fun z : List (List TkD) => [(([] : Go.Eng.Gd), Res.row 32 (.sl shTk) z)]) e, by omega⟩
  · simp only [decide_eq_false_iff_not] at g
    have ex : x = l.length := by omega
    subst ex
    refine ⟨rfl, ?_⟩
    rw [show clkM l = clkP l l.length from if_neg (by omega)]
set_option maxHeartbeats 2000000 in
set_option maxRecDepth 100000 in
theorem f18_met : Go.Eng.Met Tryd.prog cx0.gd 18 ctClk :=
  (met_all (cx := cx0) (n := 49) (cl := cl18) (il := il18) (hl := hl18) (ml := ml18) (rc := [.data (.sl (.sl shTk))]) (lits := []) (suf := []) (by kernel_rfl) tis_ok ⟨f35_met, f39_met, trivial⟩ trivial trivial trivial Tryd.func18 (by kernel_rfl) (by kernel_rfl) rfl (by kernel_rfl) (by kernel_rfl) (by simp) fun d hd => by
    obtain ⟨l, ⟨⟩⟩ := d
    exact ex_of (ann18 l) (f18_vc l hd) (by kernel_rfl)).met
end Go.Proofs.YtigfbjjphegleaaDoor
set_option linter.unusedSimpArgs false
set_option linter.unusedVariables false
set_option maxRecDepth 100000
namespace Go.Proofs.YtigfbjjphegleaaDoor
open Go Go.Eng

@[reducible] def ctSame : CT := { ps := [.sl (.int .i64), .sl (.int .i64)], pre := fun d => d.1.length ≤ 1000000, res := fun d => ([], vB (decide (d.1 = d.2.1))) }
@[reducible] def cl12 : List (Nat × CT) := []
@[reducible] def ann12 (u : List (Int)) (v : List (Int)) : Nat → Option (St → Ann) := fun n => match n with
  | 4 => some fun _ => .inv { α := Nat, slots := fun k => [(5, .c (.v (.int .i64 k)))], res := fun k => [], inv := fun k => k ≤ u.length ∧ ∀ j < k, u[j]? = v[j]?, meas := fun k => u.length - k }
  | _ => none
@[reducible] def il12 : List (Nat × IP) := []
@[reducible] def hl12 : List (Nat × Nat × CT) := []
@[reducible] def ml12 : List (Nat × MK) := []
set_option maxRecDepth 100000 in
theorem f12_vc (u : List (Int)) (v : List (Int)) (hpre : ctSame.pre (u, v, ())) :
    br (!decide ((↑u.length : Int) = (↑v.length : Int))) (([] : List Go.Eng.Res) = [] ∧ Ent.one (SV.c (SC.v (Value.bool (decide (u = v))))) = Ent.one (SV.c (SC.v (Value.bool false)))) ((∃ x, (x ≤ u.length ∧ ∀ (j : Nat), j < x → u[j]? = v[j]?) ∧ (SV.c (v6 ((0 : Int))) = SV.c (v6 ((↑x : Int))) ∧ True) ∧ ([] : List (Go.Eng.Gd × Go.Eng.Res)) = []) ∧ ∀ (x : Nat), (x ≤ u.length ∧ ∀ (j : Nat), j < x → u[j]? = v[j]?) → br (decide ((↑x : Int) < (↑u.length : Int))) (((0 : Int) ≤ (↑x : Int) ∧ (↑x : Int) < (↑u.length : Int)) ∧ ∀ (d : Int), u[(↑x : Int).toNat]? = some d → ((0 : Int) ≤ (↑x : Int) ∧ (↑x : Int) < (↑v.length : Int)) ∧ ∀ (d_1 : Int), v[(↑x : Int).toNat]? = some d_1 → br (!decide (d = d_1)) (([] : List Go.Eng.Res) = [] ∧ Ent.one (SV.c (SC.v (Value.bool (decide (u = v))))) = Ent.one (SV.c (SC.v (Value.bool false)))) (InR IntKind.i64 ((↑x : Int) + (1 : Int)) ∧ ∃ x', (x' ≤ u.length ∧ ∀ (j : Nat), j < x' → u[j]? = v[j]?) ∧ (SV.c (v6 (((↑x : Int) + (1 : Int)))) = SV.c (v6 ((↑x' : Int))) ∧ True) ∧ ([] : List (Go.Eng.Gd × Go.Eng.Res)) = [] ∧ u.length - x' < u.length - x)) (([] : List Go.Eng.Res) = [] ∧ Ent.one (SV.c (SC.v (Value.bool (decide (u = v))))) = Ent.one (SV.c (SC.v (Value.bool true))))) := by
  have hp : u.length ≤ 1000000 := hpre
  have fF : u ≠ v → ([] : List Go.Eng.Res) = [] ∧ Ent.one (SV.c (SC.v (Value.bool (decide (u = v))))) = Ent.one (SV.c (SC.v (Value.bool false))) := fun q => ⟨rfl, by rw [decide_eq_false q]⟩
  refine br_iff.2 ⟨fun h => fF fun q => ?_, fun h => ?_⟩
  · subst q; simp at h
  simp only [Bool.not_eq_false', decide_eq_true_eq] at h
  refine ⟨⟨0, ⟨by omega, fun j hj => by omega⟩, ⟨rfl, trivial⟩, rfl⟩, fun k hk => br_iff.2 ⟨fun g => ?_, fun g => ?_⟩⟩
  · simp only [decide_eq_true_eq] at g
    refine ⟨⟨by omega, by omega⟩, fun d hd => ⟨⟨by omega, by omega⟩, fun d1 hd1 => br_iff.2 ⟨fun g2 => fF fun q => ?_, fun g2 => ⟨InR_i64.2 (by omega), k + 1, ⟨by omega, fun j hj => ?_⟩, ⟨rfl, trivial⟩, rfl, by omega⟩⟩⟩⟩
    · subst q
      rw [hd] at hd1; cases hd1
      simp at g2
    · by_cases hjk : j = k
      · subst hjk
        have hd : u[j]? = some d := hd
        have hd1 : v[j]? = some d1 := hd1
        simp at g2
        rw [hd, hd1, g2]
      · exact hk.2 j (by omega)
  simp only [decide_eq_false_iff_not] at g
  have e : u = v := by
    apply List.ext_getElem?
    intro j
    by_cases hj : j < k
    · exact hk.2 j hj
    · rw [List.getElem?_eq_none (by omega), List.getElem?_eq_none (by omega)]
  exact ⟨rfl, by rw [decide_eq_true e]⟩
set_option maxHeartbeats 2000000 in
set_option maxRecDepth 100000 in
theorem f12_met : Go.Eng.Met Tryd.prog cx0.gd 12 ctSame :=
  (met_all (cx := cx0) (n := 26) (cl := cl12) (il := il12) (hl := hl12) (ml := ml12) (rc := []) (lits := []) (suf := []) (by kernel_rfl) tis_ok trivial trivial trivial trivial Tryd.func12 (by kernel_rfl) (by kernel_rfl) rfl (by kernel_rfl) (by kernel_rfl) (by simp) fun d hd => by
    obtain ⟨u, v, ⟨⟩⟩ := d
    exact ex_of (ann12 u v) (f12_vc u v hd) (by kernel_rfl)).met
@[reducible] def ctPrs : CT := { ps := [.sl shP, .sl shP], pre := fun d => d.1.length ≤ 1000000, res := fun d => ([], vB (decide (d.1 = d.2.1))) }
@[reducible] def cl26 : List (Nat × CT) := []
@[reducible] def ann26 (u : List (List Int)) (v : List (List Int)) : Nat → Option (St → Ann) := fun n => match n with
  | 4 => some fun _ => .inv { α := Nat, slots := fun k => [(5, .c (.v (.int .i64 k)))], res := fun k => [], inv := fun k => k ≤ u.length ∧ ∀ j < k, u[j]? = v[j]?, meas := fun k => u.length - k }
  | _ => none
@[reducible] def il26 : List (Nat × IP) := []
@[reducible] def hl26 : List (Nat × Nat × CT) := []
@[reducible] def ml26 : List (Nat × MK) := []
set_option maxRecDepth 100000 in
theorem f26_vc (u : List (List Int)) (v : List (List Int)) (hpre : ctPrs.pre (u, v, ())) :
    br (!decide ((↑u.length : Int) = (↑v.length : Int))) (([] : List Go.Eng.Res) = [] ∧ Ent.one (SV.c (SC.v (Value.bool (decide (u = v))))) = Ent.one (SV.c (SC.v (Value.bool false)))) ((∃ x, (x ≤ u.length ∧ ∀ (j : Nat), j < x → u[j]? = v[j]?) ∧ (SV.c (v6 ((0 : Int))) = SV.c (v6 ((↑x : Int))) ∧ True) ∧ ([] : List (Go.Eng.Gd × Go.Eng.Res)) = []) ∧ ∀ (x : Nat), (x ≤ u.length ∧ ∀ (j : Nat), j < x → u[j]? = v[j]?) → br (decide ((↑x : Int) < (↑u.length : Int))) (((0 : Int) ≤ (↑x : Int) ∧ (↑x : Int) < (↑u.length : Int)) ∧ ∀ (d : List I6.den), u[(↑x : Int).toNat]? = some d → ((0 : Int) ≤ (↑x : Int) ∧ (↑x : Int) < (↑v.length : Int)) ∧ ∀ (d_1 : List I6.den), v[(↑x : Int).toNat]? = some d_1 → br (!decide (d = d_1)) (([] : List Go.Eng.Res) = [] ∧ Ent.one (SV.c (SC.v (Value.bool (decide (u = v))))) = Ent.one (SV.c (SC.v (Value.bool false)))) (InR IntKind.i64 ((↑x : Int) + (1 : Int)) ∧ ∃ x', (x' ≤ u.length ∧ ∀ (j : Nat), j < x' → u[j]? = v[j]?) ∧ (SV.c (v6 (((↑x : Int) + (1 : Int)))) = SV.c (v6 ((↑x' : Int))) ∧ True) ∧ ([] : List (Go.Eng.Gd × Go.Eng.Res)) = [] ∧ u.length - x' < u.length - x)) (([] : List Go.Eng.Res) = [] ∧ Ent.one (SV.c (SC.v (Value.bool (decide (u = v))))) = Ent.one (SV.c (SC.v (Value.bool true))))) := by
  have hp : u.length ≤ 1000000 := hpre
  have fF : u ≠ v → ([] : List Go.Eng.Res) = [] ∧ Ent.one (SV.c (SC.v (Value.bool (decide (u = v))))) = Ent.one (SV.c (SC.v (Value.bool false))) := fun q => ⟨rfl, by rw [decide_eq_false q]⟩
  refine br_iff.2 ⟨fun h => fF fun q => ?_, fun h => ?_⟩
  · subst q; simp at h
  simp only [Bool.not_eq_false', decide_eq_true_eq] at h
  refine ⟨⟨0, ⟨by omega, fun j hj => by omega⟩, ⟨rfl, trivial⟩, rfl⟩, fun k hk => br_iff.2 ⟨fun g => ?_, fun g => ?_⟩⟩
  · simp only [decide_eq_true_eq] at g
    refine ⟨⟨by omega, by omega⟩, fun d hd => ⟨⟨by omega, by omega⟩, fun d1 hd1 => br_iff.2 ⟨fun g2 => fF fun q => ?_, fun g2 => ⟨InR_i64.2 (by omega), k + 1, ⟨by omega, fun j hj => ?_⟩, ⟨rfl, trivial⟩, rfl, by omega⟩⟩⟩⟩
    · subst q
      rw [hd] at hd1; cases hd1
      simp at g2
    · by_cases hjk : j = k
      · subst hjk
        have hd : u[j]? = some d := hd
        have hd1 : v[j]? = some d1 := hd1
        simp at g2
        rw [hd, hd1, g2]
      · exact hk.2 j (by omega)
  simp only [decide_eq_false_iff_not] at g
  have e : u = v := by
    apply List.ext_getElem?
    intro j
    by_cases hj : j < k
    · exact hk.2 j hj
    · rw [List.getElem?_eq_none (by omega), List.getElem?_eq_none (by omega)]
  exact ⟨rfl, by rw [decide_eq_true e]⟩
set_option maxHeartbeats 2000000 in
set_option maxRecDepth 100000 in
theorem f26_met : Go.Eng.Met Tryd.prog cx0.gd 26 ctPrs :=
  (met_all (cx := cx0) (n := 26) (cl := cl26) (il := il26) (hl := hl26) (ml := ml26) (rc := []) (lits := []) (suf := []) (by kernel_rfl) tis_ok trivial trivial trivial trivial Tryd.func26 (by kernel_rfl) (by kernel_rfl) rfl (by kernel_rfl) (by kernel_rfl) (by simp) fun d hd => by
    obtain ⟨u, v, ⟨⟩⟩ := d
    exact ex_of (ann26 u v) (f26_vc u v hd) (by kernel_rfl)).met
@[reducible] def ctSm3 : CT := { ps := [.sl shTk, .sl shTk], pre := fun d => d.1.length ≤ 1000000, res := fun d => ([], vB (decide (d.1 = d.2.1))) }
@[reducible] def cl19 : List (Nat × CT) := []
@[reducible] def ann19 (u : List (TkD)) (v : List (TkD)) : Nat → Option (St → Ann) := fun n => match n with
  | 4 => some fun _ => .inv { α := Nat, slots := fun k => [(5, .c (.v (.int .i64 k)))], res := fun k => [], inv := fun k => k ≤ u.length ∧ ∀ j < k, u[j]? = v[j]?, meas := fun k => u.length - k }
  | _ => none
@[reducible] def il19 : List (Nat × IP) := []
@[reducible] def hl19 : List (Nat × Nat × CT) := []
@[reducible] def ml19 : List (Nat × MK) := []
set_option maxRecDepth 100000 in
theorem f19_vc (u : List (TkD)) (v : List (TkD)) (hpre : ctSm3.pre (u, v, ())) :
    br (!decide ((↑u.length : Int) = (↑v.length : Int))) (([] : List Go.Eng.Res) = [] ∧ Ent.one (SV.c (SC.v (Value.bool (decide (u = v))))) = Ent.one (SV.c (SC.v (Value.bool false)))) ((∃ x, (x ≤ u.length ∧ ∀ (j : Nat), j < x → u[j]? = v[j]?) ∧ (SV.c (v6 ((0 : Int))) = SV.c (v6 ((↑x : Int))) ∧ True) ∧ ([] : List (Go.Eng.Gd × Go.Eng.Res)) = []) ∧ ∀ (x : Nat), (x ≤ u.length ∧ ∀ (j : Nat), j < x → u[j]? = v[j]?) → br (decide ((↑x : Int) < (↑u.length : Int))) (((0 : Int) ≤ (↑x : Int) ∧ (↑x : Int) < (↑u.length : Int)) ∧ ∀ (d : I6.den × (I6.pair Sh.unit).den), u[(↑x : Int).toNat]? = some d → ((0 : Int) ≤ (↑x : Int) ∧ (↑x : Int) < (↑v.length : Int)) ∧ ∀ (d_1 : I6.den × (I6.pair Sh.unit).den), v[(↑x : Int).toNat]? = some d_1 → br (!(true && d.fst == d_1.fst && d.snd.fst == d_1.snd.fst)) (([] : List Go.Eng.Res) = [] ∧ Ent.one (SV.c (SC.v (Value.bool (decide (u = v))))) = Ent.one (SV.c (SC.v (Value.bool false)))) (InR IntKind.i64 ((↑x : Int) + (1 : Int)) ∧ ∃ x', (x' ≤ u.length ∧ ∀ (j : Nat), j < x' → u[j]? = v[j]?) ∧ (SV.c (v6 (((↑x : Int) + (1 : Int)))) = SV.c (v6 ((↑x' : Int))) ∧ True) ∧ ([] : List (Go.Eng.Gd × Go.Eng.Res)) = [] ∧ u.length - x' < u.length - x)) (([] : List Go.Eng.Res) = [] ∧ Ent.one (SV.c (SC.v (Value.bool (decide (u = v))))) = Ent.one (SV.c (SC.v (Value.bool true))))) := by
  have hp : u.length ≤ 1000000 := hpre
  have fF : u ≠ v → ([] : List Go.Eng.Res) = [] ∧ Ent.one (SV.c (SC.v (Value.bool (decide (u = v))))) = Ent.one (SV.c (SC.v (Value.bool false))) := fun q => ⟨rfl, by rw [decide_eq_false q]⟩
  refine br_iff.2 ⟨fun h => fF fun q => ?_, fun h => ?_⟩
  · subst q; simp at h
  simp only [Bool.not_eq_false', decide_eq_true_eq] at h
  refine ⟨⟨0, ⟨by omega, fun j hj => by omega⟩, ⟨rfl, trivial⟩, rfl⟩, fun k hk => br_iff.2 ⟨fun g => ?_, fun g => ?_⟩⟩
  · simp only [decide_eq_true_eq] at g
    refine ⟨⟨by omega, by omega⟩, fun d hd => ⟨⟨by omega, by omega⟩, fun d1 hd1 => br_iff.2 ⟨fun g2 => fF fun q => ?_, fun g2 => ⟨InR_i64.2 (by omega), k + 1, ⟨by omega, fun j hj => ?_⟩, ⟨rfl, trivial⟩, rfl, by omega⟩⟩⟩⟩
    · subst q
      rw [hd] at hd1; cases hd1
      simp at g2
    · by_cases hjk : j = k
      · subst hjk
        have hd : u[j]? = some d := hd
        have hd1 : v[j]? = some d1 := hd1
        simp at g2
        rw [hd, hd1, tk_inj (x := d) (y := d1) (Prod.ext g2.1 g2.2)]
      · exact hk.2 j (by omega)
  simp only [decide_eq_false_iff_not] at g
  have e : u = v := by
    apply List.ext_getElem?
    intro j
    by_cases hj : j < k
    · exact hk.2 j hj
    · rw [List.getElem?_eq_none (by omega), List.getElem?_eq_none (by omega)]
  exact ⟨rfl, by rw [decide_eq_true e]⟩
set_option maxHeartbeats 2000000 in
set_option maxRecDepth 100000 in
theorem f19_met : Go.Eng.Met Tryd.prog cx0.gd 19 ctSm3 :=
  (met_all (cx := cx0) (n := 26) (cl := cl19) (il := il19) (hl := hl19) (ml := ml19) (rc := []) (lits := []) (suf := []) (by kernel_rfl) tis_ok trivial trivial trivial trivial Tryd.func19 (by kernel_rfl) (by kernel_rfl) rfl (by kernel_rfl) (by kernel_rfl) (by simp) fun d hd => by
    obtain ⟨u, v, ⟨⟩⟩ := d
    exact ex_of (ann19 u v) (f19_vc u v hd) (by kernel_rfl)).met
def turnI (i k : Int) : Int := if i = k then k - 1 else if i = k - 1 then k else i
@[reducible] def ctTurn : CT := { ps := [.int .i64, .int .i64], pre := fun d => -1000 ≤ d.2.1 ∧ d.2.1 ≤ 1000, res := fun d => ([], .one (.c (.v (.int .i64 (turnI d.1 d.2.1))))) }
@[reducible] def cl21 : List (Nat × CT) := []
@[reducible] def ann21 (i : Int) (k : Int) : Nat → Option (St → Ann) := fun _ => none
set_option maxRecDepth 100000 in
theorem f21_vc (i : Int) (k : Int) (hpre : ctTurn.pre (i, k, ())) :
    br (decide (i = k)) (InR IntKind.i64 (k - (1 : Int)) ∧ ([] : List Go.Eng.Res) = [] ∧ Ent.one (SV.c (v6 ((turnI i k)))) = Ent.one (SV.c (v6 ((k - (1 : Int)))))) (InR IntKind.i64 (k - (1 : Int)) ∧ br (decide (i = k - (1 : Int))) (([] : List Go.Eng.Res) = [] ∧ Ent.one (SV.c (v6 ((turnI i k)))) = Ent.one (SV.c (v6 (k)))) (([] : List Go.Eng.Res) = [] ∧ Ent.one (SV.c (v6 ((turnI i k)))) = Ent.one (SV.c (v6 (i))))) := by
  have hk : -1000 ≤ k ∧ k ≤ 1000 := hpre
  refine br_iff.2 ⟨fun h => ⟨InR_i64.2 (by omega), rfl, ?_⟩, fun h => ⟨InR_i64.2 (by omega), br_iff.2 ⟨fun h2 => ⟨rfl, ?_⟩, fun h2 => ⟨rfl, ?_⟩⟩⟩⟩
  · rw [show turnI i k = k - 1 from if_pos (by simpa using h)]
  · simp only [decide_eq_true_eq, decide_eq_false_iff_not] at h h2
    rw [show turnI i k = k by unfold turnI; rw [if_neg h, if_pos h2]]
  · simp only [decide_eq_false_iff_not] at h h2
    rw [show turnI i k = i by unfold turnI; rw [if_neg h, if_neg h2]]
set_option maxHeartbeats 2000000 in
set_option maxRecDepth 100000 in
theorem f21_met : Go.Eng.Met Tryd.prog cx0.gd 21 ctTurn :=
  met_of (cx := cx0) (n := 16) (cl := cl21) (by kernel_rfl) tis_ok trivial Tryd.func21 (by kernel_rfl) (by kernel_rfl) rfl (by kernel_rfl) (by kernel_rfl) fun d hd => by
    obtain ⟨i, k, ⟨⟩⟩ := d
    exact ex_of (ann21 i k) (f21_vc i k hd) (by kernel_rfl)
def exL : List ED := [(0, 0, 2, 0, -1, -1, 0, 0, 0, ()), (1, 0, 2, 1, -1, -1, 0, 0, 0, ()), (1, 1, 1, 0, -1, -1, 0, 0, 0, ())]
@[reducible] def ctExm : CT := { ps := [], pre := fun d => True, res := fun d => ([], .one (.c (.sl shE exL))) }
@[reducible] def cl32 : List (Nat × CT) := []
@[reducible] def ann32  : Nat → Option (St → Ann) := fun _ => none
@[reducible] def il32 : List (Nat × IP) := []
@[reducible] def hl32 : List (Nat × Nat × CT) := []
@[reducible] def ml32 : List (Nat × MK) := []
set_option maxRecDepth 100000 in
theorem f32_vc  :
    ([] : List Go.Eng.Res) = [] ∧ Ent.one (SV.c (SC.sl shE exL)) = Ent.one (SV.c (SC.sl shE ([((0 : Int), (0 : Int), (2 : Int), (0 : Int), (-1 : Int), (-1 : Int), (0 : Int), (0 : Int), (0 : Int), ()), ((1 : Int), (0 : Int), (2 : Int), (1 : Int), (-1 : Int), (-1 : Int), (0 : Int), (0 : Int), (0 : Int), ()), ((1 : Int), (1 : Int), (1 : Int), (0 : Int), (-1 : Int), (-1 : Int), (0 : Int), (0 : Int), (0 : Int), ())]))) := by
  exact ⟨rfl, rfl⟩
set_option maxHeartbeats 2000000 in
set_option maxRecDepth 100000 in
theorem f32_met : Go.Eng.Met Tryd.prog cx0.gd 32 ctExm :=
  (met_all (cx := cx0) (n := 5) (cl := cl32) (il := il32) (hl := hl32) (ml := ml32) (rc := [.data (.sl shE)]) (lits := []) (suf := []) (by kernel_rfl) tis_ok trivial trivial trivial trivial Tryd.func32 (by kernel_rfl) (by kernel_rfl) rfl (by kernel_rfl) (by kernel_rfl) (by simp) fun d hd => by
    obtain ⟨⟩ := d
    exact ex_of (ann32 ) (f32_vc ) (by kernel_rfl)).met
end Go.Proofs.YtigfbjjphegleaaDoor
set_option linter.unusedSimpArgs false
set_option linter.unusedVariables false
namespace Go.Proofs.YtigfbjjphegleaaDoor
open Go Go.Eng
theorem exb : ∀ e ∈ exL, bE e := by
  intro e he
  simp only [exL, List.mem_cons, List.not_mem_nil, or_false] at he
  rcases he with rfl | rfl | rfl <;> exact ⟨by decide, by decide⟩
theorem ex01 : bfL exL 0 1 = false := by
  rw [← Bool.not_eq_true, bfL_iff, Bf.iff]
  rintro ⟨k, hk, d, _⟩
  have : k = 0 := by omega
  subst this
  exact absurd d (by decide)
theorem ex02 : bfL exL 0 2 = true := bfL_iff.2 (.one (by omega) (by decide))
theorem ex12 : bfL exL 1 2 = true := bfL_iff.2 (.one (by omega) (by decide))
theorem ex_low {i j : Nat} (h : j ≤ i) : bfL exL i j = false := bf_up h
theorem ex_cov : covM exL = [[0, 2], [1, 2]] := by
  have l3 : exL.length = 3 := rfl
  have c01 : covB exL 0 1 = false := by simp [covB, ex01]
  have c02 : covB exL 0 2 = true := by simp [covB, ex02, List.range_succ, ex01, ex_low]
  have c12 : covB exL 1 2 = true := by simp [covB, ex12, List.range_succ]
  unfold covM
  rw [l3, if_neg (by omega)]
  simp [pairs, pairI, List.range_succ, c01, c02, c12]
theorem ex_too : tooM exL = 0 := if_neg (by decide)
theorem ex_clk : clkM exL = [ckL exL 0, ckL exL 1, [(0, 1, ()), (1, 2, ())]] := by
  have l3 : exL.length = 3 := rfl
  have a0 : agA exL 0 = 0 := rfl
  have a1 : agA exL 1 = 1 := rfl
  have a2 : agA exL 2 = 1 := rfl
  have e0 : ckA exL 2 0 = [(1, 1)] := by simp [ckA, mput, a2]
  have e1 : ckA exL 2 1 = [(0, 1), (1, 1)] := by
    rw [show ckA exL 2 1 = bump (ckA exL 2 0) (agA exL 0) from if_pos ex02, e0, a0]; rfl
  have e2 : ckA exL 2 2 = [(0, 1), (1, 2)] := by
    rw [show ckA exL 2 2 = bump (ckA exL 2 1) (agA exL 1) from if_pos ex12, e1, a1]; rfl
  have c2 : ckL exL 2 = [(0, 1, ()), (1, 2, ())] := by unfold ckL; rw [e2]; rfl
  unfold clkM
  rw [l3, if_neg (by omega)]
  simp [clkP, List.range_succ, c2]
theorem ex_b02 : befM exL 0 2 = true := by
  unfold befM
  rw [if_neg (by simp [badI, exL])]
  exact ex02
theorem ex_b01 : befM exL 0 1 = false := by
  unfold befM
  rw [if_neg (by simp [badI, exL])]
  exact ex01
theorem ex_not : notM exL 0 = [1] := by
  have l3 : exL.length = 3 := rfl
  unfold notM
  rw [if_neg (by simp [badI, exL]), l3]
  simp [upL, List.range_succ, ex01, ex02]
theorem ex_pas : pasM exL 2 = [0, 1, 2] := by
  unfold pasM
  rw [if_neg (by simp [badI, exL])]
  show upL (fun i => bfL exL i 2) 2 ++ [2] = _
  simp [upL, List.range_succ, ex02, ex12]
end Go.Proofs.YtigfbjjphegleaaDoor
set_option linter.unusedSimpArgs false
set_option linter.unusedVariables false
set_option maxRecDepth 100000
namespace Go.Proofs.YtigfbjjphegleaaDoor
open Go Go.Eng

@[reducible] def ctLiv : CT := { ps := [], pre := fun d => True, res := fun d => ([], vB (true)) }
@[reducible] noncomputable def cl9 : List (Nat × CT) := [(32, ctExm), (24, ctCov), (17, ctClk), (26, ctPrs), (19, ctSm3), (10, ctBef), (15, ctNot), (13, ctPas), (12, ctSame)]
@[reducible] noncomputable def ann9  : Nat → Option (St → Ann) := fun _ => none
@[reducible] def il9 : List (Nat × IP) := []
@[reducible] def hl9 : List (Nat × Nat × CT) := []
@[reducible] noncomputable def ml9 : List (Nat × MK) := []
set_option maxRecDepth 100000 in
theorem f9_vc  :
    True ∧ (∀ (e : I6.den × (I6.pair (I6.pair (I6.pair (I6.pair (I6.pair (I6.pair shTk)))))).den), e ∈ exL → bE e) ∧ True ∧ (∀ (e : I6.den × (I6.pair (I6.pair (I6.pair (I6.pair (I6.pair (I6.pair shTk)))))).den), e ∈ exL → bE e) ∧ (true = true → (covM exL).length ≤ (1000000 : Nat)) ∧ ((true && decide (covM exL = [[(0 : Int), (2 : Int)], [(1 : Int), (2 : Int)]]) && true) = true → (0 : Int) ≤ (2 : Int) ∧ (2 : Int) < (3 : Int)) ∧ ∀ (d : List shTk.den), ((true && decide (covM exL = [[(0 : Int), (2 : Int)], [(1 : Int), (2 : Int)]]) && true) = true → (clkM exL)[(2 : Nat)]? = some d) → ((true && decide (covM exL = [[(0 : Int), (2 : Int)], [(1 : Int), (2 : Int)]]) && true) = true → d.length ≤ (1000000 : Nat)) ∧ ((true && decide (covM exL = [[(0 : Int), (2 : Int)], [(1 : Int), (2 : Int)]]) && true && decide (d = [((0 : Int), (1 : Int), ()), ((1 : Int), (2 : Int), ())])) = true → True) ∧ ((true && decide (covM exL = [[(0 : Int), (2 : Int)], [(1 : Int), (2 : Int)]]) && true && decide (d = [((0 : Int), (1 : Int), ()), ((1 : Int), (2 : Int), ())])) = true → ∀ (e : I6.den × (I6.pair (I6.pair (I6.pair (I6.pair (I6.pair (I6.pair shTk)))))).den), e ∈ exL → bE e) ∧ ((true && decide (covM exL = [[(0 : Int), (2 : Int)], [(1 : Int), (2 : Int)]]) && true && decide (d = [((0 : Int), (1 : Int), ()), ((1 : Int), (2 : Int), ())]) && befM exL (0 : Int) (2 : Int)) = true → True) ∧ ((true && decide (covM exL = [[(0 : Int), (2 : Int)], [(1 : Int), (2 : Int)]]) && true && decide (d = [((0 : Int), (1 : Int), ()), ((1 : Int), (2 : Int), ())]) && befM exL (0 : Int) (2 : Int)) = true → ∀ (e : I6.den × (I6.pair (I6.pair (I6.pair (I6.pair (I6.pair (I6.pair shTk)))))).den), e ∈ exL → bE e) ∧ ((true && decide (covM exL = [[(0 : Int), (2 : Int)], [(1 : Int), (2 : Int)]]) && true && decide (d = [((0 : Int), (1 : Int), ()), ((1 : Int), (2 : Int), ())]) && befM exL (0 : Int) (2 : Int) && !befM exL (0 : Int) (1 : Int)) = true → True) ∧ ((true && decide (covM exL = [[(0 : Int), (2 : Int)], [(1 : Int), (2 : Int)]]) && true && decide (d = [((0 : Int), (1 : Int), ()), ((1 : Int), (2 : Int), ())]) && befM exL (0 : Int) (2 : Int) && !befM exL (0 : Int) (1 : Int)) = true → ∀ (e : I6.den × (I6.pair (I6.pair (I6.pair (I6.pair (I6.pair (I6.pair shTk)))))).den), e ∈ exL → bE e) ∧ ((true && decide (covM exL = [[(0 : Int), (2 : Int)], [(1 : Int), (2 : Int)]]) && true && decide (d = [((0 : Int), (1 : Int), ()), ((1 : Int), (2 : Int), ())]) && befM exL (0 : Int) (2 : Int) && !befM exL (0 : Int) (1 : Int)) = true → (notM exL (0 : Int)).length ≤ (1000000 : Nat)) ∧ ((true && decide (covM exL = [[(0 : Int), (2 : Int)], [(1 : Int), (2 : Int)]]) && true && decide (d = [((0 : Int), (1 : Int), ()), ((1 : Int), (2 : Int), ())]) && befM exL (0 : Int) (2 : Int) && !befM exL (0 : Int) (1 : Int) && decide (notM exL (0 : Int) = [(1 : Int)])) = true → True) ∧ ((true && decide (covM exL = [[(0 : Int), (2 : Int)], [(1 : Int), (2 : Int)]]) && true && decide (d = [((0 : Int), (1 : Int), ()), ((1 : Int), (2 : Int), ())]) && befM exL (0 : Int) (2 : Int) && !befM exL (0 : Int) (1 : Int) && decide (notM exL (0 : Int) = [(1 : Int)])) = true → ∀ (e : I6.den × (I6.pair (I6.pair (I6.pair (I6.pair (I6.pair (I6.pair shTk)))))).den), e ∈ exL → bE e) ∧ ((true && decide (covM exL = [[(0 : Int), (2 : Int)], [(1 : Int), (2 : Int)]]) && true && decide (d = [((0 : Int), (1 : Int), ()), ((1 : Int), (2 : Int), ())]) && befM exL (0 : Int) (2 : Int) && !befM exL (0 : Int) (1 : Int) && decide (notM exL (0 : Int) = [(1 : Int)])) = true → (pasM exL (2 : Int)).length ≤ (1000000 : Nat)) ∧ ([] : List Go.Eng.Res) = [] ∧ Ent.one (SV.c (SC.v (Value.bool true))) = Ent.one (SV.c (SC.v (Value.bool (true && decide (covM exL = [[(0 : Int), (2 : Int)], [(1 : Int), (2 : Int)]]) && true && decide (d = [((0 : Int), (1 : Int), ()), ((1 : Int), (2 : Int), ())]) && befM exL (0 : Int) (2 : Int) && !befM exL (0 : Int) (1 : Int) && decide (notM exL (0 : Int) = [(1 : Int)]) && decide (pasM exL (2 : Int) = [(0 : Int), (1 : Int), (2 : Int)]))))) := by
  have hc : (true && decide (covM exL = [[0, 2], [1, 2]]) && true) = true := by rw [ex_cov]; rfl
  refine ⟨trivial, exb, trivial, exb, fun _ => by rw [ex_cov]; decide, fun _ => ⟨by decide, by decide⟩, fun d hd => ?_⟩
  have hd := hd hc
  rw [ex_clk] at hd
  have ed : d = [(0, 1, ()), (1, 2, ())] := (Option.some.inj hd).symm
  subst ed
  refine ⟨fun _ => by decide, fun _ => trivial, fun _ => exb, fun _ => trivial, fun _ => exb, fun _ => trivial, fun _ => exb, fun _ => by rw [ex_not]; decide, fun _ => trivial, fun _ => exb, fun _ => by rw [ex_pas]; decide, rfl, ?_⟩
  rw [ex_cov, ex_b02, ex_b01, ex_not, ex_pas]
  rfl
set_option maxHeartbeats 2000000 in
set_option maxRecDepth 100000 in
theorem f9_met : Go.Eng.Met Tryd.prog cx0.gd 9 ctLiv :=
  (met_all (cx := cx0) (n := 55) (cl := cl9) (il := il9) (hl := hl9) (ml := ml9) (rc := []) (lits := []) (suf := []) (by kernel_rfl) tis_ok ⟨f32_met, f24_met, f17_met, f26_met, f19_met, f10_met, f15_met, f13_met, f12_met, trivial⟩ trivial trivial trivial Tryd.func9 (by kernel_rfl) (by kernel_rfl) rfl (by kernel_rfl) (by kernel_rfl) (by simp) fun d hd => by
    obtain ⟨⟩ := d
    exact ex_of (ann9 ) (f9_vc ) (by kernel_rfl)).met
theorem pas_len (l : List ED) (j : Int) : (pasM l j).length ≤ 1000000 := by
  unfold pasM
  split
  · simp
  · rename_i h
    have := upL_len (fun i => bfL l i j.toNat) j.toNat
    unfold badI at h
    rw [List.length_append, List.length_singleton]; omega
theorem not_len (l : List ED) (j : Int) : (notM l j).length ≤ 1000000 := by
  unfold notM
  split
  · simp
  · rename_i h
    have := upL_len (fun i => decide (j.toNat < i) && !bfL l j.toNat i) l.length
    unfold badI at h
    omega
theorem clkM_len (l : List ED) : (clkM l).length ≤ 512 := by
  unfold clkM
  split
  · simp
  · rw [clkP_len]; omega
theorem clk_len {l : List ED} {k : Nat} {d : List TkD} (h : (clkM l)[k]? = some d) : d.length ≤ 1000000 := by
  unfold clkM at h
  split at h
  · simp at h
  · rename_i hl
    have hm := List.mem_of_getElem? h
    unfold clkP at hm
    obtain ⟨i, hi, rfl⟩ := List.mem_map.1 hm
    rw [List.mem_range] at hi
    have := ckA_len l i i
    unfold ckL
    rw [List.length_map]; omega
@[reducible] def ctL3 : CT := { ps := [.sl shE, .int .i64, .int .i64], pre := fun d => ∀ e ∈ d.1, bE e, res := fun d => ([], vB (true)) }
@[reducible] noncomputable def cl3 : List (Nat × CT) := [(9, ctLiv), (10, ctBef), (11, ctBef), (13, ctPas), (14, ctPas), (15, ctNot), (16, ctNot), (12, ctSame)]
@[reducible] noncomputable def ann3 (l : List ED) (i : Int) (j : Int) : Nat → Option (St → Ann) := fun _ => none
@[reducible] def il3 : List (Nat × IP) := []
@[reducible] def hl3 : List (Nat × Nat × CT) := []
@[reducible] noncomputable def ml3 : List (Nat × MK) := []
set_option maxRecDepth 100000 in
theorem f3_vc (l : List ED) (i : Int) (j : Int) (hpre : ctL3.pre (l, i, j, ())) :
    br (decide ((40 : Int) < (↑l.length : Int))) (True ∧ ([] : List Go.Eng.Res) = [] ∧ Ent.one (SV.c (SC.v (Value.bool true))) = Ent.one (SV.c (SC.v (Value.bool true)))) ((∀ (e : I6.den × (I6.pair (I6.pair (I6.pair (I6.pair (I6.pair (I6.pair shTk)))))).den), e ∈ l → bE e) ∧ (∀ (e : I6.den × (I6.pair (I6.pair (I6.pair (I6.pair (I6.pair (I6.pair shTk)))))).den), e ∈ l → bE e) ∧ ((befM l i j == befM l i j) = true → ∀ (e : I6.den × (I6.pair (I6.pair (I6.pair (I6.pair (I6.pair (I6.pair shTk)))))).den), e ∈ l → bE e) ∧ ((befM l i j == befM l i j) = true → ∀ (e : I6.den × (I6.pair (I6.pair (I6.pair (I6.pair (I6.pair (I6.pair shTk)))))).den), e ∈ l → bE e) ∧ ((befM l i j == befM l i j) = true → (pasM l i).length ≤ (1000000 : Nat)) ∧ ((befM l i j == befM l i j && decide (pasM l i = pasM l i)) = true → ∀ (e : I6.den × (I6.pair (I6.pair (I6.pair (I6.pair (I6.pair (I6.pair shTk)))))).den), e ∈ l → bE e) ∧ ((befM l i j == befM l i j && decide (pasM l i = pasM l i)) = true → ∀ (e : I6.den × (I6.pair (I6.pair (I6.pair (I6.pair (I6.pair (I6.pair shTk)))))).den), e ∈ l → bE e) ∧ ((befM l i j == befM l i j && decide (pasM l i = pasM l i)) = true → (notM l i).length ≤ (1000000 : Nat)) ∧ ((befM l i j == befM l i j && decide (pasM l i = pasM l i) && decide (notM l i = notM l i)) = true → True) ∧ ([] : List Go.Eng.Res) = [] ∧ Ent.one (SV.c (SC.v (Value.bool true))) = Ent.one (SV.c (SC.v (Value.bool (befM l i j == befM l i j && decide (pasM l i = pasM l i) && decide (notM l i = notM l i) && true))))) := by
  have hb : ∀ e ∈ l, bE e := hpre
  refine br_iff.2 ⟨fun _ => ⟨trivial, rfl, rfl⟩, fun h => ⟨hb, hb, fun _ => hb, fun _ => hb, fun _ => pas_len l i, fun _ => hb, fun _ => hb, fun _ => not_len l i, fun _ => trivial, rfl, ?_⟩⟩
  simp
set_option maxHeartbeats 2000000 in
set_option maxRecDepth 100000 in
theorem f3_met : Go.Eng.Met Tryd.prog cx0.gd 3 ctL3 :=
  (met_all (cx := cx0) (n := 41) (cl := cl3) (il := il3) (hl := hl3) (ml := ml3) (rc := []) (lits := []) (suf := []) (by kernel_rfl) tis_ok ⟨f9_met, f10_met, f11_met, f13_met, f14_met, f15_met, f16_met, f12_met, trivial⟩ trivial trivial trivial Tryd.func3 (by kernel_rfl) (by kernel_rfl) rfl (by kernel_rfl) (by kernel_rfl) (by simp) fun d hd => by
    obtain ⟨l, i, j, ⟨⟩⟩ := d
    exact ex_of (ann3 l i j) (f3_vc l i j hd) (by kernel_rfl)).met
@[reducible] def ctL4 : CT := { ps := [.sl shE], pre := fun d => ∀ e ∈ d.1, bE e, res := fun d => ([], vB (true)) }
@[reducible] noncomputable def cl4 : List (Nat × CT) := [(9, ctLiv), (17, ctClk), (18, ctClk), (19, ctSm3)]
@[reducible] noncomputable def ann4 (l : List ED) : Nat → Option (St → Ann) := fun n => match n with
  | 7 => some fun _ => .inv { α := Nat, slots := fun k => [(5, .c (.v (.int .i64 k)))], res := fun k => [], inv := fun k => k ≤ (clkM l).length, meas := fun k => (clkM l).length - k }
  | _ => none
@[reducible] def il4 : List (Nat × IP) := []
@[reducible] def hl4 : List (Nat × Nat × CT) := []
@[reducible] noncomputable def ml4 : List (Nat × MK) := []
set_option maxRecDepth 100000 in
theorem f4_vc (l : List ED) (hpre : ctL4.pre (l, ())) :
    br (decide ((40 : Int) < (↑l.length : Int))) (True ∧ ([] : List Go.Eng.Res) = [] ∧ Ent.one (SV.c (SC.v (Value.bool true))) = Ent.one (SV.c (SC.v (Value.bool true)))) ((∀ (e : I6.den × (I6.pair (I6.pair (I6.pair (I6.pair (I6.pair (I6.pair shTk)))))).den), e ∈ l → bE e) ∧ (∀ (e : I6.den × (I6.pair (I6.pair (I6.pair (I6.pair (I6.pair (I6.pair shTk)))))).den), e ∈ l → bE e) ∧ br (!decide ((↑(clkM l).length : Int) = (↑(clkM l).length : Int))) (([] : List Go.Eng.Res) = [] ∧ Ent.one (SV.c (SC.v (Value.bool true))) = Ent.one (SV.c (SC.v (Value.bool false)))) ((∃ x, x ≤ (clkM l).length ∧ (SV.c (v6 ((0 : Int))) = SV.c (v6 ((↑x : Int))) ∧ True) ∧ ([] : List (Go.Eng.Gd × Go.Eng.Res)) = []) ∧ ∀ (x : Nat), x ≤ (clkM l).length → br (decide ((↑x : Int) < (↑(clkM l).length : Int))) (((0 : Int) ≤ (↑x : Int) ∧ (↑x : Int) < (↑(clkM l).length : Int)) ∧ ∀ (d : List shTk.den), (clkM l)[(↑x : Int).toNat]? = some d → ((0 : Int) ≤ (↑x : Int) ∧ (↑x : Int) < (↑(clkM l).length : Int)) ∧ ∀ (d_1 : List shTk.den), (clkM l)[(↑x : Int).toNat]? = some d_1 → d.length ≤ (1000000 : Nat) ∧ br (!decide (d = d_1)) (([] : List Go.Eng.Res) = [] ∧ Ent.one (SV.c (SC.v (Value.bool true))) = Ent.one (SV.c (SC.v (Value.bool false)))) (InR IntKind.i64 ((↑x : Int) + (1 : Int)) ∧ ∃ x', x' ≤ (clkM l).length ∧ (SV.c (v6 (((↑x : Int) + (1 : Int)))) = SV.c (v6 ((↑x' : Int))) ∧ True) ∧ ([] : List (Go.Eng.Gd × Go.Eng.Res)) = [] ∧ (clkM l).length - x' < (clkM l).length - x)) (True ∧ ([] : List Go.Eng.Res) = [] ∧ Ent.one (SV.c (SC.v (Value.bool true))) = Ent.one (SV.c (SC.v (Value.bool true)))))) := by
  have hb : ∀ e ∈ l, bE e := hpre
  refine br_iff.2 ⟨fun _ => ⟨trivial, rfl, rfl⟩, fun h => ⟨hb, hb, br_iff.2 ⟨fun q => by simp at q, fun _ => ⟨⟨0, by omega, ⟨rfl, trivial⟩, rfl⟩, fun x hx => br_iff.2 ⟨fun g => ?_, fun g => ⟨trivial, rfl, rfl⟩⟩⟩⟩⟩⟩
  simp only [decide_eq_true_eq] at g
  have lc := clkM_len l
  refine ⟨⟨by omega, by omega⟩, fun d hd => ⟨⟨by omega, by omega⟩, fun d1 hd1 => ⟨clk_len hd, br_iff.2 ⟨fun q => ?_, fun q => ⟨InR_i64.2 (by omega), x + 1, by omega, ⟨rfl, trivial⟩, rfl, by omega⟩⟩⟩⟩⟩
  have : d = d1 := Option.some.inj (hd.symm.trans hd1)
  subst this
  simp at q
set_option maxHeartbeats 2000000 in
set_option maxRecDepth 100000 in
theorem f4_met : Go.Eng.Met Tryd.prog cx0.gd 4 ctL4 :=
  (met_all (cx := cx0) (n := 36) (cl := cl4) (il := il4) (hl := hl4) (ml := ml4) (rc := []) (lits := []) (suf := []) (by kernel_rfl) tis_ok ⟨f9_met, f17_met, f18_met, f19_met, trivial⟩ trivial trivial trivial Tryd.func4 (by kernel_rfl) (by kernel_rfl) rfl (by kernel_rfl) (by kernel_rfl) (by simp) fun d hd => by
    obtain ⟨l, ⟨⟩⟩ := d
    exact ex_of (ann4 l) (f4_vc l hd) (by kernel_rfl)).met
end Go.Proofs.YtigfbjjphegleaaDoor
set_option linter.unusedSimpArgs false
set_option linter.unusedVariables false
set_option maxRecDepth 100000
namespace Go.Proofs.YtigfbjjphegleaaDoor
open Go Go.Eng

theorem ord_len (l : List ED) : (ordM l).2.1.length ≤ 1000000 := by
  unfold ordM
  split
  · simp
  · have h1 := pairs_len (bfL l) l.length l.length
    have h2 : l.length * l.length ≤ 64 * 64 := Nat.mul_le_mul (by omega) (by omega)
    show (pairs (bfL l) l.length l.length).length ≤ _
    omega
theorem cov_len (l : List ED) : (covM l).length ≤ 1000000 := by
  unfold covM
  split
  · simp
  · have h1 := pairs_len (covB l) l.length l.length
    have h2 : l.length * l.length ≤ 64 * 64 := Nat.mul_le_mul (by omega) (by omega)
    omega
@[reducible] def ctL6 : CT := { ps := [.sl shE], pre := fun d => ∀ e ∈ d.1, bE e, res := fun d => ([], vB (true)) }
@[reducible] noncomputable def cl6 : List (Nat × CT) := [(9, ctLiv), (22, ctOdr), (23, ctOdr), (24, ctCov), (25, ctCov), (26, ctPrs)]
@[reducible] noncomputable def ann6 (l : List ED) : Nat → Option (St → Ann) := fun _ => none
@[reducible] def il6 : List (Nat × IP) := []
@[reducible] def hl6 : List (Nat × Nat × CT) := []
@[reducible] noncomputable def ml6 : List (Nat × MK) := []
set_option maxRecDepth 100000 in
theorem f6_vc (l : List ED) (hpre : ctL6.pre (l, ())) :
    br (decide ((66 : Int) < (↑l.length : Int))) (True ∧ ([] : List Go.Eng.Res) = [] ∧ Ent.one (SV.c (SC.v (Value.bool true))) = Ent.one (SV.c (SC.v (Value.bool true)))) ((∀ (e : I6.den × (I6.pair (I6.pair (I6.pair (I6.pair (I6.pair (I6.pair shTk)))))).den), e ∈ l → bE e) ∧ (∀ (e : I6.den × (I6.pair (I6.pair (I6.pair (I6.pair (I6.pair (I6.pair shTk)))))).den), e ∈ l → bE e) ∧ (∀ (e : I6.den × (I6.pair (I6.pair (I6.pair (I6.pair (I6.pair (I6.pair shTk)))))).den), e ∈ l → bE e) ∧ (∀ (e : I6.den × (I6.pair (I6.pair (I6.pair (I6.pair (I6.pair (I6.pair shTk)))))).den), e ∈ l → bE e) ∧ ((decide (tooM l = tooM l) && decide (tooM l = tooM l) && decide ((ordM l).fst = (ordM l).fst)) = true → List.length ((ordM l).snd.fst, (ordM l).snd.fst, ()).fst ≤ (1000000 : Nat)) ∧ ((decide (tooM l = tooM l) && decide (tooM l = tooM l) && decide ((ordM l).fst = (ordM l).fst) && decide (((ordM l).snd.fst, (ordM l).snd.fst, ()).fst = (ordM l).snd.fst)) = true → (covM l).length ≤ (1000000 : Nat)) ∧ ((decide (tooM l = tooM l) && decide (tooM l = tooM l) && decide ((ordM l).fst = (ordM l).fst) && decide (((ordM l).snd.fst, (ordM l).snd.fst, ()).fst = (ordM l).snd.fst) && decide (covM l = covM l)) = true → True) ∧ ([] : List Go.Eng.Res) = [] ∧ Ent.one (SV.c (SC.v (Value.bool true))) = Ent.one (SV.c (SC.v (Value.bool (decide (tooM l = tooM l) && decide (tooM l = tooM l) && decide ((ordM l).fst = (ordM l).fst) && decide (((ordM l).snd.fst, (ordM l).snd.fst, ()).fst = (ordM l).snd.fst) && decide (covM l = covM l) && true))))) := by
  have hb : ∀ e ∈ l, bE e := hpre
  refine br_iff.2 ⟨fun _ => ⟨trivial, rfl, rfl⟩, fun h => ⟨hb, hb, hb, hb, fun _ => ord_len l, fun _ => cov_len l, fun _ => trivial, rfl, ?_⟩⟩
  simp
set_option maxHeartbeats 2000000 in
set_option maxRecDepth 100000 in
theorem f6_met : Go.Eng.Met Tryd.prog cx0.gd 6 ctL6 :=
  (met_all (cx := cx0) (n := 65) (cl := cl6) (il := il6) (hl := hl6) (ml := ml6) (rc := []) (lits := []) (suf := []) (by kernel_rfl) tis_ok ⟨f9_met, f22_met, f23_met, f24_met, f25_met, f26_met, trivial⟩ trivial trivial trivial Tryd.func6 (by kernel_rfl) (by kernel_rfl) rfl (by kernel_rfl) (by kernel_rfl) (by simp) fun d hd => by
    obtain ⟨l, ⟨⟩⟩ := d
    exact ex_of (ann6 l) (f6_vc l hd) (by kernel_rfl)).met
end Go.Proofs.YtigfbjjphegleaaDoor
set_option linter.unusedSimpArgs false
set_option linter.unusedVariables false
namespace Go.Proofs.YtigfbjjphegleaaDoor
open Go Go.Eng
def mtx (n : Nat) (f : Nat → Nat → Bool) : List Bool := (List.range (n * n)).map fun m => f (m / n) (m % n)
theorem mtx_len (n : Nat) (f : Nat → Nat → Bool) : (mtx n f).length = n * n := by simp [mtx]
theorem idx_lt {n a b : Nat} (ha : a < n) (hb : b < n) : a * n + b < n * n := by
  have : (a + 1) * n ≤ n * n := Nat.mul_le_mul_right n ha
  rw [Nat.succ_mul] at this
  omega
theorem idx_div {n a b : Nat} (hb : b < n) : (a * n + b) / n = a := by
  rw [Nat.mul_comm, Nat.mul_add_div (by omega), Nat.div_eq_of_lt hb, Nat.add_zero]
theorem idx_mod {n a b : Nat} (hb : b < n) : (a * n + b) % n = b := by
  rw [Nat.mul_comm, Nat.mul_add_mod, Nat.mod_eq_of_lt hb]
theorem mtx_get {n : Nat} {f : Nat → Nat → Bool} {a b : Nat} (ha : a < n) (hb : b < n) : (mtx n f)[a * n + b]? = some (f a b) := by
  simp only [mtx, List.getElem?_map, List.getElem?_range (idx_lt ha hb), Option.map_some, idx_div hb, idx_mod hb]
theorem mtx_ext {n : Nat} {f g : Nat → Nat → Bool} (h : ∀ a b, a < n → b < n → f a b = g a b) : mtx n f = mtx n g := by
  unfold mtx
  refine List.map_congr_left fun m hm => ?_
  rw [List.mem_range] at hm
  have hn : 0 < n := Nat.pos_of_ne_zero fun e => by subst e; simp at hm
  exact h _ _ (Nat.div_lt_of_lt_mul hm) (Nat.mod_lt _ hn)
theorem mtx_set {n : Nat} {f g : Nat → Nat → Bool} {a b : Nat} {v : Bool} (ha : a < n) (hb : b < n) (hv : g a b = v) (h : ∀ x y, x < n → y < n → ¬ (x = a ∧ y = b) → f x y = g x y) : (mtx n f).set (a * n + b) v = mtx n g := by
  apply List.ext_getElem?
  intro m
  by_cases hm : m < n * n
  · have hn : 0 < n := by omega
    have e : m = m / n * n + m % n := by
      have := Nat.div_add_mod m n
      rw [Nat.mul_comm] at this; omega
    have h1 : m / n < n := Nat.div_lt_of_lt_mul hm
    have h2 : m % n < n := Nat.mod_lt _ hn
    rw [e]
    by_cases hab : m / n = a ∧ m % n = b
    · rw [hab.1, hab.2, List.getElem?_set_self (by rw [mtx_len]; exact idx_lt ha hb), mtx_get ha hb, hv]
    · rw [List.getElem?_set_ne, mtx_get h1 h2, mtx_get h1 h2, h _ _ h1 h2 hab]
      intro q
      apply hab
      have q1 := congrArg (· / n) q
      have q2 := congrArg (· % n) q
      simp only [idx_div hb, idx_mod hb, idx_div h2, idx_mod h2] at q1 q2
      exact ⟨q1.symm, q2.symm⟩
  · rw [List.getElem?_eq_none (by rw [List.length_set, mtx_len]; omega), List.getElem?_eq_none (by rw [mtx_len]; omega)]
def inR (n : Nat) (ps : List PrD) : Prop := ∀ p ∈ ps, ∃ a b : Nat, p = [(a : Int), (b : Int)] ∧ a < n ∧ b < n
def memB (ps : List PrD) (a b : Nat) : Bool := decide ([(a : Int), (b : Int)] ∈ ps)
/-- Warshall's rounds. -/
def wsh (R : Nat → Nat → Bool) : Nat → Nat → Nat → Bool
  | 0, i, j => R i j
  | k + 1, i, j => wsh R k i j || (wsh R k i k && wsh R k k j)
def wshS (R : Nat → Nat → Bool) (k i j : Nat) (a b : Nat) : Bool := if a < i ∨ (a = i ∧ b < j) then wsh R (k + 1) a b else wsh R k a b
theorem wsh_row (R : Nat → Nat → Bool) (k j : Nat) : wsh R (k + 1) k j = wsh R k k j := by
  simp only [wsh]
  cases wsh R k k j <;> simp
theorem wsh_col (R : Nat → Nat → Bool) (k i : Nat) : wsh R (k + 1) i k = wsh R k i k := by
  simp only [wsh]
  cases wsh R k i k <;> simp
theorem wshS_col {R : Nat → Nat → Bool} {k i j : Nat} (a : Nat) : wshS R k i j a k = wsh R k a k := by
  unfold wshS
  split
  · exact wsh_col R k a
  · rfl
theorem wshS_row {R : Nat → Nat → Bool} {k i j : Nat} (b : Nat) : wshS R k i j k b = wsh R k k b := by
  unfold wshS
  split
  · exact wsh_row R k b
  · rfl
theorem wshS_set {R : Nat → Nat → Bool} {n k i j : Nat} (hi : i < n) (hj : j < n) (hk : wsh R k i k = true) : (mtx n (wshS R k i j)).set (i * n + j) (wshS R k i j i j || wsh R k k j) = mtx n (wshS R k i (j + 1)) := by
  refine mtx_set hi hj ?_ fun x y _ _ h => ?_
  · have e1 : wshS R k i j i j = wsh R k i j := by unfold wshS; rw [if_neg (by omega)]
    have e2 : wshS R k i (j + 1) i j = wsh R (k + 1) i j := by unfold wshS; rw [if_pos (by omega)]
    rw [e1, e2]
    simp only [wsh, hk, Bool.true_and]
  · unfold wshS
    by_cases q : x < i ∨ (x = i ∧ y < j)
    · rw [if_pos q, if_pos (by omega)]
    · rw [if_neg q, if_neg (by omega)]
theorem wshS_next {R : Nat → Nat → Bool} {n k i j : Nat} (h : j = n ∨ (wsh R k i k = false)) : mtx n (wshS R k i j) = mtx n (wshS R k (i + 1) 0) := mtx_ext fun a b ha hb => by
  unfold wshS
  by_cases q : a < i ∨ (a = i ∧ b < j)
  · rw [if_pos q, if_pos (by omega)]
  · rw [if_neg q]
    by_cases q2 : a = i
    · rw [if_pos (by omega)]
      rcases h with h | h
      · omega
      · subst q2; simp only [wsh, h]; simp
    · rw [if_neg (by omega)]
theorem wshS_start (R : Nat → Nat → Bool) (n k : Nat) : mtx n (wshS R k 0 0) = mtx n (wsh R k) := mtx_ext fun a b _ _ => by
  unfold wshS; rw [if_neg (by omega)]
theorem wshS_end (R : Nat → Nat → Bool) (n k : Nat) : mtx n (wshS R k n 0) = mtx n (wsh R (k + 1)) := mtx_ext fun a b ha _ => by
  unfold wshS; rw [if_pos (by omega)]
def pairsF (n : Nat) (f : Nat → Nat → Bool) : List PrD := (List.range n).flatMap fun a => ((List.range n).filter (f a)).map fun (b : Nat) => [(a : Int), (b : Int)]
def rowF (f : Nat → Nat → Bool) (a j : Nat) : List PrD := ((List.range j).filter (f a)).map fun (b : Nat) => [(a : Int), (b : Int)]
def partF (n : Nat) (f : Nat → Nat → Bool) (i : Nat) : List PrD := (List.range i).flatMap fun a => rowF f a n
theorem partF_succ {n i : Nat} {f : Nat → Nat → Bool} : partF n f (i + 1) = partF n f i ++ rowF f i n := by simp [partF, List.range_succ]
theorem rowF_succ {f : Nat → Nat → Bool} {a j : Nat} : rowF f a (j + 1) = rowF f a j ++ if f a j = true then [[(a : Int), (j : Int)]] else [] := by
  unfold rowF
  rw [List.range_succ, List.filter_append, List.map_append, List.filter_cons]
  split <;> simp
theorem rowF_len (f : Nat → Nat → Bool) (a j : Nat) : (rowF f a j).length ≤ j := by
  unfold rowF
  rw [List.length_map]
  exact Nat.le_trans (List.length_filter_le _ _) (by simp)
theorem partF_len (n : Nat) (f : Nat → Nat → Bool) (i : Nat) : (partF n f i).length ≤ n * i := by
  induction i with
  | zero => simp [partF]
  | succ i ih =>
    rw [partF_succ, List.length_append, Nat.mul_succ]
    have := rowF_len f i n
    omega
theorem pairs_F (P : Nat → Nat → Bool) (n : Nat) : pairs P n n = partF n (fun a b => decide (a < b) && P a b) n := rfl
theorem partF_ext {n : Nat} {f g : Nat → Nat → Bool} (h : ∀ a b, a < n → b < n → f a b = g a b) : ∀ {i : Nat}, i ≤ n → partF n f i = partF n g i
  | 0, _ => rfl
  | i + 1, hi => by
    rw [partF_succ, partF_succ, partF_ext h (by omega)]
    congr 1
    unfold rowF
    congr 1
    exact List.filter_congr fun b hb => h i b (by omega) (List.mem_range.1 hb)
theorem mem_partF {n : Nat} {f : Nat → Nat → Bool} {p : PrD} : p ∈ partF n f n ↔ ∃ a b : Nat, p = [(a : Int), (b : Int)] ∧ a < n ∧ b < n ∧ f a b = true := by
  unfold partF rowF
  simp only [List.mem_flatMap, List.mem_map, List.mem_filter, List.mem_range]
  constructor
  · rintro ⟨a, ha, b, ⟨hb, hf⟩, rfl⟩; exact ⟨a, b, rfl, ha, hb, hf⟩
  · rintro ⟨a, b, rfl, ha, hb, hf⟩; exact ⟨a, ha, b, ⟨hb, hf⟩, rfl⟩
theorem memB_partF {n : Nat} {f : Nat → Nat → Bool} {a b : Nat} (ha : a < n) (hb : b < n) : memB (partF n f n) a b = f a b := bool_ext (by
  unfold memB
  rw [decide_eq_true_eq, mem_partF]
  constructor
  · rintro ⟨x, y, e, _, _, h⟩
    simp only [List.cons.injEq, and_true] at e
    have e1 : a = x := by omega
    have e2 : b = y := by omega
    rw [e1, e2]; exact h
  · exact fun h => ⟨a, b, rfl, ha, hb, h⟩)
theorem inR_partF (n : Nat) (f : Nat → Nat → Bool) : inR n (partF n f n) := fun p hp => by
  obtain ⟨a, b, e, ha, hb, _⟩ := mem_partF.1 hp
  exact ⟨a, b, e, ha, hb⟩
theorem mtx_false (n : Nat) : mtx n (fun _ _ => false) = List.replicate (n * n) false := by
  apply List.ext_getElem?
  intro m
  by_cases hm : m < n * n
  · rw [mtx, List.getElem?_map, List.getElem?_range hm, List.getElem?_replicate, if_pos hm]; rfl
  · rw [List.getElem?_eq_none (by rw [mtx_len]; omega), List.getElem?_eq_none (by simp; omega)]
theorem memB_succ {ps : List PrD} {x a b : Nat} (h : ps[x]? = some [(a : Int), (b : Int)]) (u v : Nat) : memB (ps.take (x + 1)) u v = (memB (ps.take x) u v || (decide (u = a) && decide (v = b))) := bool_ext (by
  unfold memB
  rw [List.take_add_one, h, Option.toList_some]
  simp only [decide_eq_true_eq, List.mem_append, List.mem_singleton, Bool.or_eq_true, Bool.and_eq_true, List.cons.injEq, and_true]
  constructor
  · rintro (h | ⟨h1, h2⟩)
    · exact .inl h
    · exact .inr ⟨by omega, by omega⟩
  · rintro (h | ⟨h1, h2⟩)
    · exact .inl h
    · exact .inr ⟨by omega, by omega⟩)
theorem tab_set {ps : List PrD} {n x a b : Nat} (h : ps[x]? = some [(a : Int), (b : Int)]) (ha : a < n) (hb : b < n) : (mtx n (memB (ps.take x))).set (a * n + b) true = mtx n (memB (ps.take (x + 1))) :=
  mtx_set ha hb (by rw [memB_succ h]; simp) fun u v _ _ q => by
    rw [memB_succ h]
    have : (decide (u = a) && decide (v = b)) = false := by
      rw [Bool.and_eq_false_iff, decide_eq_false_iff_not, decide_eq_false_iff_not]
      by_cases h1 : u = a
      · exact .inr fun h2 => q ⟨h1, h2⟩
      · exact .inl h1
    rw [this, Bool.or_false]
def redP (W : Nat → Nat → Bool) (k a b : Nat) : Bool := W a b && (List.range k).all fun m => !(W a m && W m b)
def redS (W : Nat → Nat → Bool) (n i j : Nat) (a b : Nat) : Bool := if a < i ∨ (a = i ∧ b < j) then redP W n a b else false
def redK (W : Nat → Nat → Bool) (n i j k : Nat) (a b : Nat) : Bool := if a = i ∧ b = j then redP W k a b else redS W n i j a b
theorem redP_succ (W : Nat → Nat → Bool) (k a b : Nat) : redP W (k + 1) a b = (redP W k a b && !(W a k && W k b)) := by
  unfold redP
  rw [List.range_succ, List.all_append]
  simp [Bool.and_assoc]
theorem redK_zero {W : Nat → Nat → Bool} {n i j : Nat} (hi : i < n) (hj : j < n) : (mtx n (redS W n i j)).set (i * n + j) (W i j) = mtx n (redK W n i j 0) := mtx_set hi hj (by simp [redK, redP]) fun x y _ _ h => by
  unfold redK
  rw [if_neg h]
theorem redK_set {W : Nat → Nat → Bool} {n i j k : Nat} (hi : i < n) (hj : j < n) (h : (W i k && W k j) = true) : (mtx n (redK W n i j k)).set (i * n + j) false = mtx n (redK W n i j (k + 1)) := mtx_set hi hj (by
    unfold redK
    rw [if_pos ⟨rfl, rfl⟩, redP_succ, h]; simp) fun x y _ _ q => by
  unfold redK
  rw [if_neg q, if_neg q]
theorem redK_same {W : Nat → Nat → Bool} {n i j k : Nat} (h : (W i k && W k j) = false) : mtx n (redK W n i j k) = mtx n (redK W n i j (k + 1)) := mtx_ext fun a b _ _ => by
  unfold redK
  by_cases q : a = i ∧ b = j
  · rw [if_pos q, if_pos q, redP_succ, q.1, q.2, h]; simp
  · rw [if_neg q, if_neg q]
theorem redK_end {W : Nat → Nat → Bool} {n i j : Nat} : mtx n (redK W n i j n) = mtx n (redS W n i (j + 1)) := mtx_ext fun a b _ _ => by
  unfold redK redS
  by_cases q : a = i ∧ b = j
  · rw [if_pos q, if_pos (by omega)]
  · rw [if_neg q]
    by_cases q2 : a < i ∨ (a = i ∧ b < j)
    · rw [if_pos q2, if_pos (by omega)]
    · rw [if_neg q2, if_neg (by omega)]
theorem redS_next {W : Nat → Nat → Bool} {n i : Nat} : mtx n (redS W n i n) = mtx n (redS W n (i + 1) 0) := mtx_ext fun a b _ hb => by
  unfold redS
  by_cases q : a < i ∨ (a = i ∧ b < n)
  · rw [if_pos q, if_pos (by omega)]
  · rw [if_neg q, if_neg (by omega)]
theorem redS_zero {W : Nat → Nat → Bool} {n : Nat} : mtx n (redS W n 0 0) = List.replicate (n * n) false := by
  rw [← mtx_false]
  exact mtx_ext fun a b _ _ => by unfold redS; rw [if_neg (by omega)]
theorem redS_end {W : Nat → Nat → Bool} {n : Nat} : mtx n (redS W n n 0) = mtx n (redP W n) := mtx_ext fun a b ha _ => by
  unfold redS; rw [if_pos (.inl ha)]
def mtxW (n : Nat) (R : Nat → Nat → Bool) (k i j : Nat) : List Bool := mtx n (wshS R k i j)
def mtxR (n : Nat) (W : Nat → Nat → Bool) (i j : Nat) : List Bool := mtx n (redS W n i j)
def mtxQ (n : Nat) (W : Nat → Nat → Bool) (i j k : Nat) : List Bool := mtx n (redK W n i j k)
theorem mtxW_len (n : Nat) (R : Nat → Nat → Bool) (k i j : Nat) : (mtxW n R k i j).length = n * n := mtx_len _ _
theorem mtxR_len (n : Nat) (W : Nat → Nat → Bool) (i j : Nat) : (mtxR n W i j).length = n * n := mtx_len _ _
theorem mtxQ_len (n : Nat) (W : Nat → Nat → Bool) (i j k : Nat) : (mtxQ n W i j k).length = n * n := mtx_len _ _
theorem ix {a b n : Nat} (hn : n ≤ 64) (ha : a < n) (hb : b < n) : InR .i64 ((a : Int) * (n : Int)) ∧ InR .i64 ((a : Int) * (n : Int) + (b : Int)) ∧ 0 ≤ (a : Int) * (n : Int) + (b : Int) ∧ (a : Int) * (n : Int) + (b : Int) < ((n * n : Nat) : Int) ∧ ((a : Int) * (n : Int) + (b : Int)).toNat = a * n + b ∧ a * n + b < n * n := by
  have e : (a : Int) * (n : Int) = ((a * n : Nat) : Int) := (Int.natCast_mul a n).symm
  have h1 := idx_lt ha hb
  have h2 : n * n ≤ 64 * 64 := Nat.mul_le_mul hn hn
  rw [e]
  exact ⟨InR_i64.2 (by omega), InR_i64.2 (by omega), by omega, by omega, by omega, h1⟩
theorem nn_le {n : Nat} (hn : n ≤ 64) : InR .i64 ((n : Int) * (n : Int)) ∧ 0 ≤ (n : Int) * (n : Int) ∧ ((n : Int) * (n : Int)).toNat = n * n ∧ n * n ≤ 4096 := by
  have e : (n : Int) * (n : Int) = ((n * n : Nat) : Int) := (Int.natCast_mul n n).symm
  have h2 : n * n ≤ 64 * 64 := Nat.mul_le_mul hn hn
  rw [e]
  exact ⟨InR_i64.2 (by omega), by omega, by omega, by omega⟩
end Go.Proofs.YtigfbjjphegleaaDoor
