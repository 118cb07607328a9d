/- The Thread chapter, part 6: the laws ThreadFamily and ThreadSettled. -/
import Derived.Test.YtklnffdjhoacoaaDoorPW5
set_option linter.unusedSimpArgs false
set_option linter.unusedVariables false
set_option maxRecDepth 100000
namespace Go.Proofs.YtklnffdjhoacoaaDoor
open Go Go.Eng

open Classical in
noncomputable def sameB (a b : TD) : Bool := decide (a = b)
open Classical in
theorem sameB_iff {a b : TD} : sameB a b = true ↔ a = b := by
  unfold sameB; rw [decide_eq_true_iff]
@[reducible] noncomputable def ctSame : CT := { ps := [shT, shT], pre := fun d => d.1.2.2.2.2.2.2.2.2.2.1.length ≤ 1000000, res := fun d => ([], vB (sameB d.1 d.2.1)) }
@[reducible] def cl19 : List (Nat × CT) := []
@[reducible] def ann19 (id : Int) (fn : Int) (pc : Int) (rg : List Int) (st : Int) (ch : Int) (ph : Int) (su : Int) (fa : Int) (he : List Int) (id2 : Int) (fn2 : Int) (pc2 : Int) (rg2 : List Int) (st2 : Int) (ch2 : Int) (ph2 : Int) (su2 : Int) (fa2 : Int) (he2 : List Int) : Nat → Option (St → Ann) := fun k => match k with
  | 4 => some fun _ => .inv { α := Nat, slots := fun k => [(5, .c (.v (.int .i64 k)))], res := fun _ => [], inv := fun k => k ≤ he.length ∧ ∀ j < k, he[j]? = he2[j]?, meas := fun k => he.length - k }
  | _ => none
@[reducible] def il19 : List (Nat × IP) := []
@[reducible] def hl19 : List (Nat × Nat × CT) := []
@[reducible] def ml19 : List (Nat × MK) := []
set_option maxRecDepth 100000 in
theorem f19_vc (id : Int) (fn : Int) (pc : Int) (rg : List Int) (st : Int) (ch : Int) (ph : Int) (su : Int) (fa : Int) (he : List Int) (id2 : Int) (fn2 : Int) (pc2 : Int) (rg2 : List Int) (st2 : Int) (ch2 : Int) (ph2 : Int) (su2 : Int) (fa2 : Int) (he2 : List Int) (hpre : ctSame.pre ((id, fn, pc, rg, st, ch, ph, su, fa, he, ()), (id2, fn2, pc2, rg2, st2, ch2, ph2, su2, fa2, he2, ()), ())) :
    br (!decide ((↑he.length : Int) = (↑he2.length : Int))) (([] : List Go.Eng.Res) = [] ∧ Ent.one (SV.c (SC.v (Value.bool (sameB (id, fn, pc, rg, st, ch, ph, su, fa, he, ()) (id2, fn2, pc2, rg2, st2, ch2, ph2, su2, fa2, he2, ()))))) = Ent.one (SV.c (SC.v (Value.bool false)))) ((∃ x, (x ≤ he.length ∧ ∀ (j : Nat), j < x → he[j]? = he2[j]?) ∧ (SV.c (SC.v (Value.int IntKind.i64 (0 : Int))) = SV.c (SC.v (Value.int IntKind.i64 (↑x : Int))) ∧ True) ∧ [(([] : Go.Eng.Gd), Res.obj (28 : Nat) ((Sh.int IntKind.i64).pair ((Sh.int IntKind.i64).pair ((Sh.int IntKind.i64).pair ((Sh.arr (8 : Nat) (Sh.int IntKind.i64)).pair ((Sh.int IntKind.i64).pair ((Sh.int IntKind.i64).pair ((Sh.int IntKind.i64).pair ((Sh.int IntKind.i64).pair ((Sh.int IntKind.i64).pair ((Sh.int IntKind.i64).sl.pair Sh.unit)))))))))) (id, fn, pc, rg, st, ch, ph, su, fa, he, ())), (([] : Go.Eng.Gd), Res.obj (28 : Nat) ((Sh.int IntKind.i64).pair ((Sh.int IntKind.i64).pair ((Sh.int IntKind.i64).pair ((Sh.arr (8 : Nat) (Sh.int IntKind.i64)).pair ((Sh.int IntKind.i64).pair ((Sh.int IntKind.i64).pair ((Sh.int IntKind.i64).pair ((Sh.int IntKind.i64).pair ((Sh.int IntKind.i64).pair ((Sh.int IntKind.i64).sl.pair Sh.unit)))))))))) (id2, fn2, pc2, rg2, st2, ch2, ph2, su2, fa2, he2, ()))] = [(([] : Go.Eng.Gd), Res.obj (28 : Nat) ((Sh.int IntKind.i64).pair ((Sh.int IntKind.i64).pair ((Sh.int IntKind.i64).pair ((Sh.arr (8 : Nat) (Sh.int IntKind.i64)).pair ((Sh.int IntKind.i64).pair ((Sh.int IntKind.i64).pair ((Sh.int IntKind.i64).pair ((Sh.int IntKind.i64).pair ((Sh.int IntKind.i64).pair ((Sh.int IntKind.i64).sl.pair Sh.unit)))))))))) (id, fn, pc, rg, st, ch, ph, su, fa, he, ())), (([] : Go.Eng.Gd), Res.obj (28 : Nat) ((Sh.int IntKind.i64).pair ((Sh.int IntKind.i64).pair ((Sh.int IntKind.i64).pair ((Sh.arr (8 : Nat) (Sh.int IntKind.i64)).pair ((Sh.int IntKind.i64).pair ((Sh.int IntKind.i64).pair ((Sh.int IntKind.i64).pair ((Sh.int IntKind.i64).pair ((Sh.int IntKind.i64).pair ((Sh.int IntKind.i64).sl.pair Sh.unit)))))))))) (id2, fn2, pc2, rg2, st2, ch2, ph2, su2, fa2, he2, ()))]) ∧ ∀ (x : Nat), (x ≤ he.length ∧ ∀ (j : Nat), j < x → he[j]? = he2[j]?) → br (decide ((↑x : Int) < (↑he.length : Int))) (((0 : Int) ≤ (↑x : Int) ∧ (↑x : Int) < (↑he.length : Int)) ∧ ∀ (d : Int), he[(↑x : Int).toNat]? = some d → ((0 : Int) ≤ (↑x : Int) ∧ (↑x : Int) < (↑he2.length : Int)) ∧ ∀ (d_1 : Int), he2[(↑x : Int).toNat]? = some d_1 → br (!decide (d = d_1)) (([] : List Go.Eng.Res) = [] ∧ Ent.one (SV.c (SC.v (Value.bool (sameB (id, fn, pc, rg, st, ch, ph, su, fa, he, ()) (id2, fn2, pc2, rg2, st2, ch2, ph2, su2, fa2, he2, ()))))) = Ent.one (SV.c (SC.v (Value.bool false)))) (InR IntKind.i64 ((↑x : Int) + (1 : Int)) ∧ ∃ x', (x' ≤ he.length ∧ ∀ (j : Nat), j < x' → he[j]? = he2[j]?) ∧ (SV.c (SC.v (Value.int IntKind.i64 ((↑x : Int) + (1 : Int)))) = SV.c (SC.v (Value.int IntKind.i64 (↑x' : Int))) ∧ True) ∧ [(([] : Go.Eng.Gd), Res.obj (28 : Nat) ((Sh.int IntKind.i64).pair ((Sh.int IntKind.i64).pair ((Sh.int IntKind.i64).pair ((Sh.arr (8 : Nat) (Sh.int IntKind.i64)).pair ((Sh.int IntKind.i64).pair ((Sh.int IntKind.i64).pair ((Sh.int IntKind.i64).pair ((Sh.int IntKind.i64).pair ((Sh.int IntKind.i64).pair ((Sh.int IntKind.i64).sl.pair Sh.unit)))))))))) (id, fn, pc, rg, st, ch, ph, su, fa, he, ())), (([] : Go.Eng.Gd), Res.obj (28 : Nat) ((Sh.int IntKind.i64).pair ((Sh.int IntKind.i64).pair ((Sh.int IntKind.i64).pair ((Sh.arr (8 : Nat) (Sh.int IntKind.i64)).pair ((Sh.int IntKind.i64).pair ((Sh.int IntKind.i64).pair ((Sh.int IntKind.i64).pair ((Sh.int IntKind.i64).pair ((Sh.int IntKind.i64).pair ((Sh.int IntKind.i64).sl.pair Sh.unit)))))))))) (id2, fn2, pc2, rg2, st2, ch2, ph2, su2, fa2, he2, ()))] = [(([] : Go.Eng.Gd), Res.obj (28 : Nat) ((Sh.int IntKind.i64).pair ((Sh.int IntKind.i64).pair ((Sh.int IntKind.i64).pair ((Sh.arr (8 : Nat) (Sh.int IntKind.i64)).pair ((Sh.int IntKind.i64).pair ((Sh.int IntKind.i64).pair ((Sh.int IntKind.i64).pair ((Sh.int IntKind.i64).pair ((Sh.int IntKind.i64).pair ((Sh.int IntKind.i64).sl.pair Sh.unit)))))))))) (id, fn, pc, rg, st, ch, ph, su, fa, he, ())), (([] : Go.Eng.Gd), Res.obj (28 : Nat) ((Sh.int IntKind.i64).pair ((Sh.int IntKind.i64).pair ((Sh.int IntKind.i64).pair ((Sh.arr (8 : Nat) (Sh.int IntKind.i64)).pair ((Sh.int IntKind.i64).pair ((Sh.int IntKind.i64).pair ((Sh.int IntKind.i64).pair ((Sh.int IntKind.i64).pair ((Sh.int IntKind.i64).pair ((Sh.int IntKind.i64).sl.pair Sh.unit)))))))))) (id2, fn2, pc2, rg2, st2, ch2, ph2, su2, fa2, he2, ()))] ∧ he.length - x' < he.length - x)) (br (!decide (id = id2) || !decide (fn = fn2) || !decide (pc = pc2) || !decide (rg = rg2) || !decide (st = st2)) (([] : List Go.Eng.Res) = [] ∧ Ent.one (SV.c (SC.v (Value.bool (sameB (id, fn, pc, rg, st, ch, ph, su, fa, he, ()) (id2, fn2, pc2, rg2, st2, ch2, ph2, su2, fa2, he2, ()))))) = Ent.one (SV.c (SC.v (Value.bool false)))) (([] : List Go.Eng.Res) = [] ∧ Ent.one (SV.c (SC.v (Value.bool (sameB (id, fn, pc, rg, st, ch, ph, su, fa, he, ()) (id2, fn2, pc2, rg2, st2, ch2, ph2, su2, fa2, he2, ()))))) = Ent.one (SV.c (SC.v (Value.bool (decide (ch = ch2) && decide (ph = ph2) && decide (su = su2) && decide (fa = fa2)))))))) := by
  have hp : he.length ≤ 1000000 := hpre
  have sF : ¬ (id, fn, pc, rg, st, ch, ph, su, fa, he, ()) = (id2, fn2, pc2, rg2, st2, ch2, ph2, su2, fa2, he2, ()) → ([] : List Go.Eng.Res) = [] ∧ Ent.one (SV.c (SC.v (Value.bool (sameB (id, fn, pc, rg, st, ch, ph, su, fa, he, ()) (id2, fn2, pc2, rg2, st2, ch2, ph2, su2, fa2, he2, ()))))) = Ent.one (SV.c (SC.v (Value.bool false))) := fun q => ⟨rfl, by rw [show sameB (id, fn, pc, rg, st, ch, ph, su, fa, he, ()) (id2, fn2, pc2, rg2, st2, ch2, ph2, su2, fa2, he2, ()) = false from Bool.eq_false_iff.2 fun h => q (sameB_iff.1 h)]⟩
  refine br_iff.2 ⟨fun h => sF fun q => ?_, fun h => ?_⟩
  · have := congrArg (fun t : TD => t.2.2.2.2.2.2.2.2.2.1.length) q
    simp at h; simp at this; omega
  have h : he.length = he2.length := by simp at h; omega
  refine ⟨⟨0, ⟨by omega, fun j hj => by omega⟩, ⟨rfl, trivial⟩, rfl⟩, fun k hk => br_iff.2 ⟨fun h2 => ?_, fun h2 => ?_⟩⟩
  · simp only [decide_eq_true_eq] at h2
    refine ⟨by omega, fun d hd => ⟨by omega, fun d1 hd1 => br_iff.2 ⟨fun h3 => sF fun q => ?_, fun h3 => ⟨InR_i64.2 (by omega), k + 1, ⟨by omega, fun j hj => ?_⟩, ⟨rfl, trivial⟩, rfl, by omega⟩⟩⟩⟩
    · have : he = he2 := congrArg (fun t : TD => t.2.2.2.2.2.2.2.2.2.1) q
      rw [this, hd1] at hd; cases hd
      simp at h3
    · have h3 : d = d1 := by simpa using h3
      by_cases hjk : j = k
      · subst hjk
        have a : he[j]? = some d := hd
        have b : he2[j]? = some d1 := hd1
        rw [a, b, h3]
      · exact hk.2 j (by omega)
  simp only [decide_eq_false_iff_not] at h2
  have hh : he = he2 := List.ext_getElem? fun j => by
    by_cases hj : j < k
    · exact hk.2 j hj
    · rw [List.getElem?_eq_none (by omega), List.getElem?_eq_none (by omega)]
  subst hh
  refine br_iff.2 ⟨fun h3 => sF fun q => ?_, fun h3 => ⟨rfl, ?_⟩⟩
  · simp only [Prod.mk.injEq] at q
    obtain ⟨q1, q2, q3, q4, q5, _⟩ := q
    subst q1; subst q2; subst q3; subst q4; subst q5
    simp at h3
  · simp only [Bool.or_eq_false_iff, Bool.not_eq_false', decide_eq_true_eq] at h3
    obtain ⟨⟨⟨⟨e1, e2⟩, e3⟩, e4⟩, e5⟩ := h3
    subst e1; subst e2; subst e3; subst e4; subst e5
    have : sameB (id, fn, pc, rg, st, ch, ph, su, fa, he, ()) (id, fn, pc, rg, st, ch2, ph2, su2, fa2, he, ()) = (decide (ch = ch2) && decide (ph = ph2) && decide (su = su2) && decide (fa = fa2)) := by
      rw [Bool.eq_iff_iff, sameB_iff]
      simp [and_assoc]
    rw [this]
set_option maxHeartbeats 2000000 in
set_option maxRecDepth 100000 in
theorem f19_met : Go.Eng.Met Tryd.prog cx0.gd 19 ctSame :=
  (met_all (cx := cx0) (n := 90) (cl := cl19) (il := il19) (hl := hl19) (ml := ml19) (rc := []) (lits := []) (suf := []) (by kernel_rfl) tis_ok trivial trivial trivial trivial Tryd.func19 (by kernel_rfl) (by kernel_rfl) rfl (by kernel_rfl) (by kernel_rfl) (by simp) fun d hd => by
    obtain ⟨⟨id, fn, pc, rg, st, ch, ph, su, fa, he, ⟨⟩⟩, ⟨id2, fn2, pc2, rg2, st2, ch2, ph2, su2, fa2, he2, ⟨⟩⟩, ⟨⟩⟩ := d
    exact ex_of (ann19 id fn pc rg st ch ph su fa he id2 fn2 pc2 rg2 st2 ch2 ph2 su2 fa2 he2) (f19_vc id fn pc rg st ch ph su fa he id2 fn2 pc2 rg2 st2 ch2 ph2 su2 fa2 he2 hd) (by kernel_rfl)).met
def exP (l : List ID) : PD := ([(⟨#[120]⟩, 0, ())], [], [], [(⟨#[102]⟩, l, ())], [(0, 0, ())], ())
@[reducible] def ctEx : CT := { ps := [.sl shI], pre := fun d => True, res := fun d => ([], .one (ofDat shP (exP d.1))) }
@[reducible] def cl24 : List (Nat × CT) := []
@[reducible] def ann24 (l : List ID) : Nat → Option (St → Ann) := fun _ => none
@[reducible] def il24 : List (Nat × IP) := []
@[reducible] def hl24 : List (Nat × Nat × CT) := []
@[reducible] def ml24 : List (Nat × MK) := []
set_option maxRecDepth 100000 in
theorem f24_vc (l : List ID) :
    ([] : List Go.Eng.Res) = [] ∧ Ent.one (SV.agg [SC.sl (Sh.str.pair ((Sh.int IntKind.i64).pair Sh.unit)) [({ data := #[(120 : UInt8)] : ByteArray }, (0 : Int), ())], SC.sl Sh.str [], SC.sl Sh.str [], SC.sl (Sh.str.pair (((Sh.int IntKind.i64).pair ((Sh.int IntKind.i64).pair ((Sh.int IntKind.i64).pair ((Sh.int IntKind.i64).pair ((Sh.int IntKind.i64).pair ((Sh.int IntKind.i64).pair ((Sh.int IntKind.i64).pair ((Sh.int IntKind.i64).pair Sh.unit)))))))).sl.pair Sh.unit)) [({ data := #[(102 : UInt8)] : ByteArray }, l, ())], SC.sl ((Sh.int IntKind.i64).pair ((Sh.int IntKind.i64).pair Sh.unit)) [((0 : Int), (0 : Int), ())]]) = Ent.one (SV.agg [SC.sl (Sh.str.pair ((Sh.int IntKind.i64).pair Sh.unit)) [({ data := #[(120 : UInt8)] : ByteArray }, (0 : Int), ())], SC.sl Sh.str [], SC.sl Sh.str [], SC.sl (Sh.str.pair (((Sh.int IntKind.i64).pair ((Sh.int IntKind.i64).pair ((Sh.int IntKind.i64).pair ((Sh.int IntKind.i64).pair ((Sh.int IntKind.i64).pair ((Sh.int IntKind.i64).pair ((Sh.int IntKind.i64).pair ((Sh.int IntKind.i64).pair Sh.unit)))))))).sl.pair Sh.unit)) [({ data := #[(102 : UInt8)] : ByteArray }, l, ())], SC.sl ((Sh.int IntKind.i64).pair ((Sh.int IntKind.i64).pair Sh.unit)) [((0 : Int), (0 : Int), ())]]) := by
  exact ⟨rfl, rfl⟩
set_option maxHeartbeats 2000000 in
set_option maxRecDepth 100000 in
theorem f24_met : Go.Eng.Met Tryd.prog cx0.gd 24 ctEx :=
  (met_all (cx := cx0) (n := 11) (cl := cl24) (il := il24) (hl := hl24) (ml := ml24) (rc := [.data shP]) (lits := []) (suf := []) (by kernel_rfl) tis_ok trivial trivial trivial trivial Tryd.func24 (by kernel_rfl) (by kernel_rfl) rfl (by kernel_rfl) (by kernel_rfl) (by simp) fun d hd => by
    obtain ⟨l, ⟨⟩⟩ := d
    exact ex_of (ann24 l) (f24_vc l) (by kernel_rfl)).met
def exF : List FD := [(⟨#[102]⟩, [(1, 1, 0, 0, 0, 5, 0, 0, ()), (9, 0, 1, 0, 0, 0, 0, 0, ())], ())]
def exT : TD := stlS exF 1 256 (0, 0, 0, [3, 0, 0, 0, 0, 0, 0, 0], 0, 0, 0, 1, 0, [], ())
@[reducible] def ctLiv : CT := { ps := [], pre := fun _ => True, res := fun _ => ([], vB true) }
@[reducible] noncomputable def cl9 : List (Nat × CT) := [(24, ctEx), (16, ctNew), (17, ctTV), (21, ctCom), (6, ctChi)]
@[reducible] def ann9  : Nat → Option (St → Ann) := fun _ => none
@[reducible] def il9 : List (Nat × IP) := []
@[reducible] def hl9 : List (Nat × Nat × CT) := []
@[reducible] noncomputable def ml9 : List (Nat × MK) := []
set_option maxRecDepth 100000 in
theorem f9_vc  :
    True ∧ (((1 : Nat) ≤ (1000000 : Nat) ∧ (0 : Nat) ≤ (1000000 : Nat) ∧ (0 : Nat) ≤ (1000000 : Nat) ∧ (1 : Nat) ≤ (1000000 : Nat) ∧ (1 : Nat) ≤ (1000000 : Nat) ∧ (∀ (x : Sh.str.den × (((Sh.int IntKind.i64).pair ((Sh.int IntKind.i64).pair ((Sh.int IntKind.i64).pair ((Sh.int IntKind.i64).pair ((Sh.int IntKind.i64).pair ((Sh.int IntKind.i64).pair ((Sh.int IntKind.i64).pair ((Sh.int IntKind.i64).pair Sh.unit)))))))).sl.pair Sh.unit).den), x ∈ [({ data := #[(102 : UInt8)] : ByteArray }, [((1 : Int), (1 : Int), (0 : Int), (0 : Int), (0 : Int), (5 : Int), (0 : Int), (0 : Int), ()), ((9 : Int), (0 : Int), (1 : Int), (0 : Int), (0 : Int), (0 : Int), (0 : Int), (0 : Int), ())], ())] → List.length x.snd.fst ≤ (1000000 : Nat)) ∧ (2 : Nat) ≤ (1000000 : Nat)) ∧ (0 : Int) ≤ (9223372036854775807 : (Sh.int IntKind.i64).den)) ∧ (true = true → (0 : Int) ≤ (0 : Int) ∧ (0 : Int) < (8 : Int)) ∧ (true = true → (0 : Nat) < (8 : Nat)) ∧ ∀ (d : Int), (true = true → ([(3 : Int), (0 : Int), (0 : Int), (0 : Int), (0 : Int), (0 : Int), (0 : Int), (0 : Int)].set (1 : Nat) (5 : Int))[(0 : Nat)]? = some d) → ((!(false || !decide (d = (3 : Int)))) = true → (0 : Int) ≤ (1 : Int) ∧ (1 : Int) < (8 : Int)) ∧ ((!(false || !decide (d = (3 : Int)))) = true → (1 : Nat) < (8 : Nat)) ∧ ∀ (d_1 : Int), ((!(false || !decide (d = (3 : Int)))) = true → ([(3 : Int), (0 : Int), (0 : Int), (0 : Int), (0 : Int), (0 : Int), (0 : Int), (0 : Int)].set (1 : Nat) (5 : Int))[(1 : Nat)]? = some d_1) → ((!(false || !decide (d = (3 : Int)) || !decide (d_1 = (5 : Int)) || false)) = true → ((1 : Nat) ≤ (1000000 : Nat) ∧ (0 : Nat) ≤ (1000000 : Nat) ∧ (0 : Nat) ≤ (1000000 : Nat) ∧ (1 : Nat) ≤ (1000000 : Nat) ∧ (1 : Nat) ≤ (1000000 : Nat) ∧ (∀ (x : Sh.str.den × (((Sh.int IntKind.i64).pair ((Sh.int IntKind.i64).pair ((Sh.int IntKind.i64).pair ((Sh.int IntKind.i64).pair ((Sh.int IntKind.i64).pair ((Sh.int IntKind.i64).pair ((Sh.int IntKind.i64).pair ((Sh.int IntKind.i64).pair Sh.unit)))))))).sl.pair Sh.unit).den), x ∈ [({ data := #[(102 : UInt8)] : ByteArray }, [((1 : Int), (1 : Int), (0 : Int), (0 : Int), (0 : Int), (5 : Int), (0 : Int), (0 : Int), ()), ((9 : Int), (0 : Int), (1 : Int), (0 : Int), (0 : Int), (0 : Int), (0 : Int), (0 : Int), ())], ())] → List.length x.snd.fst ≤ (1000000 : Nat)) ∧ (2 : Nat) ≤ (1000000 : Nat)) ∧ (0 : Nat) ≤ (1000000 : Nat) ∧ (0 : Int) ≤ (9223372036854775807 : (Sh.int IntKind.i64).den) ∧ (8 : Nat) = (8 : Nat)) ∧ br (false || !decide (d = (3 : Int)) || !decide (d_1 = (5 : Int)) || false || !vldB [] exF 1 exT) (([] : List Go.Eng.Res) = [] ∧ Ent.one (SV.c (SC.v (Value.bool true))) = Ent.one (SV.c (SC.v (Value.bool false)))) ((((1 : Nat) ≤ (1000000 : Nat) ∧ (0 : Nat) ≤ (1000000 : Nat) ∧ (0 : Nat) ≤ (1000000 : Nat) ∧ (1 : Nat) ≤ (1000000 : Nat) ∧ (1 : Nat) ≤ (1000000 : Nat) ∧ (∀ (x : Sh.str.den × (((Sh.int IntKind.i64).pair ((Sh.int IntKind.i64).pair ((Sh.int IntKind.i64).pair ((Sh.int IntKind.i64).pair ((Sh.int IntKind.i64).pair ((Sh.int IntKind.i64).pair ((Sh.int IntKind.i64).pair ((Sh.int IntKind.i64).pair Sh.unit)))))))).sl.pair Sh.unit).den), x ∈ [({ data := #[(102 : UInt8)] : ByteArray }, [((1 : Int), (1 : Int), (0 : Int), (0 : Int), (0 : Int), (5 : Int), (0 : Int), (0 : Int), ()), ((9 : Int), (0 : Int), (1 : Int), (0 : Int), (0 : Int), (0 : Int), (0 : Int), (0 : Int), ())], ())] → List.length x.snd.fst ≤ (1000000 : Nat)) ∧ (2 : Nat) ≤ (1000000 : Nat)) ∧ (0 : Nat) ≤ (1000000 : Nat) ∧ (0 : Int) ≤ (9223372036854775807 : (Sh.int IntKind.i64).den) ∧ (8 : Nat) = (8 : Nat)) ∧ True ∧ (((1 : Nat) ≤ (1000000 : Nat) ∧ (0 : Nat) ≤ (1000000 : Nat) ∧ (0 : Nat) ≤ (1000000 : Nat) ∧ (1 : Nat) ≤ (1000000 : Nat) ∧ (1 : Nat) ≤ (1000000 : Nat) ∧ (∀ (x : Sh.str.den × (((Sh.int IntKind.i64).pair ((Sh.int IntKind.i64).pair ((Sh.int IntKind.i64).pair ((Sh.int IntKind.i64).pair ((Sh.int IntKind.i64).pair ((Sh.int IntKind.i64).pair ((Sh.int IntKind.i64).pair ((Sh.int IntKind.i64).pair Sh.unit)))))))).sl.pair Sh.unit).den), x ∈ [({ data := #[(102 : UInt8)] : ByteArray }, [((4 : Int), (0 : Int), (0 : Int), (0 : Int), (0 : Int), (0 : Int), (0 : Int), (0 : Int), ())], ())] → List.length x.snd.fst ≤ (1000000 : Nat)) ∧ (1 : Nat) ≤ (1000000 : Nat)) ∧ (0 : Int) ≤ (9223372036854775807 : (Sh.int IntKind.i64).den)) ∧ (1 : Int) ≤ (9223372036854775807 : (Sh.int IntKind.i64).den) ∧ ([] : List Go.Eng.Res) = [] ∧ Ent.one (SV.c (SC.v (Value.bool true))) = Ent.one (SV.c (SC.v (Value.bool (decide ((comS 0 [] exF 1 exT 0).2 = 0) && decide ((comS 0 [] exF 1 exT 0).1.2.2.1 = 2) && decide ((comS 0 [] exF 1 exT 0).1.2.2.2.2.1 = 1) && decide ((comS 0 [] exF 1 exT 0).1.2.2.2.2.2.2.2.1 = 2) && true && true && true && true && true))))) := by
  have hc : (chkP [(⟨#[120]⟩, 0, ())] [] [] exF [(0, 0, ())]).1 = 0 := by decide
  have hT : exT = (0, 0, 1, [3, 5, 0, 0, 0, 0, 0, 0], 0, 0, 0, 1, 0, [], ()) := by kernel_rfl
  have hV : Vld [] exF 1 exT := stl_vld hc (by omega) _ _ (new_formed [] (by omega) (by decide) (by decide) (by decide)) rfl rfl
  have hC : comS 0 [] exF 1 exT 0 = ((0, 0, 2, [3, 5, 0, 0, 0, 0, 0, 0], 1, 0, 0, 2, 0, [], ()), 0) := by
    rw [comS, if_neg (by decide), if_neg (fun q => q hV), if_neg (by rw [hT]; simp), if_neg (by decide)]
    kernel_rfl
  rw [hC, vldB_iff.2 hV]
  simp
set_option maxHeartbeats 2000000 in
set_option maxRecDepth 100000 in
theorem f9_met : Go.Eng.Met Tryd.prog cx0.gd 9 ctLiv :=
  (met_all (cx := cx0) (n := 105) (cl := cl9) (il := il9) (hl := hl9) (ml := ml9) (rc := []) (lits := []) (suf := []) (by kernel_rfl) tis_ok ⟨f24_met, f16_met, f17_met, f21_met, f6_met, trivial⟩ trivial trivial trivial Tryd.func9 (by kernel_rfl) (by kernel_rfl) rfl (by kernel_rfl) (by kernel_rfl) (by simp) fun d hd => by
    obtain ⟨⟩ := d
    exact ex_of (ann9 ) (f9_vc ) (by kernel_rfl)).met
@[reducible] def ctSml : CT := { ps := [.pair shP (.pair (.int .i64) (.pair (.int .i64) (.pair shT .unit)))], pre := fun d => True, res := fun d => ([], vB (smS d.1.1.1 d.1.1.2.1 d.1.1.2.2.1 d.1.1.2.2.2.1 d.1.1.2.2.2.2.1 && decide (d.1.2.2.2.1.2.2.2.2.2.2.2.2.2.1.length ≤ 20))) }
@[reducible] def cl15 : List (Nat × CT) := [(28, ctSm)]
@[reducible] def ann15 (vs : List VD) (ms : List ByteArray) (cs : List ByteArray) (fs : List FD) (ts : List SD) (bound : Int) (r : Int) (id : Int) (fn : Int) (pc : Int) (rg : List Int) (st : Int) (ch : Int) (ph : Int) (su : Int) (fa : Int) (he : List Int) : Nat → Option (St → Ann) := fun _ => none
@[reducible] def il15 : List (Nat × IP) := []
@[reducible] def hl15 : List (Nat × Nat × CT) := []
@[reducible] def ml15 : List (Nat × MK) := []
set_option maxRecDepth 100000 in
theorem f15_vc (vs : List VD) (ms : List ByteArray) (cs : List ByteArray) (fs : List FD) (ts : List SD) (bound : Int) (r : Int) (id : Int) (fn : Int) (pc : Int) (rg : List Int) (st : Int) (ch : Int) (ph : Int) (su : Int) (fa : Int) (he : List Int) :
    True ∧ ([] : List Go.Eng.Res) = [] ∧ Ent.one (SV.c (SC.v (Value.bool (smS vs ms cs fs ts && decide (he.length ≤ (20 : Nat)))))) = Ent.one (SV.c (SC.v (Value.bool (smS vs ms cs fs ts && decide ((↑he.length : Int) ≤ (20 : Int)))))) := by
  refine ⟨trivial, rfl, ?_⟩
  rw [show decide (he.length ≤ 20) = decide ((he.length : Int) ≤ 20) by rw [Bool.eq_iff_iff]; simp; omega]
set_option maxHeartbeats 2000000 in
set_option maxRecDepth 100000 in
theorem f15_met : Go.Eng.Met Tryd.prog cx0.gd 15 ctSml :=
  (met_all (cx := cx0) (n := 13) (cl := cl15) (il := il15) (hl := hl15) (ml := ml15) (rc := []) (lits := []) (suf := []) (by kernel_rfl) tis_ok ⟨f28_met, trivial⟩ trivial trivial trivial Tryd.func15 (by kernel_rfl) (by kernel_rfl) rfl (by kernel_rfl) (by kernel_rfl) (by simp) fun d hd => by
    obtain ⟨⟨⟨vs, ms, cs, fs, ts, ⟨⟩⟩, bound, r, ⟨id, fn, pc, rg, st, ch, ph, su, fa, he, ⟨⟩⟩, ⟨⟩⟩, ⟨⟩⟩ := d
    exact ex_of (ann15 vs ms cs fs ts bound r id fn pc rg st ch ph su fa he) (f15_vc vs ms cs fs ts bound r id fn pc rg st ch ph su fa he) (by kernel_rfl)).met
theorem child_ok {id ch : Int} (h : (childS id ch).2 = true) : (childS id ch).1 = 8 * (id + 1) + ch ∧ (0 ≤ ch ∧ ch < 7) ∧ parentS (childS id ch).1 = (id, true) ∧ depthM (childS id ch).1 = depthM id + 1 ∧ 8 ≤ (childS id ch).1 ∧ depthM (childS id ch).1 ≤ 4 ∧ (childS id ch).1 ≤ 1000000 ∧ (0 ≤ depthM id ∧ depthM id ≤ 4) := by
  unfold childS at h ⊢
  split at h
  · cases h
  rename_i q
  rw [if_neg q]
  have q1 : 0 ≤ depthI id := by omega
  have q2 : depthI id ≠ 4 := by omega
  obtain ⟨e1, e2⟩ := child_depth q1 q2 (ch := ch) (by omega) (by omega)
  have hl := depthI_lt q1
  have hr := depthI_rng id
  refine ⟨rfl, by omega, ?_, ?_, by simp only; omega, ?_, by simp only; omega, ?_⟩
  · unfold parentS
    rw [if_neg (by rw [e1]; omega), e2]
  · unfold depthM
    rw [e1, if_neg (by omega), if_neg (by omega)]
  · unfold depthM
    rw [e1, if_neg (by omega)]; omega
  · unfold depthM
    rw [if_neg (by omega)]; omega
@[reducible] def ctL3 : CT := { ps := [shT, shT], pre := fun d => d.1.1 ≤ 9223372036854775807 ∧ d.2.1.1 ≤ 9223372036854775807, res := fun d => ([], vB (true)) }
@[reducible] noncomputable def cl3 : List (Nat × CT) := [(6, ctChi), (7, ctPar), (8, ctDpt), (9, ctLiv)]
@[reducible] def ann3 (id : Int) (fn : Int) (pc : Int) (rg : List Int) (st : Int) (ch : Int) (ph : Int) (su : Int) (fa : Int) (he : List Int) (id2 : Int) (fn2 : Int) (pc2 : Int) (rg2 : List Int) (st2 : Int) (ch2 : Int) (ph2 : Int) (su2 : Int) (fa2 : Int) (he2 : List Int) : Nat → Option (St → Ann) := fun _ => none
@[reducible] def il3 : List (Nat × IP) := []
@[reducible] def hl3 : List (Nat × Nat × CT) := []
@[reducible] noncomputable def ml3 : List (Nat × MK) := []
set_option maxRecDepth 100000 in
theorem f3_vc (id : Int) (fn : Int) (pc : Int) (rg : List Int) (st : Int) (ch : Int) (ph : Int) (su : Int) (fa : Int) (he : List Int) (id2 : Int) (fn2 : Int) (pc2 : Int) (rg2 : List Int) (st2 : Int) (ch2 : Int) (ph2 : Int) (su2 : Int) (fa2 : Int) (he2 : List Int) (hpre : ctL3.pre ((id, fn, pc, rg, st, ch, ph, su, fa, he, ()), (id2, fn2, pc2, rg2, st2, ch2, ph2, su2, fa2, he2, ()), ())) :
    id ≤ (9223372036854775807 : (Sh.int IntKind.i64).den) ∧ id2 ≤ (9223372036854775807 : (Sh.int IntKind.i64).den) ∧ br (childS id ch).snd ((childS id ch).fst ≤ (9223372036854775807 : (Sh.int IntKind.i64).den) ∧ ((!(!(parentS (childS id ch).fst).snd || !decide ((parentS (childS id ch).fst).fst = id))) = true → (childS id ch).fst ≤ (9223372036854775807 : (Sh.int IntKind.i64).den)) ∧ ((!(!(parentS (childS id ch).fst).snd || !decide ((parentS (childS id ch).fst).fst = id))) = true → id ≤ (9223372036854775807 : (Sh.int IntKind.i64).den)) ∧ ((!(!(parentS (childS id ch).fst).snd || !decide ((parentS (childS id ch).fst).fst = id))) = true → InR IntKind.i64 (depthM id + (1 : Int))) ∧ ((!(!(parentS (childS id ch).fst).snd || !decide ((parentS (childS id ch).fst).fst = id) || !decide (depthM (childS id ch).fst = depthM id + (1 : Int)) || decide ((childS id ch).fst < (8 : Int)))) = true → (childS id ch).fst ≤ (9223372036854775807 : (Sh.int IntKind.i64).den)) ∧ br (!(parentS (childS id ch).fst).snd || !decide ((parentS (childS id ch).fst).fst = id) || !decide (depthM (childS id ch).fst = depthM id + (1 : Int)) || decide ((childS id ch).fst < (8 : Int)) || decide ((4 : Int) < depthM (childS id ch).fst)) (([] : List Go.Eng.Res) = [] ∧ Ent.one (SV.c (SC.v (Value.bool true))) = Ent.one (SV.c (SC.v (Value.bool false)))) (((!(childS id ch).snd || !(childS id2 ch2).snd || decide ((childS id ch).fst = (childS id2 ch2).fst) == (decide (id = id2) && decide (ch = ch2))) = true → True) ∧ ([] : List Go.Eng.Res) = [] ∧ Ent.one (SV.c (SC.v (Value.bool true))) = Ent.one (SV.c (SC.v (Value.bool ((!(childS id ch).snd || !(childS id2 ch2).snd || decide ((childS id ch).fst = (childS id2 ch2).fst) == (decide (id = id2) && decide (ch = ch2))) && true)))))) (((!(childS id ch).snd || !(childS id2 ch2).snd || decide ((childS id ch).fst = (childS id2 ch2).fst) == (decide (id = id2) && decide (ch = ch2))) = true → True) ∧ ([] : List Go.Eng.Res) = [] ∧ Ent.one (SV.c (SC.v (Value.bool true))) = Ent.one (SV.c (SC.v (Value.bool ((!(childS id ch).snd || !(childS id2 ch2).snd || decide ((childS id ch).fst = (childS id2 ch2).fst) == (decide (id = id2) && decide (ch = ch2))) && true))))) := by
  obtain ⟨hi, hi2⟩ : id ≤ 9223372036854775807 ∧ id2 ≤ 9223372036854775807 := hpre
  have fin : (!(childS id ch).2 || !(childS id2 ch2).2 || decide ((childS id ch).1 = (childS id2 ch2).1) == (decide (id = id2) && decide (ch = ch2))) = true := by
    cases h1 : (childS id ch).2 with
    | false => simp
    | true =>
      cases h2 : (childS id2 ch2).2 with
      | false => simp
      | true =>
        obtain ⟨a1, a2, _⟩ := child_ok h1
        obtain ⟨b1, b2, _⟩ := child_ok h2
        rw [a1, b1]
        simp only [Bool.not_true, Bool.false_or, beq_iff_eq]
        rw [Bool.eq_iff_iff, Bool.and_eq_true, decide_eq_true_iff, decide_eq_true_iff, decide_eq_true_iff]
        omega
  have tail : ∀ A B : Prop, B → (((!(childS id ch).2 || !(childS id2 ch2).2 || decide ((childS id ch).1 = (childS id2 ch2).1) == (decide (id = id2) && decide (ch = ch2))) = true → True) ∧ B) := fun A B h => ⟨fun _ => trivial, h⟩
  refine ⟨hi, hi2, br_iff.2 ⟨fun h => ?_, fun h => ⟨fun _ => trivial, rfl, by rw [fin]; rfl⟩⟩⟩
  obtain ⟨a1, a2, a3, a4, a5, a6, a7, a8⟩ := child_ok h
  refine ⟨by omega, fun _ => by omega, fun _ => hi, fun _ => InR_i64.2 (by omega), fun _ => by omega, br_iff.2 ⟨fun q => ?_, fun q => ⟨fun _ => trivial, rfl, by rw [fin]; rfl⟩⟩⟩
  exfalso
  rw [a3] at q
  simp at q
  omega
set_option maxHeartbeats 2000000 in
set_option maxRecDepth 100000 in
theorem f3_met : Go.Eng.Met Tryd.prog cx0.gd 3 ctL3 :=
  (met_all (cx := cx0) (n := 80) (cl := cl3) (il := il3) (hl := hl3) (ml := ml3) (rc := []) (lits := []) (suf := []) (by kernel_rfl) tis_ok ⟨f6_met, f7_met, f8_met, f9_met, trivial⟩ trivial trivial trivial Tryd.func3 (by kernel_rfl) (by kernel_rfl) rfl (by kernel_rfl) (by kernel_rfl) (by simp) fun d hd => by
    obtain ⟨⟨id, fn, pc, rg, st, ch, ph, su, fa, he, ⟨⟩⟩, ⟨id2, fn2, pc2, rg2, st2, ch2, ph2, su2, fa2, he2, ⟨⟩⟩, ⟨⟩⟩ := d
    exact ex_of (ann3 id fn pc rg st ch ph su fa he id2 fn2 pc2 rg2 st2 ch2 ph2 su2 fa2 he2) (f3_vc id fn pc rg st ch ph su fa he id2 fn2 pc2 rg2 st2 ch2 ph2 su2 fa2 he2 hd) (by kernel_rfl)).met
theorem top_len {fs : List FD} {bound : Int} {t : TD} {rest : ID → TD} (hr : ∀ i, (rest i).2.2.2.1.length = t.2.2.2.1.length) : (topS fs bound t rest).2.2.2.1.length = t.2.2.2.1.length := by
  obtain ⟨id, fn, pc, rg, st, ch, ph, su, fa, hd, u⟩ := t
  unfold topS
  simp only
  split
  · rfl
  split
  · repeat' split
    all_goals rfl
  · exact hr _
theorem stl_len (fs : List FD) (bound : Int) : ∀ (k : Nat) (t : TD), (stlS fs bound k t).2.2.2.1.length = t.2.2.2.1.length := by
  intro k
  induction k with
  | zero =>
    intro t
    rw [stlS]
    exact top_len fun i => rfl
  | succ k ih =>
    intro t
    rw [stlS]
    refine top_len fun i => ?_
    split
    · exact (ih _).trans (loc_len t i)
    · exact loc_len t i
theorem new_ok {vs : List VD} {ms cs : List ByteArray} {fs : List FD} {ts : List SD} {bound id fn r : Int} (h : (newS (chkP vs ms cs fs ts).1 fs bound id fn r).2 = 0) : stdS (chkP vs ms cs fs ts).1 bound = 0 ∧ Vld ms fs bound (newS (chkP vs ms cs fs ts).1 fs bound id fn r).1 ∧ (newS (chkP vs ms cs fs ts).1 fs bound id fn r).1.2.2.2.1.length = 8 := by
  unfold newS at h ⊢
  split at h
  · rename_i q; exact absurd h q
  split at h
  · cases h
  split at h
  · cases h
  split at h
  · cases h
  rename_i q1 q2 q3 q4
  rw [if_neg q1, if_neg q2, if_neg q3, if_neg q4]
  have hs := std_zero.1 (Classical.not_not.1 q1)
  exact ⟨Classical.not_not.1 q1, stl_vld hs.1 hs.2.1 _ _ (new_formed ms hs.2.1 q2 q3 q4) rfl rfl, stl_len _ _ _ _⟩
theorem set_ok {vs : List VD} {ms cs : List ByteArray} {fs : List FD} {ts : List SD} {bound : Int} {t : TD} (hl : t.2.2.2.1.length = 8) (h : (setS (chkP vs ms cs fs ts).1 ms fs bound t).2 = 0) : stdS (chkP vs ms cs fs ts).1 bound = 0 ∧ Formed ms fs bound t ∧ t.2.2.2.2.2.2.2.2.1 = 0 ∧ t.2.2.2.2.2.2.2.1 = 1 ∧ (setS (chkP vs ms cs fs ts).1 ms fs bound t).1 = stlS fs bound 256 t ∧ Vld ms fs bound (setS (chkP vs ms cs fs ts).1 ms fs bound t).1 ∧ (setS (chkP vs ms cs fs ts).1 ms fs bound t).1.2.2.2.1.length = 8 := by
  unfold setS at h ⊢
  split at h
  · rename_i q; exact absurd h q
  split at h
  · cases h
  split at h
  · cases h
  rename_i q1 q2 q3
  rw [if_neg q1, if_neg q2, if_neg q3]
  have hs := std_zero.1 (Classical.not_not.1 q1)
  have q4 : Formed ms fs bound t := Classical.not_not.1 fun q => q2 (.inl q)
  have q5 : t.2.2.2.2.2.2.2.2.1 = 0 := Classical.not_not.1 fun q => q2 (.inr q)
  have q6 : t.2.2.2.2.2.2.2.1 = 1 := Classical.not_not.1 q3
  exact ⟨Classical.not_not.1 q1, q4, q5, q6, rfl, stl_vld hs.1 hs.2.1 _ _ q4 q6 q5, (stl_len _ _ _ _).trans hl⟩
theorem com_ok {vs : List VD} {ms cs : List ByteArray} {fs : List FD} {ts : List SD} {bound r : Int} {t : TD} (hl : t.2.2.2.1.length = 8) (h : (comS (chkP vs ms cs fs ts).1 ms fs bound t r).2 = 0) : stdS (chkP vs ms cs fs ts).1 bound = 0 ∧ Vld ms fs bound (comS (chkP vs ms cs fs ts).1 ms fs bound t r).1 ∧ (comS (chkP vs ms cs fs ts).1 ms fs bound t r).1.2.2.2.1.length = 8 ∧
    (comS (chkP vs ms cs fs ts).1 ms fs bound t r).1.2.2.2.2.1 = t.2.2.2.2.1 + 1 ∧ (comS (chkP vs ms cs fs ts).1 ms fs bound t r).1.1 = t.1 ∧ (comS (chkP vs ms cs fs ts).1 ms fs bound t r).1.2.1 = t.2.1 ∧ (0 ≤ t.2.2.2.2.1 ∧ t.2.2.2.2.1 < 32) := by
  unfold comS at h ⊢
  split at h
  · rename_i q; exact absurd h q
  split at h
  · cases h
  split at h
  · cases h
  split at h
  · cases h
  rename_i q1 q2 q3 q4
  rw [if_neg q1, if_neg q2, if_neg q3, if_neg q4]
  have hs := std_zero.1 (Classical.not_not.1 q1)
  have hV := Classical.not_not.1 q2
  have h1 : t.2.2.2.2.2.2.2.1 = 1 := Classical.not_not.1 q3
  have hv : valS r = true := by simpa using q4
  obtain ⟨f0, s0, i, ha, vi, oi⟩ := run_at hV h1
  have ea : (atR fs t.2.1 t.2.2.1).1 = i := by unfold atR; rw [ha]
  rw [ea]
  have hf := cmp_formed hs.1 hV h1 ha hv
  have hk := cmp_keep t i r
  have hk2 := stl_keep fs bound 256 (cmpS t i r)
  refine ⟨Classical.not_not.1 q1, stl_vld hs.1 hs.2.1 _ _ hf (hk.2.2.2.1.trans h1) (hk.2.2.2.2.trans f0), ((stl_len _ _ _ _).trans (cmp_len _ _ _)).trans hl, hk2.2.2.1.trans hk.2.2.1, hk2.1.trans hk.1, hk2.2.1.trans hk.2.1, ?_⟩
  obtain ⟨id, fn, pc, rg, st, ch, ph, su, fa, he, u⟩ := t
  have := hV.1.2.2.2.2.1
  have s0 : st < bound := s0
  show 0 ≤ st ∧ st < 32
  have : 0 ≤ st ∧ st ≤ bound := this
  omega
theorem vld_formed {ms : List ByteArray} {fs : List FD} {bound : Int} {t : TD} (h : Vld ms fs bound t) : Formed ms fs bound t := by
  obtain ⟨id, fn, pc, rg, st, ch, ph, su, fa, he, u⟩ := t
  exact h.1
theorem formed_fn {ms : List ByteArray} {fs : List FD} {bound : Int} {t : TD} (h : Formed ms fs bound t) : (0 ≤ t.2.1 ∧ t.2.1 < (fs.length : Int)) ∧ 0 ≤ t.2.2.1 := by
  obtain ⟨id, fn, pc, rg, st, ch, ph, su, fa, he, u⟩ := t
  exact ⟨h.2.1, h.2.2.1.1⟩
theorem vld_mono {ms : List ByteArray} {fs : List FD} {b c : Int} (hbc : b ≤ c) {t : TD} (h : Vld ms fs b t) : Vld ms fs c t := by
  obtain ⟨id, fn, pc, rg, st, ch, ph, su, fa, he, u⟩ := t
  obtain ⟨⟨h1, h2, h3, h4, h5, h6⟩, q⟩ := h
  refine ⟨⟨h1, h2, h3, h4, ⟨h5.1, Int.le_trans h5.2 hbc⟩, h6⟩, ?_⟩
  rcases q with ⟨q1, q2⟩ | q
  · refine .inl ⟨?_, q2⟩
    rcases q1 with ⟨a, b'⟩ | q1
    · exact .inl ⟨a, Int.lt_of_lt_of_le b' hbc⟩
    · exact .inr q1
  · exact .inr q
theorem vld_lens {vs : List VD} {ms cs : List ByteArray} {fs : List FD} {ts : List SD} {bound : Int} {t : TD} (hs : stdS (chkP vs ms cs fs ts).1 bound = 0) (h : Vld ms fs bound t) : t.2.2.2.2.2.2.2.2.2.1.length ≤ 1000000 ∧ t.1 ≤ 9223372036854775807 := by
  have hf : Formed ms fs bound t := by
    obtain ⟨id, fn, pc, rg, st, ch, ph, su, fa, he, u⟩ := t
    exact h.1
  exact ⟨Nat.le_trans (formed_short hf (co_ms (chk_zero (std_zero.1 hs).1).1)) (by omega), formed_id hf⟩
@[reducible] def ctL5 : CT := { ps := [.pair shP (.pair (.int .i64) (.pair (.int .i64) (.pair shT .unit)))], pre := fun d => d.1.2.2.2.1.1 ≤ 9223372036854775807 ∧ d.1.2.2.2.1.2.2.2.1.length = 8, res := fun d => ([], vB (true)) }
@[reducible] noncomputable def cl5 : List (Nat × CT) := [(15, ctSml), (9, ctLiv), (16, ctNew), (17, ctTV), (18, ctSet), (20, ctPnd), (21, ctCom), (19, ctSame)]
@[reducible] def ann5 (vs : List VD) (ms : List ByteArray) (cs : List ByteArray) (fs : List FD) (ts : List SD) (bound : Int) (r : Int) (id : Int) (fn : Int) (pc : Int) (rg : List Int) (st : Int) (ch : Int) (ph : Int) (su : Int) (fa : Int) (he : List Int) : Nat → Option (St → Ann) := fun _ => none
@[reducible] def il5 : List (Nat × IP) := []
@[reducible] def hl5 : List (Nat × Nat × CT) := []
@[reducible] noncomputable def ml5 : List (Nat × MK) := []
set_option maxRecDepth 100000 in
theorem f5_vc (vs : List VD) (ms : List ByteArray) (cs : List ByteArray) (fs : List FD) (ts : List SD) (bound : Int) (r : Int) (id : Int) (fn : Int) (pc : Int) (rg : List Int) (st : Int) (ch : Int) (ph : Int) (su : Int) (fa : Int) (he : List Int) (hpre : ctL5.pre (((vs, ms, cs, fs, ts, ()), bound, r, (id, fn, pc, rg, st, ch, ph, su, fa, he, ()), ()), ())) :
    True ∧ br (!(smS vs ms cs fs ts && decide (he.length ≤ (20 : Nat)))) (True ∧ ([] : List Go.Eng.Res) = [] ∧ Ent.one (SV.c (SC.v (Value.bool true))) = Ent.one (SV.c (SC.v (Value.bool true)))) (((vs.length ≤ (1000000 : Nat) ∧ ms.length ≤ (1000000 : Nat) ∧ cs.length ≤ (1000000 : Nat) ∧ fs.length ≤ (1000000 : Nat) ∧ ts.length ≤ (1000000 : Nat) ∧ (∀ (x : Sh.str.den × (((Sh.int IntKind.i64).pair ((Sh.int IntKind.i64).pair ((Sh.int IntKind.i64).pair ((Sh.int IntKind.i64).pair ((Sh.int IntKind.i64).pair ((Sh.int IntKind.i64).pair ((Sh.int IntKind.i64).pair ((Sh.int IntKind.i64).pair Sh.unit)))))))).sl.pair Sh.unit).den), x ∈ fs → List.length x.snd.fst ≤ (1000000 : Nat)) ∧ (instL fs).length ≤ (1000000 : Nat)) ∧ id ≤ (9223372036854775807 : (Sh.int IntKind.i64).den)) ∧ (decide ((newS (chkP vs ms cs fs ts).fst fs bound id fn r).snd = (0 : Int)) = true → (vs.length ≤ (1000000 : Nat) ∧ ms.length ≤ (1000000 : Nat) ∧ cs.length ≤ (1000000 : Nat) ∧ fs.length ≤ (1000000 : Nat) ∧ ts.length ≤ (1000000 : Nat) ∧ (∀ (x : Sh.str.den × (((Sh.int IntKind.i64).pair ((Sh.int IntKind.i64).pair ((Sh.int IntKind.i64).pair ((Sh.int IntKind.i64).pair ((Sh.int IntKind.i64).pair ((Sh.int IntKind.i64).pair ((Sh.int IntKind.i64).pair ((Sh.int IntKind.i64).pair Sh.unit)))))))).sl.pair Sh.unit).den), x ∈ fs → List.length x.snd.fst ≤ (1000000 : Nat)) ∧ (instL fs).length ≤ (1000000 : Nat)) ∧ List.length (newS (chkP vs ms cs fs ts).fst fs bound id fn r).fst.snd.snd.snd.snd.snd.snd.snd.snd.snd.fst ≤ (1000000 : Nat) ∧ (newS (chkP vs ms cs fs ts).fst fs bound id fn r).fst.fst ≤ (9223372036854775807 : (Sh.int IntKind.i64).den) ∧ List.length (newS (chkP vs ms cs fs ts).fst fs bound id fn r).fst.snd.snd.snd.fst = (8 : Nat)) ∧ br (decide ((newS (chkP vs ms cs fs ts).fst fs bound id fn r).snd = (0 : Int)) && !(decide (stdS (chkP vs ms cs fs ts).fst bound = (0 : Int)) && vldB ms fs bound (newS (chkP vs ms cs fs ts).fst fs bound id fn r).fst)) (([] : List Go.Eng.Res) = [] ∧ Ent.one (SV.c (SC.v (Value.bool true))) = Ent.one (SV.c (SC.v (Value.bool false)))) (((vs.length ≤ (1000000 : Nat) ∧ ms.length ≤ (1000000 : Nat) ∧ cs.length ≤ (1000000 : Nat) ∧ fs.length ≤ (1000000 : Nat) ∧ ts.length ≤ (1000000 : Nat) ∧ (∀ (x : Sh.str.den × (((Sh.int IntKind.i64).pair ((Sh.int IntKind.i64).pair ((Sh.int IntKind.i64).pair ((Sh.int IntKind.i64).pair ((Sh.int IntKind.i64).pair ((Sh.int IntKind.i64).pair ((Sh.int IntKind.i64).pair ((Sh.int IntKind.i64).pair Sh.unit)))))))).sl.pair Sh.unit).den), x ∈ fs → List.length x.snd.fst ≤ (1000000 : Nat)) ∧ (instL fs).length ≤ (1000000 : Nat)) ∧ he.length ≤ (1000000 : Nat) ∧ id ≤ (9223372036854775807 : (Sh.int IntKind.i64).den) ∧ rg.length = (8 : Nat)) ∧ (decide ((setS (chkP vs ms cs fs ts).fst ms fs bound (id, fn, pc, rg, st, ch, ph, su, fa, he, ())).snd = (0 : Int)) = true → (vs.length ≤ (1000000 : Nat) ∧ ms.length ≤ (1000000 : Nat) ∧ cs.length ≤ (1000000 : Nat) ∧ fs.length ≤ (1000000 : Nat) ∧ ts.length ≤ (1000000 : Nat) ∧ (∀ (x : Sh.str.den × (((Sh.int IntKind.i64).pair ((Sh.int IntKind.i64).pair ((Sh.int IntKind.i64).pair ((Sh.int IntKind.i64).pair ((Sh.int IntKind.i64).pair ((Sh.int IntKind.i64).pair ((Sh.int IntKind.i64).pair ((Sh.int IntKind.i64).pair Sh.unit)))))))).sl.pair Sh.unit).den), x ∈ fs → List.length x.snd.fst ≤ (1000000 : Nat)) ∧ (instL fs).length ≤ (1000000 : Nat)) ∧ List.length (setS (chkP vs ms cs fs ts).fst ms fs bound (id, fn, pc, rg, st, ch, ph, su, fa, he, ())).fst.snd.snd.snd.snd.snd.snd.snd.snd.snd.fst ≤ (1000000 : Nat) ∧ (setS (chkP vs ms cs fs ts).fst ms fs bound (id, fn, pc, rg, st, ch, ph, su, fa, he, ())).fst.fst ≤ (9223372036854775807 : (Sh.int IntKind.i64).den) ∧ List.length (setS (chkP vs ms cs fs ts).fst ms fs bound (id, fn, pc, rg, st, ch, ph, su, fa, he, ())).fst.snd.snd.snd.fst = (8 : Nat)) ∧ br (decide ((setS (chkP vs ms cs fs ts).fst ms fs bound (id, fn, pc, rg, st, ch, ph, su, fa, he, ())).snd = (0 : Int)) && !(decide (stdS (chkP vs ms cs fs ts).fst bound = (0 : Int)) && vldB ms fs bound (setS (chkP vs ms cs fs ts).fst ms fs bound (id, fn, pc, rg, st, ch, ph, su, fa, he, ())).fst)) (([] : List Go.Eng.Res) = [] ∧ Ent.one (SV.c (SC.v (Value.bool true))) = Ent.one (SV.c (SC.v (Value.bool false)))) (br (decide ((setS (chkP vs ms cs fs ts).fst ms fs bound (id, fn, pc, rg, st, ch, ph, su, fa, he, ())).snd = (0 : Int)) && decide (((setS (chkP vs ms cs fs ts).fst ms fs bound (id, fn, pc, rg, st, ch, ph, su, fa, he, ())).fst).snd.snd.snd.snd.snd.snd.snd.fst = (1 : Int))) (((vs.length ≤ (1000000 : Nat) ∧ ms.length ≤ (1000000 : Nat) ∧ cs.length ≤ (1000000 : Nat) ∧ fs.length ≤ (1000000 : Nat) ∧ ts.length ≤ (1000000 : Nat) ∧ (∀ (x : Sh.str.den × (((Sh.int IntKind.i64).pair ((Sh.int IntKind.i64).pair ((Sh.int IntKind.i64).pair ((Sh.int IntKind.i64).pair ((Sh.int IntKind.i64).pair ((Sh.int IntKind.i64).pair ((Sh.int IntKind.i64).pair ((Sh.int IntKind.i64).pair Sh.unit)))))))).sl.pair Sh.unit).den), x ∈ fs → List.length x.snd.fst ≤ (1000000 : Nat)) ∧ (instL fs).length ≤ (1000000 : Nat)) ∧ List.length (setS (chkP vs ms cs fs ts).fst ms fs bound (id, fn, pc, rg, st, ch, ph, su, fa, he, ())).fst.snd.snd.snd.snd.snd.snd.snd.snd.snd.fst ≤ (1000000 : Nat) ∧ (setS (chkP vs ms cs fs ts).fst ms fs bound (id, fn, pc, rg, st, ch, ph, su, fa, he, ())).fst.fst ≤ (9223372036854775807 : (Sh.int IntKind.i64).den) ∧ List.length (setS (chkP vs ms cs fs ts).fst ms fs bound (id, fn, pc, rg, st, ch, ph, su, fa, he, ())).fst.snd.snd.snd.fst = (8 : Nat)) ∧ ((!!decide ((setS (chkP vs ms cs fs ts).fst ms fs bound (setS (chkP vs ms cs fs ts).fst ms fs bound (id, fn, pc, rg, st, ch, ph, su, fa, he, ())).fst).snd = (0 : Int))) = true → List.length ((setS (chkP vs ms cs fs ts).fst ms fs bound (id, fn, pc, rg, st, ch, ph, su, fa, he, ())).fst, (setS (chkP vs ms cs fs ts).fst ms fs bound (setS (chkP vs ms cs fs ts).fst ms fs bound (id, fn, pc, rg, st, ch, ph, su, fa, he, ())).fst).fst, ()).fst.snd.snd.snd.snd.snd.snd.snd.snd.snd.fst ≤ (1000000 : Nat)) ∧ br (!decide ((setS (chkP vs ms cs fs ts).fst ms fs bound (setS (chkP vs ms cs fs ts).fst ms fs bound (id, fn, pc, rg, st, ch, ph, su, fa, he, ())).fst).snd = (0 : Int)) || !sameB ((setS (chkP vs ms cs fs ts).fst ms fs bound (id, fn, pc, rg, st, ch, ph, su, fa, he, ())).fst, (setS (chkP vs ms cs fs ts).fst ms fs bound (setS (chkP vs ms cs fs ts).fst ms fs bound (id, fn, pc, rg, st, ch, ph, su, fa, he, ())).fst).fst, ()).fst (setS (chkP vs ms cs fs ts).fst ms fs bound (setS (chkP vs ms cs fs ts).fst ms fs bound (id, fn, pc, rg, st, ch, ph, su, fa, he, ())).fst).fst) (([] : List Go.Eng.Res) = [] ∧ Ent.one (SV.c (SC.v (Value.bool true))) = Ent.one (SV.c (SC.v (Value.bool false)))) (((vs.length ≤ (1000000 : Nat) ∧ ms.length ≤ (1000000 : Nat) ∧ cs.length ≤ (1000000 : Nat) ∧ fs.length ≤ (1000000 : Nat) ∧ ts.length ≤ (1000000 : Nat) ∧ (∀ (x : Sh.str.den × (((Sh.int IntKind.i64).pair ((Sh.int IntKind.i64).pair ((Sh.int IntKind.i64).pair ((Sh.int IntKind.i64).pair ((Sh.int IntKind.i64).pair ((Sh.int IntKind.i64).pair ((Sh.int IntKind.i64).pair ((Sh.int IntKind.i64).pair Sh.unit)))))))).sl.pair Sh.unit).den), x ∈ fs → List.length x.snd.fst ≤ (1000000 : Nat)) ∧ (instL fs).length ≤ (1000000 : Nat)) ∧ List.length (setS (chkP vs ms cs fs ts).fst ms fs bound (id, fn, pc, rg, st, ch, ph, su, fa, he, ())).fst.snd.snd.snd.snd.snd.snd.snd.snd.snd.fst ≤ (1000000 : Nat) ∧ (setS (chkP vs ms cs fs ts).fst ms fs bound (id, fn, pc, rg, st, ch, ph, su, fa, he, ())).fst.fst ≤ (9223372036854775807 : (Sh.int IntKind.i64).den) ∧ List.length (setS (chkP vs ms cs fs ts).fst ms fs bound (id, fn, pc, rg, st, ch, ph, su, fa, he, ())).fst.snd.snd.snd.fst = (8 : Nat)) ∧ ((!(decide (((setS (chkP vs ms cs fs ts).fst ms fs bound (id, fn, pc, rg, st, ch, ph, su, fa, he, ())).fst).snd.fst < (0 : Int)) || decide ((↑fs.length : Int) ≤ ((setS (chkP vs ms cs fs ts).fst ms fs bound (id, fn, pc, rg, st, ch, ph, su, fa, he, ())).fst).snd.fst) || decide (((setS (chkP vs ms cs fs ts).fst ms fs bound (id, fn, pc, rg, st, ch, ph, su, fa, he, ())).fst).snd.snd.fst < (0 : Int)))) = true → (0 : Int) ≤ ((setS (chkP vs ms cs fs ts).fst ms fs bound (id, fn, pc, rg, st, ch, ph, su, fa, he, ())).fst).snd.fst ∧ ((setS (chkP vs ms cs fs ts).fst ms fs bound (id, fn, pc, rg, st, ch, ph, su, fa, he, ())).fst).snd.fst < (↑fs.length : Int)) ∧ ∀ (d : Sh.str.den × (((Sh.int IntKind.i64).pair ((Sh.int IntKind.i64).pair ((Sh.int IntKind.i64).pair ((Sh.int IntKind.i64).pair ((Sh.int IntKind.i64).pair ((Sh.int IntKind.i64).pair ((Sh.int IntKind.i64).pair ((Sh.int IntKind.i64).pair Sh.unit)))))))).sl.pair Sh.unit).den), ((!(decide (((setS (chkP vs ms cs fs ts).fst ms fs bound (id, fn, pc, rg, st, ch, ph, su, fa, he, ())).fst).snd.fst < (0 : Int)) || decide ((↑fs.length : Int) ≤ ((setS (chkP vs ms cs fs ts).fst ms fs bound (id, fn, pc, rg, st, ch, ph, su, fa, he, ())).fst).snd.fst) || decide (((setS (chkP vs ms cs fs ts).fst ms fs bound (id, fn, pc, rg, st, ch, ph, su, fa, he, ())).fst).snd.snd.fst < (0 : Int)))) = true → fs[Int.toNat ((setS (chkP vs ms cs fs ts).fst ms fs bound (id, fn, pc, rg, st, ch, ph, su, fa, he, ())).fst).snd.fst]? = some d) → br (decide (((setS (chkP vs ms cs fs ts).fst ms fs bound (id, fn, pc, rg, st, ch, ph, su, fa, he, ())).fst).snd.fst < (0 : Int)) || decide ((↑fs.length : Int) ≤ ((setS (chkP vs ms cs fs ts).fst ms fs bound (id, fn, pc, rg, st, ch, ph, su, fa, he, ())).fst).snd.fst) || decide (((setS (chkP vs ms cs fs ts).fst ms fs bound (id, fn, pc, rg, st, ch, ph, su, fa, he, ())).fst).snd.snd.fst < (0 : Int)) || decide ((↑(List.length d.snd.fst) : Int) ≤ ((setS (chkP vs ms cs fs ts).fst ms fs bound (id, fn, pc, rg, st, ch, ph, su, fa, he, ())).fst).snd.snd.fst)) (([] : List Go.Eng.Res) = [] ∧ Ent.one (SV.c (SC.v (Value.bool true))) = Ent.one (SV.c (SC.v (Value.bool false)))) (((!!(pndS (chkP vs ms cs fs ts).fst ms fs (setS (chkP vs ms cs fs ts).fst ms fs bound (id, fn, pc, rg, st, ch, ph, su, fa, he, ())).fst).snd) = true → (0 : Int) ≤ ((setS (chkP vs ms cs fs ts).fst ms fs bound (id, fn, pc, rg, st, ch, ph, su, fa, he, ())).fst).snd.fst ∧ ((setS (chkP vs ms cs fs ts).fst ms fs bound (id, fn, pc, rg, st, ch, ph, su, fa, he, ())).fst).snd.fst < (↑fs.length : Int)) ∧ ∀ (d : Sh.str.den × (((Sh.int IntKind.i64).pair ((Sh.int IntKind.i64).pair ((Sh.int IntKind.i64).pair ((Sh.int IntKind.i64).pair ((Sh.int IntKind.i64).pair ((Sh.int IntKind.i64).pair ((Sh.int IntKind.i64).pair ((Sh.int IntKind.i64).pair Sh.unit)))))))).sl.pair Sh.unit).den), ((!!(pndS (chkP vs ms cs fs ts).fst ms fs (setS (chkP vs ms cs fs ts).fst ms fs bound (id, fn, pc, rg, st, ch, ph, su, fa, he, ())).fst).snd) = true → fs[Int.toNat ((setS (chkP vs ms cs fs ts).fst ms fs bound (id, fn, pc, rg, st, ch, ph, su, fa, he, ())).fst).snd.fst]? = some d) → ((!!(pndS (chkP vs ms cs fs ts).fst ms fs (setS (chkP vs ms cs fs ts).fst ms fs bound (id, fn, pc, rg, st, ch, ph, su, fa, he, ())).fst).snd) = true → (0 : Int) ≤ ((setS (chkP vs ms cs fs ts).fst ms fs bound (id, fn, pc, rg, st, ch, ph, su, fa, he, ())).fst).snd.snd.fst ∧ ((setS (chkP vs ms cs fs ts).fst ms fs bound (id, fn, pc, rg, st, ch, ph, su, fa, he, ())).fst).snd.snd.fst < (↑(List.length d.snd.fst) : Int)) ∧ ∀ (d_1 : (Sh.int IntKind.i64).den × ((Sh.int IntKind.i64).pair ((Sh.int IntKind.i64).pair ((Sh.int IntKind.i64).pair ((Sh.int IntKind.i64).pair ((Sh.int IntKind.i64).pair ((Sh.int IntKind.i64).pair ((Sh.int IntKind.i64).pair Sh.unit))))))).den), ((!!(pndS (chkP vs ms cs fs ts).fst ms fs (setS (chkP vs ms cs fs ts).fst ms fs bound (id, fn, pc, rg, st, ch, ph, su, fa, he, ())).fst).snd) = true → d.snd.fst[Int.toNat ((setS (chkP vs ms cs fs ts).fst ms fs bound (id, fn, pc, rg, st, ch, ph, su, fa, he, ())).fst).snd.snd.fst]? = some d_1) → br (!(pndS (chkP vs ms cs fs ts).fst ms fs (setS (chkP vs ms cs fs ts).fst ms fs bound (id, fn, pc, rg, st, ch, ph, su, fa, he, ())).fst).snd || !(true && (pndS (chkP vs ms cs fs ts).fst ms fs (setS (chkP vs ms cs fs ts).fst ms fs bound (id, fn, pc, rg, st, ch, ph, su, fa, he, ())).fst).fst.fst == d_1.fst && (pndS (chkP vs ms cs fs ts).fst ms fs (setS (chkP vs ms cs fs ts).fst ms fs bound (id, fn, pc, rg, st, ch, ph, su, fa, he, ())).fst).fst.snd.fst == d_1.snd.fst && (pndS (chkP vs ms cs fs ts).fst ms fs (setS (chkP vs ms cs fs ts).fst ms fs bound (id, fn, pc, rg, st, ch, ph, su, fa, he, ())).fst).fst.snd.snd.fst == d_1.snd.snd.fst && (pndS (chkP vs ms cs fs ts).fst ms fs (setS (chkP vs ms cs fs ts).fst ms fs bound (id, fn, pc, rg, st, ch, ph, su, fa, he, ())).fst).fst.snd.snd.snd.fst == d_1.snd.snd.snd.fst && (pndS (chkP vs ms cs fs ts).fst ms fs (setS (chkP vs ms cs fs ts).fst ms fs bound (id, fn, pc, rg, st, ch, ph, su, fa, he, ())).fst).fst.snd.snd.snd.snd.fst == d_1.snd.snd.snd.snd.fst && (pndS (chkP vs ms cs fs ts).fst ms fs (setS (chkP vs ms cs fs ts).fst ms fs bound (id, fn, pc, rg, st, ch, ph, su, fa, he, ())).fst).fst.snd.snd.snd.snd.snd.fst == d_1.snd.snd.snd.snd.snd.fst && (pndS (chkP vs ms cs fs ts).fst ms fs (setS (chkP vs ms cs fs ts).fst ms fs bound (id, fn, pc, rg, st, ch, ph, su, fa, he, ())).fst).fst.snd.snd.snd.snd.snd.snd.fst == d_1.snd.snd.snd.snd.snd.snd.fst && (pndS (chkP vs ms cs fs ts).fst ms fs (setS (chkP vs ms cs fs ts).fst ms fs bound (id, fn, pc, rg, st, ch, ph, su, fa, he, ())).fst).fst.snd.snd.snd.snd.snd.snd.snd.fst == d_1.snd.snd.snd.snd.snd.snd.snd.fst)) (([] : List Go.Eng.Res) = [] ∧ Ent.one (SV.c (SC.v (Value.bool true))) = Ent.one (SV.c (SC.v (Value.bool false)))) ((decide ((setS (chkP vs ms cs fs ts).fst ms fs bound (id, fn, pc, rg, st, ch, ph, su, fa, he, ())).snd = (0 : Int)) = true → (vs.length ≤ (1000000 : Nat) ∧ ms.length ≤ (1000000 : Nat) ∧ cs.length ≤ (1000000 : Nat) ∧ fs.length ≤ (1000000 : Nat) ∧ ts.length ≤ (1000000 : Nat) ∧ (∀ (x : Sh.str.den × (((Sh.int IntKind.i64).pair ((Sh.int IntKind.i64).pair ((Sh.int IntKind.i64).pair ((Sh.int IntKind.i64).pair ((Sh.int IntKind.i64).pair ((Sh.int IntKind.i64).pair ((Sh.int IntKind.i64).pair ((Sh.int IntKind.i64).pair Sh.unit)))))))).sl.pair Sh.unit).den), x ∈ fs → List.length x.snd.fst ≤ (1000000 : Nat)) ∧ (instL fs).length ≤ (1000000 : Nat)) ∧ he.length ≤ (1000000 : Nat) ∧ id ≤ (9223372036854775807 : (Sh.int IntKind.i64).den) ∧ rg.length = (8 : Nat)) ∧ ((decide ((setS (chkP vs ms cs fs ts).fst ms fs bound (id, fn, pc, rg, st, ch, ph, su, fa, he, ())).snd = (0 : Int)) && (decide (stdS (chkP vs ms cs fs ts).fst bound = (0 : Int)) && vldB ms fs bound (id, fn, pc, rg, st, ch, ph, su, fa, he, ()))) = true → List.length ((setS (chkP vs ms cs fs ts).fst ms fs bound (id, fn, pc, rg, st, ch, ph, su, fa, he, ())).fst, (id, fn, pc, rg, st, ch, ph, su, fa, he, ()), ()).fst.snd.snd.snd.snd.snd.snd.snd.snd.snd.fst ≤ (1000000 : Nat)) ∧ br (decide ((setS (chkP vs ms cs fs ts).fst ms fs bound (id, fn, pc, rg, st, ch, ph, su, fa, he, ())).snd = (0 : Int)) && (decide (stdS (chkP vs ms cs fs ts).fst bound = (0 : Int)) && vldB ms fs bound (id, fn, pc, rg, st, ch, ph, su, fa, he, ())) && !sameB ((setS (chkP vs ms cs fs ts).fst ms fs bound (id, fn, pc, rg, st, ch, ph, su, fa, he, ())).fst, (id, fn, pc, rg, st, ch, ph, su, fa, he, ()), ()).fst (id, fn, pc, rg, st, ch, ph, su, fa, he, ())) (([] : List Go.Eng.Res) = [] ∧ Ent.one (SV.c (SC.v (Value.bool true))) = Ent.one (SV.c (SC.v (Value.bool false)))) (((vs.length ≤ (1000000 : Nat) ∧ ms.length ≤ (1000000 : Nat) ∧ cs.length ≤ (1000000 : Nat) ∧ fs.length ≤ (1000000 : Nat) ∧ ts.length ≤ (1000000 : Nat) ∧ (∀ (x : Sh.str.den × (((Sh.int IntKind.i64).pair ((Sh.int IntKind.i64).pair ((Sh.int IntKind.i64).pair ((Sh.int IntKind.i64).pair ((Sh.int IntKind.i64).pair ((Sh.int IntKind.i64).pair ((Sh.int IntKind.i64).pair ((Sh.int IntKind.i64).pair Sh.unit)))))))).sl.pair Sh.unit).den), x ∈ fs → List.length x.snd.fst ≤ (1000000 : Nat)) ∧ (instL fs).length ≤ (1000000 : Nat)) ∧ he.length ≤ (1000000 : Nat) ∧ id ≤ (9223372036854775807 : (Sh.int IntKind.i64).den) ∧ rg.length = (8 : Nat)) ∧ (decide ((comS (chkP vs ms cs fs ts).fst ms fs bound (id, fn, pc, rg, st, ch, ph, su, fa, he, ()) r).snd = (0 : Int)) = true → (vs.length ≤ (1000000 : Nat) ∧ ms.length ≤ (1000000 : Nat) ∧ cs.length ≤ (1000000 : Nat) ∧ fs.length ≤ (1000000 : Nat) ∧ ts.length ≤ (1000000 : Nat) ∧ (∀ (x : Sh.str.den × (((Sh.int IntKind.i64).pair ((Sh.int IntKind.i64).pair ((Sh.int IntKind.i64).pair ((Sh.int IntKind.i64).pair ((Sh.int IntKind.i64).pair ((Sh.int IntKind.i64).pair ((Sh.int IntKind.i64).pair ((Sh.int IntKind.i64).pair Sh.unit)))))))).sl.pair Sh.unit).den), x ∈ fs → List.length x.snd.fst ≤ (1000000 : Nat)) ∧ (instL fs).length ≤ (1000000 : Nat)) ∧ List.length (comS (chkP vs ms cs fs ts).fst ms fs bound (id, fn, pc, rg, st, ch, ph, su, fa, he, ()) r).fst.snd.snd.snd.snd.snd.snd.snd.snd.snd.fst ≤ (1000000 : Nat) ∧ (comS (chkP vs ms cs fs ts).fst ms fs bound (id, fn, pc, rg, st, ch, ph, su, fa, he, ()) r).fst.fst ≤ (9223372036854775807 : (Sh.int IntKind.i64).den) ∧ List.length (comS (chkP vs ms cs fs ts).fst ms fs bound (id, fn, pc, rg, st, ch, ph, su, fa, he, ()) r).fst.snd.snd.snd.fst = (8 : Nat)) ∧ ((!!(decide (stdS (chkP vs ms cs fs ts).fst bound = (0 : Int)) && vldB ms fs bound (comS (chkP vs ms cs fs ts).fst ms fs bound (id, fn, pc, rg, st, ch, ph, su, fa, he, ()) r).fst) && decide ((comS (chkP vs ms cs fs ts).fst ms fs bound (id, fn, pc, rg, st, ch, ph, su, fa, he, ()) r).snd = (0 : Int))) = true → InR IntKind.i64 (st + (1 : Int))) ∧ br (decide ((comS (chkP vs ms cs fs ts).fst ms fs bound (id, fn, pc, rg, st, ch, ph, su, fa, he, ()) r).snd = (0 : Int)) && (!(decide (stdS (chkP vs ms cs fs ts).fst bound = (0 : Int)) && vldB ms fs bound (comS (chkP vs ms cs fs ts).fst ms fs bound (id, fn, pc, rg, st, ch, ph, su, fa, he, ()) r).fst) || !decide (((comS (chkP vs ms cs fs ts).fst ms fs bound (id, fn, pc, rg, st, ch, ph, su, fa, he, ()) r).fst).snd.snd.snd.snd.fst = st + (1 : Int)) || !decide (((comS (chkP vs ms cs fs ts).fst ms fs bound (id, fn, pc, rg, st, ch, ph, su, fa, he, ()) r).fst).fst = id) || !decide (((comS (chkP vs ms cs fs ts).fst ms fs bound (id, fn, pc, rg, st, ch, ph, su, fa, he, ()) r).fst).snd.fst = fn))) (([] : List Go.Eng.Res) = [] ∧ Ent.one (SV.c (SC.v (Value.bool true))) = Ent.one (SV.c (SC.v (Value.bool false)))) (True ∧ ([] : List Go.Eng.Res) = [] ∧ Ent.one (SV.c (SC.v (Value.bool true))) = Ent.one (SV.c (SC.v (Value.bool true))))))))) ((decide ((setS (chkP vs ms cs fs ts).fst ms fs bound (id, fn, pc, rg, st, ch, ph, su, fa, he, ())).snd = (0 : Int)) = true → (vs.length ≤ (1000000 : Nat) ∧ ms.length ≤ (1000000 : Nat) ∧ cs.length ≤ (1000000 : Nat) ∧ fs.length ≤ (1000000 : Nat) ∧ ts.length ≤ (1000000 : Nat) ∧ (∀ (x : Sh.str.den × (((Sh.int IntKind.i64).pair ((Sh.int IntKind.i64).pair ((Sh.int IntKind.i64).pair ((Sh.int IntKind.i64).pair ((Sh.int IntKind.i64).pair ((Sh.int IntKind.i64).pair ((Sh.int IntKind.i64).pair ((Sh.int IntKind.i64).pair Sh.unit)))))))).sl.pair Sh.unit).den), x ∈ fs → List.length x.snd.fst ≤ (1000000 : Nat)) ∧ (instL fs).length ≤ (1000000 : Nat)) ∧ he.length ≤ (1000000 : Nat) ∧ id ≤ (9223372036854775807 : (Sh.int IntKind.i64).den) ∧ rg.length = (8 : Nat)) ∧ ((decide ((setS (chkP vs ms cs fs ts).fst ms fs bound (id, fn, pc, rg, st, ch, ph, su, fa, he, ())).snd = (0 : Int)) && (decide (stdS (chkP vs ms cs fs ts).fst bound = (0 : Int)) && vldB ms fs bound (id, fn, pc, rg, st, ch, ph, su, fa, he, ()))) = true → List.length ((setS (chkP vs ms cs fs ts).fst ms fs bound (id, fn, pc, rg, st, ch, ph, su, fa, he, ())).fst, (id, fn, pc, rg, st, ch, ph, su, fa, he, ()), ()).fst.snd.snd.snd.snd.snd.snd.snd.snd.snd.fst ≤ (1000000 : Nat)) ∧ br (decide ((setS (chkP vs ms cs fs ts).fst ms fs bound (id, fn, pc, rg, st, ch, ph, su, fa, he, ())).snd = (0 : Int)) && (decide (stdS (chkP vs ms cs fs ts).fst bound = (0 : Int)) && vldB ms fs bound (id, fn, pc, rg, st, ch, ph, su, fa, he, ())) && !sameB ((setS (chkP vs ms cs fs ts).fst ms fs bound (id, fn, pc, rg, st, ch, ph, su, fa, he, ())).fst, (id, fn, pc, rg, st, ch, ph, su, fa, he, ()), ()).fst (id, fn, pc, rg, st, ch, ph, su, fa, he, ())) (([] : List Go.Eng.Res) = [] ∧ Ent.one (SV.c (SC.v (Value.bool true))) = Ent.one (SV.c (SC.v (Value.bool false)))) (((vs.length ≤ (1000000 : Nat) ∧ ms.length ≤ (1000000 : Nat) ∧ cs.length ≤ (1000000 : Nat) ∧ fs.length ≤ (1000000 : Nat) ∧ ts.length ≤ (1000000 : Nat) ∧ (∀ (x : Sh.str.den × (((Sh.int IntKind.i64).pair ((Sh.int IntKind.i64).pair ((Sh.int IntKind.i64).pair ((Sh.int IntKind.i64).pair ((Sh.int IntKind.i64).pair ((Sh.int IntKind.i64).pair ((Sh.int IntKind.i64).pair ((Sh.int IntKind.i64).pair Sh.unit)))))))).sl.pair Sh.unit).den), x ∈ fs → List.length x.snd.fst ≤ (1000000 : Nat)) ∧ (instL fs).length ≤ (1000000 : Nat)) ∧ he.length ≤ (1000000 : Nat) ∧ id ≤ (9223372036854775807 : (Sh.int IntKind.i64).den) ∧ rg.length = (8 : Nat)) ∧ (decide ((comS (chkP vs ms cs fs ts).fst ms fs bound (id, fn, pc, rg, st, ch, ph, su, fa, he, ()) r).snd = (0 : Int)) = true → (vs.length ≤ (1000000 : Nat) ∧ ms.length ≤ (1000000 : Nat) ∧ cs.length ≤ (1000000 : Nat) ∧ fs.length ≤ (1000000 : Nat) ∧ ts.length ≤ (1000000 : Nat) ∧ (∀ (x : Sh.str.den × (((Sh.int IntKind.i64).pair ((Sh.int IntKind.i64).pair ((Sh.int IntKind.i64).pair ((Sh.int IntKind.i64).pair ((Sh.int IntKind.i64).pair ((Sh.int IntKind.i64).pair ((Sh.int IntKind.i64).pair ((Sh.int IntKind.i64).pair Sh.unit)))))))).sl.pair Sh.unit).den), x ∈ fs → List.length x.snd.fst ≤ (1000000 : Nat)) ∧ (instL fs).length ≤ (1000000 : Nat)) ∧ List.length (comS (chkP vs ms cs fs ts).fst ms fs bound (id, fn, pc, rg, st, ch, ph, su, fa, he, ()) r).fst.snd.snd.snd.snd.snd.snd.snd.snd.snd.fst ≤ (1000000 : Nat) ∧ (comS (chkP vs ms cs fs ts).fst ms fs bound (id, fn, pc, rg, st, ch, ph, su, fa, he, ()) r).fst.fst ≤ (9223372036854775807 : (Sh.int IntKind.i64).den) ∧ List.length (comS (chkP vs ms cs fs ts).fst ms fs bound (id, fn, pc, rg, st, ch, ph, su, fa, he, ()) r).fst.snd.snd.snd.fst = (8 : Nat)) ∧ ((!!(decide (stdS (chkP vs ms cs fs ts).fst bound = (0 : Int)) && vldB ms fs bound (comS (chkP vs ms cs fs ts).fst ms fs bound (id, fn, pc, rg, st, ch, ph, su, fa, he, ()) r).fst) && decide ((comS (chkP vs ms cs fs ts).fst ms fs bound (id, fn, pc, rg, st, ch, ph, su, fa, he, ()) r).snd = (0 : Int))) = true → InR IntKind.i64 (st + (1 : Int))) ∧ br (decide ((comS (chkP vs ms cs fs ts).fst ms fs bound (id, fn, pc, rg, st, ch, ph, su, fa, he, ()) r).snd = (0 : Int)) && (!(decide (stdS (chkP vs ms cs fs ts).fst bound = (0 : Int)) && vldB ms fs bound (comS (chkP vs ms cs fs ts).fst ms fs bound (id, fn, pc, rg, st, ch, ph, su, fa, he, ()) r).fst) || !decide (((comS (chkP vs ms cs fs ts).fst ms fs bound (id, fn, pc, rg, st, ch, ph, su, fa, he, ()) r).fst).snd.snd.snd.snd.fst = st + (1 : Int)) || !decide (((comS (chkP vs ms cs fs ts).fst ms fs bound (id, fn, pc, rg, st, ch, ph, su, fa, he, ()) r).fst).fst = id) || !decide (((comS (chkP vs ms cs fs ts).fst ms fs bound (id, fn, pc, rg, st, ch, ph, su, fa, he, ()) r).fst).snd.fst = fn))) (([] : List Go.Eng.Res) = [] ∧ Ent.one (SV.c (SC.v (Value.bool true))) = Ent.one (SV.c (SC.v (Value.bool false)))) (True ∧ ([] : List Go.Eng.Res) = [] ∧ Ent.one (SV.c (SC.v (Value.bool true))) = Ent.one (SV.c (SC.v (Value.bool true))))))))) := by
  obtain ⟨hid, hrg⟩ : id ≤ 9223372036854775807 ∧ rg.length = 8 := hpre
  refine ⟨trivial, br_iff.2 ⟨fun _ => ⟨trivial, rfl, rfl⟩, fun h => ?_⟩⟩
  have h : smS vs ms cs fs ts = true ∧ he.length ≤ 20 := by simpa using h
  have hb : bnd ((vs, ms, cs, fs, ts, ()), ()) := small_bnd h.1
  have he6 : he.length ≤ 1000000 := by omega
  have nok := fun q => new_ok (vs := vs) (ms := ms) (cs := cs) (fs := fs) (ts := ts) (bound := bound) (id := id) (fn := fn) (r := r) q
  have sok := fun q => set_ok (vs := vs) (ms := ms) (cs := cs) (fs := fs) (ts := ts) (bound := bound) (t := (id, fn, pc, rg, st, ch, ph, su, fa, he, ())) hrg q
  have cok := fun q => com_ok (vs := vs) (ms := ms) (cs := cs) (fs := fs) (ts := ts) (bound := bound) (t := (id, fn, pc, rg, st, ch, ph, su, fa, he, ())) (r := r) hrg q
  have slen : (setS (chkP vs ms cs fs ts).1 ms fs bound (id, fn, pc, rg, st, ch, ph, su, fa, he, ())).1.2.2.2.2.2.2.2.2.2.1.length ≤ 1000000 := by
    by_cases q : (setS (chkP vs ms cs fs ts).1 ms fs bound (id, fn, pc, rg, st, ch, ph, su, fa, he, ())).2 = 0
    · exact (vld_lens (sok q).1 (sok q).2.2.2.2.2.1).1
    · unfold setS at q ⊢
      split at q
      · rename_i q1; rw [if_pos q1]; exact Nat.zero_le _
      split at q
      · rename_i q1 q2; rw [if_neg q1, if_pos q2]; exact Nat.zero_le _
      split at q
      · rename_i q1 q2 q3; rw [if_neg q1, if_neg q2, if_pos q3]; exact Nat.zero_le _
      · exact absurd rfl q
  have tA : (decide ((setS (chkP vs ms cs fs ts).1 ms fs bound (id, fn, pc, rg, st, ch, ph, su, fa, he, ())).2 = 0) && (decide (stdS (chkP vs ms cs fs ts).1 bound = 0) && vldB ms fs bound (id, fn, pc, rg, st, ch, ph, su, fa, he, ()))) = true → (setS (chkP vs ms cs fs ts).1 ms fs bound (id, fn, pc, rg, st, ch, ph, su, fa, he, ())).1 = (id, fn, pc, rg, st, ch, ph, su, fa, he, ()) := fun q => by
    rw [Bool.and_eq_true, Bool.and_eq_true] at q
    obtain ⟨s1, s2, s3, s4, s5, s6, s7⟩ := sok (of_decide_eq_true q.1)
    rw [s5, stl_id (vldB_iff.1 q.2.2) s4]
  refine ⟨⟨hb, hid⟩, fun q => ?_, br_iff.2 ⟨fun q => ?_, fun _ => ⟨⟨hb, he6, hid, hrg⟩, fun q => ?_, br_iff.2 ⟨fun q => ?_, fun _ => br_iff.2 ⟨fun q => ?_, fun q => ?_⟩⟩⟩⟩⟩
  · have q := nok (of_decide_eq_true q)
    have l := vld_lens q.1 q.2.1
    exact ⟨hb, l.1, l.2, q.2.2⟩
  · exfalso
    rw [Bool.and_eq_true] at q
    have n := nok (of_decide_eq_true q.1)
    rw [n.1, vldB_iff.2 n.2.1] at q
    simp at q
  · have q := sok (of_decide_eq_true q)
    have l := vld_lens q.1 q.2.2.2.2.2.1
    exact ⟨hb, l.1, l.2, q.2.2.2.2.2.2⟩
  · exfalso
    rw [Bool.and_eq_true] at q
    have n := sok (of_decide_eq_true q.1)
    rw [n.1, vldB_iff.2 n.2.2.2.2.2.1] at q
    simp at q
  · rw [Bool.and_eq_true] at q
    obtain ⟨s1, s2, s3, s4, s5, s6, s7⟩ := sok (of_decide_eq_true q.1)
    have q2 : (setS (chkP vs ms cs fs ts).1 ms fs bound (id, fn, pc, rg, st, ch, ph, su, fa, he, ())).1.2.2.2.2.2.2.2.1 = 1 := of_decide_eq_true q.2
    have l := vld_lens s1 s6
    have hs := std_zero.1 s1
    have hr := run_at s6 q2
    have hf := vld_formed s6
    have e2 : setS (chkP vs ms cs fs ts).1 ms fs bound (setS (chkP vs ms cs fs ts).1 ms fs bound (id, fn, pc, rg, st, ch, ph, su, fa, he, ())).1 = ((setS (chkP vs ms cs fs ts).1 ms fs bound (id, fn, pc, rg, st, ch, ph, su, fa, he, ())).1, 0) := by
      rw [setS, if_neg (by rw [s1]; simp), if_neg (fun q => q.elim (fun q => q hf) fun q => q hr.1), if_neg (fun q => q q2), stl_id s6 q2]
    have ep : pndS (chkP vs ms cs fs ts).1 ms fs (setS (chkP vs ms cs fs ts).1 ms fs bound (id, fn, pc, rg, st, ch, ph, su, fa, he, ())).1 = atR fs (setS (chkP vs ms cs fs ts).1 ms fs bound (id, fn, pc, rg, st, ch, ph, su, fa, he, ())).1.2.1 (setS (chkP vs ms cs fs ts).1 ms fs bound (id, fn, pc, rg, st, ch, ph, su, fa, he, ())).1.2.2.1 := by
      rw [pndS, if_pos ⟨hs.1, q2, vld_mono hs.2.2 s6⟩]
    obtain ⟨f0, s0, i, ha, vi, oi⟩ := hr
    have ea : atR fs (setS (chkP vs ms cs fs ts).1 ms fs bound (id, fn, pc, rg, st, ch, ph, su, fa, he, ())).1.2.1 (setS (chkP vs ms cs fs ts).1 ms fs bound (id, fn, pc, rg, st, ch, ph, su, fa, he, ())).1.2.2.1 = (i, true) := by unfold atR; rw [ha]
    rw [ep, ea, e2]
    have hF := formed_fn hf
    obtain ⟨x, hx, ex⟩ := codeF_get hF.1
    have hlt := at_lt ha
    rw [ex] at hlt
    refine ⟨⟨hb, l.1, l.2, s7⟩, fun _ => l.1, br_iff.2 ⟨fun q => ?_, fun _ => ⟨⟨hb, l.1, l.2, s7⟩, fun _ => hF.1, fun d hd => br_iff.2 ⟨fun q => ?_, fun q => ⟨fun _ => hF.1, fun d1 hd1 => ⟨fun _ => ?_, fun d2 hd2 => br_iff.2 ⟨fun q => ?_, fun q => ?_⟩⟩⟩⟩⟩⟩⟩
    · exfalso
      have q : (!decide ((0 : Int) = 0) || !sameB (setS (chkP vs ms cs fs ts).1 ms fs bound (id, fn, pc, rg, st, ch, ph, su, fa, he, ())).1 (setS (chkP vs ms cs fs ts).1 ms fs bound (id, fn, pc, rg, st, ch, ph, su, fa, he, ())).1) = true := q
      rw [sameB_iff.2 rfl] at q
      simp at q
    · exfalso
      have hd := hd (by simp; omega)
      rw [hx] at hd; cases hd
      simp at q; omega
    · have hd1 := hd1 rfl
      rw [hx] at hd1; cases hd1
      omega
    · exfalso
      have hd1 := hd1 rfl
      rw [hx] at hd1; cases hd1
      have hd2 := hd2 rfl
      unfold atS at ha
      rw [ex, hd2] at ha
      cases ha
      simp at q
    · refine ⟨fun _ => ⟨hb, he6, hid, hrg⟩, fun _ => slen, br_iff.2 ⟨fun q => ?_, fun _ => ⟨⟨hb, he6, hid, hrg⟩, fun q => ?_, fun q => ?_, br_iff.2 ⟨fun q => ?_, fun _ => ⟨trivial, rfl, rfl⟩⟩⟩⟩⟩
      · exfalso
        rw [Bool.and_eq_true] at q
        have q2 : (!sameB (setS (chkP vs ms cs fs ts).1 ms fs bound (id, fn, pc, rg, st, ch, ph, su, fa, he, ())).1 (id, fn, pc, rg, st, ch, ph, su, fa, he, ())) = true := q.2
        rw [tA q.1, sameB_iff.2 rfl] at q2
        simp at q2
      · have q := cok (of_decide_eq_true q)
        have l := vld_lens q.1 q.2.1
        exact ⟨hb, l.1, l.2, q.2.2.1⟩
      · have q := cok (of_decide_eq_true ((Bool.and_eq_true _ _ ▸ q : _ ∧ _)).2)
        have : 0 ≤ st ∧ st < 32 := q.2.2.2.2.2.2
        exact InR_i64.2 (by omega)
      · exfalso
        rw [Bool.and_eq_true] at q
        have n := cok (of_decide_eq_true q.1)
        have e1 : (comS (chkP vs ms cs fs ts).1 ms fs bound (id, fn, pc, rg, st, ch, ph, su, fa, he, ()) r).1.2.2.2.2.1 = st + 1 := n.2.2.2.1
        have e2 : (comS (chkP vs ms cs fs ts).1 ms fs bound (id, fn, pc, rg, st, ch, ph, su, fa, he, ()) r).1.1 = id := n.2.2.2.2.1
        have e3 : (comS (chkP vs ms cs fs ts).1 ms fs bound (id, fn, pc, rg, st, ch, ph, su, fa, he, ()) r).1.2.1 = fn := n.2.2.2.2.2.1
        rw [n.1, vldB_iff.2 n.2.1, e1, e2, e3] at q
        simp at q
  · refine ⟨fun _ => ⟨hb, he6, hid, hrg⟩, fun _ => slen, br_iff.2 ⟨fun q => ?_, fun _ => ⟨⟨hb, he6, hid, hrg⟩, fun q => ?_, fun q => ?_, br_iff.2 ⟨fun q => ?_, fun _ => ⟨trivial, rfl, rfl⟩⟩⟩⟩⟩
    · exfalso
      rw [Bool.and_eq_true] at q
      have q2 : (!sameB (setS (chkP vs ms cs fs ts).1 ms fs bound (id, fn, pc, rg, st, ch, ph, su, fa, he, ())).1 (id, fn, pc, rg, st, ch, ph, su, fa, he, ())) = true := q.2
      rw [tA q.1, sameB_iff.2 rfl] at q2
      simp at q2
    · have q := cok (of_decide_eq_true q)
      have l := vld_lens q.1 q.2.1
      exact ⟨hb, l.1, l.2, q.2.2.1⟩
    · have q := cok (of_decide_eq_true ((Bool.and_eq_true _ _ ▸ q : _ ∧ _)).2)
      have : 0 ≤ st ∧ st < 32 := q.2.2.2.2.2.2
      exact InR_i64.2 (by omega)
    · exfalso
      rw [Bool.and_eq_true] at q
      have n := cok (of_decide_eq_true q.1)
      have e1 : (comS (chkP vs ms cs fs ts).1 ms fs bound (id, fn, pc, rg, st, ch, ph, su, fa, he, ()) r).1.2.2.2.2.1 = st + 1 := n.2.2.2.1
      have e2 : (comS (chkP vs ms cs fs ts).1 ms fs bound (id, fn, pc, rg, st, ch, ph, su, fa, he, ()) r).1.1 = id := n.2.2.2.2.1
      have e3 : (comS (chkP vs ms cs fs ts).1 ms fs bound (id, fn, pc, rg, st, ch, ph, su, fa, he, ()) r).1.2.1 = fn := n.2.2.2.2.2.1
      rw [n.1, vldB_iff.2 n.2.1, e1, e2, e3] at q
      simp at q
set_option maxHeartbeats 2000000 in
set_option maxRecDepth 100000 in
theorem f5_met : Go.Eng.Met Tryd.prog cx0.gd 5 ctL5 :=
  (met_all (cx := cx0) (n := 212) (cl := cl5) (il := il5) (hl := hl5) (ml := ml5) (rc := []) (lits := []) (suf := []) (by kernel_rfl) tis_ok ⟨f15_met, f9_met, f16_met, f17_met, f18_met, f20_met, f21_met, f19_met, trivial⟩ trivial trivial trivial Tryd.func5 (by kernel_rfl) (by kernel_rfl) rfl (by kernel_rfl) (by kernel_rfl) (by simp) fun d hd => by
    obtain ⟨⟨⟨vs, ms, cs, fs, ts, ⟨⟩⟩, bound, r, ⟨id, fn, pc, rg, st, ch, ph, su, fa, he, ⟨⟩⟩, ⟨⟩⟩, ⟨⟩⟩ := d
    exact ex_of (ann5 vs ms cs fs ts bound r id fn pc rg st ch ph su fa he) (f5_vc vs ms cs fs ts bound r id fn pc rg st ch ph su fa he hd) (by kernel_rfl)).met
end Go.Proofs.YtklnffdjhoacoaaDoor
