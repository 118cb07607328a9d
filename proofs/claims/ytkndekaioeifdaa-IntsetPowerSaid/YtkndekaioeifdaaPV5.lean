/- The sets chapter, part 5: subsets. -/
import Derived.Test.YtkndekaioeifdaaPK2
import Derived.Test.YtkndekaioeifdaaPSF
import Derived.Shelf.SlSortCmp.NoneTotal
set_option linter.unusedSimpArgs false
set_option linter.unusedVariables false
set_option maxRecDepth 100000
namespace Go.Proofs.Ytkndekaioeifdaa
open Go Go.Eng

@[reducible] def cl36 : List (Nat × CT) := [(37, ctCmp), (38, ctScmp)]
@[reducible] def ann36 (l : List Int) (m : List Int) : Nat → Option (St → Ann) := fun _ => none
set_option maxRecDepth 100000 in
theorem f36_vc (l : List Int) (m : List Int) (hpre : (ctCmpL cmpI).pre (l, m, ())) :
    True ∧ br (!decide ((if (↑l.length : Int) < (↑m.length : Int) then (-1 : Int) else if (↑m.length : Int) < (↑l.length : Int) then (1 : Int) else (0 : Int)) = (0 : Int))) (([] : List Go.Eng.Res) = [] ∧ Ent.one (SV.c (SC.v (Value.int IntKind.i64 (cmpI l m)))) = Ent.one (SV.c (SC.v (Value.int IntKind.i64 (if (↑l.length : Int) < (↑m.length : Int) then (-1 : Int) else if (↑m.length : Int) < (↑l.length : Int) then (1 : Int) else (0 : Int)))))) ((l.length ≤ (1000000 : Nat) ∧ m.length ≤ (1000000 : Nat)) ∧ ([] : List Go.Eng.Res) = [] ∧ Ent.one (SV.c (SC.v (Value.int IntKind.i64 (cmpI l m)))) = Ent.one (SV.c (SC.v (Value.int IntKind.i64 (lexI l m))))) := by
  have hp : l.length ≤ 1000000 ∧ m.length ≤ 1000000 := hpre
  refine ⟨trivial, br_iff.2 ⟨fun h => ?_, fun h => ⟨hp, rfl, ?_⟩⟩⟩
  · have e : cmpI l m = if (l.length : Int) < m.length then -1 else if (m.length : Int) < l.length then 1 else 0 := by
      unfold cmpI
      revert h
      repeat' split
      all_goals first | omega | simp
    rw [e]; exact ⟨rfl, rfl⟩
  · have e : cmpI l m = lexI l m := by
      unfold cmpI
      revert h
      repeat' split
      all_goals first | omega | simp
    rw [e]
set_option maxRecDepth 100000 in
theorem f36_met : Go.Eng.Met Try.prog cx0.gd 36 (ctCmpL cmpI) :=
  met_of (cx := cx0) (n := 17) (cl := cl36) (by kernel_rfl) tis_ok ⟨f37_met, f38_met, trivial⟩ Try.func36 (by kernel_rfl) (by kernel_rfl) rfl (by kernel_rfl) (by kernel_rfl) fun d hd => by
    obtain ⟨l, m, ⟨⟩⟩ := d
    exact ⟨ann36 l m, cast (by kernel_rfl) (f36_vc l m hd)⟩
theorem f35_ip : MetIP Try.prog cx0.gd 35 (ipSortF 36 cmpI) := ⟨ipok_sortf (ρ := Try.laysSF_ren) Try.laysSF co_cmp f36_met.1 f36_met.2.enters (fun a cap w => Proofs.AnyF.slices_SortFunc_none { Try.laysSF with } a cap _ w), ⟨_, Try.func35, rfl, by kernel_rfl⟩⟩
@[reducible] def slotN (s : St) (i : Nat) : Nat := match lkE s.env i with | some ([], .one (.c (.v (.int .i64 z)))) => z.toNat | _ => 0
@[reducible] def ctSubs : CT := { ps := [.sl (.int .i64)], pre := fun d => d.1.length ≤ 1000000, res := fun d => ([.row 22 (.sl (.int .i64)) (subsI d.1)], .tup [.c (.row 0), .c (.v (.int .i64 (errI d.1)))]) }
@[reducible] def cl10 : List (Nat × CT) := [(34, ctSorted)]
@[reducible] def il10 : List (Nat × IP) := [(35, (ipSortF 36 cmpI))]
@[reducible] def ann10 (l : List Int) : Nat → Option (St → Ann) := fun k => match k with
  | 6 => some fun _ => .inv { α := Nat, slots := fun k => [(22, .c (.v (.int .i64 k))), (5, .c (.row 1))], res := fun k => [(1, .row 22 (.sl (.int .i64)) (masksI (makeI l) k))], inv := fun k => k ≤ 2 ^ (makeI l).length, meas := fun k => 2 ^ (makeI l).length - k, drop := [18] }
  | 10 => some fun s => .inv { α := Nat, slots := fun j => [(27, .c (.v (.int .i64 j))), (7, .c (.row 2))], res := fun j => [(2, .row 3 (.int .i64) (setI (makeI l) (slotN s 22) j))], inv := fun j => j ≤ (makeI l).length, meas := fun j => (makeI l).length - j, nil := [(7, 3, .int .i64)] }
  | _ => none
set_option maxRecDepth 100000 in
theorem f10_vc (l : List Int) (hpre : ctSubs.pre (l, ())) :
    l.length ≤ (1000000 : Nat) ∧ br (decide ((12 : Int) < (↑(makeI l).length : Int))) ([Res.row (22 : TypeId) (Sh.int IntKind.i64).sl (subsI l)] = [Res.row (22 : TypeId) (Sh.int IntKind.i64).sl []] ∧ Ent.tup [SV.c (SC.row (0 : Nat)), SV.c (SC.v (Value.int IntKind.i64 (errI l)))] = Ent.tup [SV.c (SC.row (0 : Nat)), SV.c (SC.v (Value.int IntKind.i64 (4 : Int)))]) ((0 : Int) ≤ (↑(makeI l).length : Int) ∧ ((0 : Int) ≤ (0 : Int) ∧ (0 : Int) ≤ shlv IntKind.i64 (1 : Int) (↑(makeI l).length : Int) ∧ InA (shlv IntKind.i64 (1 : Int) (↑(makeI l).length : Int)).toNat (24 : Nat)) ∧ (0 : Int) ≤ (↑(makeI l).length : Int) ∧ (∃ x, x ≤ (2 : Nat) ^ (makeI l).length ∧ (SV.c (SC.v (Value.int IntKind.i64 (0 : Int))) = SV.c (SC.v (Value.int IntKind.i64 (↑x : Int))) ∧ SV.c (SC.row (Nat.succ (0 : Nat))) = SV.c (SC.row (1 : Nat)) ∧ True) ∧ [(([] : Go.Eng.Gd), Res.row (3 : TypeId) (Sh.int IntKind.i64) (makeI l)), (([] : Go.Eng.Gd), Res.row (22 : TypeId) (Sh.int IntKind.i64).sl (List.replicate (0 : Nat) []))] = [(([] : Go.Eng.Gd), Res.row (3 : TypeId) (Sh.int IntKind.i64) (makeI l)), (([] : Go.Eng.Gd), Res.row (22 : TypeId) (Sh.int IntKind.i64).sl (masksI (makeI l) x))]) ∧ ∀ (x : Nat), x ≤ (2 : Nat) ^ (makeI l).length → br (decide ((↑x : Int) < shlv IntKind.i64 (1 : Int) (↑(makeI l).length : Int))) ((∃ x_1, x_1 ≤ (makeI l).length ∧ (SV.c (SC.v (Value.int IntKind.i64 (0 : Int))) = SV.c (SC.v (Value.int IntKind.i64 (↑x_1 : Int))) ∧ SV.c (SC.row (Nat.succ (0 : Nat)).succ) = SV.c (SC.row (2 : Nat)) ∧ True) ∧ [(([] : Go.Eng.Gd), Res.row (3 : TypeId) (Sh.int IntKind.i64) (makeI l)), (([] : Go.Eng.Gd), Res.row (22 : TypeId) (Sh.int IntKind.i64).sl (masksI (makeI l) x)), (([] : Go.Eng.Gd), Res.row (3 : TypeId) (Sh.int IntKind.i64) [])] = [(([] : Go.Eng.Gd), Res.row (3 : TypeId) (Sh.int IntKind.i64) (makeI l)), (([] : Go.Eng.Gd), Res.row (22 : TypeId) (Sh.int IntKind.i64).sl (masksI (makeI l) x)), (([] : Go.Eng.Gd), Res.row (3 : TypeId) (Sh.int IntKind.i64) (setI (makeI l) (↑x : Int).toNat x_1))]) ∧ ∀ (x_1 : Nat), x_1 ≤ (makeI l).length → br (decide ((↑x_1 : Int) < (↑(makeI l).length : Int))) (((0 : Int) ≤ (↑x_1 : Int) ∧ (↑x_1 : Int) < (↑(makeI l).length : Int)) ∧ (↑x_1 : Int).toNat < (makeI l).length ∧ ∀ (d : Int), (makeI l)[(↑x_1 : Int).toNat]? = some d → (0 : Int) ≤ (↑x_1 : Int) ∧ br (!decide (bitop BinOp.and IntKind.i64 (↑x : Int) (shlv IntKind.i64 (1 : Int) (↑x_1 : Int)) = (0 : Int))) (InA (List.length (setI (makeI l) (↑x : Int).toNat x_1) + List.length ([d])) (8 : Nat) ∧ InR IntKind.i64 ((↑x_1 : Int) + (1 : Int)) ∧ ∃ x', x' ≤ (makeI l).length ∧ (SV.c (SC.v (Value.int IntKind.i64 ((↑x_1 : Int) + (1 : Int)))) = SV.c (SC.v (Value.int IntKind.i64 (↑x' : Int))) ∧ SV.c (SC.row (2 : Nat)) = SV.c (SC.row (2 : Nat)) ∧ True) ∧ [(([] : Go.Eng.Gd), Res.row (3 : TypeId) (Sh.int IntKind.i64) (makeI l)), (([] : Go.Eng.Gd), Res.row (22 : TypeId) (Sh.int IntKind.i64).sl (masksI (makeI l) x)), (([] : Go.Eng.Gd), Res.row (3 : TypeId) (Sh.int IntKind.i64) (setI (makeI l) (↑x : Int).toNat x_1 ++ [d]))] = [(([] : Go.Eng.Gd), Res.row (3 : TypeId) (Sh.int IntKind.i64) (makeI l)), (([] : Go.Eng.Gd), Res.row (22 : TypeId) (Sh.int IntKind.i64).sl (masksI (makeI l) x)), (([] : Go.Eng.Gd), Res.row (3 : TypeId) (Sh.int IntKind.i64) (setI (makeI l) (↑x : Int).toNat x'))] ∧ (makeI l).length - x' < (makeI l).length - x_1) (InR IntKind.i64 ((↑x_1 : Int) + (1 : Int)) ∧ ∃ x', x' ≤ (makeI l).length ∧ (SV.c (SC.v (Value.int IntKind.i64 ((↑x_1 : Int) + (1 : Int)))) = SV.c (SC.v (Value.int IntKind.i64 (↑x' : Int))) ∧ SV.c (SC.row (2 : Nat)) = SV.c (SC.row (2 : Nat)) ∧ True) ∧ [(([] : Go.Eng.Gd), Res.row (3 : TypeId) (Sh.int IntKind.i64) (makeI l)), (([] : Go.Eng.Gd), Res.row (22 : TypeId) (Sh.int IntKind.i64).sl (masksI (makeI l) x)), (([] : Go.Eng.Gd), Res.row (3 : TypeId) (Sh.int IntKind.i64) (setI (makeI l) (↑x : Int).toNat x_1))] = [(([] : Go.Eng.Gd), Res.row (3 : TypeId) (Sh.int IntKind.i64) (makeI l)), (([] : Go.Eng.Gd), Res.row (22 : TypeId) (Sh.int IntKind.i64).sl (masksI (makeI l) x)), (([] : Go.Eng.Gd), Res.row (3 : TypeId) (Sh.int IntKind.i64) (setI (makeI l) (↑x : Int).toNat x'))] ∧ (makeI l).length - x' < (makeI l).length - x_1)) (InA (List.length (masksI (makeI l) x) + List.length ([setI (makeI l) (↑x : Int).toNat x_1])) (24 : Nat) ∧ InR IntKind.i64 ((↑x : Int) + (1 : Int)) ∧ ∃ x', x' ≤ (2 : Nat) ^ (makeI l).length ∧ (SV.c (SC.v (Value.int IntKind.i64 ((↑x : Int) + (1 : Int)))) = SV.c (SC.v (Value.int IntKind.i64 (↑x' : Int))) ∧ SV.c (SC.row (1 : Nat)) = SV.c (SC.row (1 : Nat)) ∧ True) ∧ [(([] : Go.Eng.Gd), Res.row (3 : TypeId) (Sh.int IntKind.i64) (makeI l)), (([] : Go.Eng.Gd), Res.row (22 : TypeId) (Sh.int IntKind.i64).sl (masksI (makeI l) x ++ [setI (makeI l) (↑x : Int).toNat x_1]))] = [(([] : Go.Eng.Gd), Res.row (3 : TypeId) (Sh.int IntKind.i64) (makeI l)), (([] : Go.Eng.Gd), Res.row (22 : TypeId) (Sh.int IntKind.i64).sl (masksI (makeI l) x'))] ∧ (2 : Nat) ^ (makeI l).length - x' < (2 : Nat) ^ (makeI l).length - x)) ((Value.func (Fn.func (36 : Nat)) #[] #[] = Value.func (Fn.func (36 : FuncId)) #[] #[] ∧ List.length (masksI (makeI l) x) ≤ (1000000 : Nat) ∧ ∀ (x_1 : List (Sh.int IntKind.i64).den), x_1 ∈ masksI (makeI l) x → x_1.length ≤ (1000000 : Nat)) ∧ [Res.row (22 : TypeId) (Sh.int IntKind.i64).sl (subsI l)] = [Res.row (22 : TypeId) (Sh.int IntKind.i64).sl (sortLL cmpI (masksI (makeI l) x))] ∧ Ent.tup [SV.c (SC.row (0 : Nat)), SV.c (SC.v (Value.int IntKind.i64 (errI l)))] = Ent.tup [SV.c (SC.row (0 : Nat)), SV.c (SC.v (Value.int IntKind.i64 (0 : Int)))])) := by
  have hp : l.length ≤ 1000000 := hpre
  refine ⟨hp, br_iff.2 ⟨fun h => ?_, fun h => ?_⟩⟩
  · simp only [decide_eq_true_eq] at h
    have h : 12 < (makeI l).length := by omega
    have e1 : subsI l = [] := if_pos h
    have e2 : errI l = 4 := if_pos h
    rw [e1, e2]; exact ⟨rfl, rfl⟩
  · simp only [decide_eq_false_iff_not] at h
    have h : ¬ 12 < (makeI l).length := by omega
    have e1 : subsI l = sortLL cmpI (masksI (makeI l) (2 ^ (makeI l).length)) := if_neg h
    have e2 : errI l = 0 := if_neg h
    rw [e1, e2]
    clear e1 e2
    have hn : (makeI l).length ≤ 12 := by omega
    have hpw := pow_le hn
    have hsl := setI_len (makeI l)
    rw [shl_val hn]
    generalize makeI l = z at *
    generalize hq : (2 : Nat) ^ z.length = q at *
    refine ⟨by omega, ⟨by omega, by omega, by rw [InA_iff]; omega⟩, by omega, ⟨0, by omega, ⟨rfl, rfl, trivial⟩, by simp [masksI]⟩, fun k hk => br_iff.2 ⟨fun h => ?_, fun h => ?_⟩⟩
    · simp only [decide_eq_true_eq] at h
      refine ⟨⟨0, by omega, ⟨rfl, rfl, trivial⟩, by simp [setI_zero]⟩, fun j hj => br_iff.2 ⟨fun h2 => ?_, fun h2 => ?_⟩⟩
      · simp only [decide_eq_true_eq] at h2
        refine ⟨by omega, by omega, fun d hd => ⟨by omega, ?_⟩⟩
        have hd : z[j]? = some d := by simpa using hd
        have e := setI_step (m := k) hd
        rw [bit_iff (x := k) (i := j) (by omega) (by omega)]
        refine br_iff.2 ⟨fun h3 => ⟨?_, InR_i64.2 (by omega), j + 1, by omega, ⟨by simp, rfl, trivial⟩, ?_, by omega⟩, fun h3 => ⟨InR_i64.2 (by omega), j + 1, by omega, ⟨by simp, rfl, trivial⟩, ?_, by omega⟩⟩
        · have := hsl k j
          rw [InA_iff]; simp; omega
        · simp [e, h3]
        · simp [e, h3]
      · simp only [decide_eq_false_iff_not] at h2
        have hj : j = z.length := by omega
        subst hj
        refine ⟨?_, InR_i64.2 (by omega), k + 1, by omega, ⟨by simp, rfl, trivial⟩, ?_, by omega⟩
        · rw [InA_iff]; simp [masks_len]; omega
        · simp [masks_step]
    · simp only [decide_eq_false_iff_not] at h
      have hk : k = q := by omega
      subst hk
      refine ⟨⟨rfl, by simp [masks_len]; omega, fun x hx => ?_⟩, rfl, rfl⟩
      have hx : x ∈ masksI z _ := hx
      unfold masksI at hx
      obtain ⟨m, _, rfl⟩ := List.mem_map.1 hx
      have := hsl m z.length
      omega
set_option maxRecDepth 100000 in
theorem f10_met : Go.Eng.Met Try.prog cx0.gd 10 ctSubs :=
  met_ip (il := il10) (rc := [.row 22 (.sl (.int .i64)), .keep]) (cx := cx0) (n := 50) (cl := cl10) (by kernel_rfl) tis_ok ⟨f34_met, trivial⟩ ⟨f35_ip, trivial⟩ Try.func10 (by kernel_rfl) (by kernel_rfl) rfl (by kernel_rfl) (by kernel_rfl) fun d hd => by
    obtain ⟨l, ⟨⟩⟩ := d
    exact ⟨ann10 l, cast (by kernel_rfl) (f10_vc l hd)⟩
end Go.Proofs.Ytkndekaioeifdaa
