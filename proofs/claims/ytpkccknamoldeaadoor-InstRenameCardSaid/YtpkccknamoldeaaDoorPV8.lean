/- The functions of the Inst chapter, part 8: the registers that an instruction reads. -/
import Derived.Test.YtpkccknamoldeaaDoorPV7
import Derived.Test.YtpkccknamoldeaaDoorPSH
import Derived.Test.YtpkccknamoldeaaDoorEngX
import Derived.Test.YtpkccknamoldeaaDoorEngV
set_option linter.unusedSimpArgs false
set_option linter.unusedVariables false
set_option maxRecDepth 100000
namespace Go.Proofs.YtpkccknamoldeaaDoor
open Go Go.Eng

theorem f39_ip : MetIP Tryd.prog cx0.gd 39 ipSort := ⟨ipok_sort f39_met.1 rfl (fun blk cap zs w hH hb hz => Tryd.slices_Sort_int blk 0 cap zs w hH hb hz), f39_met.2⟩
theorem f40_ip : MetIP Tryd.prog cx0.gd 40 ipCompact := ⟨ipok_compact (fun w => Tryd.slices_Compact_int_empty none 0 w) (fun blk cap zs w hH h1 h2 => Tryd.slices_Compact_int blk 0 cap zs w hH h1 h2), ⟨_, Tryd.func40, rfl, by kernel_rfl⟩⟩
/-- The registers that an instruction reads, in the order of its fields. -/
def useL (op b c : Int) : List Int := (if use op 1 then [b] else []) ++ (if use op 2 then [c] else [])
def usesS (op a b c obj n fn ord : Int) : List Int := if chkS op a b c obj n fn ord = 0 then makeI (useL op b c) else []
theorem sortI_two (x y : Int) : sortI [x, y] = if x ≤ y then [x, y] else [y, x] := by
  unfold sortI
  simp [List.mergeSort, List.MergeSort.Internal.splitInTwo, List.merge]
theorem sortI_len (l : List Int) : (sortI l).length = l.length := by simp [sortI]
theorem sortI_one (x : Int) : sortI [x] = [x] := by simp [sortI]
theorem compact_one (x : Int) : Lib.compact [x] = [x] := by
  simp [Lib.compact, Lib.compactUpTo, Lib.keeps, List.range_succ]
theorem compact_two (x y : Int) : Lib.compact [x, y] = if x = y then [x] else [x, y] := by
  by_cases h : x = y
  · subst h; simp [Lib.compact, Lib.compactUpTo, Lib.keeps, List.range_succ]
  · simp [Lib.compact, Lib.compactUpTo, Lib.keeps, List.range_succ, h, Ne.symm h]
theorem makeI_one (x : Int) : makeI [x] = [x] := by
  simp [makeI, insI, hasI]
theorem makeI_two (x y : Int) : makeI [x, y] = if x = y then [x] else if x < y then [x, y] else [y, x] := by
  by_cases h : x = y
  · subst h; simp [makeI, insI, hasI]
  · by_cases h2 : x < y <;> simp [makeI, insI, hasI, posI, h, h2, Ne.symm h, show ¬ y = x from fun e => h e.symm]
theorem comp_two (x y : Int) : Lib.compact (sortI [x, y]) = makeI [x, y] := by
  rw [sortI_two, makeI_two]
  by_cases h : x ≤ y
  · rw [if_pos h, compact_two]; grind
  · rw [if_neg h, compact_two]; grind
@[reducible] def ct40z : CT := { ps := [.sl (.int .i64)], pre := fun d => Mt d.1, res := fun d => ([], .one (.c (.sl (.int .i64) []))) }
theorem f40_met : Go.Eng.Met Tryd.prog cx0.gd 40 ct40z := by
  refine ⟨?_, f40_ip.2⟩
  rintro ⟨l, ⟨⟩⟩ vs h B hw hg ha hpre
  have hpre : l = [] := hpre
  subst hpre
  match vs, ha with
  | [v], ⟨⟨hv, ho⟩, _⟩ =>
    have e : ∃ a cap, v = .slice a 0 cap := by
      rcases hv with ⟨rfl, _⟩ | ⟨ad, cap, rfl, _⟩ | ⟨b, off, cap, rfl, _⟩
      · exact ⟨none, 0, rfl⟩
      · exact ⟨some ad, cap, rfl⟩
      · exact ⟨some ⟨b, off, none⟩, cap, rfl⟩
    obtain ⟨a, cap, rfl⟩ := e
    refine (Tryd.slices_Compact_int_empty a cap B).mono ?_
    rintro en w' ⟨rfl, rfl⟩
    exact ⟨h, [], _, rfl, ⟨RowKit.Below.refl _ _, rfl, fun i r v e _ => by simp at e, fun i r v b e _ _ _ => by simp at e, fun i j r r' u v b e _ _ _ _ _ _ _ => by simp at e, FH.le.refl h, hw, fun b o v hh => .inl hh⟩, hv, ho⟩
theorem chk_known {op a b c obj n fn ord : Int} (h : chkS op a b c obj n fn ord = 0) : 1 ≤ op ∧ op ≤ 22 := by
  unfold chkS at h
  split at h
  · omega
  · rename_i hk; simpa [knownS] using hk
@[reducible] def ct14 : CT := { ps := [shI], pre := fun d => True, res := fun d => ([], .one (.c (.sl (.int .i64) (usesS d.1.1 d.1.2.1 d.1.2.2.1 d.1.2.2.2.1 d.1.2.2.2.2.1 d.1.2.2.2.2.2.1 d.1.2.2.2.2.2.2.1 d.1.2.2.2.2.2.2.2.1)))) }
@[reducible] def cl14 : List (Nat × CT) := [(11, ct11), (39, ct39z), (40, ct40z)]
@[reducible] def il14 : List (Nat × IP) := [(39, ipSort), (40, ipCompact)]
@[reducible] def ann14 (op : Int) (a : Int) (b : Int) (c : Int) (obj : Int) (n : Int) (fn : Int) (ord : Int) : Nat → Option (St → Ann) := fun _ => none
set_option maxRecDepth 100000 in
theorem f14_vc (op : Int) (a : Int) (b : Int) (c : Int) (obj : Int) (n : Int) (fn : Int) (ord : Int) :
    True ∧ br (!decide (chkS op a b c obj n fn ord = (0 : Int))) (([] : List Go.Eng.Res) = [] ∧ Ent.one (SV.c (SC.sl (Sh.int IntKind.i64) (usesS op a b c obj n fn ord))) = Ent.one (SV.c (SC.sl (Sh.int IntKind.i64) []))) (InR IntKind.i64 (op - (1 : Int)) ∧ ((0 : Int) ≤ op - (1 : Int) ∧ op - (1 : Int) < (22 : Int)) ∧ ∀ (d : Sh.str.den × ((Sh.arr (7 : Nat) Sh.bool).pair Sh.unit).den), rowsD[(op - (1 : Int)).toNat]? = some d → ((0 : Int) ≤ (1 : Int) ∧ (1 : Int) < (7 : Int)) ∧ (1 : Nat) < (7 : Nat) ∧ ∀ (d_1 : Bool), (d.snd.fst)[(1 : Nat)]? = some d_1 → br d_1 (InA (List.length ([b])) (8 : Nat) ∧ ((0 : Int) ≤ (2 : Int) ∧ (2 : Int) < (7 : Int)) ∧ (2 : Nat) < (7 : Nat) ∧ ∀ (d_2 : Bool), (d.snd.fst)[(2 : Nat)]? = some d_2 → br d_2 (InA (List.length ([b]) + List.length ([c])) (8 : Nat) ∧ List.length (([b] ++ [c])) < (4611686018427387904 : Nat) ∧ List.length (sortI (([b] ++ [c]))) < (4611686018427387904 : Nat) ∧ ([] : List Go.Eng.Res) = [] ∧ Ent.one (SV.c (SC.sl (Sh.int IntKind.i64) (usesS op a b c obj n fn ord))) = Ent.one (SV.c (SC.sl (Sh.int IntKind.i64) (Lib.compact (sortI (([b] ++ [c]))))))) (List.length ([b]) < (4611686018427387904 : Nat) ∧ List.length (sortI ([b])) < (4611686018427387904 : Nat) ∧ ([] : List Go.Eng.Res) = [] ∧ Ent.one (SV.c (SC.sl (Sh.int IntKind.i64) (usesS op a b c obj n fn ord))) = Ent.one (SV.c (SC.sl (Sh.int IntKind.i64) (Lib.compact (sortI ([b]))))))) (((0 : Int) ≤ (2 : Int) ∧ (2 : Int) < (7 : Int)) ∧ (2 : Nat) < (7 : Nat) ∧ ∀ (d_2 : Bool), (d.snd.fst)[(2 : Nat)]? = some d_2 → br d_2 (InA (List.length ([c])) (8 : Nat) ∧ List.length ([c]) < (4611686018427387904 : Nat) ∧ List.length (sortI ([c])) < (4611686018427387904 : Nat) ∧ ([] : List Go.Eng.Res) = [] ∧ Ent.one (SV.c (SC.sl (Sh.int IntKind.i64) (usesS op a b c obj n fn ord))) = Ent.one (SV.c (SC.sl (Sh.int IntKind.i64) (Lib.compact (sortI ([c])))))) (Mt [] ∧ Mt [] ∧ ([] : List Go.Eng.Res) = [] ∧ Ent.one (SV.c (SC.sl (Sh.int IntKind.i64) (usesS op a b c obj n fn ord))) = Ent.one (SV.c (SC.sl (Sh.int IntKind.i64) ([])))))) := by
  refine ⟨trivial, br_iff.2 ⟨fun h => ?_, fun h => ?_⟩⟩
  · have h : ¬ chkS op a b c obj n fn ord = 0 := by simpa using h
    rw [show usesS op a b c obj n fn ord = [] from if_neg h]; exact ⟨rfl, rfl⟩
  · have h0 : chkS op a b c obj n fn ord = 0 := by simpa using h
    have hb := chk_known h0
    rw [show usesS op a b c obj n fn ord = makeI (useL op b c) from if_pos h0]
    refine ⟨InR_i64.2 (by omega), by omega, fun d hd => ?_⟩
    obtain ⟨nm, us, ⟨⟩⟩ := d
    have hu := rows_use hb hd
    subst hu
    clear hd h h0
    simp only [List.getElem?_cons_zero, List.getElem?_cons_succ, Option.some.injEq, forall_eq', useL]
    generalize use op 1 = u1
    generalize use op 2 = u2
    cases u1 <;> cases u2 <;> simp [br, InA, sortI_len, sortI_one, comp_two, compact_one, makeI_one, Mt]
    rfl
set_option maxRecDepth 100000 in
theorem f14_met : Go.Eng.Met Tryd.prog cx0.gd 14 ct14 :=
  met_ip (il := il14) (rc := [.data (.sl (.int .i64))]) (cx := cx0) (n := 32) (cl := cl14) (by kernel_rfl) tis_ok ⟨f11_met, f39_met, f40_met, trivial⟩ ⟨f39_ip, f40_ip, trivial⟩ Tryd.func14 (by kernel_rfl) (by kernel_rfl) rfl (by kernel_rfl) (by kernel_rfl) fun d hd => by
    obtain ⟨⟨op, a, b, c, obj, n, fn, ord, ⟨⟩⟩, ⟨⟩⟩ := d
    exact ⟨ann14 op a b c obj n fn ord, cast (by kernel_rfl) (f14_vc op a b c obj n fn ord)⟩
@[reducible] def ct15 : CT := { ps := [shI], pre := fun d => True, res := fun d => ([], .one (.c (.sl (.int .i64) (usesS d.1.1 d.1.2.1 d.1.2.2.1 d.1.2.2.2.1 d.1.2.2.2.2.1 d.1.2.2.2.2.2.1 d.1.2.2.2.2.2.2.1 d.1.2.2.2.2.2.2.2.1)))) }
@[reducible] def cl15 : List (Nat × CT) := [(12, ct12), (33, ct33), (41, ct41)]
@[reducible] def il15 : List (Nat × IP) := []
@[reducible] def ann15 (op : Int) (a : Int) (b : Int) (c : Int) (obj : Int) (n : Int) (fn : Int) (ord : Int) : Nat → Option (St → Ann) := fun _ => none
set_option maxRecDepth 100000 in
theorem f15_vc (op : Int) (a : Int) (b : Int) (c : Int) (obj : Int) (n : Int) (fn : Int) (ord : Int) :
    True ∧ br (!decide (chkS op a b c obj n fn ord = (0 : Int))) (([] : List Go.Eng.Res) = [] ∧ Ent.one (SV.c (SC.sl (Sh.int IntKind.i64) (usesS op a b c obj n fn ord))) = Ent.one (SV.c (SC.sl (Sh.int IntKind.i64) ([])))) (True ∧ br (hasF op (66 : Int)) (InA ((0 : Nat) + List.length ([b])) (8 : Nat) ∧ True ∧ br (hasF op (67 : Int)) (InA (List.length (([] ++ [b])) + List.length ([c])) (8 : Nat) ∧ List.length (([] ++ [b]) ++ [c]) ≤ (1000000 : Nat) ∧ ([] : List Go.Eng.Res) = [] ∧ Ent.one (SV.c (SC.sl (Sh.int IntKind.i64) (usesS op a b c obj n fn ord))) = Ent.one (SV.c (SC.sl (Sh.int IntKind.i64) (makeI (([] ++ [b]) ++ [c]))))) (List.length ([] ++ [b]) ≤ (1000000 : Nat) ∧ ([] : List Go.Eng.Res) = [] ∧ Ent.one (SV.c (SC.sl (Sh.int IntKind.i64) (usesS op a b c obj n fn ord))) = Ent.one (SV.c (SC.sl (Sh.int IntKind.i64) (makeI ([] ++ [b])))))) (True ∧ br (hasF op (67 : Int)) (InA ((0 : Nat) + List.length ([c])) (8 : Nat) ∧ List.length ([] ++ [c]) ≤ (1000000 : Nat) ∧ ([] : List Go.Eng.Res) = [] ∧ Ent.one (SV.c (SC.sl (Sh.int IntKind.i64) (usesS op a b c obj n fn ord))) = Ent.one (SV.c (SC.sl (Sh.int IntKind.i64) (makeI ([] ++ [c]))))) ((0 : Nat) ≤ (1000000 : Nat) ∧ ([] : List Go.Eng.Res) = [] ∧ Ent.one (SV.c (SC.sl (Sh.int IntKind.i64) (usesS op a b c obj n fn ord))) = Ent.one (SV.c (SC.sl (Sh.int IntKind.i64) (makeI [])))))) := by
  refine ⟨trivial, br_iff.2 ⟨fun h => ?_, fun h => ?_⟩⟩
  · have h : ¬ chkS op a b c obj n fn ord = 0 := by simpa using h
    rw [show usesS op a b c obj n fn ord = [] from if_neg h]; exact ⟨rfl, rfl⟩
  · have h0 : chkS op a b c obj n fn ord = 0 := by simpa using h
    have hb := chk_known h0
    rw [show usesS op a b c obj n fn ord = makeI (useL op b c) from if_pos h0]
    obtain ⟨e0, e1, e2, e3, e4, e5, e6⟩ := has_use op
    rw [e1, e2]
    simp only [useL]
    generalize use op 1 = u1
    generalize use op 2 = u2
    cases u1 <;> cases u2 <;> simp [br, InA]
set_option maxRecDepth 100000 in
theorem f15_met : Go.Eng.Met Tryd.prog cx0.gd 15 ct15 :=
  met_ip (il := il15) (rc := [.data (.sl (.int .i64))]) (cx := cx0) (n := 27) (cl := cl15) (by kernel_rfl) tis_ok ⟨f12_met, f33_met, f41_met, trivial⟩ trivial Tryd.func15 (by kernel_rfl) (by kernel_rfl) rfl (by kernel_rfl) (by kernel_rfl) fun d hd => by
    obtain ⟨⟨op, a, b, c, obj, n, fn, ord, ⟨⟩⟩, ⟨⟩⟩ := d
    exact ⟨ann15 op a b c obj n fn ord, cast (by kernel_rfl) (f15_vc op a b c obj n fn ord)⟩
end Go.Proofs.YtpkccknamoldeaaDoor
