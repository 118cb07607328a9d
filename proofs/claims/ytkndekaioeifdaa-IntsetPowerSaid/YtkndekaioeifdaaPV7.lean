/- The sets chapter, part 7: the laws' own functions. -/
import Derived.Test.YtkndekaioeifdaaPK4
set_option linter.unusedSimpArgs false
set_option linter.unusedVariables false
set_option maxRecDepth 100000
namespace Go.Proofs.Ytkndekaioeifdaa
open Go Go.Eng

@[reducible] def ctAw : CT := { ps := [], pre := fun d => True, res := fun d => ([], vB (true)) }
@[reducible] def cl9 : List (Nat × CT) := [(10, ctSubs), (13, ctMake), (17, ct13), (30, ctMin), (15, ctSub), (14, ctV), (12, ctLists)]
@[reducible] def il9 : List (Nat × IP) := []
@[reducible] def ann9  : Nat → Option (St → Ann) := fun _ => none
set_option maxRecDepth 100000 in
theorem f9_vc  :
    (2 : Nat) ≤ (1000000 : Nat) ∧ (13 : Nat) ≤ (1000000 : Nat) ∧ (3 : Nat) ≤ (1000000 : Nat) ∧ (2 : Nat) ≤ (4611686018427387904 : Nat) ∧ ((3 : Nat) ≤ (1000000 : Nat) ∧ (1 : Nat) ≤ (1000000 : Nat)) ∧ (2 : Nat) ≤ (4611686018427387904 : Nat) ∧ ((0 : Nat) ≤ (1000000 : Nat) ∧ (1 : Nat) ≤ (1000000 : Nat)) ∧ ((1 : Nat) ≤ (1000000 : Nat) ∧ (1 : Nat) ≤ (1000000 : Nat)) ∧ (2 : Nat) ≤ (1000000 : Nat) ∧ (2 : Nat) ≤ (1000000 : Nat) ∧ ((subsI [(5 : Int), (2 : Int)]).length ≤ (1000000 : Nat) ∧ ∀ (x : List (Sh.int IntKind.i64).den), x ∈ subsI [(5 : Int), (2 : Int)] → x.length ≤ (1000000 : Nat)) ∧ ([] : List Go.Eng.Res) = [] ∧ Ent.one (SV.c (SC.v (Value.bool true))) = Ent.one (SV.c (SC.v (Value.bool (Decidable.rec (fun h => (fun x => false) h) (fun h => (fun x => true) h) (instDecidableEqList (subsI [(5 : Int), (2 : Int)], [[], [(2 : Int)], [(5 : Int)], [(2 : Int), (5 : Int)]], ()).fst (subsI [(5 : Int), (2 : Int)], [[], [(2 : Int)], [(5 : Int)], [(2 : Int), (5 : Int)]], ()).snd.fst))))) := by
  have e : subsI [5, 2] = [[], [2], [5], [2, 5]] := by rw [subs_eq]; decide
  have e : subsI [(5 : Int), (2 : Int)] = [[], [(2 : Int)], [(5 : Int)], [(2 : Int), (5 : Int)]] := e
  rw [e]
  simp
  rfl
set_option maxRecDepth 100000 in
theorem f9_met : Go.Eng.Met Try.prog cx0.gd 9 ctAw :=
  met_lit (lits := [19,26,30,36,40,45,49,53]) (il := il9) (rc := []) (cx := cx0) (n := 62) (cl := cl9) (by kernel_rfl) tis_ok ⟨f10_met, f13_met, f17_met, f30_met, f15_met, f14_met, f12_met, trivial⟩ trivial Try.func9 (by kernel_rfl) (by kernel_rfl) rfl (by kernel_rfl) (by kernel_rfl) fun d hd => by
    obtain ⟨⟩ := d
    exact ⟨ann9 , cast (by kernel_rfl) (f9_vc )⟩
@[reducible] def ctL5 : CT := { ps := [.sl (.int .i64), .int .i64], pre := fun d => True, res := fun d => ([], vB (true)) }
@[reducible] def cl5 : List (Nat × CT) := [(9, ctAw), (13, ctMake), (18, ct41), (17, ct13), (14, ctV), (19, ctrV), (20, ctHas), (21, ct46)]
@[reducible] def ann5 (l : List Int) (x : Int) : Nat → Option (St → Ann) := fun _ => none
set_option maxRecDepth 100000 in
theorem f5_vc (l : List Int) (x : Int) :
    br (decide ((300 : Int) < (↑l.length : Int))) (True ∧ ([] : List Go.Eng.Res) = [] ∧ Ent.one (SV.c (SC.v (Value.bool true))) = Ent.one (SV.c (SC.v (Value.bool true)))) (True ∧ (true = true → l.length ≤ (1000000 : Nat)) ∧ (true = true → l.length ≤ (1000000 : Nat)) ∧ (true = true → (makeI l).length ≤ (4611686018427387904 : Nat)) ∧ ((true && decide (makeI l = makeI l)) = true → l.length ≤ (1000000 : Nat)) ∧ ((true && decide (makeI l = makeI l)) = true → l.length ≤ (1000000 : Nat)) ∧ ((true && decide (makeI l = makeI l) && validI l == validI l) = true → l.length ≤ (1000000 : Nat)) ∧ ((true && decide (makeI l = makeI l) && validI l == validI l) = true → l.length ≤ (4611686018427387904 : Nat)) ∧ ([] : List Go.Eng.Res) = [] ∧ Ent.one (SV.c (SC.v (Value.bool true))) = Ent.one (SV.c (SC.v (Value.bool (true && decide (makeI l = makeI l) && validI l == validI l && hasI l x == hasI l x))))) := by
  refine br_iff.2 ⟨fun _ => ⟨trivial, rfl, rfl⟩, fun h => ?_⟩
  simp only [decide_eq_false_iff_not] at h
  have hm := make_len l
  simp; omega
set_option maxRecDepth 100000 in
theorem f5_met : Go.Eng.Met Try.prog cx0.gd 5 ctL5 :=
  met_of (cx := cx0) (n := 33) (cl := cl5) (by kernel_rfl) tis_ok ⟨f9_met, f13_met, f18_met, f17_met, f14_met, f19_met, f20_met, f21_met, trivial⟩ Try.func5 (by kernel_rfl) (by kernel_rfl) rfl (by kernel_rfl) (by kernel_rfl) fun d hd => by
    obtain ⟨l, x, ⟨⟩⟩ := d
    exact ⟨ann5 l x, cast (by kernel_rfl) (f5_vc l x)⟩
@[reducible] def ctL6 : CT := { ps := [.sl (.int .i64), .int .i64], pre := fun d => True, res := fun d => ([], vB (true)) }
@[reducible] def cl6 : List (Nat × CT) := [(9, ctAw), (22, ctAdd), (23, ctrAdd), (17, ct13), (24, ctRem), (25, ctrRem)]
@[reducible] def ann6 (l : List Int) (x : Int) : Nat → Option (St → Ann) := fun _ => none
set_option maxRecDepth 100000 in
theorem f6_vc (l : List Int) (x : Int) :
    br (decide ((300 : Int) < (↑l.length : Int))) (True ∧ ([] : List Go.Eng.Res) = [] ∧ Ent.one (SV.c (SC.v (Value.bool true))) = Ent.one (SV.c (SC.v (Value.bool true)))) (True ∧ (true = true → l.length ≤ (999999 : Nat)) ∧ (true = true → l.length ≤ (999999 : Nat)) ∧ (true = true → (makeI (l ++ [x])).length ≤ (4611686018427387904 : Nat)) ∧ ((true && decide (makeI (l ++ [x]) = makeI (l ++ [x]))) = true → l.length ≤ (1000000 : Nat)) ∧ ((true && decide (makeI (l ++ [x]) = makeI (l ++ [x]))) = true → l.length ≤ (1000000 : Nat)) ∧ ((true && decide (makeI (l ++ [x]) = makeI (l ++ [x]))) = true → (filI (makeI l) [x] false).length ≤ (4611686018427387904 : Nat)) ∧ ([] : List Go.Eng.Res) = [] ∧ Ent.one (SV.c (SC.v (Value.bool true))) = Ent.one (SV.c (SC.v (Value.bool (true && decide (makeI (l ++ [x]) = makeI (l ++ [x])) && decide (filI (makeI l) [x] false = makeI (filI l [x] false))))))) := by
  refine br_iff.2 ⟨fun _ => ⟨trivial, rfl, rfl⟩, fun h => ?_⟩
  simp only [decide_eq_false_iff_not] at h
  have hm := make_len (l ++ [x])
  have h2 := make_len l
  have h3 := fil_len (makeI l) [x] false
  have e := fil_make l [x] false
  simp [e] at *; omega
set_option maxRecDepth 100000 in
theorem f6_met : Go.Eng.Met Try.prog cx0.gd 6 ctL6 :=
  met_of (cx := cx0) (n := 28) (cl := cl6) (by kernel_rfl) tis_ok ⟨f9_met, f22_met, f23_met, f17_met, f24_met, f25_met, trivial⟩ Try.func6 (by kernel_rfl) (by kernel_rfl) rfl (by kernel_rfl) (by kernel_rfl) fun d hd => by
    obtain ⟨l, x, ⟨⟩⟩ := d
    exact ⟨ann6 l x, cast (by kernel_rfl) (f6_vc l x)⟩
@[reducible] def ctL7 : CT := { ps := [.sl (.int .i64), .sl (.int .i64)], pre := fun d => True, res := fun d => ([], vB (true)) }
@[reducible] def cl7 : List (Nat × CT) := [(9, ctAw), (26, ctUn), (27, ctrUn), (17, ct13), (28, ctInt), (29, ctrInt), (30, ctMin), (31, ctrMin), (15, ctSub), (32, ctrSub)]
@[reducible] def ann7 (l : List Int) (m : List Int) : Nat → Option (St → Ann) := fun _ => none
set_option maxRecDepth 100000 in
theorem f7_vc (l : List Int) (m : List Int) :
    br (decide ((200 : Int) < (↑l.length : Int)) || decide ((200 : Int) < (↑m.length : Int))) (True ∧ ([] : List Go.Eng.Res) = [] ∧ Ent.one (SV.c (SC.v (Value.bool true))) = Ent.one (SV.c (SC.v (Value.bool true)))) (True ∧ (true = true → l.length ≤ (500000 : Nat) ∧ m.length ≤ (500000 : Nat)) ∧ (true = true → l.length ≤ (500000 : Nat) ∧ m.length ≤ (500000 : Nat)) ∧ (true = true → (makeI (l ++ m)).length ≤ (4611686018427387904 : Nat)) ∧ ((true && decide (makeI (l ++ m) = makeI (l ++ m))) = true → l.length ≤ (1000000 : Nat) ∧ m.length ≤ (1000000 : Nat)) ∧ ((true && decide (makeI (l ++ m) = makeI (l ++ m))) = true → l.length ≤ (1000000 : Nat) ∧ m.length ≤ (1000000 : Nat)) ∧ ((true && decide (makeI (l ++ m) = makeI (l ++ m))) = true → (filI (makeI l) m true).length ≤ (4611686018427387904 : Nat)) ∧ ((true && decide (makeI (l ++ m) = makeI (l ++ m)) && decide (filI (makeI l) m true = makeI (filI l m true))) = true → l.length ≤ (1000000 : Nat) ∧ m.length ≤ (1000000 : Nat)) ∧ ((true && decide (makeI (l ++ m) = makeI (l ++ m)) && decide (filI (makeI l) m true = makeI (filI l m true))) = true → l.length ≤ (1000000 : Nat) ∧ m.length ≤ (1000000 : Nat)) ∧ ((true && decide (makeI (l ++ m) = makeI (l ++ m)) && decide (filI (makeI l) m true = makeI (filI l m true))) = true → (filI (makeI l) m false).length ≤ (4611686018427387904 : Nat)) ∧ ((true && decide (makeI (l ++ m) = makeI (l ++ m)) && decide (filI (makeI l) m true = makeI (filI l m true)) && decide (filI (makeI l) m false = makeI (filI l m false))) = true → l.length ≤ (1000000 : Nat) ∧ m.length ≤ (1000000 : Nat)) ∧ ((true && decide (makeI (l ++ m) = makeI (l ++ m)) && decide (filI (makeI l) m true = makeI (filI l m true)) && decide (filI (makeI l) m false = makeI (filI l m false))) = true → l.length ≤ (1000000 : Nat) ∧ m.length ≤ (1000000 : Nat)) ∧ ([] : List Go.Eng.Res) = [] ∧ Ent.one (SV.c (SC.v (Value.bool true))) = Ent.one (SV.c (SC.v (Value.bool (true && decide (makeI (l ++ m) = makeI (l ++ m)) && decide (filI (makeI l) m true = makeI (filI l m true)) && decide (filI (makeI l) m false = makeI (filI l m false)) && subI l m == subI l m))))) := by
  refine br_iff.2 ⟨fun _ => ⟨trivial, rfl, rfl⟩, fun h => ?_⟩
  simp only [Bool.or_eq_false_iff, decide_eq_false_iff_not] at h
  have hm := make_len (l ++ m)
  have h2 := make_len l
  have h3 := fil_len (makeI l) m false
  have h4 := fil_len (makeI l) m true
  rw [fil_make, fil_make] at *
  simp at *; omega
set_option maxRecDepth 100000 in
theorem f7_met : Go.Eng.Met Try.prog cx0.gd 7 ctL7 :=
  met_of (cx := cx0) (n := 51) (cl := cl7) (by kernel_rfl) tis_ok ⟨f9_met, f26_met, f27_met, f17_met, f28_met, f29_met, f30_met, f31_met, f15_met, f32_met, trivial⟩ Try.func7 (by kernel_rfl) (by kernel_rfl) rfl (by kernel_rfl) (by kernel_rfl) fun d hd => by
    obtain ⟨l, m, ⟨⟩⟩ := d
    exact ⟨ann7 l m, cast (by kernel_rfl) (f7_vc l m)⟩
@[reducible] def ctL3 : CT := { ps := [.sl (.int .i64)], pre := fun d => True, res := fun d => ([], vB (true)) }
@[reducible] def cl3 : List (Nat × CT) := [(9, ctAw), (10, ctSubs), (11, ctrSubs), (12, ctLists)]
@[reducible] def ann3 (l : List Int) : Nat → Option (St → Ann) := fun _ => none
set_option maxRecDepth 100000 in
theorem f3_vc (l : List Int) :
    br (decide ((30 : Int) < (↑l.length : Int))) (True ∧ ([] : List Go.Eng.Res) = [] ∧ Ent.one (SV.c (SC.v (Value.bool true))) = Ent.one (SV.c (SC.v (Value.bool true)))) (l.length ≤ (1000000 : Nat) ∧ l.length ≤ (1000000 : Nat) ∧ True ∧ (true = true → (subsI l).length ≤ (1000000 : Nat) ∧ ∀ (x : List (Sh.int IntKind.i64).den), x ∈ subsI l → x.length ≤ (1000000 : Nat)) ∧ ([] : List Go.Eng.Res) = [] ∧ Ent.one (SV.c (SC.v (Value.bool true))) = Ent.one (SV.c (SC.v (Value.bool (true && decide (subsI l = rsubsI l) && decide (errI l = errI l)))))) := by
  refine br_iff.2 ⟨fun _ => ⟨trivial, rfl, rfl⟩, fun h => ?_⟩
  simp only [decide_eq_false_iff_not] at h
  have hs := subs_len l
  refine ⟨by omega, by omega, trivial, fun _ => ⟨by omega, fun x hx => ?_⟩, rfl, by simp [subs_eq]⟩
  have := hs.2 x hx
  show List.length (α := Int) x ≤ 1000000
  omega
set_option maxRecDepth 100000 in
theorem f3_met : Go.Eng.Met Try.prog cx0.gd 3 ctL3 :=
  met_of (cx := cx0) (n := 32) (cl := cl3) (by kernel_rfl) tis_ok ⟨f9_met, f10_met, f11_met, f12_met, trivial⟩ Try.func3 (by kernel_rfl) (by kernel_rfl) rfl (by kernel_rfl) (by kernel_rfl) fun d hd => by
    obtain ⟨l, ⟨⟩⟩ := d
    exact ⟨ann3 l, cast (by kernel_rfl) (f3_vc l)⟩
@[reducible] def ctDist : CT := { ps := [.sl (.int .i64), .sl (.int .i64), .sl (.int .i64)], pre := fun d => d.1.length ≤ 100 ∧ d.2.1.length ≤ 100 ∧ d.2.2.1.length ≤ 100, res := fun d => ([], vB (true)) }
@[reducible] def cl33 : List (Nat × CT) := [(26, ctUn), (28, ctInt), (13, ctMake), (17, ct13)]
@[reducible] def ann33 (l : List Int) (m : List Int) (k : List Int) : Nat → Option (St → Ann) := fun _ => none
set_option maxRecDepth 100000 in
theorem f33_vc (l : List Int) (m : List Int) (k : List Int) (hpre : ctDist.pre (l, m, k, ())) :
    (m.length ≤ (500000 : Nat) ∧ k.length ≤ (500000 : Nat)) ∧ (l.length ≤ (1000000 : Nat) ∧ (makeI (m ++ k)).length ≤ (1000000 : Nat)) ∧ (l.length ≤ (1000000 : Nat) ∧ m.length ≤ (1000000 : Nat)) ∧ (l.length ≤ (1000000 : Nat) ∧ k.length ≤ (1000000 : Nat)) ∧ ((filI (makeI l) m true).length ≤ (500000 : Nat) ∧ (filI (makeI l) k true).length ≤ (500000 : Nat)) ∧ (m.length ≤ (1000000 : Nat) ∧ k.length ≤ (1000000 : Nat)) ∧ (l.length ≤ (500000 : Nat) ∧ (filI (makeI m) k true).length ≤ (500000 : Nat)) ∧ (l.length ≤ (500000 : Nat) ∧ m.length ≤ (500000 : Nat)) ∧ (l.length ≤ (500000 : Nat) ∧ k.length ≤ (500000 : Nat)) ∧ ((makeI (l ++ m)).length ≤ (1000000 : Nat) ∧ (makeI (l ++ k)).length ≤ (1000000 : Nat)) ∧ (m.length ≤ (500000 : Nat) ∧ k.length ≤ (500000 : Nat)) ∧ (l.length ≤ (500000 : Nat) ∧ (makeI (m ++ k)).length ≤ (500000 : Nat)) ∧ (l.length ≤ (500000 : Nat) ∧ m.length ≤ (500000 : Nat)) ∧ ((makeI (l ++ m)).length ≤ (500000 : Nat) ∧ k.length ≤ (500000 : Nat)) ∧ (filI (makeI l) (makeI (m ++ k)) true).length ≤ (4611686018427387904 : Nat) ∧ (decide (filI (makeI l) (makeI (m ++ k)) true = makeI (filI (makeI l) m true ++ filI (makeI l) k true)) = true → (makeI (l ++ filI (makeI m) k true)).length ≤ (4611686018427387904 : Nat)) ∧ ((decide (filI (makeI l) (makeI (m ++ k)) true = makeI (filI (makeI l) m true ++ filI (makeI l) k true)) && decide (makeI (l ++ filI (makeI m) k true) = filI (makeI (makeI (l ++ m))) (makeI (l ++ k)) true)) = true → (makeI (l ++ makeI (m ++ k))).length ≤ (4611686018427387904 : Nat)) ∧ ((decide (filI (makeI l) (makeI (m ++ k)) true = makeI (filI (makeI l) m true ++ filI (makeI l) k true)) && decide (makeI (l ++ filI (makeI m) k true) = filI (makeI (makeI (l ++ m))) (makeI (l ++ k)) true) && decide (makeI (l ++ makeI (m ++ k)) = makeI (makeI (l ++ m) ++ k))) = true → l.length ≤ (500000 : Nat) ∧ m.length ≤ (500000 : Nat)) ∧ ((decide (filI (makeI l) (makeI (m ++ k)) true = makeI (filI (makeI l) m true ++ filI (makeI l) k true)) && decide (makeI (l ++ filI (makeI m) k true) = filI (makeI (makeI (l ++ m))) (makeI (l ++ k)) true) && decide (makeI (l ++ makeI (m ++ k)) = makeI (makeI (l ++ m) ++ k))) = true → m.length ≤ (500000 : Nat) ∧ l.length ≤ (500000 : Nat)) ∧ ((decide (filI (makeI l) (makeI (m ++ k)) true = makeI (filI (makeI l) m true ++ filI (makeI l) k true)) && decide (makeI (l ++ filI (makeI m) k true) = filI (makeI (makeI (l ++ m))) (makeI (l ++ k)) true) && decide (makeI (l ++ makeI (m ++ k)) = makeI (makeI (l ++ m) ++ k))) = true → (makeI (l ++ m)).length ≤ (4611686018427387904 : Nat)) ∧ ((decide (filI (makeI l) (makeI (m ++ k)) true = makeI (filI (makeI l) m true ++ filI (makeI l) k true)) && decide (makeI (l ++ filI (makeI m) k true) = filI (makeI (makeI (l ++ m))) (makeI (l ++ k)) true) && decide (makeI (l ++ makeI (m ++ k)) = makeI (makeI (l ++ m) ++ k)) && decide (makeI (l ++ m) = makeI (m ++ l))) = true → l.length ≤ (1000000 : Nat) ∧ m.length ≤ (1000000 : Nat)) ∧ ((decide (filI (makeI l) (makeI (m ++ k)) true = makeI (filI (makeI l) m true ++ filI (makeI l) k true)) && decide (makeI (l ++ filI (makeI m) k true) = filI (makeI (makeI (l ++ m))) (makeI (l ++ k)) true) && decide (makeI (l ++ makeI (m ++ k)) = makeI (makeI (l ++ m) ++ k)) && decide (makeI (l ++ m) = makeI (m ++ l))) = true → m.length ≤ (1000000 : Nat) ∧ l.length ≤ (1000000 : Nat)) ∧ ((decide (filI (makeI l) (makeI (m ++ k)) true = makeI (filI (makeI l) m true ++ filI (makeI l) k true)) && decide (makeI (l ++ filI (makeI m) k true) = filI (makeI (makeI (l ++ m))) (makeI (l ++ k)) true) && decide (makeI (l ++ makeI (m ++ k)) = makeI (makeI (l ++ m) ++ k)) && decide (makeI (l ++ m) = makeI (m ++ l))) = true → (filI (makeI l) m true).length ≤ (4611686018427387904 : Nat)) ∧ ((decide (filI (makeI l) (makeI (m ++ k)) true = makeI (filI (makeI l) m true ++ filI (makeI l) k true)) && decide (makeI (l ++ filI (makeI m) k true) = filI (makeI (makeI (l ++ m))) (makeI (l ++ k)) true) && decide (makeI (l ++ makeI (m ++ k)) = makeI (makeI (l ++ m) ++ k)) && decide (makeI (l ++ m) = makeI (m ++ l)) && decide (filI (makeI l) m true = filI (makeI m) l true)) = true → l.length ≤ (1000000 : Nat) ∧ l.length ≤ (1000000 : Nat)) ∧ ((decide (filI (makeI l) (makeI (m ++ k)) true = makeI (filI (makeI l) m true ++ filI (makeI l) k true)) && decide (makeI (l ++ filI (makeI m) k true) = filI (makeI (makeI (l ++ m))) (makeI (l ++ k)) true) && decide (makeI (l ++ makeI (m ++ k)) = makeI (makeI (l ++ m) ++ k)) && decide (makeI (l ++ m) = makeI (m ++ l)) && decide (filI (makeI l) m true = filI (makeI m) l true)) = true → l.length ≤ (1000000 : Nat)) ∧ ((decide (filI (makeI l) (makeI (m ++ k)) true = makeI (filI (makeI l) m true ++ filI (makeI l) k true)) && decide (makeI (l ++ filI (makeI m) k true) = filI (makeI (makeI (l ++ m))) (makeI (l ++ k)) true) && decide (makeI (l ++ makeI (m ++ k)) = makeI (makeI (l ++ m) ++ k)) && decide (makeI (l ++ m) = makeI (m ++ l)) && decide (filI (makeI l) m true = filI (makeI m) l true)) = true → (filI (makeI l) l true).length ≤ (4611686018427387904 : Nat)) ∧ ((decide (filI (makeI l) (makeI (m ++ k)) true = makeI (filI (makeI l) m true ++ filI (makeI l) k true)) && decide (makeI (l ++ filI (makeI m) k true) = filI (makeI (makeI (l ++ m))) (makeI (l ++ k)) true) && decide (makeI (l ++ makeI (m ++ k)) = makeI (makeI (l ++ m) ++ k)) && decide (makeI (l ++ m) = makeI (m ++ l)) && decide (filI (makeI l) m true = filI (makeI m) l true) && decide (filI (makeI l) l true = makeI l)) = true → l.length ≤ (500000 : Nat) ∧ l.length ≤ (500000 : Nat)) ∧ ((decide (filI (makeI l) (makeI (m ++ k)) true = makeI (filI (makeI l) m true ++ filI (makeI l) k true)) && decide (makeI (l ++ filI (makeI m) k true) = filI (makeI (makeI (l ++ m))) (makeI (l ++ k)) true) && decide (makeI (l ++ makeI (m ++ k)) = makeI (makeI (l ++ m) ++ k)) && decide (makeI (l ++ m) = makeI (m ++ l)) && decide (filI (makeI l) m true = filI (makeI m) l true) && decide (filI (makeI l) l true = makeI l)) = true → l.length ≤ (1000000 : Nat)) ∧ ((decide (filI (makeI l) (makeI (m ++ k)) true = makeI (filI (makeI l) m true ++ filI (makeI l) k true)) && decide (makeI (l ++ filI (makeI m) k true) = filI (makeI (makeI (l ++ m))) (makeI (l ++ k)) true) && decide (makeI (l ++ makeI (m ++ k)) = makeI (makeI (l ++ m) ++ k)) && decide (makeI (l ++ m) = makeI (m ++ l)) && decide (filI (makeI l) m true = filI (makeI m) l true) && decide (filI (makeI l) l true = makeI l)) = true → (makeI (l ++ l)).length ≤ (4611686018427387904 : Nat)) ∧ ([] : List Go.Eng.Res) = [] ∧ Ent.one (SV.c (SC.v (Value.bool true))) = Ent.one (SV.c (SC.v (Value.bool (decide (filI (makeI l) (makeI (m ++ k)) true = makeI (filI (makeI l) m true ++ filI (makeI l) k true)) && decide (makeI (l ++ filI (makeI m) k true) = filI (makeI (makeI (l ++ m))) (makeI (l ++ k)) true) && decide (makeI (l ++ makeI (m ++ k)) = makeI (makeI (l ++ m) ++ k)) && decide (makeI (l ++ m) = makeI (m ++ l)) && decide (filI (makeI l) m true = filI (makeI m) l true) && decide (filI (makeI l) l true = makeI l) && decide (makeI (l ++ l) = makeI l))))) := by
  have hp : l.length ≤ 100 ∧ m.length ≤ 100 ∧ k.length ≤ 100 := hpre
  have b1 := make_len (m ++ k)
  have b2 := make_len (l ++ m)
  have b3 := make_len (l ++ k)
  have b4 := make_len l
  have b5 := make_len m
  have b6 := fil_len (makeI l) m true
  have b7 := fil_len (makeI l) k true
  have b8 := fil_len (makeI m) k true
  have b9 := fil_len (makeI l) (makeI (m ++ k)) true
  have c1 := make_len (l ++ filI (makeI m) k true)
  have c2 := make_len (l ++ makeI (m ++ k))
  have c3 := fil_len (makeI l) l true
  have c4 := make_len (l ++ l)
  simp only [List.length_append] at *
  refine ⟨?_, ?_, ?_, ?_, ?_, ?_, ?_, ?_, ?_, ?_, ?_, ?_, ?_, ?_, ?_, ?_, ?_, ?_, ?_, ?_, ?_, ?_, ?_, ?_, ?_, ?_, ?_, ?_, ?_, trivial, ?_⟩
  all_goals first
    | omega
    | (intro _; omega)
    | (rw [decide_eq_true (d1 l m k), decide_eq_true (d2 l m k), decide_eq_true (d3 l m k), decide_eq_true (d4 l m), decide_eq_true (d5 l m), decide_eq_true (d6 l), decide_eq_true (d7 l)]; rfl)
set_option maxRecDepth 100000 in
theorem f33_met : Go.Eng.Met Try.prog cx0.gd 33 ctDist :=
  met_of (cx := cx0) (n := 94) (cl := cl33) (by kernel_rfl) tis_ok ⟨f26_met, f28_met, f13_met, f17_met, trivial⟩ Try.func33 (by kernel_rfl) (by kernel_rfl) rfl (by kernel_rfl) (by kernel_rfl) fun d hd => by
    obtain ⟨l, m, k, ⟨⟩⟩ := d
    exact ⟨ann33 l m k, cast (by kernel_rfl) (f33_vc l m k hd)⟩
@[reducible] def ctL8 : CT := { ps := [.sl (.int .i64), .sl (.int .i64), .sl (.int .i64)], pre := fun d => True, res := fun d => ([], vB (true)) }
@[reducible] def cl8 : List (Nat × CT) := [(9, ctAw), (33, ctDist), (30, ctMin), (26, ctUn), (28, ctInt), (13, ctMake), (17, ct13), (15, ctSub), (14, ctV)]
@[reducible] def ann8 (l : List Int) (m : List Int) (k : List Int) : Nat → Option (St → Ann) := fun _ => none
set_option maxRecDepth 100000 in
theorem f8_vc (l : List Int) (m : List Int) (k : List Int) :
    br (decide ((100 : Int) < (↑l.length : Int)) || decide ((100 : Int) < (↑m.length : Int)) || decide ((100 : Int) < (↑k.length : Int))) (True ∧ ([] : List Go.Eng.Res) = [] ∧ Ent.one (SV.c (SC.v (Value.bool true))) = Ent.one (SV.c (SC.v (Value.bool true)))) ((l.length ≤ (1000000 : Nat) ∧ m.length ≤ (1000000 : Nat)) ∧ (l.length ≤ (1000000 : Nat) ∧ m.length ≤ (1000000 : Nat)) ∧ ((filI (makeI l) m false).length ≤ (1000000 : Nat) ∧ (filI (makeI l) m true).length ≤ (1000000 : Nat)) ∧ (decide ((↑(filI (makeI (filI (makeI l) m false)) (filI (makeI l) m true) true).length : Int) = (0 : Int)) = true → (filI (makeI l) m false).length ≤ (500000 : Nat) ∧ (filI (makeI l) m true).length ≤ (500000 : Nat)) ∧ (decide ((↑(filI (makeI (filI (makeI l) m false)) (filI (makeI l) m true) true).length : Int) = (0 : Int)) = true → l.length ≤ (1000000 : Nat)) ∧ (decide ((↑(filI (makeI (filI (makeI l) m false)) (filI (makeI l) m true) true).length : Int) = (0 : Int)) = true → (makeI (filI (makeI l) m false ++ filI (makeI l) m true)).length ≤ (4611686018427387904 : Nat)) ∧ (l.length ≤ (1000000 : Nat) ∧ m.length ≤ (1000000 : Nat)) ∧ (l.length ≤ (500000 : Nat) ∧ m.length ≤ (500000 : Nat)) ∧ m.length ≤ (1000000 : Nat) ∧ (makeI (l ++ m)).length ≤ (4611686018427387904 : Nat) ∧ True ∧ (true = true → l.length ≤ (100 : Nat) ∧ m.length ≤ (100 : Nat) ∧ k.length ≤ (100 : Nat)) ∧ ((true && (decide ((↑(filI (makeI (filI (makeI l) m false)) (filI (makeI l) m true) true).length : Int) = (0 : Int)) && decide (makeI (filI (makeI l) m false ++ filI (makeI l) m true) = makeI l)) && subI l m == decide (makeI (l ++ m) = makeI m)) = true → (filI (makeI l) m false).length ≤ (1000000 : Nat)) ∧ ((true && (decide ((↑(filI (makeI (filI (makeI l) m false)) (filI (makeI l) m true) true).length : Int) = (0 : Int)) && decide (makeI (filI (makeI l) m false ++ filI (makeI l) m true) = makeI l)) && subI l m == decide (makeI (l ++ m) = makeI m) && validI (filI (makeI l) m false)) = true → (filI (makeI l) m true).length ≤ (1000000 : Nat)) ∧ ([] : List Go.Eng.Res) = [] ∧ Ent.one (SV.c (SC.v (Value.bool true))) = Ent.one (SV.c (SC.v (Value.bool (true && (decide ((↑(filI (makeI (filI (makeI l) m false)) (filI (makeI l) m true) true).length : Int) = (0 : Int)) && decide (makeI (filI (makeI l) m false ++ filI (makeI l) m true) = makeI l)) && subI l m == decide (makeI (l ++ m) = makeI m) && validI (filI (makeI l) m false) && validI (filI (makeI l) m true)))))) := by
  refine br_iff.2 ⟨fun _ => ⟨trivial, rfl, rfl⟩, fun h => ?_⟩
  simp only [Bool.or_eq_false_iff, decide_eq_false_iff_not] at h
  have b2 := make_len (l ++ m)
  have b4 := make_len l
  have b6 := fil_len (makeI l) m true
  have b7 := fil_len (makeI l) m false
  have c1 := make_len (filI (makeI l) m false ++ filI (makeI l) m true)
  simp only [List.length_append] at *
  have e1 := a1 l m
  have e2 := decide_eq_true (a2 l m)
  have e3 := a3 l m
  have e4 := valid_of (fil_ss (o := m) (b := false) (make_ss l))
  have e5 := valid_of (fil_ss (o := m) (b := true) (make_ss l))
  refine ⟨?_, ?_, ?_, ?_, ?_, ?_, ?_, ?_, ?_, ?_, trivial, ?_, ?_, ?_, trivial, ?_⟩
  all_goals first
    | omega
    | (intro _; omega)
    | (rw [e1, e2, e4, e5, ← e3]; simp)
set_option maxRecDepth 100000 in
theorem f8_met : Go.Eng.Met Try.prog cx0.gd 8 ctL8 :=
  met_of (cx := cx0) (n := 75) (cl := cl8) (by kernel_rfl) tis_ok ⟨f9_met, f33_met, f30_met, f26_met, f28_met, f13_met, f17_met, f15_met, f14_met, trivial⟩ Try.func8 (by kernel_rfl) (by kernel_rfl) rfl (by kernel_rfl) (by kernel_rfl) fun d hd => by
    obtain ⟨l, m, k, ⟨⟩⟩ := d
    exact ⟨ann8 l m k, cast (by kernel_rfl) (f8_vc l m k)⟩
end Go.Proofs.Ytkndekaioeifdaa
