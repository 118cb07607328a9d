/- The sets chapter, part 8: the law of the power set. -/
import Derived.Test.YtkndekaioeifdaaPV7
set_option linter.unusedSimpArgs false
set_option linter.unusedVariables false
set_option maxRecDepth 100000
namespace Go.Proofs.Ytkndekaioeifdaa
open Go Go.Eng

theorem less_of : ∀ x y : List Int, x.length = y.length → lexI x y < 0 → lessI x y = true
  | [], [], _, h => by simp [lexI] at h
  | [], _ :: _, h, _ => by simp at h
  | _ :: _, [], h, _ => by simp at h
  | a :: x, b :: y, h, k => by
    have hl : x.length = y.length := by simpa using h
    unfold lessI
    unfold lexI at k
    by_cases hab : a = b
    · subst hab
      rw [if_neg (by simp)]
      exact less_of x y hl (by simpa using k)
    · rw [if_pos hab]
      by_cases hlt : a < b
      · simp [hlt]
      · exfalso
        have : ¬ a < b := hlt
        have : b < a := by omega
        simp [this, hlt] at k
theorem pw1 {l : List Int} (h : 12 < (makeI l).length) : errI l = 4 ∧ subsI l = [] := by simp [errI, subsI, h]
theorem pw2 {l : List Int} (h : ¬ 12 < (makeI l).length) : errI l = 0 ∧ (subsI l).length = 2 ^ (makeI l).length := by
  refine ⟨by simp [errI, h], ?_⟩
  rw [subs_eq, rsubsI, if_neg h, levs_len (make_ss l)]
theorem pw3 (l : List Int) : ∀ x ∈ subsI l, x.length ≤ 12 ∧ validI x = true ∧ subI x l = true := by
  intro x hx
  refine ⟨(subs_len l).2 x hx, ?_⟩
  rw [subs_eq, rsubsI] at hx
  split at hx
  · cases hx
  · obtain ⟨_, h1, h2⟩ := levs_mem.1 hx
    exact ⟨valid_of h1, sub_iff.2 fun y hy => make_mem.1 (h2 y hy)⟩
theorem pw4 {l : List Int} {i : Nat} {x y : List Int} (hx : (subsI l)[i]? = some x) (hy : (subsI l)[i + 1]? = some y) : ¬ y.length < x.length ∧ (y.length = x.length → lessI x y = true) := by
  have cs : CS (subsI l) := by
    rw [subs_eq, rsubsI]
    split
    · exact List.Pairwise.nil
    · exact levs_cs (make_ss l) _
  obtain ⟨h1, e1⟩ := List.getElem?_eq_some_iff.1 hx
  obtain ⟨h2, e2⟩ := List.getElem?_eq_some_iff.1 hy
  have hc : cmpI x y < 0 := by
    rw [← e1, ← e2]
    exact (List.pairwise_iff_getElem.1 cs) i (i + 1) h1 h2 (by omega)
  refine ⟨fun hlt => ?_, fun he => less_of x y he.symm (by rwa [cmp_lex he.symm] at hc)⟩
  unfold cmpI at hc
  rw [if_neg (by omega), if_pos hlt] at hc
  omega
@[reducible] def ctL4 : CT := { ps := [.sl (.int .i64)], pre := fun d => True, res := fun d => ([], vB (true)) }
@[reducible] def cl4 : List (Nat × CT) := [(9, ctAw), (10, ctSubs), (13, ctMake), (14, ctV), (15, ctSub), (16, ctLess)]
@[reducible] def ann4 (l : List Int) : Nat → Option (St → Ann) := fun k => match k with
  | 9 => some fun _ => .inv { α := Nat, slots := fun k => [(7, .c (.v (.int .i64 k))), (6, .c (.v (.int .i64 ((2 ^ k : Nat) : Int))))], res := fun _ => [], inv := fun k => k ≤ (makeI l).length, meas := fun k => (makeI l).length - k }
  | 15 => some fun _ => .inv { α := Nat, slots := fun k => [(8, .c (.v (.int .i64 k)))], res := fun _ => [], inv := fun k => k ≤ (subsI l).length, meas := fun k => (subsI l).length - k }
  | _ => none
set_option maxRecDepth 100000 in
theorem f4_vc (l : List Int) :
    br (decide ((30 : Int) < (↑l.length : Int))) (True ∧ ([] : List Go.Eng.Res) = [] ∧ Ent.one (SV.c (SC.v (Value.bool true))) = Ent.one (SV.c (SC.v (Value.bool true)))) (l.length ≤ (1000000 : Nat) ∧ l.length ≤ (1000000 : Nat) ∧ br (decide ((12 : Int) < (↑(makeI l).length : Int))) (True ∧ ([] : List Go.Eng.Res) = [] ∧ Ent.one (SV.c (SC.v (Value.bool true))) = Ent.one (SV.c (SC.v (Value.bool (true && decide (errI l = (4 : Int)) && decide ((↑(subsI l).length : Int) = (0 : Int))))))) ((∃ x, x ≤ (makeI l).length ∧ (SV.c (SC.v (Value.int IntKind.i64 (0 : Int))) = SV.c (SC.v (Value.int IntKind.i64 (↑x : Int))) ∧ SV.c (SC.v (Value.int IntKind.i64 (1 : Int))) = SV.c (SC.v (Value.int IntKind.i64 (↑((2 : Nat) ^ x) : Int))) ∧ True) ∧ [(([] : Go.Eng.Gd), Res.row (22 : TypeId) (Sh.int IntKind.i64).sl (subsI l)), (([] : Go.Eng.Gd), Res.row (3 : TypeId) (Sh.int IntKind.i64) (makeI l))] = [(([] : Go.Eng.Gd), Res.row (22 : TypeId) (Sh.int IntKind.i64).sl (subsI l)), (([] : Go.Eng.Gd), Res.row (3 : TypeId) (Sh.int IntKind.i64) (makeI l))]) ∧ ∀ (x : Nat), x ≤ (makeI l).length → br (decide ((↑x : Int) < (↑(makeI l).length : Int))) (InR IntKind.i64 ((2 : Int) * (↑((2 : Nat) ^ x) : Int)) ∧ InR IntKind.i64 ((↑x : Int) + (1 : Int)) ∧ ∃ x', x' ≤ (makeI l).length ∧ (SV.c (SC.v (Value.int IntKind.i64 ((↑x : Int) + (1 : Int)))) = SV.c (SC.v (Value.int IntKind.i64 (↑x' : Int))) ∧ SV.c (SC.v (Value.int IntKind.i64 ((2 : Int) * (↑((2 : Nat) ^ x) : Int)))) = SV.c (SC.v (Value.int IntKind.i64 (↑((2 : Nat) ^ x') : Int))) ∧ True) ∧ [(([] : Go.Eng.Gd), Res.row (22 : TypeId) (Sh.int IntKind.i64).sl (subsI l)), (([] : Go.Eng.Gd), Res.row (3 : TypeId) (Sh.int IntKind.i64) (makeI l))] = [(([] : Go.Eng.Gd), Res.row (22 : TypeId) (Sh.int IntKind.i64).sl (subsI l)), (([] : Go.Eng.Gd), Res.row (3 : TypeId) (Sh.int IntKind.i64) (makeI l))] ∧ (makeI l).length - x' < (makeI l).length - x) (br (!decide (errI l = (0 : Int)) || !decide ((↑(subsI l).length : Int) = (↑((2 : Nat) ^ x) : Int))) (([] : List Go.Eng.Res) = [] ∧ Ent.one (SV.c (SC.v (Value.bool true))) = Ent.one (SV.c (SC.v (Value.bool false)))) ((∃ x, x ≤ (subsI l).length ∧ (SV.c (SC.v (Value.int IntKind.i64 (0 : Int))) = SV.c (SC.v (Value.int IntKind.i64 (↑x : Int))) ∧ True) ∧ [(([] : Go.Eng.Gd), Res.row (22 : TypeId) (Sh.int IntKind.i64).sl (subsI l)), (([] : Go.Eng.Gd), Res.row (3 : TypeId) (Sh.int IntKind.i64) (makeI l))] = [(([] : Go.Eng.Gd), Res.row (22 : TypeId) (Sh.int IntKind.i64).sl (subsI l)), (([] : Go.Eng.Gd), Res.row (3 : TypeId) (Sh.int IntKind.i64) (makeI l))]) ∧ ∀ (x : Nat), x ≤ (subsI l).length → br (decide ((↑x : Int) < (↑(subsI l).length : Int))) (((0 : Int) ≤ (↑x : Int) ∧ (↑x : Int) < (↑(subsI l).length : Int)) ∧ (↑x : Int).toNat < (subsI l).length ∧ ∀ (d : List (Sh.int IntKind.i64).den), (subsI l)[(↑x : Int).toNat]? = some d → d.length ≤ (1000000 : Nat) ∧ ((!!validI d) = true → (0 : Int) ≤ (↑x : Int) ∧ (↑x : Int) < (↑(subsI l).length : Int)) ∧ ((!!validI d) = true → (↑x : Int).toNat < (subsI l).length) ∧ ∀ (d_1 : List (Sh.int IntKind.i64).den), ((!!validI d) = true → (subsI l)[(↑x : Int).toNat]? = some d_1) → ((!!validI d) = true → d_1.length ≤ (1000000 : Nat) ∧ l.length ≤ (1000000 : Nat)) ∧ br (!validI d || !subI d_1 l) (([] : List Go.Eng.Res) = [] ∧ Ent.one (SV.c (SC.v (Value.bool true))) = Ent.one (SV.c (SC.v (Value.bool false)))) ((decide ((0 : Int) < (↑x : Int)) = true → (0 : Int) ≤ (↑x : Int) ∧ (↑x : Int) < (↑(subsI l).length : Int)) ∧ (decide ((0 : Int) < (↑x : Int)) = true → (↑x : Int).toNat < (subsI l).length) ∧ ∀ (d : List (Sh.int IntKind.i64).den), (decide ((0 : Int) < (↑x : Int)) = true → (subsI l)[(↑x : Int).toNat]? = some d) → (decide ((0 : Int) < (↑x : Int)) = true → InR IntKind.i64 ((↑x : Int) - (1 : Int))) ∧ (decide ((0 : Int) < (↑x : Int)) = true → (0 : Int) ≤ (↑x : Int) - (1 : Int) ∧ (↑x : Int) - (1 : Int) < (↑(subsI l).length : Int)) ∧ (decide ((0 : Int) < (↑x : Int)) = true → ((↑x : Int) - (1 : Int)).toNat < (subsI l).length) ∧ ∀ (d_2 : List (Sh.int IntKind.i64).den), (decide ((0 : Int) < (↑x : Int)) = true → (subsI l)[((↑x : Int) - (1 : Int)).toNat]? = some d_2) → ((!decide ((↑d.length : Int) < (↑d_2.length : Int)) && decide ((0 : Int) < (↑x : Int))) = true → (0 : Int) ≤ (↑x : Int) ∧ (↑x : Int) < (↑(subsI l).length : Int)) ∧ ((!decide ((↑d.length : Int) < (↑d_2.length : Int)) && decide ((0 : Int) < (↑x : Int))) = true → (↑x : Int).toNat < (subsI l).length) ∧ ∀ (d_3 : List (Sh.int IntKind.i64).den), ((!decide ((↑d.length : Int) < (↑d_2.length : Int)) && decide ((0 : Int) < (↑x : Int))) = true → (subsI l)[(↑x : Int).toNat]? = some d_3) → ((!decide ((↑d.length : Int) < (↑d_2.length : Int)) && decide ((0 : Int) < (↑x : Int))) = true → InR IntKind.i64 ((↑x : Int) - (1 : Int))) ∧ ((!decide ((↑d.length : Int) < (↑d_2.length : Int)) && decide ((0 : Int) < (↑x : Int))) = true → (0 : Int) ≤ (↑x : Int) - (1 : Int) ∧ (↑x : Int) - (1 : Int) < (↑(subsI l).length : Int)) ∧ ((!decide ((↑d.length : Int) < (↑d_2.length : Int)) && decide ((0 : Int) < (↑x : Int))) = true → ((↑x : Int) - (1 : Int)).toNat < (subsI l).length) ∧ ∀ (d_4 : List (Sh.int IntKind.i64).den), ((!decide ((↑d.length : Int) < (↑d_2.length : Int)) && decide ((0 : Int) < (↑x : Int))) = true → (subsI l)[((↑x : Int) - (1 : Int)).toNat]? = some d_4) → ((decide ((↑d_3.length : Int) = (↑d_4.length : Int)) && (!decide ((↑d.length : Int) < (↑d_2.length : Int)) && decide ((0 : Int) < (↑x : Int)))) = true → InR IntKind.i64 ((↑x : Int) - (1 : Int))) ∧ ((decide ((↑d_3.length : Int) = (↑d_4.length : Int)) && (!decide ((↑d.length : Int) < (↑d_2.length : Int)) && decide ((0 : Int) < (↑x : Int)))) = true → (0 : Int) ≤ (↑x : Int) - (1 : Int) ∧ (↑x : Int) - (1 : Int) < (↑(subsI l).length : Int)) ∧ ((decide ((↑d_3.length : Int) = (↑d_4.length : Int)) && (!decide ((↑d.length : Int) < (↑d_2.length : Int)) && decide ((0 : Int) < (↑x : Int)))) = true → ((↑x : Int) - (1 : Int)).toNat < (subsI l).length) ∧ ∀ (d_5 : List (Sh.int IntKind.i64).den), ((decide ((↑d_3.length : Int) = (↑d_4.length : Int)) && (!decide ((↑d.length : Int) < (↑d_2.length : Int)) && decide ((0 : Int) < (↑x : Int)))) = true → (subsI l)[((↑x : Int) - (1 : Int)).toNat]? = some d_5) → ((decide ((↑d_3.length : Int) = (↑d_4.length : Int)) && (!decide ((↑d.length : Int) < (↑d_2.length : Int)) && decide ((0 : Int) < (↑x : Int)))) = true → (0 : Int) ≤ (↑x : Int) ∧ (↑x : Int) < (↑(subsI l).length : Int)) ∧ ((decide ((↑d_3.length : Int) = (↑d_4.length : Int)) && (!decide ((↑d.length : Int) < (↑d_2.length : Int)) && decide ((0 : Int) < (↑x : Int)))) = true → (↑x : Int).toNat < (subsI l).length) ∧ ∀ (d_6 : List (Sh.int IntKind.i64).den), ((decide ((↑d_3.length : Int) = (↑d_4.length : Int)) && (!decide ((↑d.length : Int) < (↑d_2.length : Int)) && decide ((0 : Int) < (↑x : Int)))) = true → (subsI l)[(↑x : Int).toNat]? = some d_6) → ((decide ((↑d_3.length : Int) = (↑d_4.length : Int)) && (!decide ((↑d.length : Int) < (↑d_2.length : Int)) && decide ((0 : Int) < (↑x : Int)))) = true → d_5.length ≤ (1000000 : Nat) ∧ d_6.length ≤ (1000000 : Nat)) ∧ br (decide ((0 : Int) < (↑x : Int)) && (decide ((↑d.length : Int) < (↑d_2.length : Int)) || decide ((↑d_3.length : Int) = (↑d_4.length : Int)) && !lessI d_5 d_6)) (([] : List Go.Eng.Res) = [] ∧ Ent.one (SV.c (SC.v (Value.bool true))) = Ent.one (SV.c (SC.v (Value.bool false)))) (InR IntKind.i64 ((↑x : Int) + (1 : Int)) ∧ ∃ x', x' ≤ (subsI l).length ∧ (SV.c (SC.v (Value.int IntKind.i64 ((↑x : Int) + (1 : Int)))) = SV.c (SC.v (Value.int IntKind.i64 (↑x' : Int))) ∧ True) ∧ [(([] : Go.Eng.Gd), Res.row (22 : TypeId) (Sh.int IntKind.i64).sl (subsI l)), (([] : Go.Eng.Gd), Res.row (3 : TypeId) (Sh.int IntKind.i64) (makeI l))] = [(([] : Go.Eng.Gd), Res.row (22 : TypeId) (Sh.int IntKind.i64).sl (subsI l)), (([] : Go.Eng.Gd), Res.row (3 : TypeId) (Sh.int IntKind.i64) (makeI l))] ∧ (subsI l).length - x' < (subsI l).length - x))) (True ∧ ([] : List Go.Eng.Res) = [] ∧ Ent.one (SV.c (SC.v (Value.bool true))) = Ent.one (SV.c (SC.v (Value.bool true)))))))) := by
  have hp1 := @pw1 l
  have hp2 := @pw2 l
  have hp3 := pw3 l
  have hp4 := @pw4 l
  have hs := (subs_len l).1
  refine br_iff.2 ⟨fun h => ⟨trivial, rfl, rfl⟩, fun h => ?_⟩
  simp only [decide_eq_false_iff_not] at h
  have hl : l.length ≤ 30 := by omega
  refine ⟨by omega, by omega, br_iff.2 ⟨fun h1 => ?_, fun h1 => ?_⟩⟩
  · simp only [decide_eq_true_eq] at h1
    obtain ⟨e1, e2⟩ := hp1 (by omega)
    rw [e1, e2]; exact ⟨trivial, rfl, rfl⟩
  simp only [decide_eq_false_iff_not] at h1
  have hn : ¬ 12 < (makeI l).length := by omega
  obtain ⟨e1, e2⟩ := hp2 hn
  refine ⟨⟨0, by omega, ⟨rfl, rfl, trivial⟩, rfl⟩, fun k hk => br_iff.2 ⟨fun h2 => ?_, fun h2 => ?_⟩⟩
  · simp only [decide_eq_true_eq] at h2
    have hq := pow_le (n := k) (by omega)
    refine ⟨?_, InR_i64.2 (by omega), k + 1, by omega, ⟨rfl, ?_, trivial⟩, rfl, by omega⟩
    · generalize (2 : Nat) ^ k = z at hq ⊢
      exact InR_i64.2 (by omega)
    · rw [Nat.pow_succ]
      generalize (2 : Nat) ^ k = z
      congr 3
      omega
  simp only [decide_eq_false_iff_not] at h2
  have hk : k = (makeI l).length := by omega
  subst hk
  refine br_iff.2 ⟨fun h3 => (by rw [e1, e2] at h3; simp at h3), fun _ => ⟨⟨0, by omega, ⟨rfl, trivial⟩, rfl⟩, fun x hx => br_iff.2 ⟨fun h4 => ?_, fun _ => ⟨trivial, rfl, rfl⟩⟩⟩⟩
  simp only [decide_eq_true_eq] at h4
  have hxl : x < (subsI l).length := by omega
  obtain ⟨e, he⟩ : ∃ e, (subsI l)[x]? = some e := ⟨_, List.getElem?_eq_getElem hxl⟩
  obtain ⟨g1, g2, g3⟩ := hp3 e (List.mem_of_getElem? he)
  have hN : (↑x : Int).toNat = x := by omega
  rw [hN]
  refine ⟨by omega, by omega, fun d hd => ?_⟩
  rw [he] at hd; cases hd
  refine ⟨by omega, fun _ => by omega, fun _ => by omega, fun d1 hd1 => ?_⟩
  have hd1 := hd1 (by rw [g2]; rfl)
  rw [he] at hd1; cases hd1
  refine ⟨fun _ => by omega, br_iff.2 ⟨fun h5 => (by rw [g2, g3] at h5; cases h5), fun _ => ?_⟩⟩
  have fin : InR IntKind.i64 ((↑x : Int) + 1) ∧ ∃ x', x' ≤ (subsI l).length ∧ (SV.c (SC.v (Value.int IntKind.i64 ((↑x : Int) + 1))) = SV.c (SC.v (Value.int IntKind.i64 (↑x' : Int))) ∧ True) ∧
      [(([] : Gd), Res.row (22 : TypeId) (Sh.int IntKind.i64).sl (subsI l)), ([], Res.row (3 : TypeId) (Sh.int IntKind.i64) (makeI l))] = [([], Res.row (22 : TypeId) (Sh.int IntKind.i64).sl (subsI l)), ([], Res.row (3 : TypeId) (Sh.int IntKind.i64) (makeI l))] ∧ (subsI l).length - x' < (subsI l).length - x :=
    ⟨InR_i64.2 (by omega), x + 1, by omega, ⟨rfl, trivial⟩, rfl, by omega⟩
  obtain ⟨G, hG, finG⟩ : ∃ G : Prop, G = _ ∧ G := ⟨_, rfl, fin⟩
  rw [← hG]
  clear hG fin
  by_cases h0 : x = 0
  · have hb : decide ((0 : Int) < (↑x : Int)) = false := by simp [h0]
    simp only [hb, Bool.and_false, Bool.false_and, Bool.false_eq_true, false_imp_iff, true_and, forall_const, br]
    intros
    exact finG
  obtain ⟨y, rfl⟩ : ∃ y, x = y + 1 := ⟨x - 1, by omega⟩
  obtain ⟨p, hp⟩ : ∃ p, (subsI l)[y]? = some p := ⟨_, List.getElem?_eq_getElem (by omega)⟩
  obtain ⟨q1, q2, q3⟩ := hp3 p (List.mem_of_getElem? hp)
  obtain ⟨c1, c2⟩ := hp4 hp he
  have hM : ((↑(y + 1) : Int) - 1).toNat = y := by omega
  have hb : decide ((0 : Int) < (↑(y + 1) : Int)) = true := decide_eq_true (by omega)
  simp only [hM, hb, Bool.and_true, true_imp_iff]
  refine ⟨by omega, by omega, fun d hd => ?_⟩
  rw [he] at hd; cases hd
  refine ⟨InR_i64.2 (by omega), by omega, by omega, fun d2 hd2 => ?_⟩
  rw [hp] at hd2; cases hd2
  have hc : (!decide ((↑e.length : Int) < (↑p.length : Int))) = true := by simp; omega
  simp only [hc, Bool.and_true, true_imp_iff]
  refine ⟨by omega, by omega, fun d3 hd3 => ?_⟩
  rw [he] at hd3; cases hd3
  refine ⟨InR_i64.2 (by omega), by omega, by omega, fun d4 hd4 => ?_⟩
  rw [hp] at hd4; cases hd4
  refine ⟨fun _ => InR_i64.2 (by omega), fun _ => by omega, fun _ => by omega, fun d5 hd5 => ⟨fun _ => by omega, fun _ => by omega, fun d6 hd6 => ?_⟩⟩
  by_cases hq : e.length = p.length
  · have hqq : decide ((↑e.length : Int) = (↑p.length : Int)) = true := by simp; omega
    have hd5 := hd5 hqq
    have hd6 := hd6 hqq
    rw [hp] at hd5; cases hd5
    rw [he] at hd6; cases hd6
    refine ⟨fun _ => by omega, br_iff.2 ⟨fun h5 => ?_, fun _ => finG⟩⟩
    rw [c2 hq] at h5
    simp at h5
    omega
  · have hqq : decide ((↑e.length : Int) = (↑p.length : Int)) = false := by simp; omega
    refine ⟨fun hh => (by rw [hqq] at hh; cases hh), br_iff.2 ⟨fun h5 => ?_, fun _ => finG⟩⟩
    rw [hqq] at h5
    simp at h5
    omega
set_option maxRecDepth 100000 in
theorem f4_met : Go.Eng.Met Try.prog cx0.gd 4 ctL4 :=
  met_of (cx := cx0) (n := 113) (cl := cl4) (by kernel_rfl) tis_ok ⟨f9_met, f10_met, f13_met, f14_met, f15_met, f16_met, trivial⟩ Try.func4 (by kernel_rfl) (by kernel_rfl) rfl (by kernel_rfl) (by kernel_rfl) fun d hd => by
    obtain ⟨l, ⟨⟩⟩ := d
    exact ⟨ann4 l, cast (by kernel_rfl) (f4_vc l)⟩
end Go.Proofs.Ytkndekaioeifdaa
