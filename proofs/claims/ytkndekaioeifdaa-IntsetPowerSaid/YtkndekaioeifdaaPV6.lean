/- The sets chapter, part 6: the reference of subsets. -/
import Derived.Test.YtkndekaioeifdaaPK3
import Derived.Test.YtkndekaioeifdaaPV5
set_option linter.unusedSimpArgs false
set_option linter.unusedVariables false
set_option maxRecDepth 100000
namespace Go.Proofs.Ytkndekaioeifdaa
open Go Go.Eng

@[reducible] def slotM (s : St) (i : Nat) : Nat := match lkE s.env i with | some ([], .one (.c (.v (.int .i64 z)))) => z.toNat | _ => 0
@[reducible] def ctGro : CT := { ps := [.sl (.sl (.int .i64)), .sl (.int .i64)], pre := fun d => d.1.length ≤ 1000000 ∧ d.2.1.length ≤ 1000000 ∧ ∀ x ∈ d.1, x.length ≤ 1000000, res := fun d => ([], .one (.c (.sl (.sl (.int .i64)) (growI d.1 d.2.1)))) }
@[reducible] def cl39 : List (Nat × CT) := []
@[reducible] def il39 : List (Nat × IP) := []
@[reducible] def ann39 (l : List (List Int)) (s : List Int) : Nat → Option (St → Ann) := fun k => match k with
  | 3 => some fun _ => .inv { α := Nat, slots := fun k => [(6, .c (.v (.int .i64 k))), (5, .c (.row 0))], res := fun k => [(0, .row 22 (.sl (.int .i64)) (growI (l.take k) s))], inv := fun k => k ≤ l.length, meas := fun k => l.length - k, drop := [9] }
  | 6 => some fun w => .inv { α := Nat, slots := fun j => [(7, .c (.v (.int .i64 j))), (5, .c (.row 0))], res := fun j => [(0, .row 22 (.sl (.int .i64)) (growI (l.take (slotM w 6)) s ++ gstep (l[slotM w 6]?.getD []) (s.take j)))], inv := fun j => j ≤ s.length, meas := fun j => s.length - j }
  | _ => none
set_option maxRecDepth 100000 in
theorem f39_vc (l : List (List Int)) (s : List Int) (hpre : ctGro.pre (l, s, ())) :
    (∃ x, x ≤ l.length ∧ (SV.c (SC.v (Value.int IntKind.i64 (0 : Int))) = SV.c (SC.v (Value.int IntKind.i64 (↑x : Int))) ∧ SV.c (SC.row (0 : Nat)) = SV.c (SC.row (0 : Nat)) ∧ True) ∧ [(([] : Go.Eng.Gd), Res.row (22 : TypeId) (Sh.int IntKind.i64).sl [])] = [(([] : Go.Eng.Gd), Res.row (22 : TypeId) (Sh.int IntKind.i64).sl (growI (List.take x l) s))]) ∧ ∀ (x : Nat), x ≤ l.length → br (decide ((↑x : Int) < (↑l.length : Int))) ((∃ x_1, x_1 ≤ s.length ∧ (SV.c (SC.v (Value.int IntKind.i64 (0 : Int))) = SV.c (SC.v (Value.int IntKind.i64 (↑x_1 : Int))) ∧ SV.c (SC.row (0 : Nat)) = SV.c (SC.row (0 : Nat)) ∧ True) ∧ [(([] : Go.Eng.Gd), Res.row (22 : TypeId) (Sh.int IntKind.i64).sl (growI (List.take x l) s))] = [(([] : Go.Eng.Gd), Res.row (22 : TypeId) (Sh.int IntKind.i64).sl (growI (List.take (↑x : Int).toNat l) s ++ gstep (l[(↑x : Int).toNat]?.getD []) (List.take x_1 s)))]) ∧ ∀ (x_1 : Nat), x_1 ≤ s.length → br (decide ((↑x_1 : Int) < (↑s.length : Int))) (((0 : Int) ≤ (↑x : Int) ∧ (↑x : Int) < (↑l.length : Int)) ∧ ∀ (d : List (Sh.int IntKind.i64).den), l[(↑x : Int).toNat]? = some d → ((!decide ((↑d.length : Int) = (0 : Int))) = true → (0 : Int) ≤ (↑x_1 : Int) ∧ (↑x_1 : Int) < (↑s.length : Int)) ∧ ∀ (d_1 : Int), ((!decide ((↑d.length : Int) = (0 : Int))) = true → s[(↑x_1 : Int).toNat]? = some d_1) → ((!decide ((↑d.length : Int) = (0 : Int))) = true → (0 : Int) ≤ (↑x : Int) ∧ (↑x : Int) < (↑l.length : Int)) ∧ ∀ (d_2 : List (Sh.int IntKind.i64).den), ((!decide ((↑d.length : Int) = (0 : Int))) = true → l[(↑x : Int).toNat]? = some d_2) → ((!decide ((↑d.length : Int) = (0 : Int))) = true → (0 : Int) ≤ (↑x : Int) ∧ (↑x : Int) < (↑l.length : Int)) ∧ ∀ (d_3 : List (Sh.int IntKind.i64).den), ((!decide ((↑d.length : Int) = (0 : Int))) = true → l[(↑x : Int).toNat]? = some d_3) → ((!decide ((↑d.length : Int) = (0 : Int))) = true → InR IntKind.i64 ((↑d_3.length : Int) - (1 : Int))) ∧ ((!decide ((↑d.length : Int) = (0 : Int))) = true → (0 : Int) ≤ (↑d_3.length : Int) - (1 : Int) ∧ (↑d_3.length : Int) - (1 : Int) < (↑d_2.length : Int)) ∧ ∀ (d_4 : Int), ((!decide ((↑d.length : Int) = (0 : Int))) = true → d_2[((↑d_3.length : Int) - (1 : Int)).toNat]? = some d_4) → br (decide ((↑d.length : Int) = (0 : Int)) || decide (d_4 < d_1)) (((0 : Int) ≤ (↑x : Int) ∧ (↑x : Int) < (↑l.length : Int)) ∧ ∀ (d : List (Sh.int IntKind.i64).den), l[(↑x : Int).toNat]? = some d → InA ((0 : Nat) + List.length (d)) (8 : Nat) ∧ ((0 : Int) ≤ (↑x_1 : Int) ∧ (↑x_1 : Int) < (↑s.length : Int)) ∧ ∀ (d_5 : Int), s[(↑x_1 : Int).toNat]? = some d_5 → InA (List.length (([] ++ d)) + List.length ([d_5])) (8 : Nat) ∧ InA (List.length ((growI (List.take (↑x : Int).toNat l) s ++ gstep (l[(↑x : Int).toNat]?.getD []) (List.take x_1 s))) + List.length ([(([] ++ d) ++ [d_5])])) (24 : Nat) ∧ InR IntKind.i64 ((↑x_1 : Int) + (1 : Int)) ∧ ∃ x', x' ≤ s.length ∧ (SV.c (SC.v (Value.int IntKind.i64 ((↑x_1 : Int) + (1 : Int)))) = SV.c (SC.v (Value.int IntKind.i64 (↑x' : Int))) ∧ SV.c (SC.row (0 : Nat)) = SV.c (SC.row (0 : Nat)) ∧ True) ∧ [(([] : Go.Eng.Gd), Res.row (22 : TypeId) (Sh.int IntKind.i64).sl ((growI (List.take (↑x : Int).toNat l) s ++ gstep (l[(↑x : Int).toNat]?.getD []) (List.take x_1 s)) ++ [(([] ++ d) ++ [d_5])]))] = [(([] : Go.Eng.Gd), Res.row (22 : TypeId) (Sh.int IntKind.i64).sl (growI (List.take (↑x : Int).toNat l) s ++ gstep (l[(↑x : Int).toNat]?.getD []) (List.take x' s)))] ∧ s.length - x' < s.length - x_1) (InR IntKind.i64 ((↑x_1 : Int) + (1 : Int)) ∧ ∃ x', x' ≤ s.length ∧ (SV.c (SC.v (Value.int IntKind.i64 ((↑x_1 : Int) + (1 : Int)))) = SV.c (SC.v (Value.int IntKind.i64 (↑x' : Int))) ∧ SV.c (SC.row (0 : Nat)) = SV.c (SC.row (0 : Nat)) ∧ True) ∧ [(([] : Go.Eng.Gd), Res.row (22 : TypeId) (Sh.int IntKind.i64).sl (growI (List.take (↑x : Int).toNat l) s ++ gstep (l[(↑x : Int).toNat]?.getD []) (List.take x_1 s)))] = [(([] : Go.Eng.Gd), Res.row (22 : TypeId) (Sh.int IntKind.i64).sl (growI (List.take (↑x : Int).toNat l) s ++ gstep (l[(↑x : Int).toNat]?.getD []) (List.take x' s)))] ∧ s.length - x' < s.length - x_1)) (InR IntKind.i64 ((↑x : Int) + (1 : Int)) ∧ ∃ x', x' ≤ l.length ∧ (SV.c (SC.v (Value.int IntKind.i64 ((↑x : Int) + (1 : Int)))) = SV.c (SC.v (Value.int IntKind.i64 (↑x' : Int))) ∧ SV.c (SC.row (0 : Nat)) = SV.c (SC.row (0 : Nat)) ∧ True) ∧ [(([] : Go.Eng.Gd), Res.row (22 : TypeId) (Sh.int IntKind.i64).sl (growI (List.take (↑x : Int).toNat l) s ++ gstep (l[(↑x : Int).toNat]?.getD []) (List.take x_1 s)))] = [(([] : Go.Eng.Gd), Res.row (22 : TypeId) (Sh.int IntKind.i64).sl (growI (List.take x' l) s))] ∧ l.length - x' < l.length - x)) (([] : List Go.Eng.Res) = [] ∧ Ent.one (SV.c (SC.sl (Sh.int IntKind.i64).sl (growI l s))) = Ent.one (SV.c (SC.sl (Sh.int IntKind.i64).sl (growI (List.take x l) s)))) := by
  have hp : l.length ≤ 1000000 ∧ s.length ≤ 1000000 ∧ ∀ x ∈ l, x.length ≤ 1000000 := hpre
  have hmul : l.length * s.length ≤ 1000000 * 1000000 := Nat.mul_le_mul hp.1 hp.2.1
  have hg : ∀ k j d, l[k]? = some d → (growI (l.take k) s ++ gstep d (s.take j)).length ≤ 1000001000000 := fun k j d hd => by
    have h1 := grow_len (l.take k) s
    have h2 := gstep_len d (s.take j)
    have h3 : (l.take k).length * s.length ≤ l.length * s.length := Nat.mul_le_mul_right _ (by rw [List.length_take]; omega)
    rw [List.length_take] at h2
    rw [List.length_append]; omega
  refine ⟨⟨0, by omega, ⟨rfl, rfl, trivial⟩, by simp [growI]⟩, fun k hk => br_iff.2 ⟨fun h => ?_, fun h => ?_⟩⟩
  · simp only [decide_eq_true_eq] at h
    obtain ⟨d, hd⟩ := get_of (l := l) (j := k) (by omega)
    have ek : ((k : Int)).toNat = k := by omega
    have ed : l[k]?.getD [] = d := by rw [hd]; rfl
    have hdl := hp.2.2 d (List.mem_of_getElem? hd)
    simp only [ek, ed]
    refine ⟨⟨0, by omega, ⟨rfl, by trivial, trivial⟩, by simp [gstep]⟩, fun j hj => br_iff.2 ⟨fun h2 => ?_, fun h2 => ?_⟩⟩
    · simp only [decide_eq_true_eq] at h2
      obtain ⟨y, hy⟩ := get_of (l := s) (j := j) (by omega)
      have ej : ((j : Int)).toNat = j := by omega
      have e := gstep_step (x := d) hy
      simp only [ej, hd, hy]
      refine ⟨by omega, fun d' hd' => ?_⟩
      cases hd'
      refine ⟨fun _ => by omega, fun y' hy' => ⟨fun _ => by omega, fun d2 hd2 => ⟨fun _ => by omega, fun d3 hd3 => ?_⟩⟩⟩
      have hq : (!decide ((d.length : Int) = 0)) = true → d2 = d ∧ d3 = d ∧ y' = y ∧ 0 < d.length := fun q => by
        refine ⟨(Option.some.inj (hd2 q)).symm, (Option.some.inj (hd3 q)).symm, (Option.some.inj (hy' q)).symm, ?_⟩
        simp at q
        rcases d with _ | ⟨a, d⟩
        · simp at q
        · simp
      refine ⟨fun q => ?_, fun q => ?_, fun d4 hd4 => ?_⟩
      · obtain ⟨rfl, rfl, rfl, h0⟩ := hq q
        exact InR_i64.2 (by omega)
      · obtain ⟨rfl, rfl, rfl, h0⟩ := hq q
        omega
      · have hb : (decide ((d.length : Int) = 0) || decide (d4 < y')) = extB d y := by
          unfold extB
          by_cases q : (!decide ((d.length : Int) = 0)) = true
          · obtain ⟨e1, e2, e3, h0⟩ := hq q
            have h4 := hd4 q
            rw [e1, e2] at h4
            have e5 : d.getLastD 0 = d4 := by
              rcases snoc_cases d with rfl | ⟨z, a, rfl⟩
              · simp at h0
              · rw [show (((z ++ [a]).length : Int) - 1).toNat = z.length by simp] at h4
                simp at h4
                simp [h4]
            rw [e5, e3]
            congr 1
            simp
          · have q : (d.length : Int) = 0 := by simpa using q
            have q2 : d.length = 0 := by omega
            simp [q, q2]
        rw [hb]
        refine br_iff.2 ⟨fun h3 => ?_, fun h3 => ⟨InR_i64.2 (by omega), j + 1, by omega, ⟨by simp, by trivial, trivial⟩, ?_, by omega⟩⟩
        · refine ⟨by omega, fun d' hd' => ?_⟩
          cases hd'
          refine ⟨?_, by omega, fun y2 hy2 => ?_⟩
          · show InA (0 + d.length) 8
            rw [InA_iff]; omega
          · cases hy2
            have := hg k j d hd
            refine ⟨?_, ?_, InR_i64.2 (by omega), j + 1, by omega, ⟨by simp, by trivial, trivial⟩, ?_, by omega⟩
            · show InA (([] ++ d).length + [y].length) 8
              rw [InA_iff]; simp; omega
            · show InA ((growI (l.take k) s ++ gstep d (s.take j)).length + 1) 24
              rw [InA_iff]; omega
            · rw [e, h3]; simp
        · rw [e, h3]; simp
    · simp only [decide_eq_false_iff_not] at h2
      refine ⟨InR_i64.2 (by omega), k + 1, by omega, ⟨by simp, by trivial, trivial⟩, ?_, by omega⟩
      rw [grow_step s hd, List.take_of_length_le (l := s) (by omega)]
  · simp only [decide_eq_false_iff_not] at h
    rw [List.take_of_length_le (by omega)]; exact ⟨rfl, rfl⟩
set_option maxRecDepth 100000 in
theorem f39_met : Go.Eng.Met Try.prog cx0.gd 39 ctGro :=
  met_ip (il := il39) (rc := [.data (.sl (.sl (.int .i64)))]) (cx := cx0) (n := 65) (cl := cl39) (by kernel_rfl) tis_ok trivial trivial Try.func39 (by kernel_rfl) (by kernel_rfl) rfl (by kernel_rfl) (by kernel_rfl) fun d hd => by
    obtain ⟨l, s, ⟨⟩⟩ := d
    exact ⟨ann39 l s, cast (by kernel_rfl) (f39_vc l s hd)⟩
@[reducible] def ctrSubs : CT := { ps := [.sl (.int .i64)], pre := fun d => d.1.length ≤ 1000000, res := fun d => ([.row 22 (.sl (.int .i64)) (rsubsI d.1)], .tup [.c (.row 0), .c (.v (.int .i64 (errI d.1)))]) }
@[reducible] def cl11 : List (Nat × CT) := [(18, ct41), (39, ctGro)]
@[reducible] def il11 : List (Nat × IP) := []
@[reducible] def ann11 (l : List Int) : Nat → Option (St → Ann) := fun k => match k with
  | 7 => some fun _ => .inv { α := Nat, slots := fun k => [(7, .c (.v (.int .i64 k))), (6, .c (.row 3)), (5, .c (.sl (.sl (.int .i64)) (levelI (makeI l) k)))], res := fun k => [(3, .row 22 (.sl (.int .i64)) (levsI (makeI l) k))], inv := fun k => k ≤ (makeI l).length + 1, meas := fun k => (makeI l).length + 1 - k, drop := [15], frz := [4, 5] }
  | _ => none
set_option maxRecDepth 100000 in
theorem f11_vc (l : List Int) (hpre : ctrSubs.pre (l, ())) :
    l.length ≤ (1000000 : Nat) ∧ br (decide ((12 : Int) < (↑(makeI l).length : Int))) ([Res.row (22 : TypeId) (Sh.int IntKind.i64).sl (rsubsI l)] = [Res.row (22 : TypeId) (Sh.int IntKind.i64).sl []] ∧ Ent.tup [SV.c (SC.row (0 : Nat)), SV.c (SC.v (Value.int IntKind.i64 (errI l)))] = Ent.tup [SV.c (SC.row (0 : Nat)), SV.c (SC.v (Value.int IntKind.i64 (4 : Int)))]) ((∃ x, x ≤ (makeI l).length + (1 : Nat) ∧ (SV.c (SC.v (Value.int IntKind.i64 (0 : Int))) = SV.c (SC.v (Value.int IntKind.i64 (↑x : Int))) ∧ SV.c (SC.row (Nat.succ (0 : Nat)).succ.succ) = SV.c (SC.row (3 : Nat)) ∧ SV.c (SC.sl (Sh.int IntKind.i64).sl [[]]) = SV.c (SC.sl (Sh.int IntKind.i64).sl (levelI (makeI l) x)) ∧ True) ∧ [(([] : Go.Eng.Gd), Res.gone), (([] : Go.Eng.Gd), Res.gone), (([] : Go.Eng.Gd), Res.gone), (([] : Go.Eng.Gd), Res.row (22 : TypeId) (Sh.int IntKind.i64).sl [])] = [(([] : Go.Eng.Gd), Res.gone), (([] : Go.Eng.Gd), Res.gone), (([] : Go.Eng.Gd), Res.gone), (([] : Go.Eng.Gd), Res.row (22 : TypeId) (Sh.int IntKind.i64).sl (levsI (makeI l) x))]) ∧ ∀ (x : Nat), x ≤ (makeI l).length + (1 : Nat) → br (decide ((↑x : Int) ≤ (↑(makeI l).length : Int))) (InA (List.length (levsI (makeI l) x) + List.length (levelI (makeI l) x)) (24 : Nat) ∧ ((levelI (makeI l) x).length ≤ (1000000 : Nat) ∧ (makeI l).length ≤ (1000000 : Nat) ∧ ∀ (x_1 : List (Sh.int IntKind.i64).den), x_1 ∈ levelI (makeI l) x → x_1.length ≤ (1000000 : Nat)) ∧ InR IntKind.i64 ((↑x : Int) + (1 : Int)) ∧ ∃ x', x' ≤ (makeI l).length + (1 : Nat) ∧ (SV.c (SC.v (Value.int IntKind.i64 ((↑x : Int) + (1 : Int)))) = SV.c (SC.v (Value.int IntKind.i64 (↑x' : Int))) ∧ SV.c (SC.row (3 : Nat)) = SV.c (SC.row (3 : Nat)) ∧ SV.c (SC.sl (Sh.int IntKind.i64).sl (growI (levelI (makeI l) x) (makeI l))) = SV.c (SC.sl (Sh.int IntKind.i64).sl (levelI (makeI l) x')) ∧ True) ∧ [(([] : Go.Eng.Gd), Res.gone), (([] : Go.Eng.Gd), Res.gone), (([] : Go.Eng.Gd), Res.gone), (([] : Go.Eng.Gd), Res.row (22 : TypeId) (Sh.int IntKind.i64).sl (levsI (makeI l) x ++ levelI (makeI l) x))] = [(([] : Go.Eng.Gd), Res.gone), (([] : Go.Eng.Gd), Res.gone), (([] : Go.Eng.Gd), Res.gone), (([] : Go.Eng.Gd), Res.row (22 : TypeId) (Sh.int IntKind.i64).sl (levsI (makeI l) x'))] ∧ (makeI l).length + (1 : Nat) - x' < (makeI l).length + (1 : Nat) - x) ([Res.row (22 : TypeId) (Sh.int IntKind.i64).sl (rsubsI l)] = [Res.row (22 : TypeId) (Sh.int IntKind.i64).sl (levsI (makeI l) x)] ∧ Ent.tup [SV.c (SC.row (0 : Nat)), SV.c (SC.v (Value.int IntKind.i64 (errI l)))] = Ent.tup [SV.c (SC.row (0 : Nat)), SV.c (SC.v (Value.int IntKind.i64 (0 : Int)))])) := by
  have hp : l.length ≤ 1000000 := hpre
  refine ⟨hp, br_iff.2 ⟨fun h => ?_, fun h => ?_⟩⟩
  · simp only [decide_eq_true_eq] at h
    have h : 12 < (makeI l).length := by omega
    have e1 : rsubsI l = [] := if_pos h
    have e2 : errI l = 4 := if_pos h
    rw [e1, e2]; exact ⟨rfl, rfl⟩
  · simp only [decide_eq_false_iff_not] at h
    have h : ¬ 12 < (makeI l).length := by omega
    have e1 : rsubsI l = levsI (makeI l) ((makeI l).length + 1) := if_neg h
    have e2 : errI l = 0 := if_neg h
    rw [e1, e2]
    clear e1 e2
    have hn : (makeI l).length ≤ 12 := by omega
    have hpw := pow_le hn
    have hs := make_ss l
    generalize makeI l = z at *
    refine ⟨⟨0, by omega, ⟨rfl, rfl, rfl, trivial⟩, rfl⟩, fun k hk => br_iff.2 ⟨fun h => ?_, fun h => ?_⟩⟩
    · simp only [decide_eq_true_eq] at h
      have h1 := levs_le hs (k := k) (by omega)
      have h2 := level_le hs (k := k) (by omega)
      refine ⟨?_, ⟨by omega, by omega, fun x hx => ?_⟩, InR_i64.2 (by omega), k + 1, by omega, ⟨by simp, rfl, rfl, trivial⟩, rfl, by omega⟩
      · show InA ((levsI z k).length + (levelI z k).length) 24
        rw [InA_iff]; omega
      · have h3 := (level_mem.1 hx).1
        show List.length (α := Int) x ≤ 1000000
        omega
    · simp only [decide_eq_false_iff_not] at h
      have : k = z.length + 1 := by omega
      subst this; exact ⟨rfl, rfl⟩
set_option maxRecDepth 100000 in
theorem f11_met : Go.Eng.Met Try.prog cx0.gd 11 ctrSubs :=
  met_ip (il := il11) (rc := [.row 22 (.sl (.int .i64)), .keep]) (cx := cx0) (n := 29) (cl := cl11) (by kernel_rfl) tis_ok ⟨f18_met, f39_met, trivial⟩ trivial Try.func11 (by kernel_rfl) (by kernel_rfl) rfl (by kernel_rfl) (by kernel_rfl) fun d hd => by
    obtain ⟨l, ⟨⟩⟩ := d
    exact ⟨ann11 l, cast (by kernel_rfl) (f11_vc l hd)⟩
end Go.Proofs.Ytkndekaioeifdaa
