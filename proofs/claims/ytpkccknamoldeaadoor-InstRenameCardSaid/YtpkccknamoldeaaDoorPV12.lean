/- The functions of the Inst chapter, part 12: renamings composed. -/
import Derived.Test.YtpkccknamoldeaaDoorPV11
set_option linter.unusedSimpArgs false
set_option linter.unusedVariables false
set_option maxRecDepth 100000
namespace Go.Proofs.YtpkccknamoldeaaDoor
open Go Go.Eng

/-- Digit k of n to the base 8. -/
def dig (n : Int) (k : Nat) : Int := n / 8 ^ k % 8
def mapS (n : Int) : List Int := [dig n 0, dig n 1, dig n 2, dig n 3, dig n 4, dig n 5, dig n 6, dig n 7]
@[reducible] def ct18 : CT := { ps := [.int .u32], pre := fun d => 0 ≤ d.1 ∧ d.1 < 4294967296, res := fun d => ([.row 3 (.int .i64) (mapS d.1)], .one (.c (.row 0))) }
@[reducible] def cl18 : List (Nat × CT) := []
@[reducible] def ann18 (n : Int) : Nat → Option (St → Ann) := fun k => match k with
  | 3 => some fun _ => .unroll 9
  | _ => none
set_option maxRecDepth 100000 in
theorem f18_vc (n : Int) (hpre : ct18.pre (n, ())) :
    InR IntKind.i64 (0 : Int) ∧ (0 : Int) ≤ (0 : Int) ∧ InR IntKind.i64 (shrv IntKind.u32 n (0 : Int)) ∧ (8 : Int) ≠ (0 : Int) ∧ InA ((0 : Nat) + List.length ([(shrv IntKind.u32 n (0 : Int)).tmod (8 : Int)])) (8 : Nat) ∧ InR IntKind.i64 (1 : Int) ∧ InR IntKind.i64 (3 : Int) ∧ (0 : Int) ≤ (3 : Int) ∧ InR IntKind.i64 (shrv IntKind.u32 n (3 : Int)) ∧ (8 : Int) ≠ (0 : Int) ∧ InA (List.length (([] ++ [(shrv IntKind.u32 n (0 : Int)).tmod (8 : Int)])) + List.length ([(shrv IntKind.u32 n (3 : Int)).tmod (8 : Int)])) (8 : Nat) ∧ InR IntKind.i64 (2 : Int) ∧ InR IntKind.i64 (6 : Int) ∧ (0 : Int) ≤ (6 : Int) ∧ InR IntKind.i64 (shrv IntKind.u32 n (6 : Int)) ∧ (8 : Int) ≠ (0 : Int) ∧ InA (List.length ((([] ++ [(shrv IntKind.u32 n (0 : Int)).tmod (8 : Int)]) ++ [(shrv IntKind.u32 n (3 : Int)).tmod (8 : Int)])) + List.length ([(shrv IntKind.u32 n (6 : Int)).tmod (8 : Int)])) (8 : Nat) ∧ InR IntKind.i64 (3 : Int) ∧ InR IntKind.i64 (9 : Int) ∧ (0 : Int) ≤ (9 : Int) ∧ InR IntKind.i64 (shrv IntKind.u32 n (9 : Int)) ∧ (8 : Int) ≠ (0 : Int) ∧ InA (List.length (((([] ++ [(shrv IntKind.u32 n (0 : Int)).tmod (8 : Int)]) ++ [(shrv IntKind.u32 n (3 : Int)).tmod (8 : Int)]) ++ [(shrv IntKind.u32 n (6 : Int)).tmod (8 : Int)])) + List.length ([(shrv IntKind.u32 n (9 : Int)).tmod (8 : Int)])) (8 : Nat) ∧ InR IntKind.i64 (4 : Int) ∧ InR IntKind.i64 (12 : Int) ∧ (0 : Int) ≤ (12 : Int) ∧ InR IntKind.i64 (shrv IntKind.u32 n (12 : Int)) ∧ (8 : Int) ≠ (0 : Int) ∧ InA (List.length ((((([] ++ [(shrv IntKind.u32 n (0 : Int)).tmod (8 : Int)]) ++ [(shrv IntKind.u32 n (3 : Int)).tmod (8 : Int)]) ++ [(shrv IntKind.u32 n (6 : Int)).tmod (8 : Int)]) ++ [(shrv IntKind.u32 n (9 : Int)).tmod (8 : Int)])) + List.length ([(shrv IntKind.u32 n (12 : Int)).tmod (8 : Int)])) (8 : Nat) ∧ InR IntKind.i64 (5 : Int) ∧ InR IntKind.i64 (15 : Int) ∧ (0 : Int) ≤ (15 : Int) ∧ InR IntKind.i64 (shrv IntKind.u32 n (15 : Int)) ∧ (8 : Int) ≠ (0 : Int) ∧ InA (List.length (((((([] ++ [(shrv IntKind.u32 n (0 : Int)).tmod (8 : Int)]) ++ [(shrv IntKind.u32 n (3 : Int)).tmod (8 : Int)]) ++ [(shrv IntKind.u32 n (6 : Int)).tmod (8 : Int)]) ++ [(shrv IntKind.u32 n (9 : Int)).tmod (8 : Int)]) ++ [(shrv IntKind.u32 n (12 : Int)).tmod (8 : Int)])) + List.length ([(shrv IntKind.u32 n (15 : Int)).tmod (8 : Int)])) (8 : Nat) ∧ InR IntKind.i64 (6 : Int) ∧ InR IntKind.i64 (18 : Int) ∧ (0 : Int) ≤ (18 : Int) ∧ InR IntKind.i64 (shrv IntKind.u32 n (18 : Int)) ∧ (8 : Int) ≠ (0 : Int) ∧ InA (List.length ((((((([] ++ [(shrv IntKind.u32 n (0 : Int)).tmod (8 : Int)]) ++ [(shrv IntKind.u32 n (3 : Int)).tmod (8 : Int)]) ++ [(shrv IntKind.u32 n (6 : Int)).tmod (8 : Int)]) ++ [(shrv IntKind.u32 n (9 : Int)).tmod (8 : Int)]) ++ [(shrv IntKind.u32 n (12 : Int)).tmod (8 : Int)]) ++ [(shrv IntKind.u32 n (15 : Int)).tmod (8 : Int)])) + List.length ([(shrv IntKind.u32 n (18 : Int)).tmod (8 : Int)])) (8 : Nat) ∧ InR IntKind.i64 (7 : Int) ∧ InR IntKind.i64 (21 : Int) ∧ (0 : Int) ≤ (21 : Int) ∧ InR IntKind.i64 (shrv IntKind.u32 n (21 : Int)) ∧ (8 : Int) ≠ (0 : Int) ∧ InA (List.length (((((((([] ++ [(shrv IntKind.u32 n (0 : Int)).tmod (8 : Int)]) ++ [(shrv IntKind.u32 n (3 : Int)).tmod (8 : Int)]) ++ [(shrv IntKind.u32 n (6 : Int)).tmod (8 : Int)]) ++ [(shrv IntKind.u32 n (9 : Int)).tmod (8 : Int)]) ++ [(shrv IntKind.u32 n (12 : Int)).tmod (8 : Int)]) ++ [(shrv IntKind.u32 n (15 : Int)).tmod (8 : Int)]) ++ [(shrv IntKind.u32 n (18 : Int)).tmod (8 : Int)])) + List.length ([(shrv IntKind.u32 n (21 : Int)).tmod (8 : Int)])) (8 : Nat) ∧ InR IntKind.i64 (8 : Int) ∧ [Res.row (3 : TypeId) (Sh.int IntKind.i64) (mapS n)] = [Res.row (3 : TypeId) (Sh.int IntKind.i64) (((((((([] ++ [(shrv IntKind.u32 n (0 : Int)).tmod (8 : Int)]) ++ [(shrv IntKind.u32 n (3 : Int)).tmod (8 : Int)]) ++ [(shrv IntKind.u32 n (6 : Int)).tmod (8 : Int)]) ++ [(shrv IntKind.u32 n (9 : Int)).tmod (8 : Int)]) ++ [(shrv IntKind.u32 n (12 : Int)).tmod (8 : Int)]) ++ [(shrv IntKind.u32 n (15 : Int)).tmod (8 : Int)]) ++ [(shrv IntKind.u32 n (18 : Int)).tmod (8 : Int)]) ++ [(shrv IntKind.u32 n (21 : Int)).tmod (8 : Int)])] ∧ Ent.one (SV.c (SC.row (0 : Nat))) = Ent.one (SV.c (SC.row (0 : Nat))) := by
  have hp : 0 ≤ n ∧ n < 4294967296 := hpre
  have sh : ∀ (j : Int) (m : Nat), (2 : Int) ^ (min j.toNat 32) = m → shrv .u32 n j = n / m := fun j m e => by
    unfold shrv
    rw [show IntKind.u32.bits = 32 from rfl, e, Int.fdiv_eq_ediv_of_nonneg _ (by omega)]
  have t : ∀ x : Int, 0 ≤ x → x.tmod 8 = x % 8 := fun x h => Int.tmod_eq_emod_of_nonneg h
  rw [sh 0 1 (by decide), sh 3 8 (by decide), sh 6 64 (by decide), sh 9 512 (by decide), sh 12 4096 (by decide), sh 15 32768 (by decide), sh 18 262144 (by decide), sh 21 2097152 (by decide)]
  rw [t _ (by omega), t _ (by omega), t _ (by omega), t _ (by omega), t _ (by omega), t _ (by omega), t _ (by omega), t _ (by omega)]
  simp only [InR_i64]
  repeat' (first | apply And.intro | (intro _))
  all_goals first | omega | (simp [InA]; done) | (simp [mapS, dig]; done) | rfl
set_option maxRecDepth 100000 in
theorem f18_met : Go.Eng.Met Tryd.prog cx0.gd 18 ct18 :=
  met_of (cx := cx0) (n := 21) (cl := cl18) (by kernel_rfl) tis_ok trivial Tryd.func18 (by kernel_rfl) (by kernel_rfl) rfl (by kernel_rfl) (by kernel_rfl) fun d hd => by
    obtain ⟨n, ⟨⟩⟩ := d
    exact ⟨ann18 n, cast (by kernel_rfl) (f18_vc n hd)⟩
@[reducible] def ct19 : CT := { ps := [shI], pre := fun d => True, res := fun d => ([], .one (aggI d.1.1 0 0 0 d.1.2.2.2.2.1 d.1.2.2.2.2.2.1 d.1.2.2.2.2.2.2.1 d.1.2.2.2.2.2.2.2.1)) }
@[reducible] def cl19 : List (Nat × CT) := []
@[reducible] def ann19 (op : Int) (a : Int) (b : Int) (c : Int) (obj : Int) (n : Int) (fn : Int) (ord : Int) : Nat → Option (St → Ann) := fun _ => none
set_option maxRecDepth 100000 in
theorem f19_vc (op : Int) (a : Int) (b : Int) (c : Int) (obj : Int) (n : Int) (fn : Int) (ord : Int) :
    ([] : List Go.Eng.Res) = [] ∧ Ent.one (SV.agg [SC.v (Value.int IntKind.i64 op), SC.v (Value.int IntKind.i64 (0 : Int)), SC.v (Value.int IntKind.i64 (0 : Int)), SC.v (Value.int IntKind.i64 (0 : Int)), SC.v (Value.int IntKind.i64 obj), SC.v (Value.int IntKind.i64 n), SC.v (Value.int IntKind.i64 fn), SC.v (Value.int IntKind.i64 ord)]) = Ent.one (SV.agg [SC.v (Value.int IntKind.i64 op), SC.v (Value.int IntKind.i64 (0 : Int)), SC.v (Value.int IntKind.i64 (0 : Int)), SC.v (Value.int IntKind.i64 (0 : Int)), SC.v (Value.int IntKind.i64 obj), SC.v (Value.int IntKind.i64 n), SC.v (Value.int IntKind.i64 fn), SC.v (Value.int IntKind.i64 ord)]) := by
  exact ⟨rfl, rfl⟩
set_option maxRecDepth 100000 in
theorem f19_met : Go.Eng.Met Tryd.prog cx0.gd 19 ct19 :=
  met_of (cx := cx0) (n := 7) (cl := cl19) (by kernel_rfl) tis_ok trivial Tryd.func19 (by kernel_rfl) (by kernel_rfl) rfl (by kernel_rfl) (by kernel_rfl) fun d hd => by
    obtain ⟨⟨op, a, b, c, obj, n, fn, ord, ⟨⟩⟩, ⟨⟩⟩ := d
    exact ⟨ann19 op a b c obj n fn ord, cast (by kernel_rfl) (f19_vc op a b c obj n fn ord)⟩
def imgL (l to : List Int) : List Int := l.map fun x => to.getD x.toNat 0
@[reducible] def ct20 : CT := { ps := [.sl (.int .i64), .sl (.int .i64)], pre := fun d => d.1.length ≤ 1000000 ∧ ∀ x ∈ d.1, 0 ≤ x ∧ x < d.2.1.length, res := fun d => ([.row 3 (.int .i64) (makeI (imgL d.1 d.2.1))], .one (.c (.row 0))) }
@[reducible] def cl20 : List (Nat × CT) := [(41, ct41)]
@[reducible] def ann20 (l : List Int) (to : List Int) : Nat → Option (St → Ann) := fun k => match k with
  | 3 => some fun _ => .inv { α := Nat, slots := fun k => [(6, .c (.v (.int .i64 k))), (5, .c (.row 0))], res := fun k => [(0, .row 3 (.int .i64) (imgL (l.take k) to))], inv := fun k => k ≤ l.length, meas := fun k => l.length - k, drop := [7] }
  | _ => none
set_option maxRecDepth 100000 in
theorem f20_vc (l : List Int) (to : List Int) (hpre : ct20.pre (l, to, ())) :
    (∃ x, x ≤ l.length ∧ (SV.c (SC.v (Value.int IntKind.i64 (0 : Int))) = SV.c (SC.v (Value.int IntKind.i64 (↑x : Int))) ∧ SV.c (SC.row (0 : Nat)) = SV.c (SC.row (0 : Nat)) ∧ True) ∧ [(([] : Go.Eng.Gd), Res.row (3 : TypeId) (Sh.int IntKind.i64) [])] = [(([] : Go.Eng.Gd), Res.row (3 : TypeId) (Sh.int IntKind.i64) (imgL (List.take x l) to))]) ∧ ∀ (x : Nat), x ≤ l.length → br (decide ((↑x : Int) < (↑l.length : Int))) (((0 : Int) ≤ (↑x : Int) ∧ (↑x : Int) < (↑l.length : Int)) ∧ ∀ (d : Int), l[(↑x : Int).toNat]? = some d → ((0 : Int) ≤ d ∧ d < (↑to.length : Int)) ∧ ∀ (d_1 : Int), to[d.toNat]? = some d_1 → InA (List.length (imgL (List.take x l) to) + List.length ([d_1])) (8 : Nat) ∧ InR IntKind.i64 ((↑x : Int) + (1 : Int)) ∧ ∃ x', x' ≤ l.length ∧ (SV.c (SC.v (Value.int IntKind.i64 ((↑x : Int) + (1 : Int)))) = SV.c (SC.v (Value.int IntKind.i64 (↑x' : Int))) ∧ SV.c (SC.row (0 : Nat)) = SV.c (SC.row (0 : Nat)) ∧ True) ∧ [(([] : Go.Eng.Gd), Res.row (3 : TypeId) (Sh.int IntKind.i64) (imgL (List.take x l) to ++ [d_1]))] = [(([] : Go.Eng.Gd), Res.row (3 : TypeId) (Sh.int IntKind.i64) (imgL (List.take x' l) to))] ∧ l.length - x' < l.length - x) ((imgL (List.take x l) to).length ≤ (1000000 : Nat) ∧ [Res.row (3 : TypeId) (Sh.int IntKind.i64) (makeI (imgL l to))] = [Res.row (3 : TypeId) (Sh.int IntKind.i64) (makeI (imgL (List.take x l) to))] ∧ Ent.one (SV.c (SC.row (0 : Nat))) = Ent.one (SV.c (SC.row (0 : Nat)))) := by
  have hp : l.length ≤ 1000000 ∧ ∀ x ∈ l, 0 ≤ x ∧ x < to.length := hpre
  have hlen : ∀ k, (imgL (l.take k) to).length ≤ l.length := fun k => by simp [imgL]; omega
  refine ⟨⟨0, by omega, ⟨rfl, rfl, trivial⟩, rfl⟩, fun k hk => br_iff.2 ⟨fun h => ?_, fun h => ?_⟩⟩
  · simp only [decide_eq_true_eq] at h
    refine ⟨by omega, fun d hd => ?_⟩
    have hd : l[k]? = some d := by simpa using hd
    have hm := hp.2 d (List.mem_of_getElem? hd)
    refine ⟨hm, fun e he => ⟨?_, InR_i64.2 (by omega), k + 1, by omega, ⟨rfl, rfl, trivial⟩, ?_, by omega⟩⟩
    · have := hlen k
      rw [InA_iff]; simp; omega
    · have e1 : imgL (l.take (k + 1)) to = imgL (l.take k) to ++ [e] := by
        unfold imgL
        rw [List.take_add_one, hd]
        simp [List.getD_eq_getElem?_getD, he]
      rw [e1]
  · simp only [decide_eq_false_iff_not] at h
    rw [List.take_of_length_le (by omega)]
    refine ⟨?_, rfl, rfl⟩
    have := hlen l.length
    rw [List.take_length] at this; omega
set_option maxRecDepth 100000 in
theorem f20_met : Go.Eng.Met Tryd.prog cx0.gd 20 ct20 :=
  met_of (cx := cx0) (n := 26) (cl := cl20) (by kernel_rfl) tis_ok ⟨f41_met, trivial⟩ Tryd.func20 (by kernel_rfl) (by kernel_rfl) rfl (by kernel_rfl) (by kernel_rfl) fun d hd => by
    obtain ⟨l, to, ⟨⟩⟩ := d
    exact ⟨ann20 l to, cast (by kernel_rfl) (f20_vc l to hd)⟩
end Go.Proofs.YtpkccknamoldeaaDoor
