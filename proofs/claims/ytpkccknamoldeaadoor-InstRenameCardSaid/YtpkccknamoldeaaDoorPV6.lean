/- The functions of the Inst chapter, part 6. -/
import Derived.Test.YtpkccknamoldeaaDoorPV5
import Derived.Test.YtpkccknamoldeaaDoorEngV
set_option linter.unusedSimpArgs false
set_option linter.unusedVariables false
set_option maxRecDepth 100000
namespace Go.Proofs.YtpkccknamoldeaaDoor
open Go Go.Eng

def insI (l : List Int) (x : Int) : List Int := l.take (posI l x) ++ [x] ++ l.drop (posI l x)
def makeI (l : List Int) : List Int := l.foldl (fun o x => if hasI o x then o else insI o x) []
theorem insI_len (l : List Int) (x : Int) : (insI l x).length = l.length + 1 := by
  simp only [insI, List.length_append, List.length_take, List.length_drop, List.length_cons, List.length_nil]; omega
theorem makeI_len (l : List Int) : (makeI l).length ≤ l.length := by
  have : ∀ (l o : List Int), (l.foldl (fun o x => if hasI o x then o else insI o x) o).length ≤ o.length + l.length := by
    intro l
    induction l with
    | nil => intro o; simp
    | cons x l ih =>
      intro o
      simp only [List.foldl_cons, List.length_cons]
      refine Nat.le_trans (ih _) ?_
      split
      · omega
      · rw [insI_len]; omega
  have h := this l []
  rw [List.length_nil, Nat.zero_add] at h
  exact h
theorem makeI_take {l : List Int} {k : Nat} {d : Int} (hd : l[k]? = some d) : makeI (l.take (k + 1)) = if hasI (makeI (l.take k)) d then makeI (l.take k) else insI (makeI (l.take k)) d := by
  rw [List.take_add_one, hd]
  unfold makeI
  rw [Option.toList_some, List.foldl_append]
  rfl
@[reducible] def ct41 : CT := { ps := [.sl (.int .i64)], pre := fun d => d.1.length ≤ 1000000, res := fun d => ([.row 3 (.int .i64) (makeI d.1)], .one (.c (.row 0))) }
@[reducible] def cl41 : List (Nat × CT) := [(46, ct46), (47, ct47)]
@[reducible] def ann41 (l : List Int) : Nat → Option (St → Ann) := fun k => match k with
  | 3 => some fun _ => .inv { α := Nat, slots := fun k => [(4, .c (.v (.int .i64 k))), (3, .c (.row 0))], res := fun k => [(0, .row 3 (.int .i64) (makeI (l.take k)))], inv := fun k => k ≤ l.length, meas := fun k => l.length - k, ren := [(0, 1)], drop := [5] }
  | _ => none
set_option maxRecDepth 100000 in
theorem f41_vc (l : List Int) (hpre : ct41.pre (l, ())) :
    (∃ x, x ≤ l.length ∧ (SV.c (SC.v (Value.int IntKind.i64 (0 : Int))) = SV.c (SC.v (Value.int IntKind.i64 (↑x : Int))) ∧ SV.c (SC.row (0 : Nat)) = SV.c (SC.row (0 : Nat)) ∧ True) ∧ [(([] : Go.Eng.Gd), Res.row (3 : TypeId) (Sh.int IntKind.i64) [])] = [(([] : Go.Eng.Gd), Res.row (3 : TypeId) (Sh.int IntKind.i64) (makeI (List.take x l)))]) ∧ ∀ (x : Nat), x ≤ l.length → br (decide ((↑x : Int) < (↑l.length : Int))) (((0 : Int) ≤ (↑x : Int) ∧ (↑x : Int) < (↑l.length : Int)) ∧ ∀ (d : Int), l[(↑x : Int).toNat]? = some d → (makeI (List.take x l)).length ≤ (4611686018427387904 : Nat) ∧ br (!hasI (makeI (List.take x l)) d) (((0 : Int) ≤ (↑x : Int) ∧ (↑x : Int) < (↑l.length : Int)) ∧ ∀ (d : Int), l[(↑x : Int).toNat]? = some d → (makeI (List.take x l)).length ≤ (1000000 : Nat) ∧ InR IntKind.i64 ((↑x : Int) + (1 : Int)) ∧ ∃ x', x' ≤ l.length ∧ (SV.c (SC.v (Value.int IntKind.i64 ((↑x : Int) + (1 : Int)))) = SV.c (SC.v (Value.int IntKind.i64 (↑x' : Int))) ∧ SV.c (SC.row (0 : Nat)) = SV.c (SC.row (0 : Nat)) ∧ True) ∧ [(([] : Go.Eng.Gd), Res.row (3 : TypeId) (Sh.int IntKind.i64) (List.take (posI (makeI (List.take x l)) d) (makeI (List.take x l)) ++ [d] ++ List.drop (posI (makeI (List.take x l)) d) (makeI (List.take x l))))] = [(([] : Go.Eng.Gd), Res.row (3 : TypeId) (Sh.int IntKind.i64) (makeI (List.take x' l)))] ∧ l.length - x' < l.length - x) (InR IntKind.i64 ((↑x : Int) + (1 : Int)) ∧ ∃ x', x' ≤ l.length ∧ (SV.c (SC.v (Value.int IntKind.i64 ((↑x : Int) + (1 : Int)))) = SV.c (SC.v (Value.int IntKind.i64 (↑x' : Int))) ∧ SV.c (SC.row (0 : Nat)) = SV.c (SC.row (0 : Nat)) ∧ True) ∧ [(([] : Go.Eng.Gd), Res.row (3 : TypeId) (Sh.int IntKind.i64) (makeI (List.take x l)))] = [(([] : Go.Eng.Gd), Res.row (3 : TypeId) (Sh.int IntKind.i64) (makeI (List.take x' l)))] ∧ l.length - x' < l.length - x)) ([Res.row (3 : TypeId) (Sh.int IntKind.i64) (makeI l)] = [Res.row (3 : TypeId) (Sh.int IntKind.i64) (makeI (List.take x l))] ∧ Ent.one (SV.c (SC.row (0 : Nat))) = Ent.one (SV.c (SC.row (0 : Nat)))) := by
  have hp : l.length ≤ 1000000 := hpre
  have hlen : ∀ k, (makeI (l.take k)).length ≤ l.length := fun k => Nat.le_trans (makeI_len _) (by simp; omega)
  refine ⟨⟨0, by omega, ⟨rfl, rfl, trivial⟩, rfl⟩, fun k hk => br_iff.2 ⟨fun h => ?_, fun h => ?_⟩⟩
  · simp only [decide_eq_true_eq] at h
    refine ⟨by omega, fun d hd => ⟨by have := hlen k; omega, br_iff.2 ⟨fun h2 => ⟨by omega, fun e he => ⟨by have := hlen k; omega, InR_i64.2 (by omega), k + 1, by omega, ⟨by simp, rfl, trivial⟩, ?_, by omega⟩⟩,
      fun h2 => ⟨InR_i64.2 (by omega), k + 1, by omega, ⟨by simp, rfl, trivial⟩, ?_, by omega⟩⟩⟩⟩
    · have hd : l[k]? = some d := by simpa using hd
      have he : l[k]? = some e := by simpa using he
      rw [hd] at he; cases he
      have h2 : hasI (makeI (l.take k)) d = false := by simpa using h2
      rw [makeI_take hd, h2]; rfl
    · have hd : l[k]? = some d := by simpa using hd
      have h2 : hasI (makeI (l.take k)) d = true := by simpa using h2
      rw [makeI_take hd, h2]; rfl
  · simp only [decide_eq_false_iff_not] at h
    rw [List.take_of_length_le (by omega)]; exact ⟨rfl, rfl⟩
set_option maxRecDepth 100000 in
theorem f41_met : Met Tryd.prog cx0.gd 41 ct41 :=
  met_of (cx := cx0) (n := 26) (cl := cl41) (by kernel_rfl) tis_ok ⟨f46_met, f47_met, trivial⟩ Tryd.func41 (by kernel_rfl) (by kernel_rfl) rfl (by kernel_rfl) (by kernel_rfl) fun d hd => by
    obtain ⟨l, ⟨⟩⟩ := d
    exact ⟨ann41 l, cast (by kernel_rfl) (f41_vc l hd)⟩
end Go.Proofs.YtpkccknamoldeaaDoor
