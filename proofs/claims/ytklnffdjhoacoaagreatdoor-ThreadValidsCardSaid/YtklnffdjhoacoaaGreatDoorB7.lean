/- Texts of this claim, part 7: L2. Conditions: those of the given rows. -/
import Derived.Test.YtklnffdjhoacoaaGreatDoorB6
import Derived.Test.YtklnffdjhoacoaaGreatDoorCards
import Derived.Test.YtklnffdjhoacoaaGreatDoorTie
import Derived.WalkKit
import Derived.ProofKit
import Derived.OpenShut
import Derived.Deep.DeepHandedRow
import Derived.Lib.LaidTab
set_option linter.unusedSimpArgs false
set_option linter.unusedVariables false
set_option maxRecDepth 1000000
namespace Go.Proofs.YtklnffdjhoacoaaGreatDoor
open Go Go.Eng Go.ChangeShapes Go.WideShapes Go.ChangeAt Go.RowKit
theorem own : ownKnob Tryz.prog.godebug = none := by kernel_rfl
theorem laidOut : laidOutB Tryz.prog = true := by kernel_rfl
theorem rowed : mapsRowed Tryz.prog = true := by kernel_rfl
theorem full : ∀ t e, t < Tryz.prog.types.size → Tryz.prog.underlying t = some (.slice e) → 0 < Tryz.prog.cellsOf e := slices_full_of _ (by kernel_rfl)
theorem gname0 : Tryz.prog.globalNamed "modelcheck/inst.rows" = some 0 := by kernel_rfl
theorem gtype0 : (Tryz.prog.globals[0]?).map (·.type) = some 91 := by kernel_rfl
theorem gsok0 : (SOK Tryz.prog (.arr 22 (.pair .str (.pair (.arr 7 .bool) .unit)))).1 91 = true := by kernel_rfl
theorem gname1 : Tryz.prog.globalNamed "modelcheck/value.names" = some 1 := by kernel_rfl
theorem gtype1 : (Tryz.prog.globals[1]?).map (·.type) = some 129 := by kernel_rfl
theorem gsok1 : (SOK Tryz.prog (.arr 10 .str)).1 129 = true := by kernel_rfl
noncomputable def laidWorld (os : Os) : World :=
  { World.holding Tryz.prog os ⟨#[], #[], []⟩ with heap := (((World.holding Tryz.prog os ⟨#[], #[], []⟩).heap).modify 0 (lay #[.string ⟨#[99, 111, 110, 115, 116]⟩, .bool true, .bool false, .bool false, .bool false, .bool true, .bool false, .bool false, .string ⟨#[99, 111, 112, 121]⟩, .bool true, .bool true, .bool false, .bool false, .bool false, .bool false, .bool false, .string ⟨#[99, 97, 108, 99]⟩, .bool true, .bool true, .bool true, .bool false, .bool false, .bool true, .bool false, .string ⟨#[106, 117, 109, 112]⟩, .bool false, .bool false, .bool false, .bool false, .bool true, .bool false, .bool false, .string ⟨#[98, 114, 97, 110, 99, 104]⟩, .bool false, .bool true, .bool false, .bool false, .bool true, .bool false, .bool false, .string ⟨#[97, 115, 115, 101, 114, 116]⟩, .bool false, .bool true, .bool false, .bool false, .bool false, .bool false, .bool false, .string ⟨#[115, 116, 111, 112]⟩, .bool false, .bool false, .bool false, .bool false, .bool false, .bool false, .bool false, .string ⟨#[108, 111, 97, 100]⟩, .bool true, .bool false, .bool false, .bool true, .bool false, .bool false, .bool true, .string ⟨#[115, 116, 111, 114, 101]⟩, .bool false, .bool true, .bool false, .bool true, .bool false, .bool false, .bool true, .string ⟨#[115, 119, 97, 112]⟩, .bool true, .bool true, .bool false, .bool true, .bool false, .bool false, .bool true, .string ⟨#[102, 101, 116, 99, 104, 97, 100, 100]⟩, .bool true, .bool true, .bool false, .bool true, .bool false, .bool false, .bool true, .string ⟨#[99, 97, 115]⟩, .bool true, .bool true, .bool true, .bool true, .bool false, .bool false, .bool true, .string ⟨#[102, 101, 110, 99, 101]⟩, .bool false, .bool false, .bool false, .bool false, .bool false, .bool false, .bool false, .string ⟨#[97, 119, 97, 105, 116]⟩, .bool true, .bool true, .bool false, .bool true, .bool false, .bool true, .bool true, .string ⟨#[108, 111, 99, 107]⟩, .bool false, .bool false, .bool false, .bool true, .bool false, .bool false, .bool false, .string ⟨#[117, 110, 108, 111, 99, 107]⟩, .bool false, .bool false, .bool false, .bool true, .bool false, .bool false, .bool false, .string ⟨#[116, 114, 121, 108, 111, 99, 107]⟩, .bool true, .bool false, .bool false, .bool true, .bool false, .bool false, .bool false, .string ⟨#[119, 97, 105, 116]⟩, .bool false, .bool false, .bool false, .bool true, .bool true, .bool false, .bool false, .string ⟨#[115, 105, 103, 110, 97, 108]⟩, .bool false, .bool false, .bool false, .bool true, .bool false, .bool false, .bool false, .string ⟨#[98, 114, 111, 97, 100, 99, 97, 115, 116]⟩, .bool false, .bool false, .bool false, .bool true, .bool false, .bool false, .bool false, .string ⟨#[115, 112, 97, 119, 110]⟩, .bool true, .bool true, .bool false, .bool true, .bool false, .bool false, .bool false, .string ⟨#[106, 111, 105, 110]⟩, .bool false, .bool true, .bool false, .bool false, .bool false, .bool false, .bool false])).modify 1 (lay #[.string ⟨#[97, 100, 100]⟩, .string ⟨#[115, 117, 98]⟩, .string ⟨#[109, 117, 108]⟩, .string ⟨#[97, 110, 100]⟩, .string ⟨#[111, 114]⟩, .string ⟨#[120, 111, 114]⟩, .string ⟨#[101, 113]⟩, .string ⟨#[110, 101]⟩, .string ⟨#[108, 116]⟩, .string ⟨#[108, 101]⟩]) }
theorem i64_of {n : Int} (h : (Lit.int .i64 n).wf = true) : -9223372036854775808 ≤ n ∧ n ≤ 9223372036854775807 := by
  simp [Lit.wf, IntKind.min, IntKind.max, IntKind.signed, IntKind.bits] at h; omega
namespace threadNewsL
theorem globs {W : World} (hL : laidMetH Tryz.prog Rows.threadNewsRow.laid W) : GlobOK gd0 (FH.all W) := by
  intro g p hp
  unfold gd0 at hp
  split at hp
  · cases hp; exact glob_open hL (by kernel_rfl) (n := "modelcheck/inst.rows") (D := Rows.laid_modelcheck_inst_rows) (by simp [Rows.threadNewsRow]) gname0 gtype0 gsok0 (by kernel_rfl)
  · cases hp; exact glob_open hL (by kernel_rfl) (n := "modelcheck/value.names") (D := Rows.laid_modelcheck_value_names) (by simp [Rows.threadNewsRow]) gname1 gtype1 gsok1 (by kernel_rfl)
  · cases hp
theorem laid_met (os : Os) : laidMet Tryz.prog Rows.threadNewsRow.laid ((laidWorld os).forCall (fun _ _ => 0) ⟨#[], #[.agg #[.slice none 0 0, .slice none 0 0, .slice none 0 0, .slice none 0 0, .slice none 0 0, .int .i64 0, .int .i64 0, .int .i64 0, .int .i64 0]], []⟩).memory :=
  laidMet_of_run' 20 (by kernel_rfl) (by kernel_rfl)
theorem reads (os : Os) {H : Type} (enc : TypeId × Value → H) : ∃ places, DataW.whole enc Tryz.prog ((laidWorld os).forCall (fun _ _ => 0) ⟨#[], #[.agg #[.slice none 0 0, .slice none 0 0, .slice none 0 0, .slice none 0 0, .slice none 0 0, .int .i64 0, .int .i64 0, .int .i64 0, .int .i64 0]], []⟩).memory Tryz.f3.params.toList Rows.threadNewsSpec.vars false (#[.agg #[.slice none 0 0, .slice none 0 0, .slice none 0 0, .slice none 0 0, .slice none 0 0, .int .i64 0, .int .i64 0, .int .i64 0, .int .i64 0]] : Array Value).toList 20 = some ([.agg [.agg [.nil, .nil, .nil, .nil, .nil], .lit (.int .i64 0), .lit (.int .i64 0), .lit (.int .i64 0), .lit (.int .i64 0)]], [], places) :=
  ⟨[], by kernel_rfl⟩
theorem lifted (os : Os) (started : os.Started) (H : Type) (enc : TypeId × Value → H) (F : Stop.Interp) :
    ReturnsInHanded {} Tryz.checked os 3 .any ((OpenSpec.ofChange Rows.threadNewsSpec).preRow enc Tryz.prog Tryz.f3 Rows.threadNewsRow.domain false Rows.threadNewsRow.laid) (((OpenSpec.ofChange Rows.threadNewsSpec).at F).post enc Tryz.prog Tryz.f3 false true false false) := by
  obtain ⟨places, hx⟩ := reads os enc
  refine returnsInHanded_of_row (C := Tryz.checked) (s := OpenSpec.ofChange Rows.threadNewsSpec) own started (by kernel_rfl) Tryz.func3
    (witness_row_at (enc := enc) (C := Tryz.checked) false (laidWorld os) #[.agg #[.slice none 0 0, .slice none 0 0, .slice none 0 0, .slice none 0 0, .slice none 0 0, .int .i64 0, .int .i64 0, .int .i64 0, .int .i64 0]] rfl (by kernel_rfl) (by kernel_rfl) (by kernel_rfl)
      (OpenSpec.preRow_of_cond 20 hx (by kernel_rfl) (fun k hk => by cases hk) (by kernel_rfl) (laid_met os))) ?_
  intro W base args ds gs before hval hW _ hcond hwt hL _ _
  refine call_true (fn := Tryz.f3) f3_met laidOut rowed full (by decide +kernel) (t := 4) (by kernel_rfl) (by kernel_rfl) rfl (by kernel_rfl) (fun _ => rfl) (fun d hd hwf => ?_) hval hW (globs hL)
  match ds, rdats_len hd with
  | [d0], _ => exact ⟨rfl, by exact (i64_of hwf.1.2.2.1).2⟩
theorem said : Rows.ThreadNewsSaid :=
  OpenClaim.holds_of_cond 3 Tryz.f3 rfl rfl rfl rfl rfl rfl rfl ⟨rfl, rfl, rfl, rfl, rfl⟩ rfl rfl rfl rfl rfl (by kernel_rfl) Tryz.func3 (by kernel_rfl)
    (of_decide_eq_true (by kernel_rfl)) (by unfold Func.isWrapper; first | (rw [if_pos (by decide +kernel)]; kernel_rfl) | (rw [if_neg (by decide +kernel)]; exact ⟨rfl, rfl⟩))
    (fun os started H enc _ F => by rw [OpenClaim.pre_eq_preRow]; exact lifted os started H enc F)
theorem plain (f : FuncId) (fn : Func) (hf : Tryz.pinned.checked.prog.funcNamed "modelcheck/modelchecklaw20.ThreadNews" = some f) (hfn : Tryz.pinned.checked.prog.funcs[f]? = some fn) :
    false = Tryz.pinned.checked.prog.looks [] ∧ ∀ (j : Nat) t, fn.params[j]? = some t → Tryz.pinned.checked.prog.wantsStandIn t = false := by
  obtain rfl : f = 3 := Option.some.inj ((show Tryz.prog.funcNamed "modelcheck/modelchecklaw20.ThreadNews" = some 3 by kernel_rfl).symm.trans hf) |>.symm
  obtain rfl : fn = Tryz.f3 := (Option.some.inj (Tryz.func3.symm.trans hfn)).symm
  refine ⟨by kernel_rfl, fun j t ht => ?_⟩
  have hm : t ∈ Tryz.f3.params.toList := List.mem_of_getElem? (by simpa using ht)
  have key : ∀ t ∈ Tryz.f3.params.toList, Tryz.prog.wantsStandIn t = false := by decide +kernel
  exact key t hm
theorem card : Rows.ThreadNewsCardSaid :=
  Claim7.holds_tied_plain_at .later [] _ _ _ _ said (fun _ h => by cases h) (by kernel_rfl) (fun _ h => by cases h) threadNews_row_tie rfl ⟨rfl, rfl⟩ (by kernel_rfl) rfl plain (by kernel_rfl)
end threadNewsL
namespace threadValidsL
theorem globs {W : World} (hL : laidMetH Tryz.prog Rows.threadValidsRow.laid W) : GlobOK gd0 (FH.all W) := by
  intro g p hp
  unfold gd0 at hp
  split at hp
  · cases hp; exact glob_open hL (by kernel_rfl) (n := "modelcheck/inst.rows") (D := Rows.laid_modelcheck_inst_rows) (by simp [Rows.threadValidsRow]) gname0 gtype0 gsok0 (by kernel_rfl)
  · cases hp; exact glob_open hL (by kernel_rfl) (n := "modelcheck/value.names") (D := Rows.laid_modelcheck_value_names) (by simp [Rows.threadValidsRow]) gname1 gtype1 gsok1 (by kernel_rfl)
  · cases hp
theorem laid_met (os : Os) : laidMet Tryz.prog Rows.threadValidsRow.laid ((laidWorld os).forCall (fun _ _ => 0) ⟨#[], #[.agg #[.slice none 0 0, .slice none 0 0, .slice none 0 0, .slice none 0 0, .slice none 0 0, .int .i64 0, .int .i64 0, .int .i64 0, .int .i64 0, .int .i64 0, .int .i64 0, .int .i64 0, .int .i64 0, .int .i64 0, .int .i64 0, .int .i64 0, .int .i64 0, .int .i64 0, .int .i64 0, .int .i64 0, .int .i64 0, .int .i64 0, .int .i64 0, .slice none 0 0]], []⟩).memory :=
  laidMet_of_run' 20 (by kernel_rfl) (by kernel_rfl)
theorem reads (os : Os) {H : Type} (enc : TypeId × Value → H) : ∃ places, DataW.whole enc Tryz.prog ((laidWorld os).forCall (fun _ _ => 0) ⟨#[], #[.agg #[.slice none 0 0, .slice none 0 0, .slice none 0 0, .slice none 0 0, .slice none 0 0, .int .i64 0, .int .i64 0, .int .i64 0, .int .i64 0, .int .i64 0, .int .i64 0, .int .i64 0, .int .i64 0, .int .i64 0, .int .i64 0, .int .i64 0, .int .i64 0, .int .i64 0, .int .i64 0, .int .i64 0, .int .i64 0, .int .i64 0, .int .i64 0, .slice none 0 0]], []⟩).memory Tryz.f5.params.toList Rows.threadValidsSpec.vars false (#[.agg #[.slice none 0 0, .slice none 0 0, .slice none 0 0, .slice none 0 0, .slice none 0 0, .int .i64 0, .int .i64 0, .int .i64 0, .int .i64 0, .int .i64 0, .int .i64 0, .int .i64 0, .int .i64 0, .int .i64 0, .int .i64 0, .int .i64 0, .int .i64 0, .int .i64 0, .int .i64 0, .int .i64 0, .int .i64 0, .int .i64 0, .int .i64 0, .slice none 0 0]] : Array Value).toList 20 = some ([.agg [.agg [.nil, .nil, .nil, .nil, .nil], .lit (.int .i64 0), .lit (.int .i64 0), .agg [.lit (.int .i64 0), .lit (.int .i64 0), .lit (.int .i64 0), .agg [.lit (.int .i64 0), .lit (.int .i64 0), .lit (.int .i64 0), .lit (.int .i64 0), .lit (.int .i64 0), .lit (.int .i64 0), .lit (.int .i64 0), .lit (.int .i64 0)], .lit (.int .i64 0), .lit (.int .i64 0), .lit (.int .i64 0), .lit (.int .i64 0), .lit (.int .i64 0), .nil]]], [], places) :=
  ⟨[], by kernel_rfl⟩
theorem lifted (os : Os) (started : os.Started) (H : Type) (enc : TypeId × Value → H) (F : Stop.Interp) :
    ReturnsInHanded {} Tryz.checked os 5 .any ((OpenSpec.ofChange Rows.threadValidsSpec).preRow enc Tryz.prog Tryz.f5 Rows.threadValidsRow.domain false Rows.threadValidsRow.laid) (((OpenSpec.ofChange Rows.threadValidsSpec).at F).post enc Tryz.prog Tryz.f5 false true false false) := by
  obtain ⟨places, hx⟩ := reads os enc
  refine returnsInHanded_of_row (C := Tryz.checked) (s := OpenSpec.ofChange Rows.threadValidsSpec) own started (by kernel_rfl) Tryz.func5
    (witness_row_at (enc := enc) (C := Tryz.checked) false (laidWorld os) #[.agg #[.slice none 0 0, .slice none 0 0, .slice none 0 0, .slice none 0 0, .slice none 0 0, .int .i64 0, .int .i64 0, .int .i64 0, .int .i64 0, .int .i64 0, .int .i64 0, .int .i64 0, .int .i64 0, .int .i64 0, .int .i64 0, .int .i64 0, .int .i64 0, .int .i64 0, .int .i64 0, .int .i64 0, .int .i64 0, .int .i64 0, .int .i64 0, .slice none 0 0]] rfl (by kernel_rfl) (by kernel_rfl) (by kernel_rfl)
      (OpenSpec.preRow_of_cond 20 hx (by kernel_rfl) (fun k hk => by cases hk) (by kernel_rfl) (laid_met os))) ?_
  intro W base args ds gs before hval hW _ hcond hwt hL _ _
  refine call_true (fn := Tryz.f5) f5_met laidOut rowed full (by decide +kernel) (t := 4) (by kernel_rfl) (by kernel_rfl) rfl (by kernel_rfl) (fun _ => rfl) (fun d hd hwf => ?_) hval hW (globs hL)
  match ds, rdats_len hd with
  | [d0], _ => exact ⟨rfl, by exact ⟨(i64_of hwf.1.2.2.2.1.1).2, hwf.1.2.2.2.1.2.2.2.1.1⟩⟩
theorem said : Rows.ThreadValidsSaid :=
  OpenClaim.holds_of_cond 5 Tryz.f5 rfl rfl rfl rfl rfl rfl rfl ⟨rfl, rfl, rfl, rfl, rfl⟩ rfl rfl rfl rfl rfl (by kernel_rfl) Tryz.func5 (by kernel_rfl)
    (of_decide_eq_true (by kernel_rfl)) (by unfold Func.isWrapper; first | (rw [if_pos (by decide +kernel)]; kernel_rfl) | (rw [if_neg (by decide +kernel)]; exact ⟨rfl, rfl⟩))
    (fun os started H enc _ F => by rw [OpenClaim.pre_eq_preRow]; exact lifted os started H enc F)
theorem plain (f : FuncId) (fn : Func) (hf : Tryz.pinned.checked.prog.funcNamed "modelcheck/modelchecklaw20.ThreadValids" = some f) (hfn : Tryz.pinned.checked.prog.funcs[f]? = some fn) :
    false = Tryz.pinned.checked.prog.looks [] ∧ ∀ (j : Nat) t, fn.params[j]? = some t → Tryz.pinned.checked.prog.wantsStandIn t = false := by
  obtain rfl : f = 5 := Option.some.inj ((show Tryz.prog.funcNamed "modelcheck/modelchecklaw20.ThreadValids" = some 5 by kernel_rfl).symm.trans hf) |>.symm
  obtain rfl : fn = Tryz.f5 := (Option.some.inj (Tryz.func5.symm.trans hfn)).symm
  refine ⟨by kernel_rfl, fun j t ht => ?_⟩
  have hm : t ∈ Tryz.f5.params.toList := List.mem_of_getElem? (by simpa using ht)
  have key : ∀ t ∈ Tryz.f5.params.toList, Tryz.prog.wantsStandIn t = false := by decide +kernel
  exact key t hm
theorem card : Rows.ThreadValidsCardSaid :=
  Claim7.holds_tied_plain_at .later [] _ _ _ _ said (fun _ h => by cases h) (by kernel_rfl) (fun _ h => by cases h) threadValids_row_tie rfl ⟨rfl, rfl⟩ (by kernel_rfl) rfl plain (by kernel_rfl)
end threadValidsL
end Go.Proofs.YtklnffdjhoacoaaGreatDoor
