/- Texts of this claim, part 7: L3. Conditions: those of the given rows. -/
import Derived.Test.YtpfdgbddpdngbaaDoorB6
import Derived.Test.YtpfdgbddpdngbaaDoorCards
import Derived.Test.YtpfdgbddpdngbaaDoorTie
import Derived.WalkKit
import Derived.ProofKit
import Derived.OpenShut
import Derived.Deep.DeepHandedRow
import Derived.Lib.LaidTab
set_option linter.unusedSimpArgs false
set_option linter.unusedVariables false
set_option maxRecDepth 1000000
namespace Go.Proofs.YtpfdgbddpdngbaaDoor
open Go Go.Eng Go.ChangeShapes Go.WideShapes Go.ChangeAt Go.RowKit
theorem own : ownKnob Tryd.prog.godebug = none := by kernel_rfl
theorem laidOut : laidOutB Tryd.prog = true := by kernel_rfl
theorem rowed : mapsRowed Tryd.prog = true := by kernel_rfl
theorem full : ∀ t e, t < Tryd.prog.types.size → Tryd.prog.underlying t = some (.slice e) → 0 < Tryd.prog.cellsOf e := slices_full_of _ (by kernel_rfl)
theorem gname0 : Tryd.prog.globalNamed "modelcheck/inst.rows" = some 0 := by kernel_rfl
theorem gtype0 : (Tryd.prog.globals[0]?).map (·.type) = some 81 := by kernel_rfl
theorem gsok0 : (SOK Tryd.prog (.arr 22 (.pair .str (.pair (.arr 7 .bool) .unit)))).1 81 = true := by kernel_rfl
theorem gname1 : Tryd.prog.globalNamed "modelcheck/value.names" = some 1 := by kernel_rfl
theorem gtype1 : (Tryd.prog.globals[1]?).map (·.type) = some 93 := by kernel_rfl
theorem gsok1 : (SOK Tryd.prog (.arr 10 .str)).1 93 = true := by kernel_rfl
noncomputable def laidWorld (os : Os) : World :=
  { World.holding Tryd.prog os ⟨#[], #[], []⟩ with heap := (((World.holding Tryd.prog os ⟨#[], #[], []⟩).heap).modify 0 (lay #[.string ⟨#[99, 111, 110, 115, 116]⟩, .bool true, .bool false, .bool false, .bool false, .bool true, .bool false, .bool false, .string ⟨#[99, 111, 112, 121]⟩, .bool true, .bool true, .bool false, .bool false, .bool false, .bool false, .bool false, .string ⟨#[99, 97, 108, 99]⟩, .bool true, .bool true, .bool true, .bool false, .bool false, .bool true, .bool false, .string ⟨#[106, 117, 109, 112]⟩, .bool false, .bool false, .bool false, .bool false, .bool true, .bool false, .bool false, .string ⟨#[98, 114, 97, 110, 99, 104]⟩, .bool false, .bool true, .bool false, .bool false, .bool true, .bool false, .bool false, .string ⟨#[97, 115, 115, 101, 114, 116]⟩, .bool false, .bool true, .bool false, .bool false, .bool false, .bool false, .bool false, .string ⟨#[115, 116, 111, 112]⟩, .bool false, .bool false, .bool false, .bool false, .bool false, .bool false, .bool false, .string ⟨#[108, 111, 97, 100]⟩, .bool true, .bool false, .bool false, .bool true, .bool false, .bool false, .bool true, .string ⟨#[115, 116, 111, 114, 101]⟩, .bool false, .bool true, .bool false, .bool true, .bool false, .bool false, .bool true, .string ⟨#[115, 119, 97, 112]⟩, .bool true, .bool true, .bool false, .bool true, .bool false, .bool false, .bool true, .string ⟨#[102, 101, 116, 99, 104, 97, 100, 100]⟩, .bool true, .bool true, .bool false, .bool true, .bool false, .bool false, .bool true, .string ⟨#[99, 97, 115]⟩, .bool true, .bool true, .bool true, .bool true, .bool false, .bool false, .bool true, .string ⟨#[102, 101, 110, 99, 101]⟩, .bool false, .bool false, .bool false, .bool false, .bool false, .bool false, .bool false, .string ⟨#[97, 119, 97, 105, 116]⟩, .bool true, .bool true, .bool false, .bool true, .bool false, .bool true, .bool true, .string ⟨#[108, 111, 99, 107]⟩, .bool false, .bool false, .bool false, .bool true, .bool false, .bool false, .bool false, .string ⟨#[117, 110, 108, 111, 99, 107]⟩, .bool false, .bool false, .bool false, .bool true, .bool false, .bool false, .bool false, .string ⟨#[116, 114, 121, 108, 111, 99, 107]⟩, .bool true, .bool false, .bool false, .bool true, .bool false, .bool false, .bool false, .string ⟨#[119, 97, 105, 116]⟩, .bool false, .bool false, .bool false, .bool true, .bool true, .bool false, .bool false, .string ⟨#[115, 105, 103, 110, 97, 108]⟩, .bool false, .bool false, .bool false, .bool true, .bool false, .bool false, .bool false, .string ⟨#[98, 114, 111, 97, 100, 99, 97, 115, 116]⟩, .bool false, .bool false, .bool false, .bool true, .bool false, .bool false, .bool false, .string ⟨#[115, 112, 97, 119, 110]⟩, .bool true, .bool true, .bool false, .bool true, .bool false, .bool false, .bool false, .string ⟨#[106, 111, 105, 110]⟩, .bool false, .bool true, .bool false, .bool false, .bool false, .bool false, .bool false])).modify 1 (lay #[.string ⟨#[97, 100, 100]⟩, .string ⟨#[115, 117, 98]⟩, .string ⟨#[109, 117, 108]⟩, .string ⟨#[97, 110, 100]⟩, .string ⟨#[111, 114]⟩, .string ⟨#[120, 111, 114]⟩, .string ⟨#[101, 113]⟩, .string ⟨#[110, 101]⟩, .string ⟨#[108, 116]⟩, .string ⟨#[108, 101]⟩]) }
theorem u8_of {n : Int} (h : (Lit.int .u8 n).wf = true) : 0 ≤ n ∧ n ≤ 255 := by
  simp [Lit.wf, IntKind.min, IntKind.max, IntKind.signed, IntKind.bits] at h; omega
namespace livenessRenameL
theorem globs {W : World} (hL : laidMetH Tryd.prog Rows.livenessRenameRow.laid W) : GlobOK gd0 (FH.all W) := by
  intro g p hp
  unfold gd0 at hp
  split at hp
  · cases hp; exact glob_open hL (by kernel_rfl) (n := "modelcheck/inst.rows") (D := Rows.laid_modelcheck_inst_rows) (by simp [Rows.livenessRenameRow]) gname0 gtype0 gsok0 (by kernel_rfl)
  · cases hp; exact glob_open hL (by kernel_rfl) (n := "modelcheck/value.names") (D := Rows.laid_modelcheck_value_names) (by simp [Rows.livenessRenameRow]) gname1 gtype1 gsok1 (by kernel_rfl)
  · cases hp
theorem laid_met (os : Os) : laidMet Tryd.prog Rows.livenessRenameRow.laid ((laidWorld os).forCall (fun _ _ => 0) ⟨#[], #[.agg #[.string ⟨#[]⟩, .slice none 0 0], .int .u8 0], []⟩).memory :=
  laidMet_of_run' 20 (by kernel_rfl) (by kernel_rfl)
theorem reads (os : Os) {H : Type} (enc : TypeId × Value → H) : ∃ places, DataW.whole enc Tryd.prog ((laidWorld os).forCall (fun _ _ => 0) ⟨#[], #[.agg #[.string ⟨#[]⟩, .slice none 0 0], .int .u8 0], []⟩).memory Tryd.f7.params.toList Rows.livenessRenameSpec.vars false (#[.agg #[.string ⟨#[]⟩, .slice none 0 0], .int .u8 0] : Array Value).toList 20 = some ([.agg [.lit (.string []), .nil], .lit (.int .u8 0)], [], places) :=
  ⟨[], by kernel_rfl⟩
theorem lifted (os : Os) (started : os.Started) (H : Type) (enc : TypeId × Value → H) (F : Stop.Interp) :
    ReturnsInHanded {} Tryd.checked os 7 .any ((OpenSpec.ofChange Rows.livenessRenameSpec).preRow enc Tryd.prog Tryd.f7 Rows.livenessRenameRow.domain false Rows.livenessRenameRow.laid) (((OpenSpec.ofChange Rows.livenessRenameSpec).at F).post enc Tryd.prog Tryd.f7 false true false false) := by
  obtain ⟨places, hx⟩ := reads os enc
  refine returnsInHanded_of_row (C := Tryd.checked) (s := OpenSpec.ofChange Rows.livenessRenameSpec) own started (by kernel_rfl) Tryd.func7
    (witness_row_at (enc := enc) (C := Tryd.checked) false (laidWorld os) #[.agg #[.string ⟨#[]⟩, .slice none 0 0], .int .u8 0] rfl (by kernel_rfl) (by kernel_rfl) (by kernel_rfl)
      (OpenSpec.preRow_of_cond 20 hx (by kernel_rfl) (fun k hk => by cases hk) (by kernel_rfl) (laid_met os))) ?_
  intro W base args ds gs before hval hW _ hcond hwt hL _ _
  refine call_true (fn := Tryd.f7) f7_met laidOut rowed full (by decide +kernel) (t := 4) (by kernel_rfl) (by kernel_rfl) rfl (by kernel_rfl) (fun _ => rfl) (fun d hd hwf => ?_) hval hW (globs hL)
  match ds, rdats_len hd with
  | [d0, d1], _ => exact ⟨rfl, by exact u8_of hwf.2.1⟩
theorem said : Rows.LivenessRenameSaid :=
  OpenClaim.holds_of_cond 7 Tryd.f7 rfl rfl rfl rfl rfl rfl rfl ⟨rfl, rfl, rfl, rfl, rfl⟩ rfl rfl rfl rfl rfl (by kernel_rfl) Tryd.func7 (by kernel_rfl)
    (of_decide_eq_true (by kernel_rfl)) (by unfold Func.isWrapper; first | (rw [if_pos (by decide +kernel)]; kernel_rfl) | (rw [if_neg (by decide +kernel)]; exact ⟨rfl, rfl⟩))
    (fun os started H enc _ F => by rw [OpenClaim.pre_eq_preRow]; exact lifted os started H enc F)
theorem plain (f : FuncId) (fn : Func) (hf : Tryd.pinned.checked.prog.funcNamed "modelcheck/modelchecklaw13.LivenessRename" = some f) (hfn : Tryd.pinned.checked.prog.funcs[f]? = some fn) :
    false = Tryd.pinned.checked.prog.looks [] ∧ ∀ (j : Nat) t, fn.params[j]? = some t → Tryd.pinned.checked.prog.wantsStandIn t = false := by
  obtain rfl : f = 7 := Option.some.inj ((show Tryd.prog.funcNamed "modelcheck/modelchecklaw13.LivenessRename" = some 7 by kernel_rfl).symm.trans hf) |>.symm
  obtain rfl : fn = Tryd.f7 := (Option.some.inj (Tryd.func7.symm.trans hfn)).symm
  refine ⟨by kernel_rfl, fun j t ht => ?_⟩
  have hm : t ∈ Tryd.f7.params.toList := List.mem_of_getElem? (by simpa using ht)
  have key : ∀ t ∈ Tryd.f7.params.toList, Tryd.prog.wantsStandIn t = false := by decide +kernel
  exact key t hm
theorem card : Rows.LivenessRenameCardSaid :=
  Claim7.holds_tied_plain_at .later [] _ _ _ _ said (fun _ h => by cases h) (by kernel_rfl) (fun _ h => by cases h) livenessRename_row_tie rfl ⟨rfl, rfl⟩ (by kernel_rfl) rfl plain (by kernel_rfl)
end livenessRenameL
end Go.Proofs.YtpfdgbddpdngbaaDoor
