/- The contracts of the Inst chapter: data and what the functions give. -/
import Derived.Test.YtpkccknamoldeaaDoorPT1
set_option linter.unusedSimpArgs false
set_option linter.unusedVariables false
set_option maxRecDepth 100000
namespace Go.Proofs.YtpkccknamoldeaaDoor
open Go Go.Eng

def mnsD : List ByteArray := [⟨#[99, 111, 110, 115, 116]⟩, ⟨#[99, 111, 112, 121]⟩, ⟨#[99, 97, 108, 99]⟩, ⟨#[106, 117, 109, 112]⟩, ⟨#[98, 114, 97, 110, 99, 104]⟩, ⟨#[97, 115, 115, 101, 114, 116]⟩, ⟨#[115, 116, 111, 112]⟩, ⟨#[108, 111, 97, 100]⟩, ⟨#[115, 116, 111, 114, 101]⟩, ⟨#[115, 119, 97, 112]⟩, ⟨#[102, 101, 116, 99, 104, 97, 100, 100]⟩, ⟨#[99, 97, 115]⟩, ⟨#[102, 101, 110, 99, 101]⟩, ⟨#[97, 119, 97, 105, 116]⟩, ⟨#[108, 111, 99, 107]⟩, ⟨#[117, 110, 108, 111, 99, 107]⟩, ⟨#[116, 114, 121, 108, 111, 99, 107]⟩, ⟨#[119, 97, 105, 116]⟩, ⟨#[115, 105, 103, 110, 97, 108]⟩, ⟨#[98, 114, 111, 97, 100, 99, 97, 115, 116]⟩, ⟨#[115, 112, 97, 119, 110]⟩, ⟨#[106, 111, 105, 110]⟩]
def useT : List (List Bool) := [[true, false, false, false, true, false, false], [true, true, false, false, false, false, false], [true, true, true, false, false, true, false], [false, false, false, false, true, false, false], [false, true, false, false, true, false, false], [false, true, false, false, false, false, false], [false, false, false, false, false, false, false], [true, false, false, true, false, false, true], [false, true, false, true, false, false, true], [true, true, false, true, false, false, true], [true, true, false, true, false, false, true], [true, true, true, true, false, false, true], [false, false, false, false, false, false, false], [true, true, false, true, false, true, true], [false, false, false, true, false, false, false], [false, false, false, true, false, false, false], [true, false, false, true, false, false, false], [false, false, false, true, true, false, false], [false, false, false, true, false, false, false], [false, false, false, true, false, false, false], [true, true, false, true, false, false, false], [false, true, false, false, false, false, false]]
def fieldsD : List ByteArray := [⟨#[65, 78]⟩, ⟨#[65, 66]⟩, ⟨#[70, 65, 66, 67]⟩, ⟨#[78]⟩, ⟨#[66, 78]⟩, ⟨#[66]⟩, ⟨#[]⟩, ⟨#[65, 79, 82]⟩, ⟨#[79, 66, 82]⟩, ⟨#[65, 79, 66, 82]⟩, ⟨#[65, 79, 66, 82]⟩, ⟨#[65, 79, 66, 67, 82]⟩, ⟨#[]⟩, ⟨#[65, 79, 70, 66, 82]⟩, ⟨#[79]⟩, ⟨#[79]⟩, ⟨#[65, 79]⟩, ⟨#[79, 78]⟩, ⟨#[79]⟩, ⟨#[79]⟩, ⟨#[65, 79, 66]⟩, ⟨#[66]⟩]
def ordersD : List ByteArray := [⟨#[112, 108, 97, 105, 110]⟩, ⟨#[114, 101, 108, 97, 120, 101, 100]⟩, ⟨#[114, 101, 108, 97, 99, 113]⟩]
def namesD : List ByteArray := [⟨#[97, 100, 100]⟩, ⟨#[115, 117, 98]⟩, ⟨#[109, 117, 108]⟩, ⟨#[97, 110, 100]⟩, ⟨#[111, 114]⟩, ⟨#[120, 111, 114]⟩, ⟨#[101, 113]⟩, ⟨#[110, 101]⟩, ⟨#[108, 116]⟩, ⟨#[108, 101]⟩]
def rowsD : List (ByteArray × List Bool × Unit) := [(⟨#[99, 111, 110, 115, 116]⟩, [true, false, false, false, true, false, false], ()), (⟨#[99, 111, 112, 121]⟩, [true, true, false, false, false, false, false], ()), (⟨#[99, 97, 108, 99]⟩, [true, true, true, false, false, true, false], ()), (⟨#[106, 117, 109, 112]⟩, [false, false, false, false, true, false, false], ()), (⟨#[98, 114, 97, 110, 99, 104]⟩, [false, true, false, false, true, false, false], ()), (⟨#[97, 115, 115, 101, 114, 116]⟩, [false, true, false, false, false, false, false], ()), (⟨#[115, 116, 111, 112]⟩, [false, false, false, false, false, false, false], ()), (⟨#[108, 111, 97, 100]⟩, [true, false, false, true, false, false, true], ()), (⟨#[115, 116, 111, 114, 101]⟩, [false, true, false, true, false, false, true], ()), (⟨#[115, 119, 97, 112]⟩, [true, true, false, true, false, false, true], ()), (⟨#[102, 101, 116, 99, 104, 97, 100, 100]⟩, [true, true, false, true, false, false, true], ()), (⟨#[99, 97, 115]⟩, [true, true, true, true, false, false, true], ()), (⟨#[102, 101, 110, 99, 101]⟩, [false, false, false, false, false, false, false], ()), (⟨#[97, 119, 97, 105, 116]⟩, [true, true, false, true, false, true, true], ()), (⟨#[108, 111, 99, 107]⟩, [false, false, false, true, false, false, false], ()), (⟨#[117, 110, 108, 111, 99, 107]⟩, [false, false, false, true, false, false, false], ()), (⟨#[116, 114, 121, 108, 111, 99, 107]⟩, [true, false, false, true, false, false, false], ()), (⟨#[119, 97, 105, 116]⟩, [false, false, false, true, true, false, false], ()), (⟨#[115, 105, 103, 110, 97, 108]⟩, [false, false, false, true, false, false, false], ()), (⟨#[98, 114, 111, 97, 100, 99, 97, 115, 116]⟩, [false, false, false, true, false, false, false], ()), (⟨#[115, 112, 97, 119, 110]⟩, [true, true, false, true, false, false, false], ()), (⟨#[106, 111, 105, 110]⟩, [false, true, false, false, false, false, false], ())]
@[reducible] def gd0 : Nat → Option (Sigma Sh.den) := fun g => match g with
  | 0 => some ⟨.arr 22 (.pair .str (.pair (.arr 7 .bool) .unit)), rowsD⟩
  | 2 => some ⟨.arr 10 .str, namesD⟩
  | _ => none
@[reducible] def cx0 : Cx := { ti := tis, gd := gd0 }
@[reducible] def gd1 : Nat → Option (Sigma Sh.den) := fun g => match g with
  | 0 => some ⟨.arr 22 (.pair .str (.pair (.arr 7 .bool) .unit)), rowsD⟩
  | 1 => some ⟨.arr 3 .str, ordersD⟩
  | 2 => some ⟨.arr 10 .str, namesD⟩
  | _ => none
@[reducible] def cx1 : Cx := { ti := tis, gd := gd1 }
/-- With more package variables known. -/
theorem up {f : Nat} {c : CT} (h : Go.Eng.Met Tryd.prog gd0 f c) : Go.Eng.Met Tryd.prog gd1 f c := h.more fun g p e => by
  unfold gd0 at e
  split at e
  · cases e; rfl
  · cases e; rfl
  · cases e

@[reducible] def shI : Sh := .pair (.int .i64) (.pair (.int .i64) (.pair (.int .i64) (.pair (.int .i64) (.pair (.int .i64) (.pair (.int .i64) (.pair (.int .i64) (.pair (.int .i64) .unit)))))))
@[reducible] def aggI (op a b c obj n fn ord : Int) : SV := .agg [.v (.int .i64 op), .v (.int .i64 a), .v (.int .i64 b), .v (.int .i64 c), .v (.int .i64 obj), .v (.int .i64 n), .v (.int .i64 fn), .v (.int .i64 ord)]

/-- Whether an operation uses its field k. -/
def use (op : Int) (k : Nat) : Bool := decide (1 ≤ op) && decide (op ≤ 22) && (useT.getD (op - 1).toNat []).getD k false
def knownS (op : Int) : Bool := decide (1 ≤ op) && decide (op ≤ 22)
def nameS (f : Int) : ByteArray := if 1 ≤ f ∧ f ≤ 10 then namesD.getD (f - 1).toNat ByteArray.empty else ByteArray.empty
def mnS (op : Int) : ByteArray := if 1 ≤ op ∧ op ≤ 22 then mnsD.getD (op - 1).toNat ByteArray.empty else ByteArray.empty
def ordS (o : Int) : ByteArray := if 0 ≤ o ∧ o ≤ 2 then ordersD.getD o.toNat ByteArray.empty else ByteArray.empty
end Go.Proofs.YtpkccknamoldeaaDoor
